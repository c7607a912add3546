/- Functions evaluated on the small machine: What is done to a node: what the reference makes, second part, Who copies to whom: what the reference says, Messages that are right, and to whom they go: what the reference says. -/
import Derived.Test.YtbolhfegdocpeaaGreatEv11
namespace Go.Proofs.YtbolhfegdocpeaaGreat.Ow
open Go
set_option linter.unusedVariables false
set_option linter.unusedSimpArgs false
set_option maxHeartbeats 4000000
variable {PK:Nat->List Arg->Option Res}
structure nB (n:AG):Prop where
 image:n.image.length<=1000
 gens:n.mt.gens.length<=1000
 bits:n.mt.bits.length=3
 bit: ∀x∈n.mt.bits,x.length<=900
 sl:slS n.sl
 conn:n.conn.length=3
 sync:n.sync.length=3
 syn: ∀x∈n.sync,x.length<=1000
 copies:n.copies.length=3
 wait:n.wait.length<=1000
theorem nB.mt {n:AG} (h:nB n):mtS n.mt:=⟨by have:=h.gens;omega,by have:=h.bits;omega,fun x hx=>by have:=h.bit x hx;omega⟩
theorem nB.nS {n:AG} (h:nB n):nS n:=⟨by have:=h.image;omega,h.mt,h.sl,by have:=h.conn;omega,⟨by have:=h.sync;omega,fun x hx=>by have:=h.syn x hx;omega⟩,by have:=h.copies;omega,by have:=h.wait;omega⟩
theorem Oo {a b:Int} {l:List Int} (h:Af (Cr a b l) l.length=true):(l.length:Int)<=b - a+1\/l.length=0:=by
 have key: ∀j,j<l.length->a+j<=l.getD j 0:=by
  intro j
  induction j with
  |zero=>
   intro hj;have:=Ar h hj;unfold Cr at this;simp only[Bool.and_eq_true]at this;have:=Ab.1 this.1;omega
  |succ j ih=>
   intro hj;have h1:=ih (by omega);have:=Ar h hj;unfold Cr at this;simp only[Bool.and_eq_true,Bool.or_eq_true,decide_eq_true_iff]at this;have h2:=this.2;simp only[Nat.add_sub_cancel]at h2;rcases h2 with h2|h2
   ·omega
   ·omega
 rcases Nat.eq_zero_or_pos l.length with h0|h0
 ·exact .inr h0
 ·left;have h1:=key (l.length - 1) (by omega);have:=Ar h (j:=l.length - 1) (by omega);unfold Cr at this;simp only[Bool.and_eq_true]at this;have:=Ab.1 this.1;omega
theorem NOk.bits3 {n:AG} (h:NOk n):n.mt.bits.length=3:=by
 have:=h.mt;unfold BP at this;simp only[Bool.and_eq_true,beq_iff_eq]at this;omega
theorem NOk.bit8 {n:AG} (h:NOk n): ∀x∈n.mt.bits,C5 x=true:=fun x hx=>by
 have:=h.mt;unfold BP Dd at this;simp only[Bool.and_eq_true]at this;obtain⟨j,hj,he⟩:=List.getElem_of_mem hx;have h1:=Ar this.1.1.2.2 hj;rwa [CI (List.getElem?_eq_getElem hj),he]at h1
theorem NOk.gens12 {n:AG} (h:NOk n):De n.mt.gens=true/\0<n.mt.gens.length/\n.mt.gens.length<=12:=by
 have:=h.mt;unfold BP at this;simp only[Bool.and_eq_true,decide_eq_true_iff]at this;have h1:=this.1.1.1.1;have h2:=h1;unfold De at h2;simp only[Bool.and_eq_true,decide_eq_true_iff]at h2;exact⟨h1,by omega,by omega⟩
theorem NOk.last {n:AG} (h:NOk n):0<=n.mt.last/\n.mt.last<=200:=by
 have:=h.mt;unfold BP at this;simp only[Bool.and_eq_true,decide_eq_true_iff]at this;exact Ab.1 this.1.2
theorem NOk.syn8 {n:AG} (h:NOk n): ∀x∈n.sync,C5 x=true:=fun x hx=>by
 obtain⟨j,hj,he⟩:=List.getElem_of_mem hx;have h1:=Ar h.lk (j:=j) (by have:=h.sync;omega);unfold Ow.lk at h1;rw[Bool.and_eq_true,CI (List.getElem?_eq_getElem hj),he]at h1;exact h1.1
theorem NOk.nB {n:AG} (h:NOk n) (hs:slS n.sl):nB n:=⟨by
 have:=h.img;unfold EG at this;simp only[Bool.and_eq_true,beq_iff_eq]at this;omega,by have:=h.gens12;omega,h.bits3,fun x hx=>by have:=E4 (h.bit8 x hx);omega,hs,h.conn,h.sync,fun x hx=>by have:=E4 (h.syn8 x hx);omega,h.copies,by have:=Oo h.wait;omega⟩
theorem Es {n:AG} (h:nB n) (m:Av) (g:m.gens.length<=1000) (b:m.bits.length=3) (bb: ∀x∈m.bits,x.length<=900):nB (Bb n m):=⟨h.image,g,b,bb,CO h.sl m,h.conn,h.sync,h.syn,h.copies,h.wait⟩
def E8 (n:AG) (src cell val:Int):AG:=Bb (ET n src cell val) {(ET n src cell val).mt with last:=val}
theorem H3 {n:AG} {src cell:Int} (hb:n.mt.bits.length=3) (hbl: ∀x∈n.mt.bits,x.length<=800):(n.mt.bits.mapIdx (DJ n.id src cell)).length=3/\ ∀x∈n.mt.bits.mapIdx (DJ n.id src cell),x.length<=900:=by
 refine⟨by rw[List.length_mapIdx];exact hb,fun x hx=> ?_⟩;obtain⟨i,hi,rfl⟩:=List.mem_mapIdx.1 hx;have:=Qg n.id src cell i n.mt.bits[i];have:=hbl _ (List.getElem_mem hi);omega
theorem MB (n:AG) (src cell val:Int) (hn:nB n) (hbl: ∀x∈n.mt.bits,x.length<=800):AH G PK md 226 [.a (AD (fN n)),.v (.sc (.int .i64 src)),.v (.sc (.int .i64 cell)),.v (.sc (.int .i64 val))]=some ⟨[.a (AD (fN (E8 n src cell val)))],[some (enc fI n.image),some (enc fI n.mt.gens),some (enc fII n.mt.bits),none,none,none,none,none,none],[]⟩:=by
 refine AA (pf:=p226) rfl (by simp[p226]) ?_;have e1:=Ps (PK:=PK) n src cell val (by have:=hn.image;omega) hn.mt hn.bits (fun x hx=>by have:=hbl x hx;omega);obtain⟨b1,b2⟩:=H3 (src:=src) (cell:=cell) hn.bits hbl;have e2:=Cq (PK:=PK) {(ET n src cell val)with mt:={(ET n src cell val).mt with last:=val}} {(ET n src cell val).mt with last:=val} hn.sl ⟨by have:=hn.gens;unfold ET;simp only;omega,by unfold ET;simp only[b1];omega,fun x hx=>by have:=b2 x hx;omega⟩;have hk:Bb {(ET n src cell val)with mt:={(ET n src cell val).mt with last:=val}} {(ET n src cell val).mt with last:=val}=E8 n src cell val:=rfl;rw[hk]at e2;simp only[AJ,lent,fN,fM,AD,AX,kpA]at e1 e2;generalize E8 n src cell val=r at*;generalize hq:ET n src cell val=q at*;have hsl:q.sl=n.sl:=by rw[←hq];rfl
 simp[p226,md,e1,e2]
theorem NW {l:List Int} (h:EG l=true):l.length=8:=by
 unfold EG at h;simp only[Bool.and_eq_true,beq_iff_eq]at h;omega
def DQ (n:AG) (who cell:Int):Av:={n.mt with bits:=n.mt.bits.set who.toNat (clr (n.mt.bits.getD who.toNat []) cell)}
def DP (n:AG) (who cell val:Int):AG:=
 if Am n&&inB who 0 2&&inB cell 0 7&&decide (n.image.getD cell.toNat 0=val)&&Am (Bb n (DQ n who cell))then Bb n (DQ n who cell)else n
theorem NT {n:AG} {who cell:Int} (h:nB n):(DQ n who cell).gens.length<=1000/\(DQ n who cell).bits.length=3/\ ∀x∈(DQ n who cell).bits,x.length<=900:=by
 refine⟨h.gens,by unfold DQ;rw[List.length_set];exact h.bits,fun x hx=> ?_⟩;unfold DQ at hx;rcases List.mem_or_eq_of_mem_set hx with hx|rfl
 ·exact h.bit x hx
 ·have:=F0 (n.mt.bits.getD who.toNat []) cell;rcases Nat.lt_or_ge who.toNat n.mt.bits.length with h1|h1
  ·obtain⟨y,_,_,_,hyd,hym⟩:=Ax n.mt.bits h1;rw[hyd]at this ⊢;have:=h.bit y hym;omega
  ·rw[List.getD_eq_getElem?_getD,List.getElem?_eq_none h1]at this ⊢;have:clr [] cell=[]:=rfl;simp[this]
theorem Ho (n:AG) (who cell val:Int) (hn:nB n):AH G PK md 244 [.a (AJ (fN n)),.v (.sc (.int .i64 who)),.v (.sc (.int .i64 cell)),.v (.sc (.int .i64 val))]=some ⟨[.a (AD (fN (DP n who cell val)))],[],[]⟩:=by
 refine AA (pf:=p244) rfl (by simp[p244]) ?_;have e0:=Bo (PK:=PK) n hn.nS;have e1:=AZ (PK:=PK) n hn.nS;have e2:=Aj (PK:=PK) who 0 2;have e3:=Aj (PK:=PK) cell 0 7;have e4:=B8 (PK:=PK) n.mt hn.mt;obtain⟨k1,k2,k3⟩:=NT (who:=who) (cell:=cell) hn;have e5:=Cq (PK:=PK) n (DQ n who cell) hn.sl ⟨by omega,by omega,fun x hx=>by have:=k3 x hx;omega⟩;have e6:=AZ (PK:=PK) (Bb n (DQ n who cell)) (Es hn _ k1 k2 k3).nS;simp only[AJ,lent,fN,fM,AD,AX,kpA]at e0 e1 e4 e5 e6;unfold DP
 cases h0:Am n
 ·simp[p244,md,e0,e1,h0]
 cases h1:inB who 0 2
 ·simp[p244,md,e0,e1,e2,h0,h1]
 cases h2:inB cell 0 7
 ·simp[p244,md,e0,e1,e2,e3,h0,h1,h2]
 have r1:=Ab.1 h1;have r2:=Ab.1 h2;obtain⟨i,rfl⟩: ∃i:Nat,who=(i:Int):=⟨who.toNat,by omega⟩;obtain⟨k,rfl⟩: ∃k:Nat,cell=(k:Int):=⟨cell.toNat,by omega⟩;have h8:=NW (A3 h0).img;obtain⟨v,y1,hv,hv',hvd⟩:=AT n.image (j:=k) (by omega);obtain⟨b,y2,hb,hb',hbd,hbm⟩:=Ax n.mt.bits (j:=i) (by have:=hn.bits;omega);have hbl:=hn.bit b hbm;have c1:=G1 (PK:=PK) b k (by omega);have s1:=Bc fII n.mt.bits i (clr b k);simp at s1;simp only[Int.toNat_natCast,hvd];by_cases h3:v=val
 ·have hm:DQ n (i:Int) (k:Int)={n.mt with bits:=n.mt.bits.set i (clr b k)}:=by
   unfold DQ;simp only[Int.toNat_natCast,hbd]
  have hkm:(Bb n (DQ n (i:Int) (k:Int))).mt=DQ n (i:Int) (k:Int):=rfl;rw[hm]at e5;simp only at e5;generalize hq:Bb n (DQ n (i:Int) (k:Int))=q at*;rw[hm]at hq;rw[hq]at e5
  cases h4:Am q
  ·simp[p244,md,e0,e1,e2,e3,e4,e5,e6,c1,s1,h0,h1,h2,h3,h4,y1,y2,hv',hb']
  ·simp[p244,md,e0,e1,e2,e3,e4,e5,e6,c1,s1,h0,h1,h2,h3,h4,y1,y2,hv',hb']
 ·simp[p244,md,e0,e1,e2,e3,h0,h1,h2,h3,y1,hv']
def TZ (x y:AG):Int:=
 if x.prime&&y.prime|| !x.mt.fine&& !y.mt.fine then 0
 else if Gf x.mt.gens y.mt.gens=3 then 0
 else if Gf x.mt.gens y.mt.gens=1 then(if !x.mt.fine||y.prime then 0 else 1)
 else if Gf x.mt.gens y.mt.gens=2 then(if !y.mt.fine||x.prime then 0 else 2)
 else if x.prime&& !x.mt.fine||y.prime&& !y.mt.fine then 0
 else if x.prime|| !y.prime&& !y.mt.fine then 1
 else if y.prime|| !x.mt.fine||decide (y.mt.last>x.mt.last)then 2 else 1
theorem PN (a b:List Int):Gf a b=0\/Gf a b=1\/Gf a b=2\/Gf a b=3:=by
 unfold Gf;split
 ·exact .inl rfl
 ·split
  ·exact .inr (.inl rfl)
  ·split
   ·exact .inr (.inr (.inl rfl))
   ·exact .inr (.inr (.inr rfl))
theorem Sl (x y : AG) (hx : NOk x) (hy : NOk y) : AH G PK md 247 [.a (AJ (fN x)), .a (AJ (fN y))] = some ⟨[.v (.sc (.int .i64 (TZ x y)))], [], []⟩ := by
  refine AA (pf := p247) rfl (by simp [p247]) ?_;have g1 := hx.gens12;have g2 := hy.gens12;have e := My (PK := PK) x.mt.gens y.mt.gens g1.2.1 g2.2.1 (by omega) (by omega);have hc := PN x.mt.gens y.mt.gens;unfold TZ;generalize Gf x.mt.gens y.mt.gens = q at *
  cases h1 : x.prime <;> cases h2 : y.prime <;> cases h3 : x.mt.fine <;> cases h4 : y.mt.fine <;> rcases hc with rfl | rfl | rfl | rfl <;>
    first
    | (simp [p247, md, e, h1, h2, h3, h4]; done)
    | (by_cases h5 : y.mt.last > x.mt.last
       · have h6 : ¬ y.mt.last <= x.mt.last := by omega
         simp [p247, md, e, h1, h2, h3, h4, h5, h6]
       · have h6 : y.mt.last <= x.mt.last := by omega
         simp [p247, md, e, h1, h2, h3, h4, h5, h6])
def KR (x far:AG):Bool:=x.prime&&x.mt.fine&&decide (far.mt.gens.getD 0 0∈x.mt.gens)
theorem Pr (x y:AG) (hx:NOk x) (hy:NOk y):AH G PK md 246 [.a (AJ (fN x)),.a (AJ (fN y))]=some ⟨[.v (.sc (.bool (KR x y)))],[],[]⟩:=by
 refine AA (pf:=p246) rfl (by simp[p246]) ?_;have g1:=hx.gens12;have g2:=hy.gens12;obtain⟨v,y1,hv,hv',hvd⟩:=AT y.mt.gens (j:=0) (by omega);have e:=Cg (PK:=PK) x.mt.gens v (by omega);unfold KR;rw[hvd]
 cases h1:x.prime<;>cases h2:x.mt.fine<;>simp[p246,md,e,h1,h2,y1,hv']
def Fk (x y:AG):Int:=
 if !Am x|| !Am y||decide (x.id=y.id)|| !x.up|| !y.up||x.conn.getD y.id.toNat false||y.conn.getD x.id.toNat false then 0
 else if y.id=2 then bit (KR x y) 1 else if x.id=2 then 2*bit (KR y x) 1 else TZ x y
theorem Gu (x y:AG) (hx:nS x) (hy:nS y):AH G PK md 229 [.a (AJ (fN x)),.a (AJ (fN y))]=some ⟨[.v (.sc (.int .i64 (Fk x y)))],[],[]⟩:=by
 refine AA (pf:=p229) rfl (by simp[p229]) ?_;have e1:=AZ (PK:=PK) x hx;have e2:=AZ (PK:=PK) y hy;unfold Fk;simp only[AJ,lent,fN]at e1 e2
 cases h1:Am x
 ·simp[p229,md,e1,h1]
 cases h2:Am y
 ·simp[p229,md,e1,e2,h1,h2]
 have nx:=A3 h1;have ny:=A3 h2;obtain⟨i,i3,hi⟩:=nx.nat;obtain⟨j,j3,hj⟩:=ny.nat;obtain⟨cx,q1,hc,hc',hcd⟩:=A1 x.conn (j:=j) (by have:=nx.conn;omega);obtain⟨cy,q2,hd,hd',hdd⟩:=A1 y.conn (j:=i) (by have:=ny.conn;omega);have e3:=Pr (PK:=PK) x y nx ny;have e4:=Pr (PK:=PK) y x ny nx;have e5:=Sl (PK:=PK) x y nx ny;have e6:=DZ (PK:=PK) (KR x y);have e7:=DZ (PK:=PK) (KR y x);have w1:IntKind.wrap .i64 (bit (KR x y) 1)=bit (KR x y) 1:=by cases KR x y<;>rfl
 have w2:IntKind.wrap .i64 (2*bit (KR y x) 1)=2*bit (KR y x) 1:=by cases KR y x<;>rfl
 simp only[AJ,lent,fN]at e3 e4 e5;simp only[hi,hj]at e1 e2 e3 e4 e5 ⊢;simp only[Int.toNat_natCast,hcd,hdd];by_cases h3:(i:Int)=j
 ·simp[p229,md,e1,e2,h1,h2,hi,hj,eq_true h3]
 have h3': ¬i=j:=by omega
 cases h4:x.up
 ·rw[h4]at e1 e3 e4 e5;simp[p229,md,e1,e2,h1,h2,hi,hj,h3,h3',h4]
 cases h5:y.up
 ·rw[h4]at e1 e3 e4 e5;rw[h5]at e2 e3 e4 e5;simp[p229,md,e1,e2,h1,h2,hi,hj,h3,h3',h4,h5]
 rw[h4]at e1 e3 e4 e5;rw[h5]at e2 e3 e4 e5
 cases cx
 ·cases cy
  ·by_cases h6:(j:Int)=2
   ·simp[p229,md,e1,e2,h1,h2,hi,hj,h3,h3',h4,h5,q1,q2,hc',hd',eq_true h6,e3,e6,w1]
   ·by_cases h7:(i:Int)=2
    ·simp[p229,md,e1,e2,h1,h2,hi,hj,h3,h3',h4,h5,q1,q2,hc',hd',h6,eq_true h7,e4,e7,w2]
    ·simp[p229,md,e1,e2,h1,h2,hi,hj,h3,h3',h4,h5,q1,q2,hc',hd',h6,h7,e5]
  ·simp[p229,md,e1,e2,h1,h2,hi,hj,h3,h3',h4,h5,q1,q2,hc',hd']
 ·simp[p229,md,e1,e2,h1,h2,hi,hj,h3,h3',h4,h5,q1,hc']
def DX (x y:AG):List Int:=if Am x&&Am y then uni (x.mt.bits.getD y.id.toNat []) (y.mt.bits.getD x.id.toNat [])else []
theorem L8 (x y:AG) (hx:nS x) (hy:nS y):AH G PK md 248 [.a (AJ (fN x)),.a (AJ (fN y))]=some ⟨[.v (.own 1 (enc fI (DX x y)))],[],[]⟩:=by
 refine AA (pf:=p248) rfl (by simp[p248]) ?_;have e1:=AZ (PK:=PK) x hx;have e2:=AZ (PK:=PK) y hy;simp only[AJ,lent,fN]at e1 e2;unfold DX
 cases h1:Am x
 ·simp[p248,md,e1,h1]
 cases h2:Am y
 ·simp[p248,md,e1,e2,h1,h2]
 have nx:=A3 h1;have ny:=A3 h2;obtain⟨i,i3,hi⟩:=nx.nat;obtain⟨j,j3,hj⟩:=ny.nat;obtain⟨a,y1,ha,ha',had,ham⟩:=Ax x.mt.bits (j:=j) (by have:=nx.bits3;omega);obtain⟨b,y2,hb,hb',hbd,hbm⟩:=Ax y.mt.bits (j:=i) (by have:=ny.bits3;omega);have l1:=E4 (nx.bit8 a ham);have l2:=E4 (ny.bit8 b hbm);have e3:=UU (PK:=PK) a b (by omega) (by omega);simp only[hi,hj]at e1 e2 ⊢;simp only[Int.toNat_natCast,had,hbd];simp[p248,md,e1,e2,h1,h2,hi,hj,y1,y2,ha',hb',e3]
def EX (m:BI):Bool:=
 if m.kind=5 then De m.gens&&inB m.val 0 200&&decide (m.cell=0)&&decide (m.who=0)
 else if m.kind=1\/m.kind=2\/m.kind=3\/m.kind=4 then decide (m.gens.length=0)&&inB m.cell 0 7&&inB m.val (1 - bit (decide (m.kind=4)||decide (m.kind=2)) 1) 200&&(decide (m.kind=3)&&inB m.who 0 2||decide (m.who=0))
 else false
theorem Hm (m:BI) (hm:m.gens.length<=1048576):AH G PK md 150 [.a (AJ (fMs m))]=some ⟨[.v (.sc (.bool (EX m)))],[],[]⟩:=by
 refine AA (pf:=p150) rfl (by simp[p150]) ?_;obtain⟨k,c,v,w,g⟩:=m;have e1:=Ed (PK:=PK) g hm;have e2:=Aj (PK:=PK) v 0 200;have e3:=Aj (PK:=PK) c 0 7;have e4:=Aj (PK:=PK) v 1 200;have e5:=Aj (PK:=PK) w 0 2;have b1:=DZ (PK:=PK) true;have b0:=DZ (PK:=PK) false;have t1:bit true 1=1:=rfl;have t0:bit false 1=0:=rfl;have w0:IntKind.wrap .i64 0=0:=rfl;rw[t1]at b1;rw[t0]at b0;unfold EX;simp only;by_cases h5:k=5
 ·subst h5
  cases h1:De g
  ·simp[p150,md,e1,h1]
  cases h2:inB v 0 200
  ·simp[p150,md,e1,e2,h1,h2]
  by_cases h3:c=0<;>by_cases h4:w=0<;>simp[p150,md,e1,e2,h1,h2,h3,h4]
 by_cases h:k=1\/k=2\/k=3\/k=4
 ·by_cases hg:g.length=0
  ·cases h3:inB c 0 7
   ·rcases h with rfl|rfl|rfl|rfl<;>simp[p150,md,hg,e3,h3]
   rcases h with rfl|rfl|rfl|rfl
   ·cases h6:inB v 1 200
    ·simp[p150,md,hg,e3,h3,b0,b1,t0,t1,w0,CX,e4,h6]
    ·by_cases h4:w=0<;>simp[p150,md,hg,e3,h3,b0,b1,t0,t1,w0,CX,e4,h6,h4]
   ·cases h6:inB v 0 200
    ·simp[p150,md,hg,e3,h3,b0,b1,t0,t1,w0,CX,e2,h6]
    ·by_cases h4:w=0<;>simp[p150,md,hg,e3,h3,b0,b1,t0,t1,w0,CX,e2,h6,h4]
   ·cases h6:inB v 1 200
    ·simp[p150,md,hg,e3,h3,b0,b1,t0,t1,w0,CX,e4,h6]
    ·cases h7:inB w 0 2
     ·have h4:w≠0:=fun h=>by subst h;cases h7
      simp[p150,md,hg,e3,h3,b0,b1,t0,t1,w0,CX,e4,e5,h6,h7,h4]
     ·simp[p150,md,hg,e3,h3,b0,b1,t0,t1,w0,CX,e4,e5,h6,h7]
   ·cases h6:inB v 0 200
    ·simp[p150,md,hg,e3,h3,b0,b1,t0,t1,w0,CX,e2,h6]
    ·by_cases h4:w=0<;>simp[p150,md,hg,e3,h3,b0,b1,t0,t1,w0,CX,e2,h6,h4]
  ·rcases h with rfl|rfl|rfl|rfl<;>simp[p150,md,hg]
 ·simp only[not_or]at h;simp[p150,md,h5,h.1,h.2.1,h.2.2.1,h.2.2.2]
theorem IC {m:BI} (h:EX m=true):m.gens.length<=12:=by
 unfold EX at h;split at h
 ·simp only[Bool.and_eq_true]at h;have:=h.1.1.1;unfold De at this;simp only[Bool.and_eq_true,decide_eq_true_iff]at this;omega
 ·split at h
  ·simp only[Bool.and_eq_true,decide_eq_true_iff]at h;have:=h.1.1.1;omega
  ·cases h
def to1 (n:AG) (but:Int) (m:BI) (k:Nat):List Ci:=if n.conn.getD k false=true/\(k:Int)≠but then [⟨n.id,k,m⟩]else []
def tos (n:AG) (but:Int) (m:BI):List Ci:=(List.range 3).flatMap (to1 n but m)
theorem Kc (n:AG) (but:Int) (m:BI): ∀j,((List.range j).flatMap (to1 n but m)).length<=j
 |0=>by simp
 |j+1=>by
  have:=Kc n but m j;rw[List.range_succ,List.flatMap_append,List.length_append];simp only[List.flatMap_cons,List.flatMap_nil,List.append_nil];generalize (List.range j).flatMap (to1 n but m)=o at*;unfold to1;split<;>simp<;>omega
theorem TD (n:AG) (but:Int) (m:BI) (j:Nat):(List.range (j+1)).flatMap (to1 n but m)=(List.range j).flatMap (to1 n but m)++to1 n but m j:=by
 rw[List.range_succ,List.flatMap_append];simp
@[simp] def pmsg (m:BI):List L:=[.sc (.int .i64 m.kind),.sc (.int .i64 m.cell),.sc (.int .i64 m.val),.sc (.int .i64 m.who),.nil 1]
@[simp] def st228 (n:AG) (but:Int) (m:BI) (out:List Ci) (j:Nat):St:={n:=33,m:=0,tm:=[(1,.sc (.int .i64 but)),(3,.pb 10000000 0),(5,.pb 10000001 0),(7,.ref 10000002 []),(8,.sc (.int .i64 j))],ob:=[(10000000,OI n),(10000001,.box [.sc (.int .i64 m.kind),.sc (.int .i64 m.cell),.sc (.int .i64 m.val),.sc (.int .i64 m.who),.nil 1]),(10000002,.arr 7 (enc fP out))]}
theorem Py (n:AG) (but:Int) (m:BI) (hn:n.conn.length=3) (hm:m.gens=[]):AH G PK md 228 [.a (AJ (fN n)),.v (.sc (.int .i64 but)),.a (pmsg m)]=some ⟨[.v (.own 7 (enc fP (tos n but m)))],[],[]⟩:=by
 refine AA (pf:=p228) rfl (by simp[p228]) ?_;have hs:=AL (G:=G) (PK:=PK) (md:=md) (o:=10000000) (live:=[1,3,5,7,8]) (c:=b228_0) (fun j=>st228 n but m ((List.range j).flatMap (to1 n but m)) j) 3 (fun j hj=>by
  obtain⟨x,y1,hx,hx',hxd⟩:=A1 n.conn (j:=j) (by omega);have hinc:=A2 hj (by omega);have hl:=Kc n but m j;simp only[TD];generalize (List.range j).flatMap (to1 n but m)=out at hl ⊢;have hj3:(j:Int)<3:=by omega
  have g1:(out.length+1)*72<=35184372088832:=by omega
  unfold to1;rw[hxd]
  cases x
  ·simp[b228_0,md,hj3,hinc,y1,hx']
  by_cases hb:(j:Int)=but
  ·simp[b228_0,md,hj3,hinc,y1,hx',eq_true hb]
  ·simp[b228_0,md,hj3,hinc,y1,hx',hb,g1,hm];simp[enc,hm]) (by simp[b228_0])
 unfold tos;simp[p228,md];rw[hs]
 ·simp[b228_0]
 ·simp
 ·simp
end Go.Proofs.YtbolhfegdocpeaaGreat.Ow
