/- Functions evaluated on the small machine: What is done to a node: what the reference makes, What is done to a node: what the reference makes, second part, Who copies to whom: what the reference says. -/
import Derived.Test.YtghgecpicnfgpaaGreatEv9
namespace Go.Proofs.YtghgecpicnfgpaaGreat.Ow
open Go
set_option linter.unusedVariables false
set_option linter.unusedSimpArgs false
set_option maxHeartbeats 4000000
@[simp] theorem range2:List.range 2=[0,1]:=rfl
@[simp] theorem range3:List.range 3=[0,1,2]:=rfl
@[simp] theorem range4:List.range 4=[0,1,2,3]:=rfl
@[simp] theorem range5:List.range 5=[0,1,2,3,4]:=rfl
@[simp] theorem range6:List.range 6=[0,1,2,3,4,5]:=rfl
@[simp] theorem range7:List.range 7=[0,1,2,3,4,5,6]:=rfl
@[simp] theorem range8:List.range 8=[0,1,2,3,4,5,6,7]:=rfl
@[simp] theorem range9:List.range 9=[0,1,2,3,4,5,6,7,8]:=rfl
@[simp] theorem range10:List.range 10=[0,1,2,3,4,5,6,7,8,9]:=rfl
@[simp] theorem range11:List.range 11=[0,1,2,3,4,5,6,7,8,9,10]:=rfl
def A7 (n:AE) (m:Ay):AE:={n with mt:=m,sl:=Br n.sl m}
@[simp] def kpA (n:AE):List L:=[.sc (I6 n.id),.sc (.bool n.up),.sc (.bool n.prime),.own 1 (enc fI n.image),.im 1 (enc fI n.mt.gens),.im 1 (enc fII n.mt.bits),.sc (.bool n.mt.fine),.sc (.bool n.mt.old),.sc (.bool n.mt.held),.sc (I6 n.mt.last),
 .own 1 (enc fU n.sl.a),.own 1 (enc fU n.sl.b),.own 1 (enc fL n.conn),.own 1 (enc fII n.sync),.own 1 (enc fL n.copies),.own 1 (enc fI n.wait)]
theorem DS [PKI] (n:AE) (m:Ay) (hs:slS n.sl) (hm:mtS m):sG 261 [.a (kpA n),.a (AD (fM m))]=some ⟨[.a (AA (fN (A7 n m)))],[none,some (enc fU n.sl.a),some (enc fU n.sl.b),none,none,none,none],[]⟩:=by
 refine sK p261 ?_;have e1:=Cc m hm;have e2:=Cp n.sl m hs hm;simp only[AD,lent,fM,fSl,AA,AJ]at e1 e2;unfold A7;generalize Br n.sl m=sp at*;simp[p261,  e1,e2]
def QL (n:AE):AE:={n with up:=false,prime:=false,conn:=[false,false,false],sync:=[[],[],[]],copies:=[false,false,false],wait:=[]}
theorem VY [PKI] (n:AE):sG 283 [.a (AA (fN n))]=some ⟨[.a (AA (fN (QL n)))],[none,none,none,none,none,some (enc fL n.conn),some (enc fII n.sync),some (enc fL n.copies),some (enc fI n.wait)],[]⟩:=by
 refine sK p283 ?_;unfold QL;simp[p283,  List.replicate]
def H6 (n:AE):AE:=if AL n then QL n else n
theorem Q5 [PKI] (n:AE) (hn:nS n):sG 259 [.a (AD (fN n))]=some ⟨[.a (AA (fN (H6 n)))],[],[]⟩:=by
 refine sK p259 ?_;have e1:=Ab n hn;have e2:=B5 n hn;have e3:=VY n;simp only[AD,lent,fN,AA,AJ]at e1 e2 e3;unfold H6
 cases h:AL n
 ·rw[h]at e1;simp[p259,  e1,e2]
 ·rw[h]at e1;simp[p259,  e1,e2,e3]
def KW (n:AE):AE:=if !AL n||n.up then n else {n with up:=true,mt:=(Af n.sl).1}
theorem Q1 [PKI] (n:AE) (hn:nS n):sG 221 [.a (AD (fN n))]=some ⟨[.a (AA (fN (KW n)))],[],[]⟩:=by
 refine sK p221 ?_;have e1:=Ab n hn;have e2:=B5 n hn;have e3:=Dr n.sl hn.sl;simp only[AD,lent,fN,fSl,fM,AA,AJ]at e1 e2 e3;unfold KW
 cases h:AL n
 ·rw[h]at e1;simp[p221,  e1,e2]
 ·rw[h]at e1;generalize Af n.sl=q at*
  cases hu:n.up
  ·rw[hu]at e1 e2;simp[p221,  e1,e2,e3,hu]
  ·rw[hu]at e1 e2;simp[p221,  e1,e2,hu]
def upd {α:Type} (f:Nat->α->α) (l:List α) (j:Nat):List α:=l.mapIdx λk x=>if k<j then f k x else x
@[simp] theorem M7 {α:Type} (f:Nat->α->α) (l:List α) (j:Nat):(upd f l j).length=l.length:=by simp[upd]
theorem QW {α:Type} (f:Nat->α->α) {l:List α} {j:Nat} {x:α} (h:l[j]? =some x):(upd f l j)[j]? =some x:=by simp[upd,h]
theorem QV {α:Type} (f:Nat->α->α) {l:List α} {j:Nat} {x:α} (h:l[j]? =some x):(upd f l j).set j (f j x)=upd f l (j+1):=by
 apply List.ext_getElem?;intro i;have hj:=(List.getElem?_eq_some_iff.1 h).1;rw[List.getElem?_set];simp only[upd,List.length_mapIdx,List.getElem?_mapIdx];by_cases hij:j=i
 ·subst hij;simp[h];exact(List.getElem?_eq_some_iff.1 h).1
 ·rw[if_neg hij];by_cases h1:i<j
  ·simp[h1,show i<j+1 by omega]
  ·simp[h1,show ¬i<j+1 by omega]
theorem NU {α:Type} (f:Nat->α->α) (l:List α):upd f l 0=l:=by
 unfold upd;apply List.ext_getElem?;intro i;simp
theorem UF {α:Type} (f:Nat->α->α) (l:List α):upd f l l.length=l.mapIdx f:=by
 unfold upd;apply List.ext_getElem?;intro i;simp only[List.getElem?_mapIdx];rcases Nat.lt_or_ge i l.length with h|h
 ·simp[h]
 ·simp[List.getElem?_eq_none h]
def B8 (id src cell:Int) (k:Nat) (l:LI):LI:=if(k:Int)=src then clr l cell else if(k:Int)=id then l else C5 l cell
theorem TJ (id src cell:Int) (k:Nat) (l:LI):(B8 id src cell k l).length<=l.length+1:=by
 unfold B8;have:=F6 l cell;have:=Ki l cell;split
 ·omega
 ·split<;>omega
def DB (n:AE) (src cell val:Int):AE:={n with image:=FC n.image cell val,mt:={n.mt with bits:=n.mt.bits.mapIdx (B8 n.id src cell)}}
@[simp] def st275 (n : AE) (img : LI) (src cell : Int) (bits : List LI) (j : Nat) : St := { n := 56, m := 9, tm := [(1, .sc (I6 src)), (2, .sc (I6 cell)), (4, .pb 10000000 0), (8, .pb 10000001 0), (9, .pb 10000002 0), (10, .sc (I6 j))], ob := [(0, .arr 1 (enc fI n.image)), (1, .arr 1 (enc fI n.mt.gens)), (2, .arr 1 (enc fII n.mt.bits)), (3, .arr 1 (enc fU n.sl.a)), (4, .arr 1 (enc fU n.sl.b)), (5, .arr 1 (enc fL n.conn)), (6, .arr 1 (enc fII n.sync)), (7, .arr 1 (enc fL n.copies)), (8, .arr 1 (enc fI n.wait)),
  (10000000, .box [.sc (I6 n.id), .sc (.bool n.up), .sc (.bool n.prime), .ref 10000003 [], .ref 1 [], .ref 2 [], .sc (.bool n.mt.fine), .sc (.bool n.mt.old), .sc (.bool n.mt.held), .sc (I6 n.mt.last), .ref 3 [], .ref 4 [], .ref 5 [], .ref 6 [], .ref 7 [], .ref 8 []]), (10000001, zbox), (10000002, .box [.ref 10000004 [], .ref 10000005 [], .sc (.bool n.mt.fine), .sc (.bool n.mt.old), .sc (.bool n.mt.held), .sc (I6 n.mt.last)]), (10000003, .arr 1 (enc fI img)), (10000004, .arr 1 (enc fI n.mt.gens)), (10000005, .arr 1 (enc fII bits))] }
theorem SV [PKI] (n:AE) (src cell val:Int) (hi:n.image.length<=1048576) (hm:mtS n.mt) (hb:n.mt.bits.length=3) (hbl: ∀x∈n.mt.bits,x.length<=1000):sG 275 [.a (AA (fN n)),.v (.sc (I6 src)),.v (.sc (I6 cell)),.v (.sc (I6 val))]=some ⟨[.a (AA (fN (DB n src cell val)))],[some (enc fI n.image),some (enc fI n.mt.gens),some (enc fII n.mt.bits),none,none,none,none,none,none],[]⟩:=by
 refine sK p275 ?_;have e1:=Mh n.image cell val hi;have e2:=Cc n.mt hm;simp only[AD,lent,fM,AA,AJ]at e1 e2;have hs:= @lok _ 10000000 [1,2,4,8,9,10] b275_0 (λj=>st275 n (FC n.image cell val) src cell (upd (B8 n.id src cell) n.mt.bits j) j) 3 (λj hj=>by
  obtain⟨x,y1,hx,hx',_,hxm⟩:=Ah n.mt.bits (j:=j) (by omega);have hinc:=Ar hj (by omega);have hxl:=hbl x hxm;have hg:=QW (B8 n.id src cell) hx;have hst:=QV (B8 n.id src cell) hx;have hul:=M7 (B8 n.id src cell) n.mt.bits j;simp only[<-hst];generalize upd (B8 n.id src cell) n.mt.bits j=B at*;have hjB:j<B.length:=by omega
  have hgB:B[j]=x:=by simpa[hjB]using hg
  have c1:=II x cell (by omega);have c2:=LH x cell (by omega);have s1:=A3 fII B j (B8 n.id src cell j x);have hj3:(j:Int)<3:=by omega
  unfold B8 at*;by_cases h1:(j:Int)=src
  ·rw[if_pos h1]at s1 ⊢;simp at s1;simp[b275_0,  hj3,eq_true h1,hjB,hgB,hinc,c1,s1]
  rw[if_neg h1]at s1 ⊢;by_cases h2:(j:Int)=n.id
  ·rw[if_pos h2];have hss:B.set j x=B:=by rw[<-hgB];exact List.set_getElem_self hjB
   rw[hss];simp[b275_0,  hj3,h1,eq_true h2,hjB,hgB,hinc]
  ·rw[if_neg h2]at s1 ⊢;simp at s1;simp[b275_0,  hj3,h1,h2,hjB,hgB,hinc,c2,s1]) (by simp[b275_0])
 have hz:=NU (B8 n.id src cell) n.mt.bits;have ha:=UF (B8 n.id src cell) n.mt.bits;rw[hb]at ha;unfold DB;simp[p275,  e1,e2];rw[hs]
 ·simp[b275_0,ha]
 ·simp
 ·simp[hz]
structure nB (n:AE):Prop where
 image:n.image.length<=1000
 gens:n.mt.gens.length<=1000
 bits:n.mt.bits.length=3
 bit: ∀x∈n.mt.bits,x.length<=900
 sl:slS n.sl
 conn:n.conn.length=3
 sync:n.sync.length=3
 syn: ∀x∈n.sync,x.length<=1000
 copies:n.copies.length=3
 wait:n.wait.length<=1000
theorem nB.mt {n:AE} (h:nB n):mtS n.mt:=⟨by have:=h.gens;omega,by have:=h.bits;omega,λx hx=>by have:=h.bit x hx;omega⟩
theorem nB.nS {n:AE} (h:nB n):nS n:=⟨by have:=h.image;omega,h.mt,h.sl,by have:=h.conn;omega,⟨by have:=h.sync;omega,λx hx=>by have:=h.syn x hx;omega⟩,by have:=h.copies;omega,by have:=h.wait;omega⟩
theorem Ra {a b:Int} {l:LI} (h:Ac (CX a b l) l.length=true):(l.length:Int)<=b - a+1\/l.length=0:=by
 have key: ∀j,j<l.length->a+j<=l.getD j 0:=by
  intro j
  induction j with
  |zero=>
   intro hj;have:=Am h hj;unfold CX at this;simp only[Bool.and_eq_true]at this;have:=AP.1 this.1;omega
  |succ j ih=>
   intro hj;have h1:=ih (by omega);have:=Am h hj;unfold CX at this;simp only[Bool.and_eq_true,Bool.or_eq_true,decide_eq_true_iff]at this;have h2:=this.2;simp only[Nat.add_sub_cancel]at h2;rcases h2 with h2|h2
   ·omega
   ·omega
 rcases Nat.eq_zero_or_pos l.length with h0|h0
 ·exact .inr h0
 ·left;have h1:=key (l.length - 1) (by omega);have:=Am h (j:=l.length - 1) (by omega);unfold CX at this;simp only[Bool.and_eq_true]at this;have:=AP.1 this.1;omega
theorem NOk.bits3 {n:AE} (h:NOk n):n.mt.bits.length=3:=by
 have:=h.mt;unfold BU at this;simp only[Bool.and_eq_true,beq_iff_eq]at this;omega
theorem NOk.bit8 {n:AE} (h:NOk n): ∀x∈n.mt.bits,Dg x=true:=λx hx=>by
 have:=h.mt;unfold BU ER at this;simp only[Bool.and_eq_true]at this;obtain⟨j,hj,he⟩:=List.getElem_of_mem hx;have h1:=Am this.1.1.2.2 hj;rwa [BP (List.getElem?_eq_getElem hj),he]at h1
theorem NOk.gens12 {n:AE} (h:NOk n):Dj n.mt.gens=true/\0<n.mt.gens.length/\n.mt.gens.length<=12:=by
 have:=h.mt;unfold BU at this;simp only[Bool.and_eq_true,decide_eq_true_iff]at this;have h1:=this.1.1.1.1;have h2:=h1;unfold Dj at h2;simp only[Bool.and_eq_true,decide_eq_true_iff]at h2;exact⟨h1,by omega,by omega⟩
theorem NOk.last {n:AE} (h:NOk n):0<=n.mt.last/\n.mt.last<=200:=by
 have:=h.mt;unfold BU at this;simp only[Bool.and_eq_true,decide_eq_true_iff]at this;exact AP.1 this.1.2
theorem NOk.syn8 {n:AE} (h:NOk n): ∀x∈n.sync,Dg x=true:=λx hx=>by
 obtain⟨j,hj,he⟩:=List.getElem_of_mem hx;have h1:=Am h.lk (j:=j) (by have:=h.sync;omega);unfold Ow.lk at h1;rw[Bool.and_eq_true,BP (List.getElem?_eq_getElem hj),he]at h1;exact h1.1
theorem NOk.nB {n:AE} (h:NOk n) (hs:slS n.sl):nB n:=⟨by
 have:=h.img;unfold FE at this;simp only[Bool.and_eq_true,beq_iff_eq]at this;omega,by have:=h.gens12;omega,h.bits3,λx hx=>by have:=Ec (h.bit8 x hx);omega,hs,h.conn,h.sync,λx hx=>by have:=Ec (h.syn8 x hx);omega,h.copies,by have:=Ra h.wait;omega⟩
theorem Dq {n:AE} (h:nB n) (m:Ay) (g:m.gens.length<=1000) (b:m.bits.length=3) (bb: ∀x∈m.bits,x.length<=900):nB (A7 n m):=⟨h.image,g,b,bb,CZ h.sl m,h.conn,h.sync,h.syn,h.copies,h.wait⟩
def BO (n:AE) (src cell val:Int):AE:=A7 (DB n src cell val) {(DB n src cell val).mt with last:=val}
theorem G0 {n:AE} {src cell:Int} (hb:n.mt.bits.length=3) (hbl: ∀x∈n.mt.bits,x.length<=800):(n.mt.bits.mapIdx (B8 n.id src cell)).length=3/\ ∀x∈n.mt.bits.mapIdx (B8 n.id src cell),x.length<=900:=by
 refine⟨by rw[List.length_mapIdx];exact hb,λx hx=> ?_⟩;obtain⟨i,hi,rfl⟩:=List.mem_mapIdx.1 hx;have:=TJ n.id src cell i n.mt.bits[i];have:=hbl _ (List.getElem_mem hi);omega
theorem OP [PKI] (n:AE) (src cell val:Int) (hn:nB n) (hbl: ∀x∈n.mt.bits,x.length<=800):sG 252 [.a (AA (fN n)),.v (.sc (I6 src)),.v (.sc (I6 cell)),.v (.sc (I6 val))]=some ⟨[.a (AA (fN (BO n src cell val)))],[some (enc fI n.image),some (enc fI n.mt.gens),some (enc fII n.mt.bits),none,none,none,none,none,none],[]⟩:=by
 refine sK p252 ?_;have e1:=SV n src cell val (by have:=hn.image;omega) hn.mt hn.bits (λx hx=>by have:=hbl x hx;omega);obtain⟨b1,b2⟩:=G0 (src:=src) (cell:=cell) hn.bits hbl;have e2:=DS {(DB n src cell val)with mt:={(DB n src cell val).mt with last:=val}} {(DB n src cell val).mt with last:=val} hn.sl ⟨by have:=hn.gens;unfold DB;simp only;omega,by unfold DB;simp only[b1];omega,λx hx=>by have:=b2 x hx;omega⟩;have hk:A7 {(DB n src cell val)with mt:={(DB n src cell val).mt with last:=val}} {(DB n src cell val).mt with last:=val}=BO n src cell val:=rfl;rw[hk]at e2;simp only[AD,lent,fN,fM,AA,AJ,kpA]at e1 e2;generalize BO n src cell val=r at*;generalize hq:DB n src cell val=q at*;have hsl:q.sl=n.sl:=by rw[<-hq];rfl
 simp[p252,  e1,e2]
theorem Il {l:LI} (h:FE l=true):l.length=8:=by
 unfold FE at h;simp only[Bool.and_eq_true,beq_iff_eq]at h;omega
def CR (n:AE) (who cell:Int):Ay:={n.mt with bits:=n.mt.bits.set who.toNat (clr (n.mt.bits.getD who.toNat []) cell)}
def CG (n:AE) (who cell val:Int):AE:=
 if AL n&&inB who 0 2&&inB cell 0 7&&decide (n.image.getD cell.toNat 0=val)&&AL (A7 n (CR n who cell))then A7 n (CR n who cell)else n
theorem Lr {n:AE} {who cell:Int} (h:nB n):(CR n who cell).gens.length<=1000/\(CR n who cell).bits.length=3/\ ∀x∈(CR n who cell).bits,x.length<=900:=by
 refine⟨h.gens,by unfold CR;rw[List.length_set];exact h.bits,λx hx=> ?_⟩;unfold CR at hx;rcases List.mem_or_eq_of_mem_set hx with hx|rfl
 ·exact h.bit x hx
 ·have:=F6 (n.mt.bits.getD who.toNat []) cell;rcases Nat.lt_or_ge who.toNat n.mt.bits.length with h1|h1
  ·obtain⟨y,_,_,_,hyd,hym⟩:=Ah n.mt.bits h1;rw[hyd]at this ⊢;have:=h.bit y hym;omega
  ·rw[List.getD_eq_getElem?_getD,List.getElem?_eq_none h1]at this ⊢;have:clr [] cell=[]:=rfl;simp[this]
theorem JJ [PKI] (n:AE) (who cell val:Int) (hn:nB n):sG 277 [.a (AD (fN n)),.v (.sc (I6 who)),.v (.sc (I6 cell)),.v (.sc (I6 val))]=some ⟨[.a (AA (fN (CG n who cell val)))],[],[]⟩:=by
 refine sK p277 ?_;have e0:=B5 n hn.nS;have e1:=Ab n hn.nS;have e2:=Ao who 0 2;have e3:=Ao cell 0 7;have e4:=Cc n.mt hn.mt;obtain⟨k1,k2,k3⟩:=Lr (who:=who) (cell:=cell) hn;have e5:=DS n (CR n who cell) hn.sl ⟨by omega,by omega,λx hx=>by have:=k3 x hx;omega⟩;have e6:=Ab (A7 n (CR n who cell)) (Dq hn _ k1 k2 k3).nS;simp only[AD,lent,fN,fM,AA,AJ,kpA]at e0 e1 e4 e5 e6;unfold CG
 cases h0:AL n
 ·simp[p277,  e0,e1,h0]
 cases h1:inB who 0 2
 ·simp[p277,  e0,e1,e2,h0,h1]
 cases h2:inB cell 0 7
 ·simp[p277,  e0,e1,e2,e3,h0,h1,h2]
 have r1:=AP.1 h1;have r2:=AP.1 h2;obtain⟨i,rfl⟩: ∃i:Nat,who=(i:Int):=⟨who.toNat,by omega⟩;obtain⟨k,rfl⟩: ∃k:Nat,cell=(k:Int):=⟨cell.toNat,by omega⟩;have h8:=Il (Ai h0).img;obtain⟨v,y1,hv,hv',hvd⟩:=AK n.image (j:=k) (by omega);obtain⟨b,y2,hb,hb',hbd,hbm⟩:=Ah n.mt.bits (j:=i) (by have:=hn.bits;omega);have hbl:=hn.bit b hbm;have c1:=II b k (by omega);have s1:=A3 fII n.mt.bits i (clr b k);simp at s1;simp only[Int.toNat_natCast,hvd];by_cases h3:v=val
 ·have hm:CR n (i:Int) (k:Int)={n.mt with bits:=n.mt.bits.set i (clr b k)}:=by
   unfold CR;simp only[Int.toNat_natCast,hbd]
  have hkm:(A7 n (CR n (i:Int) (k:Int))).mt=CR n (i:Int) (k:Int):=rfl;rw[hm]at e5;simp only at e5;generalize hq:A7 n (CR n (i:Int) (k:Int))=q at*;rw[hm]at hq;rw[hq]at e5
  cases h4:AL q
  ·simp[p277,  e0,e1,e2,e3,e4,e5,e6,c1,s1,h0,h1,h2,h3,h4,y1,y2,hv',hb']
  ·simp[p277,  e0,e1,e2,e3,e4,e5,e6,c1,s1,h0,h1,h2,h3,h4,y1,y2,hv',hb']
 ·simp[p277,  e0,e1,e2,e3,h0,h1,h2,h3,y1,hv']
def UK (x y:AE):Int:=
 if x.prime&&y.prime|| !x.mt.fine&& !y.mt.fine then 0
 else if Fz x.mt.gens y.mt.gens=3 then 0
 else if Fz x.mt.gens y.mt.gens=1 then(if !x.mt.fine||y.prime then 0 else 1)
 else if Fz x.mt.gens y.mt.gens=2 then(if !y.mt.fine||x.prime then 0 else 2)
 else if x.prime&& !x.mt.fine||y.prime&& !y.mt.fine then 0
 else if x.prime|| !y.prime&& !y.mt.fine then 1
 else if y.prime|| !x.mt.fine||decide (y.mt.last>x.mt.last)then 2 else 1
theorem MX (a b:LI):Fz a b=0\/Fz a b=1\/Fz a b=2\/Fz a b=3:=by
 unfold Fz;split
 ·exact .inl rfl
 ·split
  ·exact .inr (.inl rfl)
  ·split
   ·exact .inr (.inr (.inl rfl))
   ·exact .inr (.inr (.inr rfl))
theorem VW [PKI] (x y : AE) (hx : NOk x) (hy : NOk y) : sG 280 [.a (AD (fN x)), .a (AD (fN y))] = some ⟨[.v (.sc (I6 (UK x y)))], [], []⟩ := by
  refine sK p280 ?_;have g1 := hx.gens12;have g2 := hy.gens12;have e := PT x.mt.gens y.mt.gens g1.2.1 g2.2.1 (by omega) (by omega);have hc := MX x.mt.gens y.mt.gens;unfold UK;generalize Fz x.mt.gens y.mt.gens = q at *
  cases h1 : x.prime <;> cases h2 : y.prime <;> cases h3 : x.mt.fine <;> cases h4 : y.mt.fine <;> rcases hc with rfl | rfl | rfl | rfl <;>
    first
    | (simp [p280,  e, h1, h2, h3, h4]; done)
    | (by_cases h5 : y.mt.last > x.mt.last
       · have h6 : ¬ y.mt.last <= x.mt.last := by omega
         simp [p280,  e, h1, h2, h3, h4, h5, h6]
       · have h6 : y.mt.last <= x.mt.last := by omega
         simp [p280,  e, h1, h2, h3, h4, h5, h6])
def J3 (x far:AE):Bool:=x.prime&&x.mt.fine&&decide (far.mt.gens.getD 0 0∈x.mt.gens)
theorem SU [PKI] (x y:AE) (hx:NOk x) (hy:NOk y):sG 279 [.a (AD (fN x)),.a (AD (fN y))]=some ⟨[.v (.sc (.bool (J3 x y)))],[],[]⟩:=by
 refine sK p279 ?_;have g1:=hx.gens12;have g2:=hy.gens12;obtain⟨v,y1,hv,hv',hvd⟩:=AK y.mt.gens (j:=0) (by omega);have e:=Cq x.mt.gens v (by omega);unfold J3;rw[hvd]
 cases h1:x.prime<;>cases h2:x.mt.fine<;>simp[p279,  e,h1,h2,y1,hv']
def EY (x y:AE):Int:=
 if !AL x|| !AL y||decide (x.id=y.id)|| !x.up|| !y.up||x.conn.getD y.id.toNat false||y.conn.getD x.id.toNat false then 0
 else if y.id=2 then bit (J3 x y) 1 else if x.id=2 then 2*bit (J3 y x) 1 else UK x y
theorem H8 [PKI] (x y:AE) (hx:nS x) (hy:nS y):sG 255 [.a (AD (fN x)),.a (AD (fN y))]=some ⟨[.v (.sc (I6 (EY x y)))],[],[]⟩:=by
 refine sK p255 ?_;have e1:=Ab x hx;have e2:=Ab y hy;unfold EY;simp only[AD,lent,fN]at e1 e2
 cases h1:AL x
 ·simp[p255,  e1,h1]
 cases h2:AL y
 ·simp[p255,  e1,e2,h1,h2]
 have nx:=Ai h1;have ny:=Ai h2;obtain⟨i,i3,hi⟩:=nx.nat;obtain⟨j,j3,hj⟩:=ny.nat;obtain⟨cx,q1,hc,hc',hcd⟩:=Aj x.conn (j:=j) (by have:=nx.conn;omega);obtain⟨cy,q2,hd,hd',hdd⟩:=Aj y.conn (j:=i) (by have:=ny.conn;omega);have e3:=SU x y nx ny;have e4:=SU y x ny nx;have e5:=VW x y nx ny;have e6:=Dm (J3 x y);have e7:=Dm (J3 y x);have w1:IntKind.wrap .i64 (bit (J3 x y) 1)=bit (J3 x y) 1:=by cases J3 x y<;>rfl
 have w2:IntKind.wrap .i64 (2*bit (J3 y x) 1)=2*bit (J3 y x) 1:=by cases J3 y x<;>rfl
 simp only[AD,lent,fN]at e3 e4 e5;simp only[hi,hj]at e1 e2 e3 e4 e5 ⊢;simp only[Int.toNat_natCast,hcd,hdd];by_cases h3:(i:Int)=j
 ·simp[p255,  e1,e2,h1,h2,hi,hj,eq_true h3]
 have h3': ¬i=j:=by omega
 cases h4:x.up
 ·rw[h4]at e1 e3 e4 e5;simp[p255,  e1,e2,h1,h2,hi,hj,h3,h3',h4]
 cases h5:y.up
 ·rw[h4]at e1 e3 e4 e5;rw[h5]at e2 e3 e4 e5;simp[p255,  e1,e2,h1,h2,hi,hj,h3,h3',h4,h5]
 rw[h4]at e1 e3 e4 e5;rw[h5]at e2 e3 e4 e5
 cases cx
 ·cases cy
  ·by_cases h6:(j:Int)=2
   ·simp[p255,  e1,e2,h1,h2,hi,hj,h3,h3',h4,h5,q1,q2,hc',hd',eq_true h6,e3,e6,w1]
   ·by_cases h7:(i:Int)=2
    ·simp[p255,  e1,e2,h1,h2,hi,hj,h3,h3',h4,h5,q1,q2,hc',hd',h6,eq_true h7,e4,e7,w2]
    ·simp[p255,  e1,e2,h1,h2,hi,hj,h3,h3',h4,h5,q1,q2,hc',hd',h6,h7,e5]
  ·simp[p255,  e1,e2,h1,h2,hi,hj,h3,h3',h4,h5,q1,q2,hc',hd']
 ·simp[p255,  e1,e2,h1,h2,hi,hj,h3,h3',h4,h5,q1,hc']
def Bj (x y:AE):LI:=if AL x&&AL y then uni (x.mt.bits.getD y.id.toNat []) (y.mt.bits.getD x.id.toNat [])else []
theorem ON [PKI] (x y:AE) (hx:nS x) (hy:nS y):sG 281 [.a (AD (fN x)),.a (AD (fN y))]=some ⟨[.v (.own 1 (enc fI (Bj x y)))],[],[]⟩:=by
 refine sK p281 ?_;have e1:=Ab x hx;have e2:=Ab y hy;simp only[AD,lent,fN]at e1 e2;unfold Bj
 cases h1:AL x
 ·simp[p281,  e1,h1]
 cases h2:AL y
 ·simp[p281,  e1,e2,h1,h2]
 have nx:=Ai h1;have ny:=Ai h2;obtain⟨i,i3,hi⟩:=nx.nat;obtain⟨j,j3,hj⟩:=ny.nat;obtain⟨a,y1,ha,ha',had,ham⟩:=Ah x.mt.bits (j:=j) (by have:=nx.bits3;omega);obtain⟨b,y2,hb,hb',hbd,hbm⟩:=Ah y.mt.bits (j:=i) (by have:=ny.bits3;omega);have l1:=Ec (nx.bit8 a ham);have l2:=Ec (ny.bit8 b hbm);have e3:=XY a b (by omega) (by omega);simp only[hi,hj]at e1 e2 ⊢;simp only[Int.toNat_natCast,had,hbd];simp[p281,  e1,e2,h1,h2,hi,hj,y1,y2,ha',hb',e3]
end Go.Proofs.YtghgecpicnfgpaaGreat.Ow
