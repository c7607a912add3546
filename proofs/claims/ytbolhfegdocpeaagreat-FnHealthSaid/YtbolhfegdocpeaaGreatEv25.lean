/- Functions evaluated on the small machine: A deed: what the reference makes of a world, Sizes of what deeds make. -/
import Derived.Test.YtbolhfegdocpeaaGreatEv24
import Derived.Test.YtbolhfegdocpeaaGreatEv23
import Derived.Test.YtbolhfegdocpeaaGreatEv21
namespace Go.Proofs.YtbolhfegdocpeaaGreat.Ow
open Go
set_option linter.unusedVariables false
set_option linter.unusedSimpArgs false
set_option maxHeartbeats 16000000
variable {PK:Nat->List Arg->Option Res}
theorem UQ {fin:List (Option (List (List T)))} (h:Qw fin):Pk fin:=by
 rcases h with rfl|⟨rows,rfl⟩
 ·exact⟨_,_,rfl⟩
 ·exact⟨_,_,rfl⟩
def QO (w:AB) (kind:Int) (a:Nat) (b:Int):AB×Int:=
 if !inB b 0 2||decide ((a:Int)=b)then(w,2)else if kind=2 then Lm w a b.toNat else if kind=9 then Fx w a b.toNat
 else if !(nd w a).conn.getD b.toNat false then(w,3)else(Db w a b.toNat,0)
theorem Ss (w:AB) (kind:Int) (a:Nat) (b:Int) (hk:kind=2\/kind=3\/kind=9) (ha:a<3) (hw:WI w): ∃fin,Pk fin/\AH G PK md 188 [.a (AD (fWo w)),.a (AJ (fD ⟨kind,a,b⟩))]=some ⟨[.a (AD (fWo (QO w kind a b).1)),.v (.sc (.int .i64 (QO w kind a b).2))],fin,[]⟩:=by
 have e1:=Aj (PK:=PK) b 0 2;unfold QO;have nfin:Pk [none,none,none,none]:=⟨_,_,rfl⟩
 cases hb:inB b 0 2
 ·rw[hb]at e1;refine⟨_,nfin,AA (pf:=p188) rfl (by simp[p188]) ?_⟩;rcases hk with rfl|rfl|rfl<;>simp[p188,md,e1]
 rw[hb]at e1;have rb:=Ab.1 hb;obtain⟨k,rfl⟩: ∃k:Nat,b=(k:Int):=⟨b.toNat,by omega⟩;rcases tfb (a:Int) k with ⟨c1,d1⟩|⟨c1,d1⟩
 ·refine⟨_,nfin,AA (pf:=p188) rfl (by simp[p188]) ?_⟩;have hak:a=k:=by have:=of_eq_true c1;omega
  subst hak;simp[p188,md,e1]
 have hak:a≠k:=fun e=>by subst e;simp at c1
 have c1':(a=k)=False:=eq_false hak;have hdec:decide ((a:Int)=k)=false:=by simp[c1]
 simp only[hdec,Int.toNat_natCast];rcases hk with rfl|rfl|rfl
 ·have e2:=Q3 (PK:=PK) w a k ha (by omega) hak hw;refine⟨_,nfin,AA (pf:=p188) rfl (by simp[p188]) ?_⟩;simp only[AD,AX,fWo]at e2;generalize Lm w a k=r at*;simp (config:={maxSteps:=10000000}) [p188,md,e1,c1,c1',d1,e2]
 ·obtain⟨x,y1,_,hx',hxd,hxm⟩:=Ay w.nodes zN (j:=a) (by have:=hw.n3;omega);have hxa:nd w a=x:=hxd;obtain⟨c,q1,_,cc',hcd⟩:=A1 x.conn (j:=k) (by have:=(hw.node x hxm).b.conn;omega);rw[hxa,hcd]
  cases c
  ·refine⟨_,nfin,AA (pf:=p188) rfl (by simp[p188]) ?_⟩;simp (config:={maxSteps:=10000000}) [p188,md,e1,c1,c1',d1,y1,hx',q1,cc']
  ·have e2:=FV (PK:=PK) w a k hw.n3 ha (by omega) hak (by have:=hw.net;omega) hw.L.c3;refine⟨[none,some (EH w.net a k w.net.length),none,none],⟨_,_,rfl⟩,AA (pf:=p188) rfl (by simp[p188]) ?_⟩;simp only[AD,AX,fWo]at e2;generalize Db w a k=v at*;simp (config:={maxSteps:=10000000}) [p188,md,e1,c1,c1',d1,y1,hx',q1,cc',e2]
 ·obtain⟨fin,hfin,e2⟩:=Od (PK:=PK) w a k ha (by omega) hw;refine⟨fin,UQ hfin,AA (pf:=p188) rfl (by simp[p188]) ?_⟩;simp only[AD,AX,fWo]at e2;generalize Fx w a k=r at*;rcases hfin with rfl|⟨rows,rfl⟩<;>simp (config:={maxSteps:=10000000}) [p188,md,e1,c1,c1',d1,e2]
def LY (w:AB) (d:D5):AB×Int:=
 if d.kind=7\/d.kind=8 then Lt w d.kind d.a
 else if !inB d.a 0 2||decide (d.kind=1)&& !inB d.b 0 7 then(w,2)
 else if d.kind=1 then Hv w d.a.toNat d.b
 else if d.kind=2\/d.kind=3\/d.kind=9 then QO w d.kind d.a.toNat d.b
 else if d.kind=4\/d.kind=5\/d.kind=6 then L1 w d.kind d.a.toNat d.b
 else if d.a=2 then(w,3)else LL w d.kind d.a.toNat (1 - d.a.toNat)
theorem QM {w:AB} (h:BV w=true) (hw:wS w) {a:Nat} (ha:a<3):DnI a ⟨w,0,[]⟩:=by
 refine⟨BT h hw,.inl rfl,?_⟩;have hN:=Ha h;have h1:=(Li (hN.ok a ha) ha).2;unfold Jf;simp only[Int.toNat_natCast]
 cases hc:(nd w a).conn.getD a false
 ·rfl
 ·exact absurd (hN.id a ha).symm (h1 hc)
theorem Ox {w:AB} (h:BV w=true):0<=w.gen/\w.gen<=100000:=by
 unfold BV at h;simp only[Bool.and_eq_true]at h;have:=Ab.1 h.1.1.1.1.2;omega
theorem Su (w:AB) (d:D5) (hk:1<=d.kind/\d.kind<=12) (hok:BV w=true) (hw:wS w): ∃fin,Pk fin/\AH G PK md 177 [.a (AD (fWo w)),.a (AJ (fD d))]=some ⟨[.a (AD (fWo (LY w d).1)),.v (.sc (.int .i64 (LY w d).2))],fin,[]⟩:=by
 obtain⟨kind,a0,b⟩:=d;simp only at hk;have hWI:=BT hok hw;unfold LY;simp only;by_cases h78:kind=7\/kind=8
 ·obtain⟨fin,hfin,e2⟩:=Q4 (PK:=PK) w kind a0 b h78 hok hw;refine⟨fin,hfin,AA (pf:=p177) rfl (by simp[p177]) ?_⟩;rw[if_pos h78];simp only[AD,AX,fWo,AJ,lent,fD]at e2;generalize Lt w kind a0=r at*;obtain⟨A,B,rfl⟩:=hfin;rcases h78 with rfl|rfl<;>cases A<;>cases B<;>simp (config:={maxSteps:=10000000}) [p177,md,e2]
 have h7: ¬kind=7:=fun h=>h78 (.inl h)
 have h8: ¬kind=8:=fun h=>h78 (.inr h)
 rw[if_neg h78];have e1:=Aj (PK:=PK) a0 0 2;have e3:=Aj (PK:=PK) b 0 7;have nfin:Pk [none,none,none,none]:=⟨_,_,rfl⟩
 cases ha:inB a0 0 2
 ·rw[ha]at e1;refine⟨_,nfin,AA (pf:=p177) rfl (by simp[p177]) ?_⟩;simp (config:={maxSteps:=10000000}) [p177,md,e1,h7,h8]
 rw[ha]at e1;have ra:=Ab.1 ha;obtain⟨a,rfl⟩: ∃a:Nat,a0=(a:Int):=⟨a0.toNat,by omega⟩;simp only[Int.toNat_natCast];by_cases h1:kind=1
 ·subst h1
  cases hb:inB b 0 7
  ·rw[hb]at e3;refine⟨_,nfin,AA (pf:=p177) rfl (by simp[p177]) ?_⟩;simp (config:={maxSteps:=10000000}) [p177,md,e1,e3]
  ·rw[hb]at e3;obtain⟨fin,hfin,e2⟩:=Pu (PK:=PK) w a b (by omega) hWI;refine⟨fin,hfin,AA (pf:=p177) rfl (by simp[p177]) ?_⟩;simp only[AD,AX,fWo]at e2;generalize Hv w a b=r at*;obtain⟨A,B,rfl⟩:=hfin
   cases A<;>cases B<;>simp (config:={maxSteps:=10000000}) [p177,md,e1,e3,e2]
 have hd1:(!true||decide (kind=1)&& !inB b 0 7)=false:=by simp[h1]
 rw[hd1];by_cases h2:kind=2\/kind=3\/kind=9
 ·obtain⟨fin,hfin,e2⟩:=Ss (PK:=PK) w kind a b h2 (by omega) hWI;refine⟨fin,hfin,AA (pf:=p177) rfl (by simp[p177]) ?_⟩;rw[if_neg (by simp),if_neg h1,if_pos h2];simp only[AD,AX,fWo,AJ,lent,fD]at e2;generalize QO w kind a b=r at*;obtain⟨A,B,rfl⟩:=hfin;rcases h2 with rfl|rfl|rfl<;>cases A<;>cases B<;>simp (config:={maxSteps:=10000000}) [p177,md,e1,e2]
 by_cases h4:kind=4\/kind=5\/kind=6
 ·obtain⟨fin,hfin,e2⟩:=Q5 (PK:=PK) w kind a b (by omega) (QM hok hw (by omega));refine⟨fin,UQ hfin,AA (pf:=p177) rfl (by simp[p177]) ?_⟩;rw[if_neg (by simp),if_neg h1,if_neg h2,if_pos h4];simp only[AD,AX,fWo,AJ,lent,fD]at e2;generalize L1 w kind a b=r at*;rcases h4 with rfl|rfl|rfl<;>rcases hfin with rfl|⟨rows,rfl⟩<;>simp (config:={maxSteps:=10000000}) [p177,md,e1,e2]
 have hk2:kind=10\/kind=11\/kind=12:=by omega
 rw[if_neg (by simp),if_neg h1,if_neg h2,if_neg h4];by_cases ha2:(a:Int)=2
 ·have ha2':a=2:=by omega
  subst ha2';have e2:=Pv (PK:=PK) w kind b;refine⟨_,nfin,AA (pf:=p177) rfl (by simp[p177]) ?_⟩;rw[if_pos ha2];rw[show ((2:Nat):Int)=2 from rfl]at e1 ⊢;simp only[AD,AX,fWo,AJ,lent,fD]at e2;rcases hk2 with rfl|rfl|rfl<;>simp (config:={maxSteps:=10000000}) [p177,md,e1,e2]
 ·obtain⟨fin,hfin,e2⟩:=Q1 (PK:=PK) w kind b a (1 - a) (by omega) hWI (Ox hok);refine⟨fin,hfin,AA (pf:=p177) rfl (by simp[p177]) ?_⟩;rw[if_neg ha2];simp only[AD,AX,fWo,AJ,lent,fD]at e2;generalize LL w kind a (1 - a)=r at*;obtain⟨A,B,rfl⟩:=hfin;rcases hk2 with rfl|rfl|rfl<;>cases A<;>cases B<;>simp (config:={maxSteps:=10000000}) [p177,md,e1,e2]
structure WK (w:AB):Prop where
 n3:w.nodes.length=3
 node: ∀x∈w.nodes,nB x
 net:w.net.length<=2000
 wire: ∀x∈w.net,byt x.bytes
 log:w.log.length<=2000
 safe:w.safe.length<=2000
theorem WK.S {w:AB} (h:WK w):wS w:=⟨by have:=h.n3;omega,fun x hx=>(h.node x hx).nS,by have:=h.net;omega,h.wire,by have:=h.log;omega,by have:=h.safe;omega⟩
theorem WI.K {w:AB} (h:WI w):WK w:=⟨h.n3,fun x hx=>(h.node x hx).b,by have:=h.net;omega,h.wire,by have:=h.log;omega,by have:=h.safe;omega⟩
theorem WK.L {w:AB} (h:WK w):WL w:=⟨h.n3,fun x hx=>⟨(h.node x hx).conn,(h.node x hx).copies,(h.node x hx).sync⟩,h.net⟩
theorem WK.nd {w:AB} (h:WK w) {i:Nat} (hi:i<3):nB (Ow.nd w i):=h.node _ (OH (by have:=h.n3;omega))
theorem DH {w:AB} {k:Nat} {n:AG} (h:WK w) (hn:nB n):WK {w with nodes:=w.nodes.set k n}:=by
 refine⟨by simp only[List.length_set];exact h.n3,fun x hx=> ?_,h.net,h.wire,h.log,h.safe⟩;rcases List.mem_or_eq_of_mem_set hx with hx|rfl
 ·exact h.node x hx
 ·exact hn
theorem R5 {n:AG} {k:Nat} (h:nB n):nB (E5 n k):=
 ⟨h.image,h.gens,h.bits,h.bit,h.sl,by unfold E5;simp only[List.length_set];exact h.conn,by unfold E5;simp only[List.length_set];exact h.sync,fun x hx=>by
  rcases List.mem_or_eq_of_mem_set hx with hx|rfl
  ·exact h.syn x hx
  ·simp,by unfold E5;simp only[List.length_set];exact h.copies,h.wait⟩
theorem Kp {w:AB} {a b:Nat} (h:WK w) (ha:a<3) (hb:b<3):WK (Db w a b):=by
 have h1:WK {w with nodes:=w.nodes.set a (E5 (Ow.nd w a) b)}:=DH h (R5 (h.nd ha));have h2:=DH (k:=b) h1 (R5 (k:=a) (h.nd hb));exact⟨h2.n3,h2.node,by have:=List.length_filter_le (DS a b) w.net;have:=h.net;unfold Db;simp only;omega,fun x hx=>h.wire x (List.mem_filter.1 hx).1,h.log,h.safe⟩
theorem Sb (a b:Int) (m:BI):byt (Ro a b m):=by
 unfold Ro;split
 ·exact⟨by have:=O6 (Dg [m]);unfold Qm;omega,LA _ (Ir _)⟩
 ·exact⟨by have:=DM m;omega,Eu m⟩
theorem TI {w:AB} {p:Ci} (h:WK w) (hp:Hd p):WK (J0 w p):=by
 have hl:=O7 h.L hp;obtain⟨i,k,hi,hk,_,h1,h2,_⟩:=hp;unfold J0 at hl ⊢;rw[h1,h2]at hl ⊢;simp only[Int.toNat_natCast]at hl ⊢;split
 ·split
  ·exact Kp h hi hk
  ·rename_i h3 h4;refine⟨h.n3,h.node,by simp only[List.length_append,List.length_cons,List.length_nil];omega,fun x hx=> ?_,h.log,h.safe⟩;rcases List.mem_append.1 hx with hx|hx
   ·exact h.wire x hx
   ·rw[List.mem_singleton.1 hx];exact Sb _ _ _
 ·exact h
theorem Ii {l:List Ci} (hp: ∀p∈l,Hd p): ∀ {w:AB},WK w->WK (F7 w l):=by
 induction l with
 |nil=>intro w h;exact h
 |cons p l ih=>
  intro w h;exact ih (fun q hq=>hp q (List.mem_cons_of_mem _ hq)) (TI h (hp p List.mem_cons_self))
theorem US {n:AG} (h:nB n):nB (Nd n):=by
 unfold Nd;split
 ·exact⟨h.image,h.gens,h.bits,h.bit,h.sl,rfl,rfl,fun x hx=>by simp[P4]at hx;subst hx;simp,rfl,by simp[P4]⟩
 ·exact h
theorem TN {n:AG} (h:nB n):nB (NF n):=by
 unfold NF;split
 ·exact h
 ·rename_i hc;have hk:Am n=true:=by
   cases hk:Am n
   ·simp[hk]at hc
   ·rfl
  have hs:=(A3 hk).same;exact⟨h.image,by simp only[hs];exact h.gens,by simp only[hs];exact h.bits,by simp only[hs];exact h.bit,h.sl,h.conn,h.sync,h.syn,h.copies,h.wait⟩
theorem T8 {s t:AG} (hs:nB s) (ht:nB t):nB (FO s t).1/\nB (FO s t).2.1:=by
 unfold FO;split
 ·exact⟨Pc hs,Pb ht⟩
 ·exact⟨hs,ht⟩
theorem NU {w:AB} {a b:Nat} (h:WK w) (ha:a<3) (hb:b<3):WK (Ll w a b).1:=by
 unfold Ll;obtain⟨h1,h2⟩:=T8 (h.nd ha) (h.nd hb);split
 ·exact DH (w:={w with nodes:=w.nodes.set a (FO (Ow.nd w a) (Ow.nd w b)).1}) (DH h h1) h2
 ·exact h
theorem T7 {w:AB} {a b:Nat} (h:WK w) (ha:a<3) (hb:b<3):WK (Lm w a b).1:=by
 unfold Lm;split
 ·exact h
 ·split
  ·exact NU h hb ha
  ·exact NU h ha hb
theorem RU {w:AB} {l:List Int} (h:WK w) (hs:w.safe.length+l.length<=2000):WK (Eo w l):=
 ⟨h.n3,h.node,h.net,h.wire,h.log,by have:=GQ l w.safe;unfold Eo;simp only;omega⟩
theorem SF {w:AB} {a:Nat} {cell:Int} (h:WI w) (ha:a<3):WK (Kt w a cell):=by
 unfold Kt;simp only;have hr:=JK (cell:=cell) (val:=(w.log.length+1:Nat)) (h.nd ha);have hps:=Ff (cell:=cell) (val:=(w.log.length+1:Nat)) (i:=a) (h.id a ha) ha;have h3:WK {w with log:=w.log++[⟨cell,(nd w a).mt.last⟩],nodes:=w.nodes.set a (DE (nd w a) cell (w.log.length+1:Nat)).1}:=by
  have h2:=DH (k:=a) h.K hr.1;exact⟨h2.n3,h2.node,h2.net,h2.wire,by have:=h.log;simp only[List.length_append,List.length_cons,List.length_nil];omega,h2.safe⟩
 split
 ·exact Ii hps h3
 ·exact Ii hps (RU h3 (by have:=h.safe;simp only[List.length_cons,List.length_nil];omega))
theorem SE {w:AB} {a:Nat} {cell:Int} (h:WI w) (ha:a<3):WK (Hv w a cell).1:=by
 unfold Hv;split
 ·exact h.K
 ·split
  ·exact h.K
  ·rename_i hm _;have h1:WI (if JL w a then Db w a 2 else w):=by
    split
    ·have hm':EY (nd w a)=true:=by simpa using hm
     obtain⟨nx,hpr⟩:=J8 hm';have ha2:a≠2:=by
      have:=nx.prime hpr;have hid:=h.id a ha;intro e;subst e;exact this.2 hid
     exact Oi h ha (by omega) ha2
    ·exact h
   generalize (if JL w a=true then Db w a 2 else w)=v at h1 ⊢;split
   ·exact h1.K
   ·exact SF h1 ha
theorem dnF_WK {a:Nat} (ha:a<3) {s:SdS} {k:Nat} (hk:k<3) (h:WK s.w):WK (dnF a s k).w:=by
 unfold dnF;split
 ·exact Kp h ha hk
 ·exact h
theorem P3 {w:AB} {a:Nat} (ha:a<3) (h:WK w): ∀j,j<=3->WK ((List.range j).foldl (dnF a) ⟨w,0,[]⟩).w
 |0,_=>h
 |j+1,hj=>by rw[GV];exact dnF_WK ha (by omega) (P3 ha h j (by omega))
theorem UY {w:AB} {a:Nat} (ha:a<3) (h:WK w):WK (No w a):=by
 have h1:=P3 ha h 3 (by omega);exact DH (w:=(Nn w a).w) h1 (US (h1.nd ha))
theorem UR {w:AB} {kind:Int} {a:Nat} {b:Int} (h:WI w) (ha:a<3):WK (L1 w kind a b).1:=by
 unfold L1;split
 ·split
  ·exact h.K
  ·exact DH h.K (TN (h.K.nd ha))
 ·split
  ·exact h.K
  ·rename_i hc;refine UY ha ?_;split
   ·rename_i h6;have hb:b<=155:=by
     cases hb:inB b 0 155
     ·exfalso;apply hc;simp[h6,hb]
     ·exact(Ab.1 hb).2
    exact DH h.K (O3 (h.nd ha) hb).b
   ·exact h.K
theorem RE {w:AB} {a b:Nat} (h:WI w) (ha:a<3) (hb:b<3):WK (Fx w a b).1:=by
 unfold Fx;split
 ·exact h.K
 ·split
  ·exact h.K
  ·exact Ii (KK (h.id a ha) ha hb (by have:=(h.nd ha).gens;omega)) (DH h.K (P8 (h.nd ha)).1)
theorem UE {x y:AG} {g:Int} (hx:nC x) (hy:nC y):nB (Gn x y g).1/\nB (Gn x y g).2.1:=by
 have gl:=Gs x.mt.gens g;have hg:=hx.gens;have kx:=Es hx.b {x.mt with held:=true,gens:=C0 x.mt.gens g} (by simp only;omega) hx.b.bits hx.b.bit;have ky:=Es hy.b {y.mt with old:=true,held:=false} hy.b.gens hy.b.bits hy.b.bit;unfold Gn;split
 ·exact⟨⟨kx.image,kx.gens,kx.bits,kx.bit,kx.sl,kx.conn,kx.sync,kx.syn,kx.copies,by simp[Lq]⟩,ky⟩
 ·exact⟨hx.b,hy.b⟩
theorem TM {w:AB} {kind:Int} {a b:Nat} (h:WI w) (ha:a<3) (hb:b<3):WK (LL w kind a b).1:=by
 unfold LL;split
 ·obtain⟨h1,h2⟩:=UE (g:=w.gen) (h.nd ha) (h.nd hb);split
  ·have h3:=DH (k:=b) (DH (k:=a) h.K h1) h2;refine⟨h3.n3,h3.node,h3.net,h3.wire,h3.log,?_⟩;have:=GQ (nd w a).wait w.safe;have:=(h.nd ha).wait;have:=h.safe;simp only;omega
  ·exact h.K
 ·split
  ·split
   ·refine DH h.K ?_;have hn:=h.K.nd ha;unfold Lj;split
    ·exact⟨hn.image,hn.gens,hn.bits,hn.bit,hn.sl,hn.conn,hn.sync,hn.syn,hn.copies,hn.wait⟩
    ·exact hn
   ·exact h.K
  ·split
   ·refine DH h.K ?_;have hn:=h.K.nd ha;unfold IF;split
    ·exact⟨hn.image,hn.gens,hn.bits,hn.bit,hn.sl,hn.conn,hn.sync,hn.syn,hn.copies,by simp⟩
    ·exact hn
   ·exact h.K
theorem twoW_WK {w:AB} {kind:Int} {a:Nat} {b:Int} (h:WI w) (ha:a<3):WK (QO w kind a b).1:=by
 unfold QO;split
 ·exact h.K
 ·rename_i hc;have hb:b.toNat<3:=by
   cases hb:inB b 0 2
   ·exfalso;apply hc;simp[hb]
   ·have:=Ab.1 hb;omega
  split
  ·exact T7 h.K ha hb
  ·split
   ·exact RE h ha hb
   ·split
    ·exact h.K
    ·exact Kp h.K ha hb
theorem UH {w:AB} {kind a:Int} (hok:BV w=true) (hw:wS w):WK (Lt w kind a).1:=by
 have h:=BT hok hw;unfold Lt;split
 ·exact h.K
 ·rename_i hb;have hb1:=Ab.1 (show inB a 0 ((w.net.length:Int) - 1)=true by simpa using hb);split
  ·split
   ·exact h.K
   ·refine⟨h.K.n3,h.K.node,by simp only[List.length_set];exact h.K.net,fun x hx=> ?_,h.K.log,h.K.safe⟩;rcases List.mem_or_eq_of_mem_set hx with hx|rfl
    ·exact h.wire x hx
    ·obtain⟨x,_,_,_,hd,hm⟩:=Ay w.net zW (j:=a.toNat) (by omega);rw[hd];have:=h.wire x hm;exact⟨by simp only[List.length_dropLast];have:=this.1;omega,fun y hy=>this.2 y (by rw[List.dropLast_eq_take]at hy;exact List.mem_of_mem_take hy)⟩
  ·simp only;have hle:=NO (w:=w) (k:=a.toNat) (by omega);obtain⟨i,q,hi1,hq1,hi,hq,hiq,_⟩:=If hok (j:=DO w a.toNat) (by omega);have h1:WK {w with net:=w.net.take (DO w a.toNat)++w.net.drop (DO w a.toNat+1)}:=by
    refine⟨h.K.n3,h.K.node,?_,fun x hx=> ?_,h.K.log,h.K.safe⟩
    ·have:=h.net;simp only[List.length_append,List.length_take,List.length_drop];omega
    ·rcases List.mem_append.1 hx with hx|hx
     ·exact h.wire x (List.mem_of_mem_take hx)
     ·exact h.wire x (List.mem_of_mem_drop hx)
   rw[hi1,hq1];split
   ·exact Kp h1 hi hq
   ·rename_i m hm;have hg:=LO hm;unfold UJ;simp only[hi1,hq1,Int.toNat_natCast];have hnq:=h.nd hq;simp only[show ∀N:List DC,nd {w with net:=N} q=nd w q from fun _=>rfl];refine Ii (KC (i:=q) (h.id q hq) hq) (RU (DH h1 (Pg hnq (by omega))) ?_);have:=List.length_filter_le (fun n=> !decide (n∈(F9 (nd w q) i m).1.wait)) (nd w q).wait;have:=hnq.wait;have:=h.safe;simp only;omega
theorem Rc {w:AB} {d:D5} (hok:BV w=true) (hw:wS w):WK (LY w d).1:=by
 have h:=BT hok hw;unfold LY;split
 ·exact UH hok hw
 ·split
  ·exact h.K
  ·rename_i hc;have ha:inB d.a 0 2=true:=by
    cases ha:inB d.a 0 2
    ·exfalso;apply hc;simp[ha]
    ·rfl
   have ha1:=Ab.1 ha;split
   ·exact SE h (by omega)
   ·split
    ·exact twoW_WK h (by omega)
    ·split
     ·exact UR h (by omega)
     ·split
      ·exact h.K
      ·exact TM h (by omega) (by omega)
end Go.Proofs.YtbolhfegdocpeaaGreat.Ow
