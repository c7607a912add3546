/- Functions evaluated on the small machine: Sizes of what deeds make, A deed: what the reference makes of a world, Places of numbers, where what is looked for is told by a function that has caught one thing. -/
import Derived.Test.YtghgecpicnfgpaaGreatEv19
import Derived.Test.YtghgecpicnfgpaaGreatEv9
import Derived.Test.YtghgecpicnfgpaaGreatEv8
namespace Go.Proofs.YtghgecpicnfgpaaGreat.Ow
open Go
set_option linter.unusedVariables false
set_option linter.unusedSimpArgs false
set_option maxHeartbeats 8000000
structure WK (w:AB):Prop where
 n3:w.nodes.length=3
 node: ∀x∈w.nodes,nB x
 net:w.net.length<=2000
 wire: ∀x∈w.net,byt x.bytes
 log:w.log.length<=2000
 safe:w.safe.length<=2000
theorem WK.S {w:AB} (h:WK w):wS w:=⟨by have:=h.n3;omega,λx hx=>(h.node x hx).nS,by have:=h.net;omega,h.wire,by have:=h.log;omega,by have:=h.safe;omega⟩
theorem WI.K {w:AB} (h:WI w):WK w:=⟨h.n3,λx hx=>(h.node x hx).b,by have:=h.net;omega,h.wire,by have:=h.log;omega,by have:=h.safe;omega⟩
theorem WK.L {w:AB} (h:WK w):WL w:=⟨h.n3,λx hx=>⟨(h.node x hx).conn,(h.node x hx).copies,(h.node x hx).sync⟩,h.net⟩
theorem WK.nd {w:AB} (h:WK w) {i:Nat} (hi:i<3):nB (Ow.nd w i):=h.node _ (Qn (by have:=h.n3;omega))
theorem ED {w:AB} {k:Nat} {n:AE} (h:WK w) (hn:nB n):WK {w with nodes:=w.nodes.set k n}:=by
 refine⟨by simp only[List.length_set];exact h.n3,λx hx=> ?_,h.net,h.wire,h.log,h.safe⟩;rcases List.mem_or_eq_of_mem_set hx with hx|rfl
 ·exact h.node x hx
 ·exact hn
theorem Uo {n:AE} {k:Nat} (h:nB n):nB (Cr n k):=
 ⟨h.image,h.gens,h.bits,h.bit,h.sl,by unfold Cr;simp only[List.length_set];exact h.conn,by unfold Cr;simp only[List.length_set];exact h.sync,λx hx=>by
  rcases List.mem_or_eq_of_mem_set hx with hx|rfl
  ·exact h.syn x hx
  ·simp,by unfold Cr;simp only[List.length_set];exact h.copies,h.wait⟩
theorem NN {w:AB} {a b:Nat} (h:WK w) (ha:a<3) (hb:b<3):WK (CQ w a b):=by
 have h1:WK {w with nodes:=w.nodes.set a (Cr (Ow.nd w a) b)}:=ED h (Uo (h.nd ha));have h2:=ED (k:=b) h1 (Uo (k:=a) (h.nd hb));exact⟨h2.n3,h2.node,by have:=List.length_filter_le (CW a b) w.net;have:=h.net;unfold CQ;simp only;omega,λx hx=>h.wire x (List.mem_filter.1 hx).1,h.log,h.safe⟩
theorem VM (a b:Int) (m:A2):byt (Pz a b m):=by
 unfold Pz;split
 ·exact⟨by have:=Ro (DY [m]);unfold Lg;omega,Jd _ (GX _)⟩
 ·exact⟨by have:=DN m;omega,Eo m⟩
theorem V8 {w:AB} {p:Bz} (h:WK w) (hp:GU p):WK (FU w p):=by
 have hl:=Nc h.L hp;obtain⟨i,k,hi,hk,_,h1,h2,_⟩:=hp;unfold FU at hl ⊢;rw[h1,h2]at hl ⊢;simp only[Int.toNat_natCast]at hl ⊢;split
 ·split
  ·exact NN h hi hk
  ·rename_i h3 h4;refine⟨h.n3,h.node,by simp only[List.length_append,List.length_cons,List.length_nil];omega,λx hx=> ?_,h.log,h.safe⟩;rcases List.mem_append.1 hx with hx|hx
   ·exact h.wire x hx
   ·rw[List.mem_singleton.1 hx];exact VM _ _ _
 ·exact h
theorem KR {l:List Bz} (hp: ∀p∈l,GU p): ∀ {w:AB},WK w->WK (DA w l):=by
 induction l with
 |nil=>intro w h;exact h
 |cons p l ih=>
  intro w h;exact ih (λq hq=>hp q (List.mem_cons_of_mem _ hq)) (V8 h (hp p List.mem_cons_self))
theorem XK {n:AE} (h:nB n):nB (H6 n):=by
 unfold H6;split
 ·exact⟨h.image,h.gens,h.bits,h.bit,h.sl,rfl,rfl,λx hx=>by simp[QL]at hx;subst hx;simp,rfl,by simp[QL]⟩
 ·exact h
theorem WD {n:AE} (h:nB n):nB (KW n):=by
 unfold KW;split
 ·exact h
 ·rename_i hc;have hk:AL n=true:=by
   cases hk:AL n
   ·simp[hk]at hc
   ·rfl
  have hs:=(Ai hk).same;exact⟨h.image,by simp only[hs];exact h.gens,by simp only[hs];exact h.bits,by simp only[hs];exact h.bit,h.sl,h.conn,h.sync,h.syn,h.copies,h.wait⟩
theorem W2 {s t:AE} (hs:nB s) (ht:nB t):nB (EK s t).1/\nB (EK s t).2.1:=by
 unfold EK;split
 ·exact⟨N4 hs,N3 ht⟩
 ·exact⟨hs,ht⟩
theorem P4 {w:AB} {a b:Nat} (h:WK w) (ha:a<3) (hb:b<3):WK (Ls w a b).1:=by
 unfold Ls;obtain⟨h1,h2⟩:=W2 (h.nd ha) (h.nd hb);split
 ·exact ED (w:={w with nodes:=w.nodes.set a (EK (Ow.nd w a) (Ow.nd w b)).1}) (ED h h1) h2
 ·exact h
theorem W0 {w:AB} {a b:Nat} (h:WK w) (ha:a<3) (hb:b<3):WK (H0 w a b).1:=by
 unfold H0;split
 ·exact h
 ·split
  ·exact P4 h hb ha
  ·exact P4 h ha hb
theorem UG {w:AB} {l:LI} (h:WK w) (hs:w.safe.length+l.length<=2000):WK (El w l):=
 ⟨h.n3,h.node,h.net,h.wire,h.log,by have:=GQ l w.safe;unfold El;simp only;omega⟩
theorem Ux {w:AB} {a:Nat} {cell:Int} (h:WI w) (ha:a<3):WK (JV w a cell):=by
 unfold JV;simp only;have hr:=GN (cell:=cell) (val:=(w.log.length+1:Nat)) (h.nd ha);have hps:=EA (cell:=cell) (val:=(w.log.length+1:Nat)) (i:=a) (h.id a ha) ha;have h3:WK {w with log:=w.log++[⟨cell,(nd w a).mt.last⟩],nodes:=w.nodes.set a (Bd (nd w a) cell (w.log.length+1:Nat)).1}:=by
  have h2:=ED (k:=a) h.K hr.1;exact⟨h2.n3,h2.node,h2.net,h2.wire,by have:=h.log;simp only[List.length_append,List.length_cons,List.length_nil];omega,h2.safe⟩
 split
 ·exact KR hps h3
 ·exact KR hps (UG h3 (by have:=h.safe;simp only[List.length_cons,List.length_nil];omega))
theorem Uw {w:AB} {a:Nat} {cell:Int} (h:WI w) (ha:a<3):WK (FT w a cell).1:=by
 unfold FT;split
 ·exact h.K
 ·split
  ·exact h.K
  ·rename_i hm _;have h1:WI (if JU w a then CQ w a 2 else w):=by
    split
    ·have hm':Dh (nd w a)=true:=by simpa using hm
     obtain⟨nx,hpr⟩:=Hu hm';have ha2:a≠2:=by
      have:=nx.prime hpr;have hid:=h.id a ha;intro e;subst e;exact this.2 hid
     exact LL h ha (by omega) ha2
    ·exact h
   generalize (if JU w a=true then CQ w a 2 else w)=v at h1 ⊢;split
   ·exact h1.K
   ·exact Ux h1 ha
theorem dnF_WK {a:Nat} (ha:a<3) {s:SdS} {k:Nat} (hk:k<3) (h:WK s.w):WK (dnF a s k).w:=by
 unfold dnF;split
 ·exact NN h ha hk
 ·exact h
theorem Sh {w:AB} {a:Nat} (ha:a<3) (h:WK w): ∀j,j<=3->WK ((List.range j).foldl (dnF a) ⟨w,0,[]⟩).w
 |0,_=>h
 |j+1,hj=>by rw[CM];exact dnF_WK ha (by omega) (Sh ha h j (by omega))
theorem Xg {w:AB} {a:Nat} (ha:a<3) (h:WK w):WK (Ml w a):=by
 have h1:=Sh ha h 3 (by omega);exact ED (w:=(On w a).w) h1 (XK (h1.nd ha))
theorem XJ {w:AB} {kind:Int} {a:Nat} {b:Int} (h:WI w) (ha:a<3):WK (F3 w kind a b).1:=by
 unfold F3;split
 ·split
  ·exact h.K
  ·exact ED h.K (WD (h.K.nd ha))
 ·split
  ·exact h.K
  ·rename_i hc;refine Xg ha ?_;split
   ·rename_i h6;have hb:b<=155:=by
     cases hb:inB b 0 155
     ·exfalso;apply hc;simp[h6,hb]
     ·exact(AP.1 hb).2
    exact ED h.K (NW (h.nd ha) hb).b
   ·exact h.K
theorem T1 {w:AB} {a b:Nat} (h:WI w) (ha:a<3) (hb:b<3):WK (EP w a b).1:=by
 unfold EP;split
 ·exact h.K
 ·split
  ·exact h.K
  ·exact KR (IL (h.id a ha) ha hb (by have:=(h.nd ha).gens;omega)) (ED h.K (Ot (h.nd ha)).1)
theorem W8 {x y:AE} {g:Int} (hx:nC x) (hy:nC y):nB (FG x y g).1/\nB (FG x y g).2.1:=by
 have gl:=F2 x.mt.gens g;have hg:=hx.gens;have kx:=Dq hx.b {x.mt with held:=true,gens:=CE x.mt.gens g} (by simp only;omega) hx.b.bits hx.b.bit;have ky:=Dq hy.b {y.mt with old:=true,held:=false} hy.b.gens hy.b.bits hy.b.bit;unfold FG;split
 ·exact⟨⟨kx.image,kx.gens,kx.bits,kx.bit,kx.sl,kx.conn,kx.sync,kx.syn,kx.copies,by simp[Kn]⟩,ky⟩
 ·exact⟨hx.b,hy.b⟩
theorem WC {w:AB} {kind:Int} {a b:Nat} (h:WI w) (ha:a<3) (hb:b<3):WK (Hh w kind a b).1:=by
 unfold Hh;split
 ·obtain⟨h1,h2⟩:=W8 (g:=w.gen) (h.nd ha) (h.nd hb);split
  ·have h3:=ED (k:=b) (ED (k:=a) h.K h1) h2;refine⟨h3.n3,h3.node,h3.net,h3.wire,h3.log,?_⟩;have:=GQ (nd w a).wait w.safe;have:=(h.nd ha).wait;have:=h.safe;simp only;omega
  ·exact h.K
 ·split
  ·split
   ·refine ED h.K ?_;have hn:=h.K.nd ha;unfold Hz;split
    ·exact⟨hn.image,hn.gens,hn.bits,hn.bit,hn.sl,hn.conn,hn.sync,hn.syn,hn.copies,hn.wait⟩
    ·exact hn
   ·exact h.K
  ·split
   ·refine ED h.K ?_;have hn:=h.K.nd ha;unfold Fa;split
    ·exact⟨hn.image,hn.gens,hn.bits,hn.bit,hn.sl,hn.conn,hn.sync,hn.syn,hn.copies,by simp⟩
    ·exact hn
   ·exact h.K
theorem twoW_WK {w:AB} {kind:Int} {a:Nat} {b:Int} (h:WI w) (ha:a<3):WK (QX w kind a b).1:=by
 unfold QX;split
 ·exact h.K
 ·rename_i hc;have hb:b.toNat<3:=by
   cases hb:inB b 0 2
   ·exfalso;apply hc;simp[hb]
   ·have:=AP.1 hb;omega
  split
  ·exact W0 h.K ha hb
  ·split
   ·exact T1 h ha hb
   ·split
    ·exact h.K
    ·exact NN h.K ha hb
theorem XB {w:AB} {kind a:Int} (hok:Ap w=true) (hw:wS w):WK (F1 w kind a).1:=by
 have h:=A9 hok hw;unfold F1;split
 ·exact h.K
 ·rename_i hb;have hb1:=AP.1 (show inB a 0 ((w.net.length:Int) - 1)=true by simpa using hb);split
  ·split
   ·exact h.K
   ·refine⟨h.K.n3,h.K.node,by simp only[List.length_set];exact h.K.net,λx hx=> ?_,h.K.log,h.K.safe⟩;rcases List.mem_or_eq_of_mem_set hx with hx|rfl
    ·exact h.wire x hx
    ·obtain⟨x,_,_,_,hd,hm⟩:=AX w.net zW (j:=a.toNat) (by omega);rw[hd];have:=h.wire x hm;exact⟨by simp only[List.length_dropLast];have:=this.1;omega,λy hy=>this.2 y (by rw[List.dropLast_eq_take]at hy;exact List.mem_of_mem_take hy)⟩
  ·simp only;have hle:=Lq (w:=w) (k:=a.toNat) (by omega);obtain⟨i,q,hi1,hq1,hi,hq,hiq,_⟩:=Gv hok (j:=Cv w a.toNat) (by omega);have h1:WK {w with net:=w.net.take (Cv w a.toNat)++w.net.drop (Cv w a.toNat+1)}:=by
    refine⟨h.K.n3,h.K.node,?_,λx hx=> ?_,h.K.log,h.K.safe⟩
    ·have:=h.net;simp only[List.length_append,List.length_take,List.length_drop];omega
    ·rcases List.mem_append.1 hx with hx|hx
     ·exact h.wire x (List.mem_of_mem_take hx)
     ·exact h.wire x (List.mem_of_mem_drop hx)
   rw[hi1,hq1];split
   ·exact NN h1 hi hq
   ·rename_i m hm;have hg:=Jh hm;unfold Ud;simp only[hi1,hq1,Int.toNat_natCast];have hnq:=h.nd hq;simp only[show ∀N:List BD,nd {w with net:=N} q=nd w q from λ_=>rfl];refine KR (H2 (i:=q) (h.id q hq) hq) (UG (ED h1 (N6 hnq (by omega))) ?_);have:=List.length_filter_le (λn=> !decide (n∈(Di (nd w q) i m).1.wait)) (nd w q).wait;have:=hnq.wait;have:=h.safe;simp only;omega
theorem NJ {w:AB} {d:CD} (hok:Ap w=true) (hw:wS w):WK (FW w d).1:=by
 have h:=A9 hok hw;unfold FW;split
 ·exact XB hok hw
 ·split
  ·exact h.K
  ·rename_i hc;have ha:inB d.a 0 2=true:=by
    cases ha:inB d.a 0 2
    ·exfalso;apply hc;simp[ha]
    ·rfl
   have ha1:=AP.1 ha;split
   ·exact Uw h (by omega)
   ·split
    ·exact twoW_WK h (by omega)
    ·split
     ·exact XJ h (by omega)
     ·split
      ·exact h.K
      ·exact WC h (by omega) (by omega)
def zWo:AB:=⟨[],[],[],[],0⟩
def doW (w:AB) (d:CD):AB×Int:=
 if !Ap w|| !inB d.kind 1 12 then(zWo,1)
 else if(FW w d).2=0 then(if Ap (FW w d).1 then((FW w d).1,0)else(w,4))else(w,(FW w d).2)
theorem Td [PKI] (w:AB) (d:CD) (hw:wS w):sG 71 [.a (AD (fWo w)),.a (AD (fD d))]=some ⟨[.a (AA (fWo (doW w d).1)),.v (.sc (I6 (doW w d).2))],[],[]⟩:=by
 refine sK p71 ?_;have e1:=HS w hw;have e2:=Ao d.kind 1 12;unfold doW;simp only[AD,lent,fWo]at e1
 cases hok:Ap w
 ·rw[hok]at e1;simp[p71,  e1,zWo]
 rw[hok]at e1
 cases hk:inB d.kind 1 12
 ·rw[hk]at e2;simp[p71,  e1,e2,zWo]
 rw[hk]at e2;have hkb:=AP.1 hk;have hWI:=A9 hok hw;have e3:=Tp w hw (by have:=hWI.n3;omega);obtain⟨fin,hfin,e4⟩:=Vf w d (by omega) hok hw;have hS:=(NJ (d:=d) hok hw).S;have e5:=HS (FW w d).1 hS;simp only[AD,lent,AA,AJ,fWo,fD]at e3 e4 e5;generalize FW w d=r at*;obtain⟨v,c⟩:=r;obtain⟨A,B,rfl⟩:=hfin;simp only at e4 e5 ⊢;by_cases hc:c=0
 ·subst hc
  cases hv:Ap v
  ·rw[hv]at e5
   cases A<;>cases B<;>simp[p71,  e1,e2,e3,e4,e5]
  ·rw[hv]at e5
   cases A<;>cases B<;>simp[p71,  e1,e2,e3,e4,e5]
 ·cases A<;>cases B<;>simp[p71,  e1,e2,e3,e4,hc]
structure Cm (PK:Nat->List Arg->Option Res):Prop where
 ci: ∀l:LI,l.length<=1048576->B3 G PK md 56 [.v (.im 1 (enc fI l))]=some ⟨[.v (.own 1 (enc fI l))],[],[]⟩
 cu: ∀l:LI,l.length<=1048576->B3 G PK md 58 [.v (.im 1 (enc fU l))]=some ⟨[.v (.own 1 (enc fU l))],[],[]⟩
 cb: ∀l:List Bool,l.length<=1048576->B3 G PK md 97 [.v (.im 1 (enc fL l))]=some ⟨[.v (.own 1 (enc fL l))],[],[]⟩
 cr: ∀l:List Dw,l.length<=1048576->B3 G PK md 55 [.v (.im 2 (enc fR l))]=some ⟨[.v (.own 2 (enc fR l))],[],[]⟩
 ins: ∀ (l:LI) (k:Nat) (a:Int),k<=l.length->l.length<=1048576->B3 G PK md 233 [.v (.own 1 (enc fI l)),.v (.sc (I6 k)),.v (.own 1 [[.sc (I6 a)]])]=some ⟨[.v (.own 1 (enc fI (l.take k++[a]++l.drop k)))],[none,none],[]⟩
@[simp] def QY (F:Nat) (c:List T) (l:LI) (j:Nat):St:={n:=19,m:=0,tm:=[(0,.im 1 (enc fI l)),(1,.clo F [.pim c]),(7,.sc (I6 l.length)),(8,.sc (I6 j))],ob:=[]}
theorem GJ [PKI] (F:Nat) (c:List T) (q:Int->Bool) (l:LI) (hl:l.length<=1048576) (hF:md F=[]) (e: ∀x,sG F [.v (.sc (I6 x)),.pi c]=some ⟨[.v (.sc (.bool (q x)))],[],[]⟩):
  sG 94 [.v (.im 1 (enc fI l)),.c F [c]]=some ⟨[.v (.sc (I6 (FL (λj=> !q (l.getD j 0)) l.length)))],[],[]⟩:=by
 refine sK p94 ?_
 obtain⟨k,hk,hp,hkn⟩:=first (λj=>(!q (l.getD j 0))=true) l.length
 have hstep: ∀j,j<k-> ∃s',xG b94_0 (QY F c l j)=some (.normal,s')/\s'.m<=10000000/\Aa 10000000 [0,1,7,8] s'=QY F c l (j+1):=λj hj=>by
  have hlt:j<l.length:=by omega
  have h1:(!q (l.getD j 0))=true:=hp j hj;obtain⟨x,_,hx,hx',hd⟩:=AK l (j:=j) (by omega);rw[hd]at h1;have h2:q x=false:=by simpa using h1
  have e:=e x;rw[h2]at e;simp[-md,b94_0,hF,hlt,Ar hlt hl,hx',e]
 rcases hkn with rfl|⟨hlt,hn⟩
 ·have hsz:= @lok _ 10000000 [0,1,7,8] b94_0 (QY F c l) (l.length) hstep (by simp[-md,b94_0,hF])
  rw[CJ hp]
  simp[-md,p94,hF]
  rw[hsz]
  ·simp[-md,b94_0,hF]
  ·simp
  ·simp
 ·have h1:(!q (l.getD k 0))=false:=by simpa using hn
  rw[BX hlt hp h1]
  obtain⟨x,_,hx,hx',hd⟩:=AK l (j:=k) (by omega)
  rw[hd]at h1
  have h2:q x=true:=by simpa using h1
  have e:=e x
  rw[h2]at e
  have hsz:= @lok _ 10000000 [0,1,7,8] b94_0 (QY F c l) (k) hstep (by simp[-md,b94_0,hF,hlt,hx',e])
  simp[-md,p94,hF]
  rw[hsz]
  ·simp[-md,b94_0,hF,hlt,hx',e]
  ·simp
  ·simp
theorem MD [PKI] (F:Nat) (c:List T) (q:Int->Bool) (l:LI) (hl:l.length<=1048576) (hF:md F=[]) (e: ∀x,sG F [.v (.sc (I6 x)),.pi c]=some ⟨[.v (.sc (.bool (q x)))],[],[]⟩):
  sG 99 [.v (.im 1 (enc fI l)),.c F [c]]=some ⟨[.v (.sc (.bool (!Ac (λj=> !q (l.getD j 0)) l.length)))],[],[]⟩:=by
 refine sK p99 ?_
 have e:=GJ F c q l hl hF e
 rw[<-Gj]
 simp[p99,  e]
theorem Q9 [PKI] (n x:Int):sG 232 [.v (.sc (I6 x)),.pi [.sc (I6 n)]]=some ⟨[.v (.sc (.bool (decide (n<x))))],[],[]⟩:=by
 refine sK p232 ?_;simp[p232]
def VQ (l:LI) (a:Int):LI:=if a∈l then l else ins l a
theorem W4 {l:LI} {a:Int} (h:a∉l): ∃k:Nat,k<=l.length/\l.take k++[a]++l.drop k=ins l a/\(FL (λj=> !decide (a<l.getD j 0)) l.length=k/\k<l.length\/FL (λj=> !decide (a<l.getD j 0)) l.length= -1/\k=l.length):=by
 obtain⟨k,hk,hp,hkn⟩:=first (λj=>(!decide (a<l.getD j 0))=true) l.length;have hlt: ∀j,j<k->l.getD j 0<a:=λj hj=>by
  have h1:=hp j hj;obtain⟨x,hjl,hx,hx',hd⟩:=AK l (j:=j) (by omega);have hne:x≠a:=λhh=>h (by rw[<-hh,<-hx'];exact List.getElem_mem hjl)
  rw[hd]at h1 ⊢;by_cases hh:a<x
  ·rw[decide_eq_true hh]at h1;cases h1
  ·omega
 refine⟨k,hk,TW hk hlt (hkn.imp id λh1=>⟨h1.1,?_⟩),?_⟩
 ·by_cases hh:a<l.getD k 0
  ·omega
  ·exact absurd (by rw[decide_eq_false hh];rfl) h1.2
 ·rcases hkn with rfl|⟨h1,h2⟩
  ·exact .inr ⟨CJ hp,rfl⟩
  ·exact .inl ⟨BX h1 hp (by simpa using h2),h1⟩
theorem ID [PKI] (hK:Cm PK) (l:LI) (a:Int) (hl:l.length<=1048575):sG 189 [.v (.im 1 (enc fI l)),.v (.sc (I6 a))]=some ⟨[.v (.own 1 (enc fI (VQ l a)))],[],[]⟩:=by
 refine sK p189 ?_;have e1:=hK.ci l (by omega);have e2:=BQ l a (by omega);unfold VQ;by_cases h:a∈l
 ·simp[p189,  e1,e2,h]
 ·obtain⟨k,hk,hi,hf⟩:=W4 h;have e3:=GJ 232 [.sc (I6 a)] (λx=>decide (a<x)) l (by omega) rfl (λx=>Q9 a x);have e4:=hK.ins l k a hk (by omega);rw[hi]at e4;rcases hf with ⟨hf,hk1⟩|⟨hf,hk1⟩
  ·rw[hf]at e3;have hn: ¬ ((k:Nat):Int)<0:=by omega
   simp[p189,  e1,e2,h,e3,e4,hn]
  ·rw[hf]at e3;subst hk1;simp[p189,  e1,e2,h,e3,e4]
theorem LD [PKI] (hK:Cm PK) (l:LI) (a:Int) (hl:l.length<=1048575):sG 237 [.v (.im 1 (enc fI l)),.v (.sc (I6 a))]=some ⟨[.v (.own 1 (enc fI (C5 l a)))],[],[]⟩:=by
 refine sK p237 ?_;have e1:=hK.ci l (by omega);have e2:=Cd a;have e3:=ID hK l a hl;unfold C5;unfold VQ at e3;by_cases hc:inB a 0 7=true
 ·by_cases h:a∈l
  ·simp[p237,  e1,e2,e3,hc,h]
  ·simp[p237,  e1,e2,e3,hc,h]
 ·have hc:inB a 0 7=false:=by simpa using hc
  simp[p237,  e1,e2,hc]
theorem Vk [PKI] (n x:Int):sG 273 [.v (.sc (I6 x)),.pi [.sc (I6 n)]]=some ⟨[.v (.sc (.bool (decide (x=n))))],[],[]⟩:=by
 refine sK p273 ?_;by_cases h:x=n
 ·simp[p273,  h]
 ·have hb:(x==n)=false:=by simp[h]
  simp[p273,  h,hb]
def dlF (q:Int->Bool) (l:LI) (j:Nat):LI:=(l.take j).filter λx=> !q x
def dr (q:Int->Bool) (l:LI) (j:Nat):LI:=dlF q l j++l.drop (dlF q l j).length
theorem Oo (q:Int->Bool) (l:LI) (j:Nat):(dlF q l j).length<=j:=by
 unfold dlF;exact Nat.le_trans (List.length_filter_le _ _) (by simp;omega)
theorem Tx (q:Int->Bool) (l:LI) {j:Nat} (hj:j<=l.length):(dr q l j).length=l.length:=by
 have:=Oo q l j;unfold dr;simp;omega
theorem dr_get (q:Int->Bool) (l:LI) {j:Nat} (hj:j<l.length):(dr q l j)[j]? =l[j]? :=by
 have:=Oo q l j;unfold dr;rw[List.getElem?_append_right this,List.getElem?_drop];congr 1;omega
theorem Um {q:Int->Bool} {l:LI} {j:Nat} {x:Int} (hx:l[j]? =some x) (h:q x=false):dlF q l (j+1)=dlF q l j++[x]:=by
 unfold dlF;rw[List.take_add_one,hx];simp[h]
theorem RR {q:Int->Bool} {l:LI} {j:Nat} {x:Int} (hx:l[j]? =some x) (h:q x=true):dlF q l (j+1)=dlF q l j:=by
 unfold dlF;rw[List.take_add_one,hx];simp[h]
theorem dr_keep {q:Int->Bool} {l:LI} {j:Nat} {x:Int} (hx:l[j]? =some x) (h:q x=false):(dr q l j).set (dlF q l j).length x=dr q l (j+1):=by
 have h1:=Oo q l j;have h2:=(List.getElem?_eq_some_iff.1 hx).1;unfold dr;rw[Um hx h];generalize dlF q l j=K at h1 ⊢;rw[List.set_append_right _ _ (Nat.le_refl _),Nat.sub_self,List.length_append,List.append_assoc];congr 1
 cases hd:l.drop K.length with
 |nil=>simp at hd;omega
 |cons y r=>
  have:l.drop (K.length+1)=r:=by rw[<-List.drop_drop,hd];rfl
  simp[this]
theorem dr_skip {q:Int->Bool} {l:LI} {j:Nat} {x:Int} (hx:l[j]? =some x) (h:q x=true):dr q l j=dr q l (j+1):=by
 unfold dr;rw[RR hx h]
@[simp] def st51 (F:Nat) (c:List T) (r:LI) (i j:Nat):St:={n:=42,m:=1,tm:=[(0,.ref 0 []),(1,.clo F [.pim c]),(5,.sc (I6 i)),(6,.sc (I6 j))],ob:=[(0,.arr 1 (enc fI r))]}
theorem Fg [PKI] (F:Nat) (c:List T) (q:Int->Bool) (l:LI) (hl:l.length<=1048576) (hF:md F=[]) (e: ∀x,sG F [.v (.sc (I6 x)),.pi c]=some ⟨[.v (.sc (.bool (q x)))],[],[]⟩):
  sG 51 [.v (.own 1 (enc fI l)),.c F [c]]=some ⟨[.v (.own 1 (enc fI (l.filter λx=> !q x)))],[none],[]⟩:=by
 refine sK p51 ?_
 have eI:=GJ F c q l hl hF e
 obtain⟨k,hk,hp,hkn⟩:=first (λj=>(!q (l.getD j 0))=true) l.length
 have hpre: ∀j,j<=k->dlF q l j=l.take j:=λj hj=>by
  unfold dlF;rw[List.filter_eq_self];intro x hx;obtain⟨i,hi,rfl⟩:=List.mem_iff_getElem.1 hx;simp at hi;have:=hp i (by omega);obtain⟨y,_,_,hy',hd⟩:=AK l (j:=i) (by omega);rw[hd]at this;rw[List.getElem_take,hy'];exact this
 have hfull:dlF q l l.length=l.filter λx=> !q x:=by unfold dlF;rw[List.take_length]
 rcases hkn with rfl|⟨hlt,hn⟩
 ·rw[CJ hp]at eI
  rw[<-hfull,hpre _ (Nat.le_refl _),List.take_length]
  simp[p51,  eI]
 ·have h1:(!q (l.getD k 0))=false:=by simpa using hn
  rw[BX hlt hp h1]at eI
  obtain⟨y,_,hy,_,hd⟩:=AK l (j:=k) hlt
  rw[hd]at h1
  have hqy:q y=true:=by simpa using h1
  have hk1:dlF q l (k+1)=l.take k:=by rw[RR hy hqy,hpre k (Nat.le_refl _)]
  have hr1:dr q l (k+1)=l:=by
   unfold dr;rw[hk1,List.length_take,Nat.min_eq_left (by omega),List.take_append_drop]
  have hsz:= @lok _ 10000000 [0,1,5,6] b51_0 (λm=>st51 F c (dr q l (k+1+m)) (dlF q l (k+1+m)).length (k+1+m)) (l.length - (k+1)) (λm hm=>by
   have hj:k+1+m<l.length:=by omega
   obtain⟨x,_,hx,hx',_⟩:=AK l (j:=k+1+m) hj;have hinc:=Ar hj hl;have g1:(dr q l (k+1+m))[k+1+m]? =some x:=(dr_get q l hj).trans hx;obtain⟨a1,a2⟩:=BT g1;have hlen:=Tx q l (Nat.le_of_lt hj);have hil:=Oo q l (k+1+m);have hil2:(dlF q l (k+1+m)).length<l.length:=by omega
   have hi2:=Ar hil2 hl;have e:=e x
   cases hqx:q x with
   |true=>
    rw[hqx]at e;have k1:=RR hx hqx;have k2:=dr_skip hx hqx;rw[show k+1+(m+1)=k+1+m+1 by omega,k1,<-k2];generalize k+1+m=j at*;simp[-md,b51_0,hF,hlen,hj,a2,hinc,e]
   |false=>
    rw[hqx]at e;have k1:=Um hx hqx;have k2:=dr_keep hx hqx;have e1:=A3 fI (dr q l (k+1+m)) (dlF q l (k+1+m)).length x;simp only[fI]at e1;rw[show k+1+(m+1)=k+1+m+1 by omega,k1,<-k2];generalize k+1+m=j at*;simp[-md,b51_0,hF,hlen,hj,a2,hinc,hi2,hil2,e,e1]) (by
   have hlen:=Tx q l (Nat.le_refl _);rw[show k+1+(l.length - (k+1))=l.length by omega];simp[-md,b51_0,hlen])
  have hinc:=Ar hlt hl
  have hkne: ¬ ((k:Nat):Int)= -1:=by omega
  simp[p51,  eI,hkne,hinc]
  rw[hsz]
  ·have hlen:=Tx q l (Nat.le_refl _)
   have hil:=Oo q l l.length
   rw[show k+1+(l.length - (k+1))=l.length by omega,<-hfull]
   have hdr:dr q l l.length=dlF q l l.length++l.drop (dlF q l l.length).length:=rfl
   generalize dr q l l.length=R at hlen hdr ⊢
   generalize dlF q l l.length=K at hil hdr ⊢
   simp[-md,b51_0,hlen,hil]
   rw[Ax,hdr,List.take_left' rfl]
  ·simp
  ·simp[-md,hk1,hr1]
   omega
theorem GI [PKI] (hK:Cm PK) (l:LI) (a:Int) (hl:l.length<=1048576):sG 243 [.v (.im 1 (enc fI l)),.v (.sc (I6 a))]=some ⟨[.v (.own 1 (enc fI (clr l a)))],[],[]⟩:=by
 refine sK p243 ?_;have e1:=hK.ci l hl;have e2:=Fg 273 [.sc (I6 a)] (λx=>decide (x=a)) l hl rfl (λx=>Vk a x);unfold clr;simp[p243,  e1,e2]
end Go.Proofs.YtghgecpicnfgpaaGreat.Ow
