/- Functions evaluated on the small machine: A node that is right, the code: evaluated, What follows of a node that is right, Generic functions of the library that ask a function: evaluated. -/
import Derived.Test.YtghgecpicnfgpaaGreatEv5
namespace Go.Proofs.YtghgecpicnfgpaaGreat.Ow
open Go
set_option linter.unusedVariables false
set_option linter.unusedSimpArgs false
set_option maxHeartbeats 4000000
theorem DU [PKI] (x:Int):sG 60 [.v (.sc (I6 x))]=some ⟨[.v (.sc (.bool (inB x 0 2)))],[],[]⟩:=by
 refine sK p60 ?_;have e:=BF x 0 2;simp[p60,  e]
theorem OY [PKI] (x:Int):sG 77 [.v (.sc (I6 x))]=some ⟨[.v (.sc (.bool (inB x 1 200)))],[],[]⟩:=by
 refine sK p77 ?_;have e:=BF x 1 200;simp[p77,  e]
theorem Xv (p q:Nat->Bool) (n:Nat):Ac (λj=>p j&&q j) n=(Ac p n&&Ac q n):=by
 unfold Ac;rw[Bool.eq_iff_iff];simp only[Bool.and_eq_true,List.all_eq_true];exact⟨λh=>⟨λx hx=>(h x hx).1,λx hx=>(h x hx).2⟩,λh x hx=>⟨h.1 x hx,h.2 x hx⟩⟩
theorem Wu (n:AE):Hy n=(decide (n.conn.length=3)&&(((n.sync.length:Int)==3)&&ER n.sync)&&decide (n.copies.length=3)&&Ac (lk2 n) 3):=by
 unfold Hy;rw[show lk n=λj=>Dg (n.sync.getD j [])&&lk2 n j from rfl,Xv];unfold ER;by_cases h:n.sync.length=3
 ·have h':(n.sync.length:Int)=3:=by omega
  rw[h];simp only[h',decide_true,Bool.and_true,beq_self_eq_true,Bool.true_and]
  cases decide (n.conn.length=3)<;>cases decide (n.copies.length=3)<;>cases Ac (λj=>Dg (n.sync.getD j [])) 3<;>simp
 ·have h': ¬ (n.sync.length:Int)=3:=by omega
  simp[h,h']
@[simp] def st26_1 (n:AE) (j:Nat):St:={n:=164,m:=0,tm:=[(1,.pb 10000000 0),(85,.sc (I6 j))],ob:=[(10000000,PJ n)]}
@[simp] def st26_0 (n:AE) (j:Nat):St:={n:=164,m:=0,tm:=[(1,.pb 10000200 0),(139,.im 1 (enc fI n.wait)),(140,.sc (I6 n.wait.length)),(141,.sc (I6 j))],ob:=[(10000200,PJ n)]}
theorem lp26_1 [PKI] (n:AE) (hn:nS n) (l1:n.conn.length=3) (l2:n.sync.length=3) (l3:n.copies.length=3): ∃bad,(Ac (lk2 n) 3=false->bad.m=0/\Aw bad.tm 2= .sc (.bool false))/\ ∀ (s:St),s.m<=10000000->Aa 10000000 [1,85] s=st26_1 n 0->A6 G PK md 10000000 [1,85] b41_1 s=if Ac (lk2 n) 3=true then xG b41_1 (st26_1 n 3)else some (.ret,bad):=
 @Bo G PK md 10000000 [1,85] b41_1 (st26_1 n) (lk2 n) 3 (λs=>s.m=0/\Aw s.tm 2= .sc (.bool false)) (λj hj=>by
  obtain⟨x,y1,hx,hx',hxd,hm⟩:=Ah n.sync (j:=j) (by omega);obtain⟨cb,y2,hc,hc',hcd⟩:=Aj n.conn (j:=j) (by omega);obtain⟨pb,y3,hq,hq',hqd⟩:=Aj n.copies (j:=j) (by omega);have hj3:((j:Nat):Int)<3:=by omega
  have hi:=Ar (n:=3) (j:=j) (by omega) (by omega);unfold lk2;rw[hxd,hcd,hqd];by_cases hid:((j:Nat):Int)=n.id
  ·cases hu:n.up<;>cases cb<;>cases pb<;>by_cases hx0:0<x.length<;>simp[b41_1,  y1,y2,y3,hx',hc',hq',hj3,hx0,hi,hu,hid.symm]
  ·cases hu:n.up<;>cases cb<;>cases pb<;>by_cases hx0:0<x.length<;>simp[b41_1,  y1,y2,y3,hx',hc',hq',hj3,hx0,hi,hu,hid]) (by simp[b41_1])
theorem lp26_0 [PKI] (n:AE) (hn:nS n): ∃bad,(Ac (CX 1 200 n.wait) n.wait.length=false->bad.m=0/\Aw bad.tm 2= .sc (.bool false))/\ ∀ (s:St),s.m<=10000200->Aa 10000200 [1,139,140,141] s=st26_0 n 0->A6 G PK md 10000200 [1,139,140,141] b41_0 s=if Ac (CX 1 200 n.wait) n.wait.length=true then xG b41_0 (st26_0 n n.wait.length)else some (.ret,bad):=
 @Bo G PK md 10000200 [1,139,140,141] b41_0 (st26_0 n) (CX 1 200 n.wait) n.wait.length (λs=>s.m=0/\Aw s.tm 2= .sc (.bool false)) (λj hj=>by
  obtain⟨x,y1,hx,hx',hxd⟩:=AK n.wait (j:=j) (by omega);have e:=OY x;have hi:=Ar hj hn.wait;unfold CX;rw[hxd];generalize inB x 1 200=b1 at e ⊢
  cases b1
  ·simp[b41_0,  hj,hx',e]
  rcases Nat.eq_zero_or_pos j with hz|hz
  ·subst hz;simp at hi;simp[b41_0,  hj,hx',e,hi]
  ·have hz0: ¬j=0:=by omega
   obtain⟨i,hij⟩: ∃i,j=i+1:=⟨j - 1,by omega⟩;obtain⟨x2,y2,hx2,hx2',hxd2⟩:=AK n.wait (j:=i) (by omega);have hw:IntKind.wrap .i64 ((j:Int) - 1)=(i:Int):=by rw[AC (by omega) (by have:=hn.wait;omega)];omega
   have hpos:(0:Int)<j:=by omega
   rw[show j - 1=i by omega,hxd2];by_cases hlt:x2<x
   ·have hge: ¬x<=x2:=by omega
    simp[b41_0,  hj,hz0,hz,hx',e,hi,hw,hpos,y2,hx2',hlt,hge]
   ·have hge:x<=x2:=by omega
    simp[b41_0,  hj,hz0,hz,hx',e,hi,hw,hpos,y2,hx2',hlt,hge]) (by simp[b41_0])
theorem Ak [PKI] (n:AE) (hn:nS n):sG 41 [.a (AD (fN n))]=some ⟨[.v (.sc (.bool (AL n)))],[],[]⟩:=by
 refine sK p41 ?_;have e0:=DU n.id;have e1:=M3 n.image hn.image;have e2:=Ce n.mt hn.mt;have e3:=Mi n.sync hn.sync;have e4:=HX n.sl hn.sl;have e5:=L8 (Af n.sl).1 n.mt (NZ hn.sl);simp only[AD,lent,fM,fN,fSl,AA,AJ]at e1 e2 e3 e4 e5;unfold AL;rw[Wu];generalize inB n.id 0 2=b0 at e0 ⊢
 cases b0
 ·simp[p41,  e0]
 generalize FE n.image=b0 at e1 ⊢
 cases b0
 ·simp[p41,  e0,e1]
 generalize BU n.mt=b0 at e2 ⊢
 cases b0
 ·simp[p41,  e0,e1,e2]
 by_cases l1:n.conn.length=3
 case neg=>
  have l1': ¬ (n.conn.length:Int)=3:=by omega
  simp[p41,  e0,e1,e2,l1,l1']
 have l2:(((n.sync.length:Int)==3)&&ER n.sync)=true->n.sync.length=3:=λh=>by
  rw[Bool.and_eq_true,beq_iff_eq]at h;omega
 generalize (((n.sync.length:Int)==3)&&ER n.sync)=b0 at e3 l2 ⊢
 cases b0
 ·simp[p41,  e0,e1,e2,e3,l1]
 have l2:=l2 rfl;by_cases l3:n.copies.length=3
 case neg=>
  have l3': ¬ (n.copies.length:Int)=3:=by omega
  simp[p41,  e0,e1,e2,e3,l1,l3,l3']
 obtain⟨bad1,hb1,hs1⟩:=lp26_1 n hn l1 l2 l3;obtain⟨bad0,hb0,hs0⟩:=lp26_0 n hn;by_cases hw0:0<n.wait.length
 ·cases hpr:n.prime<;>cases hu:n.up
  ·simp[p41,  e0,e1,e2,e3,l1,l3,hpr,hu,hw0]
  ·skip
   cases hok:(Af n.sl).2.2
   ·rw[hok]at e4;simp[p41,  e0,e1,e2,e3,l1,l3,hpr,hu,hw0,e4]
   rw[hok]at e4
   cases hsm:decide ((Af n.sl).1=n.mt)
   ·rw[hsm]at e5;simp[p41,  e0,e1,e2,e3,l1,l3,hpr,hu,hw0,e4,e5]
   rw[hsm]at e5
   cases hq1:Ac (lk2 n) 3
   ·obtain⟨g1,g2⟩:=hb1 hq1;simp only[hq1]at hs1;simp[p41,  e0,e1,e2,e3,l1,l3,hpr,hu,hw0,e4,e5];rw[hs1]
    ·simp[g1,g2]
    ·simp
    ·simp[hpr,hu,hw0]
   simp only[hq1]at hs1
   cases hq0:Ac (CX 1 200 n.wait) n.wait.length
   ·obtain⟨g1,g2⟩:=hb0 hq0;simp only[hq0]at hs0;simp[p41,  e0,e1,e2,e3,l1,l3,hpr,hu,hw0,e4,e5];rw[hs1]
    ·simp[b41_1];rw[hs0]
     ·simp[g1,g2]
     ·simp
     ·simp[hpr,hu,hw0]
    ·simp
    ·simp[hpr,hu,hw0]
   ·simp only[hq0]at hs0;simp[p41,  e0,e1,e2,e3,l1,l3,hpr,hu,hw0,e4,e5];rw[hs1]
    ·simp[b41_1];rw[hs0]
     ·simp[b41_0,hpr,hu,hw0]
     ·simp
     ·simp[hpr,hu,hw0]
    ·simp
    ·simp[hpr,hu,hw0]
  ·simp[p41,  e0,e1,e2,e3,l1,l3,hpr,hu,hw0]
  ·by_cases hid:n.id=2
   ·simp[p41,  e0,e1,e2,e3,l1,l3,hpr,hu,hw0,eq_true hid]
   ·skip
    cases hok:(Af n.sl).2.2
    ·rw[hok]at e4;simp[p41,  e0,e1,e2,e3,l1,l3,hpr,hu,hw0,hid,e4]
    rw[hok]at e4
    cases hsm:decide ((Af n.sl).1=n.mt)
    ·rw[hsm]at e5;simp[p41,  e0,e1,e2,e3,l1,l3,hpr,hu,hw0,hid,e4,e5]
    rw[hsm]at e5
    cases hq1:Ac (lk2 n) 3
    ·obtain⟨g1,g2⟩:=hb1 hq1;simp only[hq1]at hs1;simp[p41,  e0,e1,e2,e3,l1,l3,hpr,hu,hw0,hid,e4,e5];rw[hs1]
     ·simp[g1,g2]
     ·simp
     ·simp[hpr,hu,hw0,hid]
    simp only[hq1]at hs1
    cases hq0:Ac (CX 1 200 n.wait) n.wait.length
    ·obtain⟨g1,g2⟩:=hb0 hq0;simp only[hq0]at hs0;simp[p41,  e0,e1,e2,e3,l1,l3,hpr,hu,hw0,hid,e4,e5];rw[hs1]
     ·simp[b41_1];rw[hs0]
      ·simp[g1,g2]
      ·simp
      ·simp[hpr,hu,hw0,hid]
     ·simp
     ·simp[hpr,hu,hw0,hid]
    ·simp only[hq0]at hs0;simp[p41,  e0,e1,e2,e3,l1,l3,hpr,hu,hw0,hid,e4,e5];rw[hs1]
     ·simp[b41_1];rw[hs0]
      ·simp[b41_0,hpr,hu,hw0,hid]
      ·simp
      ·simp[hpr,hu,hw0,hid]
     ·simp
     ·simp[hpr,hu,hw0,hid]
 ·cases hpr:n.prime<;>cases hu:n.up
  ·skip
   cases hok:(Af n.sl).2.2
   ·rw[hok]at e4;simp[p41,  e0,e1,e2,e3,l1,l3,hpr,hu,hw0,e4]
   rw[hok]at e4
   cases hsm:decide ((Af n.sl).1=n.mt)
   ·rw[hsm]at e5;simp[p41,  e0,e1,e2,e3,l1,l3,hpr,hu,hw0,e4,e5]
   rw[hsm]at e5
   cases hq1:Ac (lk2 n) 3
   ·obtain⟨g1,g2⟩:=hb1 hq1;simp only[hq1]at hs1;simp[p41,  e0,e1,e2,e3,l1,l3,hpr,hu,hw0,e4,e5];rw[hs1]
    ·simp[g1,g2]
    ·simp
    ·simp[hpr,hu,hw0]
   simp only[hq1]at hs1
   cases hq0:Ac (CX 1 200 n.wait) n.wait.length
   ·obtain⟨g1,g2⟩:=hb0 hq0;simp only[hq0]at hs0;simp[p41,  e0,e1,e2,e3,l1,l3,hpr,hu,hw0,e4,e5];rw[hs1]
    ·simp[b41_1];rw[hs0]
     ·simp[g1,g2]
     ·simp
     ·simp[hpr,hu,hw0]
    ·simp
    ·simp[hpr,hu,hw0]
   ·simp only[hq0]at hs0;simp[p41,  e0,e1,e2,e3,l1,l3,hpr,hu,hw0,e4,e5];rw[hs1]
    ·simp[b41_1];rw[hs0]
     ·simp[b41_0,hpr,hu,hw0]
     ·simp
     ·simp[hpr,hu,hw0]
    ·simp
    ·simp[hpr,hu,hw0]
  ·skip
   cases hok:(Af n.sl).2.2
   ·rw[hok]at e4;simp[p41,  e0,e1,e2,e3,l1,l3,hpr,hu,hw0,e4]
   rw[hok]at e4
   cases hsm:decide ((Af n.sl).1=n.mt)
   ·rw[hsm]at e5;simp[p41,  e0,e1,e2,e3,l1,l3,hpr,hu,hw0,e4,e5]
   rw[hsm]at e5
   cases hq1:Ac (lk2 n) 3
   ·obtain⟨g1,g2⟩:=hb1 hq1;simp only[hq1]at hs1;simp[p41,  e0,e1,e2,e3,l1,l3,hpr,hu,hw0,e4,e5];rw[hs1]
    ·simp[g1,g2]
    ·simp
    ·simp[hpr,hu,hw0]
   simp only[hq1]at hs1
   cases hq0:Ac (CX 1 200 n.wait) n.wait.length
   ·obtain⟨g1,g2⟩:=hb0 hq0;simp only[hq0]at hs0;simp[p41,  e0,e1,e2,e3,l1,l3,hpr,hu,hw0,e4,e5];rw[hs1]
    ·simp[b41_1];rw[hs0]
     ·simp[g1,g2]
     ·simp
     ·simp[hpr,hu,hw0]
    ·simp
    ·simp[hpr,hu,hw0]
   ·simp only[hq0]at hs0;simp[p41,  e0,e1,e2,e3,l1,l3,hpr,hu,hw0,e4,e5];rw[hs1]
    ·simp[b41_1];rw[hs0]
     ·simp[b41_0,hpr,hu,hw0]
     ·simp
     ·simp[hpr,hu,hw0]
    ·simp
    ·simp[hpr,hu,hw0]
  ·simp[p41,  e0,e1,e2,e3,l1,l3,hpr,hu,hw0]
  ·by_cases hid:n.id=2
   ·simp[p41,  e0,e1,e2,e3,l1,l3,hpr,hu,hw0,eq_true hid]
   ·skip
    cases hok:(Af n.sl).2.2
    ·rw[hok]at e4;simp[p41,  e0,e1,e2,e3,l1,l3,hpr,hu,hw0,hid,e4]
    rw[hok]at e4
    cases hsm:decide ((Af n.sl).1=n.mt)
    ·rw[hsm]at e5;simp[p41,  e0,e1,e2,e3,l1,l3,hpr,hu,hw0,hid,e4,e5]
    rw[hsm]at e5
    cases hq1:Ac (lk2 n) 3
    ·obtain⟨g1,g2⟩:=hb1 hq1;simp only[hq1]at hs1;simp[p41,  e0,e1,e2,e3,l1,l3,hpr,hu,hw0,hid,e4,e5];rw[hs1]
     ·simp[g1,g2]
     ·simp
     ·simp[hpr,hu,hw0,hid]
    simp only[hq1]at hs1
    cases hq0:Ac (CX 1 200 n.wait) n.wait.length
    ·obtain⟨g1,g2⟩:=hb0 hq0;simp only[hq0]at hs0;simp[p41,  e0,e1,e2,e3,l1,l3,hpr,hu,hw0,hid,e4,e5];rw[hs1]
     ·simp[b41_1];rw[hs0]
      ·simp[g1,g2]
      ·simp
      ·simp[hpr,hu,hw0,hid]
     ·simp
     ·simp[hpr,hu,hw0,hid]
    ·simp only[hq0]at hs0;simp[p41,  e0,e1,e2,e3,l1,l3,hpr,hu,hw0,hid,e4,e5];rw[hs1]
     ·simp[b41_1];rw[hs0]
      ·simp[b41_0,hpr,hu,hw0,hid]
      ·simp
      ·simp[hpr,hu,hw0,hid]
     ·simp
     ·simp[hpr,hu,hw0,hid]
structure NOk (n:AE):Prop where
 id0:0<=n.id
 id2:n.id<=2
 img:FE n.image=true
 mt:BU n.mt=true
 conn:n.conn.length=3
 sync:n.sync.length=3
 copies:n.copies.length=3
 lk:Ac (lk n) 3=true
 prime:n.prime=true->n.up=true/\n.id≠2
 down:n.up=false->n.wait.length=0
 wait:Ac (CX 1 200 n.wait) n.wait.length=true
 ok:(Af n.sl).2.2=true
 same:(Af n.sl).1=n.mt
theorem Ai {n:AE} (h:AL n=true):NOk n:=by
 unfold AL Hy at h;simp only[Bool.and_eq_true,decide_eq_true_iff]at h;obtain⟨⟨⟨⟨⟨⟨⟨⟨h0,h1⟩,h2⟩,⟨⟨⟨h3,h4⟩,h5⟩,h6⟩⟩,h7⟩,h8⟩,h9⟩,h10⟩,h11⟩:=h;have h0:=AP.1 h0;refine⟨h0.1,h0.2,h1,h2,h3,h4,h5,h6,λhp=> ?_,λhu=> ?_,h9,h10,h11⟩
 ·rw[hp]at h7;simp at h7;exact h7
 ·rw[hu]at h8;simp at h8;simp[h8]
theorem NOk.nat {n:AE} (h:NOk n): ∃i:Nat,i<3/\n.id=(i:Int):=⟨n.id.toNat,by have:=h.id2;have:=h.id0;omega,by have:=h.id0;omega⟩
theorem Xu {α:Type} (q:α->Bool) (l:List α) (d:α):decide (0<=FL (λj=> !q (l.getD j d)) l.length)=l.any q:=by
 have h:=Gj (λj=> !q (l.getD j d)) l.length;refine Eq.trans (b:=decide (FL (λj=> !q (l.getD j d)) l.length ≥ 0)) rfl ?_;rw[h]
 cases hp:Ac (λj=> !q (l.getD j d)) l.length
 ·symm;rw[Bool.not_false,List.any_eq_true];by_cases hx: ∃x,x∈l/\q x=true
  ·exact hx
  ·exfalso;rw[BJ (λj hj=> ?_)]at hp
   ·cases hp
   ·obtain⟨x,hx1⟩:=AF hj;rw[BP hx1]
    cases hqx:q x
    ·rfl
    ·exact absurd ⟨x,List.mem_of_getElem? hx1,hqx⟩ hx
 ·symm;rw[Bool.not_true,List.any_eq_false];intro x hx;obtain⟨j,hj⟩:=List.getElem?_of_mem hx;have:=Am hp (List.getElem?_eq_some_iff.1 hj).1;simp only[BP hj]at this;simpa using this
@[simp] def ixI1 (f:Nat) (cs:List T) (l:LI) (j:Nat):St:={n:=19,m:=0,tm:=[(0,.im 1 (enc fI l)),(1,.clo f [.pim cs]),(7,.sc (I6 l.length)),(8,.sc (I6 j))],ob:=[]}
theorem Tv [PKI] (f:Nat) (cs:List T) (q:Int->Bool) (l:LI) (hl:l.length<=1048576) (hmd:md f=[]) (hq: ∀x∈l,sG f [.v (.sc (I6 x)),.pi cs]=some ⟨[.v (.sc (.bool (q x)))],[],[]⟩):
  sG 94 [.v (.im 1 (enc fI l)),.c f [cs]]=some ⟨[.v (.sc (I6 (FL (λj=> !q (l.getD j 0)) l.length)))],[],[]⟩:=by
 refine sK p94 ?_
 obtain⟨bad,hb,hsz⟩:= @VK G PK md 10000000 [0,1,7,8] b94_0 (ixI1 f cs l) (λj=> !q (l.getD j 0)) l.length (λk s=>s.m=0/\Aw s.tm 4= .sc (I6 k)) (λj hj=>by
  obtain⟨x,hx⟩:=AF hj;obtain⟨_,hx'⟩:=BT hx;have e:=hq x (List.mem_of_getElem? hx);skip;have hi:=Ar hj hl;rw[BP hx]
  cases hqx:q x
  ·rw[hqx]at e;simp[-md,b94_0,hmd,hj,hx',e,hi]
  ·rw[hqx]at e;simp[-md,b94_0,hmd,hj,hx',e,hi]) (by simp[-md,b94_0])
 cases hp:Ac (λj=> !q (l.getD j 0)) l.length
 ·obtain⟨k,hk,h1,h2,hm,ht⟩:=hb hp
  rw[BX hk h1 h2]
  simp only[hp]at hsz
  simp[p94]
  rw[hsz]
  ·simp[-md,hm,ht]
  ·simp
  ·simp
 ·rw[CJ (λj hj=>Am hp hj)]
  simp only[hp]at hsz
  simp[p94]
  rw[hsz]
  ·simp[-md,b94_0]
  ·simp
  ·simp
theorem Xb [PKI] (f:Nat) (cs:List T) (q:Int->Bool) (l:LI) (hl:l.length<=1048576) (hmd:md f=[]) (hq: ∀x∈l,sG f [.v (.sc (I6 x)),.pi cs]=some ⟨[.v (.sc (.bool (q x)))],[],[]⟩):
  sG 99 [.v (.im 1 (enc fI l)),.c f [cs]]=some ⟨[.v (.sc (.bool (l.any q)))],[],[]⟩:=by
 refine sK p99 ?_
 have e:=Tv f cs q l hl hmd hq
 have h:=Xu q l 0
 simp[p99,  hmd,e,h]
 try exact h
end Go.Proofs.YtghgecpicnfgpaaGreat.Ow
