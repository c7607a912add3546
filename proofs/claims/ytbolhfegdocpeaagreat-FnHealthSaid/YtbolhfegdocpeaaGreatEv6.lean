/- Functions evaluated on the small machine: A node that is right, the code: evaluated, What follows of a node that is right. -/
import Derived.Test.YtbolhfegdocpeaaGreatEv5
namespace Go.Proofs.YtbolhfegdocpeaaGreat.Ow
open Go
set_option linter.unusedVariables false
set_option linter.unusedSimpArgs false
set_option maxHeartbeats 4000000
variable {PK:Nat->List Arg->Option Res}
theorem Jq (x:Int):AH G PK md 64 [.v (.sc (.int .i64 x))]=some ⟨[.v (.sc (.bool (inB x 0 2)))],[],[]⟩:=by
 refine AA (pf:=p64) rfl (by simp[p64]) ?_;have e:=CJ (PK:=PK) x 0 2;simp[p64,md,e]
theorem Q9 (x:Int):AH G PK md 129 [.v (.sc (.int .i64 x))]=some ⟨[.v (.sc (.bool (inB x 1 200)))],[],[]⟩:=by
 refine AA (pf:=p129) rfl (by simp[p129]) ?_;have e:=CJ (PK:=PK) x 1 200;simp[p129,md,e]
theorem Ul (p q:Nat->Bool) (n:Nat):Af (fun j=>p j&&q j) n=(Af p n&&Af q n):=by
 unfold Af;rw[Bool.eq_iff_iff];simp only[Bool.and_eq_true,List.all_eq_true];exact⟨fun h=>⟨fun x hx=>(h x hx).1,fun x hx=>(h x hx).2⟩,fun h x hx=>⟨h.1 x hx,h.2 x hx⟩⟩
theorem T1 (n:AG):Gk n=(decide (n.conn.length=3)&&(((n.sync.length:Int)==3)&&Dd n.sync)&&decide (n.copies.length=3)&&Af (lk2 n) 3):=by
 unfold Gk;rw[show lk n=fun j=>C5 (n.sync.getD j [])&&lk2 n j from rfl,Ul];unfold Dd;by_cases h:n.sync.length=3
 ·have h':(n.sync.length:Int)=3:=by omega
  rw[h];simp only[h',decide_true,Bool.and_true,beq_self_eq_true,Bool.true_and]
  cases decide (n.conn.length=3)<;>cases decide (n.copies.length=3)<;>cases Af (fun j=>C5 (n.sync.getD j [])) 3<;>simp
 ·have h': ¬ (n.sync.length:Int)=3:=by omega
  simp[h,h']
@[simp] def st26_1 (n:AG) (j:Nat):St:={n:=164,m:=0,tm:=[(1,.pb 10000000 0),(85,.sc (.int .i64 j))],ob:=[(10000000,OI n)]}
@[simp] def st26_0 (n:AG) (j:Nat):St:={n:=164,m:=0,tm:=[(1,.pb 10000200 0),(139,.im 1 (enc fI n.wait)),(140,.sc (.int .i64 n.wait.length)),(141,.sc (.int .i64 j))],ob:=[(10000200,OI n)]}
theorem lp26_1 (n:AG) (hn:nS n) (l1:n.conn.length=3) (l2:n.sync.length=3) (l3:n.copies.length=3): ∃bad,(Af (lk2 n) 3=false->bad.m=0/\At bad.tm 2= .sc (.bool false))/\ ∀ (s:St),s.m<=10000000->Ai 10000000 [1,85] s=st26_1 n 0->Ag G PK md 10000000 [1,85] b88_1 s=if Af (lk2 n) 3=true then An (AH G PK md) (Ag G PK md) md b88_1 (st26_1 n 3)else some (.ret,bad):=
 BY (G:=G) (PK:=PK) (md:=md) (o:=10000000) (live:=[1,85]) (c:=b88_1) (st26_1 n) (lk2 n) 3 (fun s=>s.m=0/\At s.tm 2= .sc (.bool false)) (fun j hj=>by
  obtain⟨x,y1,hx,hx',hxd,hm⟩:=Ax n.sync (j:=j) (by omega);obtain⟨cb,y2,hc,hc',hcd⟩:=A1 n.conn (j:=j) (by omega);obtain⟨pb,y3,hq,hq',hqd⟩:=A1 n.copies (j:=j) (by omega);have hj3:((j:Nat):Int)<3:=by omega
  have hi:=A2 (n:=3) (j:=j) (by omega) (by omega);unfold lk2;rw[hxd,hcd,hqd];by_cases hid:((j:Nat):Int)=n.id
  ·cases hu:n.up<;>cases cb<;>cases pb<;>by_cases hx0:0<x.length<;>simp[b88_1,md,y1,y2,y3,hx',hc',hq',hj3,hx0,hi,hu,hid.symm]
  ·cases hu:n.up<;>cases cb<;>cases pb<;>by_cases hx0:0<x.length<;>simp[b88_1,md,y1,y2,y3,hx',hc',hq',hj3,hx0,hi,hu,hid]) (by simp[b88_1])
theorem lp26_0 (n:AG) (hn:nS n): ∃bad,(Af (Cr 1 200 n.wait) n.wait.length=false->bad.m=0/\At bad.tm 2= .sc (.bool false))/\ ∀ (s:St),s.m<=10000200->Ai 10000200 [1,139,140,141] s=st26_0 n 0->Ag G PK md 10000200 [1,139,140,141] b88_0 s=if Af (Cr 1 200 n.wait) n.wait.length=true then An (AH G PK md) (Ag G PK md) md b88_0 (st26_0 n n.wait.length)else some (.ret,bad):=
 BY (G:=G) (PK:=PK) (md:=md) (o:=10000200) (live:=[1,139,140,141]) (c:=b88_0) (st26_0 n) (Cr 1 200 n.wait) n.wait.length (fun s=>s.m=0/\At s.tm 2= .sc (.bool false)) (fun j hj=>by
  obtain⟨x,y1,hx,hx',hxd⟩:=AT n.wait (j:=j) (by omega);have e:=Q9 (PK:=PK) x;have hi:=A2 hj hn.wait;unfold Cr;rw[hxd];generalize inB x 1 200=b1 at e ⊢
  cases b1
  ·simp[b88_0,md,hj,hx',e]
  rcases Nat.eq_zero_or_pos j with hz|hz
  ·subst hz;simp at hi;simp[b88_0,md,hj,hx',e,hi]
  ·have hz0: ¬j=0:=by omega
   obtain⟨i,hij⟩: ∃i,j=i+1:=⟨j - 1,by omega⟩;obtain⟨x2,y2,hx2,hx2',hxd2⟩:=AT n.wait (j:=i) (by omega);have hw:IntKind.wrap .i64 ((j:Int) - 1)=(i:Int):=by rw[AC (by omega) (by have:=hn.wait;omega)];omega
   have hpos:(0:Int)<j:=by omega
   rw[show j - 1=i by omega,hxd2];by_cases hlt:x2<x
   ·have hge: ¬x<=x2:=by omega
    simp[b88_0,md,hj,hz0,hz,hx',e,hi,hw,hpos,y2,hx2',hlt,hge]
   ·have hge:x<=x2:=by omega
    simp[b88_0,md,hj,hz0,hz,hx',e,hi,hw,hpos,y2,hx2',hlt,hge]) (by simp[b88_0])
theorem ML (n:AG) (hn:nS n):AH G PK md 88 [.a (AJ (fN n))]=some ⟨[.v (.sc (.bool (Am n)))],[],[]⟩:=by
 refine AA (pf:=p88) rfl (by simp[p88]) ?_;have e0:=Jq (PK:=PK) n.id;have e1:=KZ (PK:=PK) n.image hn.image;have e2:=Ee (PK:=PK) n.mt hn.mt;have e3:=KH (PK:=PK) n.sync hn.sync;have e4:=KX (PK:=PK) n.sl hn.sl;have e5:=Jr (PK:=PK) (Ak n.sl).1 n.mt (LB hn.sl);simp only[AJ,lent,fM,fN,fSl,AD,AX]at e1 e2 e3 e4 e5;unfold Am;rw[T1];generalize inB n.id 0 2=b0 at e0 ⊢
 cases b0
 ·simp[p88,md,e0]
 generalize EG n.image=b0 at e1 ⊢
 cases b0
 ·simp[p88,md,e0,e1]
 generalize BP n.mt=b0 at e2 ⊢
 cases b0
 ·simp[p88,md,e0,e1,e2]
 by_cases l1:n.conn.length=3
 case neg=>
  have l1': ¬ (n.conn.length:Int)=3:=by omega
  simp[p88,md,e0,e1,e2,l1,l1']
 have l2:(((n.sync.length:Int)==3)&&Dd n.sync)=true->n.sync.length=3:=fun h=>by
  rw[Bool.and_eq_true,beq_iff_eq]at h;omega
 generalize (((n.sync.length:Int)==3)&&Dd n.sync)=b0 at e3 l2 ⊢
 cases b0
 ·simp[p88,md,e0,e1,e2,e3,l1]
 have l2:=l2 rfl;by_cases l3:n.copies.length=3
 case neg=>
  have l3': ¬ (n.copies.length:Int)=3:=by omega
  simp[p88,md,e0,e1,e2,e3,l1,l3,l3']
 obtain⟨bad1,hb1,hs1⟩:=lp26_1 (PK:=PK) n hn l1 l2 l3;obtain⟨bad0,hb0,hs0⟩:=lp26_0 (PK:=PK) n hn;by_cases hw0:0<n.wait.length
 ·cases hpr:n.prime<;>cases hu:n.up
  ·simp[p88,md,e0,e1,e2,e3,l1,l3,hpr,hu,hw0]
  ·skip
   cases hok:(Ak n.sl).2.2
   ·rw[hok]at e4;simp[p88,md,e0,e1,e2,e3,l1,l3,hpr,hu,hw0,e4]
   rw[hok]at e4
   cases hsm:decide ((Ak n.sl).1=n.mt)
   ·rw[hsm]at e5;simp[p88,md,e0,e1,e2,e3,l1,l3,hpr,hu,hw0,e4,e5]
   rw[hsm]at e5
   cases hq1:Af (lk2 n) 3
   ·obtain⟨g1,g2⟩:=hb1 hq1;simp only[hq1]at hs1;simp[p88,md,e0,e1,e2,e3,l1,l3,hpr,hu,hw0,e4,e5];rw[hs1]
    ·simp[g1,g2]
    ·simp
    ·simp[hpr,hu,hw0]
   simp only[hq1]at hs1
   cases hq0:Af (Cr 1 200 n.wait) n.wait.length
   ·obtain⟨g1,g2⟩:=hb0 hq0;simp only[hq0]at hs0;simp[p88,md,e0,e1,e2,e3,l1,l3,hpr,hu,hw0,e4,e5];rw[hs1]
    ·simp[b88_1];rw[hs0]
     ·simp[g1,g2]
     ·simp
     ·simp[hpr,hu,hw0]
    ·simp
    ·simp[hpr,hu,hw0]
   ·simp only[hq0]at hs0;simp[p88,md,e0,e1,e2,e3,l1,l3,hpr,hu,hw0,e4,e5];rw[hs1]
    ·simp[b88_1];rw[hs0]
     ·simp[b88_0,hpr,hu,hw0]
     ·simp
     ·simp[hpr,hu,hw0]
    ·simp
    ·simp[hpr,hu,hw0]
  ·simp[p88,md,e0,e1,e2,e3,l1,l3,hpr,hu,hw0]
  ·by_cases hid:n.id=2
   ·simp[p88,md,e0,e1,e2,e3,l1,l3,hpr,hu,hw0,eq_true hid]
   ·skip
    cases hok:(Ak n.sl).2.2
    ·rw[hok]at e4;simp[p88,md,e0,e1,e2,e3,l1,l3,hpr,hu,hw0,hid,e4]
    rw[hok]at e4
    cases hsm:decide ((Ak n.sl).1=n.mt)
    ·rw[hsm]at e5;simp[p88,md,e0,e1,e2,e3,l1,l3,hpr,hu,hw0,hid,e4,e5]
    rw[hsm]at e5
    cases hq1:Af (lk2 n) 3
    ·obtain⟨g1,g2⟩:=hb1 hq1;simp only[hq1]at hs1;simp[p88,md,e0,e1,e2,e3,l1,l3,hpr,hu,hw0,hid,e4,e5];rw[hs1]
     ·simp[g1,g2]
     ·simp
     ·simp[hpr,hu,hw0,hid]
    simp only[hq1]at hs1
    cases hq0:Af (Cr 1 200 n.wait) n.wait.length
    ·obtain⟨g1,g2⟩:=hb0 hq0;simp only[hq0]at hs0;simp[p88,md,e0,e1,e2,e3,l1,l3,hpr,hu,hw0,hid,e4,e5];rw[hs1]
     ·simp[b88_1];rw[hs0]
      ·simp[g1,g2]
      ·simp
      ·simp[hpr,hu,hw0,hid]
     ·simp
     ·simp[hpr,hu,hw0,hid]
    ·simp only[hq0]at hs0;simp[p88,md,e0,e1,e2,e3,l1,l3,hpr,hu,hw0,hid,e4,e5];rw[hs1]
     ·simp[b88_1];rw[hs0]
      ·simp[b88_0,hpr,hu,hw0,hid]
      ·simp
      ·simp[hpr,hu,hw0,hid]
     ·simp
     ·simp[hpr,hu,hw0,hid]
 ·cases hpr:n.prime<;>cases hu:n.up
  ·skip
   cases hok:(Ak n.sl).2.2
   ·rw[hok]at e4;simp[p88,md,e0,e1,e2,e3,l1,l3,hpr,hu,hw0,e4]
   rw[hok]at e4
   cases hsm:decide ((Ak n.sl).1=n.mt)
   ·rw[hsm]at e5;simp[p88,md,e0,e1,e2,e3,l1,l3,hpr,hu,hw0,e4,e5]
   rw[hsm]at e5
   cases hq1:Af (lk2 n) 3
   ·obtain⟨g1,g2⟩:=hb1 hq1;simp only[hq1]at hs1;simp[p88,md,e0,e1,e2,e3,l1,l3,hpr,hu,hw0,e4,e5];rw[hs1]
    ·simp[g1,g2]
    ·simp
    ·simp[hpr,hu,hw0]
   simp only[hq1]at hs1
   cases hq0:Af (Cr 1 200 n.wait) n.wait.length
   ·obtain⟨g1,g2⟩:=hb0 hq0;simp only[hq0]at hs0;simp[p88,md,e0,e1,e2,e3,l1,l3,hpr,hu,hw0,e4,e5];rw[hs1]
    ·simp[b88_1];rw[hs0]
     ·simp[g1,g2]
     ·simp
     ·simp[hpr,hu,hw0]
    ·simp
    ·simp[hpr,hu,hw0]
   ·simp only[hq0]at hs0;simp[p88,md,e0,e1,e2,e3,l1,l3,hpr,hu,hw0,e4,e5];rw[hs1]
    ·simp[b88_1];rw[hs0]
     ·simp[b88_0,hpr,hu,hw0]
     ·simp
     ·simp[hpr,hu,hw0]
    ·simp
    ·simp[hpr,hu,hw0]
  ·skip
   cases hok:(Ak n.sl).2.2
   ·rw[hok]at e4;simp[p88,md,e0,e1,e2,e3,l1,l3,hpr,hu,hw0,e4]
   rw[hok]at e4
   cases hsm:decide ((Ak n.sl).1=n.mt)
   ·rw[hsm]at e5;simp[p88,md,e0,e1,e2,e3,l1,l3,hpr,hu,hw0,e4,e5]
   rw[hsm]at e5
   cases hq1:Af (lk2 n) 3
   ·obtain⟨g1,g2⟩:=hb1 hq1;simp only[hq1]at hs1;simp[p88,md,e0,e1,e2,e3,l1,l3,hpr,hu,hw0,e4,e5];rw[hs1]
    ·simp[g1,g2]
    ·simp
    ·simp[hpr,hu,hw0]
   simp only[hq1]at hs1
   cases hq0:Af (Cr 1 200 n.wait) n.wait.length
   ·obtain⟨g1,g2⟩:=hb0 hq0;simp only[hq0]at hs0;simp[p88,md,e0,e1,e2,e3,l1,l3,hpr,hu,hw0,e4,e5];rw[hs1]
    ·simp[b88_1];rw[hs0]
     ·simp[g1,g2]
     ·simp
     ·simp[hpr,hu,hw0]
    ·simp
    ·simp[hpr,hu,hw0]
   ·simp only[hq0]at hs0;simp[p88,md,e0,e1,e2,e3,l1,l3,hpr,hu,hw0,e4,e5];rw[hs1]
    ·simp[b88_1];rw[hs0]
     ·simp[b88_0,hpr,hu,hw0]
     ·simp
     ·simp[hpr,hu,hw0]
    ·simp
    ·simp[hpr,hu,hw0]
  ·simp[p88,md,e0,e1,e2,e3,l1,l3,hpr,hu,hw0]
  ·by_cases hid:n.id=2
   ·simp[p88,md,e0,e1,e2,e3,l1,l3,hpr,hu,hw0,eq_true hid]
   ·skip
    cases hok:(Ak n.sl).2.2
    ·rw[hok]at e4;simp[p88,md,e0,e1,e2,e3,l1,l3,hpr,hu,hw0,hid,e4]
    rw[hok]at e4
    cases hsm:decide ((Ak n.sl).1=n.mt)
    ·rw[hsm]at e5;simp[p88,md,e0,e1,e2,e3,l1,l3,hpr,hu,hw0,hid,e4,e5]
    rw[hsm]at e5
    cases hq1:Af (lk2 n) 3
    ·obtain⟨g1,g2⟩:=hb1 hq1;simp only[hq1]at hs1;simp[p88,md,e0,e1,e2,e3,l1,l3,hpr,hu,hw0,hid,e4,e5];rw[hs1]
     ·simp[g1,g2]
     ·simp
     ·simp[hpr,hu,hw0,hid]
    simp only[hq1]at hs1
    cases hq0:Af (Cr 1 200 n.wait) n.wait.length
    ·obtain⟨g1,g2⟩:=hb0 hq0;simp only[hq0]at hs0;simp[p88,md,e0,e1,e2,e3,l1,l3,hpr,hu,hw0,hid,e4,e5];rw[hs1]
     ·simp[b88_1];rw[hs0]
      ·simp[g1,g2]
      ·simp
      ·simp[hpr,hu,hw0,hid]
     ·simp
     ·simp[hpr,hu,hw0,hid]
    ·simp only[hq0]at hs0;simp[p88,md,e0,e1,e2,e3,l1,l3,hpr,hu,hw0,hid,e4,e5];rw[hs1]
     ·simp[b88_1];rw[hs0]
      ·simp[b88_0,hpr,hu,hw0,hid]
      ·simp
      ·simp[hpr,hu,hw0,hid]
     ·simp
     ·simp[hpr,hu,hw0,hid]
structure NOk (n:AG):Prop where
 id0:0<=n.id
 id2:n.id<=2
 img:EG n.image=true
 mt:BP n.mt=true
 conn:n.conn.length=3
 sync:n.sync.length=3
 copies:n.copies.length=3
 lk:Af (lk n) 3=true
 prime:n.prime=true->n.up=true/\n.id≠2
 down:n.up=false->n.wait.length=0
 wait:Af (Cr 1 200 n.wait) n.wait.length=true
 ok:(Ak n.sl).2.2=true
 same:(Ak n.sl).1=n.mt
theorem A3 {n:AG} (h:Am n=true):NOk n:=by
 unfold Am Gk at h;simp only[Bool.and_eq_true,decide_eq_true_iff]at h;obtain⟨⟨⟨⟨⟨⟨⟨⟨h0,h1⟩,h2⟩,⟨⟨⟨h3,h4⟩,h5⟩,h6⟩⟩,h7⟩,h8⟩,h9⟩,h10⟩,h11⟩:=h;have h0:=Ab.1 h0;refine⟨h0.1,h0.2,h1,h2,h3,h4,h5,h6,fun hp=> ?_,fun hu=> ?_,h9,h10,h11⟩
 ·rw[hp]at h7;simp at h7;exact h7
 ·rw[hu]at h8;simp at h8;simp[h8]
theorem NOk.nat {n:AG} (h:NOk n): ∃i:Nat,i<3/\n.id=(i:Int):=⟨n.id.toNat,by have:=h.id2;have:=h.id0;omega,by have:=h.id0;omega⟩
end Go.Proofs.YtbolhfegdocpeaaGreat.Ow
