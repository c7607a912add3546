/- Functions evaluated on the small machine: A node that is right, the code: evaluated, What follows of a node that is right, Generic functions of the library that ask a function: evaluated. -/
import Derived.Test.YtbolhfegdocpeaaGreatEv5
namespace Go.Proofs.YtbolhfegdocpeaaGreat.Ow
open Go
set_option linter.unusedVariables false
set_option linter.unusedSimpArgs false
set_option maxHeartbeats 4000000
variable {PK:Nat->List Arg->Option Res}
theorem ev_isNode (x:Int):semK G PK md 64 [.v (.sc (.int .i64 x))]=some ⟨[.v (.sc (.bool (inB x 0 2)))],[],[]⟩:=by
 refine semK_of (pf:=p64) rfl (by simp[p64]) ?_
 have e:=ev_from (PK:=PK) x 0 2
 simp[p64,md,e]
theorem ev_isWrite (x:Int):semK G PK md 129 [.v (.sc (.int .i64 x))]=some ⟨[.v (.sc (.bool (inB x 1 200)))],[],[]⟩:=by
 refine semK_of (pf:=p129) rfl (by simp[p129]) ?_
 have e:=ev_from (PK:=PK) x 1 200
 simp[p129,md,e]
theorem allB_and (p q:Nat->Bool) (n:Nat):allB (fun j=>p j&&q j) n=(allB p n&&allB q n):=by
 unfold allB
 rw[Bool.eq_iff_iff]
 simp only[Bool.and_eq_true,List.all_eq_true]
 exact⟨fun h=>⟨fun x hx=>(h x hx).1,fun x hx=>(h x hx).2⟩,fun h x hx=>⟨h.1 x hx,h.2 x hx⟩⟩
theorem links_eq (n:NodeD):links n=(decide (n.conn.length=3)&&(((n.sync.length:Int)==3)&&bitsOk n.sync)&&decide (n.copies.length=3)&&allB (lk2 n) 3):=by
 unfold links
 rw[show lk n=fun j=>mkOk (n.sync.getD j [])&&lk2 n j from rfl,allB_and]
 unfold bitsOk
 by_cases h:n.sync.length=3
 ·have h':(n.sync.length:Int)=3:=by omega
  rw[h]
  simp only[h',decide_true,Bool.and_true,beq_self_eq_true,Bool.true_and]
  cases decide (n.conn.length=3)<;>cases decide (n.copies.length=3)<;>cases allB (fun j=>mkOk (n.sync.getD j [])) 3<;>simp
 ·have h': ¬ (n.sync.length:Int)=3:=by omega
  simp[h,h']
@[simp] def st26_1 (n:NodeD) (j:Nat):St:={n:=164,m:=0,tm:=[(1,.pb 10000000 0),(85,.sc (.int .i64 j))],ob:=[(10000000,nbox n)]}
@[simp] def st26_0 (n:NodeD) (j:Nat):St:={n:=164,m:=0,tm:=[(1,.pb 10000200 0),(139,.im 1 (enc fI n.wait)),(140,.sc (.int .i64 n.wait.length)),(141,.sc (.int .i64 j))],ob:=[(10000200,nbox n)]}
theorem lp26_1 (n:NodeD) (hn:nS n) (l1:n.conn.length=3) (l2:n.sync.length=3) (l3:n.copies.length=3): ∃bad,(allB (lk2 n) 3=false->bad.m=0/\getT bad.tm 2= .sc (.bool false))/\ ∀ (s:St),s.m<=10000000->canon 10000000 [1,85] s=st26_1 n 0->semL G PK md 10000000 [1,85] b88_1 s=if allB (lk2 n) 3=true then exec (semK G PK md) (semL G PK md) md b88_1 (st26_1 n 3)else some (.ret,bad):=
 loop_all (G:=G) (PK:=PK) (md:=md) (o:=10000000) (live:=[1,85]) (c:=b88_1) (st26_1 n) (lk2 n) 3 (fun s=>s.m=0/\getT s.tm 2= .sc (.bool false)) (fun j hj=>by
  obtain⟨x,y1,hx,hx',hxd,hm⟩:=getDD_ex n.sync (j:=j) (by omega)
  obtain⟨cb,y2,hc,hc',hcd⟩:=getB_ex n.conn (j:=j) (by omega)
  obtain⟨pb,y3,hq,hq',hqd⟩:=getB_ex n.copies (j:=j) (by omega)
  have hj3:((j:Nat):Int)<3:=by omega
  have hi:=incr (n:=3) (j:=j) (by omega) (by omega)
  unfold lk2
  rw[hxd,hcd,hqd]
  by_cases hid:((j:Nat):Int)=n.id
  ·cases hu:n.up<;>cases cb<;>cases pb<;>by_cases hx0:0<x.length<;>simp[b88_1,md,y1,y2,y3,hx',hc',hq',hj3,hx0,hi,hu,hid.symm]
  ·cases hu:n.up<;>cases cb<;>cases pb<;>by_cases hx0:0<x.length<;>simp[b88_1,md,y1,y2,y3,hx',hc',hq',hj3,hx0,hi,hu,hid]) (by simp[b88_1])
theorem lp26_0 (n:NodeD) (hn:nS n): ∃bad,(allB (ascP 1 200 n.wait) n.wait.length=false->bad.m=0/\getT bad.tm 2= .sc (.bool false))/\ ∀ (s:St),s.m<=10000200->canon 10000200 [1,139,140,141] s=st26_0 n 0->semL G PK md 10000200 [1,139,140,141] b88_0 s=if allB (ascP 1 200 n.wait) n.wait.length=true then exec (semK G PK md) (semL G PK md) md b88_0 (st26_0 n n.wait.length)else some (.ret,bad):=
 loop_all (G:=G) (PK:=PK) (md:=md) (o:=10000200) (live:=[1,139,140,141]) (c:=b88_0) (st26_0 n) (ascP 1 200 n.wait) n.wait.length (fun s=>s.m=0/\getT s.tm 2= .sc (.bool false)) (fun j hj=>by
  obtain⟨x,y1,hx,hx',hxd⟩:=getD_ex n.wait (j:=j) (by omega)
  have e:=ev_isWrite (PK:=PK) x
  have hi:=incr hj hn.wait
  unfold ascP
  rw[hxd]
  generalize inB x 1 200=b1 at e ⊢
  cases b1
  ·simp[b88_0,md,hj,hx',e]
  rcases Nat.eq_zero_or_pos j with hz|hz
  ·subst hz
   simp at hi
   simp[b88_0,md,hj,hx',e,hi]
  ·have hz0: ¬j=0:=by omega
   obtain⟨i,hij⟩: ∃i,j=i+1:=⟨j - 1,by omega⟩
   obtain⟨x2,y2,hx2,hx2',hxd2⟩:=getD_ex n.wait (j:=i) (by omega)
   have hw:IntKind.wrap .i64 ((j:Int) - 1)=(i:Int):=by rw[wrap_id (by omega) (by have:=hn.wait;omega)];omega
   have hpos:(0:Int)<j:=by omega
   rw[show j - 1=i by omega,hxd2]
   by_cases hlt:x2<x
   ·have hge: ¬x<=x2:=by omega
    simp[b88_0,md,hj,hz0,hz,hx',e,hi,hw,hpos,y2,hx2',hlt,hge]
   ·have hge:x<=x2:=by omega
    simp[b88_0,md,hj,hz0,hz,hx',e,hi,hw,hpos,y2,hx2',hlt,hge]) (by simp[b88_0])
theorem ev_impl_NodeOk (n:NodeD) (hn:nS n):semK G PK md 88 [.a (lents (fN n))]=some ⟨[.v (.sc (.bool (nodeOk n)))],[],[]⟩:=by
 refine semK_of (pf:=p88) rfl (by simp[p88]) ?_
 have e0:=ev_isNode (PK:=PK) n.id
 have e1:=ev_impl_ImageOk (PK:=PK) n.image hn.image
 have e2:=ev_impl_MetaOk (PK:=PK) n.mt hn.mt
 have e3:=ev_marksAll (PK:=PK) n.sync hn.sync
 have e4:=ev_impl_SlotGet (PK:=PK) n.sl hn.sl
 have e5:=ev_impl_SameMeta (PK:=PK) (slotGet n.sl).1 n.mt (slotGet_mt hn.sl)
 simp only[lents,lent,fM,fN,fSl,owneds,owned]at e1 e2 e3 e4 e5
 unfold nodeOk
 rw[links_eq]
 generalize inB n.id 0 2=b0 at e0 ⊢
 cases b0
 ·simp[p88,md,e0]
 generalize imgOk n.image=b0 at e1 ⊢
 cases b0
 ·simp[p88,md,e0,e1]
 generalize metaOk n.mt=b0 at e2 ⊢
 cases b0
 ·simp[p88,md,e0,e1,e2]
 by_cases l1:n.conn.length=3
 case neg=>
  have l1': ¬ (n.conn.length:Int)=3:=by omega
  simp[p88,md,e0,e1,e2,l1,l1']
 have l2:(((n.sync.length:Int)==3)&&bitsOk n.sync)=true->n.sync.length=3:=fun h=>by
  rw[Bool.and_eq_true,beq_iff_eq]at h;omega
 generalize (((n.sync.length:Int)==3)&&bitsOk n.sync)=b0 at e3 l2 ⊢
 cases b0
 ·simp[p88,md,e0,e1,e2,e3,l1]
 have l2:=l2 rfl
 by_cases l3:n.copies.length=3
 case neg=>
  have l3': ¬ (n.copies.length:Int)=3:=by omega
  simp[p88,md,e0,e1,e2,e3,l1,l3,l3']
 obtain⟨bad1,hb1,hs1⟩:=lp26_1 (PK:=PK) n hn l1 l2 l3
 obtain⟨bad0,hb0,hs0⟩:=lp26_0 (PK:=PK) n hn
 by_cases hw0:0<n.wait.length
 ·cases hpr:n.prime<;>cases hu:n.up
  ·simp[p88,md,e0,e1,e2,e3,l1,l3,hpr,hu,hw0]
  ·skip
   cases hok:(slotGet n.sl).2.2
   ·rw[hok]at e4
    simp[p88,md,e0,e1,e2,e3,l1,l3,hpr,hu,hw0,e4]
   rw[hok]at e4
   cases hsm:decide ((slotGet n.sl).1=n.mt)
   ·rw[hsm]at e5
    simp[p88,md,e0,e1,e2,e3,l1,l3,hpr,hu,hw0,e4,e5]
   rw[hsm]at e5
   cases hq1:allB (lk2 n) 3
   ·obtain⟨g1,g2⟩:=hb1 hq1
    simp only[hq1]at hs1
    simp[p88,md,e0,e1,e2,e3,l1,l3,hpr,hu,hw0,e4,e5]
    rw[hs1]
    ·simp[g1,g2]
    ·simp
    ·simp[hpr,hu,hw0]
   simp only[hq1]at hs1
   cases hq0:allB (ascP 1 200 n.wait) n.wait.length
   ·obtain⟨g1,g2⟩:=hb0 hq0
    simp only[hq0]at hs0
    simp[p88,md,e0,e1,e2,e3,l1,l3,hpr,hu,hw0,e4,e5]
    rw[hs1]
    ·simp[b88_1]
     rw[hs0]
     ·simp[g1,g2]
     ·simp
     ·simp[hpr,hu,hw0]
    ·simp
    ·simp[hpr,hu,hw0]
   ·simp only[hq0]at hs0
    simp[p88,md,e0,e1,e2,e3,l1,l3,hpr,hu,hw0,e4,e5]
    rw[hs1]
    ·simp[b88_1]
     rw[hs0]
     ·simp[b88_0,hpr,hu,hw0]
     ·simp
     ·simp[hpr,hu,hw0]
    ·simp
    ·simp[hpr,hu,hw0]
  ·simp[p88,md,e0,e1,e2,e3,l1,l3,hpr,hu,hw0]
  ·by_cases hid:n.id=2
   ·simp[p88,md,e0,e1,e2,e3,l1,l3,hpr,hu,hw0,eq_true hid]
   ·skip
    cases hok:(slotGet n.sl).2.2
    ·rw[hok]at e4
     simp[p88,md,e0,e1,e2,e3,l1,l3,hpr,hu,hw0,hid,e4]
    rw[hok]at e4
    cases hsm:decide ((slotGet n.sl).1=n.mt)
    ·rw[hsm]at e5
     simp[p88,md,e0,e1,e2,e3,l1,l3,hpr,hu,hw0,hid,e4,e5]
    rw[hsm]at e5
    cases hq1:allB (lk2 n) 3
    ·obtain⟨g1,g2⟩:=hb1 hq1
     simp only[hq1]at hs1
     simp[p88,md,e0,e1,e2,e3,l1,l3,hpr,hu,hw0,hid,e4,e5]
     rw[hs1]
     ·simp[g1,g2]
     ·simp
     ·simp[hpr,hu,hw0,hid]
    simp only[hq1]at hs1
    cases hq0:allB (ascP 1 200 n.wait) n.wait.length
    ·obtain⟨g1,g2⟩:=hb0 hq0
     simp only[hq0]at hs0
     simp[p88,md,e0,e1,e2,e3,l1,l3,hpr,hu,hw0,hid,e4,e5]
     rw[hs1]
     ·simp[b88_1]
      rw[hs0]
      ·simp[g1,g2]
      ·simp
      ·simp[hpr,hu,hw0,hid]
     ·simp
     ·simp[hpr,hu,hw0,hid]
    ·simp only[hq0]at hs0
     simp[p88,md,e0,e1,e2,e3,l1,l3,hpr,hu,hw0,hid,e4,e5]
     rw[hs1]
     ·simp[b88_1]
      rw[hs0]
      ·simp[b88_0,hpr,hu,hw0,hid]
      ·simp
      ·simp[hpr,hu,hw0,hid]
     ·simp
     ·simp[hpr,hu,hw0,hid]
 ·cases hpr:n.prime<;>cases hu:n.up
  ·skip
   cases hok:(slotGet n.sl).2.2
   ·rw[hok]at e4
    simp[p88,md,e0,e1,e2,e3,l1,l3,hpr,hu,hw0,e4]
   rw[hok]at e4
   cases hsm:decide ((slotGet n.sl).1=n.mt)
   ·rw[hsm]at e5
    simp[p88,md,e0,e1,e2,e3,l1,l3,hpr,hu,hw0,e4,e5]
   rw[hsm]at e5
   cases hq1:allB (lk2 n) 3
   ·obtain⟨g1,g2⟩:=hb1 hq1
    simp only[hq1]at hs1
    simp[p88,md,e0,e1,e2,e3,l1,l3,hpr,hu,hw0,e4,e5]
    rw[hs1]
    ·simp[g1,g2]
    ·simp
    ·simp[hpr,hu,hw0]
   simp only[hq1]at hs1
   cases hq0:allB (ascP 1 200 n.wait) n.wait.length
   ·obtain⟨g1,g2⟩:=hb0 hq0
    simp only[hq0]at hs0
    simp[p88,md,e0,e1,e2,e3,l1,l3,hpr,hu,hw0,e4,e5]
    rw[hs1]
    ·simp[b88_1]
     rw[hs0]
     ·simp[g1,g2]
     ·simp
     ·simp[hpr,hu,hw0]
    ·simp
    ·simp[hpr,hu,hw0]
   ·simp only[hq0]at hs0
    simp[p88,md,e0,e1,e2,e3,l1,l3,hpr,hu,hw0,e4,e5]
    rw[hs1]
    ·simp[b88_1]
     rw[hs0]
     ·simp[b88_0,hpr,hu,hw0]
     ·simp
     ·simp[hpr,hu,hw0]
    ·simp
    ·simp[hpr,hu,hw0]
  ·skip
   cases hok:(slotGet n.sl).2.2
   ·rw[hok]at e4
    simp[p88,md,e0,e1,e2,e3,l1,l3,hpr,hu,hw0,e4]
   rw[hok]at e4
   cases hsm:decide ((slotGet n.sl).1=n.mt)
   ·rw[hsm]at e5
    simp[p88,md,e0,e1,e2,e3,l1,l3,hpr,hu,hw0,e4,e5]
   rw[hsm]at e5
   cases hq1:allB (lk2 n) 3
   ·obtain⟨g1,g2⟩:=hb1 hq1
    simp only[hq1]at hs1
    simp[p88,md,e0,e1,e2,e3,l1,l3,hpr,hu,hw0,e4,e5]
    rw[hs1]
    ·simp[g1,g2]
    ·simp
    ·simp[hpr,hu,hw0]
   simp only[hq1]at hs1
   cases hq0:allB (ascP 1 200 n.wait) n.wait.length
   ·obtain⟨g1,g2⟩:=hb0 hq0
    simp only[hq0]at hs0
    simp[p88,md,e0,e1,e2,e3,l1,l3,hpr,hu,hw0,e4,e5]
    rw[hs1]
    ·simp[b88_1]
     rw[hs0]
     ·simp[g1,g2]
     ·simp
     ·simp[hpr,hu,hw0]
    ·simp
    ·simp[hpr,hu,hw0]
   ·simp only[hq0]at hs0
    simp[p88,md,e0,e1,e2,e3,l1,l3,hpr,hu,hw0,e4,e5]
    rw[hs1]
    ·simp[b88_1]
     rw[hs0]
     ·simp[b88_0,hpr,hu,hw0]
     ·simp
     ·simp[hpr,hu,hw0]
    ·simp
    ·simp[hpr,hu,hw0]
  ·simp[p88,md,e0,e1,e2,e3,l1,l3,hpr,hu,hw0]
  ·by_cases hid:n.id=2
   ·simp[p88,md,e0,e1,e2,e3,l1,l3,hpr,hu,hw0,eq_true hid]
   ·skip
    cases hok:(slotGet n.sl).2.2
    ·rw[hok]at e4
     simp[p88,md,e0,e1,e2,e3,l1,l3,hpr,hu,hw0,hid,e4]
    rw[hok]at e4
    cases hsm:decide ((slotGet n.sl).1=n.mt)
    ·rw[hsm]at e5
     simp[p88,md,e0,e1,e2,e3,l1,l3,hpr,hu,hw0,hid,e4,e5]
    rw[hsm]at e5
    cases hq1:allB (lk2 n) 3
    ·obtain⟨g1,g2⟩:=hb1 hq1
     simp only[hq1]at hs1
     simp[p88,md,e0,e1,e2,e3,l1,l3,hpr,hu,hw0,hid,e4,e5]
     rw[hs1]
     ·simp[g1,g2]
     ·simp
     ·simp[hpr,hu,hw0,hid]
    simp only[hq1]at hs1
    cases hq0:allB (ascP 1 200 n.wait) n.wait.length
    ·obtain⟨g1,g2⟩:=hb0 hq0
     simp only[hq0]at hs0
     simp[p88,md,e0,e1,e2,e3,l1,l3,hpr,hu,hw0,hid,e4,e5]
     rw[hs1]
     ·simp[b88_1]
      rw[hs0]
      ·simp[g1,g2]
      ·simp
      ·simp[hpr,hu,hw0,hid]
     ·simp
     ·simp[hpr,hu,hw0,hid]
    ·simp only[hq0]at hs0
     simp[p88,md,e0,e1,e2,e3,l1,l3,hpr,hu,hw0,hid,e4,e5]
     rw[hs1]
     ·simp[b88_1]
      rw[hs0]
      ·simp[b88_0,hpr,hu,hw0,hid]
      ·simp
      ·simp[hpr,hu,hw0,hid]
     ·simp
     ·simp[hpr,hu,hw0,hid]
end Go.Proofs.YtbolhfegdocpeaaGreat.Ow
namespace Go.Proofs.YtbolhfegdocpeaaGreat.Ow
open Go
set_option linter.unusedVariables false
set_option linter.unusedSimpArgs false
set_option maxHeartbeats 4000000
variable {PK:Nat->List Arg->Option Res}
structure NOk (n:NodeD):Prop where
 id0:0<=n.id
 id2:n.id<=2
 img:imgOk n.image=true
 mt:metaOk n.mt=true
 conn:n.conn.length=3
 sync:n.sync.length=3
 copies:n.copies.length=3
 lk:allB (lk n) 3=true
 prime:n.prime=true->n.up=true/\n.id≠2
 down:n.up=false->n.wait.length=0
 wait:allB (ascP 1 200 n.wait) n.wait.length=true
 ok:(slotGet n.sl).2.2=true
 same:(slotGet n.sl).1=n.mt
theorem nodeOk_of {n:NodeD} (h:nodeOk n=true):NOk n:=by
 unfold nodeOk links at h
 simp only[Bool.and_eq_true,decide_eq_true_iff]at h
 obtain⟨⟨⟨⟨⟨⟨⟨⟨h0,h1⟩,h2⟩,⟨⟨⟨h3,h4⟩,h5⟩,h6⟩⟩,h7⟩,h8⟩,h9⟩,h10⟩,h11⟩:=h
 have h0:=inB_iff.1 h0
 refine⟨h0.1,h0.2,h1,h2,h3,h4,h5,h6,fun hp=> ?_,fun hu=> ?_,h9,h10,h11⟩
 ·rw[hp]at h7
  simp at h7
  exact h7
 ·rw[hu]at h8
  simp at h8
  simp[h8]
theorem NOk.nat {n:NodeD} (h:NOk n): ∃i:Nat,i<3/\n.id=(i:Int):=⟨n.id.toNat,by have:=h.id2;have:=h.id0;omega,by have:=h.id0;omega⟩
end Go.Proofs.YtbolhfegdocpeaaGreat.Ow
namespace Go.Proofs.YtbolhfegdocpeaaGreat.Ow
open Go
set_option linter.unusedVariables false
set_option linter.unusedSimpArgs false
set_option maxHeartbeats 4000000
variable {PK:Nat->List Arg->Option Res}
@[simp] def ixI0 (f:Nat) (l:List Int) (j:Nat):St:={n:=19,m:=0,tm:=[(0,.im 1 (enc fI l)),(1,.clo f []),(7,.sc (.int .i64 l.length)),(8,.sc (.int .i64 j))],ob:=[]}
theorem any_fidx {α:Type} (q:α->Bool) (l:List α) (d:α):decide (0<=fidx (fun j=> !q (l.getD j d)) l.length)=l.any q:=by
 have h:=fidx_all (fun j=> !q (l.getD j d)) l.length
 refine Eq.trans (b:=decide (fidx (fun j=> !q (l.getD j d)) l.length ≥ 0)) rfl ?_
 rw[h]
 cases hp:allB (fun j=> !q (l.getD j d)) l.length
 ·symm
  rw[Bool.not_false,List.any_eq_true]
  by_cases hx: ∃x,x∈l/\q x=true
  ·exact hx
  ·exfalso
   rw[allB_true (fun j hj=> ?_)]at hp
   ·cases hp
   ·obtain⟨x,hx1⟩:=getElem?_of_lt hj
    rw[getD_of hx1]
    cases hqx:q x
    ·rfl
    ·exact absurd ⟨x,List.mem_of_getElem? hx1,hqx⟩ hx
 ·symm
  rw[Bool.not_true,List.any_eq_false]
  intro x hx
  obtain⟨j,hj⟩:=List.getElem?_of_mem hx
  have:=allB_get hp (List.getElem?_eq_some_iff.1 hj).1
  simp only[getD_of hj]at this
  simpa using this
theorem ev_IndexI0 (f:Nat) (q:Int->Bool) (l:List Int) (hl:l.length<=1048576) (hmd:md f=[]) (hq: ∀x∈l,semK G PK md f [.v (.sc (.int .i64 x))]=some ⟨[.v (.sc (.bool (q x)))],[],[]⟩):
  semK G PK md 136 [.v (.im 1 (enc fI l)),.c f []]=some ⟨[.v (.sc (.int .i64 (fidx (fun j=> !q (l.getD j 0)) l.length)))],[],[]⟩:=by
 refine semK_of (pf:=p136) rfl (by simp[p136]) ?_
 obtain⟨bad,hb,hsz⟩:=loop_find (G:=G) (PK:=PK) (md:=md) (o:=10000000) (live:=[0,1,7,8]) (c:=b136_0) (ixI0 f l) (fun j=> !q (l.getD j 0)) l.length (fun k s=>s.m=0/\getT s.tm 4= .sc (.int .i64 k)) (fun j hj=>by
  obtain⟨x,hx⟩:=getElem?_of_lt hj
  obtain⟨_,hx'⟩:=at_of hx
  have e:=hq x (List.mem_of_getElem? hx)
  skip
  have hi:=incr hj hl
  rw[getD_of hx]
  cases hqx:q x
  ·rw[hqx]at e
   simp[b136_0,hmd,hj,hx',e,hi]
  ·rw[hqx]at e
   simp[b136_0,hmd,hj,hx',e,hi]) (by simp[b136_0])
 cases hp:allB (fun j=> !q (l.getD j 0)) l.length
 ·obtain⟨k,hk,h1,h2,hm,ht⟩:=hb hp
  rw[fidx_false hk h1 h2]
  simp only[hp]at hsz
  simp[p136,md]
  rw[hsz]
  ·simp[hm,ht]
  ·simp
  ·simp
 ·rw[fidx_true (fun j hj=>allB_get hp hj)]
  simp only[hp]at hsz
  simp[p136,md]
  rw[hsz]
  ·simp[b136_0]
  ·simp
  ·simp
theorem ev_HasI0 (f:Nat) (q:Int->Bool) (l:List Int) (hl:l.length<=1048576) (hmd:md f=[]) (hq: ∀x∈l,semK G PK md f [.v (.sc (.int .i64 x))]=some ⟨[.v (.sc (.bool (q x)))],[],[]⟩):
  semK G PK md 98 [.v (.im 1 (enc fI l)),.c f []]=some ⟨[.v (.sc (.bool (l.any q)))],[],[]⟩:=by
 refine semK_of (pf:=p98) rfl (by simp[p98]) ?_
 have e:=ev_IndexI0 (PK:=PK) f q l hl hmd hq
 have h:=any_fidx q l 0
 simp[p98,md,hmd,e,h]
 try exact h
@[simp] def ixI1 (f:Nat) (cs:List T) (l:List Int) (j:Nat):St:={n:=19,m:=0,tm:=[(0,.im 1 (enc fI l)),(1,.clo f [.pim cs]),(7,.sc (.int .i64 l.length)),(8,.sc (.int .i64 j))],ob:=[]}
theorem ev_IndexI1 (f:Nat) (cs:List T) (q:Int->Bool) (l:List Int) (hl:l.length<=1048576) (hmd:md f=[]) (hq: ∀x∈l,semK G PK md f [.v (.sc (.int .i64 x)),.pi cs]=some ⟨[.v (.sc (.bool (q x)))],[],[]⟩):
  semK G PK md 136 [.v (.im 1 (enc fI l)),.c f [cs]]=some ⟨[.v (.sc (.int .i64 (fidx (fun j=> !q (l.getD j 0)) l.length)))],[],[]⟩:=by
 refine semK_of (pf:=p136) rfl (by simp[p136]) ?_
 obtain⟨bad,hb,hsz⟩:=loop_find (G:=G) (PK:=PK) (md:=md) (o:=10000000) (live:=[0,1,7,8]) (c:=b136_0) (ixI1 f cs l) (fun j=> !q (l.getD j 0)) l.length (fun k s=>s.m=0/\getT s.tm 4= .sc (.int .i64 k)) (fun j hj=>by
  obtain⟨x,hx⟩:=getElem?_of_lt hj
  obtain⟨_,hx'⟩:=at_of hx
  have e:=hq x (List.mem_of_getElem? hx)
  skip
  have hi:=incr hj hl
  rw[getD_of hx]
  cases hqx:q x
  ·rw[hqx]at e
   simp[b136_0,hmd,hj,hx',e,hi]
  ·rw[hqx]at e
   simp[b136_0,hmd,hj,hx',e,hi]) (by simp[b136_0])
 cases hp:allB (fun j=> !q (l.getD j 0)) l.length
 ·obtain⟨k,hk,h1,h2,hm,ht⟩:=hb hp
  rw[fidx_false hk h1 h2]
  simp only[hp]at hsz
  simp[p136,md]
  rw[hsz]
  ·simp[hm,ht]
  ·simp
  ·simp
 ·rw[fidx_true (fun j hj=>allB_get hp hj)]
  simp only[hp]at hsz
  simp[p136,md]
  rw[hsz]
  ·simp[b136_0]
  ·simp
  ·simp
theorem ev_HasI1 (f:Nat) (cs:List T) (q:Int->Bool) (l:List Int) (hl:l.length<=1048576) (hmd:md f=[]) (hq: ∀x∈l,semK G PK md f [.v (.sc (.int .i64 x)),.pi cs]=some ⟨[.v (.sc (.bool (q x)))],[],[]⟩):
  semK G PK md 98 [.v (.im 1 (enc fI l)),.c f [cs]]=some ⟨[.v (.sc (.bool (l.any q)))],[],[]⟩:=by
 refine semK_of (pf:=p98) rfl (by simp[p98]) ?_
 have e:=ev_IndexI1 (PK:=PK) f cs q l hl hmd hq
 have h:=any_fidx q l 0
 simp[p98,md,hmd,e,h]
 try exact h
@[simp] def ixUU0 (f:Nat) (l:List (List Int)) (j:Nat):St:={n:=19,m:=0,tm:=[(0,.im 1 (enc fUU l)),(1,.clo f []),(7,.sc (.int .i64 l.length)),(8,.sc (.int .i64 j))],ob:=[]}
theorem ev_IndexUU0 (f:Nat) (q:(List Int)->Bool) (l:List (List Int)) (hl:l.length<=1048576) (hmd:md f=[]) (hq: ∀x∈l,semK G PK md f [.v (.im 1 (enc fU x))]=some ⟨[.v (.sc (.bool (q x)))],[],[]⟩):
  semK G PK md 142 [.v (.im 1 (enc fUU l)),.c f []]=some ⟨[.v (.sc (.int .i64 (fidx (fun j=> !q (l.getD j [])) l.length)))],[],[]⟩:=by
 refine semK_of (pf:=p142) rfl (by simp[p142]) ?_
 obtain⟨bad,hb,hsz⟩:=loop_find (G:=G) (PK:=PK) (md:=md) (o:=10000000) (live:=[0,1,7,8]) (c:=b142_0) (ixUU0 f l) (fun j=> !q (l.getD j [])) l.length (fun k s=>s.m=0/\getT s.tm 4= .sc (.int .i64 k)) (fun j hj=>by
  obtain⟨x,hx⟩:=getElem?_of_lt hj
  obtain⟨_,hx'⟩:=at_of hx
  have e:=hq x (List.mem_of_getElem? hx)
  skip
  have hi:=incr hj hl
  rw[getD_of hx]
  cases hqx:q x
  ·rw[hqx]at e
   simp[b142_0,hmd,hj,hx',e,hi]
  ·rw[hqx]at e
   simp[b142_0,hmd,hj,hx',e,hi]) (by simp[b142_0])
 cases hp:allB (fun j=> !q (l.getD j [])) l.length
 ·obtain⟨k,hk,h1,h2,hm,ht⟩:=hb hp
  rw[fidx_false hk h1 h2]
  simp only[hp]at hsz
  simp[p142,md]
  rw[hsz]
  ·simp[hm,ht]
  ·simp
  ·simp
 ·rw[fidx_true (fun j hj=>allB_get hp hj)]
  simp only[hp]at hsz
  simp[p142,md]
  rw[hsz]
  ·simp[b142_0]
  ·simp
  ·simp
theorem ev_HasUU0 (f:Nat) (q:(List Int)->Bool) (l:List (List Int)) (hl:l.length<=1048576) (hmd:md f=[]) (hq: ∀x∈l,semK G PK md f [.v (.im 1 (enc fU x))]=some ⟨[.v (.sc (.bool (q x)))],[],[]⟩):
  semK G PK md 103 [.v (.im 1 (enc fUU l)),.c f []]=some ⟨[.v (.sc (.bool (l.any q)))],[],[]⟩:=by
 refine semK_of (pf:=p103) rfl (by simp[p103]) ?_
 have e:=ev_IndexUU0 (PK:=PK) f q l hl hmd hq
 have h:=any_fidx q l []
 simp[p103,md,hmd,e,h]
 try exact h
@[simp] def ixUU1 (f:Nat) (cs:List T) (l:List (List Int)) (j:Nat):St:={n:=19,m:=0,tm:=[(0,.im 1 (enc fUU l)),(1,.clo f [.pim cs]),(7,.sc (.int .i64 l.length)),(8,.sc (.int .i64 j))],ob:=[]}
theorem ev_IndexUU1 (f:Nat) (cs:List T) (q:(List Int)->Bool) (l:List (List Int)) (hl:l.length<=1048576) (hmd:md f=[]) (hq: ∀x∈l,semK G PK md f [.v (.im 1 (enc fU x)),.pi cs]=some ⟨[.v (.sc (.bool (q x)))],[],[]⟩):
  semK G PK md 142 [.v (.im 1 (enc fUU l)),.c f [cs]]=some ⟨[.v (.sc (.int .i64 (fidx (fun j=> !q (l.getD j [])) l.length)))],[],[]⟩:=by
 refine semK_of (pf:=p142) rfl (by simp[p142]) ?_
 obtain⟨bad,hb,hsz⟩:=loop_find (G:=G) (PK:=PK) (md:=md) (o:=10000000) (live:=[0,1,7,8]) (c:=b142_0) (ixUU1 f cs l) (fun j=> !q (l.getD j [])) l.length (fun k s=>s.m=0/\getT s.tm 4= .sc (.int .i64 k)) (fun j hj=>by
  obtain⟨x,hx⟩:=getElem?_of_lt hj
  obtain⟨_,hx'⟩:=at_of hx
  have e:=hq x (List.mem_of_getElem? hx)
  skip
  have hi:=incr hj hl
  rw[getD_of hx]
  cases hqx:q x
  ·rw[hqx]at e
   simp[b142_0,hmd,hj,hx',e,hi]
  ·rw[hqx]at e
   simp[b142_0,hmd,hj,hx',e,hi]) (by simp[b142_0])
 cases hp:allB (fun j=> !q (l.getD j [])) l.length
 ·obtain⟨k,hk,h1,h2,hm,ht⟩:=hb hp
  rw[fidx_false hk h1 h2]
  simp only[hp]at hsz
  simp[p142,md]
  rw[hsz]
  ·simp[hm,ht]
  ·simp
  ·simp
 ·rw[fidx_true (fun j hj=>allB_get hp hj)]
  simp only[hp]at hsz
  simp[p142,md]
  rw[hsz]
  ·simp[b142_0]
  ·simp
  ·simp
theorem ev_HasUU1 (f:Nat) (cs:List T) (q:(List Int)->Bool) (l:List (List Int)) (hl:l.length<=1048576) (hmd:md f=[]) (hq: ∀x∈l,semK G PK md f [.v (.im 1 (enc fU x)),.pi cs]=some ⟨[.v (.sc (.bool (q x)))],[],[]⟩):
  semK G PK md 103 [.v (.im 1 (enc fUU l)),.c f [cs]]=some ⟨[.v (.sc (.bool (l.any q)))],[],[]⟩:=by
 refine semK_of (pf:=p103) rfl (by simp[p103]) ?_
 have e:=ev_IndexUU1 (PK:=PK) f cs q l hl hmd hq
 have h:=any_fidx q l []
 simp[p103,md,hmd,e,h]
 try exact h
@[simp] def ixII0 (f:Nat) (l:List (List Int)) (j:Nat):St:={n:=19,m:=0,tm:=[(0,.im 1 (enc fII l)),(1,.clo f []),(7,.sc (.int .i64 l.length)),(8,.sc (.int .i64 j))],ob:=[]}
theorem ev_IndexII0 (f:Nat) (q:(List Int)->Bool) (l:List (List Int)) (hl:l.length<=1048576) (hmd:md f=[]) (hq: ∀x∈l,semK G PK md f [.v (.im 1 (enc fI x))]=some ⟨[.v (.sc (.bool (q x)))],[],[]⟩):
  semK G PK md 183 [.v (.im 1 (enc fII l)),.c f []]=some ⟨[.v (.sc (.int .i64 (fidx (fun j=> !q (l.getD j [])) l.length)))],[],[]⟩:=by
 refine semK_of (pf:=p183) rfl (by simp[p183]) ?_
 obtain⟨bad,hb,hsz⟩:=loop_find (G:=G) (PK:=PK) (md:=md) (o:=10000000) (live:=[0,1,7,8]) (c:=b183_0) (ixII0 f l) (fun j=> !q (l.getD j [])) l.length (fun k s=>s.m=0/\getT s.tm 4= .sc (.int .i64 k)) (fun j hj=>by
  obtain⟨x,hx⟩:=getElem?_of_lt hj
  obtain⟨_,hx'⟩:=at_of hx
  have e:=hq x (List.mem_of_getElem? hx)
  skip
  have hi:=incr hj hl
  rw[getD_of hx]
  cases hqx:q x
  ·rw[hqx]at e
   simp[b183_0,hmd,hj,hx',e,hi]
  ·rw[hqx]at e
   simp[b183_0,hmd,hj,hx',e,hi]) (by simp[b183_0])
 cases hp:allB (fun j=> !q (l.getD j [])) l.length
 ·obtain⟨k,hk,h1,h2,hm,ht⟩:=hb hp
  rw[fidx_false hk h1 h2]
  simp only[hp]at hsz
  simp[p183,md]
  rw[hsz]
  ·simp[hm,ht]
  ·simp
  ·simp
 ·rw[fidx_true (fun j hj=>allB_get hp hj)]
  simp only[hp]at hsz
  simp[p183,md]
  rw[hsz]
  ·simp[b183_0]
  ·simp
  ·simp
theorem ev_HasII0 (f:Nat) (q:(List Int)->Bool) (l:List (List Int)) (hl:l.length<=1048576) (hmd:md f=[]) (hq: ∀x∈l,semK G PK md f [.v (.im 1 (enc fI x))]=some ⟨[.v (.sc (.bool (q x)))],[],[]⟩):
  semK G PK md 165 [.v (.im 1 (enc fII l)),.c f []]=some ⟨[.v (.sc (.bool (l.any q)))],[],[]⟩:=by
 refine semK_of (pf:=p165) rfl (by simp[p165]) ?_
 have e:=ev_IndexII0 (PK:=PK) f q l hl hmd hq
 have h:=any_fidx q l []
 simp[p165,md,hmd,e,h]
 try exact h
@[simp] def ixII1 (f:Nat) (cs:List T) (l:List (List Int)) (j:Nat):St:={n:=19,m:=0,tm:=[(0,.im 1 (enc fII l)),(1,.clo f [.pim cs]),(7,.sc (.int .i64 l.length)),(8,.sc (.int .i64 j))],ob:=[]}
theorem ev_IndexII1 (f:Nat) (cs:List T) (q:(List Int)->Bool) (l:List (List Int)) (hl:l.length<=1048576) (hmd:md f=[]) (hq: ∀x∈l,semK G PK md f [.v (.im 1 (enc fI x)),.pi cs]=some ⟨[.v (.sc (.bool (q x)))],[],[]⟩):
  semK G PK md 183 [.v (.im 1 (enc fII l)),.c f [cs]]=some ⟨[.v (.sc (.int .i64 (fidx (fun j=> !q (l.getD j [])) l.length)))],[],[]⟩:=by
 refine semK_of (pf:=p183) rfl (by simp[p183]) ?_
 obtain⟨bad,hb,hsz⟩:=loop_find (G:=G) (PK:=PK) (md:=md) (o:=10000000) (live:=[0,1,7,8]) (c:=b183_0) (ixII1 f cs l) (fun j=> !q (l.getD j [])) l.length (fun k s=>s.m=0/\getT s.tm 4= .sc (.int .i64 k)) (fun j hj=>by
  obtain⟨x,hx⟩:=getElem?_of_lt hj
  obtain⟨_,hx'⟩:=at_of hx
  have e:=hq x (List.mem_of_getElem? hx)
  skip
  have hi:=incr hj hl
  rw[getD_of hx]
  cases hqx:q x
  ·rw[hqx]at e
   simp[b183_0,hmd,hj,hx',e,hi]
  ·rw[hqx]at e
   simp[b183_0,hmd,hj,hx',e,hi]) (by simp[b183_0])
 cases hp:allB (fun j=> !q (l.getD j [])) l.length
 ·obtain⟨k,hk,h1,h2,hm,ht⟩:=hb hp
  rw[fidx_false hk h1 h2]
  simp only[hp]at hsz
  simp[p183,md]
  rw[hsz]
  ·simp[hm,ht]
  ·simp
  ·simp
 ·rw[fidx_true (fun j hj=>allB_get hp hj)]
  simp only[hp]at hsz
  simp[p183,md]
  rw[hsz]
  ·simp[b183_0]
  ·simp
  ·simp
theorem ev_HasII1 (f:Nat) (cs:List T) (q:(List Int)->Bool) (l:List (List Int)) (hl:l.length<=1048576) (hmd:md f=[]) (hq: ∀x∈l,semK G PK md f [.v (.im 1 (enc fI x)),.pi cs]=some ⟨[.v (.sc (.bool (q x)))],[],[]⟩):
  semK G PK md 165 [.v (.im 1 (enc fII l)),.c f [cs]]=some ⟨[.v (.sc (.bool (l.any q)))],[],[]⟩:=by
 refine semK_of (pf:=p165) rfl (by simp[p165]) ?_
 have e:=ev_IndexII1 (PK:=PK) f cs q l hl hmd hq
 have h:=any_fidx q l []
 simp[p165,md,hmd,e,h]
 try exact h
end Go.Proofs.YtbolhfegdocpeaaGreat.Ow
