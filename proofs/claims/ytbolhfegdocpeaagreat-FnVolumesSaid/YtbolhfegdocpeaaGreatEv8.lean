/- Functions evaluated on the small machine: A world that is right, the code: evaluated, Slots put, plain, Slots put: evaluated, Slots put: both. -/
import Derived.Test.YtbolhfegdocpeaaGreatEv7
import Derived.Test.YtbolhfegdocpeaaGreatEv6
namespace Go.Proofs.YtbolhfegdocpeaaGreat.Ow
open Go
set_option linter.unusedVariables false
set_option linter.unusedSimpArgs false
set_option maxHeartbeats 4000000
variable {PK:Nat->List Arg->Option Res}
def impP (w:WorldD) (i k:Nat):Bool:= !(cn w i k&& !cn w k i)
theorem imp_sym (w:WorldD):allB (fun i=>allB (impP w i) 3) 3=allB (fun i=>allB (symP w i) 3) 3:=by
 cases h:allB (fun i=>allB (symP w i) 3) 3
 ·cases h2:allB (fun i=>allB (impP w i) 3) 3
  ·rfl
  ·exfalso
   rw[allB_true (fun i hi=>allB_true fun k hk=> ?_)]at h
   ·cases h
   ·have h3:impP w i k=true:=allB_get (p:=impP w i) (allB_get (p:=fun i=>allB (impP w i) 3) h2 hi) hk
    have h4:impP w k i=true:=allB_get (p:=impP w k) (allB_get (p:=fun i=>allB (impP w i) 3) h2 hk) hi
    unfold impP at h3 h4
    unfold symP
    revert h3 h4
    cases cn w i k<;>cases cn w k i<;>simp
 ·refine allB_true fun i hi=>allB_true fun k hk=> ?_
  have h3:symP w i k=true:=allB_get (p:=symP w i) (allB_get (p:=fun i=>allB (symP w i) 3) h hi) hk
  unfold symP at h3
  unfold impP
  revert h3
  cases cn w i k<;>cases cn w k i<;>simp
def nodesB (w:WorldD):Bool:=decide (w.nodes.length=3)&&allB (nodeP w) 3&&allB (fun i=>allB (symP w i) 3) 3
theorem any_img (w:WorldD) (n:NodeD) (h8:n.image.length=8):n.image.any (fun x=>decide ((w.log.length:Int)<x))= !allB (imgP w n) 8:=by
 cases h:allB (imgP w n) 8
 ·unfold allB at h
  rw[List.all_eq_false]at h
  obtain⟨k,hk,h2⟩:=h
  have hk:=List.mem_range.1 hk
  obtain⟨x,y1,hx,hx',hxd,hxm⟩:=get_ex n.image 0 (j:=k) (by omega)
  unfold imgP at h2
  rw[hxd,decide_eq_true_iff]at h2
  exact List.any_eq_true.2 ⟨x,hxm,by simp;omega⟩
 ·refine List.any_eq_false.2 fun x hx=> ?_
  obtain⟨j,hj⟩:=List.getElem?_of_mem hx
  have h2:=allB_get h (j:=j) (by rw[←h8];exact(List.getElem?_eq_some_iff.1 hj).1)
  unfold imgP at h2
  rw[getD_of hj,decide_eq_true_iff]at h2
  simp
  omega
theorem ev_nodesOk1 (w:WorldD) (x:Int):semK G PK md 99 [.v (.sc (.int .i64 x)),.pi (fWo w)]=some ⟨[.v (.sc (.bool (decide ((w.log.length:Int)<x))))],[],[]⟩:=by
 refine semK_of (pf:=p99) rfl (by simp[p99]) ?_
 simp[p99,md]
@[simp] def st84_2 (w:WorldD) (j:Nat):St:={n:=75,m:=0,tm:=[(1,.pb 10000000 0),(13,.im 16 (enc fN w.nodes)),(14,.sc (.int .i64 w.nodes.length)),(15,.sc (.int .i64 j))],ob:=[(10000000,wbox w)]}
@[simp] def st84_1 (w:WorldD) (j:Nat):St:={n:=75,m:=0,tm:=[(1,.pb 10000200 0),(46,.im 16 (enc fN w.nodes)),(47,.sc (.int .i64 w.nodes.length)),(48,.sc (.int .i64 j))],ob:=[(10000200,wbox w)]}
@[simp] def st84_0 (w:WorldD) (n:NodeD) (i j:Nat):St:={n:=75,m:=0,tm:=[(1,.pb 10000400 0),(5,.sc (.int .i64 i)),(6,.pb 10000401 0),(46,.im 16 (enc fN w.nodes)),(47,.sc (.int .i64 w.nodes.length)),(48,.sc (.int .i64 i)),(53,.sc (.int .i64 j))],ob:=[(10000400,wbox w),(10000401,nbox n)]}
theorem lp84_2 (w:WorldD) (h3:w.nodes.length=3) (hw:wS w): ∃bad,(allB (nodeP w) 3=false->bad.m=0/\getT bad.tm 2= .sc (.bool false))/\ ∀ (s:St),s.m<=10000000->canon 10000000 [1,13,14,15] s=st84_2 w 0->semL G PK md 10000000 [1,13,14,15] b63_2 s=if allB (nodeP w) 3=true then exec (semK G PK md) (semL G PK md) md b63_2 (st84_2 w 3)else some (.ret,bad):=
 loop_all (G:=G) (PK:=PK) (md:=md) (o:=10000000) (live:=[1,13,14,15]) (c:=b63_2) (st84_2 w) (nodeP w) (3) (fun s=>s.m=0/\getT s.tm 2= .sc (.bool false)) (fun j hj=>by
  obtain⟨x,y1,hx,hx',hxd,hxm⟩:=get_ex w.nodes zN (j:=j) (by omega)
  have hj3:((j:Nat):Int)<3:=by omega
  have hinc:=incr (n:=3) (j:=j) (by omega) (by omega)
  have e:=ev_impl_NodeOk (PK:=PK) x (hw.node x hxm)
  simp only[lents,lent,fN]at e
  unfold nodeP nd
  rw[hxd]
  cases hok:nodeOk x
  ·rw[hok]at e
   simp[b63_2,md,h3,hj,hj3,y1,hx',e]
  rw[hok]at e
  by_cases hid:x.id=j
  case neg=>simp[b63_2,md,h3,hj,hj3,y1,hx',e,hid]
  rw[hid]at e
  by_cases hl:x.mt.last<=w.log.length
  case neg=>
   have hl2:(w.log.length:Int)<x.mt.last:=by omega
   simp[b63_2,md,h3,hj,hj3,y1,hx',hid,e,hl,hl2]
  have hl2: ¬ (w.log.length:Int)<x.mt.last:=by omega
  have nx:=nodeOk_of hok
  have e2:=ev_HasI1 (PK:=PK) 99 (fWo w) (fun x=>decide ((w.log.length:Int)<x)) x.image (by have:=nx.img8;omega) rfl (fun x _=>ev_nodesOk1 w x)
  rw[any_img w x nx.img8]at e2
  simp only[fWo]at e2
  cases hp:allB (imgP w x) 8
  ·rw[hp]at e2
   simp[b63_2,md,h3,hj,hj3,y1,hx',hid,e,hl,hl2,e2]
  ·rw[hp]at e2
   simp[b63_2,md,h3,hj,hj3,y1,hx',hid,e,hl,hl2,e2,hinc]) (by simp[b63_2,h3])
theorem lp84_0 (w:WorldD) (hN:NodesOk w) (i:Nat) (hi:i<3): ∃bad,(allB (impP w i) 3=false->bad.m=0/\getT bad.tm 2= .sc (.bool false))/\ ∀ (s:St),s.m<=10000400->canon 10000400 [1,5,6,46,47,48,53] s=st84_0 w (nd w i) i 0->semL G PK md 10000400 [1,5,6,46,47,48,53] b63_0 s=if allB (impP w i) 3=true then exec (semK G PK md) (semL G PK md) md b63_0 (st84_0 w (nd w i) i 3)else some (.ret,bad):=
 loop_all (G:=G) (PK:=PK) (md:=md) (o:=10000400) (live:=[1,5,6,46,47,48,53]) (c:=b63_0) (st84_0 w (nd w i) i) (impP w i) (3) (fun s=>s.m=0/\getT s.tm 2= .sc (.bool false)) (fun j hj=>by
  obtain⟨y,y2,hy,hy',hyd,hym⟩:=get_ex w.nodes zN (j:=j) (by rw[hN.len];omega)
  have nx:=hN.ok i hi
  have ny:=hN.ok j hj
  unfold impP cn
  generalize nd w i=x at nx ⊢
  unfold nd at ny ⊢
  rw[hyd]at ny ⊢
  obtain⟨c1,z1,_,a1,d1⟩:=getB_ex x.conn (j:=j) (by rw[nx.conn];omega)
  obtain⟨c2,z2,_,a2,d2⟩:=getB_ex y.conn (j:=i) (by rw[ny.conn];omega)
  have hj3:((j:Nat):Int)<3:=by omega
  have hinc:=incr (n:=3) (j:=j) (by omega) (by omega)
  rw[d1,d2]
  cases c1
  ·simp[b63_0,md,hj3,hinc,z1,a1]
  cases c2<;>simp[b63_0,md,hj3,hinc,y2,hy',z1,z2,a1,a2]) (by simp[b63_0])
theorem lp84_1 (w:WorldD) (hN:NodesOk w): ∃bad,(allB (fun i=>allB (impP w i) 3) 3=false->bad.m=0/\getT bad.tm 2= .sc (.bool false))/\ ∀ (s:St),s.m<=10000200->canon 10000200 [1,46,47,48] s=st84_1 w 0->semL G PK md 10000200 [1,46,47,48] b63_1 s=if allB (fun i=>allB (impP w i) 3) 3=true then exec (semK G PK md) (semL G PK md) md b63_1 (st84_1 w 3)else some (.ret,bad):=
 loop_all (G:=G) (PK:=PK) (md:=md) (o:=10000200) (live:=[1,46,47,48]) (c:=b63_1) (st84_1 w) (fun i=>allB (impP w i) 3) (3) (fun s=>s.m=0/\getT s.tm 2= .sc (.bool false)) (fun j hj=>by
  obtain⟨x,y1,hx,hx',hxd,hxm⟩:=get_ex w.nodes zN (j:=j) (by rw[hN.len];omega)
  obtain⟨bad,hb,hsz⟩:=lp84_0 (PK:=PK) w hN j hj
  rw[show nd w j=x from hxd]at hsz
  have hj3:((j:Nat):Int)<3:=by omega
  have hinc:=incr (n:=3) (j:=j) (by omega) (by omega)
  have h3:=hN.len
  cases hp:allB (impP w j) 3
  ·obtain⟨g1,g2⟩:=hb hp
   simp only[hp]at hsz
   simp[b63_1,md,h3,hj,hj3,y1,hx']
   rw[hsz]
   ·simp[g1,g2,hp]
   ·simp
   ·simp[h3]
  ·simp only[hp]at hsz
   simp[b63_1,md,h3,hj,hj3,y1,hx']
   rw[hsz]
   ·simp[b63_0,hp,hinc,h3]
   ·simp
   ·simp[h3]) (by simp[b63_1,hN.len])
theorem ev_nodesOk (w:WorldD) (hw:wS w):semK G PK md 63 [.a (lents (fWo w))]=some ⟨[.v (.sc (.bool (nodesB w)))],[],[]⟩:=by
 refine semK_of (pf:=p63) rfl (by simp[p63]) ?_
 unfold nodesB
 by_cases h3:w.nodes.length=3
 case neg=>
  have h3': ¬ (w.nodes.length:Int)=3:=by omega
  simp[p63,md,h3,h3']
 obtain⟨bad2,hb2,hs2⟩:=lp84_2 (PK:=PK) w h3 hw
 cases q2:allB (nodeP w) 3
 ·obtain⟨g1,g2⟩:=hb2 q2
  simp only[q2]at hs2
  simp[p63,md,h3]
  rw[hs2]
  ·simp[g1,g2]
  ·simp
  ·simp[h3]
 have hN:=nodesOk_of h3 q2
 obtain⟨bad1,hb1,hs1⟩:=lp84_1 (PK:=PK) w hN
 simp only[q2]at hs2
 rw[←imp_sym]
 cases q1:allB (fun i=>allB (impP w i) 3) 3
 ·obtain⟨g1,g2⟩:=hb1 q1
  simp only[q1]at hs1
  simp[p63,md,h3]
  rw[hs2]
  ·simp[b63_2,h3]
   rw[hs1]
   ·simp[g1,g2]
   ·simp
   ·simp[h3]
  ·simp
  ·simp[h3]
 simp only[q1]at hs1
 simp[p63,md,h3]
 rw[hs2]
 ·simp[b63_2,h3]
  rw[hs1]
  ·simp[b63_1,h3]
  ·simp
  ·simp[h3]
 ·simp
 ·simp[h3]
@[simp] def st41_2 (w:WorldD) (j:Nat):St:={n:=124,m:=0,tm:=[(1,.pb 10000000 0),(31,.im 3 (enc fW w.net)),(32,.sc (.int .i64 w.net.length)),(33,.sc (.int .i64 j))],ob:=[(10000000,wbox w)]}
@[simp] def st41_1 (w:WorldD) (j:Nat):St:={n:=124,m:=0,tm:=[(1,.pb 10000200 0),(76,.im 2 (enc fR w.log)),(77,.sc (.int .i64 w.log.length)),(78,.sc (.int .i64 j))],ob:=[(10000200,wbox w)]}
@[simp] def st41_0 (w:WorldD) (j:Nat):St:={n:=124,m:=0,tm:=[(1,.pb 10000400 0),(96,.im 1 (enc fI w.safe)),(97,.sc (.int .i64 w.safe.length)),(98,.sc (.int .i64 j))],ob:=[(10000400,wbox w)]}
theorem lp41_2 (w:WorldD) (hN:NodesOk w) (hw:wS w): ∃bad,(allB (wireP w) w.net.length=false->bad.m=0/\getT bad.tm 2= .sc (.bool false))/\ ∀ (s:St),s.m<=10000000->canon 10000000 [1,31,32,33] s=st41_2 w 0->semL G PK md 10000000 [1,31,32,33] b21_2 s=if allB (wireP w) w.net.length=true then exec (semK G PK md) (semL G PK md) md b21_2 (st41_2 w w.net.length)else some (.ret,bad):=
 loop_all (G:=G) (PK:=PK) (md:=md) (o:=10000000) (live:=[1,31,32,33]) (c:=b21_2) (st41_2 w) (wireP w) (w.net.length) (fun s=>s.m=0/\getT s.tm 2= .sc (.bool false)) (fun j hj=>by
  obtain⟨x,y1,hx,hx',hxd,hxm⟩:=get_ex w.net zW hj
  have e1:=ev_isNode (PK:=PK) x.src
  have e2:=ev_isNode (PK:=PK) x.dst
  have hinc:=incr hj hw.net
  unfold wireP cn nd
  rw[hxd]
  cases b1:inB x.src 0 2
  ·rw[b1]at e1
   simp[b21_2,md,hj,hx',e1]
  rw[b1]at e1
  cases b2:inB x.dst 0 2
  ·rw[b2]at e2
   simp[b21_2,md,hj,hx',e1,e2]
  rw[b2]at e2
  by_cases hsd:x.src=x.dst
  ·simp[b21_2,md,hj,hx',e1,e2,eq_true hsd]
  have r1:=inB_iff.1 b1
  have r2:=inB_iff.1 b2
  obtain⟨i,hi⟩: ∃i:Nat,x.src=(i:Int):=⟨x.src.toNat,by omega⟩
  obtain⟨k,hk⟩: ∃k:Nat,x.dst=(k:Int):=⟨x.dst.toNat,by omega⟩
  obtain⟨y,y2,hy,hy',hyd,hym⟩:=get_ex w.nodes zN (j:=i) (by rw[hN.len];omega)
  have ny:=hN.ok i (by omega)
  unfold nd at ny
  rw[hyd]at ny
  obtain⟨c1,z1,_,a1,d1⟩:=getB_ex y.conn (j:=k) (by rw[ny.conn];omega)
  have hik: ¬ (i:Int)=k:=by rw[←hi,←hk];exact hsd
  rw[hi]at e1
  rw[hk]at e2
  simp only[hi,hk,Int.toNat_natCast,hyd,d1]
  cases c1
  ·simp[b21_2,md,hj,hx',e1,e2,hi,hk,hik,y2,hy',z1,a1]
  by_cases hlen:x.bytes.length<=400
  ·have hl2: ¬ (400:Int)<x.bytes.length:=by omega
   simp[b21_2,md,hj,hx',e1,e2,hi,hk,hik,y2,hy',z1,a1,hlen,hl2,hinc]
  ·have hl2:(400:Int)<x.bytes.length:=by omega
   simp[b21_2,md,hj,hx',e1,e2,hi,hk,hik,y2,hy',z1,a1,hlen,hl2]) (by simp[b21_2])
theorem lp41_1 (w:WorldD) (hw:wS w): ∃bad,(allB (recP w.log) w.log.length=false->bad.m=0/\getT bad.tm 2= .sc (.bool false))/\ ∀ (s:St),s.m<=10000200->canon 10000200 [1,76,77,78] s=st41_1 w 0->semL G PK md 10000200 [1,76,77,78] b21_1 s=if allB (recP w.log) w.log.length=true then exec (semK G PK md) (semL G PK md) md b21_1 (st41_1 w w.log.length)else some (.ret,bad):=
 loop_all (G:=G) (PK:=PK) (md:=md) (o:=10000200) (live:=[1,76,77,78]) (c:=b21_1) (st41_1 w) (recP w.log) (w.log.length) (fun s=>s.m=0/\getT s.tm 2= .sc (.bool false)) (fun j hj=>by
  obtain⟨x,y1,hx,hx',hxd,hxm⟩:=get_ex w.log zR hj
  have hinc:=incr hj hw.log
  have e1:=ev_isCell (PK:=PK) x.cell
  have e2:=ev_from (PK:=PK) x.up 0 j
  unfold recP
  rw[hxd]
  generalize inB x.cell 0 7=b1 at e1 ⊢
  cases b1
  ·simp[b21_1,md,hj,hx',e1]
  generalize inB x.up 0 j=b2 at e2 ⊢
  cases b2
  ·simp[b21_1,md,hj,hx',e1,e2]
  simp[b21_1,md,hj,hx',e1,e2,hinc]) (by simp[b21_1])
theorem lp41_0 (w:WorldD) (hw:wS w): ∃bad,(allB (ascP 1 w.log.length w.safe) w.safe.length=false->bad.m=0/\getT bad.tm 2= .sc (.bool false))/\ ∀ (s:St),s.m<=10000400->canon 10000400 [1,96,97,98] s=st41_0 w 0->semL G PK md 10000400 [1,96,97,98] b21_0 s=if allB (ascP 1 w.log.length w.safe) w.safe.length=true then exec (semK G PK md) (semL G PK md) md b21_0 (st41_0 w w.safe.length)else some (.ret,bad):=
 loop_all (G:=G) (PK:=PK) (md:=md) (o:=10000400) (live:=[1,96,97,98]) (c:=b21_0) (st41_0 w) (ascP 1 w.log.length w.safe) (w.safe.length) (fun s=>s.m=0/\getT s.tm 2= .sc (.bool false)) (fun j hj=>by
  obtain⟨x,y1,hx,hx',hxd,hxm⟩:=get_ex w.safe 0 hj
  have e:=ev_from (PK:=PK) x 1 w.log.length
  have hi:=incr hj hw.safe
  unfold ascP
  rw[hxd]
  generalize inB x 1 w.log.length=b1 at e ⊢
  cases b1
  ·simp[b21_0,md,hj,hx',e]
  rcases Nat.eq_zero_or_pos j with hz|hz
  ·subst hz
   simp at hi
   simp[b21_0,md,hj,hx',e,hi]
  ·have hz0: ¬j=0:=by omega
   obtain⟨i,hij⟩: ∃i,j=i+1:=⟨j - 1,by omega⟩
   obtain⟨x2,y2,hx2,hx2',hxd2,_⟩:=get_ex w.safe 0 (j:=i) (by omega)
   have hwr:IntKind.wrap .i64 ((j:Int) - 1)=(i:Int):=by rw[wrap_id (by omega) (by have:=hw.safe;omega)];omega
   have hpos:(0:Int)<j:=by omega
   rw[show j - 1=i by omega,hxd2]
   by_cases hlt:x2<x
   ·have hge: ¬x<=x2:=by omega
    simp[b21_0,md,hj,hz0,hz,hx',e,hi,hwr,hpos,y2,hx2',hlt,hge]
   ·have hge:x<=x2:=by omega
    simp[b21_0,md,hj,hz0,hz,hx',e,hi,hwr,hpos,y2,hx2',hlt,hge]) (by simp[b21_0])
theorem worldOk_eq (w:WorldD):worldOk w=(nodesB w&&decide (w.net.length<=40)&&decide (w.log.length<=200)&&inB w.gen 2 100000&&allB (wireP w) w.net.length&&allB (recP w.log) w.log.length&&allB (ascP 1 w.log.length w.safe) w.safe.length):=by
 unfold worldOk nodesB lines
 cases decide (w.nodes.length=3)<;>cases decide (w.net.length<=40)<;>cases decide (w.log.length<=200)<;>cases inB w.gen 2 100000<;>cases allB (nodeP w) 3<;>cases allB (fun i=>allB (symP w i) 3) 3<;>simp[Bool.and_comm,Bool.and_left_comm,Bool.and_assoc]
theorem nodesB_of {w:WorldD} (h:nodesB w=true):NodesOk w:=by
 unfold nodesB at h
 simp only[Bool.and_eq_true,decide_eq_true_iff]at h
 exact nodesOk_of h.1.1 h.1.2
theorem ev_impl_WorldOk (w:WorldD) (hw:wS w):semK G PK md 21 [.a (lents (fWo w))]=some ⟨[.v (.sc (.bool (worldOk w)))],[],[]⟩:=by
 refine semK_of (pf:=p21) rfl (by simp[p21]) ?_
 have e0:=ev_nodesOk (PK:=PK) w hw
 have e1:=ev_from (PK:=PK) w.gen 2 100000
 simp only[lents,lent,fWo]at e0
 rw[worldOk_eq]
 cases hn:nodesB w
 ·rw[hn]at e0
  simp[p21,md,e0]
 rw[hn]at e0
 have hN:=nodesB_of hn
 by_cases hnet:w.net.length<=40
 case neg=>
  have hnet':(40:Int)<w.net.length:=by omega
  simp[p21,md,e0,hnet,hnet']
 have hnet': ¬ (40:Int)<w.net.length:=by omega
 by_cases hlog:w.log.length<=200
 case neg=>
  have hlog':(200:Int)<w.log.length:=by omega
  simp[p21,md,e0,hnet,hnet',hlog,hlog']
 have hlog': ¬ (200:Int)<w.log.length:=by omega
 generalize inB w.gen 2 100000=b0 at e1 ⊢
 cases b0
 ·simp[p21,md,e0,hnet,hnet',hlog,hlog',e1]
 obtain⟨bad2,hb2,hs2⟩:=lp41_2 (PK:=PK) w hN hw
 obtain⟨bad1,hb1,hs1⟩:=lp41_1 (PK:=PK) w hw
 obtain⟨bad0,hb0,hs0⟩:=lp41_0 (PK:=PK) w hw
 cases q2:allB (wireP w) w.net.length
 ·obtain⟨g1,g2⟩:=hb2 q2
  simp only[q2]at hs2
  simp[p21,md,e0,hnet,hnet',hlog,hlog',e1]
  rw[hs2]
  ·simp[g1,g2]
  ·simp
  ·simp
 simp only[q2]at hs2
 cases q1:allB (recP w.log) w.log.length
 ·obtain⟨g1,g2⟩:=hb1 q1
  simp only[q1]at hs1
  simp[p21,md,e0,hnet,hnet',hlog,hlog',e1]
  rw[hs2]
  ·simp[b21_2]
   rw[hs1]
   ·simp[g1,g2]
   ·simp
   ·simp
  ·simp
  ·simp
 simp only[q1]at hs1
 cases q0:allB (ascP 1 w.log.length w.safe) w.safe.length
 ·obtain⟨g1,g2⟩:=hb0 q0
  simp only[q0]at hs0
  simp[p21,md,e0,hnet,hnet',hlog,hlog',e1]
  rw[hs2]
  ·simp[b21_2]
   rw[hs1]
   ·simp[b21_1]
    rw[hs0]
    ·simp[g1,g2]
    ·simp
    ·simp
   ·simp
   ·simp
  ·simp
  ·simp
 simp only[q0]at hs0
 simp[p21,md,e0,hnet,hnet',hlog,hlog',e1]
 rw[hs2]
 ·simp[b21_2]
  rw[hs1]
  ·simp[b21_1]
   rw[hs0]
   ·simp[b21_0]
   ·simp
   ·simp
  ·simp
  ·simp
 ·simp
 ·simp
theorem worldOk_nodes {w:WorldD} (h:worldOk w=true):NodesOk w:=by
 rw[worldOk_eq]at h
 simp only[Bool.and_eq_true]at h
 exact nodesB_of h.1.1.1.1.1.1
end Go.Proofs.YtbolhfegdocpeaaGreat.Ow
namespace Go.Proofs.YtbolhfegdocpeaaGreat.Ow
open Go
set_option linter.unusedVariables false
set_option linter.unusedSimpArgs false
set_option maxHeartbeats 4000000
variable {PK:Nat->List Arg->Option Res}
theorem mk_asc {l:List Int} (h:mkOk l=true): ∀j,j<l.length->(j:Int)<=l.getD j 0:=by
 intro j
 induction j with
 |zero=>
  intro hj
  have:=allB_get h hj
  unfold mkP at this
  rw[Bool.and_eq_true]at this
  exact(inB_iff.1 this.1).1
 |succ j ih=>
  intro hj
  have h1:=ih (by omega)
  have:=allB_get h hj
  unfold mkP at this
  rw[Bool.and_eq_true]at this
  have h2:=this.2
  simp at h2
  rw[List.getD_eq_getElem?_getD,List.getD_eq_getElem?_getD]at*
  omega
theorem mk_len {l:List Int} (h:mkOk l=true):l.length<=8:=by
 rcases Nat.lt_or_ge 8 l.length with h1|h1
 ·exfalso
  have h2:=mk_asc h 8 h1
  have:=allB_get h h1
  unfold mkP at this
  rw[Bool.and_eq_true]at this
  have:=(inB_iff.1 this.1).2
  omega
 ·exact h1
theorem putNum_1 {n:Int} (h0:0<=n) (h1:n<=127):(putNum n).length=1:=by
 obtain⟨k,hk,hp,_,he⟩:=pnd_ex h0 (by omega)
 rcases Nat.eq_zero_or_pos k with rfl|hk0
 ·unfold putNum;simp[he]
 ·have:127<n:=hp 0 hk0
  omega
theorem putNum_3 {n:Int} (h0:0<=n) (h1:n<=100000):(putNum n).length<=3:=by
 obtain⟨k,hk,hp,_,he⟩:=pnd_ex h0 (by omega)
 rcases Nat.lt_or_ge k 3 with h|h
 ·unfold putNum;simp[he];omega
 ·exfalso
  have h2:127<(n.tdiv 128).tdiv 128:=hp 2 (by omega)
  have e1:n.tdiv 128=n / 128:=Int.tdiv_eq_ediv_of_nonneg h0
  rw[e1,Int.tdiv_eq_ediv_of_nonneg (by omega)]at h2
  omega
theorem pns_1: ∀ (l:List Int),(∀x∈l,0<=x/\x<=127)->(pns l).length=l.length
 |[],_=>rfl
 |x::l,h=>by
  have h1:=h x List.mem_cons_self
  have h2:=pns_1 l fun y hy=>h y (List.mem_cons_of_mem _ hy)
  have h3:=putNum_1 h1.1 h1.2
  unfold pns at h2 ⊢
  simp only[List.map_cons,List.flatten_cons,List.length_append,List.length_cons]
  omega
theorem pns_3: ∀ (l:List Int),(∀x∈l,0<=x/\x<=100000)->(pns l).length<=3*l.length
 |[],_=>Nat.le_refl _
 |x::l,h=>by
  have h1:=h x List.mem_cons_self
  have h2:=pns_3 l fun y hy=>h y (List.mem_cons_of_mem _ hy)
  have h3:=putNum_3 h1.1 h1.2
  unfold pns at h2 ⊢
  simp only[List.map_cons,List.flatten_cons,List.length_append,List.length_cons]
  omega
theorem mk_bd {l:List Int} (h:mkOk l=true): ∀x∈l,0<=x/\x<=127:=fun x hx=>by
 obtain⟨j,hj⟩:=List.getElem?_of_mem hx
 have:=allB_get h (List.getElem?_eq_some_iff.1 hj).1
 unfold mkP at this
 rw[Bool.and_eq_true,getD_of hj]at this
 have:=inB_iff.1 this.1
 omega
theorem gn_bd {l:List Int} (h:gnOk l=true): ∀x∈l,1<=x/\x<=100000:=fun x hx=>by
 obtain⟨j,hj⟩:=List.getElem?_of_mem hx
 unfold gnOk at h
 rw[Bool.and_eq_true]at h
 have:=allB_get h.1 (List.getElem?_eq_some_iff.1 hj).1
 unfold gnP at this
 rw[Bool.and_eq_true,getD_of hj]at this
 exact inB_iff.1 this.1
theorem pl_mk {l:List Int} (h:mkOk l=true):(pl l).length<=9:=by
 have h1:=mk_len h
 have h2:=pns_1 l (mk_bd h)
 have h3:=putNum_1 (n:=(l.length:Int)) (by omega) (by omega)
 unfold pl
 rw[List.length_append]
 omega
theorem pls_mk: ∀ {ll:List (List Int)},(∀l∈ll,mkOk l=true)->(pls ll).length<=9*ll.length
 |[],_=>Nat.le_refl _
 |l::ll,h=>by
  have h1:=pl_mk (h l List.mem_cons_self)
  have h2:=pls_mk (ll:=ll) fun y hy=>h y (List.mem_cons_of_mem _ hy)
  unfold pls at h2 ⊢
  simp only[List.map_cons,List.flatten_cons,List.length_append,List.length_cons]
  omega
theorem metaBytes_len (m:MetaD):(metaBytes m).length<=151:=by
 unfold metaBytes
 cases h:metaOk m
 ·simp
 ·have hk:=metaOk_of h
  unfold metaOk at h
  simp only[Bool.and_eq_true]at h
  have hg:=h.1.1.1.1
  have hb:=h.1.1.2.2
  have g1:=pns_3 m.gens fun x hx=>by have:=gn_bd hg x hx;omega
  have g2:=putNum_1 (n:=(m.gens.length:Int)) (by omega) (by have:=hk.glen;omega)
  have b1:=pls_mk (ll:=m.bits) fun l hl=>by
   unfold bitsOk at hb
   obtain⟨j,hj⟩:=List.getElem?_of_mem hl
   have:=allB_get hb (List.getElem?_eq_some_iff.1 hj).1
   simpa only[getD_of hj]using this
  have f1:=flg_bd m
  have f2:=putNum_len (n:=flg m) (by omega) (by omega)
  have l2:=putNum_len hk.last0 hk.last1
  have:=hk.glen
  have:=hk.blen
  simp only[if_true]
  unfold mBytes pl
  simp only[List.length_append]
  omega
theorem four_len (n:Int):(four n).length=4:=rfl
theorem slotB_len {x:List Int} (h:x.length<=151) (n:Int):(slotB x n).length=160:=by
 unfold slotB slotA
 simp only[List.length_append,List.length_replicate,List.length_cons,List.length_nil,four_len]
 omega
theorem slotGet_bd (s:SlotsD):0<=(slotGet s).2.1/\(slotGet s).2.1<=1000000:=by
 have key: ∀b:List Int,0<=(slotOf b).2.1/\(slotOf b).2.1<=1000000:=fun b=>by
  unfold slotOf
  split
  ·rename_i h
   have:=inB_iff.1 h.2.1
   exact⟨by show 0<=slN b;omega,this.2⟩
  ·exact⟨by decide,by decide⟩
 unfold slotGet
 split
 ·exact key s.b
 ·exact key s.a
theorem isA_which (s:SlotsD):isA s=decide (which s=0):=by
 unfold isA which
 cases pickB s<;>cases (slotOf s.a).2.2<;>simp
def newB (s:SlotsD) (m:MetaD):List Int:=slotB (metaBytes m) ((slotGet s).2.1+1)
def mayPut (s:SlotsD) (m:MetaD):Bool:=metaOk m&& !decide ((slotGet s).2.1=1000000)
def slotPut (s:SlotsD) (m:MetaD):SlotsD:=if mayPut s m then(if isA s then⟨s.a,newB s m⟩else⟨newB s m,s.b⟩)else s
def tornB (was now:List Int) (k:Nat):List Int:=now.take k++was.drop k
def tear (s:SlotsD) (m:MetaD) (k:Nat):SlotsD:=if mayPut s m then(if isA s then⟨s.a,tornB s.b (newB s m) k⟩else⟨tornB s.a (newB s m) k,s.b⟩)else s
theorem newB_len (s:SlotsD) (m:MetaD):(newB s m).length=160:=slotB_len (metaBytes_len m) _
theorem newB_by (s:SlotsD) (m:MetaD):by8 (newB s m):=slotB_by (metaBytes_by m) _
theorem slotPut_S {s:SlotsD} (h:slS s) (m:MetaD):slS (slotPut s m):=by
 have hn:byt (newB s m):=⟨by rw[newB_len];omega,newB_by s m⟩
 unfold slotPut
 split
 ·split
  ·exact⟨h.1,hn⟩
  ·exact⟨hn,h.2⟩
 ·exact h
end Go.Proofs.YtbolhfegdocpeaaGreat.Ow
namespace Go.Proofs.YtbolhfegdocpeaaGreat.Ow
open Go
set_option linter.unusedVariables false
set_option linter.unusedSimpArgs false
set_option maxHeartbeats 4000000
variable {PK:Nat->List Arg->Option Res}
@[simp] def slbox (s:SlotsD):Obj:= .box [.im 1 (enc fU s.a),.im 1 (enc fU s.b)]
theorem ev_l6Copy (s:SlotsD) (ha:s.a.length<=1048576) (hb:s.b.length<=1048576):semK G PK md 156 [.a (lents (fSl s))]=some ⟨[.a (owneds (fSl s))],[],[]⟩:=by
 refine semK_of (pf:=p156) rfl (by simp[p156]) ?_
 have g1:s.a.length<=35184372088832:=by omega
 have g2:s.b.length<=35184372088832:=by omega
 simp[p156,md,g1,g2,Alike2]
@[simp] def st117_1 (ll:List (List Int)) (v j:Nat):St:={n:=36,m:=0,tm:=[(0,.im 1 (enc fUU ll)),(3,.sc (.int .i64 v)),(9,.im 1 (enc fUU ll)),(10,.sc (.int .i64 ll.length)),(11,.sc (.int .i64 j))],ob:=[]}
@[simp] def st117_0 (ll:List (List Int)) (out:List Int) (j:Nat):St:={n:=36,m:=0,tm:=[(6,.ref 10000200 []),(25,.im 1 (enc fUU ll)),(26,.sc (.int .i64 ll.length)),(27,.sc (.int .i64 j))],ob:=[(10000200,.arr 1 (enc fU out))]}
theorem flat_sum: ∀ll:List (List Int),ll.flatten.length=sumN (ll.map List.length)
 |[]=>rfl
 |l::ll=>by simp only[List.flatten_cons,List.length_append,List.map_cons,sumN,flat_sum ll]
end Go.Proofs.YtbolhfegdocpeaaGreat.Ow
namespace Go.Proofs.YtbolhfegdocpeaaGreat.Ow
open Go
set_option linter.unusedVariables false
set_option linter.unusedSimpArgs false
set_option maxHeartbeats 4000000
variable {PK:Nat->List Arg->Option Res}
theorem ev_spec_SlotPut (s:SlotsD) (m:MetaD) (hs:slS s) (hm:mtS m):semK G PK md 119 [.a (lents (fSl s)),.a (lents (fM m))]=some ⟨[.a (owneds (fSl (slotPut s m)))],[],[]⟩:=by
 refine semK_of (pf:=p119) rfl (by simp[p119]) ?_
 have e1:=ev_l6Copy (PK:=PK) s hs.1.1 hs.2.1
 have e2:=ev_spec_SlotGet (PK:=PK) s hs
 have e3:=ev_spec_MetaOk (PK:=PK) m hm
 have e4:=ev_l6Which (PK:=PK) s hs
 have e5:=ev_l6Slot (PK:=PK) m ((slotGet s).2.1+1) hm (metaBytes_len m)
 have hb:=slotGet_bd s
 have hw:IntKind.wrap .i64 ((slotGet s).2.1+1)=(slotGet s).2.1+1:=wrap_id (by omega) (by omega)
 have hA:=isA_which s
 have hl:=newB_len s m
 unfold newB at hl
 simp only[lents,lent,fM,fSl,List.map]at e1 e2 e3 e4 e5
 unfold slotPut mayPut newB
 generalize hq:(slotGet s)=q at*
 obtain⟨q1,q2,q3⟩:=q
 generalize slotB (metaBytes m) (q2+1)=nb at*
 simp only at hb hw hl
 cases hk:metaOk m
 ·simp[p119,md,e1,e2,e3,hk]
 by_cases hc:q2=1000000
 ·simp[p119,md,e1,e2,e3,hk,hc]
 have hc2: ¬ (1000000:Int)<=q2:=by omega
 by_cases hw0:which s=0
 ·simp[p119,md,e1,e2,e3,e4,e5,hk,hc,hc2,hw,hA,hw0,hl]
 ·simp[p119,md,e1,e2,e3,e4,e5,hk,hc,hc2,hw,hA,hw0,hl]
theorem tornB_len {was now:List Int} {k:Nat}:(tornB was now k).length<=was.length+now.length:=by
 unfold tornB
 rw[List.length_append,List.length_take,List.length_drop]
 omega
theorem tornB_160 {was now:List Int} (h:now.length=160):(tornB was now 160).take 160=now:=by
 unfold tornB
 rw[List.take_of_length_le (l:=now) (by omega),List.take_append_of_le_length (by omega),List.take_of_length_le (by omega)]
end Go.Proofs.YtbolhfegdocpeaaGreat.Ow
