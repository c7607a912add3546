/- A world that is right, the code: evaluated. -/
import Derived.Test.YtbolhfegdocpeaaGreatEv8
namespace Go.Proofs.YtbolhfegdocpeaaGreat.Ow
open Go
set_option linter.unusedVariables false
set_option linter.unusedSimpArgs false
set_option maxHeartbeats 4000000
variable {PK:Nat->List Arg->Option Res}
def Ft (w:AB) (i k:Nat):Bool:= !(cn w i k&& !cn w k i)
theorem imp_sym (w:AB):Af (fun i=>Af (Ft w i) 3) 3=Af (fun i=>Af (Fi w i) 3) 3:=by
 cases h:Af (fun i=>Af (Fi w i) 3) 3
 ·cases h2:Af (fun i=>Af (Ft w i) 3) 3
  ·rfl
  ·exfalso;rw[BJ (fun i hi=>BJ fun k hk=> ?_)]at h
   ·cases h
   ·have h3:Ft w i k=true:=Ar (p:=Ft w i) (Ar (p:=fun i=>Af (Ft w i) 3) h2 hi) hk;have h4:Ft w k i=true:=Ar (p:=Ft w k) (Ar (p:=fun i=>Af (Ft w i) 3) h2 hk) hi;unfold Ft at h3 h4;unfold Fi;revert h3 h4
    cases cn w i k<;>cases cn w k i<;>simp
 ·refine BJ fun i hi=>BJ fun k hk=> ?_
  have h3:Fi w i k=true:=Ar (p:=Fi w i) (Ar (p:=fun i=>Af (Fi w i) 3) h hi) hk;unfold Fi at h3;unfold Ft;revert h3
  cases cn w i k<;>cases cn w k i<;>simp
def H8 (w:AB):Bool:=decide (w.nodes.length=3)&&Af (EF w) 3&&Af (fun i=>Af (Fi w i) 3) 3
theorem any_img (w:AB) (n:AG) (h8:n.image.length=8):n.image.any (fun x=>decide ((w.log.length:Int)<x))= !Af (Lo w n) 8:=by
 cases h:Af (Lo w n) 8
 ·unfold Af at h;rw[List.all_eq_false]at h;obtain⟨k,hk,h2⟩:=h;have hk:=List.mem_range.1 hk;obtain⟨x,y1,hx,hx',hxd,hxm⟩:=Ay n.image 0 (j:=k) (by omega);unfold Lo at h2;rw[hxd,decide_eq_true_iff]at h2;exact List.any_eq_true.2 ⟨x,hxm,by simp;omega⟩
 ·refine List.any_eq_false.2 fun x hx=> ?_
  obtain⟨j,hj⟩:=List.getElem?_of_mem hx;have h2:=Ar h (j:=j) (by rw[←h8];exact(List.getElem?_eq_some_iff.1 hj).1);unfold Lo at h2;rw[CI hj,decide_eq_true_iff]at h2;simp;omega
theorem Pq (w:AB) (x:Int):AH G PK md 99 [.v (.sc (.int .i64 x)),.pi (fWo w)]=some ⟨[.v (.sc (.bool (decide ((w.log.length:Int)<x))))],[],[]⟩:=by
 refine AA (pf:=p99) rfl (by simp[p99]) ?_;simp[p99,md]
@[simp] def st84_2 (w:AB) (j:Nat):St:={n:=75,m:=0,tm:=[(1,.pb 10000000 0),(13,.im 16 (enc fN w.nodes)),(14,.sc (.int .i64 w.nodes.length)),(15,.sc (.int .i64 j))],ob:=[(10000000,GO w)]}
@[simp] def st84_1 (w:AB) (j:Nat):St:={n:=75,m:=0,tm:=[(1,.pb 10000200 0),(46,.im 16 (enc fN w.nodes)),(47,.sc (.int .i64 w.nodes.length)),(48,.sc (.int .i64 j))],ob:=[(10000200,GO w)]}
@[simp] def st84_0 (w:AB) (n:AG) (i j:Nat):St:={n:=75,m:=0,tm:=[(1,.pb 10000400 0),(5,.sc (.int .i64 i)),(6,.pb 10000401 0),(46,.im 16 (enc fN w.nodes)),(47,.sc (.int .i64 w.nodes.length)),(48,.sc (.int .i64 i)),(53,.sc (.int .i64 j))],ob:=[(10000400,GO w),(10000401,OI n)]}
theorem lp84_2 (w:AB) (h3:w.nodes.length=3) (hw:wS w): ∃bad,(Af (EF w) 3=false->bad.m=0/\At bad.tm 2= .sc (.bool false))/\ ∀ (s:St),s.m<=10000000->Ai 10000000 [1,13,14,15] s=st84_2 w 0->Ag G PK md 10000000 [1,13,14,15] b63_2 s=if Af (EF w) 3=true then An (AH G PK md) (Ag G PK md) md b63_2 (st84_2 w 3)else some (.ret,bad):=
 BY (G:=G) (PK:=PK) (md:=md) (o:=10000000) (live:=[1,13,14,15]) (c:=b63_2) (st84_2 w) (EF w) (3) (fun s=>s.m=0/\At s.tm 2= .sc (.bool false)) (fun j hj=>by
  obtain⟨x,y1,hx,hx',hxd,hxm⟩:=Ay w.nodes zN (j:=j) (by omega);have hj3:((j:Nat):Int)<3:=by omega
  have hinc:=A2 (n:=3) (j:=j) (by omega) (by omega);have e:=ML (PK:=PK) x (hw.node x hxm);simp only[AJ,lent,fN]at e;unfold EF nd;rw[hxd]
  cases hok:Am x
  ·rw[hok]at e;simp[b63_2,md,h3,hj,hj3,y1,hx',e]
  rw[hok]at e;by_cases hid:x.id=j
  case neg=>simp[b63_2,md,h3,hj,hj3,y1,hx',e,hid]
  rw[hid]at e;by_cases hl:x.mt.last<=w.log.length
  case neg=>
   have hl2:(w.log.length:Int)<x.mt.last:=by omega
   simp[b63_2,md,h3,hj,hj3,y1,hx',hid,e,hl,hl2]
  have hl2: ¬ (w.log.length:Int)<x.mt.last:=by omega
  have nx:=A3 hok;have e2:=UW (PK:=PK) 99 (fWo w) (fun x=>decide ((w.log.length:Int)<x)) x.image (by have:=nx.img8;omega) rfl (fun x _=>Pq w x);rw[any_img w x nx.img8]at e2;simp only[fWo]at e2
  cases hp:Af (Lo w x) 8
  ·rw[hp]at e2;simp[b63_2,md,h3,hj,hj3,y1,hx',hid,e,hl,hl2,e2]
  ·rw[hp]at e2;simp[b63_2,md,h3,hj,hj3,y1,hx',hid,e,hl,hl2,e2,hinc]) (by simp[b63_2,h3])
theorem lp84_0 (w:AB) (hN:Dv w) (i:Nat) (hi:i<3): ∃bad,(Af (Ft w i) 3=false->bad.m=0/\At bad.tm 2= .sc (.bool false))/\ ∀ (s:St),s.m<=10000400->Ai 10000400 [1,5,6,46,47,48,53] s=st84_0 w (nd w i) i 0->Ag G PK md 10000400 [1,5,6,46,47,48,53] b63_0 s=if Af (Ft w i) 3=true then An (AH G PK md) (Ag G PK md) md b63_0 (st84_0 w (nd w i) i 3)else some (.ret,bad):=
 BY (G:=G) (PK:=PK) (md:=md) (o:=10000400) (live:=[1,5,6,46,47,48,53]) (c:=b63_0) (st84_0 w (nd w i) i) (Ft w i) (3) (fun s=>s.m=0/\At s.tm 2= .sc (.bool false)) (fun j hj=>by
  obtain⟨y,y2,hy,hy',hyd,hym⟩:=Ay w.nodes zN (j:=j) (by rw[hN.len];omega);have nx:=hN.ok i hi;have ny:=hN.ok j hj;unfold Ft cn;generalize nd w i=x at nx ⊢;unfold nd at ny ⊢;rw[hyd]at ny ⊢;obtain⟨c1,z1,_,a1,d1⟩:=A1 x.conn (j:=j) (by rw[nx.conn];omega);obtain⟨c2,z2,_,a2,d2⟩:=A1 y.conn (j:=i) (by rw[ny.conn];omega);have hj3:((j:Nat):Int)<3:=by omega
  have hinc:=A2 (n:=3) (j:=j) (by omega) (by omega);rw[d1,d2]
  cases c1
  ·simp[b63_0,md,hj3,hinc,z1,a1]
  cases c2<;>simp[b63_0,md,hj3,hinc,y2,hy',z1,z2,a1,a2]) (by simp[b63_0])
theorem lp84_1 (w:AB) (hN:Dv w): ∃bad,(Af (fun i=>Af (Ft w i) 3) 3=false->bad.m=0/\At bad.tm 2= .sc (.bool false))/\ ∀ (s:St),s.m<=10000200->Ai 10000200 [1,46,47,48] s=st84_1 w 0->Ag G PK md 10000200 [1,46,47,48] b63_1 s=if Af (fun i=>Af (Ft w i) 3) 3=true then An (AH G PK md) (Ag G PK md) md b63_1 (st84_1 w 3)else some (.ret,bad):=
 BY (G:=G) (PK:=PK) (md:=md) (o:=10000200) (live:=[1,46,47,48]) (c:=b63_1) (st84_1 w) (fun i=>Af (Ft w i) 3) (3) (fun s=>s.m=0/\At s.tm 2= .sc (.bool false)) (fun j hj=>by
  obtain⟨x,y1,hx,hx',hxd,hxm⟩:=Ay w.nodes zN (j:=j) (by rw[hN.len];omega);obtain⟨bad,hb,hsz⟩:=lp84_0 (PK:=PK) w hN j hj;rw[show nd w j=x from hxd]at hsz;have hj3:((j:Nat):Int)<3:=by omega
  have hinc:=A2 (n:=3) (j:=j) (by omega) (by omega);have h3:=hN.len
  cases hp:Af (Ft w j) 3
  ·obtain⟨g1,g2⟩:=hb hp;simp only[hp]at hsz;simp[b63_1,md,h3,hj,hj3,y1,hx'];rw[hsz]
   ·simp[g1,g2,hp]
   ·simp
   ·simp[h3]
  ·simp only[hp]at hsz;simp[b63_1,md,h3,hj,hj3,y1,hx'];rw[hsz]
   ·simp[b63_0,hp,hinc,h3]
   ·simp
   ·simp[h3]) (by simp[b63_1,hN.len])
theorem Qy (w:AB) (hw:wS w):AH G PK md 63 [.a (AJ (fWo w))]=some ⟨[.v (.sc (.bool (H8 w)))],[],[]⟩:=by
 refine AA (pf:=p63) rfl (by simp[p63]) ?_;unfold H8;by_cases h3:w.nodes.length=3
 case neg=>
  have h3': ¬ (w.nodes.length:Int)=3:=by omega
  simp[p63,md,h3,h3']
 obtain⟨bad2,hb2,hs2⟩:=lp84_2 (PK:=PK) w h3 hw
 cases q2:Af (EF w) 3
 ·obtain⟨g1,g2⟩:=hb2 q2;simp only[q2]at hs2;simp[p63,md,h3];rw[hs2]
  ·simp[g1,g2]
  ·simp
  ·simp[h3]
 have hN:=H7 h3 q2;obtain⟨bad1,hb1,hs1⟩:=lp84_1 (PK:=PK) w hN;simp only[q2]at hs2;rw[←imp_sym]
 cases q1:Af (fun i=>Af (Ft w i) 3) 3
 ·obtain⟨g1,g2⟩:=hb1 q1;simp only[q1]at hs1;simp[p63,md,h3];rw[hs2]
  ·simp[b63_2,h3];rw[hs1]
   ·simp[g1,g2]
   ·simp
   ·simp[h3]
  ·simp
  ·simp[h3]
 simp only[q1]at hs1;simp[p63,md,h3];rw[hs2]
 ·simp[b63_2,h3];rw[hs1]
  ·simp[b63_1,h3]
  ·simp
  ·simp[h3]
 ·simp
 ·simp[h3]
@[simp] def st41_2 (w:AB) (j:Nat):St:={n:=124,m:=0,tm:=[(1,.pb 10000000 0),(31,.im 3 (enc fW w.net)),(32,.sc (.int .i64 w.net.length)),(33,.sc (.int .i64 j))],ob:=[(10000000,GO w)]}
@[simp] def st41_1 (w:AB) (j:Nat):St:={n:=124,m:=0,tm:=[(1,.pb 10000200 0),(76,.im 2 (enc fR w.log)),(77,.sc (.int .i64 w.log.length)),(78,.sc (.int .i64 j))],ob:=[(10000200,GO w)]}
@[simp] def st41_0 (w:AB) (j:Nat):St:={n:=124,m:=0,tm:=[(1,.pb 10000400 0),(96,.im 1 (enc fI w.safe)),(97,.sc (.int .i64 w.safe.length)),(98,.sc (.int .i64 j))],ob:=[(10000400,GO w)]}
theorem lp41_2 (w:AB) (hN:Dv w) (hw:wS w): ∃bad,(Af (FB w) w.net.length=false->bad.m=0/\At bad.tm 2= .sc (.bool false))/\ ∀ (s:St),s.m<=10000000->Ai 10000000 [1,31,32,33] s=st41_2 w 0->Ag G PK md 10000000 [1,31,32,33] b21_2 s=if Af (FB w) w.net.length=true then An (AH G PK md) (Ag G PK md) md b21_2 (st41_2 w w.net.length)else some (.ret,bad):=
 BY (G:=G) (PK:=PK) (md:=md) (o:=10000000) (live:=[1,31,32,33]) (c:=b21_2) (st41_2 w) (FB w) (w.net.length) (fun s=>s.m=0/\At s.tm 2= .sc (.bool false)) (fun j hj=>by
  obtain⟨x,y1,hx,hx',hxd,hxm⟩:=Ay w.net zW hj;have e1:=Jq (PK:=PK) x.src;have e2:=Jq (PK:=PK) x.dst;have hinc:=A2 hj hw.net;unfold FB cn nd;rw[hxd]
  cases b1:inB x.src 0 2
  ·rw[b1]at e1;simp[b21_2,md,hj,hx',e1]
  rw[b1]at e1
  cases b2:inB x.dst 0 2
  ·rw[b2]at e2;simp[b21_2,md,hj,hx',e1,e2]
  rw[b2]at e2;by_cases hsd:x.src=x.dst
  ·simp[b21_2,md,hj,hx',e1,e2,eq_true hsd]
  have r1:=Ab.1 b1;have r2:=Ab.1 b2;obtain⟨i,hi⟩: ∃i:Nat,x.src=(i:Int):=⟨x.src.toNat,by omega⟩;obtain⟨k,hk⟩: ∃k:Nat,x.dst=(k:Int):=⟨x.dst.toNat,by omega⟩;obtain⟨y,y2,hy,hy',hyd,hym⟩:=Ay w.nodes zN (j:=i) (by rw[hN.len];omega);have ny:=hN.ok i (by omega);unfold nd at ny;rw[hyd]at ny;obtain⟨c1,z1,_,a1,d1⟩:=A1 y.conn (j:=k) (by rw[ny.conn];omega);have hik: ¬ (i:Int)=k:=by rw[←hi,←hk];exact hsd
  rw[hi]at e1;rw[hk]at e2;simp only[hi,hk,Int.toNat_natCast,hyd,d1]
  cases c1
  ·simp[b21_2,md,hj,hx',e1,e2,hi,hk,hik,y2,hy',z1,a1]
  by_cases hlen:x.bytes.length<=400
  ·have hl2: ¬ (400:Int)<x.bytes.length:=by omega
   simp[b21_2,md,hj,hx',e1,e2,hi,hk,hik,y2,hy',z1,a1,hlen,hl2,hinc]
  ·have hl2:(400:Int)<x.bytes.length:=by omega
   simp[b21_2,md,hj,hx',e1,e2,hi,hk,hik,y2,hy',z1,a1,hlen,hl2]) (by simp[b21_2])
theorem lp41_1 (w:AB) (hw:wS w): ∃bad,(Af (KP w.log) w.log.length=false->bad.m=0/\At bad.tm 2= .sc (.bool false))/\ ∀ (s:St),s.m<=10000200->Ai 10000200 [1,76,77,78] s=st41_1 w 0->Ag G PK md 10000200 [1,76,77,78] b21_1 s=if Af (KP w.log) w.log.length=true then An (AH G PK md) (Ag G PK md) md b21_1 (st41_1 w w.log.length)else some (.ret,bad):=
 BY (G:=G) (PK:=PK) (md:=md) (o:=10000200) (live:=[1,76,77,78]) (c:=b21_1) (st41_1 w) (KP w.log) (w.log.length) (fun s=>s.m=0/\At s.tm 2= .sc (.bool false)) (fun j hj=>by
  obtain⟨x,y1,hx,hx',hxd,hxm⟩:=Ay w.log zR hj;have hinc:=A2 hj hw.log;have e1:=FW (PK:=PK) x.cell;have e2:=CJ (PK:=PK) x.up 0 j;unfold KP;rw[hxd];generalize inB x.cell 0 7=b1 at e1 ⊢
  cases b1
  ·simp[b21_1,md,hj,hx',e1]
  generalize inB x.up 0 j=b2 at e2 ⊢
  cases b2
  ·simp[b21_1,md,hj,hx',e1,e2]
  simp[b21_1,md,hj,hx',e1,e2,hinc]) (by simp[b21_1])
theorem lp41_0 (w:AB) (hw:wS w): ∃bad,(Af (Cr 1 w.log.length w.safe) w.safe.length=false->bad.m=0/\At bad.tm 2= .sc (.bool false))/\ ∀ (s:St),s.m<=10000400->Ai 10000400 [1,96,97,98] s=st41_0 w 0->Ag G PK md 10000400 [1,96,97,98] b21_0 s=if Af (Cr 1 w.log.length w.safe) w.safe.length=true then An (AH G PK md) (Ag G PK md) md b21_0 (st41_0 w w.safe.length)else some (.ret,bad):=
 BY (G:=G) (PK:=PK) (md:=md) (o:=10000400) (live:=[1,96,97,98]) (c:=b21_0) (st41_0 w) (Cr 1 w.log.length w.safe) (w.safe.length) (fun s=>s.m=0/\At s.tm 2= .sc (.bool false)) (fun j hj=>by
  obtain⟨x,y1,hx,hx',hxd,hxm⟩:=Ay w.safe 0 hj;have e:=CJ (PK:=PK) x 1 w.log.length;have hi:=A2 hj hw.safe;unfold Cr;rw[hxd];generalize inB x 1 w.log.length=b1 at e ⊢
  cases b1
  ·simp[b21_0,md,hj,hx',e]
  rcases Nat.eq_zero_or_pos j with hz|hz
  ·subst hz;simp at hi;simp[b21_0,md,hj,hx',e,hi]
  ·have hz0: ¬j=0:=by omega
   obtain⟨i,hij⟩: ∃i,j=i+1:=⟨j - 1,by omega⟩;obtain⟨x2,y2,hx2,hx2',hxd2,_⟩:=Ay w.safe 0 (j:=i) (by omega);have hwr:IntKind.wrap .i64 ((j:Int) - 1)=(i:Int):=by rw[AC (by omega) (by have:=hw.safe;omega)];omega
   have hpos:(0:Int)<j:=by omega
   rw[show j - 1=i by omega,hxd2];by_cases hlt:x2<x
   ·have hge: ¬x<=x2:=by omega
    simp[b21_0,md,hj,hz0,hz,hx',e,hi,hwr,hpos,y2,hx2',hlt,hge]
   ·have hge:x<=x2:=by omega
    simp[b21_0,md,hj,hz0,hz,hx',e,hi,hwr,hpos,y2,hx2',hlt,hge]) (by simp[b21_0])
theorem Hx (w:AB):BV w=(H8 w&&decide (w.net.length<=40)&&decide (w.log.length<=200)&&inB w.gen 2 100000&&Af (FB w) w.net.length&&Af (KP w.log) w.log.length&&Af (Cr 1 w.log.length w.safe) w.safe.length):=by
 unfold BV H8 PX
 cases decide (w.nodes.length=3)<;>cases decide (w.net.length<=40)<;>cases decide (w.log.length<=200)<;>cases inB w.gen 2 100000<;>cases Af (EF w) 3<;>cases Af (fun i=>Af (Fi w i) 3) 3<;>simp[Bool.and_comm,Bool.and_left_comm,Bool.and_assoc]
theorem NK {w:AB} (h:H8 w=true):Dv w:=by
 unfold H8 at h;simp only[Bool.and_eq_true,decide_eq_true_iff]at h;exact H7 h.1.1 h.1.2
theorem S6 (w:AB) (hw:wS w):AH G PK md 21 [.a (AJ (fWo w))]=some ⟨[.v (.sc (.bool (BV w)))],[],[]⟩:=by
 refine AA (pf:=p21) rfl (by simp[p21]) ?_;have e0:=Qy (PK:=PK) w hw;have e1:=CJ (PK:=PK) w.gen 2 100000;simp only[AJ,lent,fWo]at e0;rw[Hx]
 cases hn:H8 w
 ·rw[hn]at e0;simp[p21,md,e0]
 rw[hn]at e0;have hN:=NK hn;by_cases hnet:w.net.length<=40
 case neg=>
  have hnet':(40:Int)<w.net.length:=by omega
  simp[p21,md,e0,hnet,hnet']
 have hnet': ¬ (40:Int)<w.net.length:=by omega
 by_cases hlog:w.log.length<=200
 case neg=>
  have hlog':(200:Int)<w.log.length:=by omega
  simp[p21,md,e0,hnet,hnet',hlog,hlog']
 have hlog': ¬ (200:Int)<w.log.length:=by omega
 generalize inB w.gen 2 100000=b0 at e1 ⊢
 cases b0
 ·simp[p21,md,e0,hnet,hnet',hlog,hlog',e1]
 obtain⟨bad2,hb2,hs2⟩:=lp41_2 (PK:=PK) w hN hw;obtain⟨bad1,hb1,hs1⟩:=lp41_1 (PK:=PK) w hw;obtain⟨bad0,hb0,hs0⟩:=lp41_0 (PK:=PK) w hw
 cases q2:Af (FB w) w.net.length
 ·obtain⟨g1,g2⟩:=hb2 q2;simp only[q2]at hs2;simp[p21,md,e0,hnet,hnet',hlog,hlog',e1];rw[hs2]
  ·simp[g1,g2]
  ·simp
  ·simp
 simp only[q2]at hs2
 cases q1:Af (KP w.log) w.log.length
 ·obtain⟨g1,g2⟩:=hb1 q1;simp only[q1]at hs1;simp[p21,md,e0,hnet,hnet',hlog,hlog',e1];rw[hs2]
  ·simp[b21_2];rw[hs1]
   ·simp[g1,g2]
   ·simp
   ·simp
  ·simp
  ·simp
 simp only[q1]at hs1
 cases q0:Af (Cr 1 w.log.length w.safe) w.safe.length
 ·obtain⟨g1,g2⟩:=hb0 q0;simp only[q0]at hs0;simp[p21,md,e0,hnet,hnet',hlog,hlog',e1];rw[hs2]
  ·simp[b21_2];rw[hs1]
   ·simp[b21_1];rw[hs0]
    ·simp[g1,g2]
    ·simp
    ·simp
   ·simp
   ·simp
  ·simp
  ·simp
 simp only[q0]at hs0;simp[p21,md,e0,hnet,hnet',hlog,hlog',e1];rw[hs2]
 ·simp[b21_2];rw[hs1]
  ·simp[b21_1];rw[hs0]
   ·simp[b21_0]
   ·simp
   ·simp
  ·simp
  ·simp
 ·simp
 ·simp
theorem Ha {w:AB} (h:BV w=true):Dv w:=by
 rw[Hx]at h;simp only[Bool.and_eq_true]at h;exact NK h.1.1.1.1.1.1
end Go.Proofs.YtbolhfegdocpeaaGreat.Ow
