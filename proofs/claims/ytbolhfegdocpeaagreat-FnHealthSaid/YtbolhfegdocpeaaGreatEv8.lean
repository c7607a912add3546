/- A world that is right: plain. -/
import Derived.Test.YtbolhfegdocpeaaGreatEv7
namespace Go.Proofs.YtbolhfegdocpeaaGreat.Ow
open Go
set_option linter.unusedVariables false
set_option linter.unusedSimpArgs false
set_option maxHeartbeats 4000000
variable {PK:Nat->List Arg->Option Res}
theorem Ay {α:Type} (l:List α) (d:α) {j:Nat} (h:j<l.length): ∃ (x:α) (hj:j<l.length),l[j]? =some x/\l[j]=x/\l.getD j d=x/\x∈l:=⟨l[j],h,List.getElem?_eq_getElem h,rfl,by simp[List.getD_eq_getElem?_getD,h],List.getElem_mem h⟩
def nd (w:AB) (i:Nat):AG:=w.nodes.getD i zN
def cn (w:AB) (i k:Nat):Bool:=(nd w i).conn.getD k false
def KP (log:List S5) (j:Nat):Bool:=inB (log.getD j zR).cell 0 7&&inB (log.getD j zR).up 0 j
def FB (w:AB) (j:Nat):Bool:=inB (w.net.getD j zW).src 0 2&&inB (w.net.getD j zW).dst 0 2&& !decide ((w.net.getD j zW).src=(w.net.getD j zW).dst)&&cn w (w.net.getD j zW).src.toNat (w.net.getD j zW).dst.toNat&&decide ((w.net.getD j zW).bytes.length<=400)
def Lo (w:AB) (n:AG) (k:Nat):Bool:=decide (n.image.getD k 0<=w.log.length)
def EF (w:AB) (j:Nat):Bool:=decide ((nd w j).id=j)&&Am (nd w j)&&decide ((nd w j).mt.last<=w.log.length)&&Af (Lo w (nd w j)) 8
def Fi (w:AB) (i k:Nat):Bool:=cn w i k==cn w k i
def PX (w:AB):Bool:=Af (fun i=>Af (Fi w i) 3) 3&&Af (FB w) w.net.length&&decide (w.net.length<=40)
def BV (w:AB):Bool:=decide (w.nodes.length=3)&&decide (w.log.length<=200)&&inB w.gen 2 100000&&Af (EF w) 3&&Af (KP w.log) w.log.length&&Af (Cr 1 w.log.length w.safe) w.safe.length&&PX w
structure wS (w:AB):Prop where
 nodes:w.nodes.length<=1048576
 node: ∀x∈w.nodes,nS x
 net:w.net.length<=1048576
 wire: ∀x∈w.net,byt x.bytes
 log:w.log.length<=1048576
 safe:w.safe.length<=1048576
theorem NOk.img8 {n:AG} (h:NOk n):n.image.length=8:=by
 have h1:=h.img;unfold EG at h1;rw[Bool.and_eq_true,beq_iff_eq]at h1;omega
theorem NOk.imgB {n:AG} (h:NOk n): ∀x∈n.image,0<=x/\x<=200:=fun x hx=>by
 have h1:=h.img;unfold EG at h1;rw[Bool.and_eq_true]at h1;obtain⟨j,hj⟩:=List.getElem?_of_mem hx;have:=Ar h1.1 (List.getElem?_eq_some_iff.1 hj).1;simp only[CI hj]at this;exact Ab.1 this
structure Dv (w:AB):Prop where
 len:w.nodes.length=3
 ok: ∀j,j<3->NOk (nd w j)
 id: ∀j:Nat,j<3->(nd w j).id=j
theorem H7 {w:AB} (h0:w.nodes.length=3) (h:Af (EF w) 3=true):Dv w:=by
 refine⟨h0,fun j hj=> ?_,fun j hj=> ?_⟩
 ·have:=Ar h hj;unfold EF at this;simp only[Bool.and_eq_true,decide_eq_true_iff]at this;exact A3 this.1.1.2
 ·have:=Ar h hj;unfold EF at this;simp only[Bool.and_eq_true,decide_eq_true_iff]at this;exact this.1.1.1
@[simp] def st80_1 (w:AB) (i j:Nat):St:={n:=87,m:=0,tm:=[(1,.pb 10000200 0),(3,.sc (.int .i64 i)),(4,.sc (.int .i64 j))],ob:=[(10000200,GO w)]}
@[simp] def st80_2 (w:AB) (j:Nat):St:={n:=87,m:=0,tm:=[(1,.pb 10000000 0),(3,.sc (.int .i64 j))],ob:=[(10000000,GO w)]}
@[simp] def st80_0 (w:AB) (j:Nat):St:={n:=87,m:=0,tm:=[(1,.pb 10000400 0),(5,.sc (.int .i64 j))],ob:=[(10000400,GO w)]}
theorem lp80_1 (w:AB) (hN:Dv w) (i:Nat) (hi:i<3): ∃bad,(Af (Fi w i) 3=false->bad.m=0/\At bad.tm 2= .sc (.bool false))/\ ∀ (s:St),s.m<=10000200->Ai 10000200 [1,3,4] s=st80_1 w i 0->Ag G PK md 10000200 [1,3,4] b97_1 s=if Af (Fi w i) 3=true then An (AH G PK md) (Ag G PK md) md b97_1 (st80_1 w i 3)else some (.ret,bad):=
 BY (G:=G) (PK:=PK) (md:=md) (o:=10000200) (live:=[1,3,4]) (c:=b97_1) (st80_1 w i) (Fi w i) (3) (fun s=>s.m=0/\At s.tm 2= .sc (.bool false)) (fun j hj=>by
  obtain⟨x,y1,hx,hx',hxd,hxm⟩:=Ay w.nodes zN (j:=i) (by rw[hN.len];omega);obtain⟨y,y2,hy,hy',hyd,hym⟩:=Ay w.nodes zN (j:=j) (by rw[hN.len];omega);have nx:=hN.ok i hi;have ny:=hN.ok j hj;unfold nd at nx ny;rw[hxd]at nx;rw[hyd]at ny;obtain⟨c1,z1,_,a1,d1⟩:=A1 x.conn (j:=j) (by rw[nx.conn];omega);obtain⟨c2,z2,_,a2,d2⟩:=A1 y.conn (j:=i) (by rw[ny.conn];omega);have hj3:((j:Nat):Int)<3:=by omega
  have hinc:=A2 (n:=3) (j:=j) (by omega) (by omega);unfold Fi cn nd;rw[hxd,hyd,d1,d2]
  cases c1<;>cases c2<;>simp[b97_1,md,hj3,hinc,y1,y2,hx',hy',z1,z2,a1,a2]) (by simp[b97_1])
theorem lp80_2 (w:AB) (hN:Dv w): ∃bad,(Af (fun i=>Af (Fi w i) 3) 3=false->bad.m=0/\At bad.tm 2= .sc (.bool false))/\ ∀ (s:St),s.m<=10000000->Ai 10000000 [1,3] s=st80_2 w 0->Ag G PK md 10000000 [1,3] b97_2 s=if Af (fun i=>Af (Fi w i) 3) 3=true then An (AH G PK md) (Ag G PK md) md b97_2 (st80_2 w 3)else some (.ret,bad):=
 BY (G:=G) (PK:=PK) (md:=md) (o:=10000000) (live:=[1,3]) (c:=b97_2) (st80_2 w) (fun i=>Af (Fi w i) 3) (3) (fun s=>s.m=0/\At s.tm 2= .sc (.bool false)) (fun j hj=>by
  obtain⟨bad,hb,hsz⟩:=lp80_1 (PK:=PK) w hN j hj;have hj3:((j:Nat):Int)<3:=by omega
  have hinc:=A2 (n:=3) (j:=j) (by omega) (by omega)
  cases hp:Af (Fi w j) 3
  ·obtain⟨g1,g2⟩:=hb hp;simp only[hp]at hsz;simp[b97_2,md,hj3];rw[hsz]
   ·simp[g1,g2,hp]
   ·simp
   ·simp
  ·simp only[hp]at hsz;simp[b97_2,md,hj3];rw[hsz]
   ·simp[b97_1,hp,hinc]
   ·simp
   ·simp) (by simp[b97_2])
theorem lp80_0 (w:AB) (hN:Dv w) (hw:wS w): ∃bad,(Af (FB w) w.net.length=false->bad.m=0/\At bad.tm 2= .sc (.bool false))/\ ∀ (s:St),s.m<=10000400->Ai 10000400 [1,5] s=st80_0 w 0->Ag G PK md 10000400 [1,5] b97_0 s=if Af (FB w) w.net.length=true then An (AH G PK md) (Ag G PK md) md b97_0 (st80_0 w w.net.length)else some (.ret,bad):=
 BY (G:=G) (PK:=PK) (md:=md) (o:=10000400) (live:=[1,5]) (c:=b97_0) (st80_0 w) (FB w) (w.net.length) (fun s=>s.m=0/\At s.tm 2= .sc (.bool false)) (fun j hj=>by
  obtain⟨x,y1,hx,hx',hxd,hxm⟩:=Ay w.net zW hj;have e1:=Aj (PK:=PK) x.src 0 2;have e2:=Aj (PK:=PK) x.dst 0 2;have hinc:=A2 hj hw.net;unfold FB cn nd;rw[hxd]
  cases b1:inB x.src 0 2
  ·rw[b1]at e1;simp[b97_0,md,hj,hx',e1]
  rw[b1]at e1
  cases b2:inB x.dst 0 2
  ·rw[b2]at e2;simp[b97_0,md,hj,hx',e1,e2]
  rw[b2]at e2;by_cases hsd:x.src=x.dst
  ·simp[b97_0,md,hj,hx',e1,e2,eq_true hsd]
  have r1:=Ab.1 b1;have r2:=Ab.1 b2;obtain⟨i,hi⟩: ∃i:Nat,x.src=(i:Int):=⟨x.src.toNat,by omega⟩;obtain⟨k,hk⟩: ∃k:Nat,x.dst=(k:Int):=⟨x.dst.toNat,by omega⟩;obtain⟨y,y2,hy,hy',hyd,hym⟩:=Ay w.nodes zN (j:=i) (by rw[hN.len];omega);have ny:=hN.ok i (by omega);unfold nd at ny;rw[hyd]at ny;obtain⟨c1,z1,_,a1,d1⟩:=A1 y.conn (j:=k) (by rw[ny.conn];omega);have hik: ¬ (i:Int)=k:=by rw[←hi,←hk];exact hsd
  rw[hi]at e1;rw[hk]at e2;simp only[hi,hk,Int.toNat_natCast,hyd,d1]
  cases c1
  ·simp[b97_0,md,hj,hx',e1,e2,hi,hk,hik,y2,hy',z1,a1]
  by_cases hlen:x.bytes.length<=400
  ·have hl2: ¬ (400:Int)<x.bytes.length:=by omega
   simp[b97_0,md,hj,hx',e1,e2,hi,hk,hik,y2,hy',z1,a1,hlen,hl2,hinc]
  ·have hl2:(400:Int)<x.bytes.length:=by omega
   simp[b97_0,md,hj,hx',e1,e2,hi,hk,hik,y2,hy',z1,a1,hlen,hl2]) (by simp[b97_0])
theorem Px (w:AB) (hN:Dv w) (hw:wS w):AH G PK md 97 [.a (AJ (fWo w))]=some ⟨[.v (.sc (.bool (PX w)))],[],[]⟩:=by
 refine AA (pf:=p97) rfl (by simp[p97]) ?_;obtain⟨bad2,hb2,hs2⟩:=lp80_2 (PK:=PK) w hN;obtain⟨bad0,hb0,hs0⟩:=lp80_0 (PK:=PK) w hN hw;unfold PX
 cases hp:Af (fun i=>Af (Fi w i) 3) 3
 ·obtain⟨g1,g2⟩:=hb2 hp;simp only[hp]at hs2;simp[p97,md];rw[hs2]
  ·simp[g1,g2]
  ·simp
  ·simp
 simp only[hp]at hs2
 cases hq:Af (FB w) w.net.length
 ·obtain⟨g1,g2⟩:=hb0 hq;simp only[hq]at hs0;simp[p97,md];rw[hs2]
  ·simp[b97_2];rw[hs0]
   ·simp[g1,g2]
   ·simp
   ·simp
  ·simp
  ·simp
 simp only[hq]at hs0;simp[p97,md];rw[hs2]
 ·simp[b97_2];rw[hs0]
  ·simp[b97_0]
   try omega
  ·simp
  ·simp
 ·simp
 ·simp
@[simp] def st37_2 (w:AB) (n:AG) (i k:Nat):St:={n:=127,m:=0,tm:=[(1,.pb 10000200 0),(3,.sc (.int .i64 i)),(4,.pb 10000201 0),(5,.sc (.int .i64 k))],ob:=[(10000200,GO w),(10000201,OI n)]}
@[simp] def st37_3 (w:AB) (j:Nat):St:={n:=127,m:=0,tm:=[(1,.pb 10000000 0),(3,.sc (.int .i64 j))],ob:=[(10000000,GO w)]}
@[simp] def st37_1 (w:AB) (j:Nat):St:={n:=127,m:=0,tm:=[(1,.pb 10000400 0),(6,.sc (.int .i64 j))],ob:=[(10000400,GO w)]}
@[simp] def st37_0 (w:AB) (j:Nat):St:={n:=127,m:=0,tm:=[(1,.pb 10000600 0),(7,.sc (.int .i64 j))],ob:=[(10000600,GO w)]}
theorem lp37_2 (w:AB) (n:AG) (i:Nat) (h8:n.image.length=8): ∃bad,(Af (Lo w n) 8=false->bad.m=0/\At bad.tm 2= .sc (.bool false))/\ ∀ (s:St),s.m<=10000200->Ai 10000200 [1,3,4,5] s=st37_2 w n i 0->Ag G PK md 10000200 [1,3,4,5] b59_2 s=if Af (Lo w n) 8=true then An (AH G PK md) (Ag G PK md) md b59_2 (st37_2 w n i 8)else some (.ret,bad):=
 BY (G:=G) (PK:=PK) (md:=md) (o:=10000200) (live:=[1,3,4,5]) (c:=b59_2) (st37_2 w n i) (Lo w n) (8) (fun s=>s.m=0/\At s.tm 2= .sc (.bool false)) (fun j hj=>by
  obtain⟨x,y1,hx,hx',hxd,hxm⟩:=Ay n.image 0 (j:=j) (by omega);have hj8:((j:Nat):Int)<8:=by omega
  have hinc:=A2 (n:=8) (j:=j) (by omega) (by omega);unfold Lo;rw[hxd];by_cases hle:x<=w.log.length
  ·have hgt: ¬ (w.log.length:Int)<x:=by omega
   simp[b59_2,md,hj8,y1,hx',hle,hgt,hinc]
  ·have hgt:(w.log.length:Int)<x:=by omega
   simp[b59_2,md,hj8,y1,hx',hle,hgt]) (by simp[b59_2])
theorem lp37_3 (w:AB) (h3:w.nodes.length=3) (hw:wS w): ∃bad,(Af (EF w) 3=false->bad.m=0/\At bad.tm 2= .sc (.bool false))/\ ∀ (s:St),s.m<=10000000->Ai 10000000 [1,3] s=st37_3 w 0->Ag G PK md 10000000 [1,3] b59_3 s=if Af (EF w) 3=true then An (AH G PK md) (Ag G PK md) md b59_3 (st37_3 w 3)else some (.ret,bad):=
 BY (G:=G) (PK:=PK) (md:=md) (o:=10000000) (live:=[1,3]) (c:=b59_3) (st37_3 w) (EF w) (3) (fun s=>s.m=0/\At s.tm 2= .sc (.bool false)) (fun j hj=>by
  obtain⟨x,y1,hx,hx',hxd,hxm⟩:=Ay w.nodes zN (j:=j) (by omega);have hj3:((j:Nat):Int)<3:=by omega
  have hinc:=A2 (n:=3) (j:=j) (by omega) (by omega);have e:=AZ (PK:=PK) x (hw.node x hxm);simp only[AJ,lent,fN]at e;unfold EF nd;rw[hxd];by_cases hid:x.id=j
  case neg=>simp[b59_3,md,hj3,y1,hx',hid]
  cases hok:Am x
  ·rw[hok]at e;rw[hid]at e;simp[b59_3,md,hj3,y1,hx',hid,e]
  rw[hok]at e;rw[hid]at e;by_cases hl:x.mt.last<=w.log.length
  case neg=>
   have hl2:(w.log.length:Int)<x.mt.last:=by omega
   simp[b59_3,md,hj3,y1,hx',hid,e,hl,hl2]
  have hl2: ¬ (w.log.length:Int)<x.mt.last:=by omega
  obtain⟨bad,hb,hsz⟩:=lp37_2 (PK:=PK) w x j (A3 hok).img8
  cases hp:Af (Lo w x) 8
  ·obtain⟨g1,g2⟩:=hb hp;simp only[hp]at hsz;simp[b59_3,md,hj3,y1,hx',hid,e,hl,hl2];rw[hsz]
   ·simp[g1,g2]
   ·simp
   ·simp[hid]
  ·simp only[hp]at hsz;simp[b59_3,md,hj3,y1,hx',hid,e,hl,hl2];rw[hsz]
   ·simp[b59_2,hinc]
   ·simp
   ·simp[hid]) (by simp[b59_3])
theorem lp37_1 (w:AB) (hw:wS w): ∃bad,(Af (KP w.log) w.log.length=false->bad.m=0/\At bad.tm 2= .sc (.bool false))/\ ∀ (s:St),s.m<=10000400->Ai 10000400 [1,6] s=st37_1 w 0->Ag G PK md 10000400 [1,6] b59_1 s=if Af (KP w.log) w.log.length=true then An (AH G PK md) (Ag G PK md) md b59_1 (st37_1 w w.log.length)else some (.ret,bad):=
 BY (G:=G) (PK:=PK) (md:=md) (o:=10000400) (live:=[1,6]) (c:=b59_1) (st37_1 w) (KP w.log) (w.log.length) (fun s=>s.m=0/\At s.tm 2= .sc (.bool false)) (fun j hj=>by
  obtain⟨x,y1,hx,hx',hxd,hxm⟩:=Ay w.log zR hj;have hinc:=A2 hj hw.log;have e1:=Aj (PK:=PK) x.cell 0 7;have e2:=Aj (PK:=PK) x.up 0 j;unfold KP;rw[hxd];generalize inB x.cell 0 7=b1 at e1 ⊢
  cases b1
  ·simp[b59_1,md,hj,hx',e1]
  generalize inB x.up 0 j=b2 at e2 ⊢
  cases b2
  ·simp[b59_1,md,hj,hx',e1,e2]
  simp[b59_1,md,hj,hx',e1,e2,hinc]) (by simp[b59_1])
theorem lp37_0 (w:AB) (hw:wS w): ∃bad,(Af (Cr 1 w.log.length w.safe) w.safe.length=false->bad.m=0/\At bad.tm 2= .sc (.bool false))/\ ∀ (s:St),s.m<=10000600->Ai 10000600 [1,7] s=st37_0 w 0->Ag G PK md 10000600 [1,7] b59_0 s=if Af (Cr 1 w.log.length w.safe) w.safe.length=true then An (AH G PK md) (Ag G PK md) md b59_0 (st37_0 w w.safe.length)else some (.ret,bad):=
 BY (G:=G) (PK:=PK) (md:=md) (o:=10000600) (live:=[1,7]) (c:=b59_0) (st37_0 w) (Cr 1 w.log.length w.safe) (w.safe.length) (fun s=>s.m=0/\At s.tm 2= .sc (.bool false)) (fun j hj=>by
  obtain⟨x,y1,hx,hx',hxd,hxm⟩:=Ay w.safe 0 hj;have e:=Aj (PK:=PK) x 1 w.log.length;have hi:=A2 hj hw.safe;unfold Cr;rw[hxd];generalize inB x 1 w.log.length=b1 at e ⊢
  cases b1
  ·simp[b59_0,md,hj,hx',e]
  rcases Nat.eq_zero_or_pos j with hz|hz
  ·subst hz;simp at hi;simp[b59_0,md,hj,hx',e,hi]
  ·have hz0: ¬j=0:=by omega
   obtain⟨i,hij⟩: ∃i,j=i+1:=⟨j - 1,by omega⟩;obtain⟨x2,y2,hx2,hx2',hxd2,_⟩:=Ay w.safe 0 (j:=i) (by omega);have hwr:IntKind.wrap .i64 ((j:Int) - 1)=(i:Int):=by rw[AC (by omega) (by have:=hw.safe;omega)];omega
   have hpos:(0:Int)<j:=by omega
   rw[show j - 1=i by omega,hxd2];by_cases hlt:x2<x
   ·have hge: ¬x<=x2:=by omega
    simp[b59_0,md,hj,hz0,hz,hx',e,hi,hwr,hpos,y2,hx2',hlt,hge]
   ·have hge:x<=x2:=by omega
    simp[b59_0,md,hj,hz0,hz,hx',e,hi,hwr,hpos,y2,hx2',hlt,hge]) (by simp[b59_0])
theorem GC (w:AB) (hw:wS w):AH G PK md 59 [.a (AJ (fWo w))]=some ⟨[.v (.sc (.bool (BV w)))],[],[]⟩:=by
 refine AA (pf:=p59) rfl (by simp[p59]) ?_;have e0:=Aj (PK:=PK) w.gen 2 100000;unfold BV;by_cases h3:w.nodes.length=3
 case neg=>
  have h3': ¬ (w.nodes.length:Int)=3:=by omega
  simp[p59,md,h3,h3']
 by_cases hlog:w.log.length<=200
 case neg=>
  have hlog':(200:Int)<w.log.length:=by omega
  simp[p59,md,h3,hlog,hlog']
 have hlog': ¬ (200:Int)<w.log.length:=by omega
 generalize inB w.gen 2 100000=b0 at e0 ⊢
 cases b0
 ·simp[p59,md,h3,hlog,hlog',e0]
 obtain⟨bad3,hb3,hs3⟩:=lp37_3 (PK:=PK) w h3 hw;obtain⟨bad1,hb1,hs1⟩:=lp37_1 (PK:=PK) w hw;obtain⟨bad0,hb0,hs0⟩:=lp37_0 (PK:=PK) w hw
 cases q3:Af (EF w) 3
 ·obtain⟨g1,g2⟩:=hb3 q3;simp only[q3]at hs3;simp[p59,md,h3,hlog,hlog',e0];rw[hs3]
  ·simp[g1,g2]
  ·simp
  ·simp
 have hN:=H7 h3 q3;have e1:=Px (PK:=PK) w hN hw;simp only[AJ,lent,fWo]at e1;simp only[q3]at hs3
 cases q1:Af (KP w.log) w.log.length
 ·obtain⟨g1,g2⟩:=hb1 q1;simp only[q1]at hs1;simp[p59,md,h3,hlog,hlog',e0];rw[hs3]
  ·simp[b59_3];rw[hs1]
   ·simp[g1,g2]
   ·simp
   ·simp
  ·simp
  ·simp
 simp only[q1]at hs1
 cases q0:Af (Cr 1 w.log.length w.safe) w.safe.length
 ·obtain⟨g1,g2⟩:=hb0 q0;simp only[q0]at hs0;simp[p59,md,h3,hlog,hlog',e0];rw[hs3]
  ·simp[b59_3];rw[hs1]
   ·simp[b59_1];rw[hs0]
    ·simp[g1,g2]
    ·simp
    ·simp
   ·simp
   ·simp
  ·simp
  ·simp
 simp only[q0]at hs0;simp[p59,md,h3,hlog,hlog',e0];rw[hs3]
 ·simp[b59_3];rw[hs1]
  ·simp[b59_1];rw[hs0]
   ·simp[b59_0,md,e1]
   ·simp
   ·simp
  ·simp
  ·simp
 ·simp
 ·simp
end Go.Proofs.YtbolhfegdocpeaaGreat.Ow
