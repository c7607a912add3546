/- A world that is right: plain. -/
import Derived.Test.YtghgecpicnfgpaaGreatEv6
namespace Go.Proofs.YtghgecpicnfgpaaGreat.Ow
open Go
set_option linter.unusedVariables false
set_option linter.unusedSimpArgs false
set_option maxHeartbeats 4000000
theorem AX {α:Type} (l:List α) (d:α) {j:Nat} (h:j<l.length): ∃ (x:α) (hj:j<l.length),l[j]? =some x/\l[j]=x/\l.getD j d=x/\x∈l:=⟨l[j],h,List.getElem?_eq_getElem h,rfl,by simp[List.getD_eq_getElem?_getD,h],List.getElem_mem h⟩
def nd (w:AB) (i:Nat):AE:=w.nodes.getD i zN
def cn (w:AB) (i k:Nat):Bool:=(nd w i).conn.getD k false
def Lc (log:List Dw) (j:Nat):Bool:=inB (log.getD j zR).cell 0 7&&inB (log.getD j zR).up 0 j
def Ft (w:AB) (j:Nat):Bool:=inB (w.net.getD j zW).src 0 2&&inB (w.net.getD j zW).dst 0 2&& !decide ((w.net.getD j zW).src=(w.net.getD j zW).dst)&&cn w (w.net.getD j zW).src.toNat (w.net.getD j zW).dst.toNat&&decide ((w.net.getD j zW).bytes.length<=400)
def N5 (w:AB) (n:AE) (k:Nat):Bool:=decide (n.image.getD k 0<=w.log.length)
def FD (w:AB) (j:Nat):Bool:=decide ((nd w j).id=j)&&AL (nd w j)&&decide ((nd w j).mt.last<=w.log.length)&&Ac (N5 w (nd w j)) 8
def F8 (w:AB) (i k:Nat):Bool:=cn w i k==cn w k i
def Kk (w:AB):Bool:=Ac (λi=>Ac (F8 w i) 3) 3&&Ac (Ft w) w.net.length&&decide (w.net.length<=40)
def Ap (w:AB):Bool:=decide (w.nodes.length=3)&&decide (w.log.length<=200)&&inB w.gen 2 100000&&Ac (FD w) 3&&Ac (Lc w.log) w.log.length&&Ac (CX 1 w.log.length w.safe) w.safe.length&&Kk w
structure wS (w:AB):Prop where
 nodes:w.nodes.length<=1048576
 node: ∀x∈w.nodes,nS x
 net:w.net.length<=1048576
 wire: ∀x∈w.net,byt x.bytes
 log:w.log.length<=1048576
 safe:w.safe.length<=1048576
theorem NOk.img8 {n:AE} (h:NOk n):n.image.length=8:=by
 have h1:=h.img;unfold FE at h1;rw[Bool.and_eq_true,beq_iff_eq]at h1;omega
theorem NOk.imgB {n:AE} (h:NOk n): ∀x∈n.image,0<=x/\x<=200:=λx hx=>by
 have h1:=h.img;unfold FE at h1;rw[Bool.and_eq_true]at h1;obtain⟨j,hj⟩:=List.getElem?_of_mem hx;have:=Am h1.1 (List.getElem?_eq_some_iff.1 hj).1;simp only[BP hj]at this;exact AP.1 this
structure Ek (w:AB):Prop where
 len:w.nodes.length=3
 ok: ∀j,j<3->NOk (nd w j)
 id: ∀j:Nat,j<3->(nd w j).id=j
theorem Jl {w:AB} (h0:w.nodes.length=3) (h:Ac (FD w) 3=true):Ek w:=by
 refine⟨h0,λj hj=> ?_,λj hj=> ?_⟩
 ·have:=Am h hj;unfold FD at this;simp only[Bool.and_eq_true,decide_eq_true_iff]at this;exact Ai this.1.1.2
 ·have:=Am h hj;unfold FD at this;simp only[Bool.and_eq_true,decide_eq_true_iff]at this;exact this.1.1.1
@[simp] def st80_1 (w:AB) (i j:Nat):St:={n:=87,m:=0,tm:=[(1,.pb 10000200 0),(3,.sc (I6 i)),(4,.sc (I6 j))],ob:=[(10000200,Ey w)]}
@[simp] def st80_2 (w:AB) (j:Nat):St:={n:=87,m:=0,tm:=[(1,.pb 10000000 0),(3,.sc (I6 j))],ob:=[(10000000,Ey w)]}
@[simp] def st80_0 (w:AB) (j:Nat):St:={n:=87,m:=0,tm:=[(1,.pb 10000400 0),(5,.sc (I6 j))],ob:=[(10000400,Ey w)]}
theorem lp80_1 [PKI] (w:AB) (hN:Ek w) (i:Nat) (hi:i<3): ∃bad,(Ac (F8 w i) 3=false->bad.m=0/\Aw bad.tm 2= .sc (.bool false))/\ ∀ (s:St),s.m<=10000200->Aa 10000200 [1,3,4] s=st80_1 w i 0->A6 G PK md 10000200 [1,3,4] b172_1 s=if Ac (F8 w i) 3=true then xG b172_1 (st80_1 w i 3)else some (.ret,bad):=
 @Bo G PK md 10000200 [1,3,4] b172_1 (st80_1 w i) (F8 w i) (3) (λs=>s.m=0/\Aw s.tm 2= .sc (.bool false)) (λj hj=>by
  obtain⟨x,y1,hx,hx',hxd,hxm⟩:=AX w.nodes zN (j:=i) (by rw[hN.len];omega);obtain⟨y,y2,hy,hy',hyd,hym⟩:=AX w.nodes zN (j:=j) (by rw[hN.len];omega);have nx:=hN.ok i hi;have ny:=hN.ok j hj;unfold nd at nx ny;rw[hxd]at nx;rw[hyd]at ny;obtain⟨c1,z1,_,a1,d1⟩:=Aj x.conn (j:=j) (by rw[nx.conn];omega);obtain⟨c2,z2,_,a2,d2⟩:=Aj y.conn (j:=i) (by rw[ny.conn];omega);have hj3:((j:Nat):Int)<3:=by omega
  have hinc:=Ar (n:=3) (j:=j) (by omega) (by omega);unfold F8 cn nd;rw[hxd,hyd,d1,d2]
  cases c1<;>cases c2<;>simp[b172_1,  hj3,hinc,y1,y2,hx',hy',z1,z2,a1,a2]) (by simp[b172_1])
theorem lp80_2 [PKI] (w:AB) (hN:Ek w): ∃bad,(Ac (λi=>Ac (F8 w i) 3) 3=false->bad.m=0/\Aw bad.tm 2= .sc (.bool false))/\ ∀ (s:St),s.m<=10000000->Aa 10000000 [1,3] s=st80_2 w 0->A6 G PK md 10000000 [1,3] b172_2 s=if Ac (λi=>Ac (F8 w i) 3) 3=true then xG b172_2 (st80_2 w 3)else some (.ret,bad):=
 @Bo G PK md 10000000 [1,3] b172_2 (st80_2 w) (λi=>Ac (F8 w i) 3) (3) (λs=>s.m=0/\Aw s.tm 2= .sc (.bool false)) (λj hj=>by
  obtain⟨bad,hb,hsz⟩:=lp80_1 w hN j hj;have hj3:((j:Nat):Int)<3:=by omega
  have hinc:=Ar (n:=3) (j:=j) (by omega) (by omega)
  cases hp:Ac (F8 w j) 3
  ·obtain⟨g1,g2⟩:=hb hp;simp only[hp]at hsz;simp[b172_2,  hj3];rw[hsz]
   ·simp[g1,g2,hp]
   ·simp
   ·simp
  ·simp only[hp]at hsz;simp[b172_2,  hj3];rw[hsz]
   ·simp[b172_1,hp,hinc]
   ·simp
   ·simp) (by simp[b172_2])
theorem lp80_0 [PKI] (w:AB) (hN:Ek w) (hw:wS w): ∃bad,(Ac (Ft w) w.net.length=false->bad.m=0/\Aw bad.tm 2= .sc (.bool false))/\ ∀ (s:St),s.m<=10000400->Aa 10000400 [1,5] s=st80_0 w 0->A6 G PK md 10000400 [1,5] b172_0 s=if Ac (Ft w) w.net.length=true then xG b172_0 (st80_0 w w.net.length)else some (.ret,bad):=
 @Bo G PK md 10000400 [1,5] b172_0 (st80_0 w) (Ft w) (w.net.length) (λs=>s.m=0/\Aw s.tm 2= .sc (.bool false)) (λj hj=>by
  obtain⟨x,y1,hx,hx',hxd,hxm⟩:=AX w.net zW hj;have e1:=Ao x.src 0 2;have e2:=Ao x.dst 0 2;have hinc:=Ar hj hw.net;unfold Ft cn nd;rw[hxd]
  cases b1:inB x.src 0 2
  ·rw[b1]at e1;simp[b172_0,  hj,hx',e1]
  rw[b1]at e1
  cases b2:inB x.dst 0 2
  ·rw[b2]at e2;simp[b172_0,  hj,hx',e1,e2]
  rw[b2]at e2;by_cases hsd:x.src=x.dst
  ·simp[b172_0,  hj,hx',e1,e2,eq_true hsd]
  have r1:=AP.1 b1;have r2:=AP.1 b2;obtain⟨i,hi⟩: ∃i:Nat,x.src=(i:Int):=⟨x.src.toNat,by omega⟩;obtain⟨k,hk⟩: ∃k:Nat,x.dst=(k:Int):=⟨x.dst.toNat,by omega⟩;obtain⟨y,y2,hy,hy',hyd,hym⟩:=AX w.nodes zN (j:=i) (by rw[hN.len];omega);have ny:=hN.ok i (by omega);unfold nd at ny;rw[hyd]at ny;obtain⟨c1,z1,_,a1,d1⟩:=Aj y.conn (j:=k) (by rw[ny.conn];omega);have hik: ¬ (i:Int)=k:=by rw[<-hi,<-hk];exact hsd
  rw[hi]at e1;rw[hk]at e2;simp only[hi,hk,Int.toNat_natCast,hyd,d1]
  cases c1
  ·simp[b172_0,  hj,hx',e1,e2,hi,hk,hik,y2,hy',z1,a1]
  by_cases hlen:x.bytes.length<=400
  ·have hl2: ¬ (400:Int)<x.bytes.length:=by omega
   simp[b172_0,  hj,hx',e1,e2,hi,hk,hik,y2,hy',z1,a1,hlen,hl2,hinc]
  ·have hl2:(400:Int)<x.bytes.length:=by omega
   simp[b172_0,  hj,hx',e1,e2,hi,hk,hik,y2,hy',z1,a1,hlen,hl2]) (by simp[b172_0])
theorem Sb [PKI] (w:AB) (hN:Ek w) (hw:wS w):sG 172 [.a (AD (fWo w))]=some ⟨[.v (.sc (.bool (Kk w)))],[],[]⟩:=by
 refine sK p172 ?_;obtain⟨bad2,hb2,hs2⟩:=lp80_2 w hN;obtain⟨bad0,hb0,hs0⟩:=lp80_0 w hN hw;unfold Kk
 cases hp:Ac (λi=>Ac (F8 w i) 3) 3
 ·obtain⟨g1,g2⟩:=hb2 hp;simp only[hp]at hs2;simp[p172];rw[hs2]
  ·simp[g1,g2]
  ·simp
  ·simp
 simp only[hp]at hs2
 cases hq:Ac (Ft w) w.net.length
 ·obtain⟨g1,g2⟩:=hb0 hq;simp only[hq]at hs0;simp[p172];rw[hs2]
  ·simp[b172_2];rw[hs0]
   ·simp[g1,g2]
   ·simp
   ·simp
  ·simp
  ·simp
 simp only[hq]at hs0;simp[p172];rw[hs2]
 ·simp[b172_2];rw[hs0]
  ·simp[b172_0]
   try omega
  ·simp
  ·simp
 ·simp
 ·simp
@[simp] def st37_2 (w:AB) (n:AE) (i k:Nat):St:={n:=127,m:=0,tm:=[(1,.pb 10000200 0),(3,.sc (I6 i)),(4,.pb 10000201 0),(5,.sc (I6 k))],ob:=[(10000200,Ey w),(10000201,PJ n)]}
@[simp] def st37_3 (w:AB) (j:Nat):St:={n:=127,m:=0,tm:=[(1,.pb 10000000 0),(3,.sc (I6 j))],ob:=[(10000000,Ey w)]}
@[simp] def st37_1 (w:AB) (j:Nat):St:={n:=127,m:=0,tm:=[(1,.pb 10000400 0),(6,.sc (I6 j))],ob:=[(10000400,Ey w)]}
@[simp] def st37_0 (w:AB) (j:Nat):St:={n:=127,m:=0,tm:=[(1,.pb 10000600 0),(7,.sc (I6 j))],ob:=[(10000600,Ey w)]}
theorem lp37_2 [PKI] (w:AB) (n:AE) (i:Nat) (h8:n.image.length=8): ∃bad,(Ac (N5 w n) 8=false->bad.m=0/\Aw bad.tm 2= .sc (.bool false))/\ ∀ (s:St),s.m<=10000200->Aa 10000200 [1,3,4,5] s=st37_2 w n i 0->A6 G PK md 10000200 [1,3,4,5] b116_2 s=if Ac (N5 w n) 8=true then xG b116_2 (st37_2 w n i 8)else some (.ret,bad):=
 @Bo G PK md 10000200 [1,3,4,5] b116_2 (st37_2 w n i) (N5 w n) (8) (λs=>s.m=0/\Aw s.tm 2= .sc (.bool false)) (λj hj=>by
  obtain⟨x,y1,hx,hx',hxd,hxm⟩:=AX n.image 0 (j:=j) (by omega);have hj8:((j:Nat):Int)<8:=by omega
  have hinc:=Ar (n:=8) (j:=j) (by omega) (by omega);unfold N5;rw[hxd];by_cases hle:x<=w.log.length
  ·have hgt: ¬ (w.log.length:Int)<x:=by omega
   simp[b116_2,  hj8,y1,hx',hle,hgt,hinc]
  ·have hgt:(w.log.length:Int)<x:=by omega
   simp[b116_2,  hj8,y1,hx',hle,hgt]) (by simp[b116_2])
theorem lp37_3 [PKI] (w:AB) (h3:w.nodes.length=3) (hw:wS w): ∃bad,(Ac (FD w) 3=false->bad.m=0/\Aw bad.tm 2= .sc (.bool false))/\ ∀ (s:St),s.m<=10000000->Aa 10000000 [1,3] s=st37_3 w 0->A6 G PK md 10000000 [1,3] b116_3 s=if Ac (FD w) 3=true then xG b116_3 (st37_3 w 3)else some (.ret,bad):=
 @Bo G PK md 10000000 [1,3] b116_3 (st37_3 w) (FD w) (3) (λs=>s.m=0/\Aw s.tm 2= .sc (.bool false)) (λj hj=>by
  obtain⟨x,y1,hx,hx',hxd,hxm⟩:=AX w.nodes zN (j:=j) (by omega);have hj3:((j:Nat):Int)<3:=by omega
  have hinc:=Ar (n:=3) (j:=j) (by omega) (by omega);have e:=Ab x (hw.node x hxm);simp only[AD,lent,fN]at e;unfold FD nd;rw[hxd];by_cases hid:x.id=j
  case neg=>simp[b116_3,  hj3,y1,hx',hid]
  cases hok:AL x
  ·rw[hok]at e;rw[hid]at e;simp[b116_3,  hj3,y1,hx',hid,e]
  rw[hok]at e;rw[hid]at e;by_cases hl:x.mt.last<=w.log.length
  case neg=>
   have hl2:(w.log.length:Int)<x.mt.last:=by omega
   simp[b116_3,  hj3,y1,hx',hid,e,hl,hl2]
  have hl2: ¬ (w.log.length:Int)<x.mt.last:=by omega
  obtain⟨bad,hb,hsz⟩:=lp37_2 w x j (Ai hok).img8
  cases hp:Ac (N5 w x) 8
  ·obtain⟨g1,g2⟩:=hb hp;simp only[hp]at hsz;simp[b116_3,  hj3,y1,hx',hid,e,hl,hl2];rw[hsz]
   ·simp[g1,g2]
   ·simp
   ·simp[hid]
  ·simp only[hp]at hsz;simp[b116_3,  hj3,y1,hx',hid,e,hl,hl2];rw[hsz]
   ·simp[b116_2,hinc]
   ·simp
   ·simp[hid]) (by simp[b116_3])
theorem lp37_1 [PKI] (w:AB) (hw:wS w): ∃bad,(Ac (Lc w.log) w.log.length=false->bad.m=0/\Aw bad.tm 2= .sc (.bool false))/\ ∀ (s:St),s.m<=10000400->Aa 10000400 [1,6] s=st37_1 w 0->A6 G PK md 10000400 [1,6] b116_1 s=if Ac (Lc w.log) w.log.length=true then xG b116_1 (st37_1 w w.log.length)else some (.ret,bad):=
 @Bo G PK md 10000400 [1,6] b116_1 (st37_1 w) (Lc w.log) (w.log.length) (λs=>s.m=0/\Aw s.tm 2= .sc (.bool false)) (λj hj=>by
  obtain⟨x,y1,hx,hx',hxd,hxm⟩:=AX w.log zR hj;have hinc:=Ar hj hw.log;have e1:=Ao x.cell 0 7;have e2:=Ao x.up 0 j;unfold Lc;rw[hxd];generalize inB x.cell 0 7=b1 at e1 ⊢
  cases b1
  ·simp[b116_1,  hj,hx',e1]
  generalize inB x.up 0 j=b2 at e2 ⊢
  cases b2
  ·simp[b116_1,  hj,hx',e1,e2]
  simp[b116_1,  hj,hx',e1,e2,hinc]) (by simp[b116_1])
theorem lp37_0 [PKI] (w:AB) (hw:wS w): ∃bad,(Ac (CX 1 w.log.length w.safe) w.safe.length=false->bad.m=0/\Aw bad.tm 2= .sc (.bool false))/\ ∀ (s:St),s.m<=10000600->Aa 10000600 [1,7] s=st37_0 w 0->A6 G PK md 10000600 [1,7] b116_0 s=if Ac (CX 1 w.log.length w.safe) w.safe.length=true then xG b116_0 (st37_0 w w.safe.length)else some (.ret,bad):=
 @Bo G PK md 10000600 [1,7] b116_0 (st37_0 w) (CX 1 w.log.length w.safe) (w.safe.length) (λs=>s.m=0/\Aw s.tm 2= .sc (.bool false)) (λj hj=>by
  obtain⟨x,y1,hx,hx',hxd,hxm⟩:=AX w.safe 0 hj;have e:=Ao x 1 w.log.length;have hi:=Ar hj hw.safe;unfold CX;rw[hxd];generalize inB x 1 w.log.length=b1 at e ⊢
  cases b1
  ·simp[b116_0,  hj,hx',e]
  rcases Nat.eq_zero_or_pos j with hz|hz
  ·subst hz;simp at hi;simp[b116_0,  hj,hx',e,hi]
  ·have hz0: ¬j=0:=by omega
   obtain⟨i,hij⟩: ∃i,j=i+1:=⟨j - 1,by omega⟩;obtain⟨x2,y2,hx2,hx2',hxd2,_⟩:=AX w.safe 0 (j:=i) (by omega);have hwr:IntKind.wrap .i64 ((j:Int) - 1)=(i:Int):=by rw[AC (by omega) (by have:=hw.safe;omega)];omega
   have hpos:(0:Int)<j:=by omega
   rw[show j - 1=i by omega,hxd2];by_cases hlt:x2<x
   ·have hge: ¬x<=x2:=by omega
    simp[b116_0,  hj,hz0,hz,hx',e,hi,hwr,hpos,y2,hx2',hlt,hge]
   ·have hge:x<=x2:=by omega
    simp[b116_0,  hj,hz0,hz,hx',e,hi,hwr,hpos,y2,hx2',hlt,hge]) (by simp[b116_0])
theorem HS [PKI] (w:AB) (hw:wS w):sG 116 [.a (AD (fWo w))]=some ⟨[.v (.sc (.bool (Ap w)))],[],[]⟩:=by
 refine sK p116 ?_;have e0:=Ao w.gen 2 100000;unfold Ap;by_cases h3:w.nodes.length=3
 case neg=>
  have h3': ¬ (w.nodes.length:Int)=3:=by omega
  simp[p116,  h3,h3']
 by_cases hlog:w.log.length<=200
 case neg=>
  have hlog':(200:Int)<w.log.length:=by omega
  simp[p116,  h3,hlog,hlog']
 have hlog': ¬ (200:Int)<w.log.length:=by omega
 generalize inB w.gen 2 100000=b0 at e0 ⊢
 cases b0
 ·simp[p116,  h3,hlog,hlog',e0]
 obtain⟨bad3,hb3,hs3⟩:=lp37_3 w h3 hw;obtain⟨bad1,hb1,hs1⟩:=lp37_1 w hw;obtain⟨bad0,hb0,hs0⟩:=lp37_0 w hw
 cases q3:Ac (FD w) 3
 ·obtain⟨g1,g2⟩:=hb3 q3;simp only[q3]at hs3;simp[p116,  h3,hlog,hlog',e0];rw[hs3]
  ·simp[g1,g2]
  ·simp
  ·simp
 have hN:=Jl h3 q3;have e1:=Sb w hN hw;simp only[AD,lent,fWo]at e1;simp only[q3]at hs3
 cases q1:Ac (Lc w.log) w.log.length
 ·obtain⟨g1,g2⟩:=hb1 q1;simp only[q1]at hs1;simp[p116,  h3,hlog,hlog',e0];rw[hs3]
  ·simp[b116_3];rw[hs1]
   ·simp[g1,g2]
   ·simp
   ·simp
  ·simp
  ·simp
 simp only[q1]at hs1
 cases q0:Ac (CX 1 w.log.length w.safe) w.safe.length
 ·obtain⟨g1,g2⟩:=hb0 q0;simp only[q0]at hs0;simp[p116,  h3,hlog,hlog',e0];rw[hs3]
  ·simp[b116_3];rw[hs1]
   ·simp[b116_1];rw[hs0]
    ·simp[g1,g2]
    ·simp
    ·simp
   ·simp
   ·simp
  ·simp
  ·simp
 simp only[q0]at hs0;simp[p116,  h3,hlog,hlog',e0];rw[hs3]
 ·simp[b116_3];rw[hs1]
  ·simp[b116_1];rw[hs0]
   ·simp[b116_0,  e1]
   ·simp
   ·simp
  ·simp
  ·simp
 ·simp
 ·simp
end Go.Proofs.YtghgecpicnfgpaaGreat.Ow
