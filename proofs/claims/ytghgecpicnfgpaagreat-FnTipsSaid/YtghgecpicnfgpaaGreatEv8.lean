/- Functions evaluated on the small machine: A world that is right, the code: evaluated, Slots put, plain, Slots put: evaluated. -/
import Derived.Test.YtghgecpicnfgpaaGreatEv7
import Derived.Test.YtghgecpicnfgpaaGreatEv6
namespace Go.Proofs.YtghgecpicnfgpaaGreat.Ow
open Go
set_option linter.unusedVariables false
set_option linter.unusedSimpArgs false
set_option maxHeartbeats 4000000
def G8 (w:AB) (i k:Nat):Bool:= !(cn w i k&& !cn w k i)
theorem imp_sym (w:AB):Ac (λi=>Ac (G8 w i) 3) 3=Ac (λi=>Ac (F8 w i) 3) 3:=by
 cases h:Ac (λi=>Ac (F8 w i) 3) 3
 ·cases h2:Ac (λi=>Ac (G8 w i) 3) 3
  ·rfl
  ·exfalso;rw[BJ (λi hi=>BJ λk hk=> ?_)]at h
   ·cases h
   ·have h3:G8 w i k=true:=Am (p:=G8 w i) (Am (p:=λi=>Ac (G8 w i) 3) h2 hi) hk;have h4:G8 w k i=true:=Am (p:=G8 w k) (Am (p:=λi=>Ac (G8 w i) 3) h2 hk) hi;unfold G8 at h3 h4;unfold F8;revert h3 h4
    cases cn w i k<;>cases cn w k i<;>simp
 ·refine BJ λi hi=>BJ λk hk=> ?_
  have h3:F8 w i k=true:=Am (p:=F8 w i) (Am (p:=λi=>Ac (F8 w i) 3) h hi) hk;unfold F8 at h3;unfold G8;revert h3
  cases cn w i k<;>cases cn w k i<;>simp
def Jm (w:AB):Bool:=decide (w.nodes.length=3)&&Ac (FD w) 3&&Ac (λi=>Ac (F8 w i) 3) 3
theorem any_img (w:AB) (n:AE) (h8:n.image.length=8):n.image.any (λx=>decide ((w.log.length:Int)<x))= !Ac (N5 w n) 8:=by
 cases h:Ac (N5 w n) 8
 ·unfold Ac at h;rw[List.all_eq_false]at h;obtain⟨k,hk,h2⟩:=h;have hk:=List.mem_range.1 hk;obtain⟨x,y1,hx,hx',hxd,hxm⟩:=AX n.image 0 (j:=k) (by omega);unfold N5 at h2;rw[hxd,decide_eq_true_iff]at h2;exact List.any_eq_true.2 ⟨x,hxm,by simp;omega⟩
 ·refine List.any_eq_false.2 λx hx=> ?_
  obtain⟨j,hj⟩:=List.getElem?_of_mem hx;have h2:=Am h (j:=j) (by rw[<-h8];exact(List.getElem?_eq_some_iff.1 hj).1);unfold N5 at h2;rw[BP hj,decide_eq_true_iff]at h2;simp;omega
theorem SS [PKI] (w:AB) (x:Int):sG 100 [.v (.sc (I6 x)),.pi (fWo w)]=some ⟨[.v (.sc (.bool (decide ((w.log.length:Int)<x))))],[],[]⟩:=by
 refine sK p100 ?_;simp[p100]
@[simp] def st84_2 (w:AB) (j:Nat):St:={n:=75,m:=0,tm:=[(1,.pb 10000000 0),(13,.im 16 (enc fN w.nodes)),(14,.sc (I6 w.nodes.length)),(15,.sc (I6 j))],ob:=[(10000000,Ey w)]}
@[simp] def st84_1 (w:AB) (j:Nat):St:={n:=75,m:=0,tm:=[(1,.pb 10000200 0),(46,.im 16 (enc fN w.nodes)),(47,.sc (I6 w.nodes.length)),(48,.sc (I6 j))],ob:=[(10000200,Ey w)]}
@[simp] def st84_0 (w:AB) (n:AE) (i j:Nat):St:={n:=75,m:=0,tm:=[(1,.pb 10000400 0),(5,.sc (I6 i)),(6,.pb 10000401 0),(46,.im 16 (enc fN w.nodes)),(47,.sc (I6 w.nodes.length)),(48,.sc (I6 i)),(53,.sc (I6 j))],ob:=[(10000400,Ey w),(10000401,PJ n)]}
theorem lp84_2 [PKI] (w:AB) (h3:w.nodes.length=3) (hw:wS w): ∃bad,(Ac (FD w) 3=false->bad.m=0/\Aw bad.tm 2= .sc (.bool false))/\ ∀ (s:St),s.m<=10000000->Aa 10000000 [1,13,14,15] s=st84_2 w 0->A6 G PK md 10000000 [1,13,14,15] b59_2 s=if Ac (FD w) 3=true then xG b59_2 (st84_2 w 3)else some (.ret,bad):=
 @Bo G PK md 10000000 [1,13,14,15] b59_2 (st84_2 w) (FD w) (3) (λs=>s.m=0/\Aw s.tm 2= .sc (.bool false)) (λj hj=>by
  obtain⟨x,y1,hx,hx',hxd,hxm⟩:=AX w.nodes zN (j:=j) (by omega);have hj3:((j:Nat):Int)<3:=by omega
  have hinc:=Ar (n:=3) (j:=j) (by omega) (by omega);have e:=Ak x (hw.node x hxm);simp only[AD,lent,fN]at e;unfold FD nd;rw[hxd]
  cases hok:AL x
  ·rw[hok]at e;simp[b59_2,  h3,hj,hj3,y1,hx',e]
  rw[hok]at e;by_cases hid:x.id=j
  case neg=>simp[b59_2,  h3,hj,hj3,y1,hx',e,hid]
  rw[hid]at e;by_cases hl:x.mt.last<=w.log.length
  case neg=>
   have hl2:(w.log.length:Int)<x.mt.last:=by omega
   simp[b59_2,  h3,hj,hj3,y1,hx',hid,e,hl,hl2]
  have hl2: ¬ (w.log.length:Int)<x.mt.last:=by omega
  have nx:=Ai hok;have e2:=Xb 100 (fWo w) (λx=>decide ((w.log.length:Int)<x)) x.image (by have:=nx.img8;omega) rfl (λx _=>SS w x);rw[any_img w x nx.img8]at e2;simp only[fWo]at e2
  cases hp:Ac (N5 w x) 8
  ·rw[hp]at e2;simp[b59_2,  h3,hj,hj3,y1,hx',hid,e,hl,hl2,e2]
  ·rw[hp]at e2;simp[b59_2,  h3,hj,hj3,y1,hx',hid,e,hl,hl2,e2,hinc]) (by simp[b59_2,h3])
theorem lp84_0 [PKI] (w:AB) (hN:Ek w) (i:Nat) (hi:i<3): ∃bad,(Ac (G8 w i) 3=false->bad.m=0/\Aw bad.tm 2= .sc (.bool false))/\ ∀ (s:St),s.m<=10000400->Aa 10000400 [1,5,6,46,47,48,53] s=st84_0 w (nd w i) i 0->A6 G PK md 10000400 [1,5,6,46,47,48,53] b59_0 s=if Ac (G8 w i) 3=true then xG b59_0 (st84_0 w (nd w i) i 3)else some (.ret,bad):=
 @Bo G PK md 10000400 [1,5,6,46,47,48,53] b59_0 (st84_0 w (nd w i) i) (G8 w i) (3) (λs=>s.m=0/\Aw s.tm 2= .sc (.bool false)) (λj hj=>by
  obtain⟨y,y2,hy,hy',hyd,hym⟩:=AX w.nodes zN (j:=j) (by rw[hN.len];omega);have nx:=hN.ok i hi;have ny:=hN.ok j hj;unfold G8 cn;generalize nd w i=x at nx ⊢;unfold nd at ny ⊢;rw[hyd]at ny ⊢;obtain⟨c1,z1,_,a1,d1⟩:=Aj x.conn (j:=j) (by rw[nx.conn];omega);obtain⟨c2,z2,_,a2,d2⟩:=Aj y.conn (j:=i) (by rw[ny.conn];omega);have hj3:((j:Nat):Int)<3:=by omega
  have hinc:=Ar (n:=3) (j:=j) (by omega) (by omega);rw[d1,d2]
  cases c1
  ·simp[b59_0,  hj3,hinc,z1,a1]
  cases c2<;>simp[b59_0,  hj3,hinc,y2,hy',z1,z2,a1,a2]) (by simp[b59_0])
theorem lp84_1 [PKI] (w:AB) (hN:Ek w): ∃bad,(Ac (λi=>Ac (G8 w i) 3) 3=false->bad.m=0/\Aw bad.tm 2= .sc (.bool false))/\ ∀ (s:St),s.m<=10000200->Aa 10000200 [1,46,47,48] s=st84_1 w 0->A6 G PK md 10000200 [1,46,47,48] b59_1 s=if Ac (λi=>Ac (G8 w i) 3) 3=true then xG b59_1 (st84_1 w 3)else some (.ret,bad):=
 @Bo G PK md 10000200 [1,46,47,48] b59_1 (st84_1 w) (λi=>Ac (G8 w i) 3) (3) (λs=>s.m=0/\Aw s.tm 2= .sc (.bool false)) (λj hj=>by
  obtain⟨x,y1,hx,hx',hxd,hxm⟩:=AX w.nodes zN (j:=j) (by rw[hN.len];omega);obtain⟨bad,hb,hsz⟩:=lp84_0 w hN j hj;rw[show nd w j=x from hxd]at hsz;have hj3:((j:Nat):Int)<3:=by omega
  have hinc:=Ar (n:=3) (j:=j) (by omega) (by omega);have h3:=hN.len
  cases hp:Ac (G8 w j) 3
  ·obtain⟨g1,g2⟩:=hb hp;simp only[hp]at hsz;simp[b59_1,  h3,hj,hj3,y1,hx'];rw[hsz]
   ·simp[g1,g2,hp]
   ·simp
   ·simp[h3]
  ·simp only[hp]at hsz;simp[b59_1,  h3,hj,hj3,y1,hx'];rw[hsz]
   ·simp[b59_0,hp,hinc,h3]
   ·simp
   ·simp[h3]) (by simp[b59_1,hN.len])
theorem Te [PKI] (w:AB) (hw:wS w):sG 59 [.a (AD (fWo w))]=some ⟨[.v (.sc (.bool (Jm w)))],[],[]⟩:=by
 refine sK p59 ?_;unfold Jm;by_cases h3:w.nodes.length=3
 case neg=>
  have h3': ¬ (w.nodes.length:Int)=3:=by omega
  simp[p59,  h3,h3']
 obtain⟨bad2,hb2,hs2⟩:=lp84_2 w h3 hw
 cases q2:Ac (FD w) 3
 ·obtain⟨g1,g2⟩:=hb2 q2;simp only[q2]at hs2;simp[p59,  h3];rw[hs2]
  ·simp[g1,g2]
  ·simp
  ·simp[h3]
 have hN:=Jl h3 q2;obtain⟨bad1,hb1,hs1⟩:=lp84_1 w hN;simp only[q2]at hs2;rw[<-imp_sym]
 cases q1:Ac (λi=>Ac (G8 w i) 3) 3
 ·obtain⟨g1,g2⟩:=hb1 q1;simp only[q1]at hs1;simp[p59,  h3];rw[hs2]
  ·simp[b59_2,h3];rw[hs1]
   ·simp[g1,g2]
   ·simp
   ·simp[h3]
  ·simp
  ·simp[h3]
 simp only[q1]at hs1;simp[p59,  h3];rw[hs2]
 ·simp[b59_2,h3];rw[hs1]
  ·simp[b59_1,h3]
  ·simp
  ·simp[h3]
 ·simp
 ·simp[h3]
@[simp] def st41_2 (w:AB) (j:Nat):St:={n:=124,m:=0,tm:=[(1,.pb 10000000 0),(31,.im 3 (enc fW w.net)),(32,.sc (I6 w.net.length)),(33,.sc (I6 j))],ob:=[(10000000,Ey w)]}
@[simp] def st41_1 (w:AB) (j:Nat):St:={n:=124,m:=0,tm:=[(1,.pb 10000200 0),(76,.im 2 (enc fR w.log)),(77,.sc (I6 w.log.length)),(78,.sc (I6 j))],ob:=[(10000200,Ey w)]}
@[simp] def st41_0 (w:AB) (j:Nat):St:={n:=124,m:=0,tm:=[(1,.pb 10000400 0),(96,.im 1 (enc fI w.safe)),(97,.sc (I6 w.safe.length)),(98,.sc (I6 j))],ob:=[(10000400,Ey w)]}
theorem lp41_2 [PKI] (w:AB) (hN:Ek w) (hw:wS w): ∃bad,(Ac (Ft w) w.net.length=false->bad.m=0/\Aw bad.tm 2= .sc (.bool false))/\ ∀ (s:St),s.m<=10000000->Aa 10000000 [1,31,32,33] s=st41_2 w 0->A6 G PK md 10000000 [1,31,32,33] b35_2 s=if Ac (Ft w) w.net.length=true then xG b35_2 (st41_2 w w.net.length)else some (.ret,bad):=
 @Bo G PK md 10000000 [1,31,32,33] b35_2 (st41_2 w) (Ft w) (w.net.length) (λs=>s.m=0/\Aw s.tm 2= .sc (.bool false)) (λj hj=>by
  obtain⟨x,y1,hx,hx',hxd,hxm⟩:=AX w.net zW hj;have e1:=DU x.src;have e2:=DU x.dst;have hinc:=Ar hj hw.net;unfold Ft cn nd;rw[hxd]
  cases b1:inB x.src 0 2
  ·rw[b1]at e1;simp[b35_2,  hj,hx',e1]
  rw[b1]at e1
  cases b2:inB x.dst 0 2
  ·rw[b2]at e2;simp[b35_2,  hj,hx',e1,e2]
  rw[b2]at e2;by_cases hsd:x.src=x.dst
  ·simp[b35_2,  hj,hx',e1,e2,eq_true hsd]
  have r1:=AP.1 b1;have r2:=AP.1 b2;obtain⟨i,hi⟩: ∃i:Nat,x.src=(i:Int):=⟨x.src.toNat,by omega⟩;obtain⟨k,hk⟩: ∃k:Nat,x.dst=(k:Int):=⟨x.dst.toNat,by omega⟩;obtain⟨y,y2,hy,hy',hyd,hym⟩:=AX w.nodes zN (j:=i) (by rw[hN.len];omega);have ny:=hN.ok i (by omega);unfold nd at ny;rw[hyd]at ny;obtain⟨c1,z1,_,a1,d1⟩:=Aj y.conn (j:=k) (by rw[ny.conn];omega);have hik: ¬ (i:Int)=k:=by rw[<-hi,<-hk];exact hsd
  rw[hi]at e1;rw[hk]at e2;simp only[hi,hk,Int.toNat_natCast,hyd,d1]
  cases c1
  ·simp[b35_2,  hj,hx',e1,e2,hi,hk,hik,y2,hy',z1,a1]
  by_cases hlen:x.bytes.length<=400
  ·have hl2: ¬ (400:Int)<x.bytes.length:=by omega
   simp[b35_2,  hj,hx',e1,e2,hi,hk,hik,y2,hy',z1,a1,hlen,hl2,hinc]
  ·have hl2:(400:Int)<x.bytes.length:=by omega
   simp[b35_2,  hj,hx',e1,e2,hi,hk,hik,y2,hy',z1,a1,hlen,hl2]) (by simp[b35_2])
theorem lp41_1 [PKI] (w:AB) (hw:wS w): ∃bad,(Ac (Lc w.log) w.log.length=false->bad.m=0/\Aw bad.tm 2= .sc (.bool false))/\ ∀ (s:St),s.m<=10000200->Aa 10000200 [1,76,77,78] s=st41_1 w 0->A6 G PK md 10000200 [1,76,77,78] b35_1 s=if Ac (Lc w.log) w.log.length=true then xG b35_1 (st41_1 w w.log.length)else some (.ret,bad):=
 @Bo G PK md 10000200 [1,76,77,78] b35_1 (st41_1 w) (Lc w.log) (w.log.length) (λs=>s.m=0/\Aw s.tm 2= .sc (.bool false)) (λj hj=>by
  obtain⟨x,y1,hx,hx',hxd,hxm⟩:=AX w.log zR hj;have hinc:=Ar hj hw.log;have e1:=Cd x.cell;have e2:=BF x.up 0 j;unfold Lc;rw[hxd];generalize inB x.cell 0 7=b1 at e1 ⊢
  cases b1
  ·simp[b35_1,  hj,hx',e1]
  generalize inB x.up 0 j=b2 at e2 ⊢
  cases b2
  ·simp[b35_1,  hj,hx',e1,e2]
  simp[b35_1,  hj,hx',e1,e2,hinc]) (by simp[b35_1])
theorem lp41_0 [PKI] (w:AB) (hw:wS w): ∃bad,(Ac (CX 1 w.log.length w.safe) w.safe.length=false->bad.m=0/\Aw bad.tm 2= .sc (.bool false))/\ ∀ (s:St),s.m<=10000400->Aa 10000400 [1,96,97,98] s=st41_0 w 0->A6 G PK md 10000400 [1,96,97,98] b35_0 s=if Ac (CX 1 w.log.length w.safe) w.safe.length=true then xG b35_0 (st41_0 w w.safe.length)else some (.ret,bad):=
 @Bo G PK md 10000400 [1,96,97,98] b35_0 (st41_0 w) (CX 1 w.log.length w.safe) (w.safe.length) (λs=>s.m=0/\Aw s.tm 2= .sc (.bool false)) (λj hj=>by
  obtain⟨x,y1,hx,hx',hxd,hxm⟩:=AX w.safe 0 hj;have e:=BF x 1 w.log.length;have hi:=Ar hj hw.safe;unfold CX;rw[hxd];generalize inB x 1 w.log.length=b1 at e ⊢
  cases b1
  ·simp[b35_0,  hj,hx',e]
  rcases Nat.eq_zero_or_pos j with hz|hz
  ·subst hz;simp at hi;simp[b35_0,  hj,hx',e,hi]
  ·have hz0: ¬j=0:=by omega
   obtain⟨i,hij⟩: ∃i,j=i+1:=⟨j - 1,by omega⟩;obtain⟨x2,y2,hx2,hx2',hxd2,_⟩:=AX w.safe 0 (j:=i) (by omega);have hwr:IntKind.wrap .i64 ((j:Int) - 1)=(i:Int):=by rw[AC (by omega) (by have:=hw.safe;omega)];omega
   have hpos:(0:Int)<j:=by omega
   rw[show j - 1=i by omega,hxd2];by_cases hlt:x2<x
   ·have hge: ¬x<=x2:=by omega
    simp[b35_0,  hj,hz0,hz,hx',e,hi,hwr,hpos,y2,hx2',hlt,hge]
   ·have hge:x<=x2:=by omega
    simp[b35_0,  hj,hz0,hz,hx',e,hi,hwr,hpos,y2,hx2',hlt,hge]) (by simp[b35_0])
theorem JX (w:AB):Ap w=(Jm w&&decide (w.net.length<=40)&&decide (w.log.length<=200)&&inB w.gen 2 100000&&Ac (Ft w) w.net.length&&Ac (Lc w.log) w.log.length&&Ac (CX 1 w.log.length w.safe) w.safe.length):=by
 unfold Ap Jm Kk
 cases decide (w.nodes.length=3)<;>cases decide (w.net.length<=40)<;>cases decide (w.log.length<=200)<;>cases inB w.gen 2 100000<;>cases Ac (FD w) 3<;>cases Ac (λi=>Ac (F8 w i) 3) 3<;>simp[Bool.and_comm,Bool.and_left_comm,Bool.and_assoc]
theorem Pu {w:AB} (h:Jm w=true):Ek w:=by
 unfold Jm at h;simp only[Bool.and_eq_true,decide_eq_true_iff]at h;exact Jl h.1.1 h.1.2
theorem E7 [PKI] (w:AB) (hw:wS w):sG 35 [.a (AD (fWo w))]=some ⟨[.v (.sc (.bool (Ap w)))],[],[]⟩:=by
 refine sK p35 ?_;have e0:=Te w hw;have e1:=BF w.gen 2 100000;simp only[AD,lent,fWo]at e0;rw[JX]
 cases hn:Jm w
 ·rw[hn]at e0;simp[p35,  e0]
 rw[hn]at e0;have hN:=Pu hn;by_cases hnet:w.net.length<=40
 case neg=>
  have hnet':(40:Int)<w.net.length:=by omega
  simp[p35,  e0,hnet,hnet']
 have hnet': ¬ (40:Int)<w.net.length:=by omega
 by_cases hlog:w.log.length<=200
 case neg=>
  have hlog':(200:Int)<w.log.length:=by omega
  simp[p35,  e0,hnet,hnet',hlog,hlog']
 have hlog': ¬ (200:Int)<w.log.length:=by omega
 generalize inB w.gen 2 100000=b0 at e1 ⊢
 cases b0
 ·simp[p35,  e0,hnet,hnet',hlog,hlog',e1]
 obtain⟨bad2,hb2,hs2⟩:=lp41_2 w hN hw;obtain⟨bad1,hb1,hs1⟩:=lp41_1 w hw;obtain⟨bad0,hb0,hs0⟩:=lp41_0 w hw
 cases q2:Ac (Ft w) w.net.length
 ·obtain⟨g1,g2⟩:=hb2 q2;simp only[q2]at hs2;simp[p35,  e0,hnet,hnet',hlog,hlog',e1];rw[hs2]
  ·simp[g1,g2]
  ·simp
  ·simp
 simp only[q2]at hs2
 cases q1:Ac (Lc w.log) w.log.length
 ·obtain⟨g1,g2⟩:=hb1 q1;simp only[q1]at hs1;simp[p35,  e0,hnet,hnet',hlog,hlog',e1];rw[hs2]
  ·simp[b35_2];rw[hs1]
   ·simp[g1,g2]
   ·simp
   ·simp
  ·simp
  ·simp
 simp only[q1]at hs1
 cases q0:Ac (CX 1 w.log.length w.safe) w.safe.length
 ·obtain⟨g1,g2⟩:=hb0 q0;simp only[q0]at hs0;simp[p35,  e0,hnet,hnet',hlog,hlog',e1];rw[hs2]
  ·simp[b35_2];rw[hs1]
   ·simp[b35_1];rw[hs0]
    ·simp[g1,g2]
    ·simp
    ·simp
   ·simp
   ·simp
  ·simp
  ·simp
 simp only[q0]at hs0;simp[p35,  e0,hnet,hnet',hlog,hlog',e1];rw[hs2]
 ·simp[b35_2];rw[hs1]
  ·simp[b35_1];rw[hs0]
   ·simp[b35_0]
   ·simp
   ·simp
  ·simp
  ·simp
 ·simp
 ·simp
theorem F7 {w:AB} (h:Ap w=true):Ek w:=by
 rw[JX]at h;simp only[Bool.and_eq_true]at h;exact Pu h.1.1.1.1.1.1
theorem mk_asc {l:LI} (h:Dg l=true): ∀j,j<l.length->(j:Int)<=l.getD j 0:=by
 intro j
 induction j with
 |zero=>
  intro hj;have:=Am h hj;unfold mkP at this;rw[Bool.and_eq_true]at this;exact(AP.1 this.1).1
 |succ j ih=>
  intro hj;have h1:=ih (by omega);have:=Am h hj;unfold mkP at this;rw[Bool.and_eq_true]at this;have h2:=this.2;simp at h2;rw[List.getD_eq_getElem?_getD,List.getD_eq_getElem?_getD]at*;omega
theorem Ec {l:LI} (h:Dg l=true):l.length<=8:=by
 rcases Nat.lt_or_ge 8 l.length with h1|h1
 ·exfalso;have h2:=mk_asc h 8 h1;have:=Am h h1;unfold mkP at this;rw[Bool.and_eq_true]at this;have:=(AP.1 this.1).2;omega
 ·exact h1
theorem Nl {n:Int} (h0:0<=n) (h1:n<=127):(Ae n).length=1:=by
 obtain⟨k,hk,hp,_,he⟩:=Lf h0 (by omega);rcases Nat.eq_zero_or_pos k with rfl|hk0
 ·unfold Ae;simp[he]
 ·have:127<n:=hp 0 hk0;omega
theorem WO {n:Int} (h0:0<=n) (h1:n<=100000):(Ae n).length<=3:=by
 obtain⟨k,hk,hp,_,he⟩:=Lf h0 (by omega);rcases Nat.lt_or_ge k 3 with h|h
 ·unfold Ae;simp[he];omega
 ·exfalso;have h2:127<(n.tdiv 128).tdiv 128:=hp 2 (by omega);have e1:n.tdiv 128=n / 128:=Int.tdiv_eq_ediv_of_nonneg h0;rw[e1,Int.tdiv_eq_ediv_of_nonneg (by omega)]at h2;omega
theorem pns_1: ∀ (l:LI),(∀x∈l,0<=x/\x<=127)->(pns l).length=l.length
 |[],_=>rfl
 |x::l,h=>by
  have h1:=h x List.mem_cons_self;have h2:=pns_1 l λy hy=>h y (List.mem_cons_of_mem _ hy)
  have h3:=Nl h1.1 h1.2;unfold pns at h2 ⊢;simp only[List.map_cons,List.flatten_cons,List.length_append,List.length_cons];omega
theorem pns_3: ∀ (l:LI),(∀x∈l,0<=x/\x<=100000)->(pns l).length<=3*l.length
 |[],_=>Nat.le_refl _
 |x::l,h=>by
  have h1:=h x List.mem_cons_self;have h2:=pns_3 l λy hy=>h y (List.mem_cons_of_mem _ hy)
  have h3:=WO h1.1 h1.2;unfold pns at h2 ⊢;simp only[List.map_cons,List.flatten_cons,List.length_append,List.length_cons];omega
theorem Wg {l:LI} (h:Dg l=true): ∀x∈l,0<=x/\x<=127:=λx hx=>by
 obtain⟨j,hj⟩:=List.getElem?_of_mem hx;have:=Am h (List.getElem?_eq_some_iff.1 hj).1;unfold mkP at this;rw[Bool.and_eq_true,BP hj]at this;have:=AP.1 this.1;omega
theorem gn_bd {l:LI} (h:Dj l=true): ∀x∈l,1<=x/\x<=100000:=λx hx=>by
 obtain⟨j,hj⟩:=List.getElem?_of_mem hx;unfold Dj at h;rw[Bool.and_eq_true]at h;have:=Am h.1 (List.getElem?_eq_some_iff.1 hj).1;unfold gnP at this;rw[Bool.and_eq_true,BP hj]at this;exact AP.1 this.1
theorem pl_mk {l:LI} (h:Dg l=true):(pl l).length<=9:=by
 have h1:=Ec h;have h2:=pns_1 l (Wg h);have h3:=Nl (n:=(l.length:Int)) (by omega) (by omega);unfold pl;rw[List.length_append];omega
theorem WS: ∀ {ll:List LI},(∀l∈ll,Dg l=true)->(pls ll).length<=9*ll.length
 |[],_=>Nat.le_refl _
 |l::ll,h=>by
  have h1:=pl_mk (h l List.mem_cons_self);have h2:=WS (ll:=ll) λy hy=>h y (List.mem_cons_of_mem _ hy)
  unfold pls at h2 ⊢;simp only[List.map_cons,List.flatten_cons,List.length_append,List.length_cons];omega
theorem GF (m:Ay):(Az m).length<=151:=by
 unfold Az
 cases h:BU m
 ·simp
 ·have hk:=Lm h;unfold BU at h;simp only[Bool.and_eq_true]at h;have hg:=h.1.1.1.1;have hb:=h.1.1.2.2;have g1:=pns_3 m.gens λx hx=>by have:=gn_bd hg x hx;omega
  have g2:=Nl (n:=(m.gens.length:Int)) (by omega) (by have:=hk.glen;omega);have b1:=WS (ll:=m.bits) λl hl=>by
   unfold ER at hb;obtain⟨j,hj⟩:=List.getElem?_of_mem hl;have:=Am hb (List.getElem?_eq_some_iff.1 hj).1;simpa only[BP hj]using this
  have f1:=Tb m;have f2:=A5 (n:=flg m) (by omega) (by omega);have l2:=A5 hk.last0 hk.last1;have:=hk.glen;have:=hk.blen;simp only[if_true];unfold Hv pl;simp only[List.length_append];omega
theorem SM (n:Int):(ET n).length=4:=rfl
theorem U4 {x:LI} (h:x.length<=151) (n:Int):(Em x n).length=160:=by
 unfold Em Cz;simp only[List.length_append,List.length_replicate,List.length_cons,List.length_nil,SM];omega
theorem Je (s:BG):0<=(Af s).2.1/\(Af s).2.1<=1000000:=by
 have key: ∀b:LI,0<=(Au b).2.1/\(Au b).2.1<=1000000:=λb=>by
  unfold Au;split
  ·rename_i h;have:=AP.1 h.2.1;exact⟨by show 0<=slN b;omega,this.2⟩
  ·exact⟨by decide,by decide⟩
 unfold Af;split
 ·exact key s.b
 ·exact key s.a
theorem P5 (s:BG):isA s=decide (I5 s=0):=by
 unfold isA I5
 cases Nn s<;>cases (Au s.a).2.2<;>simp
def G4 (s:BG) (m:Ay):LI:=Em (Az m) ((Af s).2.1+1)
def Jr (s:BG) (m:Ay):Bool:=BU m&& !decide ((Af s).2.1=1000000)
def Br (s:BG) (m:Ay):BG:=if Jr s m then(if isA s then⟨s.a,G4 s m⟩else⟨G4 s m,s.b⟩)else s
def EU (was now:LI) (k:Nat):LI:=now.take k++was.drop k
def I2 (s:BG) (m:Ay) (k:Nat):BG:=if Jr s m then(if isA s then⟨s.a,EU s.b (G4 s m) k⟩else⟨EU s.a (G4 s m) k,s.b⟩)else s
theorem En (s:BG) (m:Ay):(G4 s m).length=160:=U4 (GF m) _
theorem UR (s:BG) (m:Ay):by8 (G4 s m):=Na (DO m) _
theorem CZ {s:BG} (h:slS s) (m:Ay):slS (Br s m):=by
 have hn:byt (G4 s m):=⟨by rw[En];omega,UR s m⟩;unfold Br;split
 ·split
  ·exact⟨h.1,hn⟩
  ·exact⟨hn,h.2⟩
 ·exact h
theorem L4 [PKI] (s:BG) (ha:s.a.length<=1048576) (hb:s.b.length<=1048576):sG 142 [.a (AD (fSl s))]=some ⟨[.a (AA (fSl s))],[],[]⟩:=by
 refine sK p142 ?_;have g1:s.a.length<=35184372088832:=by omega
 have g2:s.b.length<=35184372088832:=by omega
 simp[p142,  g1,g2]
theorem LF [PKI] (hCU: ∀l:LI,l.length<=1048576->sG 58 [.v (.im 1 (enc fU l))]=some ⟨[.v (.own 1 (enc fU l))],[],[]⟩) (s:BG) (ha:s.a.length<=1048576) (hb:s.b.length<=1048576):sG 96 [.a (AD (fSl s))]=some ⟨[.a (AA (fSl s))],[],[]⟩:=by
 refine sK p96 ?_;have e1:=hCU s.a ha;have e2:=hCU s.b hb;simp[p96,  e1,e2]
theorem ev_Grow [PKI] (n:Nat) (hn:n<=1048576):sG 208 [.v (.nil 1),.v (.sc (I6 n))]=some ⟨[.v (.own 1 [])],[],[]⟩:=by
 refine sK p208 ?_;have h0: ¬ (n:Int)<0:=by omega
 have hw0:IntKind.wrap .i64 0=0:=rfl;have hw:IntKind.wrap .i64 (n:Int)=n:=AC (by omega) (by omega);rcases Nat.eq_zero_or_pos n with rfl|hp
 ·simp[p208,  hw0]
 ·have g1:n<=35184372088832:=by omega
  have hp2:(0:Int)<n:=by omega
  simp[p208,  h0,hw0,hw,hp,hp2,g1]
@[simp] def st117_1 (ll:List LI) (v j:Nat):St:={n:=36,m:=0,tm:=[(0,.im 1 (enc fUU ll)),(3,.sc (I6 v)),(9,.im 1 (enc fUU ll)),(10,.sc (I6 ll.length)),(11,.sc (I6 j))],ob:=[]}
@[simp] def st117_0 (ll:List LI) (out:LI) (j:Nat):St:={n:=36,m:=0,tm:=[(6,.ref 10000200 []),(25,.im 1 (enc fUU ll)),(26,.sc (I6 ll.length)),(27,.sc (I6 j))],ob:=[(10000200,.arr 1 (enc fU out))]}
theorem OC: ∀ll:List LI,ll.flatten.length=Df (ll.map List.length)
 |[]=>rfl
 |l::ll=>by simp only[List.flatten_cons,List.length_append,List.map_cons,Df,OC ll]
theorem Vj [PKI] (ll:List LI) (hl:ll.length<=1048576) (hs:Df (ll.map List.length)<=1048576):sG 168 [.v (.im 1 (enc fUU ll))]=some ⟨[.v (.own 1 (enc fU ll.flatten))],[],[]⟩:=by
 refine sK p168 ?_;have hs1:= @lok _ 10000000 [0,3,9,10,11] b168_1 (λj=>st117_1 ll (Df ((ll.map List.length).take j)) j) (ll.length) (λj hj=>by
  obtain⟨x,y1,hx,hx',_,hxm⟩:=Ah ll hj;have hinc:=Ar hj hl;have hst:=IY (ll.map List.length) (j:=j) (x:=x.length) (by simp[hx]);have hle:=M9 (ll.map List.length) (j+1);simp only[hst];generalize Df ((ll.map List.length).take j)=v at hst ⊢;have hw:IntKind.wrap .i64 ((v:Int)+x.length)=((v+x.length:Nat):Int):=by rw[AC (by omega) (by omega)];rfl
  obtain⟨q,hq⟩: ∃q,q=v+x.length:=⟨_,rfl⟩;rw[<-hq]at hw ⊢;have hn: ¬ (q:Int)<0:=by omega
  simp[b168_1,  hj,hx',hinc,hw,hn]) (by simp[b168_1])
 have hs0:= @lok _ 10000200 [6,25,26,27] b168_0 (λj=>st117_0 ll ((ll.take j).flatten) j) (ll.length) (λj hj=>by
  obtain⟨x,y1,hx,hx',_,hxm⟩:=Ah ll hj;have hinc:=Ar hj hl;have hst:=IY (ll.map List.length) (j:=j) (x:=x.length) (by simp[hx]);have hle:=M9 (ll.map List.length) (j+1);have hfl:(ll.take j).flatten.length=Df ((ll.map List.length).take j):=by rw[OC,List.map_take]
  have hsuc:(ll.take (j+1)).flatten=(ll.take j).flatten++x:=by rw[List.take_add_one,hx];simp
  simp only[hsuc];generalize (ll.take j).flatten=out at hfl ⊢;have g1:out.length+x.length<=35184372088832:=by omega
  simp[b168_0,  hj,hx',hinc,g1,AU]) (by simp[b168_0])
 have hfull:Df ((ll.map List.length).take ll.length)=Df (ll.map List.length):=by rw[List.take_of_length_le (by simp)]
 have e:=ev_Grow (Df (ll.map List.length)) hs;simp only[hfull]at hs1;generalize Df (ll.map List.length)=N at e hs1;simp[p168];rw[hs1]
 ·simp[b168_1,  e];rw[hs0]
  ·simp[b168_0]
  ·simp
  ·simp
 ·simp
 ·simp[Df]
end Go.Proofs.YtghgecpicnfgpaaGreat.Ow
