/- Functions evaluated on the small machine: What is told safe; what is sent: what the program makes of a world, Writing and copying: what the program makes of a world, Writing: what the program makes of a world, Roles: what the program makes of a world. -/
import Derived.Test.YtghgecpicnfgpaaGreatEv26
import Derived.Test.YtghgecpicnfgpaaGreatEv27
import Derived.Test.YtghgecpicnfgpaaGreatEv23
import Derived.Test.YtghgecpicnfgpaaGreatEv18
import Derived.Test.YtghgecpicnfgpaaGreatEv17
namespace Go.Proofs.YtghgecpicnfgpaaGreat.Ow
open Go
set_option linter.unusedVariables false
set_option linter.unusedSimpArgs false
set_option maxHeartbeats 16000000
set_option maxRecDepth 100000
@[simp] def tkW (N:List (List T)) (w:AB):List L:=[.al 99 16 N,.own 3 (enc fW w.net),.own 2 (enc fR w.log),.own 1 (enc fI w.safe),.sc (I6 w.gen)]
@[simp] def obT (N:List (List T)) (w:AB) (s:LI) (sh o:Nat):List (Nat×Obj):=
 if sh=0 then [(0,.box [.al 99 16 N,.ref 1 [],.ref 2 [],.ref 3 [],.sc (I6 w.gen)]),(1,.arr 3 (enc fW w.net)),(2,.arr 2 (enc fR w.log)),(3,.arr 1 (enc fI s))]
 else [(0,.box [.al 99 16 N,.ref 1 [],.ref 2 [],.ref o [],.sc (I6 w.gen)]),(1,.arr 3 (enc fW w.net)),(2,.arr 2 (enc fR w.log)),(3,.arr 1 (enc fI w.safe)),(o,.arr 1 (enc fI s))]
@[simp] def st148 (N:List (List T)) (w:AB) (l s:LI) (j:Nat):St:={n:=22,m:=4,tm:=[(0,.pb 0 0),(6,.im 1 (enc fI l)),(7,.sc (I6 l.length)),(8,.sc (I6 j))],ob:=obT N w s (if j=0 then 0 else 1) 10000000}
theorem TX (s:LI) (x:Int):VQ s x=DX s x:=rfl
theorem NK [PKI] (hK:Cm PK) (N:List (List T)) (w:AB) (l:LI) (hl:l.length<=1000) (hs:w.safe.length<=1000000):sG 148 [.pm (tkW N w),.v (.im 1 (enc fI l))]=some ⟨[],[],[tkW N {w with safe:=De w.safe l}]⟩:=by
 refine sK p148 ?_;have hf:l.take l.length=l:=List.take_length;have hlp:= @lok _ 10000000 [0,6,7,8] b148_0 (λj=>st148 N w l (De w.safe (l.take j)) j) l.length (λj hj=>by
  obtain⟨x,hx⟩:=AF hj;obtain⟨_,hx'⟩:=BT hx;have hinc:=Ar hj (by omega);have hbd:=GQ (l.take j) w.safe;have htl:(l.take j).length<=l.length:=by rw[List.length_take];omega
  have hnx:De w.safe (l.take (j+1))=DX (De w.safe (l.take j)) x:=Bi DX w.safe l hx;have hs0:j=0->De w.safe (l.take j)=w.safe:=λh=>by subst h;simp[De]
  simp only[hnx];generalize De w.safe (l.take j)=s at hbd hs0 ⊢;have e:=ID hK s x (by omega);rw[TX]at e;by_cases h0:j=0
  ·subst h0;have hs0:=hs0 rfl;subst hs0;simp at hx' hinc;simp[b148_0,  hj,hx',hinc,e]
  ·simp[b148_0,  hj,hx',hinc,h0,e]) (by
  by_cases h0:l.length=0<;>simp[b148_0,h0])
 simp only[hf]at hlp;simp[p148];rw[hlp]
 ·by_cases h0:l.length=0
  ·simp[b148_0,h0]
  ·simp[b148_0,h0]
 ·simp
 ·simp[De]
@[simp] def obQ (N:List (List T)) (w v:AB) (sh o:Nat):List (Nat×Obj):=
 if sh=0 then [(0,.box [.al 99 16 N,.ref 1 [],.ref 2 [],.ref 3 [],.sc (I6 w.gen)]),(1,.arr 3 (enc fW v.net)),(2,.arr 2 (enc fR w.log)),(3,.arr 1 (enc fI w.safe))]
 else [(0,.box [.al 99 16 N,.ref o [],.ref 2 [],.ref 3 [],.sc (I6 w.gen)]),(2,.arr 2 (enc fR w.log)),(3,.arr 1 (enc fI w.safe)),(o,.arr 3 (enc fW v.net))]
@[simp] def st146 (w v:AB) (l:List Bz) (sh j:Nat):St:={n:=62,m:=4,tm:=[(0,.pb 0 0),(6,.im 7 (enc fP l)),(7,.sc (I6 l.length)),(8,.sc (I6 j))],ob:=obQ (enc fN w.nodes) w v sh 10000000}
def sdQ (s:AB×Nat) (p:Bz):AB×Nat:=(FU s.1 p,if EM s.1 p.src p.dst then 1 else s.2)
theorem NC {l:List Bz} (hp: ∀p∈l,GU p): ∀s:AB×Nat,WL s.1->s.1.net.length+l.length<=40->s.2<2->WL (l.foldl sdQ s).1/\(l.foldl sdQ s).1.net.length<=s.1.net.length+l.length/\(l.foldl sdQ s).1=DA s.1 l/\(l.foldl sdQ s).2<2/\(l.foldl sdQ s).1.nodes=s.1.nodes/\(l.foldl sdQ s).1.log=s.1.log/\(l.foldl sdQ s).1.safe=s.1.safe/\(l.foldl sdQ s).1.gen=s.1.gen/\((l.foldl sdQ s).2=0->s.2=0/\(l.foldl sdQ s).1.net=s.1.net):=by
 induction l with
 |nil=>intro s h1 h2 h3;exact⟨h1,by simp,rfl,h3,rfl,rfl,rfl,rfl,λh=>⟨h,rfl⟩⟩
 |cons p l ih=>
  intro s h1 h2 h3;simp only[List.length_cons]at h2;have hpp:=hp p List.mem_cons_self;have hw:=(Nc h1 hpp).1;have key:(sdQ s p).1.net.length<=s.1.net.length+1/\(sdQ s p).1.nodes=s.1.nodes/\(sdQ s p).1.log=s.1.log/\(sdQ s p).1.safe=s.1.safe/\(sdQ s p).1.gen=s.1.gen/\(sdQ s p).2<2/\((sdQ s p).2=0->s.2=0/\(sdQ s p).1.net=s.1.net):=by
   unfold sdQ FU;simp only;split
   ·rw[if_neg (by omega)];exact⟨by simp,rfl,rfl,rfl,rfl,by omega,λh=>by omega⟩
   ·exact⟨by omega,rfl,rfl,rfl,rfl,h3,λh=>⟨h,rfl⟩⟩
  obtain⟨k1,k2,k3,k4,k5,k6,k7⟩:=key;obtain⟨i1,i2,i3,i4,i5,i6,i7,i8,i9⟩:=ih (λq hq=>hp q (List.mem_cons_of_mem _ hq)) (sdQ s p) hw (by omega) k6;rw[List.foldl_cons];exact⟨i1,by simp only[List.length_cons];omega,i3,i4,i5.trans k2,i6.trans k3,i7.trans k4,i8.trans k5,λh=>⟨(k7 (i9 h).1).1,(i9 h).2.trans (k7 (i9 h).1).2⟩⟩
theorem ev_send [PKI] (w:AB) (l:List Bz) (hw:WL w) (hl:w.net.length+l.length<=40) (hp: ∀p∈l,GU p):sG 146 [.pm (tkW (enc fN w.nodes) w),.v (.im 7 (enc fP l))]=some ⟨[],[],[tkW (enc fN w.nodes) (DA w l)]⟩:=by
 refine sK p146 ?_;have hf:l.take l.length=l:=List.take_length;have hlp:= @lok _ 10000000 [0,6,7,8] b146_0 (λj=>st146 w ((l.take j).foldl sdQ (w,0)).1 l ((l.take j).foldl sdQ (w,0)).2 j) l.length (λj hj=>by
  obtain⟨p,hx⟩:=AF hj;obtain⟨_,hx'⟩:=BT hx;have hpm:=hp p (List.mem_of_getElem? hx);have hinc:=Ar hj (by omega);have htl:(l.take j).length=j:=by rw[List.length_take];omega
  obtain⟨i1,i2,_,i4,i5,i6,i7,i8,i9⟩:=NC (l:=l.take j) (λq hq=>hp q (List.mem_of_mem_take hq)) (w,0) hw (by simp only;omega) (by simp);simp only[Bi sdQ _ l hx];generalize (l.take j).foldl sdQ (w,0)=s at*;obtain⟨v,sh⟩:=s;simp only at i1 i2 i4 i5 i6 i7 i8 i9;obtain⟨ps,pd,pm⟩:=p;obtain⟨i,k,hi,hk,hik,hs1,hs2,hg⟩:=hpm;simp only at hs1 hs2 hg;subst hs1;subst hs2;unfold sdQ FU EM;simp only[Int.toNat_natCast];have hn3:=i1.n3;obtain⟨x,y1,hxi,hxi',hxd,hxm⟩:=AX v.nodes zN (j:=i) (by omega);have hxn:nd v i=x:=hxd;obtain⟨x1,x2,x3⟩:=i1.c3 x hxm;obtain⟨c,q1,_,c1',hcd⟩:=Aj x.conn (j:=k) (by omega);rw[hxn,hcd];have e1:=Q7 i k pm (by omega);simp only[AD,lent,fMs]at e1;simp only[i5]at y1 hxi';have hnl: ¬ 40<=v.net.length:=by omega
  have hnl': ¬ (40:Int)<=v.net.length:=by omega
  have g1:(v.net.length+1)*40<=35184372088832:=by omega
  cases c
  ·rcases(by omega:sh=0\/sh=1)with rfl|rfl<;>simp[b146_0,  hj,hx',y1,hxi',q1,c1',hinc]
  ·rcases(by omega:sh=0\/sh=1)with rfl|rfl<;>simp[b146_0,  hj,hx',y1,hxi',q1,c1',hinc,hnl,hnl',e1,g1]<;>simp[enc]) (by
  obtain⟨_,_,_,i4,_⟩:=NC (l:=l.take l.length) (λq hq=>hp q (List.mem_of_mem_take hq)) (w,0) hw (by simp only[hf];omega) (by simp);generalize (l.take l.length).foldl sdQ (w,0)=s at*;obtain⟨v,sh⟩:=s;simp only at i4;rcases(by omega:sh=0\/sh=1)with rfl|rfl<;>simp[b146_0])
 simp only[hf]at hlp;obtain⟨i1,i2,i3,i4,i5,i6,i7,i8,i9⟩:=NC hp (w,0) hw (by simp only;omega) (by simp);simp only at i3 i5 i6 i7 i8 i9;rw[<-i3];simp[p146];rw[hlp]
 ·generalize l.foldl sdQ (w,0)=s at*;obtain⟨v,sh⟩:=s;simp only at i4 i6 i7 i8;rcases(by omega:sh=0\/sh=1)with rfl|rfl<;>simp[b146_0,i6,i7,i8]
 ·simp
 ·simp
theorem Ky [PKI] (w:AB) (l:List Bz) (hw:WL w) (hl:w.net.length+l.length<=40) (hp: ∀p∈l,GU p): ∃net,DA w l={w with net:=net}/\sG 146 [.pm (tkW (enc fN w.nodes) w),.v (.im 7 (enc fP l))]=some ⟨[],[],[tkW (enc fN w.nodes) {w with net:=net}]⟩:=by
 have h:=ev_send w l hw hl hp;obtain⟨i1,i2,i3,i4,i5,i6,i7,i8,i9⟩:=NC hp (w,0) hw (by simp only;omega) (by simp);simp only at i3 i5 i6 i7 i8 i9;rw[i3]at i5 i6 i7 i8;have hu:DA w l={w with net:=(DA w l).net}:=by
  generalize DA w l=u at*;obtain⟨n,t,g,s,e⟩:=u;simp only at i5 i6 i7 i8 ⊢;rw[i5,i6,i7,i8]
 refine⟨(DA w l).net,hu,?_⟩;rw[h,<-hu]
theorem TA (w:AB) (s:LI) (p:Bz):FU {w with safe:=s} p={FU w p with safe:=s}:=by
 unfold FU;rw[show EM {w with safe:=s} p.src p.dst=EM w p.src p.dst from rfl];split
 ·simp only;split
  ·rfl
  ·rfl
 ·rfl
theorem Jf (l:List Bz): ∀ (w:AB) (s:LI),DA {w with safe:=s} l={DA w l with safe:=s}:=by
 induction l with
 |nil=>intro w s;rfl
 |cons p l ih=>
  intro w s;have h1:DA {w with safe:=s} (p::l)=DA (FU {w with safe:=s} p) l:=rfl;rw[h1,TA,ih];rfl
theorem Tt [PKI] (hK:Cm PK) (w:AB) (a b:Nat) (ha:a<3) (hb:b<3) (hw:WI w) (hn40:w.net.length<=40):sG 109 [.pm (AA (fWo w)),.v (.sc (I6 a)),.v (.sc (I6 b))]=some ⟨[.v (.sc (I6 (EP w a b).2))],[],[AA (fWo (EP w a b).1)]⟩:=by
 refine sK p109 ?_;have hn3:=hw.n3;obtain⟨x,y1,_,hx',hxd,hxm⟩:=AX w.nodes zN (j:=a) (by omega);have hxa:nd w a=x:=hxd;have hc:=hw.node x hxm;have hid:x.id=a:=by rw[<-hxa];exact hw.id a ha
 obtain⟨c,q1,_,c1',hcd⟩:=Aj x.copies (j:=b) (by have:=hc.b.copies;omega);have e1:=RG hK x b hc.b;unfold EP;rw[hxa,hcd]
 cases c
 ·simp (maxSteps:=9999999) [p109,  y1,hx',q1,c1']
 by_cases hnl:40<=w.net.length
 ·have hnl':(w.net.length:Int)=40:=by omega
  simp (maxSteps:=9999999) [p109,  y1,hx',q1,c1',hnl,eq_true hnl']
 have hnl': ¬ (w.net.length:Int)=40:=by omega
 have hr:=Ot (to:=(b:Int)) hc;have hps:=IL (n:=x) hid ha hb (by have:=hc.gens;omega);have hpl:=QO (n:=x) (to:=(b:Int));simp only[AD,lent,fN,AA,AJ]at e1;generalize Ep x b=r at*;obtain⟨q,ps⟩:=r;simp only at hr hps hpl e1 ⊢;obtain⟨net,hnet,e4⟩:=Ky {w with nodes:=w.nodes.set a q} ps ⟨by simp only[List.length_set];exact hn3,λy hy=>by
    rcases List.mem_or_eq_of_mem_set hy with hy|rfl
    ·exact hw.L.c3 y hy
    ·exact⟨hr.1.conn,hr.1.copies,hr.1.sync⟩,by have:=hw.net;simp only;omega⟩ (by simp only;omega) hps
 rw[if_neg (by simp),if_neg hnl,hnet];simp only[tkW]at e4;simp (maxSteps:=9999999) [p109,  y1,hx',q1,c1',hnl',e1,e4]
theorem Vz {n:AE} {m:A2} {i:Nat} (hi:i<3):(tos n i m).length<=2:=by
 have h0:to1 n i m i=[]:=by unfold to1;rw[if_neg (λh=>h.2 rfl)]
 have h1: ∀k,(to1 n i m k).length<=1:=λk=>by unfold to1;split<;>simp
 have a0:=h1 0;have a1:=h1 1;have a2:=h1 2;unfold tos;simp only[List.range_succ,List.range_zero,List.nil_append,List.flatMap_append,List.flatMap_cons,List.flatMap_nil,List.append_nil,List.length_append];rcases(by omega:i=0\/i=1\/i=2)with rfl|rfl|rfl<;>rw[h0]<;>simp only[List.length_nil]<;>omega
theorem MN {n:AE} {cell val:Int} {i:Nat} (hid:n.id=i) (hi:i<3):(Bd n cell val).2.length<=2:=by
 unfold Bd;split
 ·simp only;rw[hid];exact Vz hi
 ·simp
theorem XM [PKI] (hK:Cm PK) (w:AB) (a:Nat) (cell:Int) (ha:a<3) (hw:WI w) (hlg:w.log.length<=200):sG 101 [.pm (AA (fWo w)),.v (.sc (I6 a)),.v (.sc (I6 cell))]=some ⟨[.v (.sc (I6 (FT w a cell).2))],[],[AA (fWo (FT w a cell).1)]⟩:=by
 refine sK p101 ?_;have hn3:=hw.n3;obtain⟨x,y1,hx1,hx',hxd,hxm⟩:=AX w.nodes zN (j:=a) (by omega);have hxa:nd w a=x:=hxd;have hcx:=hw.node x hxm;have e1:=L9 x hcx.b.nS;simp only[AD,lent,fN]at e1;unfold FT JU;rw[hxa]
 cases hmw:Dh x
 ·rw[hmw]at e1;simp[p101,  y1,hx',e1]
 rw[hmw]at e1;obtain⟨nx,hpr⟩:=Hu hmw;by_cases hlog:200<=w.log.length
 ·have hlog':(w.log.length:Int)=200:=by omega
  simp[p101,  y1,hx',e1,hlog,eq_true hlog']
 have hlog': ¬ (w.log.length:Int)=200:=by omega
 have hnet:=hw.net;have wn:IntKind.wrap .i64 ((w.net.length:Int)+2)=(w.net.length:Int)+2:=AC (by omega) (by omega);obtain⟨k,k2,hk⟩:=Kh nx hpr;have hida:=hw.id a ha;rw[hxa]at hida;rw[hida]at hk;have e6:=CO a;rw[hk]at e6;have hc2:=hcx.b.conn;obtain⟨c2,q2,_,c2',c2d⟩:=Aj x.conn (j:=2) (by omega);rw[c2d];by_cases hcut:38<w.net.length/\c2=true
 ·obtain⟨hbig,rfl⟩:=hcut;have hbig':(40:Int)<(w.net.length:Int)+2:=by omega
  have hg:(decide (38<w.net.length)&&true)=true:=by simp[hbig]
  rw[hg];simp only[if_true];have ha2:a≠2:=by
   have:=nx.prime hpr;intro h;subst h;exact this.2 hida
  have e3:=RL w a 2 hn3 ha (by omega) ha2 (by omega) hw.L.c3;have hWI:=LL hw ha (show 2<3 by omega) ha2;have hx1c:=Nu (w:=w) hn3 ha ha2;rw[hxa]at hx1c;have hlog1:(CQ w a 2).log=w.log:=rfl;have hsafe1:(CQ w a 2).safe=w.safe:=rfl;simp only[AA,AJ,fWo]at e3;rw[show ((2:Nat):Int)=2 from rfl]at e3;generalize CQ w a 2=v1 at*;obtain⟨x1,z1,hz1,hz',hzd,hzm⟩:=AX v1.nodes zN (j:=a) (by have:=hWI.n3;omega);have hxv:nd v1 a=x1:=hzd;have hnet1:=hWI.net;have wn1:IntKind.wrap .i64 ((v1.net.length:Int)+2)=(v1.net.length:Int)+2:=AC (by omega) (by omega);by_cases hfull:38<v1.net.length
  ·have hfull':(40:Int)<(v1.net.length:Int)+2:=by omega
   simp (maxSteps:=9999999) [p101,  y1,hx',e1,e3,hlog,hlog',wn,wn1,hbig,hbig',hfull,hfull',q2,c2']
  have hfull': ¬ (40:Int)<(v1.net.length:Int)+2:=by omega
  have g1:(v1.log.length+1)*16<=35184372088832:=by have:=hWI.log;omega
  have hcx1:=hWI.node x1 hzm;have hid1:x1.id=a:=by rw[<-hxv];exact hWI.id a ha
  have e2:=JL hK x1 cell (v1.log.length+1:Nat) hcx1.b hcx1.bit hcx1.wait;have hr:=GN (cell:=cell) (val:=(v1.log.length+1:Nat)) hcx1;have hps:=EA (cell:=cell) (val:=(v1.log.length+1:Nat)) (i:=a) hid1 ha;have hpl:=MN (n:=x1) (cell:=cell) (val:=(v1.log.length+1:Nat)) hid1 ha;unfold JV;rw[hxv];simp only[AD,lent,fN,AA,AJ]at e2;generalize Bd x1 cell (v1.log.length+1:Nat)=r at*;obtain⟨q,ps⟩:=r;simp only at e2 hr hps hpl ⊢;have hqc:=hr.1.conn;obtain⟨c3,q3,_,c3',c3d⟩:=Aj q.conn (j:=k) (by omega);rw[hk];simp only[Int.toNat_natCast,c3d];obtain⟨len,hlen⟩: ∃len,len=v1.log.length+1:=⟨_,rfl⟩;rw[<-hlen]at e2 ⊢;have wl:IntKind.wrap .i64 ((v1.log.length:Int)+1)=(len:Int):=by rw[AC (by have:=hWI.log;omega) (by have:=hWI.log;omega)];omega
  have hWL:WL {v1 with log:=v1.log++[⟨cell,x1.mt.last⟩],nodes:=v1.nodes.set a q}:=⟨by simp only[List.length_set];exact hWI.n3,λy hy=>by
   rcases List.mem_or_eq_of_mem_set hy with hy|rfl
   ·exact hWI.L.c3 y hy
   ·exact⟨hr.1.conn,hr.1.copies,hr.1.sync⟩,by simp only;omega⟩
  obtain⟨net,hns,e4⟩:=Ky {v1 with log:=v1.log++[⟨cell,x1.mt.last⟩],nodes:=v1.nodes.set a q} ps hWL (by simp only;omega) hps;simp only[tkW]at e4
  cases c3
  ·simp only[Bool.false_eq_true,if_false];have e5:=NK hK (enc fN (v1.nodes.set a q)) {v1 with log:=v1.log++[⟨cell,x1.mt.last⟩],nodes:=v1.nodes.set a q,net:=net} [(len:Int)] (by simp) (by simp only;have:=hWI.safe;omega);simp only[tkW,BN,BA,fI]at e5;unfold El;rw[Jf,hns];simp (maxSteps:=9999999) [p101,  y1,hx',e1,e2,e3,e4,e5,e6,hlog,hlog',wn,wn1,wl,hbig,hbig',hfull,hfull',g1,q2,q3,c2',c3',z1,hz']
  ·simp only[if_true];rw[hns];simp (maxSteps:=9999999) [p101,  y1,hx',e1,e2,e3,e4,e6,hlog,hlog',wn,wn1,wl,hbig,hbig',hfull,hfull',g1,q2,q3,c2',c3',z1,hz']
 ·have hg:(decide (38<w.net.length)&&c2)=false:=by
   cases c2
   ·simp
   ·simp only[and_true]at hcut;simp[hcut]
  rw[hg];simp only[Bool.false_eq_true,if_false];by_cases hfull:38<w.net.length
  ·have hfull':(40:Int)<(w.net.length:Int)+2:=by omega
   have hc2f:c2=false:=by cases c2;rfl;exact absurd ⟨hfull,rfl⟩ hcut
   subst hc2f;simp[p101,  y1,hx',e1,hlog,hlog',wn,hfull,hfull',q2,c2']
  have hfull': ¬ (40:Int)<(w.net.length:Int)+2:=by omega
  have g1:(w.log.length+1)*16<=35184372088832:=by omega
  have e2:=JL hK x cell (w.log.length+1:Nat) hcx.b hcx.bit hcx.wait;have hr:=GN (cell:=cell) (val:=(w.log.length+1:Nat)) hcx;have hps:=EA (cell:=cell) (val:=(w.log.length+1:Nat)) (i:=a) hida ha;have hpl:=MN (n:=x) (cell:=cell) (val:=(w.log.length+1:Nat)) hida ha;unfold JV;rw[hxa];simp only[AD,lent,fN,AA,AJ]at e2;generalize Bd x cell (w.log.length+1:Nat)=r at*;obtain⟨q,ps⟩:=r;simp only at e2 hr hps hpl ⊢;have hqc:=hr.1.conn;obtain⟨c3,q3,_,c3',c3d⟩:=Aj q.conn (j:=k) (by omega);rw[hk];simp only[Int.toNat_natCast,c3d];obtain⟨len,hlen⟩: ∃len,len=w.log.length+1:=⟨_,rfl⟩;rw[<-hlen]at e2 ⊢;have wl:IntKind.wrap .i64 ((w.log.length:Int)+1)=(len:Int):=by rw[AC (by omega) (by omega)];omega
  have hWL:WL {w with log:=w.log++[⟨cell,x.mt.last⟩],nodes:=w.nodes.set a q}:=⟨by simp only[List.length_set];exact hn3,λy hy=>by
   rcases List.mem_or_eq_of_mem_set hy with hy|rfl
   ·exact hw.L.c3 y hy
   ·exact⟨hr.1.conn,hr.1.copies,hr.1.sync⟩,by simp only;omega⟩
  obtain⟨net,hns,e4⟩:=Ky {w with log:=w.log++[⟨cell,x.mt.last⟩],nodes:=w.nodes.set a q} ps hWL (by simp only;omega) hps;simp only[tkW]at e4
  cases c3
  ·simp only[Bool.false_eq_true,if_false];have e5:=NK hK (enc fN (w.nodes.set a q)) {w with log:=w.log++[⟨cell,x.mt.last⟩],nodes:=w.nodes.set a q,net:=net} [(len:Int)] (by simp) (by simp only;have:=hw.safe;omega);simp only[tkW,BN,BA,fI]at e5;unfold El;rw[Jf,hns];simp (maxSteps:=9999999) [p101,  y1,hx',e1,e2,e4,e5,e6,hlog,hlog',wn,wl,hfull,hfull',g1,q3,c3']
  ·simp only[if_true];rw[hns];simp (maxSteps:=9999999) [p101,  y1,hx',e1,e2,e4,e6,hlog,hlog',wn,wl,hfull,hfull',g1,q3,c3']
theorem Vr {α:Type} (f:α->Bool) (d:α) (l:List α):Ac (λj=>f (l.getD j d)) l.length=l.all f:=by
 cases h:l.all f
 ·cases h2:Ac (λj=>f (l.getD j d)) l.length
  ·rfl
  ·exfalso;have:l.all f=true:=List.all_eq_true.2 λx hx=>by
    obtain⟨j,hj,rfl⟩:=List.getElem_of_mem hx;have h3:=Am h2 hj;rwa [BP (List.getElem?_eq_getElem hj)]at h3
   rw[h]at this;cases this
 ·exact BJ λj hj=>by
   rw[BP (List.getElem?_eq_getElem hj)];exact List.all_eq_true.1 h _ (List.getElem_mem hj)
theorem XP [PKI] (w:AB) (kind:Int):sG 110 [.pm (AA (fWo w)),.v (.sc (I6 kind)),.v (.sc (I6 2))]=some ⟨[.v (.sc (I6 3))],[],[AA (fWo w)]⟩:=by
 refine sK p110 ?_;have e:=CO 2;rw[show Dd 2= -1 from rfl]at e;simp[p110,  e]
theorem ev_role [PKI] (hK:Cm PK) (w:AB) (kind:Int) (a b:Nat) (hab:a=0/\b=1\/a=1/\b=0) (hw:WI w) (hg:0<=w.gen/\w.gen<=100000):sG 110 [.pm (AA (fWo w)),.v (.sc (I6 kind)),.v (.sc (I6 a))]=some ⟨[.v (.sc (I6 (Hh w kind a b).2))],[],[AA (fWo (Hh w kind a b).1)]⟩:=by
 refine sK p110 ?_;have hn3:=hw.n3;obtain⟨x,y1,_,hx',hxd,hxm⟩:=AX w.nodes zN (j:=a) (by omega);obtain⟨y,y2,_,hy',hyd,hym⟩:=AX w.nodes zN (j:=b) (by omega);have hxa:nd w a=x:=hxd;have hyb:nd w b=y:=hyd;have hcx:=hw.node x hxm;have hcy:=hw.node y hym;have hne:a≠b:=by omega
 have hne':b≠a:=by omega
 have e0:=CO a;rw[show Dd (a:Int)=(b:Int)by rcases hab with ⟨rfl,rfl⟩|⟨rfl,rfl⟩<;>rfl]at e0;have hb0: ¬ (b:Int)<0:=by omega
 have hbk: ∀q:AE,(w.nodes.set a q).set b y=w.nodes.set a q:=λq=>KQ (d:=zN) (by simp only[List.length_set];omega) (by
  rw[List.getD_eq_getElem?_getD,List.getElem?_set_ne hne,<-List.getD_eq_getElem?_getD];exact hyd)
 unfold Hh;rw[hxa,hyb];by_cases h10:kind=10
 ·subst h10;have e1:=RD hK x y w.gen hcx.b hcy.b hcx.gens;simp only[AD,lent,fN,AA,AJ]at e1;generalize FG x y w.gen=r at*;obtain⟨r1,r2,r3⟩:=r;simp only at e1 ⊢
  cases r3
  ·simp (maxSteps:=9999999) [p110,  e0,y1,y2,hx',hy',hb0,e1,hne,hne']
  ·have hwl:=hcx.wait;have w2:IntKind.wrap .i64 (w.gen+1)=w.gen+1:=AC (by omega) (by omega);have e2:=NK hK (enc fN w.nodes) {w with gen:=w.gen+1} x.wait (by omega) (by simp only;have:=hw.safe;omega);simp only[tkW]at e2;simp (maxSteps:=9999999) [p110,  e0,y1,y2,hx',hy',hb0,w2,e1,e2,hne,hne',List.getElem_set]
 by_cases h11:kind=11
 ·subst h11;have e1:=RB hK x y (Hj w) hcx.b.nS hcy.b.nS;have e2:=MB 164 (λx=> !(decide (x.src=2)||decide (x.dst=2))) w.net (by have:=hw.net;omega) rfl (λx=>XQ x);have hq:Ac (λj=> !!(decide ((w.net.getD j zW).src=2)||decide ((w.net.getD j zW).dst=2))) w.net.length=Hj w:=by
   simp only[Bool.not_not];exact Vr (λx=>decide (x.src=2)||decide (x.dst=2)) zW w.net
  rw[hq]at e2;simp only[AD,lent,fN,AA,AJ]at e1;generalize Hj w=qt at*;generalize Hz x y qt=r at*;obtain⟨r1,r2⟩:=r;simp only at e1 ⊢
  cases r2
  ·simp (maxSteps:=9999999) [p110,  e0,y1,y2,hx',hy',hb0,e1,e2,hne,hne']
  ·simp (maxSteps:=9999999) [p110,  e0,y1,y2,hx',hy',hb0,e1,e2,hne,hne'];exact congrArg (enc fN) (hbk r1)
 ·have e1:=PX hK x hcx.b.nS;simp only[AD,lent,fN,AA,AJ]at e1;generalize Fa x=r at*;obtain⟨r1,r2⟩:=r;simp only at e1 ⊢
  cases r2
  ·simp (maxSteps:=9999999) [p110,  e0,y1,y2,hx',hy',hb0,h10,h11,e1,hne,hne']
  ·simp (maxSteps:=9999999) [p110,  e0,y1,y2,hx',hy',hb0,h10,h11,e1,hne,hne'];exact congrArg (enc fN) (hbk r1)
end Go.Proofs.YtghgecpicnfgpaaGreat.Ow
