/- Functions evaluated on the small machine: Messages as bytes, and bytes squeezed: the program's own way, Roles: the program's own way. -/
import Derived.Test.YtghgecpicnfgpaaGreatEv22
import Derived.Test.YtghgecpicnfgpaaGreatEv13
import Derived.Test.YtghgecpicnfgpaaGreatEv12
namespace Go.Proofs.YtghgecpicnfgpaaGreat.Ow
open Go
set_option linter.unusedVariables false
set_option linter.unusedSimpArgs false
set_option maxHeartbeats 16000000
set_option maxRecDepth 100000
@[simp] def st269 (b:LI) (a:Int×Int) (j:Nat):St:={n:=27,m:=0,tm:=[(3,.sc (I6 a.1)),(4,.sc (I6 a.2)),(7,.im 1 (enc fU b)),(8,.sc (I6 b.length)),(9,.sc (I6 j))],ob:=[]}
theorem PV [PKI] (b:LI) (hb:byt b):sG 269 [.v (.im 1 (enc fU b))]=some ⟨[.v (.sc (I6 (I8 b)))],[],[]⟩:=by
 refine sK p269 ?_;have hs:= @lok _ 10000000 [3,4,7,8,9] b269_0 (λj=>st269 b (Gx (b.take j)) j) b.length (λj hj=>by
  obtain⟨x,hx⟩:=AF hj;obtain⟨_,hx'⟩:=BT hx;have hxb:=hb.2 x (List.mem_of_getElem? hx);have hinc:=Ar hj hb.1;have hbd:=M8 (b.take j);have hsu:Gx (b.take (j+1))=Mq (Gx (b.take j)) x:=Bi Mq (1,0) b hx;simp only[hsu];generalize Gx (b.take j)=a at hbd ⊢;obtain⟨u,v⟩:=a;simp only at hbd;have w0:IntKind.wrap .i64 x=x:=AC (by omega) (by omega);have w1:IntKind.wrap .i64 (u+x)=u+x:=AC (by omega) (by omega);have t1:(u+x).tmod 65521=(u+x)%65521:=Int.tmod_eq_emod_of_nonneg (by omega);obtain⟨q,hq⟩: ∃q,q=(u+x)%65521:=⟨_,rfl⟩;have hq1:0<=q/\q<65521:=by omega
  have w2:IntKind.wrap .i64 q=q:=AC (by omega) (by omega);have w3:IntKind.wrap .i64 (v+q)=v+q:=AC (by omega) (by omega);have t2:(v+q).tmod 65521=(v+q)%65521:=Int.tmod_eq_emod_of_nonneg (by omega);obtain⟨r,hr⟩: ∃r,r=(v+q)%65521:=⟨_,rfl⟩;have w4:IntKind.wrap .i64 r=r:=AC (by omega) (by omega);simp[b269_0,  hj,hx',hinc,w0,w1,t1,<-hq,w2,w3,t2,<-hr,w4,Mq]) (by simp[b269_0])
 have hf:b.take b.length=b:=List.take_length;have hbd:=M8 b;unfold I8;generalize hg:Gx b=a at*;obtain⟨u,v⟩:=a;simp only at hbd;have w1:IntKind.wrap .i64 (v*65536)=v*65536:=AC (by omega) (by omega);have w2:IntKind.wrap .i64 (v*65536+u)=v*65536+u:=AC (by omega) (by omega);simp[p269];rw[hs]
 ·simp[b269_0,hf,hg,w1,w2]
 ·simp
 ·simp[Gx]
theorem body_eq (m:A2):pns [m.kind,m.cell,m.val,m.who]++pl m.gens=body m:=by
 unfold body pl pns;simp
theorem Ef [PKI] (m:A2) (hm:m.gens.length<=1048576):sG 235 [.a (AD (fMs m))]=some ⟨[.v (.own 1 (enc fU (Av m)))],[],[]⟩:=by
 have e1:=JN m hm;simp only[AD,lent,fMs]at e1;unfold Av
 cases h:C3 m
 ·refine sK p235 ?_;simp[p235,  e1,h]
 have hb:=Qo h;have bl:=LP hb;have f1:=HC [m.kind,m.cell,m.val,m.who] (by simp) (λx hx=>hb.head x (by simp at hx ⊢;rcases hx with hx|hx|hx|hx<;>simp[hx]));have f2:=J6 m.gens hm hb.tail;have hbe:=body_eq m;have e3:=IG (body m).length (by omega) (by omega);have e4:=PV (body m) ⟨by omega,RY m⟩;have e5:=Uj (I8 (body m));have pl':=A5 (n:=(body m).length) (by omega) (by omega);refine sK p235 ?_;simp only[if_true];have hle:enc fU (pns [m.kind,m.cell,m.val,m.who])++enc fU (pl m.gens)=enc fU (body m):=by rw[AU,hbe]
 have hln:(pns [m.kind,m.cell,m.val,m.who]).length+(pl m.gens).length=(body m).length:=by rw[<-hbe,List.length_append]
 simp only[BN,BA,fI]at f1;generalize pns [m.kind,m.cell,m.val,m.who]=B1 at*;generalize pl m.gens=B2 at*;generalize body m=b at*;generalize hp:Ae (b.length:Int)=p at*;generalize hf:ET (I8 b)=f at*;have hfl:f.length=4:=by rw[<-hf];rfl
 have g0:B1.length+B2.length<=35184372088832:=by omega
 have g1:p.length+b.length<=35184372088832:=by omega
 have g2:p.length+b.length+f.length<=35184372088832:=by omega
 have g3:p.length+(b.length+f.length)<=35184372088832:=by omega
 simp[p235,  e1,f1,f2,hle,e3,e4,e5,h,g0,g1,g2,g3];simp[enc]
@[simp] def st290 (b:LI) (a k n:Nat):St:={n:=55,m:=0,tm:=[(0,.im 1 (enc fU b)),(1,.sc (I6 a)),(2,.sc (I6 k)),(7,.sc (I6 n))],ob:=[]}
theorem Sd [PKI] (b:LI) (a k:Nat) (hb:byt b) (ha:a<=1048576) (hk:k<=1000):sG 290 [.v (.im 1 (enc fU b)),.v (.sc (I6 a)),.v (.sc (I6 k))]=some ⟨[.v (.sc (I6 (run b a k:Nat)))],[],[]⟩:=by
 refine sK p290 ?_;have hbl:=hb.1;unfold run;by_cases h1:1<=k
 case neg=>
  obtain rfl:k=0:=by omega
  simp[p290]
 have h1': ¬ (k:Int)<1:=by omega
 by_cases h2:k<=255
 case neg=>
  have h2':(255:Int)<k:=by omega
  simp[p290,  h1',h2',h2]
 have h2': ¬ (255:Int)<k:=by omega
 by_cases h3:k<=a
 case neg=>
  have h3':(a:Int)<k:=by omega
  simp[p290,  h1',h2',h3,show a<k by omega]
 have h3': ¬a<k:=by omega
 by_cases h4:a<b.length
 case neg=>
  have h4':b.length<=a:=by omega
  simp[p290,  h1',h2',h3',h4,h4']
 have h4': ¬b.length<=a:=by omega
 rw[if_pos ⟨h4,h1,h3,h2⟩];obtain⟨n,hn,hn100,hp,hend⟩:=FR (PG b a k) 100;rw[hn];have step: ∀j:Nat,j<=100->IntKind.wrap .i64 ((a:Int)+j)=((a+j:Nat):Int):=λj hj=>by rw[AC (by omega) (by omega)];omega
 have last:xG b290_0 (st290 b a k n)=some (.exit 0,st290 b a k n)\/ ∃s',xG b290_0 (st290 b a k n)=some (.exit 0,s')/\Aw s'.tm 7= .sc (I6 n)/\s'.ob=[]/\s'.m=0/\s'.n=55:=by
  refine .inr ?_;rcases hend with rfl|⟨hlt,hf⟩
  ·simp[b290_0]
  ·obtain⟨q,hq⟩: ∃q,q=a+n:=⟨_,rfl⟩;obtain⟨r,hr⟩: ∃r,r=a+n - k:=⟨_,rfl⟩;have s1:=step n (by omega);have hj1:(n:Int)<100:=by omega
   rw[<-hq]at s1;by_cases hql:q<b.length
   ·obtain⟨x,y1,hx,hx',hxd⟩:=AK b hql;obtain⟨y,y2,hy,hy',hyd⟩:=AK b (j:=r) (by omega);have hxy: ¬x=y:=by
     unfold PG at hf;rw[<-hq,show q - k=r by omega,hxd,hyd]at hf;simpa[hql]using hf
    have hxb:(x==y)=false:=by simp[hxy]
    have s3:IntKind.wrap .i64 ((q:Int) - k)=(r:Int):=by rw[AC (by omega) (by omega)];omega
    simp[b290_0,  hj1,s1,s3,hql,y1,y2,hx',hy',hxy,hxb]
   ·simp[b290_0,  hj1,s1,hql]
 have hs:= @lok _ 10000000 [0,1,2,7] b290_0 (λj=>st290 b a k j) n (λj hj=>by
  have hpj:=hp j hj;unfold PG at hpj;simp only[Bool.and_eq_true,decide_eq_true_iff]at hpj;obtain⟨q,hq⟩: ∃q,q=a+j:=⟨_,rfl⟩;obtain⟨r,hr⟩: ∃r,r=a+j - k:=⟨_,rfl⟩;have s1:=step j (by omega);rw[<-hq]at hpj s1;rw[show q - k=r by omega]at hpj;have s3:IntKind.wrap .i64 ((q:Int) - k)=(r:Int):=by rw[AC (by omega) (by omega)];omega
  have hql:=hpj.1;obtain⟨x,y1,hx,hx',hxd⟩:=AK b hpj.1;obtain⟨y,y2,hy,hy',hyd⟩:=AK b (j:=r) (by omega);rw[hxd,hyd]at hpj;have hxy:=hpj.2;subst hxy;have hinc:=Ar (j:=j) (n:=100) (by omega) (by omega);have hj1:(j:Int)<100:=by omega
  simp[b290_0,  hj1,s1,s3,hql,y1,y2,hx',hy',hinc]) (by
  rcases last with h|⟨s',h,_⟩
  ·exact⟨_,_,h,by simp⟩
  ·exact⟨_,_,h,by simp⟩)
 simp[p290,  h1',h2',h3',h4'];rw[hs]
 ·rcases last with h|⟨s',h,t1,t2,t3,t4⟩
  ·rw[h];simp
  ·rw[h];obtain⟨sn,sm,stm,sob⟩:=s';simp only at t1 t2 t3 t4;subst t2 t3 t4;simp[t1]
 ·simp
 ·simp
@[simp] def st286 (b:LI) (a:Nat) (r:Nat×Nat) (j:Nat):St:={n:=30,m:=0,tm:=[(0,.im 1 (enc fU b)),(1,.sc (I6 a)),(6,.sc (I6 r.2)),(7,.sc (I6 r.1)),(8,.sc (I6 j))],ob:=[]}
theorem Th [PKI] (b:LI) (a:Nat) (hb:byt b) (ha:a<=1048576):sG 286 [.v (.im 1 (enc fU b)),.v (.sc (I6 a))]=some ⟨[.v (.sc (I6 ((FA b a (min a 255)).2:Nat))),.v (.sc (I6 ((FA b a (min a 255)).1:Nat)))],[],[]⟩:=by
 refine sK p286 ?_;obtain⟨n,hn⟩: ∃n,n=min a 255:=⟨_,rfl⟩;rw[<-hn];have hend: ¬ ((n:Int)+1<=255/\(n:Int)+1<=a):=by omega
 have hs:= @lok _ 10000000 [0,1,6,7,8] b286_0 (λj=>st286 b a (FA b a j) (j+1)) n (λj hj=>by
  have e:=Sd b a (j+1) hb ha (by omega);have hrl:=TC b a (j+1);obtain⟨q,hq⟩: ∃q,q=j+1:=⟨_,rfl⟩;have hinc:=Ar (j:=q) (n:=1000) (by omega) (by omega);have hle:(q:Int)<=255:=by omega
  have hle2:q<=a:=by omega
  simp only[FA];rw[<-hq]at e ⊢;have hbd:=Ix b a j;generalize FA b a j=r at hbd ⊢;obtain⟨r1,r2⟩:=r;generalize run b a q=u at*;by_cases hlt:r2<u
  ·have hlt2:(r2:Int)<u:=by omega
   simp[b286_0,  hle,hle2,e,hlt,hlt2,hinc]
  ·have hlt2: ¬ (r2:Int)<u:=by omega
   simp[b286_0,  hle,hle2,e,hlt,hlt2,hinc]) (by
  by_cases h1:(n:Int)+1<=255
  ·have h2: ¬ (n:Int)+1<=a:=λh=>hend ⟨h1,h⟩
   simp[b286_0,  h1,h2]
  ·simp[b286_0,  h1])
 have hbz:FA b a 0=(0,0):=rfl;simp[p286];rw[hs]
 ·by_cases h1:(n:Int)+1<=255
  ·have h2: ¬ (n:Int)+1<=a:=λh=>hend ⟨h1,h⟩
   simp[b286_0,  h1,h2]
  ·simp[b286_0,  h1]
 ·simp
 ·simp[hbz]
@[simp] def st267 (b:LI) (s:Nat×LI):St:={n:=66,m:=0,tm:=[(0,.im 1 (enc fU b)),(3,.ref 10000000 []),(4,.sc (I6 s.1))],ob:=[(10000000,.arr 1 (enc fU s.2))]}
theorem My [PKI] (b:LI) (hb:byt b):sG 267 [.v (.im 1 (enc fU b))]=some ⟨[.v (.own 1 (enc fU (FI b)))],[],[]⟩:=by
 refine sK p267 ?_;unfold FI;by_cases h0:3000<b.length
 ·have h1:(3000:Int)<b.length:=by omega
  simp[p267,  h0,h1]
 have h1: ¬ (3000:Int)<b.length:=by omega
 obtain⟨⟨hinv,hg⟩,hs⟩:= @Qr G PK md 10000000 [0,3,4] b267_0 _ (st267 b) (λs=>decide (s.1<b.length)) (sqF b) (λs=>s.1<=b.length/\s.2.length<=2*s.1) (λs=>b.length - s.1) (λs hi hg=>by
   obtain⟨a,out⟩:=s;simp only[decide_eq_true_iff]at hi hg;have e:=Th b a hb (by omega);have hbd:=Ix b a (min a 255);unfold sqF;simp only;obtain⟨x,y1,hx,hx',hxd⟩:=AK b hg;rw[hxd];have hxb:=hb.2 x (List.mem_of_getElem? hx);generalize FA b a (min a 255)=r at*;obtain⟨r1,r2⟩:=r;simp only at hbd e ⊢;by_cases h3:3<=r2
   ·rw[if_pos h3];refine⟨⟨by simp only;omega,by simp only[List.length_append,List.length_cons,List.length_nil];omega⟩,by simp only;omega,?_⟩;have h3':(3:Int)<=r2:=by omega
    have w1:IntKind.wrap .i64 ((128:Int)+r2)=128+r2:=AC (by omega) (by omega);have w2:IntKind.wrap .i64 ((a:Int)+r2)=(a:Int)+r2:=AC (by omega) (by omega);have g1:out.length+2<=35184372088832:=by omega
    simp[b267_0,  hg,e,h3',w1,w2,g1,w8];simp[enc]
   ·rw[if_neg h3];have h3': ¬ (3:Int)<=r2:=by omega
    have hinc:IntKind.wrap .i64 ((a:Int)+1)=(a:Int)+1:=AC (by omega) (by omega);refine⟨⟨by simp only;omega,by split<;>simp only[List.length_append,List.length_cons,List.length_nil]<;>omega⟩,by simp only;omega,?_⟩;have g1:out.length+1<=35184372088832:=by omega
    have g2:out.length+2<=35184372088832:=by omega
    by_cases hz:x=0
    ·simp[b267_0,  hg,e,h3',hx',hz,hinc,g1,g2];simp[enc,hz]
    ·have hz':0<x:=by omega
     by_cases h7:127<x
     ·have h8: ¬x<128:=by omega
      simp[b267_0,  hg,e,h3',hx',hz,hz',h7,h8,hinc,g1,g2];simp[enc]
     ·have h8:x<128:=by omega
      simp[b267_0,  hg,e,h3',hx',hz,hz',h7,h8,hinc,g1,g2];simp[enc]) (λs hi hg=>by
   have hg': ¬s.1<b.length:=by simpa using hg
   simp[b267_0,  hg']) b.length (0,[]) ⟨by simp,by simp⟩ (by simp)
 generalize wh (λs=>decide (s.1<b.length)) (sqF b) b.length (0,[])=r at*;have hg': ¬r.1<b.length:=by simpa using hg
 simp[p267,  h0,h1];rw[hs]
 ·simp[b267_0,  hg']
 ·simp
 ·simp
theorem QJ [PKI] (x y:AE) (hx:nS x) (hy:nS y):sG 244 [.a (AD (fN x)),.a (AD (fN y))]=some ⟨[.v (.sc (.bool (E3 x y)))],[],[]⟩:=by
 refine sK p244 ?_;have e1:=Ak x hx;have e2:=Ak y hy;have e3:=CO x.id;simp only[AD,lent,fN]at e1 e2;unfold E3
 cases h1:AL x
 ·simp[p244,  e1,h1]
 cases h2:AL y
 ·simp[p244,  e1,e2,h1,h2]
 have nx:=Ai h1;have ny:=Ai h2;by_cases h4:x.id=2
 ·have h5: ¬Dd 2=y.id:=by
   have:=ny.id0;rw[show Dd 2= -1 from rfl];omega
  rw[h4]at e1;simp[p244,  e1,e2,h1,h2,h4,h5]
 ·have h4b:(x.id != 2)=true:=by simp[h4]
  by_cases h3:Dd x.id=y.id
  ·simp[p244,  e1,e2,e3,h1,h2,h4,h4b,h3]
  ·have h3': ¬y.id=Dd x.id:=λh=>h3 h.symm
   simp[p244,  e1,e2,e3,h1,h2,h4,h4b,h3,h3']
theorem M1 [PKI] (x y:AE) (hx:nS x) (hy:nS y):sG 203 [.a (AD (fN x)),.a (AD (fN y))]=some ⟨[.v (.sc (.bool (G7 x y)))],[],[]⟩:=by
 refine sK p203 ?_;have e1:=QJ x y hx hy;simp only[AD,lent,fN]at e1;unfold G7
 cases h1:E3 x y
 ·simp[p203,  e1,h1]
 obtain⟨nx,ny,_⟩:=NI h1;obtain⟨j,j3,hj⟩:=ny.nat;obtain⟨cx,q1,hc,hc',hcd⟩:=Aj x.conn (j:=j) (by have:=nx.conn;omega);simp only[hj]at e1 ⊢;simp only[Int.toNat_natCast,hcd]
 cases h2:x.up<;>rw[h2]at e1
 ·simp[p203,  e1,h1,h2,hj]
 cases h3:x.mt.fine<;>rw[h3]at e1
 ·simp[p203,  e1,h1,h2,h3,hj]
 cases h4:x.mt.old<;>rw[h4]at e1
 case true=>simp[p203,  e1,h1,h2,h3,h4,hj]
 cases h5:x.mt.held<;>rw[h5]at e1
 case true=>simp[p203,  e1,h1,h2,h3,h4,h5,hj]
 cases cx<;>simp[p203,  e1,h1,h2,h3,h4,h5,hj,q1,hc']
theorem L9 [PKI] (x:AE) (hx:nS x):sG 144 [.a (AD (fN x))]=some ⟨[.v (.sc (.bool (Dh x)))],[],[]⟩:=by
 refine sK p144 ?_;have e1:=Ak x hx;have e2:=CO x.id;simp only[AD,lent,fN]at e1;unfold Dh
 cases h1:AL x
 ·simp[p144,  e1,h1]
 have nx:=Ai h1
 cases h2:x.prime
 ·rw[h2]at e1;simp[p144,  e1,h1,h2]
 have h3:=nx.prime h2;have h4:x.id=0\/x.id=1:=by have:=nx.id0;have:=nx.id2;omega
 obtain⟨k,k2,hk⟩: ∃k:Nat,k<2/\Dd x.id=(k:Int):=by
  rcases h4 with h4|h4
  ·exact⟨1,by omega,by rw[h4];rfl⟩
  ·exact⟨0,by omega,by rw[h4];rfl⟩
 obtain⟨cx,q1,hc,hc',hcd⟩:=Aj x.conn (j:=k) (by have:=nx.conn;omega);rw[hk]at e2 ⊢;simp only[Int.toNat_natCast,hcd];rw[h2]at e1
 cases cx<;>cases h5:x.mt.held<;>rw[h5]at e1<;>simp[p144,  e1,e2,h1,h2,h5,q1,hc']
theorem PX [PKI] (hK:Cm PK) (x:AE) (hx:nS x):sG 166 [.a (AD (fN x))]=some ⟨[.a (AA (fN (Fa x).1)),.v (.sc (.bool (Fa x).2))],[],[]⟩:=by
 refine sK p166 ?_;have e1:=Ak x hx;have e2:=BH hK x hx;simp only[AD,lent,fN,AA,AJ]at e1 e2;unfold Fa
 cases h1:AL x
 ·simp[p166,  e1,e2,h1]
 cases h2:x.prime<;>rw[h2]at e1 e2<;>simp[p166,  e1,e2,h1,h2]
theorem M0 [PKI] (x y:AE) (quiet:Bool) (hx:nS x) (hy:nS y):sG 205 [.a (AD (fN x)),.a (AD (fN y)),.v (.sc (.bool quiet))]=some ⟨[.v (.sc (.bool (G6 x y quiet)))],[],[]⟩:=by
 refine sK p205 ?_;have e1:=QJ x y hx hy;simp only[AD,lent,fN]at e1;unfold G6
 cases h1:E3 x y
 ·simp[p205,  e1,h1]
 obtain⟨nx,ny,_⟩:=NI h1;obtain⟨i,i3,hi⟩:=nx.nat;obtain⟨j,j3,hj⟩:=ny.nat;obtain⟨c1,q1,_,c1',d1⟩:=Aj x.conn (j:=j) (by have:=nx.conn;omega);obtain⟨c2,q2,_,c2',d2⟩:=Aj y.conn (j:=i) (by have:=ny.conn;omega);obtain⟨c3,q3,_,c3',d3⟩:=Aj x.copies (j:=j) (by have:=nx.copies;omega);obtain⟨c4,q4,_,c4',d4⟩:=Aj y.copies (j:=i) (by have:=ny.copies;omega);simp only[hi,hj]at e1 ⊢;simp only[Int.toNat_natCast,d1,d2,d3,d4]
 cases h2:x.up<;>rw[h2]at e1
 ·simp[p205,  e1,h1,h2,hi,hj]
 cases h3:x.mt.fine<;>rw[h3]at e1
 ·simp[p205,  e1,h1,h2,h3,hi,hj]
 cases h4:x.mt.old<;>rw[h4]at e1
 case true=>simp[p205,  e1,h1,h2,h3,h4,hi,hj]
 cases h5:x.prime<;>rw[h5]at e1
 case true=>simp[p205,  e1,h1,h2,h3,h4,h5,hi,hj]
 cases h6:x.mt.held<;>rw[h6]at e1
 case true=>simp[p205,  e1,h1,h2,h3,h4,h5,h6,hi,hj]
 cases c1
 ·simp[p205,  e1,h1,h2,h3,h4,h5,h6,hi,hj,q1,c1']
 cases c2
 ·simp[p205,  e1,h1,h2,h3,h4,h5,h6,hi,hj,q1,c1',q2,c2']
 cases c3
 case true=>simp[p205,  e1,h1,h2,h3,h4,h5,h6,hi,hj,q1,c1',q2,c2',q3,c3']
 cases c4
 case true=>simp[p205,  e1,h1,h2,h3,h4,h5,h6,hi,hj,q1,c1',q2,c2',q3,c3',q4,c4']
 cases h7:y.prime<;>rw[h7]at e1
 case true=>simp[p205,  e1,h1,h2,h3,h4,h5,h6,h7,hi,hj,q1,c1',q2,c2',q3,c3',q4,c4']
 by_cases h8:x.mt.last=y.mt.last
 ·simp[p205,  e1,h1,h2,h3,h4,h5,h6,h7,eq_true h8,hi,hj,q1,c1',q2,c2',q3,c3',q4,c4']
 ·simp[p205,  e1,h1,h2,h3,h4,h5,h6,h7,h8,hi,hj,q1,c1',q2,c2',q3,c3',q4,c4']
theorem RB [PKI] (hK:Cm PK) (x y:AE) (quiet:Bool) (hx:nS x) (hy:nS y):sG 165 [.a (AD (fN x)),.a (AD (fN y)),.v (.sc (.bool quiet))]=some ⟨[.a (AA (fN (Hz x y quiet).1)),.v (.sc (.bool (Hz x y quiet).2))],[],[]⟩:=by
 refine sK p165 ?_;have e1:=M0 x y quiet hx hy;have e2:=BH hK x hx;simp only[AD,lent,fN,AA,AJ]at e1 e2;unfold Hz
 cases h1:G6 x y quiet<;>cases h2:x.prime<;>rw[h2]at e1 e2<;>simp[p165,  e1,e2,h1,h2]
theorem RD [PKI] (hK:Cm PK) (x y:AE) (gen:Int) (hx:nB x) (hy:nB y) (hg:x.mt.gens.length<=900):sG 162 [.a (AD (fN x)),.a (AD (fN y)),.v (.sc (I6 gen))]=some ⟨[.a (AA (fN (FG x y gen).1)),.a (AA (fN (FG x y gen).2.1)),.v (.sc (.bool (FG x y gen).2.2))],[],[]⟩:=by
 refine sK p162 ?_;have e0:=M1 x y hx.nS hy.nS;have e1:=BH hK x hx.nS;have e2:=BH hK y hy.nS;have e3:=BQ x.mt.gens gen (by omega);have e4:=BF gen 1 100000;have e5:=Bp hK x.mt hx.mt;have e6:=Bp hK y.mt hy.mt;have e7:=M4 hK x.mt.gens gen (by omega);have gl:=F2 x.mt.gens gen;have kx:=Dq hx {x.mt with held:=true,gens:=CE x.mt.gens gen} (by simp only;omega) hx.bits hx.bit;have ky:=Dq hy {y.mt with old:=true,held:=false} hy.gens hy.bits hy.bit;have hxw:nS {x with wait:=[]}:=⟨hx.nS.image,hx.nS.mt,hx.nS.sl,hx.nS.conn,hx.nS.sync,hx.nS.copies,by simp⟩;have e8:=F4 hK {x with wait:=[]} {x.mt with held:=true,gens:=CE x.mt.gens gen} hxw kx.mt;have e9:=F4 hK y {y.mt with old:=true,held:=false} hy.nS ky.mt;rw[show A7 {x with wait:=[]} {x.mt with held:=true,gens:=CE x.mt.gens gen}=Kn x gen from rfl]at e8;rw[show A7 y {y.mt with old:=true,held:=false}=P7 y from rfl]at e9;unfold FG;generalize Kn x gen=A at*;generalize P7 y=B at*;generalize CE x.mt.gens gen=gp at*;simp only[AD,lent,fN,fM,AA,AJ,kpF,BA]at e0 e1 e2 e5 e6 e8 e9
 cases h0:G7 x y
 ·rw[h0]at e0;simp (maxSteps:=9999999) [p162,  e0,e1,e2]
 rw[h0]at e0
 cases h4:inB gen 1 100000
 ·rw[h4]at e4;simp (maxSteps:=9999999) [p162,  e0,e1,e2,e4]
 rw[h4]at e4;by_cases h3:gen∈x.mt.gens
 ·simp (maxSteps:=9999999) [p162,  e0,e1,e2,e3,e4,h3]
 cases hA:AL A<;>rw[hA]at e8<;>cases hB:AL B<;>rw[hB]at e9<;>simp (maxSteps:=9999999) [p162,  e0,e1,e2,e3,e4,e5,e6,e7,e8,e9,h3]
end Go.Proofs.YtghgecpicnfgpaaGreat.Ow
