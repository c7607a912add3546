/- Runs, squeezing, spreading: what the reference makes. -/
import Derived.Test.YtbolhfegdocpeaaGreatEv15
import Derived.Test.YtbolhfegdocpeaaGreatEv0
namespace Go.Proofs.YtbolhfegdocpeaaGreat.Ow
open Go
set_option linter.unusedVariables false
set_option linter.unusedSimpArgs false
set_option maxHeartbeats 8000000
variable {PK:Nat->List Arg->Option Res}
theorem Qz (a b:Int):AH G PK md 111 [.v (.sc (.int .i64 a)),.v (.sc (.int .i64 b))]=some ⟨[.v (.sc (.int .i64 (min a b)))],[],[]⟩:=by
 refine AA (pf:=p111) rfl (by simp[p111]) ?_;by_cases h:a<b
 ·have hm:min a b=a:=by omega
  simp[p111,md,h,hm]
 ·have hm:min a b=b:=by omega
  simp[p111,md,h,hm]
def QZ (b:List Int) (a k n:Nat):Bool:=decide (a+n<b.length)&&decide (b.getD (a+n) 0=b.getD (a+n - k) 0)
def run (b:List Int) (a k:Nat):Nat:=if a<b.length/\1<=k/\k<=a/\k<=255 then IP (QZ b a k) 100 0 else 0
theorem TK (b:List Int) (a k:Nat):run b a k<=100/\a+run b a k<=max a b.length:=by
 unfold run;split
 ·obtain⟨n,h1,h2,h3,h4⟩:=HS (QZ b a k) 100;rw[h1];refine⟨h2,?_⟩;rcases Nat.eq_zero_or_pos n with h|h
  ·omega
  ·have:=h3 (n - 1) (by omega);unfold QZ at this;simp only[Bool.and_eq_true,decide_eq_true_iff]at this;omega
 ·omega
@[simp] def st255 (b:List Int) (a k n:Nat):St:={n:=51,m:=0,tm:=[(0,.im 1 (enc fU b)),(1,.sc (.int .i64 a)),(2,.sc (.int .i64 k)),(7,.sc (.int .i64 n))],ob:=[]}
theorem Pp (b:List Int) (a k:Nat) (hb:byt b) (ha:a<=1048576) (hk:k<=1000):AH G PK md 255 [.v (.im 1 (enc fU b)),.v (.sc (.int .i64 a)),.v (.sc (.int .i64 k))]=some ⟨[.v (.sc (.int .i64 (run b a k:Nat)))],[],[]⟩:=by
 refine AA (pf:=p255) rfl (by simp[p255]) ?_;have hbl:=hb.1;have w1:IntKind.wrap .i64 ((b.length:Int) - 1)=b.length - 1:=AC (by omega) (by omega);have e1:=Aj (PK:=PK) a 0 ((b.length:Int) - 1);have e2:=Qz (PK:=PK) a 255;have e3:=Aj (PK:=PK) k 1 (min (a:Int) 255);unfold run;by_cases h1:a<b.length
 case neg=>
  have i1:inB (a:Int) 0 (b.length - 1)=false:=by
   cases h:inB (a:Int) 0 (b.length - 1)
   ·rfl
   ·have:=Ab.1 h;omega
  rw[i1]at e1;have hn: ¬ (a<b.length/\1<=k/\k<=a/\k<=255):=by omega
  simp[p255,md,w1,e1,hn]
 have i1:inB (a:Int) 0 (b.length - 1)=true:=Ab.2 (by omega);rw[i1]at e1;by_cases h2:1<=k/\k<=a/\k<=255
 case neg=>
  have i3:inB (k:Int) 1 (min (a:Int) 255)=false:=by
   cases h:inB (k:Int) 1 (min (a:Int) 255)
   ·rfl
   ·have:=Ab.1 h;omega
  rw[i3]at e3;rw[if_neg (by omega)];simp[p255,md,w1,e1,e2,e3]
 have i3:inB (k:Int) 1 (min (a:Int) 255)=true:=Ab.2 (by omega);rw[i3]at e3;rw[if_pos ⟨h1,h2⟩];obtain⟨n,hn,hn100,hp,hend⟩:=HS (QZ b a k) 100;rw[hn];have step: ∀j:Nat,j<=100->IntKind.wrap .i64 ((a:Int)+j)=((a+j:Nat):Int)/\IntKind.wrap .i64 ((a:Int)+j - k)=((a+j - k:Nat):Int):=fun j hj=>⟨by rw[AC (by omega) (by omega)];omega,by rw[AC (by omega) (by omega)];omega⟩
 have hs:=AL (G:=G) (PK:=PK) (md:=md) (o:=10000000) (live:=[0,1,2,7]) (c:=b255_0) (fun j=>st255 b a k j) n (fun j hj=>by
  have hpj:=hp j hj;unfold QZ at hpj;simp only[Bool.and_eq_true,decide_eq_true_iff]at hpj;obtain⟨q,hq⟩: ∃q,q=a+j:=⟨_,rfl⟩;obtain⟨r,hr⟩: ∃r,r=a+j - k:=⟨_,rfl⟩;obtain⟨s1,s2⟩:=step j (by omega);rw[←hq]at hpj s1;rw[←hr]at s2;rw[show q - k=r by omega]at hpj;have s3:IntKind.wrap .i64 ((q:Int) - k)=(r:Int):=by rw[AC (by omega) (by omega)];omega
  obtain⟨x,y1,hx,hx',hxd⟩:=AT b hpj.1;obtain⟨y,y2,hy,hy',hyd⟩:=AT b (j:=r) (by omega);rw[hxd,hyd]at hpj;have hxy:=hpj.2;subst hxy;have hinc:=A2 (j:=j) (n:=100) (by omega) (by omega);have hj1:(j:Int)<100:=by omega
  simp[b255_0,md,hj1,s1,s3,y1,y2,hx',hy',hinc]) (by
  rcases hend with rfl|⟨hlt,hf⟩
  ·simp[b255_0]
  ·obtain⟨q,hq⟩: ∃q,q=a+n:=⟨_,rfl⟩;obtain⟨r,hr⟩: ∃r,r=a+n - k:=⟨_,rfl⟩;obtain⟨s1,s2⟩:=step n (by omega);have hj1:(n:Int)<100:=by omega
   rw[←hq]at s1;by_cases hql:q<b.length
   ·obtain⟨x,y1,hx,hx',hxd⟩:=AT b hql;obtain⟨y,y2,hy,hy',hyd⟩:=AT b (j:=r) (by omega);have hxy: ¬x=y:=by
     unfold QZ at hf;rw[←hq,show q - k=r by omega,hxd,hyd]at hf;simpa[hql]using hf
    have s3:IntKind.wrap .i64 ((q:Int) - k)=(r:Int):=by rw[AC (by omega) (by omega)];omega
    simp[b255_0,md,hj1,s1,s3,y1,y2,hx',hy',hxy]
   ·simp[b255_0,md,hj1,s1,hql])
 simp[p255,md,w1,e1,e2,e3];rw[hs]
 ·rcases hend with rfl|⟨hlt,hf⟩
  ·simp[b255_0]
  ·obtain⟨q,hq⟩: ∃q,q=a+n:=⟨_,rfl⟩;obtain⟨r,hr⟩: ∃r,r=a+n - k:=⟨_,rfl⟩;obtain⟨s1,s2⟩:=step n (by omega);have hj1:(n:Int)<100:=by omega
   rw[←hq]at s1;by_cases hql:q<b.length
   ·obtain⟨x,y1,hx,hx',hxd⟩:=AT b hql;obtain⟨y,y2,hy,hy',hyd⟩:=AT b (j:=r) (by omega);have hxy: ¬x=y:=by
     unfold QZ at hf;rw[←hq,show q - k=r by omega,hxd,hyd]at hf;simpa[hql]using hf
    have s3:IntKind.wrap .i64 ((q:Int) - k)=(r:Int):=by rw[AC (by omega) (by omega)];omega
    simp[b255_0,md,hj1,s1,s3,y1,y2,hx',hy',hxy]
   ·simp[b255_0,md,hj1,s1,hql]
 ·simp
 ·simp
def GJ (b:List Int) (a:Nat):Nat->Nat×Nat
 |0=>(0,0)
 |j+1=>if(GJ b a j).2<run b a (j+1)then(j+1,run b a (j+1))else GJ b a j
theorem Kq (b:List Int) (a:Nat): ∀j,(GJ b a j).1<=j/\(GJ b a j).2<=100/\a+(GJ b a j).2<=max a b.length
 |0=>by simp[GJ];omega
 |j+1=>by
  have h1:=Kq b a j;have h2:=TK b a (j+1);unfold GJ;split
  ·simp only;omega
  ·omega
@[simp] def st252 (b:List Int) (a:Nat) (r:Nat×Nat) (j:Nat):St:={n:=27,m:=0,tm:=[(0,.im 1 (enc fU b)),(1,.sc (.int .i64 a)),(6,.sc (.int .i64 r.1)),(7,.sc (.int .i64 r.2)),(8,.sc (.int .i64 j))],ob:=[]}
theorem Sr (b:List Int) (a:Nat) (hb:byt b) (ha:a<=1048576):AH G PK md 252 [.v (.im 1 (enc fU b)),.v (.sc (.int .i64 a))]=some ⟨[.v (.sc (.int .i64 ((GJ b a (min a 255)).1:Nat))),.v (.sc (.int .i64 ((GJ b a (min a 255)).2:Nat)))],[],[]⟩:=by
 refine AA (pf:=p252) rfl (by simp[p252]) ?_;have e2:=Qz (PK:=PK) a 255;obtain⟨n,hn⟩: ∃n,n=min a 255:=⟨_,rfl⟩;have hm:min (a:Int) 255=(n:Int):=by omega
 rw[hm]at e2;rw[←hn];have hs:=AL (G:=G) (PK:=PK) (md:=md) (o:=10000000) (live:=[0,1,6,7,8]) (c:=b252_0) (fun j=>st252 b a (GJ b a j) (j+1)) n (fun j hj=>by
  have e:=Pp (PK:=PK) b a (j+1) hb ha (by omega);have hrl:=TK b a (j+1);obtain⟨q,hq⟩: ∃q,q=j+1:=⟨_,rfl⟩;have hinc:=A2 (j:=q) (n:=1000) (by omega) (by omega);have hle:(q:Int)<=n:=by omega
  simp only[GJ];rw[←hq]at e ⊢;have hbd:=Kq b a j;generalize GJ b a j=r at hbd ⊢;obtain⟨r1,r2⟩:=r;generalize run b a q=u at*;by_cases hlt:r2<u
  ·have hlt2:(r2:Int)<u:=by omega
   simp[b252_0,md,e2,hle,e,hlt,hlt2,hinc]
  ·have hlt2: ¬ (r2:Int)<u:=by omega
   simp[b252_0,md,e2,hle,e,hlt,hlt2,hinc]) (by
  have: ¬ (n:Int)+1<=n:=by omega
  simp[b252_0,md,e2,this])
 have hbz:GJ b a 0=(0,0):=rfl;simp[p252,md];rw[hs]
 ·have: ¬ (n:Int)+1<=n:=by omega
  simp[b252_0,md,e2,this]
 ·simp
 ·simp[hbz]
def w8 (n:Int):Int:=IntKind.wrap .u8 n
def sqF (b:List Int) (s:Nat×List Int):Nat×List Int:=
 if 3<=(GJ b s.1 (min s.1 255)).2 then(s.1+(GJ b s.1 (min s.1 255)).2,s.2++[w8 (128+(GJ b s.1 (min s.1 255)).2),w8 (GJ b s.1 (min s.1 255)).1])
 else(s.1+1,s.2++(if b.getD s.1 0=0\/127<b.getD s.1 0 then [0,b.getD s.1 0]else [b.getD s.1 0]))
def Fj (b:List Int):List Int:=if 3000<b.length then []else(wh (fun s=>decide (s.1<b.length)) (sqF b) b.length (0,[])).2
@[simp] def st245 (b:List Int) (s:Nat×List Int):St:={n:=60,m:=0,tm:=[(0,.im 1 (enc fU b)),(3,.ref 10000000 []),(4,.sc (.int .i64 s.1))],ob:=[(10000000,.arr 1 (enc fU s.2))]}
theorem KT (b:List Int) (hb:byt b):AH G PK md 245 [.v (.im 1 (enc fU b))]=some ⟨[.v (.own 1 (enc fU (Fj b)))],[],[]⟩:=by
 refine AA (pf:=p245) rfl (by simp[p245]) ?_;unfold Fj;by_cases h0:3000<b.length
 ·have h1:(3000:Int)<b.length:=by omega
  simp[p245,md,h0,h1]
 have h1: ¬ (3000:Int)<b.length:=by omega
 obtain⟨⟨hinv,hg⟩,hs⟩:=Rk (G:=G) (PK:=PK) (md:=md) (o:=10000000) (live:=[0,3,4]) (c:=b245_0) (st245 b) (fun s=>decide (s.1<b.length)) (sqF b) (fun s=>s.1<=b.length/\s.2.length<=2*s.1) (fun s=>b.length - s.1) (fun s hi hg=>by
   obtain⟨a,out⟩:=s;simp only[decide_eq_true_iff]at hi hg;have e:=Sr (PK:=PK) b a hb (by omega);have hbd:=Kq b a (min a 255);unfold sqF;simp only;obtain⟨x,y1,hx,hx',hxd⟩:=AT b hg;rw[hxd];have hxb:=hb.2 x (List.mem_of_getElem? hx);generalize GJ b a (min a 255)=r at*;obtain⟨r1,r2⟩:=r;simp only at hbd e ⊢;by_cases h3:3<=r2
   ·rw[if_pos h3];refine⟨⟨by simp only;omega,by simp only[List.length_append,List.length_cons,List.length_nil];omega⟩,by simp only;omega,?_⟩;have h3':(3:Int)<=r2:=by omega
    have w1:IntKind.wrap .i64 ((128:Int)+r2)=128+r2:=AC (by omega) (by omega);have w2:IntKind.wrap .i64 ((a:Int)+r2)=(a:Int)+r2:=AC (by omega) (by omega);have g1:out.length+2<=35184372088832:=by omega
    simp[b245_0,md,hg,e,h3',w1,w2,g1,w8];simp[enc]
   ·rw[if_neg h3];have h3': ¬ (3:Int)<=r2:=by omega
    have hinc:IntKind.wrap .i64 ((a:Int)+1)=(a:Int)+1:=AC (by omega) (by omega);refine⟨⟨by simp only;omega,by split<;>simp only[List.length_append,List.length_cons,List.length_nil]<;>omega⟩,by simp only;omega,?_⟩;have g1:out.length+1<=35184372088832:=by omega
    have g2:out.length+1+1<=35184372088832:=by omega
    by_cases hz:x=0
    ·simp[b245_0,md,hg,e,h3',hx',hz,hinc,g1,g2];simp[enc,hz]
    ·by_cases h7:127<x
     ·simp[b245_0,md,hg,e,h3',hx',hz,h7,hinc,g1,g2];simp[enc]
     ·simp[b245_0,md,hg,e,h3',hx',hz,h7,hinc,g1,g2];simp[enc]) (fun s hi hg=>by
   have hg': ¬s.1<b.length:=by simpa using hg
   simp[b245_0,md,hg']) b.length (0,[]) ⟨by simp,by simp⟩ (by simp)
 generalize wh (fun s=>decide (s.1<b.length)) (sqF b) b.length (0,[])=r at*;have hg': ¬r.1<b.length:=by simpa using hg
 simp[p245,md,h0,h1];rw[hs]
 ·simp[b245_0,md,hg']
 ·simp
 ·simp
theorem O6 (b:List Int):(Fj b).length<=6000:=by
 unfold Fj;split
 ·simp
 ·rename_i h;have key: ∀ (n:Nat) (s:Nat×List Int),s.2.length<=2*s.1->s.1<=b.length->(wh (fun s=>decide (s.1<b.length)) (sqF b) n s).2.length<=2*b.length:=by
   intro n
   induction n with
   |zero=>intro s h1 h2;simp only[wh];omega
   |succ n ih=>
    intro s h1 h2;unfold wh;split
    ·rename_i hg;simp only[decide_eq_true_iff]at hg;have hbd:=Kq b s.1 (min s.1 255);refine ih _ ?_ ?_
     ·unfold sqF;split
      ·simp only[List.length_append,List.length_cons,List.length_nil];omega
      ·split<;>simp only[List.length_append,List.length_cons,List.length_nil]<;>omega
     ·unfold sqF;split
      ·simp only;omega
      ·simp only;omega
    ·omega
  have:=key b.length (0,[]) (by simp) (by simp);omega
theorem LA (b:List Int) (hb:by8 b):by8 (Fj b):=by
 unfold Fj;split
 ·intro x hx;cases hx
 ·have key: ∀ (n:Nat) (s:Nat×List Int),by8 s.2->by8 (wh (fun s=>decide (s.1<b.length)) (sqF b) n s).2:=by
   intro n
   induction n with
   |zero=>intro s h1;exact h1
   |succ n ih=>
    intro s h1;unfold wh;split
    ·rename_i hg;simp only[decide_eq_true_iff]at hg;refine ih _ ?_;obtain⟨x,y1,hx,hx',hxd⟩:=AT b hg;have hxb:=hb x (List.mem_of_getElem? hx);unfold sqF;rw[hxd];split
     ·refine Bk h1 fun y hy=> ?_
      simp only[List.mem_cons,List.not_mem_nil,or_false]at hy;rcases hy with rfl|rfl
      ·exact Kb _
      ·exact Kb _
     ·refine Bk h1 fun y hy=> ?_
      split at hy
      ·simp only[List.mem_cons,List.not_mem_nil,or_false]at hy;omega
      ·simp only[List.mem_cons,List.not_mem_nil,or_false]at hy;omega
    ·exact h1
  exact key b.length (0,[]) (fun x hx=>by cases hx)
end Go.Proofs.YtbolhfegdocpeaaGreat.Ow
