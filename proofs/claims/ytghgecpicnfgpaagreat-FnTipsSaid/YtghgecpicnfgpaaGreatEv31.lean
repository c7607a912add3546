/- Functions evaluated on the small machine: What is drawn: metas, slots; told by their bounds alone, What is drawn: deeds, told by nothing but that they come. -/
import Derived.Test.YtghgecpicnfgpaaGreatEv30
import Derived.Test.YtghgecpicnfgpaaGreatEv18
namespace Go.Proofs.YtghgecpicnfgpaaGreat.Ow
open Go
set_option linter.unusedVariables false
set_option linter.unusedSimpArgs false
set_option maxHeartbeats 16000000
structure mtD (m:Ay):Prop where
 gens:m.gens.length<=100
 bits:m.bits.length<=3
 bit: ∀x∈m.bits,x.length<=100
theorem mtD.S {m:Ay} (h:mtD m):mtS m:=⟨by have:=h.gens;omega,by have:=h.bits;omega,λx hx=>by have:=h.bit x hx;omega⟩
@[simp] def st181_1 (b:LI) (g:LI) (c:Nat×Int) (B:List LI) (k:Nat):St:={n:=55,m:=1,tm:=[(0,.pb 0 0),(2,.pb 10000000 0),(3,.pb 10000001 0),(4,.sc (I6 k))],ob:=[(0,PZ b c),(10000000,.box [.nil 1,.nil 1,.sc (.bool false),.sc (.bool false),.sc (.bool false),.sc (I6 0)]),(10000001,.box [.ref 10000002 [],.ref 10000003 [],.sc (.bool true),.sc (.bool false),.sc (.bool false),.sc (I6 0)]),(10000002,.arr 1 (enc fI g)),(10000003,.arr 1 (enc fII B))]}
@[simp] def st181_0 (b:LI) (g:LI) (k:Nat) (c:Nat×Int) (B:List LI) (j:Nat):St:={n:=55,m:=1,tm:=[(0,.pb 0 0),(2,.pb 10000200 0),(3,.pb 10000201 0),(4,.sc (I6 k)),(5,.sc (I6 j))],ob:=[(0,PZ b c),(10000200,.box [.nil 1,.nil 1,.sc (.bool false),.sc (.bool false),.sc (.bool false),.sc (I6 0)]),(10000201,.box [.ref 10000202 [],.ref 10000203 [],.sc (.bool true),.sc (.bool false),.sc (.bool false),.sc (I6 0)]),(10000202,.arr 1 (enc fI g)),(10000203,.arr 1 (enc fII B))]}
theorem lp_mt0 [PKI] (b g:LI) (k N:Nat) (hk:k<3) (hN:N<=100) (hb:byt b) (c:Nat×Int) (B:List LI) (hc:c.1<=b.length) (h3:B.length=3) (hB: ∀x∈B,x.length<=N):
  ∃r c' B' j,c'.1<=b.length/\B'.length=3/\(∀x∈B',x.length<=N+3)/\r=(.exit 2,{st181_0 b g k c' B' j with tm:=(st181_0 b g k c' B' j).tm++[(22,.sc (.bool false))]})/\ ∀ (s:St),s.m<=10000200->Aa 10000200 [0,2,3,4,5] s=st181_0 b g k c B 0->A6 G PK md 10000200 [0,2,3,4,5] b181_0 s=some r:=by
 obtain⟨r,⟨c1,B1,j,hc1,k3,hB1,hr⟩,hlp⟩:= @EJ G PK md 10000200 [0,2,3,4,5] b181_0 ((Nat×Int)×List LI×Nat) (λa=>st181_0 b g k a.1 a.2.1 a.2.2) (λa=>4 - a.2.2) (λa=>a.1.1<=b.length/\a.2.1.length=3/\(∀x∈a.2.1,x.length<=N+a.2.2)/\a.2.2<=3) (λr=> ∃c B j,c.1<=b.length/\B.length=3/\(∀x∈B,x.length<=N+3)/\r=(.exit 2,{st181_0 b g k c B j with tm:=(st181_0 b g k c B j).tm++[(22,.sc (.bool false))]})) (λa ha=>by
  obtain⟨c,B,j⟩:=a;obtain⟨ha1,ha2,ha3,ha4⟩:=ha;simp only at ha1 ha2 ha3 ha4;obtain⟨x,c1,hx,_,h1,e1⟩:=AO b c 3 hb ha1 (by omega);have hx:=hx (by omega);simp only[cur]at e1;by_cases hj:(j:Int)<x
  ·obtain⟨y,c2,hy,_,h2,e2⟩:=AO b c1 8 hb h1 (by omega);obtain⟨m,hm,hm',hm2,_,hmm⟩:=Ah B (j:=k) (by omega);have hml:=ha3 m hmm;have e3:=LH m y (by omega);have hl:=Ki m y;simp only[cur]at e2;have hinc:=Ar (j:=j) (n:=6) (by omega) (by omega);refine .inl ⟨(c2,B.set k (C5 m y),j+1),⟨h2,by simp only[List.length_set];exact ha2,λz hz=> ?_,by simp only;omega⟩,by simp only;omega,?_⟩
   ·simp only at hz ⊢;rcases List.mem_or_eq_of_mem_set hz with hz|rfl
    ·have:=ha3 z hz;omega
    ·omega
   have hset:(enc fII B).set k [T.sl 1 (enc fI (C5 m y))]=enc fII (B.set k (C5 m y)):=A3 fII B k (C5 m y);simp[b181_0,  e1,e2,e3,hj,hinc,hm,hm2,hset]
  ·exact .inr ⟨_,by simp[b181_0,  e1,hj];rfl,by simp,c1,B,j,h1,ha2,λz hz=>by have:=ha3 z hz;omega,by simp⟩) (c,B,0) ⟨hc,h3,λx hx=>by have:=hB x hx;simp only;omega,by simp⟩
 exact⟨r,c1,B1,j,hc1,k3,hB1,hr,hlp⟩
theorem IA [PKI] (b:LI) (c:Nat×Int) (hb:byt b) (hc:c.1<=b.length): ∃m c',mtD m/\(m.bits.length=3/\m.gens.length<=50)/\c'.1<=b.length/\sG 181 [.pm (cur b c)]=some ⟨[.a (AA (fM m))],[],[cur b c']⟩:=by
 have e0:=HT;simp only[GE,AA,AJ,fM,BN,BA,fI,fII]at e0;obtain⟨x,c1,hx,_,h1,e1⟩:=AO b c 3 hb hc (by omega);have hx:=hx (by omega);have hw:IntKind.wrap .i64 (2+x)=2+x:=AC (by omega) (by omega);obtain⟨r,⟨c2,B,hc2,hB3,hB,hr⟩,hlp⟩:= @EJ G PK md 10000000 [0,2,3,4] b181_1 ((Nat×Int)×List LI×Nat) (λa=>st181_1 b [1,2+x] a.1 a.2.1 a.2.2) (λa=>3 - a.2.2) (λa=>a.1.1<=b.length/\a.2.1.length=3/\(∀x∈a.2.1,x.length<=3*a.2.2)/\a.2.2<=3) (λr=> ∃c B,c.1<=b.length/\B.length=3/\(∀x∈B,x.length<=9)/\r=(.exit 0,{st181_1 b [1,2+x] c B 3 with tm:=(st181_1 b [1,2+x] c B 3).tm++[(16,.sc (.bool false))]})) (λa ha=>by
  obtain⟨c,B,k⟩:=a;obtain⟨ha1,ha2,ha3,ha4⟩:=ha;simp only at ha1 ha2 ha3 ha4;by_cases hk:k<3
  ·obtain⟨r,c1,B1,j,k1,k2,k3,hr,hlp⟩:=lp_mt0 b [1,2+x] k (3*k) hk (by omega) hb c B ha1 ha2 ha3;have hinc:=Ar hk (by omega);have hk':(k:Int)<3:=by omega
   refine .inl ⟨(c1,B1,k+1),⟨k1,k2,λz hz=>by have:=k3 z hz;simp only;omega,by simp only;omega⟩,by simp only;omega,?_⟩;simp[b181_1,  hk,hk'];rw[hlp]
   ·simp[hr,hinc]
   ·simp
   ·simp
  ·obtain rfl:k=3:=by omega
   exact .inr ⟨_,by simp[b181_1];rfl,by simp,c,B,ha1,ha2,λz hz=>by have:=ha3 z hz;omega,by simp⟩) (c1,[[],[],[]],0) ⟨h1,rfl,λz hz=>by simp at hz;subst hz;simp,by simp⟩
 obtain⟨f1,c3,h3,e3⟩:=DT b c2 2 hb hc2 (by omega);obtain⟨f2,c4,h4,e4⟩:=DT b c3 3 hb h3 (by omega);simp only[cur]at e1 e3 e4
 cases f2
 ·obtain⟨f3,c5,h5,e5⟩:=DT b c4 3 hb h4 (by omega);obtain⟨z,c6,_,_,h6,e6⟩:=AO b c5 9 hb h5 (by omega);simp only[cur]at e5 e6;refine⟨⟨[1,2+x],B,f1,false,f3,z⟩,c6,⟨by simp,by simp only;omega,λz hz=>by have:=hB z hz;omega⟩,⟨hB3,by simp⟩,h6,sK p181 ?_⟩;simp (maxSteps:=9999999) [p181,  e0,e1,hw];rw[hlp]
  ·simp (maxSteps:=9999999) [hr,e3,e4,e5,e6]
  ·simp
  ·simp
 ·obtain⟨z,c6,_,_,h6,e6⟩:=AO b c4 9 hb h4 (by omega);simp only[cur]at e6;refine⟨⟨[1,2+x],B,f1,true,false,z⟩,c6,⟨by simp,by simp only;omega,λz hz=>by have:=hB z hz;omega⟩,⟨hB3,by simp⟩,h6,sK p181 ?_⟩;simp (maxSteps:=9999999) [p181,  e0,e1,hw];rw[hlp]
  ·simp (maxSteps:=9999999) [hr,e3,e4,e6]
  ·simp
  ·simp
theorem Va [PKI] (b:LI) (c:Nat×Int) (hb:byt b) (hc:c.1<=b.length): ∃m c',mtD m/\c'.1<=b.length/\sG 133 [.pm (cur b c)]=some ⟨[.a (AA (fM m))],[],[cur b c']⟩:=by
 obtain⟨⟨g,B,f,o,h,l⟩,c1,⟨hg,hB,hx⟩,⟨h3,hg5⟩,h1,e1⟩:=IA b c hb hc;simp only at hg hB hx h3 hg5;obtain⟨x,c2,hx2,_,h2,e2⟩:=AO b c1 12 hb h1 (by omega);simp only[cur,AA,AJ,fM]at e1 e2;by_cases x0:x=0
 ·obtain⟨y,c3,hy,k3,e3⟩:=Bw b c2 [0,1,9,100001] hb h2 (by simp) (by simp);simp only[cur,BN,BA,fI]at e3;have gs:(g.length+1)*8<=35184372088832:=by omega
  refine⟨⟨g++[y],B,f,o,h,l⟩,c3,⟨by simp;omega,hB,hx⟩,k3,sK p133 ?_⟩;simp (maxSteps:=9999999) [p133,  e1,e2,e3,x0,gs];exact AU fI g [y]
 by_cases x1:x=1
 ·obtain⟨y,c3,hy,_,k3,e3⟩:=AO b c2 3 hb h2 (by omega);obtain⟨k,rfl,hk⟩:=FM hy (by omega);obtain⟨m,c4,hm,k4,e4⟩:=IB b c3 hb k3;simp only[cur]at e3 e4;have hk3:k<B.length:=by omega
  refine⟨⟨g,B.set k m,f,o,h,l⟩,c4,⟨hg,by simp only[List.length_set];exact hB,λz hz=> ?_⟩,k4,sK p133 ?_⟩
  ·rcases List.mem_or_eq_of_mem_set hz with hz|rfl
   ·exact hx z hz
   ·omega
  have hset:(enc fII B).set k [T.sl 1 (enc fI m)]=enc fII (B.set k m):=A3 fII B k m;simp (maxSteps:=9999999) [p133,  e1,e2,e3,e4,x1,hk3,hset]
 by_cases x2:x=2
 ·refine⟨⟨g,B.take 2,f,o,h,l⟩,c2,⟨hg,by simp only[List.length_take];omega,λz hz=>hx z (List.mem_of_mem_take hz)⟩,h2,sK p133 ?_⟩;simp (maxSteps:=9999999) [p133,  e1,e2,x2,h3,Ax]
 by_cases x3:x=3
 ·refine⟨⟨g,B,f,true,true,l⟩,c2,⟨hg,hB,hx⟩,h2,sK p133 ?_⟩;simp (maxSteps:=9999999) [p133,  e1,e2,x3]
 by_cases x4:x=4
 ·obtain⟨y,c3,hy,k3,e3⟩:=Bw b c2 [-1,200,201] hb h2 (by simp) (by simp);simp only[cur,BN,BA,fI]at e3;refine⟨⟨g,B,f,o,h,y⟩,c3,⟨hg,hB,hx⟩,k3,sK p133 ?_⟩;simp (maxSteps:=9999999) [p133,  e1,e2,e3,x4]
 by_cases x5:x=5
 ·refine⟨⟨[],B,f,o,h,l⟩,c2,⟨by simp,hB,hx⟩,h2,sK p133 ?_⟩;simp (maxSteps:=9999999) [p133,  e1,e2,x5]
 refine⟨⟨g,B,f,o,h,l⟩,c2,⟨hg,hB,hx⟩,h2,sK p133 ?_⟩;simp (maxSteps:=9999999) [p133,  e1,e2,x0,x1,x2,x3,x4,x5]
structure slD (s:BG):Prop where
 S:slS s
 a:s.a.length<=200
 b:s.b.length<=200
theorem U2 {s:BG} (h:slD s) (m:Ay):slD (Br s m):=by
 refine⟨CZ h.S m,?_,?_⟩
 ·have h1:=En s m;have h2:=h.a;unfold Br;split
  ·split
   ·exact h2
   ·simp only;omega
  ·exact h2
 ·have h1:=En s m;have h2:=h.b;unfold Br;split
  ·split
   ·simp only;omega
   ·exact h2
  ·exact h2
@[simp] def st182 (b:LI) (c:Nat×Int) (s:BG) (j:Nat):St:=if j=0 then {n:=17,m:=1,tm:=[(0,.pb 0 0),(2,.pb 10000000 0),(3,.pb 10000001 0),(4,.sc (I6 j))],ob:=[(0,PZ b c),(10000000,.box [.nil 1,.nil 1]),(10000001,.box [.nil 1,.nil 1])]} else {n:=17,m:=1,tm:=[(0,.pb 0 0),(2,.pb 10000000 0),(3,.pb 10000001 0),(4,.sc (I6 j))],ob:=[(0,PZ b c),(10000000,.box [.nil 1,.nil 1]),(10000001,.box [.ref 10000002 [],.ref 10000003 []]),(10000002,.arr 1 (enc fU s.a)),(10000003,.arr 1 (enc fU s.b))]}
theorem OR [PKI] (b:LI) (c:Nat×Int) (hb:byt b) (hc:c.1<=b.length): ∃s c',slD s/\c'.1<=b.length/\sG 182 [.pm (cur b c)]=some ⟨[.a (AA (fSl s))],[],[cur b c']⟩:=by
 have s0:slD ⟨[],[]⟩:=⟨⟨⟨by simp,λx hx=>by cases hx⟩,⟨by simp,λx hx=>by cases hx⟩⟩,by simp,by simp⟩;obtain⟨r,⟨c1,s,j,hc1,hs,hj0,hr⟩,hlp⟩:= @EJ G PK md 10000000 [0,2,3,4] b182_0 ((Nat×Int)×BG×Nat) (λa=>st182 b a.1 a.2.1 a.2.2) (λa=>5 - a.2.2) (λa=>a.1.1<=b.length/\slD a.2.1/\(a.2.2=0->a.2.1=⟨[],[]⟩)/\a.2.2<=5) (λr=> ∃c s j,c.1<=b.length/\slD s/\(j=0->s=⟨[],[]⟩)/\r=(.exit 0,{st182 b c s j with tm:=(st182 b c s j).tm++[(9,.sc (.bool false))]})) (λa ha=>by
  obtain⟨c,s,j⟩:=a;obtain⟨ha1,ha2,ha3,ha4⟩:=ha;simp only at ha1 ha2 ha3 ha4;obtain⟨x,c1,hx,_,h1,e1⟩:=AO b c 4 hb ha1 (by omega);have hx:=hx (by omega);simp only[cur]at e1;by_cases hj:(j:Int)<x
  ·obtain⟨m,c2,hm,_,h2,e2⟩:=IA b c1 hb h1;have e3:=Cp s m ha2.S hm.S;simp only[cur,AD,lent,AA,AJ,fM,fSl]at e2 e3;have hinc:=Ar (j:=j) (n:=6) (by omega) (by omega);refine .inl ⟨(c2,Br s m,j+1),⟨h2,U2 ha2 m,λh=>by simp only at h;omega,by simp only;omega⟩,by simp only;omega,?_⟩;rcases Nat.eq_zero_or_pos j with h0|h0
   ·have:=ha3 h0;subst h0 this;simp only[BA]at e3;have hj':(0:Int)<x:=by simpa using hj
    generalize Br ⟨[],[]⟩ m=s' at*;simp (maxSteps:=9999999) [b182_0,  e1,e2,e3,hj',hinc,show IntKind.wrap .i64 1=1 from rfl]
   ·have h0': ¬j=0:=by omega
    generalize Br s m=s' at*;simp (maxSteps:=9999999) [b182_0,  e1,e2,e3,hj,hinc,h0']
  ·refine .inr ⟨(.exit 0,{st182 b c1 s j with tm:=(st182 b c1 s j).tm++[(9,.sc (.bool false))]}),?_,by simp,c1,s,j,h1,ha2,ha3,rfl⟩;by_cases h0:j=0
   ·subst h0;have hj': ¬ (0:Int)<x:=by simpa using hj
    simp[b182_0,  e1,hj']
   ·simp[b182_0,  e1,hj,h0]) (c,⟨[],[]⟩,0) ⟨hc,s0,λ_=>rfl,by simp⟩
 refine⟨s,c1,hs,hc1,sK p182 ?_⟩;simp[p182];rw[hlp]
 ·by_cases h0:j=0
  ·have:=hj0 h0;subst h0 this;simp[hr]
  ·simp[hr,h0]
 ·simp
 ·simp
theorem VZ [PKI] (b:LI) (c:Nat×Int) (hb:byt b) (hc:c.1<=b.length): ∃s c',slS s/\c'.1<=b.length/\sG 134 [.pm (cur b c)]=some ⟨[.a (AA (fSl s))],[],[cur b c']⟩:=by
 obtain⟨⟨u,v⟩,c1,⟨hS,hu,hv⟩,h1,e1⟩:=OR b c hb hc;simp only at hu hv;obtain⟨x,c2,_,_,h2,e2⟩:=AO b c1 8 hb h1 (by omega);simp only[cur,AA,AJ,fSl]at e1 e2;by_cases x0:x=0
 ·obtain⟨r,c3,fin,hr,k3,hfin,e3⟩:=QI b c2 u hb h2 hS.1 (by omega);simp only[cur]at e3;refine⟨⟨r,v⟩,c3,⟨hr,hS.2⟩,k3,sK p134 ?_⟩;rcases hfin with rfl|rfl<;>simp (maxSteps:=9999999) [p134,  e1,e2,e3,x0]
 by_cases x1:x=1
 ·obtain⟨r,c3,fin,hr,k3,hfin,e3⟩:=QI b c2 v hb h2 hS.2 (by omega);simp only[cur]at e3;refine⟨⟨u,r⟩,c3,⟨hS.1,hr⟩,k3,sK p134 ?_⟩;rcases hfin with rfl|rfl<;>simp (maxSteps:=9999999) [p134,  e1,e2,e3,x1]
 by_cases x2:x=2
 ·have g:u.length+1<=35184372088832:=by omega
  refine⟨⟨u++[9],v⟩,c2,⟨⟨by simp;omega,λz hz=> ?_⟩,hS.2⟩,h2,sK p134 ?_⟩
  ·rcases List.mem_append.1 hz with hz|hz
   ·exact hS.1.2 z hz
   ·rw[List.mem_singleton.1 hz];omega
  simp (maxSteps:=9999999) [p134,  e1,e2,x2,g];exact AU fU u [9]
 refine⟨⟨u,v⟩,c2,hS,h2,sK p134 ?_⟩;simp (maxSteps:=9999999) [p134,  e1,e2,x0,x1,x2]
theorem Sa [PKI] (w:AB): ∃p,(p=0\/p=1)/\sG 115 [.a (AD (fWo w))]=some ⟨[.v (.sc (I6 p))],[],[]⟩:=by
 by_cases h:1<w.nodes.length
 ·obtain⟨x,hx⟩:=AF h;obtain⟨_,hx'⟩:=BT hx;have e:=Dm x.prime;refine⟨if x.prime then 1 else 0,by cases x.prime<;>simp,sK p115 ?_⟩;have h':(1:Int)<w.nodes.length:=by omega
  simp[p115,  h,h',hx,hx',e,bit]
 ·have e:=Dm false;refine⟨0,.inl rfl,sK p115 ?_⟩;have h': ¬ (1:Int)<w.nodes.length:=by omega
  simp only[bit,Bool.false_eq_true,if_false]at e;simp[p115,  h,h',e]
@[simp] def wfin (w:AB):List (Option (List (List T))):=[some (enc fN w.nodes),some (enc fW w.net),some (enc fR w.log),some (enc fI w.safe)]
@[simp] def obD (b:LI) (c:Nat×Int) (w:AB) (o:Nat) (d:CD):List (Nat×Obj):=[(0,PZ b c),(1,.arr 16 (enc fN w.nodes)),(2,.arr 3 (enc fW w.net)),(3,.arr 2 (enc fR w.log)),(4,.arr 1 (enc fI w.safe)),(o,.box [.ref 1 [],.ref 2 [],.ref 3 [],.ref 4 [],.sc (I6 w.gen)]),(o+1,.box [.sc (I6 d.kind),.sc (I6 d.a),.sc (I6 d.b)])]
@[simp] def obR (b:LI) (c:Nat×Int) (w:AB) (o:Nat) (d:CD):List (Nat×Obj):=[(o+1,.box [.sc (I6 d.kind),.sc (I6 d.a),.sc (I6 d.b)]),(0,PZ b c),(1,.arr 16 (enc fN w.nodes)),(2,.arr 3 (enc fW w.net)),(3,.arr 2 (enc fR w.log)),(4,.arr 1 (enc fI w.safe)),(o,.box [.ref 1 [],.ref 2 [],.ref 3 [],.ref 4 [],.sc (I6 w.gen)])]
@[simp] def rtD (b:LI) (c:Nat×Int) (w:AB) (o:Nat) (d:CD):Ex×St:=(.ret,{n:=137,m:=5,tm:=[(4,.pb (o+1) 0)],ob:=obR b c w o d})
@[simp] def st69_2 (b:LI) (c:Nat×Int) (w:AB) (a:Int) (j:Nat):St:={n:=137,m:=5,tm:=[(3,.pb 10000100 0),(4,.pb 10000101 0),(5,.sc (I6 a)),(7,.sc (I6 j))],ob:=obD b c w 10000100 ⟨0,0,0⟩}
@[simp] def st69_1 (b:LI) (c:Nat×Int) (w:AB) (i:Nat):St:={n:=137,m:=5,tm:=[(0,.pb 0 0),(3,.pb 10000300 0),(4,.pb 10000301 0),(8,.sc (I6 i))],ob:=obD b c w 10000300 ⟨0,0,0⟩}
@[simp] def st69_0 (b:LI) (c:Nat×Int) (w:AB) (i j:Nat):St:={n:=137,m:=5,tm:=[(0,.pb 0 0),(3,.pb 10000500 0),(4,.pb 10000501 0),(8,.sc (I6 i)),(9,.sc (I6 j))],ob:=obD b c w 10000500 ⟨0,0,0⟩}
theorem Wk [PKI] (b:LI) (c:Nat×Int) (w:AB) (a:Int) (h3:w.nodes.length=3): ∃r,((∃d,r=rtD b c w 10000100 d)\/r=(.exit 1,{st69_2 b c w a 3 with tm:=(st69_2 b c w a 3).tm++[(61,.sc (.bool false))]}))/\ ∀ (s:St),s.m<=10000100->Aa 10000100 [3,4,5,7] s=st69_2 b c w a 0->A6 G PK md 10000100 [3,4,5,7] b69_2 s=some r:=by
 refine @EJ G PK md 10000100 [3,4,5,7] b69_2 _ (st69_2 b c w a) (λj=>3 - j) (λj=>j<=3) (λr=>(∃d,r=rtD b c w 10000100 d)\/r=(.exit 1,{st69_2 b c w a 3 with tm:=(st69_2 b c w a 3).tm++[(61,.sc (.bool false))]})) (λj hj=> ?_) 0 (by omega);by_cases h:j<3
 ·obtain⟨x,hx⟩:=AF (l:=w.nodes) (i:=j) (by omega);obtain⟨_,hx'⟩:=BT hx;have hj':(j:Int)<3:=by omega
  have hinc:=Ar h (by omega)
  cases hu:x.up
  ·exact .inr ⟨rtD b c w 10000100 ⟨5,j,0⟩,by simp[b69_2,  h,hj',h3,hx,hx',hu],by simp,.inl ⟨_,rfl⟩⟩
  ·refine .inl ⟨j+1,by omega,by omega,?_⟩;simp[b69_2,  h,hj',h3,hx,hx',hu,hinc]
 ·obtain rfl:j=3:=by omega
  exact .inr ⟨(.exit 1,{st69_2 b c w a 3 with tm:=(st69_2 b c w a 3).tm++[(61,.sc (.bool false))]}),by simp[b69_2],by simp,.inr rfl⟩
theorem Wm [PKI] (b:LI) (c:Nat×Int) (w:AB) (i:Nat) (hi:i<3) (h3:w.nodes.length=3) (hc: ∀x∈w.nodes,x.copies.length=3): ∃r,((∃d,r=rtD b c w 10000500 d)\/r=(.exit 5,{st69_0 b c w i 3 with tm:=(st69_0 b c w i 3).tm++[(115,.sc (.bool false))]}))/\ ∀ (s:St),s.m<=10000500->Aa 10000500 [0,3,4,8,9] s=st69_0 b c w i 0->A6 G PK md 10000500 [0,3,4,8,9] b69_0 s=some r:=by
 refine @EJ G PK md 10000500 [0,3,4,8,9] b69_0 _ (st69_0 b c w i) (λj=>3 - j) (λj=>j<=3) (λr=>(∃d,r=rtD b c w 10000500 d)\/r=(.exit 5,{st69_0 b c w i 3 with tm:=(st69_0 b c w i 3).tm++[(115,.sc (.bool false))]})) (λj hj=> ?_) 0 (by omega);by_cases h:j<3
 ·obtain⟨x,hx⟩:=AF (l:=w.nodes) (i:=i) (by omega);obtain⟨_,hx'⟩:=BT hx;obtain⟨z,hz⟩:=AF (l:=x.copies) (i:=j) (by rw[hc x (List.mem_of_getElem? hx)];omega);obtain⟨hzl,hz'⟩:=BT hz;have hj':(j:Int)<3:=by omega
  have hil:i<w.nodes.length:=by omega
  have hinc:=Ar h (by omega)
  cases z
  ·refine .inl ⟨j+1,by omega,by omega,?_⟩;simp[b69_0,  h,hj',hil,hx,hx',hz,hz',hzl,hinc]
  ·exact .inr ⟨rtD b c w 10000500 ⟨9,i,j⟩,by simp[b69_0,  h,hj',hil,hx,hx',hz,hz',hzl],by simp,.inl ⟨_,rfl⟩⟩
 ·obtain rfl:j=3:=by omega
  exact .inr ⟨(.exit 5,{st69_0 b c w i 3 with tm:=(st69_0 b c w i 3).tm++[(115,.sc (.bool false))]}),by simp[b69_0],by simp,.inr rfl⟩
theorem Wl [PKI] (b:LI) (c:Nat×Int) (w:AB) (h3:w.nodes.length=3) (hc: ∀x∈w.nodes,x.copies.length=3): ∃r,((∃o d,(o=10000300\/o=10000500)/\r=rtD b c w o d)\/r=(.exit 3,{st69_1 b c w 3 with tm:=(st69_1 b c w 3).tm++[(111,.sc (.bool false))]}))/\ ∀ (s:St),s.m<=10000300->Aa 10000300 [0,3,4,8] s=st69_1 b c w 0->A6 G PK md 10000300 [0,3,4,8] b69_1 s=some r:=by
 refine @EJ G PK md 10000300 [0,3,4,8] b69_1 _ (st69_1 b c w) (λj=>3 - j) (λj=>j<=3) (λr=>(∃o d,(o=10000300\/o=10000500)/\r=rtD b c w o d)\/r=(.exit 3,{st69_1 b c w 3 with tm:=(st69_1 b c w 3).tm++[(111,.sc (.bool false))]})) (λj hj=> ?_) 0 (by omega);by_cases h:j<3
 ·obtain⟨r,hr,hlp⟩:=Wm b c w j h h3 hc;have hj':(j:Int)<3:=by omega
  have hinc:=Ar h (by omega);rcases hr with ⟨d,hr⟩|hr
  ·refine .inr ⟨rtD b c w 10000500 d,?_,by simp,.inl ⟨_,_,.inr rfl,rfl⟩⟩;simp[b69_1,  h,hj',h3];rw[hlp]
   ·simp[hr]
   ·simp
   ·simp
  ·refine .inl ⟨j+1,by omega,by omega,?_⟩;simp[b69_1,  h,hj',h3];rw[hlp]
   ·simp[hr,hinc]
   ·simp
   ·simp
 ·obtain rfl:j=3:=by omega
  exact .inr ⟨(.exit 3,{st69_1 b c w 3 with tm:=(st69_1 b c w 3).tm++[(111,.sc (.bool false))]}),by simp[b69_1],by simp,.inr rfl⟩
theorem OV [PKI] (b:LI) (c:Nat×Int) (w:AB) (hb:byt b) (hc:c.1<=b.length) (h3:w.nodes.length=3) (hcp: ∀x∈w.nodes,x.copies.length=3) (hn:w.net.length<=1048576): ∃d c',c'.1<=b.length/\sG 69 [.pm (cur b c),.a (AA (fWo w))]=some ⟨[.a (AA (fD d))],wfin w,[cur b c']⟩:=by
 obtain⟨a,c1,ha,_,k1,e1⟩:=AO b c 3 hb hc (by omega);have ha:=ha (by omega);obtain⟨p,hp,e2⟩:=Sa w;obtain⟨x,c2,hx,_,k2,e3⟩:=AO b c1 22 hb k1 (by omega);have hx:=hx (by omega);simp only[cur,AD,lent,fWo]at e1 e2 e3;by_cases hA:x=0\/x=1\/x=2\/x=3\/x=4
 ·obtain⟨y,c3,_,_,k3,e4⟩:=AO b c2 8 hb k2 (by omega);simp only[cur]at e4;refine⟨⟨1,p,y⟩,c3,k3,sK p69 ?_⟩;rcases hA with rfl|rfl|rfl|rfl|rfl<;>simp (maxSteps:=9999999) [p69,  e1,e2,e3,e4]
 by_cases h5:x=5
 ·subst h5;refine⟨⟨2,0,1⟩,c2,k2,sK p69 ?_⟩;simp (maxSteps:=9999999) [p69,  e1,e2,e3]
 by_cases h6:x=6
 ·subst h6;refine⟨⟨2,p,2⟩,c2,k2,sK p69 ?_⟩;simp (maxSteps:=9999999) [p69,  e1,e2,e3]
 by_cases h7:x=7
 ·subst h7;have w1:IntKind.wrap .i64 (a+1)=a+1:=AC (by omega) (by omega);have ht0:0<=(a+1).tmod 3:=Int.tmod_nonneg _ (by omega);have ht1:(a+1).tmod 3<3:=Int.tmod_lt_of_pos _ (by omega);have w2:IntKind.wrap .i64 ((a+1).tmod 3)=(a+1).tmod 3:=AC (by omega) (by omega);refine⟨⟨3,a,(a+1).tmod 3⟩,c2,k2,sK p69 ?_⟩;simp (maxSteps:=9999999) [p69,  e1,e2,e3,w1,w2]
 by_cases h8:x=8
 ·subst h8;obtain⟨y,c3,_,k3,e4⟩:=Bw b c2 [4,4,6] hb k2 (by simp) (by simp);obtain⟨z,c4,_,k4,e5⟩:=Bw b c3 [0,1,4,9,30,155] hb k3 (by simp) (by simp);simp only[cur,BN,BA,fI]at e4 e5;refine⟨⟨y,a,z⟩,c4,k4,sK p69 ?_⟩;simp (maxSteps:=9999999) [p69,  e1,e2,e3,e4,e5]
 by_cases hB:x=9\/x=10
 ·obtain⟨r,hr,hlp⟩:=Wk b c2 w a h3;rcases hr with ⟨d,hr⟩|hr
  ·refine⟨d,c2,k2,sK p69 ?_⟩;rcases hB with rfl|rfl
   all_goals
    simp (maxSteps:=9999999) [p69,  e1,e2,e3]
    rw[hlp]
    ·simp[hr]
    ·simp
    ·simp
  ·refine⟨⟨5,a,0⟩,c2,k2,sK p69 ?_⟩;rcases hB with rfl|rfl
   all_goals
    simp (maxSteps:=9999999) [p69,  e1,e2,e3]
    rw[hlp]
    ·simp[hr]
    ·simp
    ·simp
 by_cases h11:x=11
 ·subst h11;obtain⟨y,c3,_,_,k3,e4⟩:=AO b c2 2 hb k2 (by omega);simp only[cur]at e4;refine⟨⟨10,y,0⟩,c3,k3,sK p69 ?_⟩;simp (maxSteps:=9999999) [p69,  e1,e2,e3,e4]
 by_cases hC:x=12\/x=13
 ·obtain⟨y,c3,_,_,k3,e4⟩:=AO b c2 2 hb k2 (by omega);simp only[cur]at e4;refine⟨⟨11,y,0⟩,c3,k3,sK p69 ?_⟩;rcases hC with rfl|rfl<;>simp (maxSteps:=9999999) [p69,  e1,e2,e3,e4]
 have em:=XS w.net.length 1;have hmx:max (w.net.length:Int) 1<=1152921504606846976:=by omega
 by_cases h14:x=14
 ·subst h14;obtain⟨f,c3,k3,e4⟩:=DT b c2 3 hb k2 (by omega);simp only[cur]at e4
  cases f
  ·obtain⟨y,c4,_,_,k4,e5⟩:=AO b c3 _ hb k3 hmx;simp only[cur]at e5;refine⟨⟨8,y,0⟩,c4,k4,sK p69 ?_⟩;simp (maxSteps:=9999999) [p69,  e1,e2,e3,e4,e5,em]
  ·refine⟨⟨12,p,0⟩,c3,k3,sK p69 ?_⟩;simp (maxSteps:=9999999) [p69,  e1,e2,e3,e4]
 obtain⟨y,c3,_,_,k3,e4⟩:=AO b c2 _ hb k2 hmx;simp only[cur]at e4;by_cases hD:x=15\/x=16\/x=17
 ·obtain⟨r,hr,hlp⟩:=Wl b c2 w h3 hcp;rcases hr with ⟨o,d,ho,hr⟩|hr
  ·refine⟨d,c2,k2,sK p69 ?_⟩;rcases hD with rfl|rfl|rfl
   all_goals
    simp (maxSteps:=9999999) [p69,  e1,e2,e3]
    rw[hlp]
    ·rcases ho with rfl|rfl<;>simp[hr]
    ·simp
    ·simp
  ·refine⟨⟨7,y,0⟩,c3,k3,sK p69 ?_⟩;rcases hD with rfl|rfl|rfl
   all_goals
    simp (maxSteps:=9999999) [p69,  e1,e2,e3]
    rw[hlp]
    ·simp[hr,e4,em]
    ·simp
    ·simp
 have n0: ¬x=0:=by omega
 have n1: ¬x=1:=by omega
 have n2: ¬x=2:=by omega
 have n3: ¬x=3:=by omega
 have n4: ¬x=4:=by omega
 have n9: ¬x=9:=by omega
 have n10: ¬x=10:=by omega
 have n12: ¬x=12:=by omega
 have n13: ¬x=13:=by omega
 have n15: ¬x=15:=by omega
 have n16: ¬x=16:=by omega
 have n17: ¬x=17:=by omega
 refine⟨⟨7,y,0⟩,c3,k3,sK p69 ?_⟩;simp (maxSteps:=9999999) [p69,  e1,e2,e3,e4,em,n0,n1,n2,n3,n4,h5,h6,h7,h8,n9,n10,h11,n12,n13,h14,n15,n16,n17]
end Go.Proofs.YtghgecpicnfgpaaGreat.Ow
