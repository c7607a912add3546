/- What is drawn: metas, slots; told by their bounds alone. -/
import Derived.Test.YtbolhfegdocpeaaGreatEv27
namespace Go.Proofs.YtbolhfegdocpeaaGreat.Ow
open Go
set_option linter.unusedVariables false
set_option linter.unusedSimpArgs false
set_option maxHeartbeats 16000000
variable {PK:Nat->List Arg->Option Res}
structure mtD (m:Av):Prop where
 gens:m.gens.length<=100
 bits:m.bits.length<=3
 bit: ∀x∈m.bits,x.length<=100
theorem mtD.S {m:Av} (h:mtD m):mtS m:=⟨by have:=h.gens;omega,by have:=h.bits;omega,fun x hx=>by have:=h.bit x hx;omega⟩
@[simp] def st144_1 (b:List Int) (g:List Int) (c:Nat×Int) (B:List (List Int)) (k:Nat):St:={n:=55,m:=1,tm:=[(0,.pb 0 0),(2,.pb 10000000 0),(3,.pb 10000001 0),(4,.sc (.int .i64 k))],ob:=[(0,M3 b c),(10000000,.box [.nil 1,.nil 1,.sc (.bool false),.sc (.bool false),.sc (.bool false),.sc (.int .i64 0)]),(10000001,.box [.ref 10000002 [],.ref 10000003 [],.sc (.bool true),.sc (.bool false),.sc (.bool false),.sc (.int .i64 0)]),(10000002,.arr 1 (enc fI g)),(10000003,.arr 1 (enc fII B))]}
@[simp] def st144_0 (b:List Int) (g:List Int) (k:Nat) (c:Nat×Int) (B:List (List Int)) (j:Nat):St:={n:=55,m:=1,tm:=[(0,.pb 0 0),(2,.pb 10000200 0),(3,.pb 10000201 0),(4,.sc (.int .i64 k)),(5,.sc (.int .i64 j))],ob:=[(0,M3 b c),(10000200,.box [.nil 1,.nil 1,.sc (.bool false),.sc (.bool false),.sc (.bool false),.sc (.int .i64 0)]),(10000201,.box [.ref 10000202 [],.ref 10000203 [],.sc (.bool true),.sc (.bool false),.sc (.bool false),.sc (.int .i64 0)]),(10000202,.arr 1 (enc fI g)),(10000203,.arr 1 (enc fII B))]}
theorem lp_mt0 (b g:List Int) (k N:Nat) (hk:k<3) (hN:N<=100) (hb:byt b) (c:Nat×Int) (B:List (List Int)) (hc:c.1<=b.length) (h3:B.length=3) (hB: ∀x∈B,x.length<=N):
  ∃r c' B' j,c'.1<=b.length/\B'.length=3/\(∀x∈B',x.length<=N+3)/\r=(.exit 2,{st144_0 b g k c' B' j with tm:=(st144_0 b g k c' B' j).tm++[(22,.sc (.bool false))]})/\ ∀ (s:St),s.m<=10000200->Ai 10000200 [0,2,3,4,5] s=st144_0 b g k c B 0->Ag G PK md 10000200 [0,2,3,4,5] b144_0 s=some r:=by
 obtain⟨r,⟨c1,B1,j,hc1,k3,hB1,hr⟩,hlp⟩:=DN (G:=G) (PK:=PK) (md:=md) (o:=10000200) (live:=[0,2,3,4,5]) (c:=b144_0) (α:=(Nat×Int)×List (List Int)×Nat) (fun a=>st144_0 b g k a.1 a.2.1 a.2.2) (fun a=>4 - a.2.2) (fun a=>a.1.1<=b.length/\a.2.1.length=3/\(∀x∈a.2.1,x.length<=N+a.2.2)/\a.2.2<=3) (fun r=> ∃c B j,c.1<=b.length/\B.length=3/\(∀x∈B,x.length<=N+3)/\r=(.exit 2,{st144_0 b g k c B j with tm:=(st144_0 b g k c B j).tm++[(22,.sc (.bool false))]})) (fun a ha=>by
  obtain⟨c,B,j⟩:=a;obtain⟨ha1,ha2,ha3,ha4⟩:=ha;simp only at ha1 ha2 ha3 ha4;obtain⟨x,c1,hx,_,h1,e1⟩:=AP (PK:=PK) b c 3 hb ha1 (by omega);have hx:=hx (by omega);simp only[cur]at e1;by_cases hj:(j:Int)<x
  ·obtain⟨y,c2,hy,_,h2,e2⟩:=AP (PK:=PK) b c1 8 hb h1 (by omega);obtain⟨m,hm,hm',hm2,_,hmm⟩:=Ax B (j:=k) (by omega);have hml:=ha3 m hmm;have e3:=JB (PK:=PK) m y (by omega);have hl:=Gh m y;simp only[cur]at e2;have hinc:=A2 (j:=j) (n:=6) (by omega) (by omega);refine .inl ⟨(c2,B.set k (D8 m y),j+1),⟨h2,by simp only[List.length_set];exact ha2,fun z hz=> ?_,by simp only;omega⟩,by simp only;omega,?_⟩
   ·simp only at hz ⊢;rcases List.mem_or_eq_of_mem_set hz with hz|rfl
    ·have:=ha3 z hz;omega
    ·omega
   have hset:(enc fII B).set k [T.sl 1 (enc fI (D8 m y))]=enc fII (B.set k (D8 m y)):=Bc fII B k (D8 m y);simp[b144_0,md,e1,e2,e3,hj,hinc,hm,hm2,hset]
  ·exact .inr ⟨_,by simp[b144_0,md,e1,hj];rfl,by simp,c1,B,j,h1,ha2,fun z hz=>by have:=ha3 z hz;omega,by simp⟩) (c,B,0) ⟨hc,h3,fun x hx=>by have:=hB x hx;simp only;omega,by simp⟩
 exact⟨r,c1,B1,j,hc1,k3,hB1,hr,hlp⟩
theorem Gw (b:List Int) (c:Nat×Int) (hb:byt b) (hc:c.1<=b.length): ∃m c',mtD m/\(m.bits.length=3/\m.gens.length<=50)/\c'.1<=b.length/\AH G PK md 144 [.pm (cur b c)]=some ⟨[.a (AD (fM m))],[],[cur b c']⟩:=by
 have e0:=GD (PK:=PK);simp only[Iy,AD,AX,fM,BZ,BK,fI,fII]at e0;obtain⟨x,c1,hx,_,h1,e1⟩:=AP (PK:=PK) b c 3 hb hc (by omega);have hx:=hx (by omega);have hw:IntKind.wrap .i64 (2+x)=2+x:=AC (by omega) (by omega);obtain⟨r,⟨c2,B,hc2,hB3,hB,hr⟩,hlp⟩:=DN (G:=G) (PK:=PK) (md:=md) (o:=10000000) (live:=[0,2,3,4]) (c:=b144_1) (α:=(Nat×Int)×List (List Int)×Nat) (fun a=>st144_1 b [1,2+x] a.1 a.2.1 a.2.2) (fun a=>3 - a.2.2) (fun a=>a.1.1<=b.length/\a.2.1.length=3/\(∀x∈a.2.1,x.length<=3*a.2.2)/\a.2.2<=3) (fun r=> ∃c B,c.1<=b.length/\B.length=3/\(∀x∈B,x.length<=9)/\r=(.exit 0,{st144_1 b [1,2+x] c B 3 with tm:=(st144_1 b [1,2+x] c B 3).tm++[(16,.sc (.bool false))]})) (fun a ha=>by
  obtain⟨c,B,k⟩:=a;obtain⟨ha1,ha2,ha3,ha4⟩:=ha;simp only at ha1 ha2 ha3 ha4;by_cases hk:k<3
  ·obtain⟨r,c1,B1,j,k1,k2,k3,hr,hlp⟩:=lp_mt0 (PK:=PK) b [1,2+x] k (3*k) hk (by omega) hb c B ha1 ha2 ha3;have hinc:=A2 hk (by omega);have hk':(k:Int)<3:=by omega
   refine .inl ⟨(c1,B1,k+1),⟨k1,k2,fun z hz=>by have:=k3 z hz;simp only;omega,by simp only;omega⟩,by simp only;omega,?_⟩;simp[b144_1,md,hk,hk'];rw[hlp]
   ·simp[hr,hinc]
   ·simp
   ·simp
  ·obtain rfl:k=3:=by omega
   exact .inr ⟨_,by simp[b144_1,md];rfl,by simp,c,B,ha1,ha2,fun z hz=>by have:=ha3 z hz;omega,by simp⟩) (c1,[[],[],[]],0) ⟨h1,rfl,fun z hz=>by simp at hz;subst hz;simp,by simp⟩
 obtain⟨f1,c3,h3,e3⟩:=DB (PK:=PK) b c2 2 hb hc2 (by omega);obtain⟨f2,c4,h4,e4⟩:=DB (PK:=PK) b c3 3 hb h3 (by omega);simp only[cur]at e1 e3 e4
 cases f2
 ·obtain⟨f3,c5,h5,e5⟩:=DB (PK:=PK) b c4 3 hb h4 (by omega);obtain⟨z,c6,_,_,h6,e6⟩:=AP (PK:=PK) b c5 9 hb h5 (by omega);simp only[cur]at e5 e6;refine⟨⟨[1,2+x],B,f1,false,f3,z⟩,c6,⟨by simp,by simp only;omega,fun z hz=>by have:=hB z hz;omega⟩,⟨hB3,by simp⟩,h6,AA (pf:=p144) rfl (by simp[p144]) ?_⟩;simp (config:={maxSteps:=10000000}) [p144,md,e0,e1,hw,AF];rw[hlp]
  ·simp (config:={maxSteps:=10000000}) [hr,e3,e4,e5,e6]
  ·simp
  ·simp
 ·obtain⟨z,c6,_,_,h6,e6⟩:=AP (PK:=PK) b c4 9 hb h4 (by omega);simp only[cur]at e6;refine⟨⟨[1,2+x],B,f1,true,false,z⟩,c6,⟨by simp,by simp only;omega,fun z hz=>by have:=hB z hz;omega⟩,⟨hB3,by simp⟩,h6,AA (pf:=p144) rfl (by simp[p144]) ?_⟩;simp (config:={maxSteps:=10000000}) [p144,md,e0,e1,hw,AF];rw[hlp]
  ·simp (config:={maxSteps:=10000000}) [hr,e3,e4,e6]
  ·simp
  ·simp
theorem Sp (b:List Int) (c:Nat×Int) (hb:byt b) (hc:c.1<=b.length): ∃m c',mtD m/\c'.1<=b.length/\AH G PK md 113 [.pm (cur b c)]=some ⟨[.a (AD (fM m))],[],[cur b c']⟩:=by
 obtain⟨⟨g,B,f,o,h,l⟩,c1,⟨hg,hB,hx⟩,⟨h3,hg5⟩,h1,e1⟩:=Gw (PK:=PK) b c hb hc;simp only at hg hB hx h3 hg5;obtain⟨x,c2,hx2,_,h2,e2⟩:=AP (PK:=PK) b c1 12 hb h1 (by omega);simp only[cur,AD,AX,fM]at e1 e2;by_cases x0:x=0
 ·obtain⟨y,c3,hy,k3,e3⟩:=Bj (PK:=PK) b c2 [0,1,9,100001] hb h2 (by simp) (by simp);simp only[cur,BZ,BK,fI]at e3;have gs:(g.length+1)*8<=35184372088832:=by omega
  refine⟨⟨g++[y],B,f,o,h,l⟩,c3,⟨by simp;omega,hB,hx⟩,k3,AA (pf:=p113) rfl (by simp[p113]) ?_⟩;simp (config:={maxSteps:=10000000}) [p113,md,e1,e2,e3,x0,gs,AF];exact Ac fI g [y]
 by_cases x1:x=1
 ·obtain⟨y,c3,hy,_,k3,e3⟩:=AP (PK:=PK) b c2 3 hb h2 (by omega);obtain⟨k,rfl,hk⟩:=EL hy (by omega);obtain⟨m,c4,hm,k4,e4⟩:=Gx (PK:=PK) b c3 hb k3;simp only[cur]at e3 e4;have hk3:k<B.length:=by omega
  refine⟨⟨g,B.set k m,f,o,h,l⟩,c4,⟨hg,by simp only[List.length_set];exact hB,fun z hz=> ?_⟩,k4,AA (pf:=p113) rfl (by simp[p113]) ?_⟩
  ·rcases List.mem_or_eq_of_mem_set hz with hz|rfl
   ·exact hx z hz
   ·omega
  have hset:(enc fII B).set k [T.sl 1 (enc fI m)]=enc fII (B.set k m):=Bc fII B k m;simp (config:={maxSteps:=10000000}) [p113,md,e1,e2,e3,e4,x1,hk3,hset,AF]
 by_cases x2:x=2
 ·refine⟨⟨g,B.take 2,f,o,h,l⟩,c2,⟨hg,by simp only[List.length_take];omega,fun z hz=>hx z (List.mem_of_mem_take hz)⟩,h2,AA (pf:=p113) rfl (by simp[p113]) ?_⟩;simp (config:={maxSteps:=10000000}) [p113,md,e1,e2,x2,h3,A5,AF]
 by_cases x3:x=3
 ·refine⟨⟨g,B,f,true,true,l⟩,c2,⟨hg,hB,hx⟩,h2,AA (pf:=p113) rfl (by simp[p113]) ?_⟩;simp (config:={maxSteps:=10000000}) [p113,md,e1,e2,x3,AF]
 by_cases x4:x=4
 ·obtain⟨y,c3,hy,k3,e3⟩:=Bj (PK:=PK) b c2 [-1,200,201] hb h2 (by simp) (by simp);simp only[cur,BZ,BK,fI]at e3;refine⟨⟨g,B,f,o,h,y⟩,c3,⟨hg,hB,hx⟩,k3,AA (pf:=p113) rfl (by simp[p113]) ?_⟩;simp (config:={maxSteps:=10000000}) [p113,md,e1,e2,e3,x4,AF]
 by_cases x5:x=5
 ·refine⟨⟨[],B,f,o,h,l⟩,c2,⟨by simp,hB,hx⟩,h2,AA (pf:=p113) rfl (by simp[p113]) ?_⟩;simp (config:={maxSteps:=10000000}) [p113,md,e1,e2,x5,AF]
 refine⟨⟨g,B,f,o,h,l⟩,c2,⟨hg,hB,hx⟩,h2,AA (pf:=p113) rfl (by simp[p113]) ?_⟩;simp (config:={maxSteps:=10000000}) [p113,md,e1,e2,x0,x1,x2,x3,x4,x5,AF]
structure slD (s:A8):Prop where
 S:slS s
 a:s.a.length<=200
 b:s.b.length<=200
theorem SL {s:A8} (h:slD s) (m:Av):slD (B4 s m):=by
 refine⟨CO h.S m,?_,?_⟩
 ·have h1:=FK s m;have h2:=h.a;unfold B4;split
  ·split
   ·exact h2
   ·simp only;omega
  ·exact h2
 ·have h1:=FK s m;have h2:=h.b;unfold B4;split
  ·split
   ·simp only;omega
   ·exact h2
  ·exact h2
@[simp] def st145 (b:List Int) (c:Nat×Int) (s:A8) (j:Nat):St:=if j=0 then {n:=17,m:=1,tm:=[(0,.pb 0 0),(2,.pb 10000000 0),(3,.pb 10000001 0),(4,.sc (.int .i64 j))],ob:=[(0,M3 b c),(10000000,.box [.nil 1,.nil 1]),(10000001,.box [.nil 1,.nil 1])]} else {n:=17,m:=1,tm:=[(0,.pb 0 0),(2,.pb 10000000 0),(3,.pb 10000001 0),(4,.sc (.int .i64 j))],ob:=[(0,M3 b c),(10000000,.box [.nil 1,.nil 1]),(10000001,.box [.ref 10000002 [],.ref 10000003 []]),(10000002,.arr 1 (enc fU s.a)),(10000003,.arr 1 (enc fU s.b))]}
theorem MD (b:List Int) (c:Nat×Int) (hb:byt b) (hc:c.1<=b.length): ∃s c',slD s/\c'.1<=b.length/\AH G PK md 145 [.pm (cur b c)]=some ⟨[.a (AD (fSl s))],[],[cur b c']⟩:=by
 have s0:slD ⟨[],[]⟩:=⟨⟨⟨by simp,fun x hx=>by cases hx⟩,⟨by simp,fun x hx=>by cases hx⟩⟩,by simp,by simp⟩;obtain⟨r,⟨c1,s,j,hc1,hs,hj0,hr⟩,hlp⟩:=DN (G:=G) (PK:=PK) (md:=md) (o:=10000000) (live:=[0,2,3,4]) (c:=b145_0) (α:=(Nat×Int)×A8×Nat) (fun a=>st145 b a.1 a.2.1 a.2.2) (fun a=>5 - a.2.2) (fun a=>a.1.1<=b.length/\slD a.2.1/\(a.2.2=0->a.2.1=⟨[],[]⟩)/\a.2.2<=5) (fun r=> ∃c s j,c.1<=b.length/\slD s/\(j=0->s=⟨[],[]⟩)/\r=(.exit 0,{st145 b c s j with tm:=(st145 b c s j).tm++[(9,.sc (.bool false))]})) (fun a ha=>by
  obtain⟨c,s,j⟩:=a;obtain⟨ha1,ha2,ha3,ha4⟩:=ha;simp only at ha1 ha2 ha3 ha4;obtain⟨x,c1,hx,_,h1,e1⟩:=AP (PK:=PK) b c 4 hb ha1 (by omega);have hx:=hx (by omega);simp only[cur]at e1;by_cases hj:(j:Int)<x
  ·obtain⟨m,c2,hm,_,h2,e2⟩:=Gw (PK:=PK) b c1 hb h1;have e3:=CL (PK:=PK) s m ha2.S hm.S;simp only[cur,AJ,lent,AD,AX,fM,fSl]at e2 e3;have hinc:=A2 (j:=j) (n:=6) (by omega) (by omega);refine .inl ⟨(c2,B4 s m,j+1),⟨h2,SL ha2 m,fun h=>by simp only at h;omega,by simp only;omega⟩,by simp only;omega,?_⟩;rcases Nat.eq_zero_or_pos j with h0|h0
   ·have:=ha3 h0;subst h0 this;simp only[BK]at e3;have hj':(0:Int)<x:=by simpa using hj
    generalize B4 ⟨[],[]⟩ m=s' at*;simp (config:={maxSteps:=10000000}) [b145_0,md,e1,e2,e3,hj',hinc,show IntKind.wrap .i64 1=1 from rfl,AF]
   ·have h0': ¬j=0:=by omega
    generalize B4 s m=s' at*;simp (config:={maxSteps:=10000000}) [b145_0,md,e1,e2,e3,hj,hinc,h0',AF]
  ·refine .inr ⟨(.exit 0,{st145 b c1 s j with tm:=(st145 b c1 s j).tm++[(9,.sc (.bool false))]}),?_,by simp,c1,s,j,h1,ha2,ha3,rfl⟩;by_cases h0:j=0
   ·subst h0;have hj': ¬ (0:Int)<x:=by simpa using hj
    simp[b145_0,md,e1,hj']
   ·simp[b145_0,md,e1,hj,h0]) (c,⟨[],[]⟩,0) ⟨hc,s0,fun _=>rfl,by simp⟩
 refine⟨s,c1,hs,hc1,AA (pf:=p145) rfl (by simp[p145]) ?_⟩;simp[p145,md];rw[hlp]
 ·by_cases h0:j=0
  ·have:=hj0 h0;subst h0 this;simp[hr]
  ·simp[hr,h0]
 ·simp
 ·simp
theorem So (b:List Int) (c:Nat×Int) (hb:byt b) (hc:c.1<=b.length): ∃s c',slS s/\c'.1<=b.length/\AH G PK md 114 [.pm (cur b c)]=some ⟨[.a (AD (fSl s))],[],[cur b c']⟩:=by
 obtain⟨⟨u,v⟩,c1,⟨hS,hu,hv⟩,h1,e1⟩:=MD (PK:=PK) b c hb hc;simp only at hu hv;obtain⟨x,c2,_,_,h2,e2⟩:=AP (PK:=PK) b c1 8 hb h1 (by omega);simp only[cur,AD,AX,fSl]at e1 e2;by_cases x0:x=0
 ·obtain⟨r,c3,fin,hr,k3,hfin,e3⟩:=Nk (PK:=PK) b c2 u hb h2 hS.1 (by omega);simp only[cur]at e3;refine⟨⟨r,v⟩,c3,⟨hr,hS.2⟩,k3,AA (pf:=p114) rfl (by simp[p114]) ?_⟩;rcases hfin with rfl|rfl<;>simp (config:={maxSteps:=10000000}) [p114,md,e1,e2,e3,x0]
 by_cases x1:x=1
 ·obtain⟨r,c3,fin,hr,k3,hfin,e3⟩:=Nk (PK:=PK) b c2 v hb h2 hS.2 (by omega);simp only[cur]at e3;refine⟨⟨u,r⟩,c3,⟨hS.1,hr⟩,k3,AA (pf:=p114) rfl (by simp[p114]) ?_⟩;rcases hfin with rfl|rfl<;>simp (config:={maxSteps:=10000000}) [p114,md,e1,e2,e3,x1]
 by_cases x2:x=2
 ·have g:u.length+1<=35184372088832:=by omega
  refine⟨⟨u++[9],v⟩,c2,⟨⟨by simp;omega,fun z hz=> ?_⟩,hS.2⟩,h2,AA (pf:=p114) rfl (by simp[p114]) ?_⟩
  ·rcases List.mem_append.1 hz with hz|hz
   ·exact hS.1.2 z hz
   ·rw[List.mem_singleton.1 hz];omega
  simp (config:={maxSteps:=10000000}) [p114,md,e1,e2,x2,g];exact Ac fU u [9]
 refine⟨⟨u,v⟩,c2,hS,h2,AA (pf:=p114) rfl (by simp[p114]) ?_⟩;simp (config:={maxSteps:=10000000}) [p114,md,e1,e2,x0,x1,x2]
end Go.Proofs.YtbolhfegdocpeaaGreat.Ow
