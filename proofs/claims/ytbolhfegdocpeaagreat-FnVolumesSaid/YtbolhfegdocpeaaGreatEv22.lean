/- Functions evaluated on the small machine: What is drawn: metas, slots; told by their bounds alone, What is drawn: deeds, told by nothing but that they come. -/
import Derived.Test.YtbolhfegdocpeaaGreatEv21
import Derived.Test.YtbolhfegdocpeaaGreatEv18
namespace Go.Proofs.YtbolhfegdocpeaaGreat.Ow
open Go
set_option linter.unusedVariables false
set_option linter.unusedSimpArgs false
set_option maxHeartbeats 16000000
variable {PK:Nat->List Arg->Option Res}
structure mtD (m:MetaD):Prop where
 gens:m.gens.length<=100
 bits:m.bits.length<=3
 bit: ∀x∈m.bits,x.length<=100
theorem mtD.S {m:MetaD} (h:mtD m):mtS m:=⟨by have:=h.gens;omega,by have:=h.bits;omega,fun x hx=>by have:=h.bit x hx;omega⟩
@[simp] def st144_1 (b:List Int) (g:List Int) (c:Nat×Int) (B:List (List Int)) (k:Nat):St:={n:=55,m:=1,tm:=[(0,.pb 0 0),(2,.pb 10000000 0),(3,.pb 10000001 0),(4,.sc (.int .i64 k))],ob:=[(0,curB b c),(10000000,.box [.nil 1,.nil 1,.sc (.bool false),.sc (.bool false),.sc (.bool false),.sc (.int .i64 0)]),(10000001,.box [.ref 10000002 [],.ref 10000003 [],.sc (.bool true),.sc (.bool false),.sc (.bool false),.sc (.int .i64 0)]),(10000002,.arr 1 (enc fI g)),(10000003,.arr 1 (enc fII B))]}
@[simp] def st144_0 (b:List Int) (g:List Int) (k:Nat) (c:Nat×Int) (B:List (List Int)) (j:Nat):St:={n:=55,m:=1,tm:=[(0,.pb 0 0),(2,.pb 10000200 0),(3,.pb 10000201 0),(4,.sc (.int .i64 k)),(5,.sc (.int .i64 j))],ob:=[(0,curB b c),(10000200,.box [.nil 1,.nil 1,.sc (.bool false),.sc (.bool false),.sc (.bool false),.sc (.int .i64 0)]),(10000201,.box [.ref 10000202 [],.ref 10000203 [],.sc (.bool true),.sc (.bool false),.sc (.bool false),.sc (.int .i64 0)]),(10000202,.arr 1 (enc fI g)),(10000203,.arr 1 (enc fII B))]}
theorem lp_mt0 (b g:List Int) (k N:Nat) (hk:k<3) (hN:N<=100) (hb:byt b) (c:Nat×Int) (B:List (List Int)) (hc:c.1<=b.length) (h3:B.length=3) (hB: ∀x∈B,x.length<=N):
  ∃r c' B' j,c'.1<=b.length/\B'.length=3/\(∀x∈B',x.length<=N+3)/\r=(.exit 2,{st144_0 b g k c' B' j with tm:=(st144_0 b g k c' B' j).tm++[(22,.sc (.bool false))]})/\ ∀ (s:St),s.m<=10000200->canon 10000200 [0,2,3,4,5] s=st144_0 b g k c B 0->semL G PK md 10000200 [0,2,3,4,5] b144_0 s=some r:=by
 obtain⟨r,⟨c1,B1,j,hc1,k3,hB1,hr⟩,hlp⟩:=loop_ex (G:=G) (PK:=PK) (md:=md) (o:=10000200) (live:=[0,2,3,4,5]) (c:=b144_0) (α:=(Nat×Int)×List (List Int)×Nat) (fun a=>st144_0 b g k a.1 a.2.1 a.2.2) (fun a=>4 - a.2.2) (fun a=>a.1.1<=b.length/\a.2.1.length=3/\(∀x∈a.2.1,x.length<=N+a.2.2)/\a.2.2<=3) (fun r=> ∃c B j,c.1<=b.length/\B.length=3/\(∀x∈B,x.length<=N+3)/\r=(.exit 2,{st144_0 b g k c B j with tm:=(st144_0 b g k c B j).tm++[(22,.sc (.bool false))]})) (fun a ha=>by
  obtain⟨c,B,j⟩:=a
  obtain⟨ha1,ha2,ha3,ha4⟩:=ha
  simp only at ha1 ha2 ha3 ha4
  obtain⟨x,c1,hx,_,h1,e1⟩:=ev_l1Below (PK:=PK) b c 3 hb ha1 (by omega)
  have hx:=hx (by omega)
  simp only[cur]at e1
  by_cases hj:(j:Int)<x
  ·obtain⟨y,c2,hy,_,h2,e2⟩:=ev_l1Below (PK:=PK) b c1 8 hb h1 (by omega)
   obtain⟨m,hm,hm',hm2,_,hmm⟩:=getDD_ex B (j:=k) (by omega)
   have hml:=ha3 m hmm
   have e3:=ev_Mark (PK:=PK) m y (by omega)
   have hl:=mark_len m y
   simp only[cur]at e2
   have hinc:=incr (j:=j) (n:=6) (by omega) (by omega)
   refine .inl ⟨(c2,B.set k (mark m y),j+1),⟨h2,by simp only[List.length_set];exact ha2,fun z hz=> ?_,by simp only;omega⟩,by simp only;omega,?_⟩
   ·simp only at hz ⊢
    rcases List.mem_or_eq_of_mem_set hz with hz|rfl
    ·have:=ha3 z hz;omega
    ·omega
   have hset:(enc fII B).set k [T.sl 1 (enc fI (mark m y))]=enc fII (B.set k (mark m y)):=enc_set fII B k (mark m y)
   simp[b144_0,md,e1,e2,e3,hj,hinc,hm,hm2,hset]
  ·exact .inr ⟨_,by simp[b144_0,md,e1,hj];rfl,by simp,c1,B,j,h1,ha2,fun z hz=>by have:=ha3 z hz;omega,by simp⟩) (c,B,0) ⟨hc,h3,fun x hx=>by have:=hB x hx;simp only;omega,by simp⟩
 exact⟨r,c1,B1,j,hc1,k3,hB1,hr,hlp⟩
theorem ev_l5DrawRight (b:List Int) (c:Nat×Int) (hb:byt b) (hc:c.1<=b.length): ∃m c',mtD m/\(m.bits.length=3/\m.gens.length<=50)/\c'.1<=b.length/\semK G PK md 144 [.pm (cur b c)]=some ⟨[.a (owneds (fM m))],[],[cur b c']⟩:=by
 have e0:=ev_spec_MetaNew (PK:=PK)
 simp only[newM,owneds,owned,fM,enc_cons,enc_nil,fI,fII]at e0
 obtain⟨x,c1,hx,_,h1,e1⟩:=ev_l1Below (PK:=PK) b c 3 hb hc (by omega)
 have hx:=hx (by omega)
 have hw:IntKind.wrap .i64 (2+x)=2+x:=wrap_id (by omega) (by omega)
 obtain⟨r,⟨c2,B,hc2,hB3,hB,hr⟩,hlp⟩:=loop_ex (G:=G) (PK:=PK) (md:=md) (o:=10000000) (live:=[0,2,3,4]) (c:=b144_1) (α:=(Nat×Int)×List (List Int)×Nat) (fun a=>st144_1 b [1,2+x] a.1 a.2.1 a.2.2) (fun a=>3 - a.2.2) (fun a=>a.1.1<=b.length/\a.2.1.length=3/\(∀x∈a.2.1,x.length<=3*a.2.2)/\a.2.2<=3) (fun r=> ∃c B,c.1<=b.length/\B.length=3/\(∀x∈B,x.length<=9)/\r=(.exit 0,{st144_1 b [1,2+x] c B 3 with tm:=(st144_1 b [1,2+x] c B 3).tm++[(16,.sc (.bool false))]})) (fun a ha=>by
  obtain⟨c,B,k⟩:=a
  obtain⟨ha1,ha2,ha3,ha4⟩:=ha
  simp only at ha1 ha2 ha3 ha4
  by_cases hk:k<3
  ·obtain⟨r,c1,B1,j,k1,k2,k3,hr,hlp⟩:=lp_mt0 (PK:=PK) b [1,2+x] k (3*k) hk (by omega) hb c B ha1 ha2 ha3
   have hinc:=incr hk (by omega)
   have hk':(k:Int)<3:=by omega
   refine .inl ⟨(c1,B1,k+1),⟨k1,k2,fun z hz=>by have:=k3 z hz;simp only;omega,by simp only;omega⟩,by simp only;omega,?_⟩
   simp[b144_1,md,hk,hk']
   rw[hlp]
   ·simp[hr,hinc]
   ·simp
   ·simp
  ·obtain rfl:k=3:=by omega
   exact .inr ⟨_,by simp[b144_1,md];rfl,by simp,c,B,ha1,ha2,fun z hz=>by have:=ha3 z hz;omega,by simp⟩) (c1,[[],[],[]],0) ⟨h1,rfl,fun z hz=>by simp at hz;subst hz;simp,by simp⟩
 obtain⟨f1,c3,h3,e3⟩:=ev_l1Once (PK:=PK) b c2 2 hb hc2 (by omega)
 obtain⟨f2,c4,h4,e4⟩:=ev_l1Once (PK:=PK) b c3 3 hb h3 (by omega)
 simp only[cur]at e1 e3 e4
 cases f2
 ·obtain⟨f3,c5,h5,e5⟩:=ev_l1Once (PK:=PK) b c4 3 hb h4 (by omega)
  obtain⟨z,c6,_,_,h6,e6⟩:=ev_l1Below (PK:=PK) b c5 9 hb h5 (by omega)
  simp only[cur]at e5 e6
  refine⟨⟨[1,2+x],B,f1,false,f3,z⟩,c6,⟨by simp,by simp only;omega,fun z hz=>by have:=hB z hz;omega⟩,⟨hB3,by simp⟩,h6,semK_of (pf:=p144) rfl (by simp[p144]) ?_⟩
  simp (config:={maxSteps:=10000000}) [p144,md,e0,e1,hw,Alike2]
  rw[hlp]
  ·simp (config:={maxSteps:=10000000}) [hr,e3,e4,e5,e6]
  ·simp
  ·simp
 ·obtain⟨z,c6,_,_,h6,e6⟩:=ev_l1Below (PK:=PK) b c4 9 hb h4 (by omega)
  simp only[cur]at e6
  refine⟨⟨[1,2+x],B,f1,true,false,z⟩,c6,⟨by simp,by simp only;omega,fun z hz=>by have:=hB z hz;omega⟩,⟨hB3,by simp⟩,h6,semK_of (pf:=p144) rfl (by simp[p144]) ?_⟩
  simp (config:={maxSteps:=10000000}) [p144,md,e0,e1,hw,Alike2]
  rw[hlp]
  ·simp (config:={maxSteps:=10000000}) [hr,e3,e4,e6]
  ·simp
  ·simp
theorem ev_l5Draw (b:List Int) (c:Nat×Int) (hb:byt b) (hc:c.1<=b.length): ∃m c',mtD m/\c'.1<=b.length/\semK G PK md 113 [.pm (cur b c)]=some ⟨[.a (owneds (fM m))],[],[cur b c']⟩:=by
 obtain⟨⟨g,B,f,o,h,l⟩,c1,⟨hg,hB,hx⟩,⟨h3,hg5⟩,h1,e1⟩:=ev_l5DrawRight (PK:=PK) b c hb hc
 simp only at hg hB hx h3 hg5
 obtain⟨x,c2,hx2,_,h2,e2⟩:=ev_l1Below (PK:=PK) b c1 12 hb h1 (by omega)
 simp only[cur,owneds,owned,fM]at e1 e2
 by_cases x0:x=0
 ·obtain⟨y,c3,hy,k3,e3⟩:=ev_l1PickInt (PK:=PK) b c2 [0,1,9,100001] hb h2 (by simp) (by simp)
  simp only[cur,enc_cons,enc_nil,fI]at e3
  have gs:(g.length+1)*8<=35184372088832:=by omega
  refine⟨⟨g++[y],B,f,o,h,l⟩,c3,⟨by simp;omega,hB,hx⟩,k3,semK_of (pf:=p113) rfl (by simp[p113]) ?_⟩
  simp (config:={maxSteps:=10000000}) [p113,md,e1,e2,e3,x0,gs,Alike2]
  exact enc_append fI g [y]
 by_cases x1:x=1
 ·obtain⟨y,c3,hy,_,k3,e3⟩:=ev_l1Below (PK:=PK) b c2 3 hb h2 (by omega)
  obtain⟨k,rfl,hk⟩:=draw_lt hy (by omega)
  obtain⟨m,c4,hm,k4,e4⟩:=ev_l2DrawMarks (PK:=PK) b c3 hb k3
  simp only[cur]at e3 e4
  have hk3:k<B.length:=by omega
  refine⟨⟨g,B.set k m,f,o,h,l⟩,c4,⟨hg,by simp only[List.length_set];exact hB,fun z hz=> ?_⟩,k4,semK_of (pf:=p113) rfl (by simp[p113]) ?_⟩
  ·rcases List.mem_or_eq_of_mem_set hz with hz|rfl
   ·exact hx z hz
   ·omega
  have hset:(enc fII B).set k [T.sl 1 (enc fI m)]=enc fII (B.set k m):=enc_set fII B k m
  simp (config:={maxSteps:=10000000}) [p113,md,e1,e2,e3,e4,x1,hk3,hset,Alike2]
 by_cases x2:x=2
 ·refine⟨⟨g,B.take 2,f,o,h,l⟩,c2,⟨hg,by simp only[List.length_take];omega,fun z hz=>hx z (List.mem_of_mem_take hz)⟩,h2,semK_of (pf:=p113) rfl (by simp[p113]) ?_⟩
  simp (config:={maxSteps:=10000000}) [p113,md,e1,e2,x2,h3,enc_take,Alike2]
 by_cases x3:x=3
 ·refine⟨⟨g,B,f,true,true,l⟩,c2,⟨hg,hB,hx⟩,h2,semK_of (pf:=p113) rfl (by simp[p113]) ?_⟩
  simp (config:={maxSteps:=10000000}) [p113,md,e1,e2,x3,Alike2]
 by_cases x4:x=4
 ·obtain⟨y,c3,hy,k3,e3⟩:=ev_l1PickInt (PK:=PK) b c2 [-1,200,201] hb h2 (by simp) (by simp)
  simp only[cur,enc_cons,enc_nil,fI]at e3
  refine⟨⟨g,B,f,o,h,y⟩,c3,⟨hg,hB,hx⟩,k3,semK_of (pf:=p113) rfl (by simp[p113]) ?_⟩
  simp (config:={maxSteps:=10000000}) [p113,md,e1,e2,e3,x4,Alike2]
 by_cases x5:x=5
 ·refine⟨⟨[],B,f,o,h,l⟩,c2,⟨by simp,hB,hx⟩,h2,semK_of (pf:=p113) rfl (by simp[p113]) ?_⟩
  simp (config:={maxSteps:=10000000}) [p113,md,e1,e2,x5,Alike2]
 refine⟨⟨g,B,f,o,h,l⟩,c2,⟨hg,hB,hx⟩,h2,semK_of (pf:=p113) rfl (by simp[p113]) ?_⟩
 simp (config:={maxSteps:=10000000}) [p113,md,e1,e2,x0,x1,x2,x3,x4,x5,Alike2]
structure slD (s:SlotsD):Prop where
 S:slS s
 a:s.a.length<=200
 b:s.b.length<=200
theorem slotPut_D {s:SlotsD} (h:slD s) (m:MetaD):slD (slotPut s m):=by
 refine⟨slotPut_S h.S m,?_,?_⟩
 ·have h1:=newB_len s m
  have h2:=h.a
  unfold slotPut
  split
  ·split
   ·exact h2
   ·simp only;omega
  ·exact h2
 ·have h1:=newB_len s m
  have h2:=h.b
  unfold slotPut
  split
  ·split
   ·simp only;omega
   ·exact h2
  ·exact h2
@[simp] def st145 (b:List Int) (c:Nat×Int) (s:SlotsD) (j:Nat):St:=if j=0 then {n:=17,m:=1,tm:=[(0,.pb 0 0),(2,.pb 10000000 0),(3,.pb 10000001 0),(4,.sc (.int .i64 j))],ob:=[(0,curB b c),(10000000,.box [.nil 1,.nil 1]),(10000001,.box [.nil 1,.nil 1])]} else {n:=17,m:=1,tm:=[(0,.pb 0 0),(2,.pb 10000000 0),(3,.pb 10000001 0),(4,.sc (.int .i64 j))],ob:=[(0,curB b c),(10000000,.box [.nil 1,.nil 1]),(10000001,.box [.ref 10000002 [],.ref 10000003 []]),(10000002,.arr 1 (enc fU s.a)),(10000003,.arr 1 (enc fU s.b))]}
theorem ev_l6DrawRight (b:List Int) (c:Nat×Int) (hb:byt b) (hc:c.1<=b.length): ∃s c',slD s/\c'.1<=b.length/\semK G PK md 145 [.pm (cur b c)]=some ⟨[.a (owneds (fSl s))],[],[cur b c']⟩:=by
 have s0:slD ⟨[],[]⟩:=⟨⟨⟨by simp,fun x hx=>by cases hx⟩,⟨by simp,fun x hx=>by cases hx⟩⟩,by simp,by simp⟩
 obtain⟨r,⟨c1,s,j,hc1,hs,hj0,hr⟩,hlp⟩:=loop_ex (G:=G) (PK:=PK) (md:=md) (o:=10000000) (live:=[0,2,3,4]) (c:=b145_0) (α:=(Nat×Int)×SlotsD×Nat) (fun a=>st145 b a.1 a.2.1 a.2.2) (fun a=>5 - a.2.2) (fun a=>a.1.1<=b.length/\slD a.2.1/\(a.2.2=0->a.2.1=⟨[],[]⟩)/\a.2.2<=5) (fun r=> ∃c s j,c.1<=b.length/\slD s/\(j=0->s=⟨[],[]⟩)/\r=(.exit 0,{st145 b c s j with tm:=(st145 b c s j).tm++[(9,.sc (.bool false))]})) (fun a ha=>by
  obtain⟨c,s,j⟩:=a
  obtain⟨ha1,ha2,ha3,ha4⟩:=ha
  simp only at ha1 ha2 ha3 ha4
  obtain⟨x,c1,hx,_,h1,e1⟩:=ev_l1Below (PK:=PK) b c 4 hb ha1 (by omega)
  have hx:=hx (by omega)
  simp only[cur]at e1
  by_cases hj:(j:Int)<x
  ·obtain⟨m,c2,hm,_,h2,e2⟩:=ev_l5DrawRight (PK:=PK) b c1 hb h1
   have e3:=ev_spec_SlotPut (PK:=PK) s m ha2.S hm.S
   simp only[cur,lents,lent,owneds,owned,fM,fSl]at e2 e3
   have hinc:=incr (j:=j) (n:=6) (by omega) (by omega)
   refine .inl ⟨(c2,slotPut s m,j+1),⟨h2,slotPut_D ha2 m,fun h=>by simp only at h;omega,by simp only;omega⟩,by simp only;omega,?_⟩
   rcases Nat.eq_zero_or_pos j with h0|h0
   ·have:=ha3 h0
    subst h0 this
    simp only[enc_nil]at e3
    have hj':(0:Int)<x:=by simpa using hj
    generalize slotPut ⟨[],[]⟩ m=s' at*
    simp (config:={maxSteps:=10000000}) [b145_0,md,e1,e2,e3,hj',hinc,show IntKind.wrap .i64 1=1 from rfl,Alike2]
   ·have h0': ¬j=0:=by omega
    generalize slotPut s m=s' at*
    simp (config:={maxSteps:=10000000}) [b145_0,md,e1,e2,e3,hj,hinc,h0',Alike2]
  ·refine .inr ⟨(.exit 0,{st145 b c1 s j with tm:=(st145 b c1 s j).tm++[(9,.sc (.bool false))]}),?_,by simp,c1,s,j,h1,ha2,ha3,rfl⟩
   by_cases h0:j=0
   ·subst h0
    have hj': ¬ (0:Int)<x:=by simpa using hj
    simp[b145_0,md,e1,hj']
   ·simp[b145_0,md,e1,hj,h0]) (c,⟨[],[]⟩,0) ⟨hc,s0,fun _=>rfl,by simp⟩
 refine⟨s,c1,hs,hc1,semK_of (pf:=p145) rfl (by simp[p145]) ?_⟩
 simp[p145,md]
 rw[hlp]
 ·by_cases h0:j=0
  ·have:=hj0 h0
   subst h0 this
   simp[hr]
  ·simp[hr,h0]
 ·simp
 ·simp
theorem ev_l6Draw (b:List Int) (c:Nat×Int) (hb:byt b) (hc:c.1<=b.length): ∃s c',slS s/\c'.1<=b.length/\semK G PK md 114 [.pm (cur b c)]=some ⟨[.a (owneds (fSl s))],[],[cur b c']⟩:=by
 obtain⟨⟨u,v⟩,c1,⟨hS,hu,hv⟩,h1,e1⟩:=ev_l6DrawRight (PK:=PK) b c hb hc
 simp only at hu hv
 obtain⟨x,c2,_,_,h2,e2⟩:=ev_l1Below (PK:=PK) b c1 8 hb h1 (by omega)
 simp only[cur,owneds,owned,fSl]at e1 e2
 by_cases x0:x=0
 ·obtain⟨r,c3,fin,hr,k3,hfin,e3⟩:=ev_l4Dent (PK:=PK) b c2 u hb h2 hS.1 (by omega)
  simp only[cur]at e3
  refine⟨⟨r,v⟩,c3,⟨hr,hS.2⟩,k3,semK_of (pf:=p114) rfl (by simp[p114]) ?_⟩
  rcases hfin with rfl|rfl<;>simp (config:={maxSteps:=10000000}) [p114,md,e1,e2,e3,x0]
 by_cases x1:x=1
 ·obtain⟨r,c3,fin,hr,k3,hfin,e3⟩:=ev_l4Dent (PK:=PK) b c2 v hb h2 hS.2 (by omega)
  simp only[cur]at e3
  refine⟨⟨u,r⟩,c3,⟨hS.1,hr⟩,k3,semK_of (pf:=p114) rfl (by simp[p114]) ?_⟩
  rcases hfin with rfl|rfl<;>simp (config:={maxSteps:=10000000}) [p114,md,e1,e2,e3,x1]
 by_cases x2:x=2
 ·have g:u.length+1<=35184372088832:=by omega
  refine⟨⟨u++[9],v⟩,c2,⟨⟨by simp;omega,fun z hz=> ?_⟩,hS.2⟩,h2,semK_of (pf:=p114) rfl (by simp[p114]) ?_⟩
  ·rcases List.mem_append.1 hz with hz|hz
   ·exact hS.1.2 z hz
   ·rw[List.mem_singleton.1 hz];omega
  simp (config:={maxSteps:=10000000}) [p114,md,e1,e2,x2,g]
  exact enc_append fU u [9]
 refine⟨⟨u,v⟩,c2,hS,h2,semK_of (pf:=p114) rfl (by simp[p114]) ?_⟩
 simp (config:={maxSteps:=10000000}) [p114,md,e1,e2,x0,x1,x2]
end Go.Proofs.YtbolhfegdocpeaaGreat.Ow
namespace Go.Proofs.YtbolhfegdocpeaaGreat.Ow
open Go
set_option linter.unusedVariables false
set_option linter.unusedSimpArgs false
set_option maxHeartbeats 16000000
variable {PK:Nat->List Arg->Option Res}
theorem ev_l12Prime (w:WorldD): ∃p,(p=0\/p=1)/\semK G PK md 69 [.a (lents (fWo w))]=some ⟨[.v (.sc (.int .i64 p))],[],[]⟩:=by
 by_cases h:1<w.nodes.length
 ·obtain⟨x,hx⟩:=getElem?_of_lt h
  obtain⟨_,hx'⟩:=at_of hx
  have e:=ev_l1Bit (PK:=PK) x.prime
  refine⟨if x.prime then 1 else 0,by cases x.prime<;>simp,semK_of (pf:=p69) rfl (by simp[p69]) ?_⟩
  have h':(1:Int)<w.nodes.length:=by omega
  simp[p69,md,h,h',hx,hx',e,bit]
 ·have e:=ev_l1Bit (PK:=PK) false
  refine⟨0,.inl rfl,semK_of (pf:=p69) rfl (by simp[p69]) ?_⟩
  have h': ¬ (1:Int)<w.nodes.length:=by omega
  simp only[bit,Bool.false_eq_true,if_false]at e
  simp[p69,md,h,h',e]
@[simp] def wfin (w:WorldD):List (Option (List (List T))):=[some (enc fN w.nodes),some (enc fW w.net),some (enc fR w.log),some (enc fI w.safe)]
@[simp] def obD (b:List Int) (c:Nat×Int) (w:WorldD) (o:Nat) (d:DeedD):List (Nat×Obj):=[(0,curB b c),(1,.arr 16 (enc fN w.nodes)),(2,.arr 3 (enc fW w.net)),(3,.arr 2 (enc fR w.log)),(4,.arr 1 (enc fI w.safe)),(o,.box [.ref 1 [],.ref 2 [],.ref 3 [],.ref 4 [],.sc (.int .i64 w.gen)]),(o+1,.box [.sc (.int .i64 d.kind),.sc (.int .i64 d.a),.sc (.int .i64 d.b)])]
@[simp] def obR (b:List Int) (c:Nat×Int) (w:WorldD) (o:Nat) (d:DeedD):List (Nat×Obj):=[(o+1,.box [.sc (.int .i64 d.kind),.sc (.int .i64 d.a),.sc (.int .i64 d.b)]),(0,curB b c),(1,.arr 16 (enc fN w.nodes)),(2,.arr 3 (enc fW w.net)),(3,.arr 2 (enc fR w.log)),(4,.arr 1 (enc fI w.safe)),(o,.box [.ref 1 [],.ref 2 [],.ref 3 [],.ref 4 [],.sc (.int .i64 w.gen)])]
@[simp] def rtD (b:List Int) (c:Nat×Int) (w:WorldD) (o:Nat) (d:DeedD):Ex×St:=(.ret,{n:=137,m:=5,tm:=[(4,.pb (o+1) 0)],ob:=obR b c w o d})
@[simp] def st138_2 (b:List Int) (c:Nat×Int) (w:WorldD) (a:Int) (j:Nat):St:={n:=137,m:=5,tm:=[(3,.pb 10000100 0),(4,.pb 10000101 0),(5,.sc (.int .i64 a)),(7,.sc (.int .i64 j))],ob:=obD b c w 10000100 ⟨0,0,0⟩}
@[simp] def st138_1 (b:List Int) (c:Nat×Int) (w:WorldD) (i:Nat):St:={n:=137,m:=5,tm:=[(0,.pb 0 0),(3,.pb 10000300 0),(4,.pb 10000301 0),(8,.sc (.int .i64 i))],ob:=obD b c w 10000300 ⟨0,0,0⟩}
@[simp] def st138_0 (b:List Int) (c:Nat×Int) (w:WorldD) (i j:Nat):St:={n:=137,m:=5,tm:=[(0,.pb 0 0),(3,.pb 10000500 0),(4,.pb 10000501 0),(8,.sc (.int .i64 i)),(9,.sc (.int .i64 j))],ob:=obD b c w 10000500 ⟨0,0,0⟩}
theorem lp_deed2 (b:List Int) (c:Nat×Int) (w:WorldD) (a:Int) (h3:w.nodes.length=3): ∃r,((∃d,r=rtD b c w 10000100 d)\/r=(.exit 1,{st138_2 b c w a 3 with tm:=(st138_2 b c w a 3).tm++[(61,.sc (.bool false))]}))/\ ∀ (s:St),s.m<=10000100->canon 10000100 [3,4,5,7] s=st138_2 b c w a 0->semL G PK md 10000100 [3,4,5,7] b138_2 s=some r:=by
 refine loop_ex (G:=G) (PK:=PK) (md:=md) (o:=10000100) (live:=[3,4,5,7]) (c:=b138_2) (st138_2 b c w a) (fun j=>3 - j) (fun j=>j<=3) (fun r=>(∃d,r=rtD b c w 10000100 d)\/r=(.exit 1,{st138_2 b c w a 3 with tm:=(st138_2 b c w a 3).tm++[(61,.sc (.bool false))]})) (fun j hj=> ?_) 0 (by omega)
 by_cases h:j<3
 ·obtain⟨x,hx⟩:=getElem?_of_lt (l:=w.nodes) (i:=j) (by omega)
  obtain⟨_,hx'⟩:=at_of hx
  have hj':(j:Int)<3:=by omega
  have hinc:=incr h (by omega)
  cases hu:x.up
  ·exact .inr ⟨rtD b c w 10000100 ⟨5,j,0⟩,by simp[b138_2,md,h,hj',h3,hx,hx',hu],by simp,.inl ⟨_,rfl⟩⟩
  ·refine .inl ⟨j+1,by omega,by omega,?_⟩
   simp[b138_2,md,h,hj',h3,hx,hx',hu,hinc]
 ·obtain rfl:j=3:=by omega
  exact .inr ⟨(.exit 1,{st138_2 b c w a 3 with tm:=(st138_2 b c w a 3).tm++[(61,.sc (.bool false))]}),by simp[b138_2,md],by simp,.inr rfl⟩
theorem lp_deed0 (b:List Int) (c:Nat×Int) (w:WorldD) (i:Nat) (hi:i<3) (h3:w.nodes.length=3) (hc: ∀x∈w.nodes,x.copies.length=3): ∃r,((∃d,r=rtD b c w 10000500 d)\/r=(.exit 5,{st138_0 b c w i 3 with tm:=(st138_0 b c w i 3).tm++[(115,.sc (.bool false))]}))/\ ∀ (s:St),s.m<=10000500->canon 10000500 [0,3,4,8,9] s=st138_0 b c w i 0->semL G PK md 10000500 [0,3,4,8,9] b138_0 s=some r:=by
 refine loop_ex (G:=G) (PK:=PK) (md:=md) (o:=10000500) (live:=[0,3,4,8,9]) (c:=b138_0) (st138_0 b c w i) (fun j=>3 - j) (fun j=>j<=3) (fun r=>(∃d,r=rtD b c w 10000500 d)\/r=(.exit 5,{st138_0 b c w i 3 with tm:=(st138_0 b c w i 3).tm++[(115,.sc (.bool false))]})) (fun j hj=> ?_) 0 (by omega)
 by_cases h:j<3
 ·obtain⟨x,hx⟩:=getElem?_of_lt (l:=w.nodes) (i:=i) (by omega)
  obtain⟨_,hx'⟩:=at_of hx
  obtain⟨z,hz⟩:=getElem?_of_lt (l:=x.copies) (i:=j) (by rw[hc x (List.mem_of_getElem? hx)];omega)
  obtain⟨hzl,hz'⟩:=at_of hz
  have hj':(j:Int)<3:=by omega
  have hil:i<w.nodes.length:=by omega
  have hinc:=incr h (by omega)
  cases z
  ·refine .inl ⟨j+1,by omega,by omega,?_⟩
   simp[b138_0,md,h,hj',hil,hx,hx',hz,hz',hzl,hinc]
  ·exact .inr ⟨rtD b c w 10000500 ⟨9,i,j⟩,by simp[b138_0,md,h,hj',hil,hx,hx',hz,hz',hzl],by simp,.inl ⟨_,rfl⟩⟩
 ·obtain rfl:j=3:=by omega
  exact .inr ⟨(.exit 5,{st138_0 b c w i 3 with tm:=(st138_0 b c w i 3).tm++[(115,.sc (.bool false))]}),by simp[b138_0,md],by simp,.inr rfl⟩
theorem lp_deed1 (b:List Int) (c:Nat×Int) (w:WorldD) (h3:w.nodes.length=3) (hc: ∀x∈w.nodes,x.copies.length=3): ∃r,((∃o d,(o=10000300\/o=10000500)/\r=rtD b c w o d)\/r=(.exit 3,{st138_1 b c w 3 with tm:=(st138_1 b c w 3).tm++[(111,.sc (.bool false))]}))/\ ∀ (s:St),s.m<=10000300->canon 10000300 [0,3,4,8] s=st138_1 b c w 0->semL G PK md 10000300 [0,3,4,8] b138_1 s=some r:=by
 refine loop_ex (G:=G) (PK:=PK) (md:=md) (o:=10000300) (live:=[0,3,4,8]) (c:=b138_1) (st138_1 b c w) (fun j=>3 - j) (fun j=>j<=3) (fun r=>(∃o d,(o=10000300\/o=10000500)/\r=rtD b c w o d)\/r=(.exit 3,{st138_1 b c w 3 with tm:=(st138_1 b c w 3).tm++[(111,.sc (.bool false))]})) (fun j hj=> ?_) 0 (by omega)
 by_cases h:j<3
 ·obtain⟨r,hr,hlp⟩:=lp_deed0 (PK:=PK) b c w j h h3 hc
  have hj':(j:Int)<3:=by omega
  have hinc:=incr h (by omega)
  rcases hr with ⟨d,hr⟩|hr
  ·refine .inr ⟨rtD b c w 10000500 d,?_,by simp,.inl ⟨_,_,.inr rfl,rfl⟩⟩
   simp[b138_1,md,h,hj',h3]
   rw[hlp]
   ·simp[hr]
   ·simp
   ·simp
  ·refine .inl ⟨j+1,by omega,by omega,?_⟩
   simp[b138_1,md,h,hj',h3]
   rw[hlp]
   ·simp[hr,hinc]
   ·simp
   ·simp
 ·obtain rfl:j=3:=by omega
  exact .inr ⟨(.exit 3,{st138_1 b c w 3 with tm:=(st138_1 b c w 3).tm++[(111,.sc (.bool false))]}),by simp[b138_1,md],by simp,.inr rfl⟩
theorem ev_l12DrawDeed (b:List Int) (c:Nat×Int) (w:WorldD) (hb:byt b) (hc:c.1<=b.length) (h3:w.nodes.length=3) (hcp: ∀x∈w.nodes,x.copies.length=3) (hn:w.net.length<=1048576): ∃d c',c'.1<=b.length/\semK G PK md 138 [.pm (cur b c),.a (owneds (fWo w))]=some ⟨[.a (owneds (fD d))],wfin w,[cur b c']⟩:=by
 obtain⟨a,c1,ha,_,k1,e1⟩:=ev_l1Below (PK:=PK) b c 3 hb hc (by omega)
 have ha:=ha (by omega)
 obtain⟨p,hp,e2⟩:=ev_l12Prime (PK:=PK) w
 obtain⟨x,c2,hx,_,k2,e3⟩:=ev_l1Below (PK:=PK) b c1 22 hb k1 (by omega)
 have hx:=hx (by omega)
 simp only[cur,lents,lent,fWo]at e1 e2 e3
 by_cases hA:x=0\/x=1\/x=2\/x=3\/x=4
 ·obtain⟨y,c3,_,_,k3,e4⟩:=ev_l1Below (PK:=PK) b c2 8 hb k2 (by omega)
  simp only[cur]at e4
  refine⟨⟨1,p,y⟩,c3,k3,semK_of (pf:=p138) rfl (by simp[p138]) ?_⟩
  rcases hA with rfl|rfl|rfl|rfl|rfl<;>simp (config:={maxSteps:=10000000}) [p138,md,e1,e2,e3,e4]
 by_cases h5:x=5
 ·subst h5
  refine⟨⟨2,0,1⟩,c2,k2,semK_of (pf:=p138) rfl (by simp[p138]) ?_⟩
  simp (config:={maxSteps:=10000000}) [p138,md,e1,e2,e3]
 by_cases h6:x=6
 ·subst h6
  refine⟨⟨2,p,2⟩,c2,k2,semK_of (pf:=p138) rfl (by simp[p138]) ?_⟩
  simp (config:={maxSteps:=10000000}) [p138,md,e1,e2,e3]
 by_cases h7:x=7
 ·subst h7
  have w1:IntKind.wrap .i64 (a+1)=a+1:=wrap_id (by omega) (by omega)
  have ht0:0<=(a+1).tmod 3:=Int.tmod_nonneg _ (by omega)
  have ht1:(a+1).tmod 3<3:=Int.tmod_lt_of_pos _ (by omega)
  have w2:IntKind.wrap .i64 ((a+1).tmod 3)=(a+1).tmod 3:=wrap_id (by omega) (by omega)
  refine⟨⟨3,a,(a+1).tmod 3⟩,c2,k2,semK_of (pf:=p138) rfl (by simp[p138]) ?_⟩
  simp (config:={maxSteps:=10000000}) [p138,md,e1,e2,e3,w1,w2]
 by_cases h8:x=8
 ·subst h8
  obtain⟨y,c3,_,k3,e4⟩:=ev_l1PickInt (PK:=PK) b c2 [4,4,6] hb k2 (by simp) (by simp)
  obtain⟨z,c4,_,k4,e5⟩:=ev_l1PickInt (PK:=PK) b c3 [0,1,4,9,30,155] hb k3 (by simp) (by simp)
  simp only[cur,enc_cons,enc_nil,fI]at e4 e5
  refine⟨⟨y,a,z⟩,c4,k4,semK_of (pf:=p138) rfl (by simp[p138]) ?_⟩
  simp (config:={maxSteps:=10000000}) [p138,md,e1,e2,e3,e4,e5]
 by_cases hB:x=9\/x=10
 ·obtain⟨r,hr,hlp⟩:=lp_deed2 (PK:=PK) b c2 w a h3
  rcases hr with ⟨d,hr⟩|hr
  ·refine⟨d,c2,k2,semK_of (pf:=p138) rfl (by simp[p138]) ?_⟩
   rcases hB with rfl|rfl
   all_goals
    simp (config:={maxSteps:=10000000}) [p138,md,e1,e2,e3]
    rw[hlp]
    ·simp[hr]
    ·simp
    ·simp
  ·refine⟨⟨5,a,0⟩,c2,k2,semK_of (pf:=p138) rfl (by simp[p138]) ?_⟩
   rcases hB with rfl|rfl
   all_goals
    simp (config:={maxSteps:=10000000}) [p138,md,e1,e2,e3]
    rw[hlp]
    ·simp[hr]
    ·simp
    ·simp
 by_cases h11:x=11
 ·subst h11
  obtain⟨y,c3,_,_,k3,e4⟩:=ev_l1Below (PK:=PK) b c2 2 hb k2 (by omega)
  simp only[cur]at e4
  refine⟨⟨10,y,0⟩,c3,k3,semK_of (pf:=p138) rfl (by simp[p138]) ?_⟩
  simp (config:={maxSteps:=10000000}) [p138,md,e1,e2,e3,e4]
 by_cases hC:x=12\/x=13
 ·obtain⟨y,c3,_,_,k3,e4⟩:=ev_l1Below (PK:=PK) b c2 2 hb k2 (by omega)
  simp only[cur]at e4
  refine⟨⟨11,y,0⟩,c3,k3,semK_of (pf:=p138) rfl (by simp[p138]) ?_⟩
  rcases hC with rfl|rfl<;>simp (config:={maxSteps:=10000000}) [p138,md,e1,e2,e3,e4]
 have em:=ev_max (PK:=PK) w.net.length 1
 have hmx:max (w.net.length:Int) 1<=1152921504606846976:=by omega
 by_cases h14:x=14
 ·subst h14
  obtain⟨f,c3,k3,e4⟩:=ev_l1Once (PK:=PK) b c2 3 hb k2 (by omega)
  simp only[cur]at e4
  cases f
  ·obtain⟨y,c4,_,_,k4,e5⟩:=ev_l1Below (PK:=PK) b c3 _ hb k3 hmx
   simp only[cur]at e5
   refine⟨⟨8,y,0⟩,c4,k4,semK_of (pf:=p138) rfl (by simp[p138]) ?_⟩
   simp (config:={maxSteps:=10000000}) [p138,md,e1,e2,e3,e4,e5,em]
  ·refine⟨⟨12,p,0⟩,c3,k3,semK_of (pf:=p138) rfl (by simp[p138]) ?_⟩
   simp (config:={maxSteps:=10000000}) [p138,md,e1,e2,e3,e4]
 obtain⟨y,c3,_,_,k3,e4⟩:=ev_l1Below (PK:=PK) b c2 _ hb k2 hmx
 simp only[cur]at e4
 by_cases hD:x=15\/x=16\/x=17
 ·obtain⟨r,hr,hlp⟩:=lp_deed1 (PK:=PK) b c2 w h3 hcp
  rcases hr with ⟨o,d,ho,hr⟩|hr
  ·refine⟨d,c2,k2,semK_of (pf:=p138) rfl (by simp[p138]) ?_⟩
   rcases hD with rfl|rfl|rfl
   all_goals
    simp (config:={maxSteps:=10000000}) [p138,md,e1,e2,e3]
    rw[hlp]
    ·rcases ho with rfl|rfl<;>simp[hr]
    ·simp
    ·simp
  ·refine⟨⟨7,y,0⟩,c3,k3,semK_of (pf:=p138) rfl (by simp[p138]) ?_⟩
   rcases hD with rfl|rfl|rfl
   all_goals
    simp (config:={maxSteps:=10000000}) [p138,md,e1,e2,e3]
    rw[hlp]
    ·simp[hr,e4,em]
    ·simp
    ·simp
 have n0: ¬x=0:=by omega
 have n1: ¬x=1:=by omega
 have n2: ¬x=2:=by omega
 have n3: ¬x=3:=by omega
 have n4: ¬x=4:=by omega
 have n9: ¬x=9:=by omega
 have n10: ¬x=10:=by omega
 have n12: ¬x=12:=by omega
 have n13: ¬x=13:=by omega
 have n15: ¬x=15:=by omega
 have n16: ¬x=16:=by omega
 have n17: ¬x=17:=by omega
 refine⟨⟨7,y,0⟩,c3,k3,semK_of (pf:=p138) rfl (by simp[p138]) ?_⟩
 simp (config:={maxSteps:=10000000}) [p138,md,e1,e2,e3,e4,em,n0,n1,n2,n3,n4,h5,h6,h7,h8,n9,n10,h11,n12,n13,h14,n15,n16,n17]
end Go.Proofs.YtbolhfegdocpeaaGreat.Ow
