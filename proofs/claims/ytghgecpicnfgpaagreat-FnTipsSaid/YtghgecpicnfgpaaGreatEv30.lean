/- Functions evaluated on the small machine: A new world, The cursor of the draws: evaluated; what is drawn is told by its bounds alone, What is drawn: images, marks, generations, messages; told by their bounds alone, What is drawn: marks, generations, messages, bytes, metas, slots; told by their bounds alone. -/
import Derived.Test.YtghgecpicnfgpaaGreatEv29
import Derived.Test.YtghgecpicnfgpaaGreatEv3
import Derived.Test.YtghgecpicnfgpaaGreatEv0
import Derived.Test.YtghgecpicnfgpaaGreatEv9
import Derived.Test.YtghgecpicnfgpaaGreatEv12
namespace Go.Proofs.YtghgecpicnfgpaaGreat.Ow
open Go
set_option linter.unusedVariables false
set_option linter.unusedSimpArgs false
set_option maxHeartbeats 8000000
def Lj:AB:=⟨[I3 0,I3 1,I3 2],[],[],[],2⟩
@[simp] def st32_0:Nat->St
 |0=>{n:=16,m:=0,tm:=[(0,.pb 10000000 0),(1,.pb 10000001 0),(2,.sc (I6 0))],ob:=[(10000000,.box [.nil 16,.nil 3,.nil 2,.nil 1,.sc (I6 0)]),(10000001,.box [.nil 16,.nil 3,.nil 2,.nil 1,.sc (I6 2)])]}
 |j+1=>{n:=16,m:=0,tm:=[(0,.pb 10000000 0),(1,.pb 10000001 0),(2,.sc (I6 ((j:Int)+1)))],ob:=[(10000000,.box [.nil 16,.nil 3,.nil 2,.nil 1,.sc (I6 0)]),(10000001,.box [.ref 10000002 [],.nil 3,.nil 2,.nil 1,.sc (I6 2)]),(10000002,.arr 16 ((List.range (j+1)).map λi=>fN (I3 i)))]}
theorem L0 [PKI]:sG 67 []=some ⟨[.a (AA (fWo Lj))],[],[]⟩:=by
 refine sK p67 ?_;have e0:=E5 0 (by omega);have e1:=E5 1 (by omega);have e2:=E5 2 (by omega);unfold Lj;rw[show ((0:Nat):Int)=0 from rfl]at e0;rw[show ((1:Nat):Int)=1 from rfl]at e1;rw[show ((2:Nat):Int)=2 from rfl]at e2;have hs0:= @lok _ 10000000 [0,1,2] b67_0 st32_0 3 (λj hj=>by
  rcases j with _|_|_|j
  ·simp[b67_0,  e0]
   all_goals rfl
  ·simp[b67_0,  e1]
   all_goals (first|exact⟨rfl,rfl⟩|rfl)
  ·simp[b67_0,  e2]
   all_goals (first|exact⟨rfl,rfl⟩|rfl)
  ·omega) (by simp[b67_0])
 simp[p67];rw[hs0]
 ·simp[b67_0]
  all_goals rfl
 ·simp
 ·simp
@[simp] def st33_0:Nat->St
 |0=>{n:=16,m:=0,tm:=[(0,.pb 10000000 0),(1,.pb 10000001 0),(4,.sc (I6 0))],ob:=[(10000000,.box [.nil 16,.nil 3,.nil 2,.nil 1,.sc (I6 0)]),(10000001,.box [.nil 16,.nil 3,.nil 2,.nil 1,.sc (I6 2)])]}
 |j+1=>{n:=16,m:=0,tm:=[(0,.pb 10000000 0),(1,.pb 10000001 0),(4,.sc (I6 ((j:Int)+1)))],ob:=[(10000000,.box [.nil 16,.nil 3,.nil 2,.nil 1,.sc (I6 0)]),(10000001,.box [.ref 10000002 [],.nil 3,.nil 2,.nil 1,.sc (I6 2)]),(10000002,.arr 16 ((List.range (j+1)).map λi=>fN (I3 i)))]}
theorem Vg [PKI] (hCU: ∀l:LI,l.length<=1048576->sG 58 [.v (.im 1 (enc fU l))]=some ⟨[.v (.own 1 (enc fU l))],[],[]⟩):sG 9 []=some ⟨[.a (AA (fWo Lj))],[],[]⟩:=by
 refine sK p9 ?_;have e0:=E8 hCU 0 (by omega);have e1:=E8 hCU 1 (by omega);have e2:=E8 hCU 2 (by omega);unfold Lj;rw[show ((0:Nat):Int)=0 from rfl]at e0;rw[show ((1:Nat):Int)=1 from rfl]at e1;rw[show ((2:Nat):Int)=2 from rfl]at e2;have hs0:= @lok _ 10000000 [0,1,4] b9_0 st33_0 3 (λj hj=>by
  rcases j with _|_|_|j
  ·simp[b9_0,  e0]
   all_goals rfl
  ·simp[b9_0,  e1]
   all_goals (first|exact⟨rfl,rfl⟩|rfl)
  ·simp[b9_0,  e2]
   all_goals (first|exact⟨rfl,rfl⟩|rfl)
  ·omega) (by simp[b9_0])
 simp[p9];rw[hs0]
 ·simp[b9_0]
  all_goals rfl
 ·simp
 ·simp
@[simp] def cur (b:LI) (c:Nat×Int):List L:=[.im 1 (enc fU b),.sc (I6 c.1),.sc (I6 c.2)]
theorem Ir [PKI] (b:LI) (c:Nat×Int) (hb:byt b) (hc:c.1<=b.length): ∃x c',0<=x/\x<256/\c'.1<=b.length/\sG 114 [.pm (cur b c)]=some ⟨[.v (.sc (I6 x))],[],[cur b c']⟩:=by
 obtain⟨i,h⟩:=c;obtain⟨h2,hh⟩: ∃h2,h2=IntKind.wrap .i64 (IntKind.wrap .i64 (h*6364136223846793005)+1442695040888963407):=⟨_,rfl⟩;have b1:min 33 IntKind.i64.bits=33:=rfl;have b2:min 45 IntKind.i64.bits=45:=rfl;obtain⟨q,hq⟩: ∃q,q=bits .xor .i64 (h2.fdiv 8589934592) (h2.fdiv 35184372088832):=⟨_,rfl⟩;have hbb:=hb.1;by_cases hi:i<b.length
 ·have hx:=hb.2 b[i] (List.getElem_mem hi);have hwb:IntKind.wrap .i64 b[i]=b[i]:=AC (by omega) (by omega);refine⟨(q%256+b[i])%256,(i+1,h2),by omega,by omega,by show i+1<=b.length;omega,sK p114 ?_⟩;have hw:IntKind.wrap .i64 (q%256+b[i])=q%256+b[i]:=AC (by omega) (by omega);have hinc:=Ar hi hbb;simp[p114,  hi,<-hh,b1,b2,T5,<-hq,hwb,hw,hinc]
 ·refine⟨q%256,(i,h2),by omega,by omega,hc,sK p114 ?_⟩;simp[p114,  hi,<-hh,b1,b2,T5,<-hq]
theorem AO [PKI] (b:LI) (c:Nat×Int) (n:Int) (hb:byt b) (hc:c.1<=b.length) (hN:n<=1152921504606846976): ∃x c',(0<n->0<=x/\x<n)/\(n<=0->x=0)/\c'.1<=b.length/\sG 68 [.pm (cur b c),.v (.sc (I6 n))]=some ⟨[.v (.sc (I6 x))],[],[cur b c']⟩:=by
 by_cases h0:n<=0
 ·refine⟨0,c,λh=>by omega,λ_=>rfl,hc,sK p68 ?_⟩;simp[p68,  h0]
 obtain⟨x,c1,x0,x1,h1,e1⟩:=Ir b c hb hc;have e1':=e1;simp only[cur]at e1';have hn:0<n:=by omega
 have hnn:n≠0:=by omega
 by_cases h2:n<=256
 ·refine⟨x.tmod n,c1,λ_=>⟨Int.tmod_nonneg _ x0,Int.tmod_lt_of_pos _ hn⟩,λh=>by omega,h1,sK p68 ?_⟩;have hr0:0<=x.tmod n:=Int.tmod_nonneg _ x0;have hr1:x.tmod n<n:=Int.tmod_lt_of_pos _ hn;have hw:IntKind.wrap .i64 (x.tmod n)=x.tmod n:=AC (by omega) (by omega);simp[p68,  h0,h2,e1',hnn,hw]
 obtain⟨y,c2,y0,y1,g2,e2⟩:=Ir b c1 hb h1;obtain⟨z,c3,z0,z1,g3,e3⟩:=Ir b c2 hb g2;obtain⟨w,c4,w0,w1,g4,e4⟩:=Ir b c3 hb g3;simp only[cur]at e1 e2 e3 e4;obtain⟨v,hv⟩: ∃v,v=x*16777216+y*65536+z*256+w:=⟨_,rfl⟩;have v0:0<=v:=by omega
 have v1:v<4294967296:=by omega
 have w5:IntKind.wrap .i64 (x*16777216)=x*16777216:=AC (by omega) (by omega);have w6:IntKind.wrap .i64 (y*65536)=y*65536:=AC (by omega) (by omega);have w7:IntKind.wrap .i64 (z*256)=z*256:=AC (by omega) (by omega);have w8:IntKind.wrap .i64 (x*16777216+y*65536)=x*16777216+y*65536:=AC (by omega) (by omega);have w9:IntKind.wrap .i64 (x*16777216+y*65536+z*256)=x*16777216+y*65536+z*256:=AC (by omega) (by omega);have w10:IntKind.wrap .i64 (x*16777216+y*65536+z*256+w)=v:=by rw[hv];exact AC (by omega) (by omega)
 have hr0:0<=v.tmod n:=Int.tmod_nonneg _ v0;have hr1:v.tmod n<n:=Int.tmod_lt_of_pos _ hn;have hw:IntKind.wrap .i64 (v.tmod n)=v.tmod n:=AC (by omega) (by omega);refine⟨v.tmod n,c4,λ_=>⟨hr0,Int.tmod_lt_of_pos _ hn⟩,λh=>by omega,g4,sK p68 ?_⟩;simp[p68,  h0,h2,e1,e2,e3,e4,hnn,w5,w6,w7,w8,w9,w10,hw]
theorem DT [PKI] (b:LI) (c:Nat×Int) (n:Int) (hb:byt b) (hc:c.1<=b.length) (hN:n<=1152921504606846976): ∃r c',c'.1<=b.length/\sG 70 [.pm (cur b c),.v (.sc (I6 n))]=some ⟨[.v (.sc (.bool r))],[],[cur b c']⟩:=by
 obtain⟨x,c1,_,_,h1,e1⟩:=AO b c n hb hc hN;simp only[cur]at e1;refine⟨x==0,c1,h1,sK p70 ?_⟩;simp[p70,  e1]
theorem Bw [PKI] (b:LI) (c:Nat×Int) (l:LI) (hb:byt b) (hc:c.1<=b.length) (hl:l≠[]) (hs:l.length<=1048576): ∃x c',x∈l/\c'.1<=b.length/\sG 90 [.pm (cur b c),.v (.own 1 (enc fI l))]=some ⟨[.v (.sc (I6 x))],[some (enc fI l)],[cur b c']⟩:=by
 obtain⟨x,c1,g1,_,h1,e1⟩:=AO b c l.length hb hc (by omega);have hp:0<l.length:=List.length_pos_iff.2 hl;have g:=g1 (by omega);obtain⟨j,rfl⟩: ∃j:Nat,x=j:=⟨x.toNat,by omega⟩;have hj:j<l.length:=by omega
 simp only[cur]at e1;refine⟨l[j],c1,List.getElem_mem hj,h1,sK p90 ?_⟩;simp[p90,  e1,hj]
@[simp] def PZ (b:LI) (c:Nat×Int):Obj:= .box [.im 1 (enc fU b),.sc (I6 c.1),.sc (I6 c.2)]
@[simp] def st39 (b:LI) (a:Nat×Int):St:={n:=32,m:=0,tm:=[(0,.im 1 (enc fU b)),(3,.sc (I6 a.2)),(4,.sc (I6 a.1))],ob:=[]}
theorem SX [PKI] (b:LI) (hb:byt b): ∃c,c.1<=b.length/\sG 39 [.v (.im 1 (enc fU b))]=some ⟨[.p (cur b c)],[],[]⟩:=by
 have hbb:=hb.1;obtain⟨h0,hh0⟩: ∃h0,h0=IntKind.wrap .i64 (24770+(b.length:Int)):=⟨_,rfl⟩;obtain⟨r,⟨a,_,hr⟩,hlp⟩:= @EJ G PK md 10000000 [0,3,4] b39_0 _ (st39 b) (λa=>b.length - a.1) (λa=>a.1<=b.length) (λr=> ∃a x,r=(.exit 0,{st39 b a with tm:=(st39 b a).tm++[(15,.sc (.bool x))]})) (λa ha=>by
  obtain⟨i,h⟩:=a;simp only at ha;by_cases hi:i<b.length
  ·by_cases h4:i<4000
   ·have hx:=hb.2 b[i] (List.getElem_mem hi);have hwb:IntKind.wrap .i64 b[i]=b[i]:=AC (by omega) (by omega);refine .inl ⟨(i+1,bits .and .i64 (IntKind.wrap .i64 (IntKind.wrap .i64 (IntKind.wrap .i64 (h*131)+b[i])+7)) 1073741823),by simp only;omega,by simp only;omega,?_⟩;have hinc:=Ar hi hbb;have h4':(i:Int)<4000:=by omega
    simp[b39_0,  hi,h4,h4',hwb,hinc]
   ·refine .inr ⟨_,by simp[b39_0,  hi,h4,show ¬ (i:Int)<4000 by omega];rfl,by simp,(i,h),false,by simp⟩
  ·refine .inr ⟨_,by simp[b39_0,  hi];rfl,by simp,(i,h),false,by simp⟩) (0,h0) (Nat.zero_le _)
 refine⟨(0,a.2),Nat.zero_le _,sK p39 ?_⟩;simp[p39,  <-hh0];rw[hlp]
 ·simp[hr]
 ·simp
 ·simp
theorem FM {x n:Int} (h:0<n->0<=x/\x<n) (hn:0<n): ∃k:Nat,x=k/\(k:Int)<n:=⟨x.toNat,by have:=h hn;omega,by have:=h hn;omega⟩
@[simp] def st132 (b:LI) (c:Nat×Int) (m:LI) (j:Nat):St:={n:=37,m:=1,tm:=[(0,.pb 0 0),(3,.ref 10000000 []),(4,.sc (I6 j))],ob:=[(0,PZ b c),(10000000,.arr 1 (enc fI m))]}
def imgB (m:LI):Prop:= ∀x∈m,-1000<=x/\x<=1000
theorem SG {m:LI} {k:Nat} {x:Int} (h:imgB m) (hx: -1000<=x/\x<=1000):imgB (m.set k x):=λy hy=>by
 rcases List.mem_or_eq_of_mem_set hy with hy|rfl
 ·exact h y hy
 ·exact hx
theorem OT [PKI] (b:LI) (c:Nat×Int) (hb:byt b) (hc:c.1<=b.length): ∃m c',m.length<=9/\imgB m/\c'.1<=b.length/\sG 132 [.pm (cur b c)]=some ⟨[.v (.own 1 (enc fI m))],[],[cur b c']⟩:=by
 have e0:=Gk;obtain⟨r,⟨c1,m,j,hc1,hm,hmb,hr⟩,hlp⟩:= @EJ G PK md 10000000 [0,3,4] b132_0 ((Nat×Int)×LI×Nat) (λa=>st132 b a.1 a.2.1 a.2.2) (λa=>6 - a.2.2) (λa=>a.1.1<=b.length/\a.2.1.length=8/\imgB a.2.1) (λr=> ∃c m j,c.1<=b.length/\m.length=8/\imgB m/\r=(.exit 0,{st132 b c m j with tm:=(st132 b c m j).tm++[(9,.sc (.bool false))]})) (λa ha=>by
  obtain⟨c,m,j⟩:=a;obtain⟨ha1,ha2,ha3⟩:=ha;simp only at ha1 ha2 ha3;obtain⟨x,c1,hx,_,h1,e1⟩:=AO b c 6 hb ha1 (by omega);have hx:=hx (by omega);simp only[cur]at e1;by_cases hj:(j:Int)<x
  ·obtain⟨y,c2,hy,_,h2,e2⟩:=AO b c1 8 hb h1 (by omega);obtain⟨z,c3,hz,_,h3,e3⟩:=AO b c2 9 hb h2 (by omega);obtain⟨y,rfl,hy⟩:=FM hy (by omega);have hz:=hz (by omega);simp only[cur]at e2 e3;have hinc:=Ar (j:=j) (n:=6) (by omega) (by omega);have hyl:y<m.length:=by omega
   refine .inl ⟨(c3,m.set y z,j+1),⟨h3,by simp only[List.length_set];exact ha2,SG ha3 (by omega)⟩,by simp only;omega,?_⟩;have hset:(enc fI m).set y [T.sc (I6 z)]=enc fI (m.set y z):=A3 fI m y z;simp[b132_0,  e1,e2,e3,hj,hinc,hyl,hset]
  ·exact .inr ⟨_,by simp[b132_0,  e1,hj];rfl,by simp,c1,m,j,h1,ha2,ha3,by simp⟩) (c,List.replicate 8 0,0) ⟨hc,rfl,λx hx=>by rw[List.eq_of_mem_replicate hx];omega⟩
 obtain⟨x,c2,hx,_,h2,e2⟩:=AO b c1 12 hb hc1 (by omega);simp only[cur]at e2;have h8:enc fI (List.replicate 8 0)=List.replicate 8 [T.sc (I6 0)]:=rfl;by_cases x0:x=0
 ·refine⟨m++[1],c2,by simp[hm],λy hy=> ?_,h2,sK p132 ?_⟩
  ·rcases List.mem_append.1 hy with hy|hy
   ·exact hmb y hy
   ·rw[List.mem_singleton.1 hy];omega
  simp[p132,  e0];rw[hlp]
  ·simp[hr,e2,x0,hm];exact AU fI m [1]
  ·simp
  ·simp[h8]
 by_cases x1:x=1
 ·obtain⟨y,c3,hy,h3,e3⟩:=Bw b c2 [-1,200,201] hb h2 (by simp) (by simp);simp only[cur,BN,BA,fI]at e3;have hyb: -1000<=y/\y<=1000:=by simp at hy;omega
  refine⟨m.set 0 y,c3,by simp[hm],SG hmb hyb,h3,sK p132 ?_⟩;have hset:(enc fI m).set 0 [T.sc (I6 y)]=enc fI (m.set 0 y):=A3 fI m 0 y;simp[p132,  e0];rw[hlp]
  ·simp[hr,e2,e3,x1,hm,hset]
  ·simp
  ·simp[h8]
 by_cases x2:x=2
 ·refine⟨m.take 3,c2,by simp[hm],λy hy=>hmb y (List.mem_of_mem_take hy),h2,sK p132 ?_⟩;simp[p132,  e0];rw[hlp]
  ·simp[hr,e2,x2,hm,Ax]
  ·simp
  ·simp[h8]
 refine⟨m,c2,by simp[hm],hmb,h2,sK p132 ?_⟩;simp[p132,  e0];rw[hlp]
 ·simp[hr,e2,x0,x1,x2,hm]
 ·simp
 ·simp[h8]
@[simp] def st135 (b:LI) (c:Nat×Int) (m:LI) (j:Nat):St:={n:=25,m:=1,tm:=[(0,.pb 0 0),(3,.ref 10000000 []),(4,.sc (I6 j))],ob:=[(0,PZ b c),(10000000,.arr 1 (enc fI m))]}
theorem IB [PKI] (b:LI) (c:Nat×Int) (hb:byt b) (hc:c.1<=b.length): ∃m c',m.length<=9/\c'.1<=b.length/\sG 135 [.pm (cur b c)]=some ⟨[.v (.own 1 (enc fI m))],[],[cur b c']⟩:=by
 obtain⟨r,⟨c1,m,j,hc1,hm,hr⟩,hlp⟩:= @EJ G PK md 10000000 [0,3,4] b135_0 ((Nat×Int)×LI×Nat) (λa=>st135 b a.1 a.2.1 a.2.2) (λa=>6 - a.2.2) (λa=>a.1.1<=b.length/\a.2.1.length<=a.2.2/\a.2.2<=6) (λr=> ∃c m j,c.1<=b.length/\m.length<=6/\r=(.exit 0,{st135 b c m j with tm:=(st135 b c m j).tm++[(9,.sc (.bool false))]})) (λa ha=>by
  obtain⟨c,m,j⟩:=a;obtain⟨ha1,ha2,ha3⟩:=ha;simp only at ha1 ha2 ha3;obtain⟨x,c1,hx,_,h1,e1⟩:=AO b c 5 hb ha1 (by omega);have hx:=hx (by omega);simp only[cur]at e1;by_cases hj:(j:Int)<x
  ·obtain⟨y,c2,hy,_,h2,e2⟩:=AO b c1 8 hb h1 (by omega);have e3:=LH m y (by omega);have hl:=Ki m y;simp only[cur]at e2;have hinc:=Ar (j:=j) (n:=6) (by omega) (by omega);refine .inl ⟨(c2,C5 m y,j+1),⟨h2,by simp only;omega,by simp only;omega⟩,by simp only;omega,?_⟩;simp[b135_0,  e1,e2,e3,hj,hinc]
  ·exact .inr ⟨_,by simp[b135_0,  e1,hj];rfl,by simp,c1,m,j,h1,by omega,by simp⟩) (c,[],0) ⟨hc,by simp,by simp⟩
 obtain⟨x,c2,h2,e2⟩:=DT b c1 10 hb hc1 (by omega);simp only[cur]at e2
 cases x
 ·refine⟨m,c2,by omega,h2,sK p135 ?_⟩;simp[p135];rw[hlp]
  ·simp[hr,e2]
  ·simp
  ·simp
 ·obtain⟨y,c3,hy,h3,e3⟩:=Bw b c2 [-1,0,7,8] hb h2 (by simp) (by simp);simp only[cur,BN,BA,fI]at e3;refine⟨m++[y],c3,by simp;omega,h3,sK p135 ?_⟩;have g:(m.length+1)*8<=35184372088832:=by omega
  simp[p135];rw[hlp]
  ·simp[hr,e2,e3,g];exact AU fI m [y]
  ·simp
  ·simp
@[simp] def st141 (b:LI) (c:Nat×Int) (m:LI) (j:Nat):St:={n:=18,m:=1,tm:=[(0,.pb 0 0),(3,.ref 10000000 []),(4,.sc (I6 j))],ob:=[(0,PZ b c),(10000000,.arr 1 (enc fI m))]}
theorem OQ [PKI] (b:LI) (c:Nat×Int) (hb:byt b) (hc:c.1<=b.length): ∃m c',m.length<=60/\c'.1<=b.length/\sG 141 [.pm (cur b c)]=some ⟨[.v (.own 1 (enc fI m))],[],[cur b c']⟩:=by
 obtain⟨r,⟨c1,m,j,hc1,hm,hr⟩,hlp⟩:= @EJ G PK md 10000000 [0,3,4] b141_0 ((Nat×Int)×LI×Nat) (λa=>st141 b a.1 a.2.1 a.2.2) (λa=>5 - a.2.2) (λa=>a.1.1<=b.length/\a.2.1.length<=a.2.2*12/\a.2.2<=5) (λr=> ∃c m j,c.1<=b.length/\m.length<=60/\r=(.exit 0,{st141 b c m j with tm:=(st141 b c m j).tm++[(9,.sc (.bool false))]})) (λa ha=>by
  obtain⟨c,m,j⟩:=a;obtain⟨ha1,ha2,ha3⟩:=ha;simp only at ha1 ha2 ha3;obtain⟨x,c1,hx,_,h1,e1⟩:=AO b c 4 hb ha1 (by omega);have hx:=hx (by omega);simp only[cur]at e1;by_cases hj:(j:Int)<x
  ·obtain⟨y,c2,hy,_,h2,e2⟩:=AO b c1 6 hb h1 (by omega);have hy:=hy (by omega);have e3:=HU m (1+y) (by omega);have hl:=F2 m (1+y);have hw:IntKind.wrap .i64 (1+y)=1+y:=AC (by omega) (by omega);simp only[cur]at e2;have hinc:=Ar (j:=j) (n:=6) (by omega) (by omega);refine .inl ⟨(c2,CE m (1+y),j+1),⟨h2,by simp only;omega,by simp only;omega⟩,by simp only;omega,?_⟩;simp[b141_0,  e1,e2,e3,hj,hinc,hw]
  ·exact .inr ⟨_,by simp[b141_0,  e1,hj];rfl,by simp,c1,m,j,h1,by omega,by simp⟩) (c,[],0) ⟨hc,by simp,by simp⟩
 refine⟨m,c1,hm,hc1,sK p141 ?_⟩;simp[p141];rw[hlp]
 ·simp[hr]
 ·simp
 ·simp
theorem OS [PKI] (b:LI) (c:Nat×Int) (hb:byt b) (hc:c.1<=b.length): ∃m c',m.gens.length<=60/\c'.1<=b.length/\sG 89 [.pm (cur b c)]=some ⟨[.a (AA (fMs m))],[],[cur b c']⟩:=by
 obtain⟨x,c1,hx,_,h1,e1⟩:=AO b c 5 hb hc (by omega);have hx:=hx (by omega);have hw:IntKind.wrap .i64 (1+x)=1+x:=AC (by omega) (by omega);simp only[cur]at e1;by_cases h5:1+x=5
 ·obtain⟨g,c2,hg,h2,e2⟩:=OQ b c1 hb h1;obtain⟨y,c3,hy,_,h3,e3⟩:=AO b c2 9 hb h2 (by omega);simp only[cur]at e2 e3;refine⟨⟨5,0,y,0,g⟩,c3,hg,h3,sK p89 ?_⟩;have w5:IntKind.wrap .i64 5=5:=rfl;simp[p89,  e1,e2,e3,hw,h5,w5]
 ·obtain⟨y,c2,hy,_,h2,e2⟩:=AO b c1 8 hb h1 (by omega);obtain⟨z,c3,hz,_,h3,e3⟩:=AO b c2 9 hb h2 (by omega);have hz:=hz (by omega);have hw2:IntKind.wrap .i64 (1+z)=1+z:=AC (by omega) (by omega);simp only[cur]at e2 e3;by_cases k3:1+x=3
  ·obtain⟨u,c4,hu,_,h4,e4⟩:=AO b c3 3 hb h3 (by omega);simp only[cur]at e4;refine⟨⟨3,y,1+z,u,[]⟩,c4,by simp,h4,sK p89 ?_⟩;have w5:IntKind.wrap .i64 3=3:=rfl;simp[p89,  e1,e2,e3,e4,hw,hw2,h5,k3,w5]
  ·refine⟨⟨1+x,y,1+z,0,[]⟩,c3,by simp,h3,sK p89 ?_⟩;simp[p89,  e1,e2,e3,hw,hw2,h5,k3]
theorem QI [PKI] (b:LI) (c:Nat×Int) (s:LI) (hb:byt b) (hc:c.1<=b.length) (hs:byt s) (hs1:s.length<=1000): ∃r c' fin,byt r/\c'.1<=b.length/\(fin=[none]\/fin=[some (enc fU s)])/\sG 183 [.pm (cur b c),.v (.own 1 (enc fU s))]=some ⟨[.v (.own 1 (enc fU r))],fin,[cur b c']⟩:=by
 have w0:IntKind.wrap .i64 ((s.length:Int)+1)=s.length+1:=AC (by omega) (by omega);obtain⟨at_,c1,ha,_,h1,e1⟩:=AO b c (s.length+1) hb hc (by omega);obtain⟨k,rfl,hk⟩:=FM ha (by omega);obtain⟨x,c2,hx,_,h2,e2⟩:=AO b c1 5 hb h1 (by omega);simp only[cur]at e1 e2;have hkl:k<=s.length:=by omega
 by_cases x0:x=0
 ·refine⟨s.take k,c2,[none],⟨by rw[List.length_take];omega,λy hy=>hs.2 y (List.mem_of_mem_take hy)⟩,h2,.inl rfl,sK p183 ?_⟩;simp[p183,  w0,e1,e2,x0,hkl,Ax]
 by_cases x1:x=1
 ·obtain⟨y,c3,hy,h3,e3⟩:=Bw b c2 [0,1,128,3] hb h2 (by simp) (by simp);simp only[cur,BN,BA,fI]at e3;have hyb:0<=y/\y<256:=by simp at hy;omega
  have hyw:IntKind.wrap .u8 y=y:=by rw[Fs];omega
  refine⟨s.take k++y::s.drop k,c3,[some (enc fU s)],⟨by simp;omega,λz hz=> ?_⟩,h3,.inr rfl,sK p183 ?_⟩
  ·rcases List.mem_append.1 hz with hz|hz
   ·exact hs.2 z (List.mem_of_mem_take hz)
   ·rcases List.mem_cons.1 hz with rfl|hz
    ·exact hyb
    ·exact hs.2 z (List.mem_of_mem_drop hz)
  have g1:k<=35184372088832:=by omega
  have g2:s.length - k+1<=35184372088832:=by omega
  have g4:1+(s.length - k)<=35184372088832:=by omega
  have g3:k+(s.length - k+1)<=35184372088832:=by omega
  have hf1:An (List.take k (enc fU s))=true:=Gi (OD _);have hf2:An (List.drop k (enc fU s))=true:=Iq (OD _);have ht:List.take s.length (enc fU s)=enc fU s:=List.take_of_length_le (by simp);simp (maxSteps:=9999999) [p183,  w0,e1,e2,e3,x1,hkl,hyw,g1,g2,g3,g4,hf1,hf2,ht]
  try simp[enc,List.map_take,List.map_drop]
 ·refine⟨s,c2,[none],hs,h2,.inl rfl,sK p183 ?_⟩;simp[p183,  w0,e1,e2,x0,x1]
end Go.Proofs.YtghgecpicnfgpaaGreat.Ow
