/- What is drawn: marks, generations, messages, bytes, metas, slots; told by their bounds alone. -/
import Derived.Test.YtbolhfegdocpeaaGreatEv26
import Derived.Test.YtbolhfegdocpeaaGreatEv10
import Derived.Test.YtbolhfegdocpeaaGreatEv11
import Derived.Test.YtbolhfegdocpeaaGreatEv14
namespace Go.Proofs.YtbolhfegdocpeaaGreat.Ow
open Go
set_option linter.unusedVariables false
set_option linter.unusedSimpArgs false
set_option maxHeartbeats 8000000
variable {PK:Nat->List Arg->Option Res}
@[simp] def st115 (b:List Int) (c:Nat×Int) (m:List Int) (j:Nat):St:={n:=25,m:=1,tm:=[(0,.pb 0 0),(3,.ref 10000000 []),(4,.sc (.int .i64 j))],ob:=[(0,M3 b c),(10000000,.arr 1 (enc fI m))]}
theorem Gx (b:List Int) (c:Nat×Int) (hb:byt b) (hc:c.1<=b.length): ∃m c',m.length<=9/\c'.1<=b.length/\AH G PK md 115 [.pm (cur b c)]=some ⟨[.v (.own 1 (enc fI m))],[],[cur b c']⟩:=by
 obtain⟨r,⟨c1,m,j,hc1,hm,hr⟩,hlp⟩:=DN (G:=G) (PK:=PK) (md:=md) (o:=10000000) (live:=[0,3,4]) (c:=b115_0) (α:=(Nat×Int)×List Int×Nat) (fun a=>st115 b a.1 a.2.1 a.2.2) (fun a=>6 - a.2.2) (fun a=>a.1.1<=b.length/\a.2.1.length<=a.2.2/\a.2.2<=6) (fun r=> ∃c m j,c.1<=b.length/\m.length<=6/\r=(.exit 0,{st115 b c m j with tm:=(st115 b c m j).tm++[(9,.sc (.bool false))]})) (fun a ha=>by
  obtain⟨c,m,j⟩:=a;obtain⟨ha1,ha2,ha3⟩:=ha;simp only at ha1 ha2 ha3;obtain⟨x,c1,hx,_,h1,e1⟩:=AP (PK:=PK) b c 5 hb ha1 (by omega);have hx:=hx (by omega);simp only[cur]at e1;by_cases hj:(j:Int)<x
  ·obtain⟨y,c2,hy,_,h2,e2⟩:=AP (PK:=PK) b c1 8 hb h1 (by omega);have e3:=JB (PK:=PK) m y (by omega);have hl:=Gh m y;simp only[cur]at e2;have hinc:=A2 (j:=j) (n:=6) (by omega) (by omega);refine .inl ⟨(c2,D8 m y,j+1),⟨h2,by simp only;omega,by simp only;omega⟩,by simp only;omega,?_⟩;simp[b115_0,md,e1,e2,e3,hj,hinc]
  ·exact .inr ⟨_,by simp[b115_0,md,e1,hj];rfl,by simp,c1,m,j,h1,by omega,by simp⟩) (c,[],0) ⟨hc,by simp,by simp⟩
 obtain⟨x,c2,h2,e2⟩:=DB (PK:=PK) b c1 10 hb hc1 (by omega);simp only[cur]at e2
 cases x
 ·refine⟨m,c2,by omega,h2,AA (pf:=p115) rfl (by simp[p115]) ?_⟩;simp[p115,md];rw[hlp]
  ·simp[hr,e2]
  ·simp
  ·simp
 ·obtain⟨y,c3,hy,h3,e3⟩:=Bj (PK:=PK) b c2 [-1,0,7,8] hb h2 (by simp) (by simp);simp only[cur,BZ,BK,fI]at e3;refine⟨m++[y],c3,by simp;omega,h3,AA (pf:=p115) rfl (by simp[p115]) ?_⟩;have g:(m.length+1)*8<=35184372088832:=by omega
  simp[p115,md];rw[hlp]
  ·simp[hr,e2,e3,g];exact Ac fI m [y]
  ·simp
  ·simp
@[simp] def st155 (b:List Int) (c:Nat×Int) (m:List Int) (j:Nat):St:={n:=18,m:=1,tm:=[(0,.pb 0 0),(3,.ref 10000000 []),(4,.sc (.int .i64 j))],ob:=[(0,M3 b c),(10000000,.arr 1 (enc fI m))]}
theorem MC (b:List Int) (c:Nat×Int) (hb:byt b) (hc:c.1<=b.length): ∃m c',m.length<=60/\c'.1<=b.length/\AH G PK md 155 [.pm (cur b c)]=some ⟨[.v (.own 1 (enc fI m))],[],[cur b c']⟩:=by
 obtain⟨r,⟨c1,m,j,hc1,hm,hr⟩,hlp⟩:=DN (G:=G) (PK:=PK) (md:=md) (o:=10000000) (live:=[0,3,4]) (c:=b155_0) (α:=(Nat×Int)×List Int×Nat) (fun a=>st155 b a.1 a.2.1 a.2.2) (fun a=>5 - a.2.2) (fun a=>a.1.1<=b.length/\a.2.1.length<=a.2.2*12/\a.2.2<=5) (fun r=> ∃c m j,c.1<=b.length/\m.length<=60/\r=(.exit 0,{st155 b c m j with tm:=(st155 b c m j).tm++[(9,.sc (.bool false))]})) (fun a ha=>by
  obtain⟨c,m,j⟩:=a;obtain⟨ha1,ha2,ha3⟩:=ha;simp only at ha1 ha2 ha3;obtain⟨x,c1,hx,_,h1,e1⟩:=AP (PK:=PK) b c 4 hb ha1 (by omega);have hx:=hx (by omega);simp only[cur]at e1;by_cases hj:(j:Int)<x
  ·obtain⟨y,c2,hy,_,h2,e2⟩:=AP (PK:=PK) b c1 6 hb h1 (by omega);have hy:=hy (by omega);have e3:=GE (PK:=PK) m (1+y) (by omega);have hl:=Gs m (1+y);have hw:IntKind.wrap .i64 (1+y)=1+y:=AC (by omega) (by omega);simp only[cur]at e2;have hinc:=A2 (j:=j) (n:=6) (by omega) (by omega);refine .inl ⟨(c2,C0 m (1+y),j+1),⟨h2,by simp only;omega,by simp only;omega⟩,by simp only;omega,?_⟩;simp[b155_0,md,e1,e2,e3,hj,hinc,hw]
  ·exact .inr ⟨_,by simp[b155_0,md,e1,hj];rfl,by simp,c1,m,j,h1,by omega,by simp⟩) (c,[],0) ⟨hc,by simp,by simp⟩
 refine⟨m,c1,hm,hc1,AA (pf:=p155) rfl (by simp[p155]) ?_⟩;simp[p155,md];rw[hlp]
 ·simp[hr]
 ·simp
 ·simp
theorem ME (b:List Int) (c:Nat×Int) (hb:byt b) (hc:c.1<=b.length): ∃m c',m.gens.length<=60/\c'.1<=b.length/\AH G PK md 118 [.pm (cur b c)]=some ⟨[.a (AD (fMs m))],[],[cur b c']⟩:=by
 obtain⟨x,c1,hx,_,h1,e1⟩:=AP (PK:=PK) b c 5 hb hc (by omega);have hx:=hx (by omega);have hw:IntKind.wrap .i64 (1+x)=1+x:=AC (by omega) (by omega);simp only[cur]at e1;by_cases h5:1+x=5
 ·obtain⟨g,c2,hg,h2,e2⟩:=MC (PK:=PK) b c1 hb h1;obtain⟨y,c3,hy,_,h3,e3⟩:=AP (PK:=PK) b c2 9 hb h2 (by omega);simp only[cur]at e2 e3;refine⟨⟨5,0,y,0,g⟩,c3,hg,h3,AA (pf:=p118) rfl (by simp[p118]) ?_⟩;have w5:IntKind.wrap .i64 5=5:=rfl;simp[p118,md,e1,e2,e3,hw,h5,w5]
 ·obtain⟨y,c2,hy,_,h2,e2⟩:=AP (PK:=PK) b c1 8 hb h1 (by omega);obtain⟨z,c3,hz,_,h3,e3⟩:=AP (PK:=PK) b c2 9 hb h2 (by omega);have hz:=hz (by omega);have hw2:IntKind.wrap .i64 (1+z)=1+z:=AC (by omega) (by omega);simp only[cur]at e2 e3;by_cases k3:1+x=3
  ·obtain⟨u,c4,hu,_,h4,e4⟩:=AP (PK:=PK) b c3 3 hb h3 (by omega);simp only[cur]at e4;refine⟨⟨3,y,1+z,u,[]⟩,c4,by simp,h4,AA (pf:=p118) rfl (by simp[p118]) ?_⟩;have w5:IntKind.wrap .i64 3=3:=rfl;simp[p118,md,e1,e2,e3,e4,hw,hw2,h5,k3,w5]
  ·refine⟨⟨1+x,y,1+z,0,[]⟩,c3,by simp,h3,AA (pf:=p118) rfl (by simp[p118]) ?_⟩;simp[p118,md,e1,e2,e3,hw,hw2,h5,k3]
theorem Nk (b:List Int) (c:Nat×Int) (s:List Int) (hb:byt b) (hc:c.1<=b.length) (hs:byt s) (hs1:s.length<=1000): ∃r c' fin,byt r/\c'.1<=b.length/\(fin=[none]\/fin=[some (enc fU s)])/\AH G PK md 146 [.pm (cur b c),.v (.own 1 (enc fU s))]=some ⟨[.v (.own 1 (enc fU r))],fin,[cur b c']⟩:=by
 have w0:IntKind.wrap .i64 ((s.length:Int)+1)=s.length+1:=AC (by omega) (by omega);obtain⟨at_,c1,ha,_,h1,e1⟩:=AP (PK:=PK) b c (s.length+1) hb hc (by omega);obtain⟨k,rfl,hk⟩:=EL ha (by omega);obtain⟨x,c2,hx,_,h2,e2⟩:=AP (PK:=PK) b c1 5 hb h1 (by omega);simp only[cur]at e1 e2;have hkl:k<=s.length:=by omega
 by_cases x0:x=0
 ·refine⟨s.take k,c2,[none],⟨by rw[List.length_take];omega,fun y hy=>hs.2 y (List.mem_of_mem_take hy)⟩,h2,.inl rfl,AA (pf:=p146) rfl (by simp[p146]) ?_⟩;simp[p146,md,w0,e1,e2,x0,hkl,A5]
 by_cases x1:x=1
 ·obtain⟨y,c3,hy,h3,e3⟩:=Bj (PK:=PK) b c2 [0,1,128,3] hb h2 (by simp) (by simp);simp only[cur,BZ,BK,fI]at e3;have hyb:0<=y/\y<256:=by simp at hy;omega
  have hyw:IntKind.wrap .u8 y=y:=by rw[Fg];omega
  refine⟨s.take k++y::s.drop k,c3,[some (enc fU s)],⟨by simp;omega,fun z hz=> ?_⟩,h3,.inr rfl,AA (pf:=p146) rfl (by simp[p146]) ?_⟩
  ·rcases List.mem_append.1 hz with hz|hz
   ·exact hs.2 z (List.mem_of_mem_take hz)
   ·rcases List.mem_cons.1 hz with rfl|hz
    ·exact hyb
    ·exact hs.2 z (List.mem_of_mem_drop hz)
  have g1:k<=35184372088832:=by omega
  have g2:s.length - k+1<=35184372088832:=by omega
  have g4:1+(s.length - k)<=35184372088832:=by omega
  have g3:k+(s.length - k+1)<=35184372088832:=by omega
  have hf1:BA (List.take k (enc fU s))=true:=FT (Lx _);have hf2:BA (List.drop k (enc fU s))=true:=HR (Lx _);have ht:List.take s.length (enc fU s)=enc fU s:=List.take_of_length_le (by simp);simp (config:={maxSteps:=10000000}) [p146,md,w0,e1,e2,e3,x1,hkl,hyw,g1,g2,g3,g4,hf1,hf2,ht,AF]
  try simp[enc,List.map_take,List.map_drop]
 ·refine⟨s,c2,[none],hs,h2,.inl rfl,AA (pf:=p146) rfl (by simp[p146]) ?_⟩;simp[p146,md,w0,e1,e2,x0,x1]
end Go.Proofs.YtbolhfegdocpeaaGreat.Ow
