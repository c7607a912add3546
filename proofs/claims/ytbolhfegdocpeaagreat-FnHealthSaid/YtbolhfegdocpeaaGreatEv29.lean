/- What is drawn: deeds, told by nothing but that they come. -/
import Derived.Test.YtbolhfegdocpeaaGreatEv28
import Derived.Test.YtbolhfegdocpeaaGreatEv22
namespace Go.Proofs.YtbolhfegdocpeaaGreat.Ow
open Go
set_option linter.unusedVariables false
set_option linter.unusedSimpArgs false
set_option maxHeartbeats 16000000
variable {PK:Nat->List Arg->Option Res}
theorem Pw (w:AB): ∃p,(p=0\/p=1)/\AH G PK md 69 [.a (AJ (fWo w))]=some ⟨[.v (.sc (.int .i64 p))],[],[]⟩:=by
 by_cases h:1<w.nodes.length
 ·obtain⟨x,hx⟩:=AE h;obtain⟨_,hx'⟩:=Ba hx;have e:=DZ (PK:=PK) x.prime;refine⟨if x.prime then 1 else 0,by cases x.prime<;>simp,AA (pf:=p69) rfl (by simp[p69]) ?_⟩;have h':(1:Int)<w.nodes.length:=by omega
  simp[p69,md,h,h',hx,hx',e,bit]
 ·have e:=DZ (PK:=PK) false;refine⟨0,.inl rfl,AA (pf:=p69) rfl (by simp[p69]) ?_⟩;have h': ¬ (1:Int)<w.nodes.length:=by omega
  simp only[bit,Bool.false_eq_true,if_false]at e;simp[p69,md,h,h',e]
@[simp] def wfin (w:AB):List (Option (List (List T))):=[some (enc fN w.nodes),some (enc fW w.net),some (enc fR w.log),some (enc fI w.safe)]
@[simp] def obD (b:List Int) (c:Nat×Int) (w:AB) (o:Nat) (d:D5):List (Nat×Obj):=[(0,M3 b c),(1,.arr 16 (enc fN w.nodes)),(2,.arr 3 (enc fW w.net)),(3,.arr 2 (enc fR w.log)),(4,.arr 1 (enc fI w.safe)),(o,.box [.ref 1 [],.ref 2 [],.ref 3 [],.ref 4 [],.sc (.int .i64 w.gen)]),(o+1,.box [.sc (.int .i64 d.kind),.sc (.int .i64 d.a),.sc (.int .i64 d.b)])]
@[simp] def obR (b:List Int) (c:Nat×Int) (w:AB) (o:Nat) (d:D5):List (Nat×Obj):=[(o+1,.box [.sc (.int .i64 d.kind),.sc (.int .i64 d.a),.sc (.int .i64 d.b)]),(0,M3 b c),(1,.arr 16 (enc fN w.nodes)),(2,.arr 3 (enc fW w.net)),(3,.arr 2 (enc fR w.log)),(4,.arr 1 (enc fI w.safe)),(o,.box [.ref 1 [],.ref 2 [],.ref 3 [],.ref 4 [],.sc (.int .i64 w.gen)])]
@[simp] def rtD (b:List Int) (c:Nat×Int) (w:AB) (o:Nat) (d:D5):Ex×St:=(.ret,{n:=137,m:=5,tm:=[(4,.pb (o+1) 0)],ob:=obR b c w o d})
@[simp] def st138_2 (b:List Int) (c:Nat×Int) (w:AB) (a:Int) (j:Nat):St:={n:=137,m:=5,tm:=[(3,.pb 10000100 0),(4,.pb 10000101 0),(5,.sc (.int .i64 a)),(7,.sc (.int .i64 j))],ob:=obD b c w 10000100 ⟨0,0,0⟩}
@[simp] def st138_1 (b:List Int) (c:Nat×Int) (w:AB) (i:Nat):St:={n:=137,m:=5,tm:=[(0,.pb 0 0),(3,.pb 10000300 0),(4,.pb 10000301 0),(8,.sc (.int .i64 i))],ob:=obD b c w 10000300 ⟨0,0,0⟩}
@[simp] def st138_0 (b:List Int) (c:Nat×Int) (w:AB) (i j:Nat):St:={n:=137,m:=5,tm:=[(0,.pb 0 0),(3,.pb 10000500 0),(4,.pb 10000501 0),(8,.sc (.int .i64 i)),(9,.sc (.int .i64 j))],ob:=obD b c w 10000500 ⟨0,0,0⟩}
theorem Tr (b:List Int) (c:Nat×Int) (w:AB) (a:Int) (h3:w.nodes.length=3): ∃r,((∃d,r=rtD b c w 10000100 d)\/r=(.exit 1,{st138_2 b c w a 3 with tm:=(st138_2 b c w a 3).tm++[(61,.sc (.bool false))]}))/\ ∀ (s:St),s.m<=10000100->Ai 10000100 [3,4,5,7] s=st138_2 b c w a 0->Ag G PK md 10000100 [3,4,5,7] b138_2 s=some r:=by
 refine DN (G:=G) (PK:=PK) (md:=md) (o:=10000100) (live:=[3,4,5,7]) (c:=b138_2) (st138_2 b c w a) (fun j=>3 - j) (fun j=>j<=3) (fun r=>(∃d,r=rtD b c w 10000100 d)\/r=(.exit 1,{st138_2 b c w a 3 with tm:=(st138_2 b c w a 3).tm++[(61,.sc (.bool false))]})) (fun j hj=> ?_) 0 (by omega);by_cases h:j<3
 ·obtain⟨x,hx⟩:=AE (l:=w.nodes) (i:=j) (by omega);obtain⟨_,hx'⟩:=Ba hx;have hj':(j:Int)<3:=by omega
  have hinc:=A2 h (by omega)
  cases hu:x.up
  ·exact .inr ⟨rtD b c w 10000100 ⟨5,j,0⟩,by simp[b138_2,md,h,hj',h3,hx,hx',hu],by simp,.inl ⟨_,rfl⟩⟩
  ·refine .inl ⟨j+1,by omega,by omega,?_⟩;simp[b138_2,md,h,hj',h3,hx,hx',hu,hinc]
 ·obtain rfl:j=3:=by omega
  exact .inr ⟨(.exit 1,{st138_2 b c w a 3 with tm:=(st138_2 b c w a 3).tm++[(61,.sc (.bool false))]}),by simp[b138_2,md],by simp,.inr rfl⟩
theorem Tt (b:List Int) (c:Nat×Int) (w:AB) (i:Nat) (hi:i<3) (h3:w.nodes.length=3) (hc: ∀x∈w.nodes,x.copies.length=3): ∃r,((∃d,r=rtD b c w 10000500 d)\/r=(.exit 5,{st138_0 b c w i 3 with tm:=(st138_0 b c w i 3).tm++[(115,.sc (.bool false))]}))/\ ∀ (s:St),s.m<=10000500->Ai 10000500 [0,3,4,8,9] s=st138_0 b c w i 0->Ag G PK md 10000500 [0,3,4,8,9] b138_0 s=some r:=by
 refine DN (G:=G) (PK:=PK) (md:=md) (o:=10000500) (live:=[0,3,4,8,9]) (c:=b138_0) (st138_0 b c w i) (fun j=>3 - j) (fun j=>j<=3) (fun r=>(∃d,r=rtD b c w 10000500 d)\/r=(.exit 5,{st138_0 b c w i 3 with tm:=(st138_0 b c w i 3).tm++[(115,.sc (.bool false))]})) (fun j hj=> ?_) 0 (by omega);by_cases h:j<3
 ·obtain⟨x,hx⟩:=AE (l:=w.nodes) (i:=i) (by omega);obtain⟨_,hx'⟩:=Ba hx;obtain⟨z,hz⟩:=AE (l:=x.copies) (i:=j) (by rw[hc x (List.mem_of_getElem? hx)];omega);obtain⟨hzl,hz'⟩:=Ba hz;have hj':(j:Int)<3:=by omega
  have hil:i<w.nodes.length:=by omega
  have hinc:=A2 h (by omega)
  cases z
  ·refine .inl ⟨j+1,by omega,by omega,?_⟩;simp[b138_0,md,h,hj',hil,hx,hx',hz,hz',hzl,hinc]
  ·exact .inr ⟨rtD b c w 10000500 ⟨9,i,j⟩,by simp[b138_0,md,h,hj',hil,hx,hx',hz,hz',hzl],by simp,.inl ⟨_,rfl⟩⟩
 ·obtain rfl:j=3:=by omega
  exact .inr ⟨(.exit 5,{st138_0 b c w i 3 with tm:=(st138_0 b c w i 3).tm++[(115,.sc (.bool false))]}),by simp[b138_0,md],by simp,.inr rfl⟩
theorem Ts (b:List Int) (c:Nat×Int) (w:AB) (h3:w.nodes.length=3) (hc: ∀x∈w.nodes,x.copies.length=3): ∃r,((∃o d,(o=10000300\/o=10000500)/\r=rtD b c w o d)\/r=(.exit 3,{st138_1 b c w 3 with tm:=(st138_1 b c w 3).tm++[(111,.sc (.bool false))]}))/\ ∀ (s:St),s.m<=10000300->Ai 10000300 [0,3,4,8] s=st138_1 b c w 0->Ag G PK md 10000300 [0,3,4,8] b138_1 s=some r:=by
 refine DN (G:=G) (PK:=PK) (md:=md) (o:=10000300) (live:=[0,3,4,8]) (c:=b138_1) (st138_1 b c w) (fun j=>3 - j) (fun j=>j<=3) (fun r=>(∃o d,(o=10000300\/o=10000500)/\r=rtD b c w o d)\/r=(.exit 3,{st138_1 b c w 3 with tm:=(st138_1 b c w 3).tm++[(111,.sc (.bool false))]})) (fun j hj=> ?_) 0 (by omega);by_cases h:j<3
 ·obtain⟨r,hr,hlp⟩:=Tt (PK:=PK) b c w j h h3 hc;have hj':(j:Int)<3:=by omega
  have hinc:=A2 h (by omega);rcases hr with ⟨d,hr⟩|hr
  ·refine .inr ⟨rtD b c w 10000500 d,?_,by simp,.inl ⟨_,_,.inr rfl,rfl⟩⟩;simp[b138_1,md,h,hj',h3];rw[hlp]
   ·simp[hr]
   ·simp
   ·simp
  ·refine .inl ⟨j+1,by omega,by omega,?_⟩;simp[b138_1,md,h,hj',h3];rw[hlp]
   ·simp[hr,hinc]
   ·simp
   ·simp
 ·obtain rfl:j=3:=by omega
  exact .inr ⟨(.exit 3,{st138_1 b c w 3 with tm:=(st138_1 b c w 3).tm++[(111,.sc (.bool false))]}),by simp[b138_1,md],by simp,.inr rfl⟩
theorem MH (b:List Int) (c:Nat×Int) (w:AB) (hb:byt b) (hc:c.1<=b.length) (h3:w.nodes.length=3) (hcp: ∀x∈w.nodes,x.copies.length=3) (hn:w.net.length<=1048576): ∃d c',c'.1<=b.length/\AH G PK md 138 [.pm (cur b c),.a (AD (fWo w))]=some ⟨[.a (AD (fD d))],wfin w,[cur b c']⟩:=by
 obtain⟨a,c1,ha,_,k1,e1⟩:=AP (PK:=PK) b c 3 hb hc (by omega);have ha:=ha (by omega);obtain⟨p,hp,e2⟩:=Pw (PK:=PK) w;obtain⟨x,c2,hx,_,k2,e3⟩:=AP (PK:=PK) b c1 22 hb k1 (by omega);have hx:=hx (by omega);simp only[cur,AJ,lent,fWo]at e1 e2 e3;by_cases hA:x=0\/x=1\/x=2\/x=3\/x=4
 ·obtain⟨y,c3,_,_,k3,e4⟩:=AP (PK:=PK) b c2 8 hb k2 (by omega);simp only[cur]at e4;refine⟨⟨1,p,y⟩,c3,k3,AA (pf:=p138) rfl (by simp[p138]) ?_⟩;rcases hA with rfl|rfl|rfl|rfl|rfl<;>simp (config:={maxSteps:=10000000}) [p138,md,e1,e2,e3,e4]
 by_cases h5:x=5
 ·subst h5;refine⟨⟨2,0,1⟩,c2,k2,AA (pf:=p138) rfl (by simp[p138]) ?_⟩;simp (config:={maxSteps:=10000000}) [p138,md,e1,e2,e3]
 by_cases h6:x=6
 ·subst h6;refine⟨⟨2,p,2⟩,c2,k2,AA (pf:=p138) rfl (by simp[p138]) ?_⟩;simp (config:={maxSteps:=10000000}) [p138,md,e1,e2,e3]
 by_cases h7:x=7
 ·subst h7;have w1:IntKind.wrap .i64 (a+1)=a+1:=AC (by omega) (by omega);have ht0:0<=(a+1).tmod 3:=Int.tmod_nonneg _ (by omega);have ht1:(a+1).tmod 3<3:=Int.tmod_lt_of_pos _ (by omega);have w2:IntKind.wrap .i64 ((a+1).tmod 3)=(a+1).tmod 3:=AC (by omega) (by omega);refine⟨⟨3,a,(a+1).tmod 3⟩,c2,k2,AA (pf:=p138) rfl (by simp[p138]) ?_⟩;simp (config:={maxSteps:=10000000}) [p138,md,e1,e2,e3,w1,w2]
 by_cases h8:x=8
 ·subst h8;obtain⟨y,c3,_,k3,e4⟩:=Bj (PK:=PK) b c2 [4,4,6] hb k2 (by simp) (by simp);obtain⟨z,c4,_,k4,e5⟩:=Bj (PK:=PK) b c3 [0,1,4,9,30,155] hb k3 (by simp) (by simp);simp only[cur,BZ,BK,fI]at e4 e5;refine⟨⟨y,a,z⟩,c4,k4,AA (pf:=p138) rfl (by simp[p138]) ?_⟩;simp (config:={maxSteps:=10000000}) [p138,md,e1,e2,e3,e4,e5]
 by_cases hB:x=9\/x=10
 ·obtain⟨r,hr,hlp⟩:=Tr (PK:=PK) b c2 w a h3;rcases hr with ⟨d,hr⟩|hr
  ·refine⟨d,c2,k2,AA (pf:=p138) rfl (by simp[p138]) ?_⟩;rcases hB with rfl|rfl
   all_goals
    simp (config:={maxSteps:=10000000}) [p138,md,e1,e2,e3]
    rw[hlp]
    ·simp[hr]
    ·simp
    ·simp
  ·refine⟨⟨5,a,0⟩,c2,k2,AA (pf:=p138) rfl (by simp[p138]) ?_⟩;rcases hB with rfl|rfl
   all_goals
    simp (config:={maxSteps:=10000000}) [p138,md,e1,e2,e3]
    rw[hlp]
    ·simp[hr]
    ·simp
    ·simp
 by_cases h11:x=11
 ·subst h11;obtain⟨y,c3,_,_,k3,e4⟩:=AP (PK:=PK) b c2 2 hb k2 (by omega);simp only[cur]at e4;refine⟨⟨10,y,0⟩,c3,k3,AA (pf:=p138) rfl (by simp[p138]) ?_⟩;simp (config:={maxSteps:=10000000}) [p138,md,e1,e2,e3,e4]
 by_cases hC:x=12\/x=13
 ·obtain⟨y,c3,_,_,k3,e4⟩:=AP (PK:=PK) b c2 2 hb k2 (by omega);simp only[cur]at e4;refine⟨⟨11,y,0⟩,c3,k3,AA (pf:=p138) rfl (by simp[p138]) ?_⟩;rcases hC with rfl|rfl<;>simp (config:={maxSteps:=10000000}) [p138,md,e1,e2,e3,e4]
 have em:=UT (PK:=PK) w.net.length 1;have hmx:max (w.net.length:Int) 1<=1152921504606846976:=by omega
 by_cases h14:x=14
 ·subst h14;obtain⟨f,c3,k3,e4⟩:=DB (PK:=PK) b c2 3 hb k2 (by omega);simp only[cur]at e4
  cases f
  ·obtain⟨y,c4,_,_,k4,e5⟩:=AP (PK:=PK) b c3 _ hb k3 hmx;simp only[cur]at e5;refine⟨⟨8,y,0⟩,c4,k4,AA (pf:=p138) rfl (by simp[p138]) ?_⟩;simp (config:={maxSteps:=10000000}) [p138,md,e1,e2,e3,e4,e5,em]
  ·refine⟨⟨12,p,0⟩,c3,k3,AA (pf:=p138) rfl (by simp[p138]) ?_⟩;simp (config:={maxSteps:=10000000}) [p138,md,e1,e2,e3,e4]
 obtain⟨y,c3,_,_,k3,e4⟩:=AP (PK:=PK) b c2 _ hb k2 hmx;simp only[cur]at e4;by_cases hD:x=15\/x=16\/x=17
 ·obtain⟨r,hr,hlp⟩:=Ts (PK:=PK) b c2 w h3 hcp;rcases hr with ⟨o,d,ho,hr⟩|hr
  ·refine⟨d,c2,k2,AA (pf:=p138) rfl (by simp[p138]) ?_⟩;rcases hD with rfl|rfl|rfl
   all_goals
    simp (config:={maxSteps:=10000000}) [p138,md,e1,e2,e3]
    rw[hlp]
    ·rcases ho with rfl|rfl<;>simp[hr]
    ·simp
    ·simp
  ·refine⟨⟨7,y,0⟩,c3,k3,AA (pf:=p138) rfl (by simp[p138]) ?_⟩;rcases hD with rfl|rfl|rfl
   all_goals
    simp (config:={maxSteps:=10000000}) [p138,md,e1,e2,e3]
    rw[hlp]
    ·simp[hr,e4,em]
    ·simp
    ·simp
 have n0: ¬x=0:=by omega
 have n1: ¬x=1:=by omega
 have n2: ¬x=2:=by omega
 have n3: ¬x=3:=by omega
 have n4: ¬x=4:=by omega
 have n9: ¬x=9:=by omega
 have n10: ¬x=10:=by omega
 have n12: ¬x=12:=by omega
 have n13: ¬x=13:=by omega
 have n15: ¬x=15:=by omega
 have n16: ¬x=16:=by omega
 have n17: ¬x=17:=by omega
 refine⟨⟨7,y,0⟩,c3,k3,AA (pf:=p138) rfl (by simp[p138]) ?_⟩;simp (config:={maxSteps:=10000000}) [p138,md,e1,e2,e3,e4,em,n0,n1,n2,n3,n4,h5,h6,h7,h8,n9,n10,h11,n12,n13,h14,n15,n16,n17]
end Go.Proofs.YtbolhfegdocpeaaGreat.Ow
