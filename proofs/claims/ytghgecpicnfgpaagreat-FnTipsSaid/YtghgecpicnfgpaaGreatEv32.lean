/- What is drawn: worlds that deeds reach. -/
import Derived.Test.YtghgecpicnfgpaaGreatEv31
import Derived.Test.YtghgecpicnfgpaaGreatEv20
import Derived.Test.YtghgecpicnfgpaaGreatEv30
namespace Go.Proofs.YtghgecpicnfgpaaGreat.Ow
open Go
set_option linter.unusedVariables false
set_option linter.unusedSimpArgs false
set_option maxHeartbeats 16000000
structure DR (w:AB):Prop where
 ok:Ap w=true
 S:wS w
theorem doW_DR {w:AB} {d:CD} (h:DR w) (h0:(doW w d).2=0):DR (doW w d).1:=by
 unfold doW at h0 ⊢;split at h0
 ·cases h0
 ·rename_i hk;split at h0
  ·rename_i ho;split at h0
   ·rename_i hw;rw[if_neg hk,if_pos ho,if_pos hw];exact⟨hw,(NJ (d:=d) h.ok h.S).S⟩
   ·cases h0
  ·rename_i ho;exact absurd h0 ho
theorem newN_S (i:Nat):nS (I3 i):=⟨by simp[I3],Nt,CZ V5 GE,by simp[I3],⟨by simp[I3],λx hx=>by simp[I3]at hx;subst hx;simp⟩,by simp[I3],by simp[I3]⟩
theorem newW_DR:DR Lj:=⟨by decide+kernel,⟨by simp[Lj],λx hx=>by
  simp[Lj]at hx;rcases hx with rfl|rfl|rfl<;>exact newN_S _,by simp[Lj],λx hx=>by simp[Lj]at hx,by simp[Lj],by simp[Lj]⟩⟩
theorem DR.n3 {w:AB} (h:DR w):w.nodes.length=3:=(A9 h.ok h.S).n3
theorem DR.cp {w:AB} (h:DR w): ∀x∈w.nodes,x.copies.length=3:=λx hx=>((A9 h.ok h.S).node x hx).b.copies
theorem DR.net {w:AB} (h:DR w):w.net.length<=100:=(A9 h.ok h.S).net
@[simp] def st38 (b:LI) (N:Nat) (c:Nat×Int) (w:AB) (l:List CD) (j:Nat):St:={n:=73,m:=1,tm:=[(0,.pb 0 0),(5,.pb 10000000 0),(6,.pb 10000001 0),(7,.ref 10000002 []),(8,.sc (I6 N)),(9,.sc (I6 j))],ob:=[(0,PZ b c),(10000000,.box [.nil 16,.nil 3,.nil 2,.nil 1,.sc (I6 0)]),(10000001,.box [.ref 10000003 [],.ref 10000004 [],.ref 10000005 [],.ref 10000006 [],.sc (I6 w.gen)]),(10000002,.arr 3 (enc fD l)),(10000003,.arr 16 (enc fN w.nodes)),(10000004,.arr 3 (enc fW w.net)),(10000005,.arr 2 (enc fR w.log)),(10000006,.arr 1 (enc fI w.safe))]}
theorem V2 [PKI] (b:LI) (hb:byt b) (N:Nat) (hN:N<=1000) (c:Nat×Int) (w:AB) (l:List CD) (j:Nat) (hc:c.1<=b.length) (hw:DR w) (hl:l.length<=j) (hj:j<N):
  ∃c' w' l',c'.1<=b.length/\DR w'/\l'.length<=j+1/\ ∃s',xG b38_0 (st38 b N c w l j)=some (.normal,s')/\s'.m<=10000000/\Aa 10000000 [0,5,6,7,8,9] s'=st38 b N c' w' l' (j+1):=by
 obtain⟨d,c1,k1,e1⟩:=OV b c w hb hc hw.n3 hw.cp (by have:=hw.net;omega)
 simp only[cur,AA,AJ,fWo,fD,wfin]at e1
 have hinc:=Ar hj (by omega)
 have gs:(l.length+1)*24<=35184372088832:=by omega
 have hD: ∀d,(∃v,DR v/\sG 71 [.a (AD (fWo w)),.a (AD (fD d))]=some ⟨[.a (AA (fWo v)),.v (.sc (I6 0))],[],[]⟩)\/(∃v x,¬x=0/\sG 71 [.a (AD (fWo w)),.a (AD (fD d))]=some ⟨[.a (AA (fWo v)),.v (.sc (I6 x))],[],[]⟩):=λd=>by
  have e:=Td w d hw.S;by_cases h0:(doW w d).2=0
  ·rw[h0]at e;exact .inl ⟨_,doW_DR hw h0,e⟩
  ·exact .inr ⟨_,_,h0,e⟩
 have happ: ∀k a q:Int,enc fD l++[[T.sc (I6 k),T.sc (I6 a),T.sc (I6 q)]]=enc fD (l++[⟨k,a,q⟩]):=λk a q=>AU fD l [⟨k,a,q⟩]
 have hll: ∀d,(l++[d]).length<=j+1:=λd=>by simp;omega
 obtain⟨f,c2,k2,e2⟩:=DT b c1 6 hb k1 (by omega)
 simp only[cur]at e2
 by_cases j0:j=0
 ·subst j0
  have hj:0<N:=by omega
  cases f
  ·have k_:=k2
   rcases hD ⟨2,0,1⟩with ⟨v,hv,e9⟩|⟨v,x9,h9,e9⟩
   ·simp only[AD,lent,AA,AJ,fWo,fD]at e9
    refine⟨c2,v,l++[⟨2,0,1⟩],k_,hv,hll _,?_⟩
    simp (maxSteps:=9999999) [b38_0,  hj,e1,gs,happ,e9,e2,show IntKind.wrap .i64 1=1 from rfl]
   ·simp only[AD,lent,AA,AJ,fWo,fD]at e9
    refine⟨c2,w,l++[⟨2,0,1⟩],k_,hw,hll _,?_⟩
    simp (maxSteps:=9999999) [b38_0,  hj,e1,gs,happ,e9,h9,e2,show IntKind.wrap .i64 1=1 from rfl]
  ·have k_:=k2
   rcases hD d with ⟨v,hv,e9⟩|⟨v,x9,h9,e9⟩
   ·simp only[AD,lent,AA,AJ,fWo,fD]at e9
    refine⟨c2,v,l++[d],k_,hv,hll _,?_⟩
    simp (maxSteps:=9999999) [b38_0,  hj,e1,gs,happ,e9,e2,show IntKind.wrap .i64 1=1 from rfl]
   ·simp only[AD,lent,AA,AJ,fWo,fD]at e9
    refine⟨c2,w,l++[d],k_,hw,hll _,?_⟩
    simp (maxSteps:=9999999) [b38_0,  hj,e1,gs,happ,e9,h9,e2,show IntKind.wrap .i64 1=1 from rfl]
 by_cases j1:j=1
 ·subst j1
  have hj_:(1:Int)<N:=by omega
  cases f
  ·have k_:=k2
   rcases hD ⟨9,0,1⟩with ⟨v,hv,e9⟩|⟨v,x9,h9,e9⟩
   ·simp only[AD,lent,AA,AJ,fWo,fD]at e9
    refine⟨c2,v,l++[⟨9,0,1⟩],k_,hv,hll _,?_⟩
    simp (maxSteps:=9999999) [b38_0,  hj,e1,gs,happ,e9,e2,hj_,show IntKind.wrap .i64 2=2 from rfl]
   ·simp only[AD,lent,AA,AJ,fWo,fD]at e9
    refine⟨c2,w,l++[⟨9,0,1⟩],k_,hw,hll _,?_⟩
    simp (maxSteps:=9999999) [b38_0,  hj,e1,gs,happ,e9,h9,e2,hj_,show IntKind.wrap .i64 2=2 from rfl]
  ·have k_:=k2
   rcases hD d with ⟨v,hv,e9⟩|⟨v,x9,h9,e9⟩
   ·simp only[AD,lent,AA,AJ,fWo,fD]at e9
    refine⟨c2,v,l++[d],k_,hv,hll _,?_⟩
    simp (maxSteps:=9999999) [b38_0,  hj,e1,gs,happ,e9,e2,hj_,show IntKind.wrap .i64 2=2 from rfl]
   ·simp only[AD,lent,AA,AJ,fWo,fD]at e9
    refine⟨c2,w,l++[d],k_,hw,hll _,?_⟩
    simp (maxSteps:=9999999) [b38_0,  hj,e1,gs,happ,e9,h9,e2,hj_,show IntKind.wrap .i64 2=2 from rfl]
 have n2: ¬ (j:Int)<2:=by omega
 by_cases j2:j=2
 ·subst j2
  have hj_:(2:Int)<N:=by omega
  cases f
  ·have k_:=k2
   rcases hD ⟨7,0,0⟩with ⟨v,hv,e9⟩|⟨v,x9,h9,e9⟩
   ·simp only[AD,lent,AA,AJ,fWo,fD]at e9
    refine⟨c2,v,l++[⟨7,0,0⟩],k_,hv,hll _,?_⟩
    simp (maxSteps:=9999999) [b38_0,  hj,e1,gs,happ,e9,e2,hj_,show IntKind.wrap .i64 3=3 from rfl]
   ·simp only[AD,lent,AA,AJ,fWo,fD]at e9
    refine⟨c2,w,l++[⟨7,0,0⟩],k_,hw,hll _,?_⟩
    simp (maxSteps:=9999999) [b38_0,  hj,e1,gs,happ,e9,h9,e2,hj_,show IntKind.wrap .i64 3=3 from rfl]
  ·have k_:=k2
   rcases hD d with ⟨v,hv,e9⟩|⟨v,x9,h9,e9⟩
   ·simp only[AD,lent,AA,AJ,fWo,fD]at e9
    refine⟨c2,v,l++[d],k_,hv,hll _,?_⟩
    simp (maxSteps:=9999999) [b38_0,  hj,e1,gs,happ,e9,e2,hj_,show IntKind.wrap .i64 3=3 from rfl]
   ·simp only[AD,lent,AA,AJ,fWo,fD]at e9
    refine⟨c2,w,l++[d],k_,hw,hll _,?_⟩
    simp (maxSteps:=9999999) [b38_0,  hj,e1,gs,happ,e9,h9,e2,hj_,show IntKind.wrap .i64 3=3 from rfl]
 by_cases j3:j=3
 ·subst j3
  have hj_:(3:Int)<N:=by omega
  cases f
  ·obtain⟨y,c3,_,_,k3,e3⟩:=AO b c2 2 hb k2 (by omega)
   simp only[cur]at e3
   have k_:=k3
   rcases hD ⟨11,y,0⟩with ⟨v,hv,e9⟩|⟨v,x9,h9,e9⟩
   ·simp only[AD,lent,AA,AJ,fWo,fD]at e9
    refine⟨c3,v,l++[⟨11,y,0⟩],k_,hv,hll _,?_⟩
    simp (maxSteps:=9999999) [b38_0,  hj,e1,gs,happ,e9,e2,e3,hj_,show IntKind.wrap .i64 4=4 from rfl]
   ·simp only[AD,lent,AA,AJ,fWo,fD]at e9
    refine⟨c3,w,l++[⟨11,y,0⟩],k_,hw,hll _,?_⟩
    simp (maxSteps:=9999999) [b38_0,  hj,e1,gs,happ,e9,h9,e2,e3,hj_,show IntKind.wrap .i64 4=4 from rfl]
  ·have k_:=k2
   rcases hD d with ⟨v,hv,e9⟩|⟨v,x9,h9,e9⟩
   ·simp only[AD,lent,AA,AJ,fWo,fD]at e9
    refine⟨c2,v,l++[d],k_,hv,hll _,?_⟩
    simp (maxSteps:=9999999) [b38_0,  hj,e1,gs,happ,e9,e2,hj_,show IntKind.wrap .i64 4=4 from rfl]
   ·simp only[AD,lent,AA,AJ,fWo,fD]at e9
    refine⟨c2,w,l++[d],k_,hw,hll _,?_⟩
    simp (maxSteps:=9999999) [b38_0,  hj,e1,gs,happ,e9,h9,e2,hj_,show IntKind.wrap .i64 4=4 from rfl]
 have m2: ¬ (j:Int)=2:=by omega
 have m3: ¬ (j:Int)=3:=by omega
 have m2n: ¬j<2:=by omega
 have k_:=k1
 rcases hD d with ⟨v,hv,e9⟩|⟨v,x9,h9,e9⟩
 ·simp only[AD,lent,AA,AJ,fWo,fD]at e9
  refine⟨c1,v,l++[d],k_,hv,hll _,?_⟩
  simp (maxSteps:=9999999) [b38_0,  hj,e1,gs,happ,e9,n2,m2,m3,j2,j3,m2n,hinc]
 ·simp only[AD,lent,AA,AJ,fWo,fD]at e9
  refine⟨c1,w,l++[d],k_,hw,hll _,?_⟩
  simp (maxSteps:=9999999) [b38_0,  hj,e1,gs,happ,e9,h9,n2,m2,m3,j2,j3,m2n,hinc]
theorem JK [PKI] (b:LI) (c:Nat×Int) (most:Nat) (hb:byt b) (hc:c.1<=b.length) (hm:most<=900): ∃l w c',l.length<=1000/\DR w/\c'.1<=b.length/\sG 38 [.pm (cur b c),.v (.sc (I6 most))]=some ⟨[.v (.own 3 (enc fD l)),.a (AA (fWo w))],[],[cur b c']⟩:=by
 have e0:=L0;simp only[AA,AJ,fWo]at e0;have hw1:IntKind.wrap .i64 ((most:Int)+1)=most+1:=AC (by omega) (by omega);obtain⟨x,c1,hx,_,k1,e1⟩:=AO b c (most+1) hb hc (by omega);obtain⟨N,rfl,hN⟩:=FM hx (by omega);simp only[cur]at e1;obtain⟨r,⟨c2,w,l,j,k2,hw,hl,hr⟩,hlp⟩:= @EJ G PK md 10000000 [0,5,6,7,8,9] b38_0 ((Nat×Int)×AB×List CD×Nat) (λa=>st38 b N a.1 a.2.1 a.2.2.1 a.2.2.2) (λa=>N - a.2.2.2) (λa=>a.1.1<=b.length/\DR a.2.1/\a.2.2.1.length<=a.2.2.2/\a.2.2.2<=N) (λr=> ∃c w l j,c.1<=b.length/\DR w/\l.length<=1000/\r=(.exit 0,{st38 b N c w l j with tm:=(st38 b N c w l j).tm++[(21,.sc (.bool false))]})) (λa ha=>by
  obtain⟨c,w,l,j⟩:=a;obtain⟨h1,h2,h3,h4⟩:=ha;simp only at h1 h2 h3 h4;by_cases hj:j<N
  ·obtain⟨c',w',l',g1,g2,g3,hs⟩:=V2 b hb N (by omega) c w l j h1 h2 h3 hj;exact .inl ⟨(c',w',l',j+1),⟨g1,g2,g3,by simp only;omega⟩,by simp only;omega,hs⟩
  ·exact .inr ⟨(.exit 0,{st38 b N c w l j with tm:=(st38 b N c w l j).tm++[(21,.sc (.bool false))]}),by simp[b38_0,  hj],by simp,c,w,l,j,h1,h2,by omega,rfl⟩) (c1,Lj,[],0) ⟨k1,newW_DR,by simp,by simp⟩
 refine⟨l,w,c2,hl,hw,k2,sK p38 ?_⟩;generalize Lj=v at*;simp[p38,  e0,e1,hw1];rw[hlp]
 ·simp[hr]
 ·simp
 ·simp
theorem HV [PKI] (b:LI) (c:Nat×Int) (hb:byt b) (hc:c.1<=b.length): ∃w c',DR w/\c'.1<=b.length/\sG 86 [.pm (cur b c)]=some ⟨[.a (AA (fWo w))],[],[cur b c']⟩:=by
 obtain⟨l,w,c1,_,hw,k1,e1⟩:=JK b c 60 hb hc (by omega);rw[show ((60:Nat):Int)=60 from rfl]at e1;simp only[cur,AA,AJ,fWo]at e1;refine⟨w,c1,hw,k1,sK p86 ?_⟩;simp[p86,  e1]
end Go.Proofs.YtghgecpicnfgpaaGreat.Ow
