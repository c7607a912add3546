/- What is drawn: worlds that deeds reach. -/
import Derived.Test.YtbolhfegdocpeaaGreatEv29
import Derived.Test.YtbolhfegdocpeaaGreatEv26
namespace Go.Proofs.YtbolhfegdocpeaaGreat.Ow
open Go
set_option linter.unusedVariables false
set_option linter.unusedSimpArgs false
set_option maxHeartbeats 16000000
variable {PK:Nat->List Arg->Option Res}
structure DR (w:AB):Prop where
 ok:BV w=true
 S:wS w
theorem doW_DR {w:AB} {d:D5} (h:DR w) (h0:(doW w d).2=0):DR (doW w d).1:=by
 unfold doW at h0 ⊢;split at h0
 ·cases h0
 ·rename_i hk;split at h0
  ·rename_i ho;split at h0
   ·rename_i hw;rw[if_neg hk,if_pos ho,if_pos hw];exact⟨hw,(Rc (d:=d) h.ok h.S).S⟩
   ·cases h0
  ·rename_i ho;exact absurd h0 ho
theorem newN_S (i:Nat):nS (Ix i):=⟨by simp[Ix],Qq,CO sl0_S Iy,by simp[Ix],⟨by simp[Ix],fun x hx=>by simp[Ix]at hx;subst hx;simp⟩,by simp[Ix],by simp[Ix]⟩
theorem newW_DR:DR Lc:=⟨by decide+kernel,⟨by simp[Lc],fun x hx=>by
  simp[Lc]at hx;rcases hx with rfl|rfl|rfl<;>exact newN_S _,by simp[Lc],fun x hx=>by simp[Lc]at hx,by simp[Lc],by simp[Lc]⟩⟩
theorem DR.n3 {w:AB} (h:DR w):w.nodes.length=3:=(BT h.ok h.S).n3
theorem DR.cp {w:AB} (h:DR w): ∀x∈w.nodes,x.copies.length=3:=fun x hx=>((BT h.ok h.S).node x hx).b.copies
theorem DR.net {w:AB} (h:DR w):w.net.length<=100:=(BT h.ok h.S).net
@[simp] def st116 (b:List Int) (N:Nat) (c:Nat×Int) (w:AB) (l:List D5) (j:Nat):St:={n:=73,m:=1,tm:=[(0,.pb 0 0),(5,.pb 10000000 0),(6,.pb 10000001 0),(7,.ref 10000002 []),(8,.sc (.int .i64 N)),(9,.sc (.int .i64 j))],ob:=[(0,M3 b c),(10000000,.box [.nil 16,.nil 3,.nil 2,.nil 1,.sc (.int .i64 0)]),(10000001,.box [.ref 10000003 [],.ref 10000004 [],.ref 10000005 [],.ref 10000006 [],.sc (.int .i64 w.gen)]),(10000002,.arr 3 (enc fD l)),(10000003,.arr 16 (enc fN w.nodes)),(10000004,.arr 3 (enc fW w.net)),(10000005,.arr 2 (enc fR w.log)),(10000006,.arr 1 (enc fI w.safe))]}
theorem TE (b:List Int) (hb:byt b) (N:Nat) (hN:N<=1000) (c:Nat×Int) (w:AB) (l:List D5) (j:Nat) (hc:c.1<=b.length) (hw:DR w) (hl:l.length<=j) (hj:j<N):
  ∃c' w' l',c'.1<=b.length/\DR w'/\l'.length<=j+1/\ ∃s',An (AH G PK md) (Ag G PK md) md b116_0 (st116 b N c w l j)=some (.normal,s')/\s'.m<=10000000/\Ai 10000000 [0,5,6,7,8,9] s'=st116 b N c' w' l' (j+1):=by
 obtain⟨d,c1,k1,e1⟩:=MH (PK:=PK) b c w hb hc hw.n3 hw.cp (by have:=hw.net;omega)
 simp only[cur,AD,AX,fWo,fD,wfin]at e1
 have hinc:=A2 hj (by omega)
 have gs:(l.length+1)*24<=35184372088832:=by omega
 have hD: ∀d,(∃v,DR v/\AH G PK md 149 [.a (AJ (fWo w)),.a (AJ (fD d))]=some ⟨[.a (AD (fWo v)),.v (.sc (.int .i64 0))],[],[]⟩)\/(∃v x,¬x=0/\AH G PK md 149 [.a (AJ (fWo w)),.a (AJ (fD d))]=some ⟨[.a (AD (fWo v)),.v (.sc (.int .i64 x))],[],[]⟩):=fun d=>by
  have e:=Qx (PK:=PK) w d hw.S;by_cases h0:(doW w d).2=0
  ·rw[h0]at e;exact .inl ⟨_,doW_DR hw h0,e⟩
  ·exact .inr ⟨_,_,h0,e⟩
 have happ: ∀k a q:Int,enc fD l++[[T.sc (.int .i64 k),T.sc (.int .i64 a),T.sc (.int .i64 q)]]=enc fD (l++[⟨k,a,q⟩]):=fun k a q=>Ac fD l [⟨k,a,q⟩]
 have hll: ∀d,(l++[d]).length<=j+1:=fun d=>by simp;omega
 obtain⟨f,c2,k2,e2⟩:=DB (PK:=PK) b c1 6 hb k1 (by omega)
 simp only[cur]at e2
 by_cases j0:j=0
 ·subst j0
  have hj:0<N:=by omega
  cases f
  ·have k_:=k2
   rcases hD ⟨2,0,1⟩with ⟨v,hv,e9⟩|⟨v,x9,h9,e9⟩
   ·simp only[AJ,lent,AD,AX,fWo,fD]at e9
    refine⟨c2,v,l++[⟨2,0,1⟩],k_,hv,hll _,?_⟩
    simp (config:={maxSteps:=10000000}) [b116_0,md,hj,e1,gs,happ,e9,AF,e2,show IntKind.wrap .i64 1=1 from rfl]
   ·simp only[AJ,lent,AD,AX,fWo,fD]at e9
    refine⟨c2,w,l++[⟨2,0,1⟩],k_,hw,hll _,?_⟩
    simp (config:={maxSteps:=10000000}) [b116_0,md,hj,e1,gs,happ,e9,h9,AF,e2,show IntKind.wrap .i64 1=1 from rfl]
  ·have k_:=k2
   rcases hD d with ⟨v,hv,e9⟩|⟨v,x9,h9,e9⟩
   ·simp only[AJ,lent,AD,AX,fWo,fD]at e9
    refine⟨c2,v,l++[d],k_,hv,hll _,?_⟩
    simp (config:={maxSteps:=10000000}) [b116_0,md,hj,e1,gs,happ,e9,AF,e2,show IntKind.wrap .i64 1=1 from rfl]
   ·simp only[AJ,lent,AD,AX,fWo,fD]at e9
    refine⟨c2,w,l++[d],k_,hw,hll _,?_⟩
    simp (config:={maxSteps:=10000000}) [b116_0,md,hj,e1,gs,happ,e9,h9,AF,e2,show IntKind.wrap .i64 1=1 from rfl]
 by_cases j1:j=1
 ·subst j1
  have hj_:(1:Int)<N:=by omega
  cases f
  ·have k_:=k2
   rcases hD ⟨9,0,1⟩with ⟨v,hv,e9⟩|⟨v,x9,h9,e9⟩
   ·simp only[AJ,lent,AD,AX,fWo,fD]at e9
    refine⟨c2,v,l++[⟨9,0,1⟩],k_,hv,hll _,?_⟩
    simp (config:={maxSteps:=10000000}) [b116_0,md,hj,e1,gs,happ,e9,AF,e2,hj_,show IntKind.wrap .i64 2=2 from rfl]
   ·simp only[AJ,lent,AD,AX,fWo,fD]at e9
    refine⟨c2,w,l++[⟨9,0,1⟩],k_,hw,hll _,?_⟩
    simp (config:={maxSteps:=10000000}) [b116_0,md,hj,e1,gs,happ,e9,h9,AF,e2,hj_,show IntKind.wrap .i64 2=2 from rfl]
  ·have k_:=k2
   rcases hD d with ⟨v,hv,e9⟩|⟨v,x9,h9,e9⟩
   ·simp only[AJ,lent,AD,AX,fWo,fD]at e9
    refine⟨c2,v,l++[d],k_,hv,hll _,?_⟩
    simp (config:={maxSteps:=10000000}) [b116_0,md,hj,e1,gs,happ,e9,AF,e2,hj_,show IntKind.wrap .i64 2=2 from rfl]
   ·simp only[AJ,lent,AD,AX,fWo,fD]at e9
    refine⟨c2,w,l++[d],k_,hw,hll _,?_⟩
    simp (config:={maxSteps:=10000000}) [b116_0,md,hj,e1,gs,happ,e9,h9,AF,e2,hj_,show IntKind.wrap .i64 2=2 from rfl]
 have n2: ¬ (j:Int)<2:=by omega
 by_cases j2:j=2
 ·subst j2
  have hj_:(2:Int)<N:=by omega
  cases f
  ·have k_:=k2
   rcases hD ⟨7,0,0⟩with ⟨v,hv,e9⟩|⟨v,x9,h9,e9⟩
   ·simp only[AJ,lent,AD,AX,fWo,fD]at e9
    refine⟨c2,v,l++[⟨7,0,0⟩],k_,hv,hll _,?_⟩
    simp (config:={maxSteps:=10000000}) [b116_0,md,hj,e1,gs,happ,e9,AF,e2,hj_,show IntKind.wrap .i64 3=3 from rfl]
   ·simp only[AJ,lent,AD,AX,fWo,fD]at e9
    refine⟨c2,w,l++[⟨7,0,0⟩],k_,hw,hll _,?_⟩
    simp (config:={maxSteps:=10000000}) [b116_0,md,hj,e1,gs,happ,e9,h9,AF,e2,hj_,show IntKind.wrap .i64 3=3 from rfl]
  ·have k_:=k2
   rcases hD d with ⟨v,hv,e9⟩|⟨v,x9,h9,e9⟩
   ·simp only[AJ,lent,AD,AX,fWo,fD]at e9
    refine⟨c2,v,l++[d],k_,hv,hll _,?_⟩
    simp (config:={maxSteps:=10000000}) [b116_0,md,hj,e1,gs,happ,e9,AF,e2,hj_,show IntKind.wrap .i64 3=3 from rfl]
   ·simp only[AJ,lent,AD,AX,fWo,fD]at e9
    refine⟨c2,w,l++[d],k_,hw,hll _,?_⟩
    simp (config:={maxSteps:=10000000}) [b116_0,md,hj,e1,gs,happ,e9,h9,AF,e2,hj_,show IntKind.wrap .i64 3=3 from rfl]
 by_cases j3:j=3
 ·subst j3
  have hj_:(3:Int)<N:=by omega
  cases f
  ·obtain⟨y,c3,_,_,k3,e3⟩:=AP (PK:=PK) b c2 2 hb k2 (by omega)
   simp only[cur]at e3
   have k_:=k3
   rcases hD ⟨11,y,0⟩with ⟨v,hv,e9⟩|⟨v,x9,h9,e9⟩
   ·simp only[AJ,lent,AD,AX,fWo,fD]at e9
    refine⟨c3,v,l++[⟨11,y,0⟩],k_,hv,hll _,?_⟩
    simp (config:={maxSteps:=10000000}) [b116_0,md,hj,e1,gs,happ,e9,AF,e2,e3,hj_,show IntKind.wrap .i64 4=4 from rfl]
   ·simp only[AJ,lent,AD,AX,fWo,fD]at e9
    refine⟨c3,w,l++[⟨11,y,0⟩],k_,hw,hll _,?_⟩
    simp (config:={maxSteps:=10000000}) [b116_0,md,hj,e1,gs,happ,e9,h9,AF,e2,e3,hj_,show IntKind.wrap .i64 4=4 from rfl]
  ·have k_:=k2
   rcases hD d with ⟨v,hv,e9⟩|⟨v,x9,h9,e9⟩
   ·simp only[AJ,lent,AD,AX,fWo,fD]at e9
    refine⟨c2,v,l++[d],k_,hv,hll _,?_⟩
    simp (config:={maxSteps:=10000000}) [b116_0,md,hj,e1,gs,happ,e9,AF,e2,hj_,show IntKind.wrap .i64 4=4 from rfl]
   ·simp only[AJ,lent,AD,AX,fWo,fD]at e9
    refine⟨c2,w,l++[d],k_,hw,hll _,?_⟩
    simp (config:={maxSteps:=10000000}) [b116_0,md,hj,e1,gs,happ,e9,h9,AF,e2,hj_,show IntKind.wrap .i64 4=4 from rfl]
 have m2: ¬ (j:Int)=2:=by omega
 have m3: ¬ (j:Int)=3:=by omega
 have m2n: ¬j<2:=by omega
 have k_:=k1
 rcases hD d with ⟨v,hv,e9⟩|⟨v,x9,h9,e9⟩
 ·simp only[AJ,lent,AD,AX,fWo,fD]at e9
  refine⟨c1,v,l++[d],k_,hv,hll _,?_⟩
  simp (config:={maxSteps:=10000000}) [b116_0,md,hj,e1,gs,happ,e9,AF,n2,m2,m3,j2,j3,m2n,hinc]
 ·simp only[AJ,lent,AD,AX,fWo,fD]at e9
  refine⟨c1,w,l++[d],k_,hw,hll _,?_⟩
  simp (config:={maxSteps:=10000000}) [b116_0,md,hj,e1,gs,happ,e9,h9,AF,n2,m2,m3,j2,j3,m2n,hinc]
theorem M0 (b:List Int) (c:Nat×Int) (most:Nat) (hb:byt b) (hc:c.1<=b.length) (hm:most<=900): ∃l w c',l.length<=1000/\DR w/\c'.1<=b.length/\AH G PK md 116 [.pm (cur b c),.v (.sc (.int .i64 most))]=some ⟨[.v (.own 3 (enc fD l)),.a (AD (fWo w))],[],[cur b c']⟩:=by
 have e0:=Jj (PK:=PK);simp only[AD,AX,fWo]at e0;have hw1:IntKind.wrap .i64 ((most:Int)+1)=most+1:=AC (by omega) (by omega);obtain⟨x,c1,hx,_,k1,e1⟩:=AP (PK:=PK) b c (most+1) hb hc (by omega);obtain⟨N,rfl,hN⟩:=EL hx (by omega);simp only[cur]at e1;obtain⟨r,⟨c2,w,l,j,k2,hw,hl,hr⟩,hlp⟩:=DN (G:=G) (PK:=PK) (md:=md) (o:=10000000) (live:=[0,5,6,7,8,9]) (c:=b116_0) (α:=(Nat×Int)×AB×List D5×Nat) (fun a=>st116 b N a.1 a.2.1 a.2.2.1 a.2.2.2) (fun a=>N - a.2.2.2) (fun a=>a.1.1<=b.length/\DR a.2.1/\a.2.2.1.length<=a.2.2.2/\a.2.2.2<=N) (fun r=> ∃c w l j,c.1<=b.length/\DR w/\l.length<=1000/\r=(.exit 0,{st116 b N c w l j with tm:=(st116 b N c w l j).tm++[(21,.sc (.bool false))]})) (fun a ha=>by
  obtain⟨c,w,l,j⟩:=a;obtain⟨h1,h2,h3,h4⟩:=ha;simp only at h1 h2 h3 h4;by_cases hj:j<N
  ·obtain⟨c',w',l',g1,g2,g3,hs⟩:=TE (PK:=PK) b hb N (by omega) c w l j h1 h2 h3 hj;exact .inl ⟨(c',w',l',j+1),⟨g1,g2,g3,by simp only;omega⟩,by simp only;omega,hs⟩
  ·exact .inr ⟨(.exit 0,{st116 b N c w l j with tm:=(st116 b N c w l j).tm++[(21,.sc (.bool false))]}),by simp[b116_0,md,hj],by simp,c,w,l,j,h1,h2,by omega,rfl⟩) (c1,Lc,[],0) ⟨k1,newW_DR,by simp,by simp⟩
 refine⟨l,w,c2,hl,hw,k2,AA (pf:=p116) rfl (by simp[p116]) ?_⟩;generalize Lc=v at*;simp[p116,md,e0,e1,hw1,AF];rw[hlp]
 ·simp[hr,AF]
 ·simp
 ·simp
theorem GF (b:List Int) (c:Nat×Int) (hb:byt b) (hc:c.1<=b.length): ∃w c',DR w/\c'.1<=b.length/\AH G PK md 83 [.pm (cur b c)]=some ⟨[.a (AD (fWo w))],[],[cur b c']⟩:=by
 obtain⟨l,w,c1,_,hw,k1,e1⟩:=M0 (PK:=PK) b c 60 hb hc (by omega);rw[show ((60:Nat):Int)=60 from rfl]at e1;simp only[cur,AD,AX,fWo]at e1;refine⟨w,c1,hw,k1,AA (pf:=p83) rfl (by simp[p83]) ?_⟩;simp[p83,md,e1]
end Go.Proofs.YtbolhfegdocpeaaGreat.Ow
