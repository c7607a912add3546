/- Functions evaluated on the small machine: What is drawn: worlds that deeds reach, What is drawn: nodes, worlds that may be spoiled. -/
import Derived.Test.YtbolhfegdocpeaaGreatEv22
import Derived.Test.YtbolhfegdocpeaaGreatEv20
namespace Go.Proofs.YtbolhfegdocpeaaGreat.Ow
open Go
set_option linter.unusedVariables false
set_option linter.unusedSimpArgs false
set_option maxHeartbeats 16000000
variable {PK:Nat->List Arg->Option Res}
structure DR (w:WorldD):Prop where
 ok:worldOk w=true
 S:wS w
theorem doW_DR {w:WorldD} {d:DeedD} (h:DR w) (h0:(doW w d).2=0):DR (doW w d).1:=by
 unfold doW at h0 ⊢
 split at h0
 ·cases h0
 ·rename_i hk
  split at h0
  ·rename_i ho
   split at h0
   ·rename_i hw
    rw[if_neg hk,if_pos ho,if_pos hw]
    exact⟨hw,(oneW_WK (d:=d) h.ok h.S).S⟩
   ·cases h0
  ·rename_i ho
   exact absurd h0 ho
theorem newN_S (i:Nat):nS (newN i):=⟨by simp[newN],newM_S,slotPut_S sl0_S newM,by simp[newN],⟨by simp[newN],fun x hx=>by simp[newN]at hx;subst hx;simp⟩,by simp[newN],by simp[newN]⟩
theorem newW_DR:DR newW:=⟨by decide+kernel,⟨by simp[newW],fun x hx=>by
  simp[newW]at hx
  rcases hx with rfl|rfl|rfl<;>exact newN_S _,by simp[newW],fun x hx=>by simp[newW]at hx,by simp[newW],by simp[newW]⟩⟩
theorem DR.n3 {w:WorldD} (h:DR w):w.nodes.length=3:=(worldOk_WI h.ok h.S).n3
theorem DR.cp {w:WorldD} (h:DR w): ∀x∈w.nodes,x.copies.length=3:=fun x hx=>((worldOk_WI h.ok h.S).node x hx).b.copies
theorem DR.net {w:WorldD} (h:DR w):w.net.length<=100:=(worldOk_WI h.ok h.S).net
@[simp] def st116 (b:List Int) (N:Nat) (c:Nat×Int) (w:WorldD) (l:List DeedD) (j:Nat):St:={n:=73,m:=1,tm:=[(0,.pb 0 0),(5,.pb 10000000 0),(6,.pb 10000001 0),(7,.ref 10000002 []),(8,.sc (.int .i64 N)),(9,.sc (.int .i64 j))],ob:=[(0,curB b c),(10000000,.box [.nil 16,.nil 3,.nil 2,.nil 1,.sc (.int .i64 0)]),(10000001,.box [.ref 10000003 [],.ref 10000004 [],.ref 10000005 [],.ref 10000006 [],.sc (.int .i64 w.gen)]),(10000002,.arr 3 (enc fD l)),(10000003,.arr 16 (enc fN w.nodes)),(10000004,.arr 3 (enc fW w.net)),(10000005,.arr 2 (enc fR w.log)),(10000006,.arr 1 (enc fI w.safe))]}
theorem step_Run (b:List Int) (hb:byt b) (N:Nat) (hN:N<=1000) (c:Nat×Int) (w:WorldD) (l:List DeedD) (j:Nat) (hc:c.1<=b.length) (hw:DR w) (hl:l.length<=j) (hj:j<N):
  ∃c' w' l',c'.1<=b.length/\DR w'/\l'.length<=j+1/\ ∃s',exec (semK G PK md) (semL G PK md) md b116_0 (st116 b N c w l j)=some (.normal,s')/\s'.m<=10000000/\canon 10000000 [0,5,6,7,8,9] s'=st116 b N c' w' l' (j+1):=by
 obtain⟨d,c1,k1,e1⟩:=ev_l12DrawDeed (PK:=PK) b c w hb hc hw.n3 hw.cp (by have:=hw.net;omega)
 simp only[cur,owneds,owned,fWo,fD,wfin]at e1
 have hinc:=incr hj (by omega)
 have gs:(l.length+1)*24<=35184372088832:=by omega
 have hD: ∀d,(∃v,DR v/\semK G PK md 149 [.a (lents (fWo w)),.a (lents (fD d))]=some ⟨[.a (owneds (fWo v)),.v (.sc (.int .i64 0))],[],[]⟩)\/(∃v x,¬x=0/\semK G PK md 149 [.a (lents (fWo w)),.a (lents (fD d))]=some ⟨[.a (owneds (fWo v)),.v (.sc (.int .i64 x))],[],[]⟩):=fun d=>by
  have e:=ev_spec_Do (PK:=PK) w d hw.S
  by_cases h0:(doW w d).2=0
  ·rw[h0]at e
   exact .inl ⟨_,doW_DR hw h0,e⟩
  ·exact .inr ⟨_,_,h0,e⟩
 have happ: ∀k a q:Int,enc fD l++[[T.sc (.int .i64 k),T.sc (.int .i64 a),T.sc (.int .i64 q)]]=enc fD (l++[⟨k,a,q⟩]):=fun k a q=>enc_append fD l [⟨k,a,q⟩]
 have hll: ∀d,(l++[d]).length<=j+1:=fun d=>by simp;omega
 obtain⟨f,c2,k2,e2⟩:=ev_l1Once (PK:=PK) b c1 6 hb k1 (by omega)
 simp only[cur]at e2
 by_cases j0:j=0
 ·subst j0
  have hj:0<N:=by omega
  cases f
  ·have k_:=k2
   rcases hD ⟨2,0,1⟩with ⟨v,hv,e9⟩|⟨v,x9,h9,e9⟩
   ·simp only[lents,lent,owneds,owned,fWo,fD]at e9
    refine⟨c2,v,l++[⟨2,0,1⟩],k_,hv,hll _,?_⟩
    simp (config:={maxSteps:=10000000}) [b116_0,md,hj,e1,gs,happ,e9,Alike2,e2,show IntKind.wrap .i64 1=1 from rfl]
   ·simp only[lents,lent,owneds,owned,fWo,fD]at e9
    refine⟨c2,w,l++[⟨2,0,1⟩],k_,hw,hll _,?_⟩
    simp (config:={maxSteps:=10000000}) [b116_0,md,hj,e1,gs,happ,e9,h9,Alike2,e2,show IntKind.wrap .i64 1=1 from rfl]
  ·have k_:=k2
   rcases hD d with ⟨v,hv,e9⟩|⟨v,x9,h9,e9⟩
   ·simp only[lents,lent,owneds,owned,fWo,fD]at e9
    refine⟨c2,v,l++[d],k_,hv,hll _,?_⟩
    simp (config:={maxSteps:=10000000}) [b116_0,md,hj,e1,gs,happ,e9,Alike2,e2,show IntKind.wrap .i64 1=1 from rfl]
   ·simp only[lents,lent,owneds,owned,fWo,fD]at e9
    refine⟨c2,w,l++[d],k_,hw,hll _,?_⟩
    simp (config:={maxSteps:=10000000}) [b116_0,md,hj,e1,gs,happ,e9,h9,Alike2,e2,show IntKind.wrap .i64 1=1 from rfl]
 by_cases j1:j=1
 ·subst j1
  have hj_:(1:Int)<N:=by omega
  cases f
  ·have k_:=k2
   rcases hD ⟨9,0,1⟩with ⟨v,hv,e9⟩|⟨v,x9,h9,e9⟩
   ·simp only[lents,lent,owneds,owned,fWo,fD]at e9
    refine⟨c2,v,l++[⟨9,0,1⟩],k_,hv,hll _,?_⟩
    simp (config:={maxSteps:=10000000}) [b116_0,md,hj,e1,gs,happ,e9,Alike2,e2,hj_,show IntKind.wrap .i64 2=2 from rfl]
   ·simp only[lents,lent,owneds,owned,fWo,fD]at e9
    refine⟨c2,w,l++[⟨9,0,1⟩],k_,hw,hll _,?_⟩
    simp (config:={maxSteps:=10000000}) [b116_0,md,hj,e1,gs,happ,e9,h9,Alike2,e2,hj_,show IntKind.wrap .i64 2=2 from rfl]
  ·have k_:=k2
   rcases hD d with ⟨v,hv,e9⟩|⟨v,x9,h9,e9⟩
   ·simp only[lents,lent,owneds,owned,fWo,fD]at e9
    refine⟨c2,v,l++[d],k_,hv,hll _,?_⟩
    simp (config:={maxSteps:=10000000}) [b116_0,md,hj,e1,gs,happ,e9,Alike2,e2,hj_,show IntKind.wrap .i64 2=2 from rfl]
   ·simp only[lents,lent,owneds,owned,fWo,fD]at e9
    refine⟨c2,w,l++[d],k_,hw,hll _,?_⟩
    simp (config:={maxSteps:=10000000}) [b116_0,md,hj,e1,gs,happ,e9,h9,Alike2,e2,hj_,show IntKind.wrap .i64 2=2 from rfl]
 have n2: ¬ (j:Int)<2:=by omega
 by_cases j2:j=2
 ·subst j2
  have hj_:(2:Int)<N:=by omega
  cases f
  ·have k_:=k2
   rcases hD ⟨7,0,0⟩with ⟨v,hv,e9⟩|⟨v,x9,h9,e9⟩
   ·simp only[lents,lent,owneds,owned,fWo,fD]at e9
    refine⟨c2,v,l++[⟨7,0,0⟩],k_,hv,hll _,?_⟩
    simp (config:={maxSteps:=10000000}) [b116_0,md,hj,e1,gs,happ,e9,Alike2,e2,hj_,show IntKind.wrap .i64 3=3 from rfl]
   ·simp only[lents,lent,owneds,owned,fWo,fD]at e9
    refine⟨c2,w,l++[⟨7,0,0⟩],k_,hw,hll _,?_⟩
    simp (config:={maxSteps:=10000000}) [b116_0,md,hj,e1,gs,happ,e9,h9,Alike2,e2,hj_,show IntKind.wrap .i64 3=3 from rfl]
  ·have k_:=k2
   rcases hD d with ⟨v,hv,e9⟩|⟨v,x9,h9,e9⟩
   ·simp only[lents,lent,owneds,owned,fWo,fD]at e9
    refine⟨c2,v,l++[d],k_,hv,hll _,?_⟩
    simp (config:={maxSteps:=10000000}) [b116_0,md,hj,e1,gs,happ,e9,Alike2,e2,hj_,show IntKind.wrap .i64 3=3 from rfl]
   ·simp only[lents,lent,owneds,owned,fWo,fD]at e9
    refine⟨c2,w,l++[d],k_,hw,hll _,?_⟩
    simp (config:={maxSteps:=10000000}) [b116_0,md,hj,e1,gs,happ,e9,h9,Alike2,e2,hj_,show IntKind.wrap .i64 3=3 from rfl]
 by_cases j3:j=3
 ·subst j3
  have hj_:(3:Int)<N:=by omega
  cases f
  ·obtain⟨y,c3,_,_,k3,e3⟩:=ev_l1Below (PK:=PK) b c2 2 hb k2 (by omega)
   simp only[cur]at e3
   have k_:=k3
   rcases hD ⟨11,y,0⟩with ⟨v,hv,e9⟩|⟨v,x9,h9,e9⟩
   ·simp only[lents,lent,owneds,owned,fWo,fD]at e9
    refine⟨c3,v,l++[⟨11,y,0⟩],k_,hv,hll _,?_⟩
    simp (config:={maxSteps:=10000000}) [b116_0,md,hj,e1,gs,happ,e9,Alike2,e2,e3,hj_,show IntKind.wrap .i64 4=4 from rfl]
   ·simp only[lents,lent,owneds,owned,fWo,fD]at e9
    refine⟨c3,w,l++[⟨11,y,0⟩],k_,hw,hll _,?_⟩
    simp (config:={maxSteps:=10000000}) [b116_0,md,hj,e1,gs,happ,e9,h9,Alike2,e2,e3,hj_,show IntKind.wrap .i64 4=4 from rfl]
  ·have k_:=k2
   rcases hD d with ⟨v,hv,e9⟩|⟨v,x9,h9,e9⟩
   ·simp only[lents,lent,owneds,owned,fWo,fD]at e9
    refine⟨c2,v,l++[d],k_,hv,hll _,?_⟩
    simp (config:={maxSteps:=10000000}) [b116_0,md,hj,e1,gs,happ,e9,Alike2,e2,hj_,show IntKind.wrap .i64 4=4 from rfl]
   ·simp only[lents,lent,owneds,owned,fWo,fD]at e9
    refine⟨c2,w,l++[d],k_,hw,hll _,?_⟩
    simp (config:={maxSteps:=10000000}) [b116_0,md,hj,e1,gs,happ,e9,h9,Alike2,e2,hj_,show IntKind.wrap .i64 4=4 from rfl]
 have m2: ¬ (j:Int)=2:=by omega
 have m3: ¬ (j:Int)=3:=by omega
 have m2n: ¬j<2:=by omega
 have k_:=k1
 rcases hD d with ⟨v,hv,e9⟩|⟨v,x9,h9,e9⟩
 ·simp only[lents,lent,owneds,owned,fWo,fD]at e9
  refine⟨c1,v,l++[d],k_,hv,hll _,?_⟩
  simp (config:={maxSteps:=10000000}) [b116_0,md,hj,e1,gs,happ,e9,Alike2,n2,m2,m3,j2,j3,m2n,hinc]
 ·simp only[lents,lent,owneds,owned,fWo,fD]at e9
  refine⟨c1,w,l++[d],k_,hw,hll _,?_⟩
  simp (config:={maxSteps:=10000000}) [b116_0,md,hj,e1,gs,happ,e9,h9,Alike2,n2,m2,m3,j2,j3,m2n,hinc]
theorem ev_l12DrawRun (b:List Int) (c:Nat×Int) (most:Nat) (hb:byt b) (hc:c.1<=b.length) (hm:most<=900): ∃l w c',l.length<=1000/\DR w/\c'.1<=b.length/\semK G PK md 116 [.pm (cur b c),.v (.sc (.int .i64 most))]=some ⟨[.v (.own 3 (enc fD l)),.a (owneds (fWo w))],[],[cur b c']⟩:=by
 have e0:=ev_spec_WorldNew (PK:=PK)
 simp only[owneds,owned,fWo]at e0
 have hw1:IntKind.wrap .i64 ((most:Int)+1)=most+1:=wrap_id (by omega) (by omega)
 obtain⟨x,c1,hx,_,k1,e1⟩:=ev_l1Below (PK:=PK) b c (most+1) hb hc (by omega)
 obtain⟨N,rfl,hN⟩:=draw_lt hx (by omega)
 simp only[cur]at e1
 obtain⟨r,⟨c2,w,l,j,k2,hw,hl,hr⟩,hlp⟩:=loop_ex (G:=G) (PK:=PK) (md:=md) (o:=10000000) (live:=[0,5,6,7,8,9]) (c:=b116_0) (α:=(Nat×Int)×WorldD×List DeedD×Nat) (fun a=>st116 b N a.1 a.2.1 a.2.2.1 a.2.2.2) (fun a=>N - a.2.2.2) (fun a=>a.1.1<=b.length/\DR a.2.1/\a.2.2.1.length<=a.2.2.2/\a.2.2.2<=N) (fun r=> ∃c w l j,c.1<=b.length/\DR w/\l.length<=1000/\r=(.exit 0,{st116 b N c w l j with tm:=(st116 b N c w l j).tm++[(21,.sc (.bool false))]})) (fun a ha=>by
  obtain⟨c,w,l,j⟩:=a
  obtain⟨h1,h2,h3,h4⟩:=ha
  simp only at h1 h2 h3 h4
  by_cases hj:j<N
  ·obtain⟨c',w',l',g1,g2,g3,hs⟩:=step_Run (PK:=PK) b hb N (by omega) c w l j h1 h2 h3 hj
   exact .inl ⟨(c',w',l',j+1),⟨g1,g2,g3,by simp only;omega⟩,by simp only;omega,hs⟩
  ·exact .inr ⟨(.exit 0,{st116 b N c w l j with tm:=(st116 b N c w l j).tm++[(21,.sc (.bool false))]}),by simp[b116_0,md,hj],by simp,c,w,l,j,h1,h2,by omega,rfl⟩) (c1,newW,[],0) ⟨k1,newW_DR,by simp,by simp⟩
 refine⟨l,w,c2,hl,hw,k2,semK_of (pf:=p116) rfl (by simp[p116]) ?_⟩
 generalize newW=v at*
 simp[p116,md,e0,e1,hw1,Alike2]
 rw[hlp]
 ·simp[hr,Alike2]
 ·simp
 ·simp
theorem ev_l12DrawRight (b:List Int) (c:Nat×Int) (hb:byt b) (hc:c.1<=b.length): ∃w c',DR w/\c'.1<=b.length/\semK G PK md 83 [.pm (cur b c)]=some ⟨[.a (owneds (fWo w))],[],[cur b c']⟩:=by
 obtain⟨l,w,c1,_,hw,k1,e1⟩:=ev_l12DrawRun (PK:=PK) b c 60 hb hc (by omega)
 rw[show ((60:Nat):Int)=60 from rfl]at e1
 simp only[cur,owneds,owned,fWo]at e1
 refine⟨w,c1,hw,k1,semK_of (pf:=p83) rfl (by simp[p83]) ?_⟩
 simp[p83,md,e1]
end Go.Proofs.YtbolhfegdocpeaaGreat.Ow
namespace Go.Proofs.YtbolhfegdocpeaaGreat.Ow
open Go
set_option linter.unusedVariables false
set_option linter.unusedSimpArgs false
set_option maxHeartbeats 16000000
variable {PK:Nat->List Arg->Option Res}
theorem ev_l8DrawRight (b:List Int) (c:Nat×Int) (hb:byt b) (hc:c.1<=b.length): ∃n c',nB n/\c'.1<=b.length/\semK G PK md 112 [.pm (cur b c)]=some ⟨[.a (owneds (fN n))],[],[cur b c']⟩:=by
 obtain⟨w,c1,hw,k1,e1⟩:=ev_l12DrawRight (PK:=PK) b c hb hc
 obtain⟨x,c2,hx,_,k2,e2⟩:=ev_l1Below (PK:=PK) b c1 3 hb k1 (by omega)
 obtain⟨k,rfl,hk⟩:=draw_lt hx (by omega)
 obtain⟨n,hn⟩:=getElem?_of_lt (l:=w.nodes) (i:=k) (by have:=hw.n3;omega)
 obtain⟨hkl,hn'⟩:=at_of hn
 have hnC:=(worldOk_WI hw.ok hw.S).node n (List.mem_of_getElem? hn)
 simp only[cur,owneds,owned,fWo]at e1 e2
 refine⟨n,c2,hnC.b,k2,semK_of (pf:=p112) rfl (by simp[p112]) ?_⟩
 simp (config:={maxSteps:=10000000}) [p112,md,e1,e2,hkl,hn,hn',Alike2]
structure nD (n:NodeD):Prop where
 S:nS n
 copies:n.copies.length=3
theorem ev_l8Draw (b:List Int) (c:Nat×Int) (hb:byt b) (hc:c.1<=b.length): ∃n c',nD n/\c'.1<=b.length/\semK G PK md 82 [.pm (cur b c)]=some ⟨[.a (owneds (fN n))],[],[cur b c']⟩:=by
 obtain⟨⟨id,up,pr,im,⟨ge,bi,fi,ol,he,la⟩,⟨sa,sb⟩,co,sy,cp,wa⟩,c1,hn,k1,e1⟩:=ev_l8DrawRight (PK:=PK) b c hb hc
 have hS:=hn.nS
 obtain⟨n1,n2,n3,n4,n5,n6,n7,n8,n9,n10⟩:=hn
 obtain⟨s1,s2,s3,s4,s5,s6,s7⟩:=hS
 simp only at n1 n2 n3 n4 n5 n6 n7 n8 n9 n10 s1 s2 s3 s4 s5 s6 s7
 obtain⟨x,c2,hx,_,k2,e2⟩:=ev_l1Below (PK:=PK) b c1 16 hb k1 (by omega)
 simp only[cur,owneds,owned,fN]at e1 e2
 by_cases x0:x=0
 ·obtain⟨m,c3,hm,_,k3,e3⟩:=ev_l2DrawImage (PK:=PK) b c2 hb k2
  simp only[cur]at e3
  refine⟨⟨id,up,pr,m,⟨ge,bi,fi,ol,he,la⟩,⟨sa,sb⟩,co,sy,cp,wa⟩,c3,⟨⟨by simp only;omega,s2,s3,s4,s5,s6,s7⟩,n9⟩,k3,semK_of (pf:=p82) rfl (by simp[p82]) ?_⟩
  simp (config:={maxSteps:=10000000}) [p82,md,e1,e2,e3,x0]
 by_cases x1:x=1
 ·obtain⟨⟨g,B,f,o,h,l⟩,c3,hm,k3,e3⟩:=ev_l5Draw (PK:=PK) b c2 hb k2
  have hmS:=hm.S
  simp only[cur,owneds,owned,fM]at e3
  refine⟨⟨id,up,pr,im,⟨g,B,f,o,h,l⟩,⟨sa,sb⟩,co,sy,cp,wa⟩,c3,⟨⟨s1,hmS,s3,s4,s5,s6,s7⟩,n9⟩,k3,semK_of (pf:=p82) rfl (by simp[p82]) ?_⟩
  simp (config:={maxSteps:=10000000}) [p82,md,e1,e2,e3,x1]
 by_cases x2:x=2
 ·obtain⟨⟨u,v⟩,c3,hs,k3,e3⟩:=ev_l6Draw (PK:=PK) b c2 hb k2
  simp only[cur,owneds,owned,fSl]at e3
  refine⟨⟨id,up,pr,im,⟨ge,bi,fi,ol,he,la⟩,⟨u,v⟩,co,sy,cp,wa⟩,c3,⟨⟨s1,s2,hs,s4,s5,s6,s7⟩,n9⟩,k3,semK_of (pf:=p82) rfl (by simp[p82]) ?_⟩
  simp (config:={maxSteps:=10000000}) [p82,md,e1,e2,e3,x2]
 by_cases x3:x=3
 ·obtain⟨y,c3,hy,_,k3,e3⟩:=ev_l1Below (PK:=PK) b c2 3 hb k2 (by omega)
  obtain⟨k,rfl,hk⟩:=draw_lt hy (by omega)
  obtain⟨f,c4,k4,e4⟩:=ev_l1Once (PK:=PK) b c3 2 hb k3 (by omega)
  simp only[cur]at e3 e4
  have hkl:k<co.length:=by omega
  refine⟨⟨id,up,pr,im,⟨ge,bi,fi,ol,he,la⟩,⟨sa,sb⟩,co.set k f,sy,cp,wa⟩,c4,⟨⟨s1,s2,s3,by simp only[List.length_set];exact s4,s5,s6,s7⟩,n9⟩,k4,semK_of (pf:=p82) rfl (by simp[p82]) ?_⟩
  simp (config:={maxSteps:=10000000}) [p82,md,e1,e2,e3,e4,x3,hkl]
 by_cases x4:x=4
 ·obtain⟨y,c3,hy,_,k3,e3⟩:=ev_l1Below (PK:=PK) b c2 3 hb k2 (by omega)
  obtain⟨k,rfl,hk⟩:=draw_lt hy (by omega)
  obtain⟨f,c4,k4,e4⟩:=ev_l1Once (PK:=PK) b c3 2 hb k3 (by omega)
  simp only[cur]at e3 e4
  have hkl:k<cp.length:=by omega
  refine⟨⟨id,up,pr,im,⟨ge,bi,fi,ol,he,la⟩,⟨sa,sb⟩,co,sy,cp.set k f,wa⟩,c4,⟨⟨s1,s2,s3,s4,s5,by simp only[List.length_set];exact s6,s7⟩,by simp only[List.length_set];exact n9⟩,k4,semK_of (pf:=p82) rfl (by simp[p82]) ?_⟩
  simp (config:={maxSteps:=10000000}) [p82,md,e1,e2,e3,e4,x4,hkl]
 by_cases x5:x=5
 ·obtain⟨y,c3,hy,_,k3,e3⟩:=ev_l1Below (PK:=PK) b c2 3 hb k2 (by omega)
  obtain⟨k,rfl,hk⟩:=draw_lt hy (by omega)
  obtain⟨m,c4,hm,k4,e4⟩:=ev_l2DrawMarks (PK:=PK) b c3 hb k3
  simp only[cur]at e3 e4
  have hkl:k<sy.length:=by omega
  refine⟨⟨id,up,pr,im,⟨ge,bi,fi,ol,he,la⟩,⟨sa,sb⟩,co,sy.set k m,cp,wa⟩,c4,⟨⟨s1,s2,s3,s4,⟨by simp only[List.length_set];exact s5.1,fun z hz=> ?_⟩,s6,s7⟩,n9⟩,k4,semK_of (pf:=p82) rfl (by simp[p82]) ?_⟩
  ·rcases List.mem_or_eq_of_mem_set hz with hz|rfl
   ·exact s5.2 z hz
   ·omega
  simp (config:={maxSteps:=10000000}) [p82,md,e1,e2,e3,e4,x5,hkl]
 by_cases x6:x=6
 ·obtain⟨y,c3,hy,k3,e3⟩:=ev_l1PickInt (PK:=PK) b c2 [0,1,90,201] hb k2 (by simp) (by simp)
  simp only[cur,enc_cons,enc_nil,fI]at e3
  have gs:(wa.length+1)*8<=35184372088832:=by omega
  have happ:enc fI wa++[[T.sc (.int .i64 y)]]=enc fI (wa++[y]):=enc_append fI wa [y]
  refine⟨⟨id,up,pr,im,⟨ge,bi,fi,ol,he,la⟩,⟨sa,sb⟩,co,sy,cp,wa++[y]⟩,c3,⟨⟨s1,s2,s3,s4,s5,s6,by simp;omega⟩,n9⟩,k3,semK_of (pf:=p82) rfl (by simp[p82]) ?_⟩
  simp (config:={maxSteps:=10000000}) [p82,md,e1,e2,e3,x6,gs,happ]
 by_cases x7:x=7
 ·refine⟨⟨id,!up,pr,im,⟨ge,bi,fi,ol,he,la⟩,⟨sa,sb⟩,co,sy,cp,wa⟩,c2,⟨⟨s1,s2,s3,s4,s5,s6,s7⟩,n9⟩,k2,semK_of (pf:=p82) rfl (by simp[p82]) ?_⟩
  simp (config:={maxSteps:=10000000}) [p82,md,e1,e2,x7]
 by_cases x8:x=8
 ·refine⟨⟨id,up,!pr,im,⟨ge,bi,fi,ol,he,la⟩,⟨sa,sb⟩,co,sy,cp,wa⟩,c2,⟨⟨s1,s2,s3,s4,s5,s6,s7⟩,n9⟩,k2,semK_of (pf:=p82) rfl (by simp[p82]) ?_⟩
  simp (config:={maxSteps:=10000000}) [p82,md,e1,e2,x8]
 by_cases x9:x=9
 ·obtain⟨y,c3,hy,_,k3,e3⟩:=ev_l1Below (PK:=PK) b c2 5 hb k2 (by omega)
  have hy:=hy (by omega)
  simp only[cur]at e3
  have hwy:IntKind.wrap .i64 (y - 1)=y - 1:=wrap_id (by omega) (by omega)
  refine⟨⟨y - 1,up,pr,im,⟨ge,bi,fi,ol,he,la⟩,⟨sa,sb⟩,co,sy,cp,wa⟩,c3,⟨⟨s1,s2,s3,s4,s5,s6,s7⟩,n9⟩,k3,semK_of (pf:=p82) rfl (by simp[p82]) ?_⟩
  simp (config:={maxSteps:=10000000}) [p82,md,e1,e2,e3,x9,hwy]
 refine⟨⟨id,up,pr,im,⟨ge,bi,fi,ol,he,la⟩,⟨sa,sb⟩,co,sy,cp,wa⟩,c2,⟨⟨s1,s2,s3,s4,s5,s6,s7⟩,n9⟩,k2,semK_of (pf:=p82) rfl (by simp[p82]) ?_⟩
 simp (config:={maxSteps:=10000000}) [p82,md,e1,e2,x0,x1,x2,x3,x4,x5,x6,x7,x8,x9]
structure DW (w:WorldD):Prop where
 S:wS w
 n3:w.nodes.length=3
 cp: ∀x∈w.nodes,x.copies.length=3
 net:w.net.length<=1000
 log:w.log.length<=2000
 safe:w.safe.length<=2000
theorem DR.D {w:WorldD} (h:DR w):DW w:=⟨h.S,h.n3,h.cp,by have:=h.net;omega,by have:=(worldOk_WI h.ok h.S).log;omega,by have:=(worldOk_WI h.ok h.S).safe;omega⟩
theorem set_DW {w:WorldD} (h:DW w) (k:Nat) {n:NodeD} (hn:nD n):DW {w with nodes:=w.nodes.set k n}:=
 ⟨⟨by simp only[List.length_set];exact h.S.nodes,fun x hx=>by
  rcases List.mem_or_eq_of_mem_set hx with hx|rfl
  ·exact h.S.node x hx
  ·exact hn.S,h.S.net,h.S.wire,h.S.log,h.S.safe⟩,by simp only[List.length_set];exact h.n3,fun x hx=>by
  rcases List.mem_or_eq_of_mem_set hx with hx|rfl
  ·exact h.cp x hx
  ·exact hn.copies,h.net,h.log,h.safe⟩
theorem ev_l12Draw (b:List Int) (c:Nat×Int) (hb:byt b) (hc:c.1<=b.length): ∃w c',DW w/\c'.1<=b.length/\semK G PK md 84 [.pm (cur b c)]=some ⟨[.a (owneds (fWo w))],[],[cur b c']⟩:=by
 obtain⟨w,c1,hw,k1,e1⟩:=ev_l12DrawRight (PK:=PK) b c hb hc
 obtain⟨x,c2,hx,_,k2,e2⟩:=ev_l1Below (PK:=PK) b c1 20 hb k1 (by omega)
 have hD:=hw.D
 have hI:=worldOk_WI hw.ok hw.S
 have i1:=hI.net
 have i2:=hI.log
 have i3:=hI.safe
 have hn3:=hw.n3
 simp only[cur,owneds,owned,fWo]at e1 e2
 by_cases x0:x=0
 ·obtain⟨y,c3,hy,_,k3,e3⟩:=ev_l1Below (PK:=PK) b c2 3 hb k2 (by omega)
  obtain⟨k,rfl,hk⟩:=draw_lt hy (by omega)
  obtain⟨n,c4,hn,k4,e4⟩:=ev_l8Draw (PK:=PK) b c3 hb k3
  simp only[cur,owneds,owned,fN]at e3 e4
  have hkl:k<w.nodes.length:=by omega
  refine⟨{w with nodes:=w.nodes.set k n},c4,set_DW hD k hn,k4,semK_of (pf:=p84) rfl (by simp[p84]) ?_⟩
  simp (config:={maxSteps:=10000000}) [p84,md,e1,e2,e3,e4,x0,hkl,Alike2]
 by_cases x1:x=1
 ·obtain⟨y,c3,hy,_,k3,e3⟩:=ev_l1Below (PK:=PK) b c2 3 hb k2 (by omega)
  obtain⟨z,c4,hz,_,k4,e4⟩:=ev_l1Below (PK:=PK) b c3 4 hb k3 (by omega)
  have hz:=hz (by omega)
  obtain⟨m,c5,hm,k5,e5⟩:=ev_l4DrawRight (PK:=PK) b c4 hb k4
  have e6:=ev_spec_MsgBytes (PK:=PK) m (by omega)
  have hl:=msgBytes_len m
  have hby:=msgBytes_by m
  simp only[cur,owneds,owned,lents,lent,fMs]at e3 e4 e5 e6
  have hwz:IntKind.wrap .i64 (z - 1)=z - 1:=wrap_id (by omega) (by omega)
  generalize msgBytes m=mb at*
  have gs:(w.net.length+1)*40<=35184372088832:=by omega
  have happ:enc fW w.net++[[T.sc (.int .i64 y),T.sc (.int .i64 (z - 1)),T.sl 1 (enc fU mb)]]=enc fW (w.net++[⟨y,z - 1,mb⟩]):=enc_append fW w.net [⟨y,z - 1,mb⟩]
  refine⟨{w with net:=w.net++[⟨y,z - 1,mb⟩]},c5,⟨⟨hw.S.nodes,hw.S.node,by simp;omega,fun q hq=> ?_,hw.S.log,hw.S.safe⟩,hn3,hw.cp,by simp;omega,hD.log,hD.safe⟩,k5,semK_of (pf:=p84) rfl (by simp[p84]) ?_⟩
  ·rcases List.mem_append.1 hq with hq|hq
   ·exact hw.S.wire q hq
   ·rw[List.mem_singleton.1 hq];exact⟨by simp only;omega,hby⟩
  simp (config:={maxSteps:=10000000}) [p84,md,e1,e2,e3,e4,e5,e6,x1,hwz,gs,happ,Alike2]
 by_cases x2:x=2
 ·obtain⟨y,c3,hy,_,k3,e3⟩:=ev_l1Below (PK:=PK) b c2 10 hb k2 (by omega)
  have hy:=hy (by omega)
  obtain⟨z,c4,hz,_,k4,e4⟩:=ev_l1Below (PK:=PK) b c3 5 hb k3 (by omega)
  simp only[cur]at e3 e4
  have hwz:IntKind.wrap .i64 (y - 1)=y - 1:=wrap_id (by omega) (by omega)
  have gs:(w.log.length+1)*16<=35184372088832:=by omega
  have happ:enc fR w.log++[[T.sc (.int .i64 (y - 1)),T.sc (.int .i64 z)]]=enc fR (w.log++[⟨y - 1,z⟩]):=enc_append fR w.log [⟨y - 1,z⟩]
  refine⟨{w with log:=w.log++[⟨y - 1,z⟩]},c4,⟨⟨hw.S.nodes,hw.S.node,hw.S.net,hw.S.wire,by simp;omega,hw.S.safe⟩,hn3,hw.cp,hD.net,by simp;omega,hD.safe⟩,k4,semK_of (pf:=p84) rfl (by simp[p84]) ?_⟩
  simp (config:={maxSteps:=10000000}) [p84,md,e1,e2,e3,e4,x2,hwz,gs,happ,Alike2]
 by_cases x3:x=3
 ·obtain⟨y,c3,hy,_,k3,e3⟩:=ev_l1Below (PK:=PK) b c2 9 hb k2 (by omega)
  simp only[cur]at e3
  have gs:(w.safe.length+1)*8<=35184372088832:=by omega
  have happ:enc fI w.safe++[[T.sc (.int .i64 y)]]=enc fI (w.safe++[y]):=enc_append fI w.safe [y]
  refine⟨{w with safe:=w.safe++[y]},c3,⟨⟨hw.S.nodes,hw.S.node,hw.S.net,hw.S.wire,hw.S.log,by simp;omega⟩,hn3,hw.cp,hD.net,hD.log,by simp;omega⟩,k3,semK_of (pf:=p84) rfl (by simp[p84]) ?_⟩
  simp (config:={maxSteps:=10000000}) [p84,md,e1,e2,e3,x3,gs,happ,Alike2]
 by_cases x4:x=4
 ·obtain⟨y,c3,hy,k3,e3⟩:=ev_l1PickInt (PK:=PK) b c2 [1,2,100000,100001] hb k2 (by simp) (by simp)
  simp only[cur,enc_cons,enc_nil,fI]at e3
  refine⟨{w with gen:=y},c3,⟨⟨hw.S.nodes,hw.S.node,hw.S.net,hw.S.wire,hw.S.log,hw.S.safe⟩,hn3,hw.cp,hD.net,hD.log,hD.safe⟩,k3,semK_of (pf:=p84) rfl (by simp[p84]) ?_⟩
  simp (config:={maxSteps:=10000000}) [p84,md,e1,e2,e3,x4]
 by_cases x5:x=5
 ·obtain⟨n,hn⟩:=getElem?_of_lt (l:=w.nodes) (i:=0) (by omega)
  obtain⟨hkl,hn'⟩:=at_of hn
  have hm:=List.mem_of_getElem? hn
  have hnb:=(hI.node n hm).b
  have hwl:IntKind.wrap .i64 ((w.log.length:Int)+1)=w.log.length+1:=wrap_id (by omega) (by omega)
  obtain⟨y,c3,hy,_,k3,e3⟩:=ev_l1Below (PK:=PK) b c2 (w.log.length+1) hb k2 (by omega)
  have e4:=ev_spec_Put (PK:=PK) n.image 1 y (by have:=hnb.image;omega)
  have hpl:=putAt_len n.image 1 y
  simp only[cur]at e3
  generalize putAt n.image 1 y=im at*
  refine⟨{w with nodes:=w.nodes.set 0 {n with image:=im}},c3,set_DW hD 0 ⟨⟨by simp only;rw[hpl];exact hnb.nS.image,hnb.nS.mt,hnb.nS.sl,hnb.nS.conn,hnb.nS.sync,hnb.nS.copies,hnb.nS.wait⟩,hnb.copies⟩,k3,semK_of (pf:=p84) rfl (by simp[p84]) ?_⟩
  simp (config:={maxSteps:=10000000}) [p84,md,e1,e2,e3,e4,x5,hwl,hkl,hn,hn',Alike2]
 by_cases x6:x=6
 ·obtain⟨n,hn⟩:=getElem?_of_lt (l:=w.nodes) (i:=1) (by omega)
  obtain⟨hkl,hn'⟩:=at_of hn
  have hm:=List.mem_of_getElem? hn
  have hnb:=(hI.node n hm).b
  have e4:=ev_spec_SlotPut (PK:=PK) n.sl {n.mt with fine:= !n.mt.fine} hnb.sl hnb.mt
  have hsp:=slotPut_S hnb.sl {n.mt with fine:= !n.mt.fine}
  simp only[lents,lent,owneds,owned,fM,fSl]at e4
  generalize slotPut n.sl {n.mt with fine:= !n.mt.fine}=sp at*
  refine⟨{w with nodes:=w.nodes.set 1 {n with mt:={n.mt with fine:= !n.mt.fine},sl:=sp}},c2,set_DW hD 1 ⟨⟨hnb.nS.image,hnb.nS.mt,hsp,hnb.nS.conn,hnb.nS.sync,hnb.nS.copies,hnb.nS.wait⟩,hnb.copies⟩,k2,semK_of (pf:=p84) rfl (by simp[p84]) ?_⟩
  simp (config:={maxSteps:=10000000}) [p84,md,e1,e2,e4,x6,hkl,hn,hn',Alike2]
 refine⟨w,c2,hD,k2,semK_of (pf:=p84) rfl (by simp[p84]) ?_⟩
 simp (config:={maxSteps:=10000000}) [p84,md,e1,e2,x0,x1,x2,x3,x4,x5,x6]
end Go.Proofs.YtbolhfegdocpeaaGreat.Ow
