/- Functions evaluated on the small machine: What is drawn: stores, What all drawn laws begin with: a code is not too long; its bytes. -/
import Derived.Test.YtbolhfegdocpeaaGreatEvS1
import Derived.Test.YtbolhfegdocpeaaGreatEv21
namespace Go.Proofs.YtbolhfegdocpeaaGreat.Ow
open Go
set_option linter.unusedVariables false
set_option linter.unusedSimpArgs false
set_option maxHeartbeats 16000000
variable {PK:Nat->List Arg->Option Res}
def newS:StoreD:=⟨newW,[]⟩
theorem ev_spec_StoreNew:semK G PK md 137 []=some ⟨[.a (owneds (fSt newS))],[],[]⟩:=by
 refine semK_of (pf:=p137) rfl (by simp[p137]) ?_
 have e:=ev_spec_WorldNew (PK:=PK)
 unfold newS
 generalize newW=w at*
 simp only[fWo,owneds,owned]at e
 simp[p137,md,e]
@[simp] def st100 (b:List Int) (N:Nat) (c:Nat×Int) (s:StoreD) (j:Nat):St:={n:=66,m:=1,tm:=[(0,.pb 0 0),(4,.pb 10000000 0),(5,.pb 10000001 0),(6,.sc (.int .i64 N)),(7,.sc (.int .i64 j))],ob:=[(0,curB b c),(10000000,z6),(10000001,.box [.ref 10000002 [],.ref 10000003 [],.ref 10000004 [],.ref 10000005 [],.sc (.int .i64 s.w.gen),.ref 10000006 []]),(10000002,.arr 16 (enc fN s.w.nodes)),(10000003,.arr 3 (enc fW s.w.net)),(10000004,.arr 2 (enc fR s.w.log)),(10000005,.arr 1 (enc fI s.w.safe)),(10000006,.arr 1 (enc fUU s.blocks))]}
theorem step_SRun (b:List Int) (hb:byt b) (N:Nat) (hN:N<=1000) (c:Nat×Int) (s:StoreD) (j:Nat) (hc:c.1<=b.length) (hs:RS s (j*9)) (hj:j<N):
  ∃c' s',c'.1<=b.length/\RS s' ((j+1)*9)/\ ∃t,exec (semK G PK md) (semL G PK md) md b100_0 (st100 b N c s j)=some (.normal,t)/\t.m<=10000000/\canon 10000000 [0,4,5,6,7] t=st100 b N c' s' (j+1):=by
 obtain⟨d,c1,k1,e1⟩:=ev_l12DrawDeed (PK:=PK) b c s.w hb hc hs.w.n3 hs.w.cp (by have:=hs.w.net;omega)
 simp only[cur,owneds,owned,fWo,fD,wfin]at e1
 have hinc:=incr hj (by omega)
 have hs9:RS s ((j+1)*9):=⟨hs.w,hs.b.mono (by omega)⟩
 have hD: ∀d,(∃v,RS v ((j+1)*9)/\semK G PK md 141 [.a (lents (fSt s)),.a (lents (fD d))]=some ⟨[.a (owneds (fSt v)),.v (.sc (.int .i64 0))],[],[]⟩)\/(∃v x,¬x=0/\semK G PK md 141 [.a (lents (fSt s)),.a (lents (fD d))]=some ⟨[.a (owneds (fSt v)),.v (.sc (.int .i64 x))],[],[]⟩):=fun d=>by
  rcases ev_StoreDo (PK:=PK) s d (j*9) hs (by omega)with ⟨v,hv,e⟩|h
  ·exact .inl ⟨v,⟨hv.w,hv.b.mono (by omega)⟩,e⟩
  ·exact .inr h
 have hP: ∀a fr m,m.length<=12->by8N m-> ∃v x,RS v ((j+1)*9)/\semK G PK md 139 [.a (lents (fSt s)),.v (.sc (.int .i64 a)),.v (.sc (.int .i64 fr)),.v (.im 1 (enc fU m))]=some ⟨[.a (owneds (fSt v)),.v (.sc (.int .i64 x))],[],[]⟩:=fun a fr m h1 h2=>by
  obtain⟨v,x,hv,e⟩:=ev_PutBytes (PK:=PK) s a fr m (j*9) hs (by omega) (by omega) h2
  exact⟨v,x,⟨hv.w,hv.b.mono (by omega)⟩,e⟩
 have w16: ∀q:Nat,q<4->IntKind.wrap .i64 ((q:Int)+1)=((q+1:Nat):Int):=fun q hq=>incr hq (by omega)
 obtain⟨f,c2,k2,e2⟩:=ev_l1Once (PK:=PK) b c1 8 hb k1 (by omega)
 obtain⟨y,c3,_,_,k3,e3⟩:=ev_l1Below (PK:=PK) b c2 2 hb k2 (by omega)
 simp only[cur]at e2 e3
 by_cases h4:j<4
 ·have h4':(j:Int)<4:=by omega
  cases f
  ·have k_:=k3
   rcases(by omega:j=0\/j=1\/j=2\/j=3)with rfl|rfl|rfl|rfl
   ·rcases hD ⟨2,0,1⟩with ⟨v,hv,e9⟩|⟨v,x9,h9,e9⟩
    ·simp only[lents,lent,owneds,owned,fSt,fWo,fD]at e9
     refine⟨c3,v,k_,hv,?_⟩
     simp (config:={maxSteps:=10000000}) [b100_0,md,hj,e1,e9,Alike2,e2,e3,show IntKind.wrap .i64 1=1 from rfl]
    ·simp only[lents,lent,owneds,owned,fSt,fWo,fD]at e9
     refine⟨c3,s,k_,hs9,?_⟩
     simp (config:={maxSteps:=10000000}) [b100_0,md,hj,e1,e9,h9,Alike2,e2,e3,show IntKind.wrap .i64 1=1 from rfl]
   ·rcases hD ⟨9,0,1⟩with ⟨v,hv,e9⟩|⟨v,x9,h9,e9⟩
    ·simp only[lents,lent,owneds,owned,fSt,fWo,fD]at e9
     refine⟨c3,v,k_,hv,?_⟩
     simp (config:={maxSteps:=10000000}) [b100_0,md,hj,e1,e9,Alike2,e2,e3,show (1:Int)<N by omega,show IntKind.wrap .i64 2=2 from rfl]
    ·simp only[lents,lent,owneds,owned,fSt,fWo,fD]at e9
     refine⟨c3,s,k_,hs9,?_⟩
     simp (config:={maxSteps:=10000000}) [b100_0,md,hj,e1,e9,h9,Alike2,e2,e3,show (1:Int)<N by omega,show IntKind.wrap .i64 2=2 from rfl]
   ·rcases hD ⟨7,0,0⟩with ⟨v,hv,e9⟩|⟨v,x9,h9,e9⟩
    ·simp only[lents,lent,owneds,owned,fSt,fWo,fD]at e9
     refine⟨c3,v,k_,hv,?_⟩
     simp (config:={maxSteps:=10000000}) [b100_0,md,hj,e1,e9,Alike2,e2,e3,show (2:Int)<N by omega,show IntKind.wrap .i64 3=3 from rfl]
    ·simp only[lents,lent,owneds,owned,fSt,fWo,fD]at e9
     refine⟨c3,s,k_,hs9,?_⟩
     simp (config:={maxSteps:=10000000}) [b100_0,md,hj,e1,e9,h9,Alike2,e2,e3,show (2:Int)<N by omega,show IntKind.wrap .i64 3=3 from rfl]
   ·rcases hD ⟨11,y,0⟩with ⟨v,hv,e9⟩|⟨v,x9,h9,e9⟩
    ·simp only[lents,lent,owneds,owned,fSt,fWo,fD]at e9
     refine⟨c3,v,k_,hv,?_⟩
     simp (config:={maxSteps:=10000000}) [b100_0,md,hj,e1,e9,Alike2,e2,e3,show (3:Int)<N by omega,show IntKind.wrap .i64 4=4 from rfl]
    ·simp only[lents,lent,owneds,owned,fSt,fWo,fD]at e9
     refine⟨c3,s,k_,hs9,?_⟩
     simp (config:={maxSteps:=10000000}) [b100_0,md,hj,e1,e9,h9,Alike2,e2,e3,show (3:Int)<N by omega,show IntKind.wrap .i64 4=4 from rfl]
  ·have k_:=k2
   by_cases h1:d.kind=1
   ·obtain⟨fr,cA,_,_,kA,eA⟩:=ev_l1Below (PK:=PK) b c2 64 hb k_ (by omega)
    obtain⟨m,cB,hm1,hm2,kB,eB⟩:=ev_l17DrawData (PK:=PK) b cA 12 hb kA (by omega)
    obtain⟨v,x,hv,eC⟩:=hP d.a fr m hm1 hm2
    rw[show ((12:Nat):Int)=12 from rfl]at eB
    simp only[cur,lents,lent,owneds,owned,fSt,fWo]at eA eB eC
    refine⟨cB,v,kB,hv,?_⟩
    simp (config:={maxSteps:=10000000}) [b100_0,md,hj,e1,eA,eB,eC,Alike2,e2,h4,h4',h1,hinc]
   ·rcases hD d with ⟨v,hv,e9⟩|⟨v,x9,h9,e9⟩
    ·simp only[lents,lent,owneds,owned,fSt,fWo,fD]at e9
     refine⟨c2,v,k_,hv,?_⟩
     simp (config:={maxSteps:=10000000}) [b100_0,md,hj,e1,e9,Alike2,e2,h4,h4',h1,hinc]
    ·simp only[lents,lent,owneds,owned,fSt,fWo,fD]at e9
     refine⟨c2,s,k_,hs9,?_⟩
     simp (config:={maxSteps:=10000000}) [b100_0,md,hj,e1,e9,h9,Alike2,e2,h4,h4',h1,hinc]
 ·have h4': ¬ (j:Int)<4:=by omega
  have k_:=k1
  by_cases h1:d.kind=1
  ·obtain⟨fr,cA,_,_,kA,eA⟩:=ev_l1Below (PK:=PK) b c1 64 hb k_ (by omega)
   obtain⟨m,cB,hm1,hm2,kB,eB⟩:=ev_l17DrawData (PK:=PK) b cA 12 hb kA (by omega)
   obtain⟨v,x,hv,eC⟩:=hP d.a fr m hm1 hm2
   rw[show ((12:Nat):Int)=12 from rfl]at eB
   simp only[cur,lents,lent,owneds,owned,fSt,fWo]at eA eB eC
   refine⟨cB,v,kB,hv,?_⟩
   simp (config:={maxSteps:=10000000}) [b100_0,md,hj,e1,eA,eB,eC,Alike2,h4,h4',h1,hinc]
  ·rcases hD d with ⟨v,hv,e9⟩|⟨v,x9,h9,e9⟩
   ·simp only[lents,lent,owneds,owned,fSt,fWo,fD]at e9
    refine⟨c1,v,k_,hv,?_⟩
    simp (config:={maxSteps:=10000000}) [b100_0,md,hj,e1,e9,Alike2,h4,h4',h1,hinc]
   ·simp only[lents,lent,owneds,owned,fSt,fWo,fD]at e9
    refine⟨c1,s,k_,hs9,?_⟩
    simp (config:={maxSteps:=10000000}) [b100_0,md,hj,e1,e9,h9,Alike2,h4,h4',h1,hinc]
theorem newS_RS:RS newS 0:=⟨newW_DR,⟨by simp[newS],fun x hx=>by simp[newS]at hx⟩⟩
theorem ev_l23DrawRight (b:List Int) (c:Nat×Int) (most:Nat) (hb:byt b) (hc:c.1<=b.length) (hm:most<=900): ∃s c',RS s 9000/\c'.1<=b.length/\semK G PK md 100 [.pm (cur b c),.v (.sc (.int .i64 most))]=some ⟨[.a (owneds (fSt s))],[],[cur b c']⟩:=by
 have e0:=ev_spec_StoreNew (PK:=PK)
 simp only[owneds,owned,fSt,fWo]at e0
 have hw1:IntKind.wrap .i64 ((most:Int)+1)=most+1:=wrap_id (by omega) (by omega)
 obtain⟨x,c1,hx,_,k1,e1⟩:=ev_l1Below (PK:=PK) b c (most+1) hb hc (by omega)
 obtain⟨N,rfl,hN⟩:=draw_lt hx (by omega)
 simp only[cur]at e1
 obtain⟨r,⟨c2,s,j,k2,hs,hr⟩,hlp⟩:=loop_ex (G:=G) (PK:=PK) (md:=md) (o:=10000000) (live:=[0,4,5,6,7]) (c:=b100_0) (α:=(Nat×Int)×StoreD×Nat) (fun a=>st100 b N a.1 a.2.1 a.2.2) (fun a=>N - a.2.2) (fun a=>a.1.1<=b.length/\RS a.2.1 (a.2.2*9)/\a.2.2<=N) (fun r=> ∃c s j,c.1<=b.length/\RS s 9000/\r=(.exit 0,{st100 b N c s j with tm:=(st100 b N c s j).tm++[(18,.sc (.bool false))]})) (fun a ha=>by
  obtain⟨c,s,j⟩:=a
  obtain⟨h1,h2,h3⟩:=ha
  simp only at h1 h2 h3
  by_cases hj:j<N
  ·obtain⟨c',s',g1,g2,hst⟩:=step_SRun (PK:=PK) b hb N (by omega) c s j h1 h2 hj
   exact .inl ⟨(c',s',j+1),⟨g1,g2,by simp only;omega⟩,by simp only;omega,hst⟩
  ·exact .inr ⟨(.exit 0,{st100 b N c s j with tm:=(st100 b N c s j).tm++[(18,.sc (.bool false))]}),by simp[b100_0,md,hj],by simp,c,s,j,h1,⟨h2.w,h2.b.mono (by omega)⟩,rfl⟩) (c1,newS,0) ⟨k1,newS_RS,by simp⟩
 refine⟨s,c2,hs,k2,semK_of (pf:=p100) rfl (by simp[p100]) ?_⟩
 generalize newS=v at*
 simp[p100,md,e0,e1,hw1,Alike2]
 rw[hlp]
 ·simp[hr,Alike2]
 ·simp
 ·simp
structure SD (s:StoreD):Prop where
 w:DW s.w
 b:BB s.blocks 9001
theorem SD.S {s:StoreD} (h:SD s):stS s:=stS_of h.w.S h.b (by omega)
theorem ev_l23Draw (b:List Int) (c:Nat×Int) (hb:byt b) (hc:c.1<=b.length): ∃s c',SD s/\c'.1<=b.length/\semK G PK md 66 [.pm (cur b c)]=some ⟨[.a (owneds (fSt s))],[],[cur b c']⟩:=by
 obtain⟨s,c1,hs,k1,e1⟩:=ev_l23DrawRight (PK:=PK) b c 50 hb hc (by omega)
 rw[show ((50:Nat):Int)=50 from rfl]at e1
 obtain⟨x,c2,_,_,k2,e2⟩:=ev_l1Below (PK:=PK) b c1 12 hb k1 (by omega)
 simp only[cur,owneds,owned,fSt,fWo]at e1 e2
 have hb9:BB s.blocks 9001:=hs.b.mono (by omega)
 by_cases x0:x=0
 ·obtain⟨w,c3,hw,k3,e3⟩:=ev_l12Draw (PK:=PK) b c2 hb k2
  simp only[cur,owneds,owned,fWo]at e3
  refine⟨⟨w,s.blocks⟩,c3,⟨hw,hb9⟩,k3,semK_of (pf:=p66) rfl (by simp[p66]) ?_⟩
  simp (config:={maxSteps:=10000000}) [p66,md,e1,e2,e3,x0,Alike2]
 by_cases x1:x=1
 ·obtain⟨m,c3,hm1,hm2,k3,e3⟩:=ev_l17Draw (PK:=PK) b c2 hb k2
  simp only[cur]at e3
  have gs:(s.blocks.length+1)*24<=35184372088832:=by have:=hs.b.len;omega
  have happ:enc fUU s.blocks++[[T.sl 1 (enc fU m)]]=enc fUU (s.blocks++[m]):=enc_append fUU _ [m]
  refine⟨⟨s.w,s.blocks++[m]⟩,c3,⟨hs.w.D,hs.b.app hm2 hm1⟩,k3,semK_of (pf:=p66) rfl (by simp[p66]) ?_⟩
  simp (config:={maxSteps:=10000000}) [p66,md,e1,e2,e3,x1,gs,happ,Alike2]
 by_cases x2:x=2
 ·by_cases h0:0<s.blocks.length
  ·obtain⟨m,c3,hm1,hm2,k3,e3⟩:=ev_l17Draw (PK:=PK) b c2 hb k2
   simp only[cur]at e3
   have hset:(enc fUU s.blocks).set 0 [T.sl 1 (enc fU m)]=enc fUU (s.blocks.set 0 m):=enc_set fUU _ 0 m
   have h0':(0:Int)<s.blocks.length:=by omega
   refine⟨⟨s.w,s.blocks.set 0 m⟩,c3,⟨hs.w.D,⟨by simp only[List.length_set];exact hb9.len,fun y hy=> ?_⟩⟩,k3,semK_of (pf:=p66) rfl (by simp[p66]) ?_⟩
   ·rcases List.mem_or_eq_of_mem_set hy with hy|rfl
    ·exact hb9.blk y hy
    ·exact⟨hm2,hm1⟩
   simp (config:={maxSteps:=10000000}) [p66,md,e1,e2,e3,x2,h0,h0',hset,Alike2]
  ·have h0': ¬ (0:Int)<s.blocks.length:=by omega
   refine⟨s,c2,⟨hs.w.D,hb9⟩,k2,semK_of (pf:=p66) rfl (by simp[p66]) ?_⟩
   simp (config:={maxSteps:=10000000}) [p66,md,e1,e2,x2,h0,h0',Alike2]
 refine⟨s,c2,⟨hs.w.D,hb9⟩,k2,semK_of (pf:=p66) rfl (by simp[p66]) ?_⟩
 simp (config:={maxSteps:=10000000}) [p66,md,e1,e2,x0,x1,x2,Alike2]
end Go.Proofs.YtbolhfegdocpeaaGreat.Ow
namespace Go.Proofs.YtbolhfegdocpeaaGreat.Ow
open Go
set_option linter.unusedVariables false
set_option linter.unusedSimpArgs false
set_option maxHeartbeats 4000000
variable {PK:Nat->List Arg->Option Res}
theorem ev_big (x:List Int) (h:x.length<=9223372036854775807):semK G PK md 7 [.v (.im 1 (enc fU x))]=some ⟨[.v (.sc (.bool (decide (1048576<x.length))))],[],[]⟩:=by
 refine semK_of (pf:=p7) rfl (by simp[p7]) ?_
 have e:decide ((1048576:Int)<x.length)=decide (1048576<x.length):=by
  by_cases h:1048576<x.length
  ·rw[decide_eq_true h,decide_eq_true (by omega)]
  ·rw[decide_eq_false h,decide_eq_false (by omega)]
 simp[p7,md,e]
theorem okU_byt {x:List Int} (h:okU x) (hl:x.length<=1048576):byt x:=⟨hl,fun n hn=>by
 have:=h.2 n hn
 simp[Lit.wf,IntKind.min,IntKind.max,IntKind.bits,IntKind.signed]at this
 omega⟩
end Go.Proofs.YtbolhfegdocpeaaGreat.Ow
