/- Functions evaluated on the small machine: Stores: copied, turned by a deed, written; drawn, Stores: written, turned by a deed; drawn. -/
import Derived.Test.YtbolhfegdocpeaaGreatEv23
import Derived.Test.YtbolhfegdocpeaaGreatEvS0
namespace Go.Proofs.YtbolhfegdocpeaaGreat.Ow
open Go
set_option linter.unusedVariables false
set_option linter.unusedSimpArgs false
set_option maxHeartbeats 16000000
variable {PK:Nat->List Arg->Option Res}
@[simp] def st101 (b:List Int) (N:Nat) (c:Nat×Int) (m:List Int) (j:Nat):St:={n:=23,m:=1,tm:=[(0,.pb 0 0),(3,.sc (.int .i64 N)),(4,.ref 10000000 []),(5,.sc (.int .i64 j))],ob:=[(0,curB b c),(10000000,.arr 1 (enc fU m))]}
@[simp] def st140 (b:List Int) (N:Nat) (c:Nat×Int) (m:List Int) (j:Nat):St:={n:=26,m:=1,tm:=[(0,.pb 0 0),(5,.ref 10000000 []),(6,.sc (.int .i64 N)),(7,.sc (.int .i64 j))],ob:=[(0,curB b c),(10000000,.arr 1 (enc fU m))]}
def by8N (m:List Int):Prop:= ∀x∈m,0<=x/\x<256
theorem by8N_app {m:List Int} {x:Int} (h:by8N m) (hx:0<=x/\x<256):by8N (m++[x]):=fun y hy=>by
 rcases List.mem_append.1 hy with hy|hy
 ·exact h y hy
 ·rw[List.mem_singleton.1 hy];exact hx
theorem lp_17 (b:List Int) (hb:byt b) (N:Nat) (hN:N<=12) (c:Nat×Int) (hc:c.1<=b.length): ∃r c' m j,c'.1<=b.length/\m.length<=12/\by8N m/\r=(.exit 0,{st101 b N c' m j with tm:=(st101 b N c' m j).tm++[(13,.sc (.bool false))]})/\ ∀ (s:St),s.m<=10000000->canon 10000000 [0,3,4,5] s=st101 b N c [] 0->semL G PK md 10000000 [0,3,4,5] b101_0 s=some r:=by
 obtain⟨r,⟨c1,m,j,hc1,hm,hmb,hr⟩,hlp⟩:=loop_ex (G:=G) (PK:=PK) (md:=md) (o:=10000000) (live:=[0,3,4,5]) (c:=b101_0) (α:=(Nat×Int)×List Int×Nat) (fun a=>st101 b N a.1 a.2.1 a.2.2) (fun a=>N - a.2.2) (fun a=>a.1.1<=b.length/\a.2.1.length<=a.2.2/\by8N a.2.1/\a.2.2<=N) (fun r=> ∃c m j,c.1<=b.length/\m.length<=12/\by8N m/\r=(.exit 0,{st101 b N c m j with tm:=(st101 b N c m j).tm++[(13,.sc (.bool false))]})) (fun a ha=>by
  obtain⟨c,m,j⟩:=a
  obtain⟨h1,h2,h3,h4⟩:=ha
  simp only at h1 h2 h3 h4
  by_cases hj:j<N
  ·obtain⟨x,c1,hx,_,k1,e1⟩:=ev_l1Below (PK:=PK) b c 256 hb h1 (by omega)
   have hx:=hx (by omega)
   simp only[cur]at e1
   have hxw:IntKind.wrap .u8 x=x:=by rw[wrap_u8];omega
   have hinc:=incr hj (by omega)
   have gs:m.length+1<=35184372088832:=by omega
   have happ:enc fU m++[[T.sc (.int .u8 x)]]=enc fU (m++[x]):=enc_append fU m [x]
   refine .inl ⟨(c1,m++[x],j+1),⟨k1,by simp;omega,by8N_app h3 hx,by simp only;omega⟩,by simp only;omega,?_⟩
   simp[b101_0,md,hj,e1,hxw,hinc,gs,happ]
  ·exact .inr ⟨(.exit 0,{st101 b N c m j with tm:=(st101 b N c m j).tm++[(13,.sc (.bool false))]}),by simp[b101_0,md,hj],by simp,c,m,j,h1,by omega,h3,rfl⟩) (c,[],0) ⟨hc,by simp,(fun x hx=>nomatch hx),by simp⟩
 exact⟨r,c1,m,j,hc1,hm,hmb,hr,hlp⟩
theorem ev_l17Draw (b:List Int) (c:Nat×Int) (hb:byt b) (hc:c.1<=b.length): ∃m c',m.length<=12/\by8N m/\c'.1<=b.length/\semK G PK md 101 [.pm (cur b c)]=some ⟨[.v (.own 1 (enc fU m))],[],[cur b c']⟩:=by
 obtain⟨f,c1,k1,e1⟩:=ev_l1Once (PK:=PK) b c 8 hb hc (by omega)
 simp only[cur]at e1
 cases f
 ·obtain⟨r,c2,m,j,k2,h1,h2,hr,hlp⟩:=lp_17 (PK:=PK) b hb 8 (by omega) c1 k1
  refine⟨m,c2,h1,h2,k2,semK_of (pf:=p101) rfl (by simp[p101]) ?_⟩
  simp[p101,md,e1]
  rw[hlp]
  ·simp[hr]
  ·simp
  ·simp
 ·obtain⟨x,c2,hx,_,k2,e2⟩:=ev_l1Below (PK:=PK) b c1 12 hb k1 (by omega)
  obtain⟨N,rfl,hN⟩:=draw_lt hx (by omega)
  simp only[cur]at e2
  obtain⟨r,c3,m,j,k3,h1,h2,hr,hlp⟩:=lp_17 (PK:=PK) b hb N (by omega) c2 k2
  refine⟨m,c3,h1,h2,k3,semK_of (pf:=p101) rfl (by simp[p101]) ?_⟩
  simp[p101,md,e1,e2]
  rw[hlp]
  ·simp[hr]
  ·simp
  ·simp
theorem ev_l17DrawData (b:List Int) (c:Nat×Int) (most:Nat) (hb:byt b) (hc:c.1<=b.length) (hm:most<=100): ∃m c',m.length<=most/\by8N m/\c'.1<=b.length/\semK G PK md 140 [.pm (cur b c),.v (.sc (.int .i64 most))]=some ⟨[.v (.own 1 (enc fU m))],[],[cur b c']⟩:=by
 have hw1:IntKind.wrap .i64 ((most:Int)+1)=most+1:=wrap_id (by omega) (by omega)
 obtain⟨x,c1,hx,_,k1,e1⟩:=ev_l1Below (PK:=PK) b c (most+1) hb hc (by omega)
 obtain⟨N,rfl,hN⟩:=draw_lt hx (by omega)
 simp only[cur]at e1
 obtain⟨r,⟨c2,m,j,k2,hm2,hmb,hr⟩,hlp⟩:=loop_ex (G:=G) (PK:=PK) (md:=md) (o:=10000000) (live:=[0,5,6,7]) (c:=b140_0) (α:=(Nat×Int)×List Int×Nat) (fun a=>st140 b N a.1 a.2.1 a.2.2) (fun a=>N - a.2.2) (fun a=>a.1.1<=b.length/\a.2.1.length<=a.2.2/\by8N a.2.1/\a.2.2<=N) (fun r=> ∃c m j,c.1<=b.length/\m.length<=most/\by8N m/\r=(.exit 0,{st140 b N c m j with tm:=(st140 b N c m j).tm++[(15,.sc (.bool false))]})) (fun a ha=>by
  obtain⟨c,m,j⟩:=a
  obtain⟨h1,h2,h3,h4⟩:=ha
  simp only at h1 h2 h3 h4
  by_cases hj:j<N
  ·obtain⟨x,c1,hx,_,k1,e1⟩:=ev_l1Below (PK:=PK) b c 26 hb h1 (by omega)
   have hx:=hx (by omega)
   simp only[cur]at e1
   have hxw0:IntKind.wrap .i64 (97+x)=97+x:=wrap_id (by omega) (by omega)
   have hxw:IntKind.wrap .u8 (97+x)=97+x:=by rw[wrap_u8];omega
   have hinc:=incr hj (by omega)
   have gs:m.length+1<=35184372088832:=by omega
   have happ:enc fU m++[[T.sc (.int .u8 (97+x))]]=enc fU (m++[97+x]):=enc_append fU m [97+x]
   refine .inl ⟨(c1,m++[97+x],j+1),⟨k1,by simp;omega,by8N_app h3 (by omega),by simp only;omega⟩,by simp only;omega,?_⟩
   simp[b140_0,md,hj,e1,hxw0,hxw,hinc,gs,happ]
  ·exact .inr ⟨(.exit 0,{st140 b N c m j with tm:=(st140 b N c m j).tm++[(15,.sc (.bool false))]}),by simp[b140_0,md,hj],by simp,c,m,j,h1,by omega,h3,rfl⟩) (c1,[],0) ⟨k1,by simp,(fun x hx=>nomatch hx),by simp⟩
 refine⟨m,c2,hm2,hmb,k2,semK_of (pf:=p140) rfl (by simp[p140]) ?_⟩
 simp[p140,md,hw1,e1]
 rw[hlp]
 ·simp[hr]
 ·simp
 ·simp
@[simp] def z6:Obj:= .box [.nil 16,.nil 3,.nil 2,.nil 1,.sc (.int .i64 0),.nil 1]
@[simp] def st173 (s:StoreD) (j:Nat):St:=if j=0 then {n:=29,m:=0,tm:=[(1,.pb 10000000 0),(2,.pb 10000001 0),(3,.pb 10000002 0),(4,.sc (.int .i64 j))],ob:=[(10000000,sbox s),(10000001,z6),(10000002,.box [.ref 10000003 [],.ref 10000004 [],.ref 10000005 [],.ref 10000006 [],.sc (.int .i64 s.w.gen),.nil 1]),(10000003,.arr 16 (enc fN s.w.nodes)),(10000004,.arr 3 (enc fW s.w.net)),(10000005,.arr 2 (enc fR s.w.log)),(10000006,.arr 1 (enc fI s.w.safe))]}
 else {n:=29,m:=0,tm:=[(1,.pb 10000000 0),(2,.pb 10000001 0),(3,.pb 10000002 0),(4,.sc (.int .i64 j))],ob:=[(10000000,sbox s),(10000001,z6),(10000002,.box [.ref 10000003 [],.ref 10000004 [],.ref 10000005 [],.ref 10000006 [],.sc (.int .i64 s.w.gen),.ref 10000007 []]),(10000003,.arr 16 (enc fN s.w.nodes)),(10000004,.arr 3 (enc fW s.w.net)),(10000005,.arr 2 (enc fR s.w.log)),(10000006,.arr 1 (enc fI s.w.safe)),(10000007,.arr 1 (enc fUU (s.blocks.take j)))]}
theorem ev_l23Copy (s:StoreD) (hs:stS s) (h3:s.w.nodes.length≠0):semK G PK md 173 [.a (lents (fSt s))]=some ⟨[.a (owneds (fSt s))],[],[]⟩:=by
 refine semK_of (pf:=p173) rfl (by simp[p173]) ?_
 have e0:=ev_l12Copy (PK:=PK) s.w hs.w h3
 simp only[lents,lent,owneds,owned,fWo]at e0
 have hbl:=hs.blocks
 have hsz:=loop_ok (G:=G) (PK:=PK) (md:=md) (o:=10000000) (live:=[1,2,3,4]) (c:=b173_0) (st173 s) s.blocks.length (fun j hj=>by
  obtain⟨x,hx⟩:=getElem?_of_lt hj
  obtain⟨_,hx'⟩:=at_of hx
  have hxb:=hs.block x (List.mem_of_getElem? hx)
  have hinc:=incr hj hbl
  have g1:x.length<=35184372088832:=by have:=hxb.1;omega
  have g2:(min j s.blocks.length+1)*24<=35184372088832:=by omega
  have g3:(j+1)*24<=35184372088832:=by omega
  have htk:s.blocks.take (j+1)=s.blocks.take j++[x]:=by rw[List.take_add_one,hx];rfl
  have happ:enc fUU (s.blocks.take j)++[[T.sl 1 (enc fU x)]]=enc fUU (s.blocks.take j++[x]):=enc_append fUU _ [x]
  have hmn:min j s.blocks.length=j:=Nat.min_eq_left (by omega)
  by_cases h0:j=0
  ·subst h0
   have hx0:enc fUU (s.blocks.take 1)=[[T.sl 1 (enc fU x)]]:=by rw[htk];rfl
   simp (config:={maxSteps:=10000000}) [b173_0,md,hj,hx,hx',g1,hx0,Alike2,show IntKind.wrap .i64 1=1 from rfl]
  ·simp (config:={maxSteps:=10000000}) [b173_0,md,hj,hx,hx',g1,g2,g3,hmn,htk,happ,hinc,h0,Alike2]) (by
  by_cases h0:s.blocks.length=0
  ·simp[b173_0,h0]
  ·simp[b173_0,h0])
 simp[p173,md,e0]
 rw[hsz]
 ·by_cases h0:s.blocks=[]
  ·simp[b173_0,h0]
  ·simp[b173_0,h0]
 ·simp
 ·simp
end Go.Proofs.YtbolhfegdocpeaaGreat.Ow
namespace Go.Proofs.YtbolhfegdocpeaaGreat.Ow
open Go
set_option linter.unusedVariables false
set_option linter.unusedSimpArgs false
set_option maxHeartbeats 16000000
variable {PK:Nat->List Arg->Option Res}
@[simp] def st174 (a:Nat) (d m:List Int) (j:Nat):St:={n:=45,m:=0,tm:=[(1,.sc (.int .i64 a)),(2,.im 1 (enc fU d)),(7,.ref 10000000 []),(8,.sc (.int .i64 j))],ob:=[(10000000,.arr 1 (enc fU m))]}
theorem ev_spec_BlockPut (b d:List Int) (a:Nat) (hb:b.length<=8) (hbb:by8N b) (hd:d.length<=100) (hdb:by8N d) (ha:a<=100): ∃r,r.length<=8/\by8N r/\semK G PK md 174 [.v (.im 1 (enc fU b)),.v (.sc (.int .i64 a)),.v (.im 1 (enc fU d))]=some ⟨[.v (.own 1 (enc fU r))],[],[]⟩:=by
 have e1:=ev_spec_BlockOk (PK:=PK) b
 have gb:b.length<=35184372088832:=by omega
 have na: ¬ (a:Int)<0:=by omega
 have hw:IntKind.wrap .i64 ((b.length:Int) - d.length)=(b.length:Int) - d.length:=wrap_id (by omega) (by omega)
 cases hk:blkOk b
 ·rw[hk]at e1
  refine⟨b,hb,hbb,semK_of (pf:=p174) rfl (by simp[p174]) ?_⟩
  simp[p174,md,e1,gb]
 rw[hk]at e1
 by_cases hc:(b.length:Int) - d.length<a
 ·refine⟨b,hb,hbb,semK_of (pf:=p174) rfl (by simp[p174]) ?_⟩
  simp[p174,md,e1,gb,na,hw,hc]
 obtain⟨r,⟨m,hml,hmb,hr⟩,hlp⟩:=loop_ex (G:=G) (PK:=PK) (md:=md) (o:=10000000) (live:=[1,2,7,8]) (c:=b174_0) (α:=List Int×Nat) (fun q=>st174 a d q.1 q.2) (fun q=>d.length - q.2) (fun q=>q.1.length=b.length/\by8N q.1/\q.2<=d.length) (fun r=> ∃m,m.length=b.length/\by8N m/\r=(.exit 0,{st174 a d m d.length with tm:=(st174 a d m d.length).tm++[(32,.sc (.bool false))]})) (fun q hq=>by
  obtain⟨m,j⟩:=q
  obtain⟨h1,h2,h3⟩:=hq
  simp only at h1 h2 h3
  by_cases hj:j<d.length
  ·obtain⟨x,hx⟩:=getElem?_of_lt hj
   obtain⟨_,hx'⟩:=at_of hx
   have hxb:=hdb x (List.mem_of_getElem? hx)
   have hinc:=incr hj (by omega)
   have hw2:IntKind.wrap .i64 ((a:Int)+j)=((a+j:Nat):Int):=by rw[wrap_id (by omega) (by omega)];rfl
   have hlt:a+j<m.length:=by omega
   have hset:(enc fU m).set (a+j) [T.sc (.int .u8 x)]=enc fU (m.set (a+j) x):=enc_set fU m (a+j) x
   generalize hq:a+j=q at*
   refine .inl ⟨(m.set q x,j+1),⟨by simp only[List.length_set];exact h1,fun y hy=> ?_,by simp only;omega⟩,by simp only;omega,?_⟩
   ·rcases List.mem_or_eq_of_mem_set hy with hy|rfl
    ·exact h2 y hy
    ·exact hxb
   simp[b174_0,md,hj,hx,hx',hw2,hlt,hset,hinc]
  ·obtain rfl:j=d.length:=by omega
   exact .inr ⟨(.exit 0,{st174 a d m d.length with tm:=(st174 a d m d.length).tm++[(32,.sc (.bool false))]}),by simp[b174_0,md],by simp,m,h1,h2,rfl⟩) (b,0) ⟨rfl,hbb,Nat.zero_le _⟩
 refine⟨m,by omega,hmb,semK_of (pf:=p174) rfl (by simp[p174]) ?_⟩
 simp[p174,md,e1,gb,na,hw,hc]
 rw[hlp]
 ·simp[hr]
 ·simp
 ·simp
structure BB (l:List (List Int)) (n:Nat):Prop where
 len:l.length<=n
 blk: ∀x∈l,by8N x/\x.length<=12
theorem BB.app {l:List (List Int)} {n:Nat} {x:List Int} (h:BB l n) (h1:by8N x) (h2:x.length<=12):BB (l++[x]) (n+1):=⟨by have:=h.len;simp;omega,fun y hy=>by
 rcases List.mem_append.1 hy with hy|hy
 ·exact h.blk y hy
 ·rw[List.mem_singleton.1 hy];exact⟨h1,h2⟩⟩
theorem BB.mono {l:List (List Int)} {n m:Nat} (h:BB l n) (hm:n<=m):BB l m:=⟨by have:=h.len;omega,h.blk⟩
structure RS (s:StoreD) (n:Nat):Prop where
 w:DR s.w
 b:BB s.blocks n
theorem stS_of {s:StoreD} {n:Nat} (hw:wS s.w) (hb:BB s.blocks n) (hn:n<=100000):stS s:=⟨hw,by have:=hb.len;omega,fun x hx=>by have:=hb.blk x hx;exact⟨by omega,this.1⟩⟩
theorem RS.S {s:StoreD} {n:Nat} (h:RS s n) (hn:n<=100000):stS s:=stS_of h.w.S h.b hn
theorem blockAt_bd {s:StoreD} {n:Nat} (hb:BB s.blocks n) (a c:Int):(blockAt s a c).length<=8/\by8N (blockAt s a c):=by
 unfold blockAt
 split
 ·rename_i h
  simp only[Bool.and_eq_true]at h
  obtain⟨⟨h1,h2⟩,h3⟩:=h
  have h2:=inB_iff.1 h2
  have h3:=inB_iff.1 h3
  refine⟨by rw[blk_len h1 (by omega) (by omega)];omega,?_⟩
  unfold blk
  split
  ·intro x hx;rw[List.eq_of_mem_replicate hx];omega
  ·rw[List.getD_eq_getElem?_getD]
   cases hq:s.blocks[((nd s.w a.toNat).image.getD c.toNat 0 - 1).toNat]? with
   |none=>intro x hx;cases hx
   |some q=>exact(hb.blk q (List.mem_of_getElem? hq)).1
 ·exact⟨by simp,fun x hx=>nomatch hx⟩
theorem ev_StoreDo (s:StoreD) (d:DeedD) (n:Nat) (hs:RS s n) (hn:n<=100000):(∃v,RS v n/\semK G PK md 141 [.a (lents (fSt s)),.a (lents (fD d))]=some ⟨[.a (owneds (fSt v)),.v (.sc (.int .i64 0))],[],[]⟩)\/(∃v x,¬x=0/\semK G PK md 141 [.a (lents (fSt s)),.a (lents (fD d))]=some ⟨[.a (owneds (fSt v)),.v (.sc (.int .i64 x))],[],[]⟩):=by
 have hS:=hs.S hn
 have e1:=ev_spec_StoreOk (PK:=PK) s hS
 have e2:=ev_spec_Do (PK:=PK) s.w d hs.w.S
 have e3:=ev_l23Copy (PK:=PK) s hS (by have:=hs.w.n3;omega)
 simp only[lents,lent,owneds,owned,fSt,fWo,fD]at e1 e2 e3
 cases hok:storeOk s
 ·rw[hok]at e1
  refine .inr ⟨⟨zWo,[]⟩,1,by omega,semK_of (pf:=p141) rfl (by simp[p141]) ?_⟩
  simp[p141,md,e1,zWo]
 rw[hok]at e1
 by_cases h1:d.kind=1
 ·refine .inr ⟨⟨zWo,[]⟩,1,by omega,semK_of (pf:=p141) rfl (by simp[p141]) ?_⟩
  simp[p141,md,e1,h1,zWo]
 by_cases h0:(doW s.w d).2=0
 ·have hv:=doW_DR (d:=d) hs.w h0
  rw[h0]at e2
  generalize (doW s.w d).1=v at*
  refine .inl ⟨⟨v,s.blocks⟩,⟨hv,hs.b⟩,semK_of (pf:=p141) rfl (by simp[p141]) ?_⟩
  simp (config:={maxSteps:=10000000}) [p141,md,e1,h1,e2,e3,Alike2]
 ·generalize doW s.w d=r at*
  obtain⟨v,x⟩:=r
  simp only at h0 e2
  by_cases hx1:x=1
  ·subst hx1
   refine .inr ⟨⟨zWo,[]⟩,1,by omega,semK_of (pf:=p141) rfl (by simp[p141]) ?_⟩
   simp (config:={maxSteps:=10000000}) [p141,md,e1,h1,e2,zWo,Alike2]
  ·refine .inr ⟨s,x,h0,semK_of (pf:=p141) rfl (by simp[p141]) ?_⟩
   simp (config:={maxSteps:=10000000}) [p141,md,e1,h1,e2,e3,h0,hx1,Alike2]
@[simp] def st139 (s:StoreD) (a:Int) (f:Nat) (d:List Int) (v:StoreD) (c:Nat):St:={n:=86,m:=0,tm:=[(1,.sc (.int .i64 a)),(2,.sc (.int .i64 f)),(3,.im 1 (enc fU d)),(4,.pb 10000000 0),(8,.pb 10000001 0),(10,.pb 10000002 0),(11,.sc (.int .i64 c))],ob:=[(10000000,sbox s),(10000001,z6),(10000002,.box [.ref 10000003 [],.ref 10000004 [],.ref 10000005 [],.ref 10000006 [],.sc (.int .i64 v.w.gen),.ref 10000007 []]),(10000003,.arr 16 (enc fN v.w.nodes)),(10000004,.arr 3 (enc fW v.w.net)),(10000005,.arr 2 (enc fR v.w.log)),(10000006,.arr 1 (enc fI v.w.safe)),(10000007,.arr 1 (enc fUU v.blocks))]}
theorem step_Put (s:StoreD) (a:Int) (f:Nat) (d:List Int) (n:Nat) (v:StoreD) (c:Nat) (hs:stS s) (h3:s.w.nodes.length≠0) (hd:d.length<=100) (hdb:by8N d) (hfn:f+d.length<=64) (hn:n<=90000) (hv:RS v n) (hc:f / 8<=c) (hcl:8*c<f+d.length):
  (∃v',RS v' (n+1)/\ ∃s',exec (semK G PK md) (semL G PK md) md b139_0 (st139 s a f d v c)=some (.normal,s')/\s'.m<=10000000/\canon 10000000 [1,2,3,4,8,10,11] s'=st139 s a f d v' (c+1))\/
   ∃x T,¬x=0/\exec (semK G PK md) (semL G PK md) md b139_0 (st139 s a f d v c)=some (.ret,T)/\endF p139.res [.a (lents (fSt s)),.v (.sc (.int .i64 a)),.v (.sc (.int .i64 f)),.v (.im 1 (enc fU d))] (some (.ret,T))=some ⟨[.a (owneds (fSt s)),.v (.sc (.int .i64 x))],[],[]⟩:=by
 have hS:=hv.S (by omega)
 have w1:IntKind.wrap .i64 ((f:Int)+d.length)=((f+d.length:Nat):Int):=by rw[wrap_id (by omega) (by omega)];omega
 have w2:IntKind.wrap .i64 (((f+d.length:Nat):Int) - 1)=((f+d.length - 1:Nat):Int):=by rw[wrap_id (by omega) (by omega)];omega
 have w3:((f+d.length - 1:Nat):Int).tdiv 8=(((f+d.length - 1) / 8:Nat):Int):=by rw[Int.tdiv_eq_ediv_of_nonneg (by omega)];omega
 have w4:IntKind.wrap .i64 (((f+d.length - 1) / 8:Nat):Int)=(((f+d.length - 1) / 8:Nat):Int):=wrap_id (by omega) (by omega)
 have hle:(c:Int)<=(((f+d.length - 1) / 8:Nat):Int):=by omega
 have hinc:=incr (j:=c) (n:=9) (by omega) (by omega)
 obtain⟨first,hf⟩: ∃first,first=max f (8*c):=⟨_,rfl⟩
 obtain⟨last,hl⟩: ∃last,last=min (f+d.length) (8*(c+1)):=⟨_,rfl⟩
 have e1:=ev_l23Part (PK:=PK) c f d.length first last (by omega) hfn hf hl
 obtain⟨p1,hp1⟩: ∃p1:Nat,(first:Int) - (8*c:Nat)=p1:=⟨first - 8*c,by omega⟩
 obtain⟨p2,hp2⟩: ∃p2:Nat,(first:Int) - f=p2:=⟨first - f,by omega⟩
 obtain⟨p3,hp3⟩: ∃p3:Nat,(last:Int) - f=p3:=⟨last - f,by omega⟩
 rw[hp1,hp2,hp3]at e1
 have g1:p2<=p3:=by omega
 have g2:p3<=d.length:=by omega
 have e2:=ev_spec_BlockAt (PK:=PK) v a c hS
 obtain⟨hb1,hb2⟩:=blockAt_bd hv.b a c
 generalize blockAt v a c=bl at*
 have hwin:List.drop p2 (List.take p3 (enc fU d))=enc fU ((d.take p3).drop p2):=by rw[enc_take,enc_drop]
 obtain⟨r,hr1,hr2,e3⟩:=ev_spec_BlockPut (PK:=PK) bl ((d.take p3).drop p2) p1 hb1 hb2 (by rw[List.length_drop,List.length_take];omega) (fun x hx=>hdb x (List.mem_of_mem_take (List.mem_of_mem_drop hx))) (by omega)
 have e4:=ev_spec_Do (PK:=PK) v.w ⟨1,a,c⟩ hv.w.S
 have e5:=ev_l23Copy (PK:=PK) s hs h3
 have gs:(v.blocks.length+1)*24<=35184372088832:=by have:=hv.b.len;omega
 have happ:enc fUU v.blocks++[[T.sl 1 (enc fU r)]]=enc fUU (v.blocks++[r]):=enc_append fUU _ [r]
 have hq:(f+d.length - 1) / 8=(f+d.length - 1) / 8:=rfl
 simp only[lents,lent,owneds,owned,fSt,fWo,fD]at e2 e4 e5
 generalize hA:((f+d.length:Nat):Int)=A at w1 w2
 generalize hB:((f+d.length - 1:Nat):Int)=B at w2 w3
 generalize hC:(((f+d.length - 1) / 8:Nat):Int)=C at w3 w4 hle
 by_cases h0:(doW v.w ⟨1,a,c⟩).2=0
 ·have hv2:=doW_DR (d:=⟨1,a,c⟩) hv.w h0
  rw[h0]at e4
  generalize (doW v.w ⟨1,a,c⟩).1=u at*
  refine .inl ⟨⟨u,v.blocks++[r]⟩,⟨hv2,hv.b.app hr2 (by omega)⟩,?_⟩
  simp (config:={maxSteps:=10000000}) [b139_0,md,w1,w2,w3,w4,hle,e1,e2,hwin,e3,e4,g1,g2,gs,happ,hinc,Alike2]
 ·generalize doW v.w ⟨1,a,c⟩=q at*
  obtain⟨u,x⟩:=q
  simp only at h0 e4
  refine .inr ⟨x,_,h0,by simp (config:={maxSteps:=10000000}) [b139_0,md,w1,w2,w3,w4,hle,e1,e2,hwin,e3,e4,e5,g1,g2,gs,happ,hinc,h0,Alike2];rfl,?_⟩
  simp (config:={maxSteps:=10000000}) [p139]
theorem ev_PutBytes (s:StoreD) (a fr:Int) (d:List Int) (n:Nat) (hs:RS s n) (hn:n<=80000) (hd:d.length<=100) (hdb:by8N d): ∃v x,RS v (n+9)/\semK G PK md 139 [.a (lents (fSt s)),.v (.sc (.int .i64 a)),.v (.sc (.int .i64 fr)),.v (.im 1 (enc fU d))]=some ⟨[.a (owneds (fSt v)),.v (.sc (.int .i64 x))],[],[]⟩:=by
 have hS:=hs.S (by omega)
 have h3:s.w.nodes.length≠0:=by have:=hs.w.n3;omega
 have e1:=ev_spec_StoreOk (PK:=PK) s hS
 have e2:=ev_l23Copy (PK:=PK) s hS h3
 have e3:=ev_l23In (PK:=PK) fr d.length
 have hs9:RS s (n+9):=⟨hs.w,hs.b.mono (by omega)⟩
 simp only[lents,lent,owneds,owned,fSt,fWo]at e1 e2
 cases hok:storeOk s
 ·rw[hok]at e1
  refine⟨s,1,hs9,semK_of (pf:=p139) rfl (by simp[p139]) ?_⟩
  simp (config:={maxSteps:=10000000}) [p139,md,e1,e2,Alike2]
 rw[hok]at e1
 cases hin:inVol fr d.length
 ·rw[hin]at e3
  refine⟨s,2,hs9,semK_of (pf:=p139) rfl (by simp[p139]) ?_⟩
  simp (config:={maxSteps:=10000000}) [p139,md,e1,e2,e3,Alike2]
 rw[hin]at e3
 have hv:=hin
 unfold inVol at hv
 simp only[Bool.and_eq_true]at hv
 have v1:=inB_iff.1 hv.1
 have v2:=inB_iff.1 hv.2
 obtain⟨f,rfl⟩: ∃f:Nat,fr=f:=⟨fr.toNat,by omega⟩
 have w3:(f:Int).tdiv 8=((f / 8:Nat):Int):=by rw[Int.tdiv_eq_ediv_of_nonneg (by omega)];omega
 have w4:IntKind.wrap .i64 ((f / 8:Nat):Int)=((f / 8:Nat):Int):=wrap_id (by omega) (by omega)
 have u1:IntKind.wrap .i64 ((f:Int)+d.length)=((f+d.length:Nat):Int):=by rw[wrap_id (by omega) (by omega)];omega
 have u2:IntKind.wrap .i64 (((f+d.length:Nat):Int) - 1)=((f+d.length - 1:Nat):Int):=by rw[wrap_id (by omega) (by omega)];omega
 have u3:((f+d.length - 1:Nat):Int).tdiv 8=(((f+d.length - 1) / 8:Nat):Int):=by rw[Int.tdiv_eq_ediv_of_nonneg (by omega)];omega
 have u4:IntKind.wrap .i64 (((f+d.length - 1) / 8:Nat):Int)=(((f+d.length - 1) / 8:Nat):Int):=wrap_id (by omega) (by omega)
 obtain⟨r,hr,hlp⟩:=loop_ex (G:=G) (PK:=PK) (md:=md) (o:=10000000) (live:=[1,2,3,4,8,10,11]) (c:=b139_0) (α:=StoreD×Nat) (fun q=>st139 s a f d q.1 q.2) (fun q=>9 - q.2) (fun q=>RS q.1 (n+(q.2 - f / 8))/\f / 8<=q.2/\q.2<=8) (fun r=>(∃v c,RS v (n+9)/\r=(.exit 0,{st139 s a f d v c with tm:=(st139 s a f d v c).tm++[(41,.sc (.bool false))]}))\/ ∃x T,r=(.ret,T)/\endF p139.res [.a (lents (fSt s)),.v (.sc (.int .i64 a)),.v (.sc (.int .i64 f)),.v (.im 1 (enc fU d))] (some (.ret,T))=some ⟨[.a (owneds (fSt s)),.v (.sc (.int .i64 x))],[],[]⟩) (fun q hq=>by
  obtain⟨v,c⟩:=q
  obtain⟨q1,q2,q3⟩:=hq
  simp only at q1 q2 q3
  by_cases hc:8*c<f+d.length
  ·rcases step_Put (PK:=PK) s a f d (n+(c - f / 8)) v c hS h3 hd hdb (by omega) (by omega) q1 q2 hc with ⟨v',hv',hst⟩|⟨x,T,_,hex,hend⟩
   ·refine .inl ⟨(v',c+1),⟨?_,by simp only;omega,by simp only;omega⟩,by simp only;omega,hst⟩
    simp only
    rw[show n+(c+1 - f / 8)=n+(c - f / 8)+1 by omega]
    exact hv'
   ·exact .inr ⟨_,hex,by simp,.inr ⟨x,T,rfl,hend⟩⟩
  ·have hle: ¬ (c:Int)<=(((f+d.length - 1) / 8:Nat):Int):=by omega
   refine .inr ⟨(.exit 0,{st139 s a f d v c with tm:=(st139 s a f d v c).tm++[(41,.sc (.bool false))]}),?_,by simp,.inl ⟨v,c,⟨q1.w,q1.b.mono (by omega)⟩,rfl⟩⟩
   generalize hA:((f+d.length:Nat):Int)=A at*
   generalize hB:((f+d.length - 1:Nat):Int)=B at*
   generalize hC:(((f+d.length - 1) / 8:Nat):Int)=C at*
   simp[b139_0,md,u1,u2,u3,u4,hle]) (s,f / 8) ⟨by simpa using hs,Nat.le_refl _,by simp only;omega⟩
 rcases hr with ⟨v,c,hv,hr⟩|⟨x,T,hr,hend⟩
 ·refine⟨v,0,hv,semK_of (pf:=p139) rfl (by simp[p139]) ?_⟩
  generalize hC:((f / 8:Nat):Int)=C at*
  simp (config:={maxSteps:=10000000}) [p139,md,e1,e2,e3,w3,w4,Alike2]
  rw[hlp]
  ·simp[hr]
  ·simp
  ·simp[hC]
 ·refine⟨s,x,hs9,semK_of (pf:=p139) rfl (by simp[p139]) ?_⟩
  have hx:exec (semK G PK md) (semL G PK md) md p139.body (entry p139.n [.a (lents (fSt s)),.v (.sc (.int .i64 a)),.v (.sc (.int .i64 f)),.v (.im 1 (enc fU d))])=some (.ret,T):=by
   generalize hC:((f / 8:Nat):Int)=C at*
   simp (config:={maxSteps:=10000000}) [p139,md,e1,e2,e3,w3,w4,Alike2]
   rw[hlp]
   ·simp[hr]
   ·simp
   ·simp[hC]
  rw[hx]
  exact hend
end Go.Proofs.YtbolhfegdocpeaaGreat.Ow
