/- Functions evaluated on the small machine: Slots torn; falling, rising, tearing, copying: what the reference makes of a world, Roles: what the reference makes of a world, What is given from a wire: the loop that tells safe what is no longer waited for. -/
import Derived.Test.YtbolhfegdocpeaaGreatEv17
import Derived.Test.YtbolhfegdocpeaaGreatEv13
import Derived.Test.YtbolhfegdocpeaaGreatEv16
namespace Go.Proofs.YtbolhfegdocpeaaGreat.Ow
open Go
set_option linter.unusedVariables false
set_option linter.unusedSimpArgs false
set_option maxHeartbeats 16000000
variable {PK:Nat->List Arg->Option Res}
theorem ev_max (a b:Int):semK G PK md 110 [.v (.sc (.int .i64 a)),.v (.sc (.int .i64 b))]=some ⟨[.v (.sc (.int .i64 (max a b)))],[],[]⟩:=by
 refine semK_of (pf:=p110) rfl (by simp[p110]) ?_
 by_cases h:a>b
 ·have hm:max a b=a:=by omega
  simp[p110,md,h,hm]
 ·have hm:max a b=b:=by omega
  simp[p110,md,h,hm]
theorem ev_l6Torn (was now:List Int) (n:Int) (k:Nat) (hk:max 0 (min n now.length)=(k:Int)) (h1:was.length<=1048576) (h2:now.length<=1048576):semK G PK md 232 [.v (.im 1 (enc fU was)),.v (.im 1 (enc fU now)),.v (.sc (.int .i64 n))]=some ⟨[.v (.own 1 (enc fU (tornB was now k)))],[],[]⟩:=by
 refine semK_of (pf:=p232) rfl (by simp[p232]) ?_
 have e1:=ev_min (PK:=PK) n now.length
 have e2:=ev_max (PK:=PK) 0 (min n now.length)
 rw[hk]at e2
 have hkl:k<=now.length:=by omega
 have g1:k<=35184372088832:=by omega
 have g2:k+(was.length - k)<=35184372088832:=by omega
 have g3:was.length<=35184372088832:=by omega
 have hft:flat (List.take k (enc fU now))=true:=flat_take (flat_U _)
 have hfd:flat (List.drop k (enc fU was))=true:=flat_drop (flat_U _)
 unfold tornB
 by_cases hlt:k<was.length
 ·have h3:k<=was.length:=by omega
  simp[p232,md,e1,e2,hkl,hlt,h3,g1,g2,g3,hft,hfd]
  simp[enc,List.map_take,List.map_drop]
 ·have h3:was.drop k=[]:=List.drop_eq_nil_of_le (by omega)
  simp[p232,md,e1,e2,hkl,hlt,g1,hft,h3]
  simp[enc,List.map_take]
theorem ev_spec_Tear (s:SlotsD) (m:MetaD) (n:Int) (k:Nat) (hkn:max 0 (min n 160)=(k:Int)) (hs:slS s) (hm:mtS m):semK G PK md 211 [.a (lents (fSl s)),.a (lents (fM m)),.v (.sc (.int .i64 n))]=some ⟨[.a (owneds (fSl (tear s m k)))],[],[]⟩:=by
 refine semK_of (pf:=p211) rfl (by simp[p211]) ?_
 have e1:=ev_l6Copy (PK:=PK) s hs.1.1 hs.2.1
 have e2:=ev_spec_SlotPut (PK:=PK) s m hs hm
 have e3:=ev_spec_SlotGet (PK:=PK) s hs
 have e4:=ev_spec_MetaOk (PK:=PK) m hm
 have e5:=ev_l6Which (PK:=PK) s hs
 have hb:=slotGet_bd s
 have hA:=isA_which s
 have hl:=newB_len s m
 have e6:=ev_l6Torn (PK:=PK) s.a (newB s m) n k (by rw[hl];exact hkn) hs.1.1 (by omega)
 have e7:=ev_l6Torn (PK:=PK) s.b (newB s m) n k (by rw[hl];exact hkn) hs.2.1 (by omega)
 simp only[lents,lent,fM,fSl,owneds,owned]at e1 e2 e3 e4 e5
 unfold tear
 unfold slotPut at e2
 generalize newB s m=nb at*
 unfold mayPut at*
 generalize hq:(slotGet s)=q at*
 obtain⟨q1,q2,q3⟩:=q
 simp only at hb
 cases hk:metaOk m
 ·simp[hk]at e2
  simp[p211,md,e1,e2,e3,e4,hk]
 by_cases hc:q2=1000000
 ·simp[hk,hc]at e2
  simp[p211,md,e1,e2,e3,e4,hk,hc]
 have hc2: ¬ (1000000:Int)<=q2:=by omega
 by_cases hw0:which s=0
 ·have hAt:isA s=true:=by rw[hA];simp[hw0]
  simp[hk,hc,hAt]at e2
  simp[p211,md,e1,e2,e3,e4,e5,e7,hk,hc,hc2,hw0,hAt]
 ·have hAf:isA s=false:=by rw[hA];simp[hw0]
  simp[hk,hc,hAf]at e2
  simp[p211,md,e1,e2,e3,e4,e5,e6,hk,hc,hc2,hw0,hAf]
theorem tear_S {s:SlotsD} (h:slS s) (m:MetaD) {k:Nat} (hk:k<=160):slS (tear s m k):=by
 have hl:=newB_len s m
 have hby:=newB_by s m
 have one: ∀was:List Int,byt was->byt (tornB was (newB s m) k):=fun was hw=>by
  refine⟨?_,fun x hx=> ?_⟩
  ·unfold tornB
   rw[List.length_append,List.length_take,List.length_drop]
   have:=hw.1
   omega
  ·unfold tornB at hx
   rcases List.mem_append.1 hx with hx|hx
   ·exact hby x (List.mem_of_mem_take hx)
   ·exact hw.2 x (List.mem_of_mem_drop hx)
 unfold tear
 split
 ·split
  ·exact⟨h.1,one _ h.2⟩
  ·exact⟨one _ h.1,h.2⟩
 ·exact h
def tornN (n:NodeD) (b:Int):NodeD:={n with sl:=tear n.sl {n.mt with fine:= !n.mt.fine} b.toNat}
def tornW (w:WorldD) (a:Nat) (b:Int):WorldD:={w with nodes:=w.nodes.set a (tornN (nd w a) b)}
def fallW (w:WorldD) (kind:Int) (a:Nat) (b:Int):WorldD×Int:=
 if kind=5 then(if(nd w a).up then(w,3)else({w with nodes:=w.nodes.set a (riseN (nd w a))},0))
 else if !(nd w a).up||decide (kind=6)&& !inB b 0 155 then(w,3)
 else(downW (if kind=6 then tornW w a b else w) a,0)
theorem tornN_nC {n:NodeD} {b:Int} (h:nC n) (hb:b<=155):nC (tornN n b):=
 ⟨⟨h.b.image,h.b.gens,h.b.bits,h.b.bit,tear_S h.b.sl _ (by omega),h.b.conn,h.b.sync,h.b.syn,h.b.copies,h.b.wait⟩,h.bit,h.wait,h.gens⟩
theorem ev_l12Fall (w:WorldD) (kind:Int) (a:Nat) (b:Int) (ha:a<3) (hd:DnI a ⟨w,0,[]⟩): ∃fin,fin1 fin/\semK G PK md 189 [.a (owneds (fWo w)),.a (lents (fD ⟨kind,a,b⟩))]=some ⟨[.a (owneds (fWo (fallW w kind a b).1)),.v (.sc (.int .i64 (fallW w kind a b).2))],fin,[]⟩:=by
 have hw:WI w:=hd.w
 have hn3:=hw.n3
 obtain⟨x,y1,_,hx',hxd,hxm⟩:=get_ex w.nodes zN (j:=a) (by omega)
 have hxa:nd w a=x:=hxd
 have hc:=hw.node x hxm
 have e1:=ev_spec_Rise (PK:=PK) x hc.b.nS
 have e2:=ev_l1In (PK:=PK) b 0 155
 have e3:=ev_l5Copy (PK:=PK) x.mt hc.b.mt
 simp only[lents,lent,fN,fM,owneds,owned]at e1 e3
 unfold fallW
 rw[hxa]
 have nfin:fin1 [none,none,none,none]:= .inl rfl
 by_cases h5:kind=5
 ·subst h5
  refine⟨_,nfin,semK_of (pf:=p189) rfl (by simp[p189]) ?_⟩
  generalize riseN x=q at*
  cases hu:x.up
  ·rw[hu]at e1
   simp (config:={maxSteps:=10000000}) [p189,md,y1,hx',e1,hu,Alike2]
  ·rw[hu]at e1
   simp (config:={maxSteps:=10000000}) [p189,md,y1,hx',hu]
 cases hu:x.up
 ·refine⟨_,nfin,semK_of (pf:=p189) rfl (by simp[p189]) ?_⟩
  simp (config:={maxSteps:=10000000}) [p189,md,y1,hx',h5,hu]
 by_cases h6:kind=6
 ·subst h6
  cases hb:inB b 0 155
  ·rw[hb]at e2
   refine⟨_,nfin,semK_of (pf:=p189) rfl (by simp[p189]) ?_⟩
   simp (config:={maxSteps:=10000000}) [p189,md,y1,hx',e2,hu]
  ·rw[hb]at e2
   have rb:=inB_iff.1 hb
   have hT:WI (tornW w a b):=by
    have:=set_WI (k:=a) (n:=tornN (nd w a) b) hw ha (tornN_nC (hw.nd ha) rb.2) (hw.id a ha)
    exact this
   have hdT:DnI a ⟨tornW w a b,0,[]⟩:=by
    refine⟨hT,.inl rfl,?_⟩
    have h1:=hd.self
    unfold isCn at h1 ⊢
    simp only[Int.toNat_natCast]at h1 ⊢
    unfold tornW
    rw[nd_set hn3 ha,if_pos rfl]
    exact h1
   obtain⟨fin,hfin,e4⟩:=ev_l12Down (PK:=PK) (tornW w a b) a ha hdT
   have e5:=ev_spec_Tear (PK:=PK) x.sl {x.mt with fine:= !x.mt.fine} b b.toNat (by omega) hc.b.sl hc.b.mt
   refine⟨fin,hfin,semK_of (pf:=p189) rfl (by simp[p189]) ?_⟩
   have hif:(if(6:Int)=6 then tornW w a b else w)=tornW w a b:=if_pos rfl
   rw[hif]
   generalize downW (tornW w a b) a=v at*
   unfold tornW tornN at e4
   rw[hxa]at e4
   have hxe:({x with sl:=tear x.sl {x.mt with fine:= !x.mt.fine} b.toNat}:NodeD)=⟨x.id,true,x.prime,x.image,⟨x.mt.gens,x.mt.bits,x.mt.fine,x.mt.old,x.mt.held,x.mt.last⟩,⟨(tear x.sl {x.mt with fine:= !x.mt.fine} b.toNat).a,(tear x.sl {x.mt with fine:= !x.mt.fine} b.toNat).b⟩,x.conn,x.sync,x.copies,x.wait⟩:=by rw[←hu]
   rw[hxe]at e4
   simp only[lents,lent,fSl,fM,fWo,owneds,owned]at e4 e5
   generalize tear x.sl {x.mt with fine:= !x.mt.fine} b.toNat=ts at*
   rcases hfin with rfl|⟨rows,rfl⟩<;>simp (config:={maxSteps:=10000000}) [p189,md,y1,hx',e2,e3,e4,e5,hu,Alike2]
 ·obtain⟨fin,hfin,e4⟩:=ev_l12Down (PK:=PK) w a ha hd
  refine⟨fin,hfin,semK_of (pf:=p189) rfl (by simp[p189]) ?_⟩
  rw[if_neg h6]
  generalize downW w a=v at*
  simp only[fWo,owneds,owned]at e4
  rcases hfin with rfl|⟨rows,rfl⟩<;>simp (config:={maxSteps:=10000000}) [p189,md,y1,hx',e4,h5,h6,hu,Alike2]
theorem copyN_nB {n:NodeD} {to:Int} (h:nC n):nB (copyN n to).1/\(copyN n to).1.id=n.id:=by
 have h1:nB (copyB n to):=⟨h.b.image,h.b.gens,h.b.bits,h.b.bit,slotPut_S h.b.sl _,h.b.conn,h.b.sync,h.b.syn,by unfold copyB keepN;simp only[List.length_set];exact h.b.copies,h.b.wait⟩
 unfold copyN
 split
 ·split
  ·refine⟨⟨h.b.image,h.b.gens,h.b.bits,h.b.bit,h.b.sl,h.b.conn,by simp only[List.length_set];exact h.b.sync,fun x hx=> ?_,h.b.copies,h.b.wait⟩,rfl⟩
   rcases List.mem_or_eq_of_mem_set hx with hx|rfl
   ·exact h.b.syn x hx
   ·have h2:=clr_len (n.sync.getD to.toNat []) ((n.sync.getD to.toNat []).getD 0 0)
    rcases Nat.lt_or_ge to.toNat n.sync.length with h3|h3
    ·obtain⟨y,_,_,_,hyd,hym⟩:=getDD_ex n.sync h3
     rw[hyd]at h2 ⊢
     have:=h.b.syn y hym
     omega
    ·have:n.sync.getD to.toNat []=[]:=by rw[List.getD_eq_getElem?_getD,List.getElem?_eq_none h3];rfl
     rw[this]
     simp[clr]
  ·split
   ·exact⟨h1,rfl⟩
   ·exact⟨h.b,rfl⟩
 ·exact⟨h.b,rfl⟩
theorem lk_get {n:NodeD} (h:NOk n) {k:Nat} (hk:k<3):(n.copies.getD k false=true->n.conn.getD k false=true)/\(n.conn.getD k false=true->(k:Int)≠n.id):=by
 have h1:=allB_get h.lk hk
 unfold lk lk2 at h1
 simp only[Bool.and_eq_true,Bool.not_eq_true',Bool.and_eq_false_iff,Bool.or_eq_false_iff,decide_eq_false_iff_not]at h1
 refine⟨fun hc=> ?_,fun hc=> ?_⟩
 ·rcases h1.2.1.2 with h2|h2
  ·rw[hc]at h2;cases h2
  ·simpa using h2
 ·rcases h1.2.2 with h2|h2
  ·rw[hc]at h2;cases h2
  ·exact h2.2
theorem copyN_posts {n:NodeD} {i k:Nat} (hid:n.id=i) (hi:i<3) (hk:k<3) (hg:n.mt.gens.length<=1000): ∀p∈(copyN n k).2,post3 p:=by
 intro p hp
 unfold copyN at hp
 simp only[Int.toNat_natCast]at hp
 split at hp
 ·rename_i hc
  simp only[Bool.and_eq_true]at hc
  have nn:=nodeOk_of hc.1.1
  have hne:=(lk_get nn hk).2 ((lk_get nn hk).1 hc.2)
  rw[hid]at hne
  split at hp
  ·rw[List.mem_singleton.1 hp]
   exact⟨i,k,hi,hk,by omega,hid,rfl,by simp⟩
  ·split at hp
   ·rw[List.mem_singleton.1 hp]
    exact⟨i,k,hi,hk,by omega,hid,rfl,hg⟩
   ·cases hp
 ·cases hp
theorem copyN_len {n:NodeD} {to:Int}:(copyN n to).2.length<=1:=by
 unfold copyN
 split
 ·split
  ·simp
  ·split<;>simp
 ·simp
def copiesW (w:WorldD) (a b:Nat):WorldD×Int:=
 if !(nd w a).copies.getD b false then(w,3)else if 40<=w.net.length then(w,4)
 else(sendW {w with nodes:=w.nodes.set a (copyN (nd w a) b).1} (copyN (nd w a) b).2,0)
theorem ev_l12Copies (w:WorldD) (a b:Nat) (ha:a<3) (hb:b<3) (hw:WI w): ∃fin,fin1 fin/\semK G PK md 208 [.a (owneds (fWo w)),.v (.sc (.int .i64 a)),.v (.sc (.int .i64 b))]=some ⟨[.a (owneds (fWo (copiesW w a b).1)),.v (.sc (.int .i64 (copiesW w a b).2))],fin,[]⟩:=by
 have hn3:=hw.n3
 obtain⟨x,y1,_,hx',hxd,hxm⟩:=get_ex w.nodes zN (j:=a) (by omega)
 have hxa:nd w a=x:=hxd
 have hc:=hw.node x hxm
 have hid:x.id=a:=by rw[←hxa];exact hw.id a ha
 obtain⟨c,q1,_,c1',hcd⟩:=getB_ex x.copies (j:=b) (by have:=hc.b.copies;omega)
 have e1:=ev_spec_Copy (PK:=PK) x b hc.b
 have nfin:fin1 [none,none,none,none]:= .inl rfl
 unfold copiesW
 rw[hxa,hcd]
 cases c
 ·refine⟨_,nfin,semK_of (pf:=p208) rfl (by simp[p208]) ?_⟩
  simp (config:={maxSteps:=10000000}) [p208,md,y1,hx',q1,c1']
 by_cases hnl:40<=w.net.length
 ·have hnl':(40:Int)<=w.net.length:=by omega
  refine⟨_,nfin,semK_of (pf:=p208) rfl (by simp[p208]) ?_⟩
  simp (config:={maxSteps:=10000000}) [p208,md,y1,hx',q1,c1',hnl,hnl']
 have hnl': ¬ (40:Int)<=w.net.length:=by omega
 have hr:=copyN_nB (to:=(b:Int)) hc
 have hps:=copyN_posts (n:=x) hid ha hb (by have:=hc.gens;omega)
 have hpl:=copyN_len (n:=x) (to:=(b:Int))
 simp only[lents,lent,fN,owneds,owned]at e1
 generalize copyN x b=r at*
 obtain⟨q,ps⟩:=r
 simp only at hr hps hpl e1 ⊢
 obtain⟨fin,hfin,e4⟩:=ev_l12Send (PK:=PK) {w with nodes:=w.nodes.set a q} ps ⟨by simp only[List.length_set];exact hn3,fun y hy=>by
    rcases List.mem_or_eq_of_mem_set hy with hy|rfl
    ·exact hw.L.c3 y hy
    ·exact⟨hr.1.conn,hr.1.copies,hr.1.sync⟩,by have:=hw.net;simp only;omega⟩ (by omega) hps
 refine⟨fin,hfin,semK_of (pf:=p208) rfl (by simp[p208]) ?_⟩
 rw[if_neg (by simp),if_neg hnl]
 generalize sendW {w with nodes:=w.nodes.set a q} ps=v at*
 simp only[fWo,owneds,owned]at e4
 rcases hfin with rfl|⟨rows,rfl⟩<;>simp (config:={maxSteps:=10000000}) [p208,md,y1,hx',q1,c1',hnl,hnl',e1,e4,Alike2]
end Go.Proofs.YtbolhfegdocpeaaGreat.Ow
namespace Go.Proofs.YtbolhfegdocpeaaGreat.Ow
open Go
set_option linter.unusedVariables false
set_option linter.unusedSimpArgs false
set_option maxHeartbeats 16000000
variable {PK:Nat->List Arg->Option Res}
def quietW (w:WorldD):Bool:=w.net.all fun x=>far2 x.src x.dst
def roleW (w:WorldD) (kind:Int) (a b:Nat):WorldD×Int:=
 if kind=10 then(if(hold1 (nd w a) (nd w b) w.gen).2.2 then({w with nodes:=(w.nodes.set a (hold1 (nd w a) (nd w b) w.gen).1).set b (hold1 (nd w a) (nd w b) w.gen).2.1,safe:=sure w.safe (nd w a).wait,gen:=w.gen+1},0)else(w,3))
 else if kind=11 then(if(lead1 (nd w a) (nd w b) (quietW w)).2 then({w with nodes:=w.nodes.set a (lead1 (nd w a) (nd w b) (quietW w)).1},0)else(w,3))
 else if(leave1 (nd w a)).2 then({w with nodes:=w.nodes.set a (leave1 (nd w a)).1},0)else(w,3)
@[simp] def xbox (a:Nat) (n:NodeD):Obj:= .box [.sc (.int .i64 n.id),.sc (.bool n.up),.sc (.bool n.prime),.ref 0 [(a,3)],.ref 0 [(a,4)],.ref 0 [(a,5)],.sc (.bool n.mt.fine),.sc (.bool n.mt.old),.sc (.bool n.mt.held),.sc (.int .i64 n.mt.last),.ref 0 [(a,10)],.ref 0 [(a,11)],.ref 0 [(a,12)],.ref 0 [(a,13)],.ref 0 [(a,14)],.ref 0 [(a,15)]]
@[simp] def st190 (w:WorldD) (x y:NodeD) (d:DeedD) (a b:Nat) (q:Bool) (j:Nat):St:={n:=129,m:=4,tm:=[(2,.pb 10000100 0),(3,.pb 10000101 0),(4,.pb 10000102 0),(6,.pb 10000103 0),(7,.pb 10000104 0),(11,.sc (.bool q)),(12,.sc (.int .i64 j))],ob:=[(0,.arr 16 (enc fN w.nodes)),(1,.arr 3 (enc fW w.net)),(2,.arr 2 (enc fR w.log)),(3,.arr 1 (enc fI w.safe)),(10000100,.box [.ref 0 [],.ref 1 [],.ref 2 [],.ref 3 [],.sc (.int .i64 w.gen)]),(10000101,.box [.sc (.int .i64 d.kind),.sc (.int .i64 d.a),.sc (.int .i64 d.b)]),(10000102,.box [.nil 16,.nil 3,.nil 2,.nil 1,.sc (.int .i64 0)]),(10000103,xbox a x),(10000104,xbox b y)]}
theorem lp_Role (w:WorldD) (x y:NodeD) (d:DeedD) (a b:Nat) (hn:w.net.length<=1000): ∀ (t:St),t.m<=10000100->canon 10000100 [2,3,4,6,7,11,12] t=st190 w x y d a b true 0->semL G PK md 10000100 [2,3,4,6,7,11,12] b190_0 t=exec (semK G PK md) (semL G PK md) md b190_0 (st190 w x y d a b (quietW w) w.net.length):=by
 have hf:w.net.take w.net.length=w.net:=List.take_length
 have h:=loop_ok (G:=G) (PK:=PK) (md:=md) (o:=10000100) (live:=[2,3,4,6,7,11,12]) (c:=b190_0) (fun j=>st190 w x y d a b ((w.net.take j).all fun x=>far2 x.src x.dst) j) w.net.length (fun j hj=>by
  obtain⟨v,y1,hv,hv',_,hvm⟩:=get_ex w.net zW hj
  have hinc:=incr hj (by omega)
  have hsn:(w.net.take (j+1)).all (fun x=>far2 x.src x.dst)=((w.net.take j).all (fun x=>far2 x.src x.dst)&&far2 v.src v.dst):=by rw[take_snoc hv,List.all_append];simp
  rw[hsn]
  have e:=ev_l12Far (PK:=PK) v.src v.dst
  generalize (w.net.take j).all (fun x=>far2 x.src x.dst)=q
  cases q<;>simp[b190_0,md,hj,hv',hinc,e]) (by simp[b190_0])
 simp only[hf]at h
 exact h
theorem ev_l12Role2 (w:WorldD) (kind b:Int):semK G PK md 190 [.a (owneds (fWo w)),.a (lents (fD ⟨kind,2,b⟩))]=some ⟨[.a (owneds (fWo w)),.v (.sc (.int .i64 3))],[none,none,none,none],[]⟩:=by
 refine semK_of (pf:=p190) rfl (by simp[p190]) ?_
 simp[p190,md]
theorem ev_l12Role (w:WorldD) (kind b0:Int) (a b:Nat) (hab:a=0/\b=1\/a=1/\b=0) (hw:WI w) (hg:0<=w.gen/\w.gen<=100000): ∃fin,fin2 fin/\semK G PK md 190 [.a (owneds (fWo w)),.a (lents (fD ⟨kind,a,b0⟩))]=some ⟨[.a (owneds (fWo (roleW w kind a b).1)),.v (.sc (.int .i64 (roleW w kind a b).2))],fin,[]⟩:=by
 have hn3:=hw.n3
 obtain⟨x,y1,_,hx',hxd,hxm⟩:=get_ex w.nodes zN (j:=a) (by omega)
 obtain⟨y,y2,_,hy',hyd,hym⟩:=get_ex w.nodes zN (j:=b) (by omega)
 have hxa:nd w a=x:=hxd
 have hyb:nd w b=y:=hyd
 have hcx:=hw.node x hxm
 have hcy:=hw.node y hym
 have hne:a≠b:=by omega
 have hne':b≠a:=by omega
 have ha2: ¬ (a:Int)=2:=by omega
 have ha2': ¬a=2:=by omega
 have w1:IntKind.wrap .i64 (1 - (a:Int))=(b:Int):=by rw[wrap_id (by omega) (by omega)];omega
 unfold roleW
 rw[hxa,hyb]
 by_cases h10:kind=10
 ·subst h10
  have e1:=ev_spec_Hold (PK:=PK) x y w.gen hcx.b hcy.b hcx.gens
  simp only[lents,lent,fN,owneds,owned]at e1
  generalize hold1 x y w.gen=r at*
  obtain⟨r1,r2,r3⟩:=r
  simp only at e1 ⊢
  cases r3
  ·refine⟨_,⟨none,none,rfl⟩,semK_of (pf:=p190) rfl (by simp[p190]) ?_⟩
   simp (config:={maxSteps:=10000000}) [p190,md,y1,y2,hx',hy',ha2,ha2',w1,e1,hne,hne',Alike2]
  ·have hwl:=hcx.wait
   have w2:IntKind.wrap .i64 (w.gen+1)=w.gen+1:=wrap_id (by omega) (by omega)
   obtain⟨fin,hfin,e2⟩:=ev_l12SureG (PK:=PK) ((enc fN w.nodes).set a [.sc (.int .i64 x.id),.sc (.bool x.up),.sc (.bool x.prime),.sl 1 (enc fI x.image),.sl 1 (enc fI x.mt.gens),.sl 1 (enc fII x.mt.bits),.sc (.bool x.mt.fine),.sc (.bool x.mt.old),.sc (.bool x.mt.held),.sc (.int .i64 x.mt.last),
    .sl 1 (enc fU x.sl.a),.sl 1 (enc fU x.sl.b),.sl 1 (enc fL x.conn),.sl 1 (enc fII x.sync),.sl 1 (enc fL x.copies),.hole]) w x.wait (by omega) (by have:=hw.safe;omega)
   have hst: ∀ (p q:NodeD),((w.nodes.set a p).set b q)=(w.nodes.set a p).set b q:=fun _ _=>rfl
   rcases hfin with ⟨rfl,_⟩|⟨rfl,_⟩
   ·refine⟨_,⟨none,none,rfl⟩,semK_of (pf:=p190) rfl (by simp[p190]) ?_⟩
    simp (config:={maxSteps:=10000000}) [p190,md,y1,y2,hx',hy',ha2,ha2',w1,w2,e1,e2,hne,hne',Alike2,List.getElem_set]
   ·refine⟨_,⟨none,some (enc fI w.safe),rfl⟩,semK_of (pf:=p190) rfl (by simp[p190]) ?_⟩
    simp (config:={maxSteps:=10000000}) [p190,md,y1,y2,hx',hy',ha2,ha2',w1,w2,e1,e2,hne,hne',Alike2,List.getElem_set]
 by_cases h11:kind=11
 ·subst h11
  have e1:=ev_spec_Lead (PK:=PK) x y (quietW w) hcx.b.nS hcy.b.nS
  have hlp:=lp_Role (PK:=PK) w x y ⟨11,a,b0⟩ a b (by have:=hw.net;omega)
  simp only[lents,lent,fN,owneds,owned]at e1
  generalize quietW w=qt at*
  generalize lead1 x y qt=r at*
  obtain⟨r1,r2⟩:=r
  simp only at e1 ⊢
  refine⟨_,⟨none,none,rfl⟩,semK_of (pf:=p190) rfl (by simp[p190]) ?_⟩
  simp (config:={maxSteps:=10000000}) [p190,md,y1,y2,hx',hy',ha2,ha2',w1,hne,hne',Alike2]
  rw[hlp]
  ·cases r2
   ·simp (config:={maxSteps:=10000000}) [b190_0,md,y1,y2,hx',hy',ha2,ha2',w1,e1,hne,hne',Alike2]
   ·simp (config:={maxSteps:=10000000}) [b190_0,md,y1,y2,hx',hy',ha2,ha2',w1,e1,hne,hne',Alike2]
  ·simp
  ·simp
 ·have e1:=ev_spec_Leave (PK:=PK) x hcx.b.nS
  simp only[lents,lent,fN,owneds,owned]at e1
  generalize leave1 x=r at*
  obtain⟨r1,r2⟩:=r
  simp only at e1 ⊢
  refine⟨_,⟨none,none,rfl⟩,semK_of (pf:=p190) rfl (by simp[p190]) ?_⟩
  cases r2
  ·simp (config:={maxSteps:=10000000}) [p190,md,y1,y2,hx',hy',ha2,ha2',h10,h11,w1,e1,hne,hne',Alike2]
  ·simp (config:={maxSteps:=10000000}) [p190,md,y1,y2,hx',hy',ha2,ha2',h10,h11,w1,e1,hne,hne',Alike2]
end Go.Proofs.YtbolhfegdocpeaaGreat.Ow
namespace Go.Proofs.YtbolhfegdocpeaaGreat.Ow
open Go
set_option linter.unusedVariables false
set_option linter.unusedSimpArgs false
set_option maxHeartbeats 16000000
variable {PK:Nat->List Arg->Option Res}
structure GvS where
 s:List Int
 sh:Nat
def gvF (q:List Int) (g:GvS) (x:Int):GvS:=if x∈q then g else⟨sureF g.s x,if g.sh=0 then(if(sureF g.s x).length=g.s.length then 2 else 1)else g.sh⟩
theorem gv_s (q:List Int): ∀ (l:List Int) (g:GvS),(l.foldl (gvF q) g).s=sure g.s (l.filter fun n=> !decide (n∈q))
 |[],g=>rfl
 |x::l,g=>by
  have h1:(x::l).foldl (gvF q) g=l.foldl (gvF q) (gvF q g x):=rfl
  rw[h1,gv_s q l]
  by_cases hx:x∈q
  ·have h2:gvF q g x=g:=by unfold gvF;rw[if_pos hx]
   have h3:(x::l).filter (fun n=> !decide (n∈q))=l.filter (fun n=> !decide (n∈q)):=by simp[hx]
   rw[h2,h3]
  ·have h2:(gvF q g x).s=sureF g.s x:=by unfold gvF;rw[if_neg hx]
   have h3:(x::l).filter (fun n=> !decide (n∈q))=x::l.filter (fun n=> !decide (n∈q)):=by simp[hx]
   rw[h2,h3]
   rfl
theorem gv_sh (q:List Int) (s0:List Int): ∀ (l:List Int) (g:GvS),g.sh<3/\(g.sh=0->g.s=s0)->(l.foldl (gvF q) g).sh<3/\((l.foldl (gvF q) g).sh=0->(l.foldl (gvF q) g).s=s0)
 |[],g,h=>h
 |x::l,g,h=>by
  simp only[List.foldl_cons]
  refine gv_sh q s0 l _ ?_
  unfold gvF
  split
  ·exact h
  ·simp only
   split
   ·split<;>exact⟨by omega,fun h=>by omega⟩
   ·exact⟨h.1,fun h2=>by omega⟩
@[simp] def nboxQ (n:NodeD) (q:Nat):Obj:= .box [.sc (.int .i64 n.id),.sc (.bool n.up),.sc (.bool n.prime),.ref 0 [(q,3)],.ref 0 [(q,4)],.ref 0 [(q,5)],.sc (.bool n.mt.fine),.sc (.bool n.mt.old),.sc (.bool n.mt.held),.sc (.int .i64 n.mt.last),.ref 0 [(q,10)],.ref 0 [(q,11)],.ref 0 [(q,12)],.ref 0 [(q,13)],.ref 0 [(q,14)],.ref 0 [(q,15)]]
@[simp] def obV (w:WorldD) (R:List (List T)) (r1:NodeD) (q:Nat) (wt:List Int) (ps:List PostD) (g:GvS) (o:Nat):List (Nat×Obj):=
 if g.sh=0 then [(0,.arr 16 (enc fN w.nodes)),(1,.arr 3 R),(2,.arr 2 (enc fR w.log)),(3,.arr 1 (enc fI g.s)),(o,.box [.ref 0 [],.ref (o+5) [],.ref 2 [],.ref 3 [],.sc (.int .i64 w.gen)]),(o+1,.box [.nil 16,.nil 3,.nil 2,.nil 1,.sc (.int .i64 0)]),(o+2,.arr 1 (enc fI wt)),(o+3,nboxQ r1 q),(o+4,.arr 7 (enc fP ps)),(o+5,.arr 3 (enc fW w.net))]
 else if g.sh=1 then [(0,.arr 16 (enc fN w.nodes)),(1,.arr 3 R),(2,.arr 2 (enc fR w.log)),(3,.arr 1 (enc fI w.safe)),(o,.box [.ref 0 [],.ref (o+5) [],.ref 2 [],.ref (o+6) [],.sc (.int .i64 w.gen)]),(o+1,.box [.nil 16,.nil 3,.nil 2,.nil 1,.sc (.int .i64 0)]),(o+2,.arr 1 (enc fI wt)),(o+3,nboxQ r1 q),(o+4,.arr 7 (enc fP ps)),(o+5,.arr 3 (enc fW w.net)),(o+6,.arr 1 (enc fI g.s))]
 else [(0,.arr 16 (enc fN w.nodes)),(1,.arr 3 R),(2,.arr 2 (enc fR w.log)),(o,.box [.ref 0 [],.ref (o+5) [],.ref 2 [],.ref (o+6) [],.sc (.int .i64 w.gen)]),(o+1,.box [.nil 16,.nil 3,.nil 2,.nil 1,.sc (.int .i64 0)]),(o+2,.arr 1 (enc fI wt)),(o+3,nboxQ r1 q),(o+4,.arr 7 (enc fP ps)),(o+5,.arr 3 (enc fW w.net)),(o+6,.arr 1 (enc fI g.s))]
@[simp] def st186_0 (w:WorldD) (R:List (List T)) (r1:NodeD) (q:Nat) (wt:List Int) (ps:List PostD) (g:GvS) (j:Nat):St:={n:=170,m:=4,tm:=[(2,.pb 10000200 0),(4,.pb 10000201 0),(11,.ref 10000202 []),(12,.pb 10000203 0),(13,.ref 10000204 []),(14,.sc (.int .i64 j))],ob:=obV w R r1 q wt ps g 10000200}
theorem lp_Give0 (w:WorldD) (R:List (List T)) (r1:NodeD) (q:Nat) (wt:List Int) (ps:List PostD) (hq:w.nodes[q]? =some r1) (hwt:wt.length<=1000) (hr:r1.wait.length<=1000000) (hs:w.safe.length<=1000): ∀ (t:St),t.m<=10000200->canon 10000200 [2,4,11,12,13,14] t=st186_0 w R r1 q wt ps ⟨w.safe,0⟩ 0->semL G PK md 10000200 [2,4,11,12,13,14] b186_0 t=exec (semK G PK md) (semL G PK md) md b186_0 (st186_0 w R r1 q wt ps (wt.foldl (gvF r1.wait) ⟨w.safe,0⟩) wt.length):=by
 have hf:wt.take wt.length=wt:=List.take_length
 obtain⟨hq1,hq2⟩:=at_of hq
 have h:=loop_ok (G:=G) (PK:=PK) (md:=md) (o:=10000200) (live:=[2,4,11,12,13,14]) (c:=b186_0) (fun j=>st186_0 w R r1 q wt ps ((wt.take j).foldl (gvF r1.wait) ⟨w.safe,0⟩) j) wt.length (fun j hj=>by
  obtain⟨x,hx⟩:=getElem?_of_lt hj
  obtain⟨_,hx'⟩:=at_of hx
  have hinc:=incr hj (by omega)
  have hsh:=gv_sh r1.wait w.safe (wt.take j) ⟨w.safe,0⟩ ⟨by simp,fun _=>rfl⟩
  have hlen:((wt.take j).foldl (gvF r1.wait) ⟨w.safe,0⟩).s.length<=2000:=by
   rw[gv_s]
   have h1:=sure_len ((wt.take j).filter fun n=> !decide (n∈r1.wait)) w.safe
   have h2:=List.length_filter_le (fun n=> !decide (n∈r1.wait)) (wt.take j)
   have h3:(wt.take j).length<=wt.length:=by rw[List.length_take];omega
   simp only at h1 ⊢
   omega
  rw[foldl_take (gvF r1.wait) _ wt hx]
  generalize (wt.take j).foldl (gvF r1.wait) ⟨w.safe,0⟩=g at*
  obtain⟨s,sh⟩:=g
  simp only at hsh hlen
  have e:=ev_l2Has (PK:=PK) r1.wait x (by omega)
  unfold gvF
  by_cases hm:x∈r1.wait
  ·obtain⟨h1,_⟩:=hsh
   rcases(show sh=0\/sh=1\/sh=2 by omega)with rfl|rfl|rfl<;>simp[b186_0,md,hj,hx',hq1,hq2,e,hm,hinc]
  ·obtain⟨fin,hfin,e2⟩:=ev_l12SureG (PK:=PK) (enc fN w.nodes) {w with safe:=s} [x] (by simp) (by simp only;omega)
   have hs1:sure s [x]=sureF s x:=rfl
   simp only[hs1,enc_cons,enc_nil,fI]at e2 hfin
   obtain⟨h1,h0⟩:=hsh
   rcases(show sh=0\/sh=1\/sh=2 by omega)with rfl|rfl|rfl
   ·have:=h0 rfl
    subst this
    rcases hfin with ⟨rfl,h⟩|⟨rfl,h⟩<;>simp[b186_0,md,hj,hx',hq1,hq2,e,e2,hm,hinc,h]
   ·rcases hfin with ⟨rfl,h⟩|⟨rfl,h⟩<;>simp[b186_0,md,hj,hx',hq1,hq2,e,e2,hm,hinc,h]
   ·rcases hfin with ⟨rfl,h⟩|⟨rfl,h⟩<;>simp[b186_0,md,hj,hx',hq1,hq2,e,e2,hm,hinc,h]) (by
  have hsh:=(gv_sh r1.wait w.safe (wt.take wt.length) ⟨w.safe,0⟩ ⟨by simp,fun _=>rfl⟩).1
  generalize (wt.take wt.length).foldl (gvF r1.wait) ⟨w.safe,0⟩=g at*
  obtain⟨s,sh⟩:=g
  simp only at hsh
  rcases(show sh=0\/sh=1\/sh=2 by omega)with rfl|rfl|rfl<;>simp[b186_0])
 simp only[hf]at h
 exact h
end Go.Proofs.YtbolhfegdocpeaaGreat.Ow
