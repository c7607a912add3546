/- Generic functions of the library that ask a function: evaluated. -/
import Derived.Test.YtbolhfegdocpeaaGreatEv6
namespace Go.Proofs.YtbolhfegdocpeaaGreat.Ow
open Go
set_option linter.unusedVariables false
set_option linter.unusedSimpArgs false
set_option maxHeartbeats 4000000
variable {PK:Nat->List Arg->Option Res}
@[simp] def ixI0 (f:Nat) (l:List Int) (j:Nat):St:={n:=19,m:=0,tm:=[(0,.im 1 (enc fI l)),(1,.clo f []),(7,.sc (.int .i64 l.length)),(8,.sc (.int .i64 j))],ob:=[]}
theorem Fc {α:Type} (q:α->Bool) (l:List α) (d:α):decide (0<=Em (fun j=> !q (l.getD j d)) l.length)=l.any q:=by
 have h:=I5 (fun j=> !q (l.getD j d)) l.length;refine Eq.trans (b:=decide (Em (fun j=> !q (l.getD j d)) l.length ≥ 0)) rfl ?_;rw[h]
 cases hp:Af (fun j=> !q (l.getD j d)) l.length
 ·symm;rw[Bool.not_false,List.any_eq_true];by_cases hx: ∃x,x∈l/\q x=true
  ·exact hx
  ·exfalso;rw[BJ (fun j hj=> ?_)]at hp
   ·cases hp
   ·obtain⟨x,hx1⟩:=AE hj;rw[CI hx1]
    cases hqx:q x
    ·rfl
    ·exact absurd ⟨x,List.mem_of_getElem? hx1,hqx⟩ hx
 ·symm;rw[Bool.not_true,List.any_eq_false];intro x hx;obtain⟨j,hj⟩:=List.getElem?_of_mem hx;have:=Ar hp (List.getElem?_eq_some_iff.1 hj).1;simp only[CI hj]at this;simpa using this
theorem RB (f:Nat) (q:Int->Bool) (l:List Int) (hl:l.length<=1048576) (hmd:md f=[]) (hq: ∀x∈l,AH G PK md f [.v (.sc (.int .i64 x))]=some ⟨[.v (.sc (.bool (q x)))],[],[]⟩):
  AH G PK md 136 [.v (.im 1 (enc fI l)),.c f []]=some ⟨[.v (.sc (.int .i64 (Em (fun j=> !q (l.getD j 0)) l.length)))],[],[]⟩:=by
 refine AA (pf:=p136) rfl (by simp[p136]) ?_
 obtain⟨bad,hb,hsz⟩:=ER (G:=G) (PK:=PK) (md:=md) (o:=10000000) (live:=[0,1,7,8]) (c:=b136_0) (ixI0 f l) (fun j=> !q (l.getD j 0)) l.length (fun k s=>s.m=0/\At s.tm 4= .sc (.int .i64 k)) (fun j hj=>by
  obtain⟨x,hx⟩:=AE hj;obtain⟨_,hx'⟩:=Ba hx;have e:=hq x (List.mem_of_getElem? hx);skip;have hi:=A2 hj hl;rw[CI hx]
  cases hqx:q x
  ·rw[hqx]at e;simp[b136_0,hmd,hj,hx',e,hi]
  ·rw[hqx]at e;simp[b136_0,hmd,hj,hx',e,hi]) (by simp[b136_0])
 cases hp:Af (fun j=> !q (l.getD j 0)) l.length
 ·obtain⟨k,hk,h1,h2,hm,ht⟩:=hb hp
  rw[Bq hk h1 h2]
  simp only[hp]at hsz
  simp[p136,md]
  rw[hsz]
  ·simp[hm,ht]
  ·simp
  ·simp
 ·rw[CP (fun j hj=>Ar hp hj)]
  simp only[hp]at hsz
  simp[p136,md]
  rw[hsz]
  ·simp[b136_0]
  ·simp
  ·simp
theorem ev_HasI0 (f:Nat) (q:Int->Bool) (l:List Int) (hl:l.length<=1048576) (hmd:md f=[]) (hq: ∀x∈l,AH G PK md f [.v (.sc (.int .i64 x))]=some ⟨[.v (.sc (.bool (q x)))],[],[]⟩):
  AH G PK md 98 [.v (.im 1 (enc fI l)),.c f []]=some ⟨[.v (.sc (.bool (l.any q)))],[],[]⟩:=by
 refine AA (pf:=p98) rfl (by simp[p98]) ?_
 have e:=RB (PK:=PK) f q l hl hmd hq
 have h:=Fc q l 0
 simp[p98,md,hmd,e,h]
 try exact h
@[simp] def ixI1 (f:Nat) (cs:List T) (l:List Int) (j:Nat):St:={n:=19,m:=0,tm:=[(0,.im 1 (enc fI l)),(1,.clo f [.pim cs]),(7,.sc (.int .i64 l.length)),(8,.sc (.int .i64 j))],ob:=[]}
theorem RA (f:Nat) (cs:List T) (q:Int->Bool) (l:List Int) (hl:l.length<=1048576) (hmd:md f=[]) (hq: ∀x∈l,AH G PK md f [.v (.sc (.int .i64 x)),.pi cs]=some ⟨[.v (.sc (.bool (q x)))],[],[]⟩):
  AH G PK md 136 [.v (.im 1 (enc fI l)),.c f [cs]]=some ⟨[.v (.sc (.int .i64 (Em (fun j=> !q (l.getD j 0)) l.length)))],[],[]⟩:=by
 refine AA (pf:=p136) rfl (by simp[p136]) ?_
 obtain⟨bad,hb,hsz⟩:=ER (G:=G) (PK:=PK) (md:=md) (o:=10000000) (live:=[0,1,7,8]) (c:=b136_0) (ixI1 f cs l) (fun j=> !q (l.getD j 0)) l.length (fun k s=>s.m=0/\At s.tm 4= .sc (.int .i64 k)) (fun j hj=>by
  obtain⟨x,hx⟩:=AE hj;obtain⟨_,hx'⟩:=Ba hx;have e:=hq x (List.mem_of_getElem? hx);skip;have hi:=A2 hj hl;rw[CI hx]
  cases hqx:q x
  ·rw[hqx]at e;simp[b136_0,hmd,hj,hx',e,hi]
  ·rw[hqx]at e;simp[b136_0,hmd,hj,hx',e,hi]) (by simp[b136_0])
 cases hp:Af (fun j=> !q (l.getD j 0)) l.length
 ·obtain⟨k,hk,h1,h2,hm,ht⟩:=hb hp
  rw[Bq hk h1 h2]
  simp only[hp]at hsz
  simp[p136,md]
  rw[hsz]
  ·simp[hm,ht]
  ·simp
  ·simp
 ·rw[CP (fun j hj=>Ar hp hj)]
  simp only[hp]at hsz
  simp[p136,md]
  rw[hsz]
  ·simp[b136_0]
  ·simp
  ·simp
theorem UW (f:Nat) (cs:List T) (q:Int->Bool) (l:List Int) (hl:l.length<=1048576) (hmd:md f=[]) (hq: ∀x∈l,AH G PK md f [.v (.sc (.int .i64 x)),.pi cs]=some ⟨[.v (.sc (.bool (q x)))],[],[]⟩):
  AH G PK md 98 [.v (.im 1 (enc fI l)),.c f [cs]]=some ⟨[.v (.sc (.bool (l.any q)))],[],[]⟩:=by
 refine AA (pf:=p98) rfl (by simp[p98]) ?_
 have e:=RA (PK:=PK) f cs q l hl hmd hq
 have h:=Fc q l 0
 simp[p98,md,hmd,e,h]
 try exact h
@[simp] def ixUU0 (f:Nat) (l:List (List Int)) (j:Nat):St:={n:=19,m:=0,tm:=[(0,.im 1 (enc fUU l)),(1,.clo f []),(7,.sc (.int .i64 l.length)),(8,.sc (.int .i64 j))],ob:=[]}
theorem P0 (f:Nat) (q:(List Int)->Bool) (l:List (List Int)) (hl:l.length<=1048576) (hmd:md f=[]) (hq: ∀x∈l,AH G PK md f [.v (.im 1 (enc fU x))]=some ⟨[.v (.sc (.bool (q x)))],[],[]⟩):
  AH G PK md 142 [.v (.im 1 (enc fUU l)),.c f []]=some ⟨[.v (.sc (.int .i64 (Em (fun j=> !q (l.getD j [])) l.length)))],[],[]⟩:=by
 refine AA (pf:=p142) rfl (by simp[p142]) ?_
 obtain⟨bad,hb,hsz⟩:=ER (G:=G) (PK:=PK) (md:=md) (o:=10000000) (live:=[0,1,7,8]) (c:=b142_0) (ixUU0 f l) (fun j=> !q (l.getD j [])) l.length (fun k s=>s.m=0/\At s.tm 4= .sc (.int .i64 k)) (fun j hj=>by
  obtain⟨x,hx⟩:=AE hj;obtain⟨_,hx'⟩:=Ba hx;have e:=hq x (List.mem_of_getElem? hx);skip;have hi:=A2 hj hl;rw[CI hx]
  cases hqx:q x
  ·rw[hqx]at e;simp[b142_0,hmd,hj,hx',e,hi]
  ·rw[hqx]at e;simp[b142_0,hmd,hj,hx',e,hi]) (by simp[b142_0])
 cases hp:Af (fun j=> !q (l.getD j [])) l.length
 ·obtain⟨k,hk,h1,h2,hm,ht⟩:=hb hp
  rw[Bq hk h1 h2]
  simp only[hp]at hsz
  simp[p142,md]
  rw[hsz]
  ·simp[hm,ht]
  ·simp
  ·simp
 ·rw[CP (fun j hj=>Ar hp hj)]
  simp only[hp]at hsz
  simp[p142,md]
  rw[hsz]
  ·simp[b142_0]
  ·simp
  ·simp
theorem ev_HasUU0 (f:Nat) (q:(List Int)->Bool) (l:List (List Int)) (hl:l.length<=1048576) (hmd:md f=[]) (hq: ∀x∈l,AH G PK md f [.v (.im 1 (enc fU x))]=some ⟨[.v (.sc (.bool (q x)))],[],[]⟩):
  AH G PK md 103 [.v (.im 1 (enc fUU l)),.c f []]=some ⟨[.v (.sc (.bool (l.any q)))],[],[]⟩:=by
 refine AA (pf:=p103) rfl (by simp[p103]) ?_
 have e:=P0 (PK:=PK) f q l hl hmd hq
 have h:=Fc q l []
 simp[p103,md,hmd,e,h]
 try exact h
@[simp] def ixUU1 (f:Nat) (cs:List T) (l:List (List Int)) (j:Nat):St:={n:=19,m:=0,tm:=[(0,.im 1 (enc fUU l)),(1,.clo f [.pim cs]),(7,.sc (.int .i64 l.length)),(8,.sc (.int .i64 j))],ob:=[]}
theorem Pz (f:Nat) (cs:List T) (q:(List Int)->Bool) (l:List (List Int)) (hl:l.length<=1048576) (hmd:md f=[]) (hq: ∀x∈l,AH G PK md f [.v (.im 1 (enc fU x)),.pi cs]=some ⟨[.v (.sc (.bool (q x)))],[],[]⟩):
  AH G PK md 142 [.v (.im 1 (enc fUU l)),.c f [cs]]=some ⟨[.v (.sc (.int .i64 (Em (fun j=> !q (l.getD j [])) l.length)))],[],[]⟩:=by
 refine AA (pf:=p142) rfl (by simp[p142]) ?_
 obtain⟨bad,hb,hsz⟩:=ER (G:=G) (PK:=PK) (md:=md) (o:=10000000) (live:=[0,1,7,8]) (c:=b142_0) (ixUU1 f cs l) (fun j=> !q (l.getD j [])) l.length (fun k s=>s.m=0/\At s.tm 4= .sc (.int .i64 k)) (fun j hj=>by
  obtain⟨x,hx⟩:=AE hj;obtain⟨_,hx'⟩:=Ba hx;have e:=hq x (List.mem_of_getElem? hx);skip;have hi:=A2 hj hl;rw[CI hx]
  cases hqx:q x
  ·rw[hqx]at e;simp[b142_0,hmd,hj,hx',e,hi]
  ·rw[hqx]at e;simp[b142_0,hmd,hj,hx',e,hi]) (by simp[b142_0])
 cases hp:Af (fun j=> !q (l.getD j [])) l.length
 ·obtain⟨k,hk,h1,h2,hm,ht⟩:=hb hp
  rw[Bq hk h1 h2]
  simp only[hp]at hsz
  simp[p142,md]
  rw[hsz]
  ·simp[hm,ht]
  ·simp
  ·simp
 ·rw[CP (fun j hj=>Ar hp hj)]
  simp only[hp]at hsz
  simp[p142,md]
  rw[hsz]
  ·simp[b142_0]
  ·simp
  ·simp
theorem ev_HasUU1 (f:Nat) (cs:List T) (q:(List Int)->Bool) (l:List (List Int)) (hl:l.length<=1048576) (hmd:md f=[]) (hq: ∀x∈l,AH G PK md f [.v (.im 1 (enc fU x)),.pi cs]=some ⟨[.v (.sc (.bool (q x)))],[],[]⟩):
  AH G PK md 103 [.v (.im 1 (enc fUU l)),.c f [cs]]=some ⟨[.v (.sc (.bool (l.any q)))],[],[]⟩:=by
 refine AA (pf:=p103) rfl (by simp[p103]) ?_
 have e:=Pz (PK:=PK) f cs q l hl hmd hq
 have h:=Fc q l []
 simp[p103,md,hmd,e,h]
 try exact h
@[simp] def ixII0 (f:Nat) (l:List (List Int)) (j:Nat):St:={n:=19,m:=0,tm:=[(0,.im 1 (enc fII l)),(1,.clo f []),(7,.sc (.int .i64 l.length)),(8,.sc (.int .i64 j))],ob:=[]}
theorem P2 (f:Nat) (q:(List Int)->Bool) (l:List (List Int)) (hl:l.length<=1048576) (hmd:md f=[]) (hq: ∀x∈l,AH G PK md f [.v (.im 1 (enc fI x))]=some ⟨[.v (.sc (.bool (q x)))],[],[]⟩):
  AH G PK md 183 [.v (.im 1 (enc fII l)),.c f []]=some ⟨[.v (.sc (.int .i64 (Em (fun j=> !q (l.getD j [])) l.length)))],[],[]⟩:=by
 refine AA (pf:=p183) rfl (by simp[p183]) ?_
 obtain⟨bad,hb,hsz⟩:=ER (G:=G) (PK:=PK) (md:=md) (o:=10000000) (live:=[0,1,7,8]) (c:=b183_0) (ixII0 f l) (fun j=> !q (l.getD j [])) l.length (fun k s=>s.m=0/\At s.tm 4= .sc (.int .i64 k)) (fun j hj=>by
  obtain⟨x,hx⟩:=AE hj;obtain⟨_,hx'⟩:=Ba hx;have e:=hq x (List.mem_of_getElem? hx);skip;have hi:=A2 hj hl;rw[CI hx]
  cases hqx:q x
  ·rw[hqx]at e;simp[b183_0,hmd,hj,hx',e,hi]
  ·rw[hqx]at e;simp[b183_0,hmd,hj,hx',e,hi]) (by simp[b183_0])
 cases hp:Af (fun j=> !q (l.getD j [])) l.length
 ·obtain⟨k,hk,h1,h2,hm,ht⟩:=hb hp
  rw[Bq hk h1 h2]
  simp only[hp]at hsz
  simp[p183,md]
  rw[hsz]
  ·simp[hm,ht]
  ·simp
  ·simp
 ·rw[CP (fun j hj=>Ar hp hj)]
  simp only[hp]at hsz
  simp[p183,md]
  rw[hsz]
  ·simp[b183_0]
  ·simp
  ·simp
theorem ev_HasII0 (f:Nat) (q:(List Int)->Bool) (l:List (List Int)) (hl:l.length<=1048576) (hmd:md f=[]) (hq: ∀x∈l,AH G PK md f [.v (.im 1 (enc fI x))]=some ⟨[.v (.sc (.bool (q x)))],[],[]⟩):
  AH G PK md 165 [.v (.im 1 (enc fII l)),.c f []]=some ⟨[.v (.sc (.bool (l.any q)))],[],[]⟩:=by
 refine AA (pf:=p165) rfl (by simp[p165]) ?_
 have e:=P2 (PK:=PK) f q l hl hmd hq
 have h:=Fc q l []
 simp[p165,md,hmd,e,h]
 try exact h
@[simp] def ixII1 (f:Nat) (cs:List T) (l:List (List Int)) (j:Nat):St:={n:=19,m:=0,tm:=[(0,.im 1 (enc fII l)),(1,.clo f [.pim cs]),(7,.sc (.int .i64 l.length)),(8,.sc (.int .i64 j))],ob:=[]}
theorem P1 (f:Nat) (cs:List T) (q:(List Int)->Bool) (l:List (List Int)) (hl:l.length<=1048576) (hmd:md f=[]) (hq: ∀x∈l,AH G PK md f [.v (.im 1 (enc fI x)),.pi cs]=some ⟨[.v (.sc (.bool (q x)))],[],[]⟩):
  AH G PK md 183 [.v (.im 1 (enc fII l)),.c f [cs]]=some ⟨[.v (.sc (.int .i64 (Em (fun j=> !q (l.getD j [])) l.length)))],[],[]⟩:=by
 refine AA (pf:=p183) rfl (by simp[p183]) ?_
 obtain⟨bad,hb,hsz⟩:=ER (G:=G) (PK:=PK) (md:=md) (o:=10000000) (live:=[0,1,7,8]) (c:=b183_0) (ixII1 f cs l) (fun j=> !q (l.getD j [])) l.length (fun k s=>s.m=0/\At s.tm 4= .sc (.int .i64 k)) (fun j hj=>by
  obtain⟨x,hx⟩:=AE hj;obtain⟨_,hx'⟩:=Ba hx;have e:=hq x (List.mem_of_getElem? hx);skip;have hi:=A2 hj hl;rw[CI hx]
  cases hqx:q x
  ·rw[hqx]at e;simp[b183_0,hmd,hj,hx',e,hi]
  ·rw[hqx]at e;simp[b183_0,hmd,hj,hx',e,hi]) (by simp[b183_0])
 cases hp:Af (fun j=> !q (l.getD j [])) l.length
 ·obtain⟨k,hk,h1,h2,hm,ht⟩:=hb hp
  rw[Bq hk h1 h2]
  simp only[hp]at hsz
  simp[p183,md]
  rw[hsz]
  ·simp[hm,ht]
  ·simp
  ·simp
 ·rw[CP (fun j hj=>Ar hp hj)]
  simp only[hp]at hsz
  simp[p183,md]
  rw[hsz]
  ·simp[b183_0]
  ·simp
  ·simp
theorem ev_HasII1 (f:Nat) (cs:List T) (q:(List Int)->Bool) (l:List (List Int)) (hl:l.length<=1048576) (hmd:md f=[]) (hq: ∀x∈l,AH G PK md f [.v (.im 1 (enc fI x)),.pi cs]=some ⟨[.v (.sc (.bool (q x)))],[],[]⟩):
  AH G PK md 165 [.v (.im 1 (enc fII l)),.c f [cs]]=some ⟨[.v (.sc (.bool (l.any q)))],[],[]⟩:=by
 refine AA (pf:=p165) rfl (by simp[p165]) ?_
 have e:=P1 (PK:=PK) f cs q l hl hmd hq
 have h:=Fc q l []
 simp[p165,md,hmd,e,h]
 try exact h
end Go.Proofs.YtbolhfegdocpeaaGreat.Ow
