/- The small machine over trees, and that what it computes is what the calls of the loaded functions return: part 3. -/
import Derived.Test.YtbolhfegdocpeaaGreatBaseB
import Derived.OrdersHeld
import Derived.ChangeSlices
import Derived.Below
import Derived.WideShapes
import Derived.JoinedOf
set_option linter.unusedVariables false
set_option linter.unusedSimpArgs false
namespace Go.Proofs.YtbolhfegdocpeaaGreat.Ow
open Go
variable {P:Program} {fm fm0:Fm} {M:List Nat} {e e' e0:Env} {s s':St} {a:Act} {Q:Exit->Act->World->Prop} {lent:List Nat}
theorem cut_l {h h':Hand} {n o lo hi:Nat} {p:Path} {full:Bool} (hc:h.cut n o p lo hi full=some h'):h'.l=subL (cutF o p n lo hi full) h.l:=by
 unfold Hand.cut at hc
 split at hc
 case h_2=>cases hc
 split at hc
 case h_2=>cases hc
 split at hc
 case h_2=>cases hc
 split at hc
 case isFalse=>cases hc
 split at hc
 ·simp only[Option.some.injEq]at hc
  subst hc;rfl
 ·split at hc
  case h_2=>cases hc
  simp only[Option.some.injEq]at hc
  subst hc;rfl
theorem root_drop {h h':Hand} {i k n:Nat} (hr:h.root i k=some h') (hi:i<n): ∃f,h'.l.drop n=subL f (h.l.drop n)/\h'.l.length=h.l.length:=by
 have idd: ∃f,h.l.drop n=subL f (h.l.drop n)/\h.l.length=h.l.length:=⟨_,(subL_id _).symm,rfl⟩
 unfold Hand.root at hr
 split at hr
 ·cases hr;exact idd
 ·split at hr
  case h_2=>cases hr
  split at hr
  case isFalse=>cases hr
  cases hr
  exact⟨_,by rw[List.drop_set_of_lt hi];exact(subL_id _).symm,by simp⟩
 ·split at hr
  ·cases hr;exact idd
  ·split at hr
   case h_2=>cases hr
   rw[cut_l hr]
   exact⟨_,by rw[subL_eq,subL_eq,List.map_drop],by rw[subL_eq];simp⟩
 ·split at hr
  case h_2=>cases hr
  rename_i h1 hc
  cases hr
  refine⟨_,by rw[List.drop_set_of_lt hi,cut_l hc,subL_eq,←List.map_drop,←subL_eq],?_⟩
  simp only[List.length_set]
  rw[cut_l hc,subL_eq];simp
 ·cases hr
theorem rootI_drop {h h':Hand} {i k n:Nat} (hr:h.rootI i k=some h') (hi:i<n): ∃f,h'.l.drop n=subL f (h.l.drop n)/\h'.l.length=h.l.length:=by
 have idd: ∃f,h.l.drop n=subL f (h.l.drop n)/\h.l.length=h.l.length:=⟨_,(subL_id _).symm,rfl⟩
 unfold Hand.rootI at hr
 split at hr
 ·cases hr;exact idd
 ·cases hr;exact idd
 ·cases hr;exact idd
 ·cases hr;exact idd
 ·cases hr;exact idd
 ·exact root_drop hr hi
def FromN (N:Nat->Prop) (n:Nat) (l l':List AV):Prop:= ∀ (i:Nat) y,i<n->l'[i]? =some y-> ∃x,l[i]? =some x/\(∀o∈placeA y,o∈placeA x\/N o)/\ ∀b j,y= .pb b j->x=y
def FromBN (N:Nat->Prop) (s s':St):Prop:= ∀b cs',getO s'.ob b= .box cs'-> ∃cs,getO s.ob b= .box cs/\ ∀ (i:Nat) y,cs'[i]? =some y-> ∃x,cs[i]? =some x/\ ∀o∈placeA y,o∈placeA x\/N o
theorem rootsM_ok {n:Nat}: ∀ {ms:List Nat} {i base:Nat} {e:Env} {h h':Hand} {us:List Value},HRel fm e h a us->h.rootsM base i ms=some h'->i+ms.length<=n->n<=h.l.length->Pairs e.w (h.l.drop n) (us.drop n)->
  ∃e' us',e'.w=e.w/\e'.Im=e.Im/\HRel fm e' h' a us'/\us'.take n=us.take n/\n<=h'.l.length/\Pairs e.w (h'.l.drop n) (us'.drop n)/\h'.s.n=h.s.n/\h'.s.m=h.s.m/\
   ∀ {e0:Env} {A N:Nat->Prop},RootInv e0 e A N->(∀j,j<ms.length->N (base+j))->(∀ (j:Nat) x,ms[j]? =some 1->h.l[i+j]? =some x-> ∀o∈placeA x,N o)->
    RootInv e0 e' A N/\FromN N n h.l h'.l/\FromBN N h.s h'.s
 |[],i,base,e,h,h',us,hH,hr,hi,hn,hp=>by
  simp only[Hand.rootsM,Option.some.injEq]at hr
  subst hr
  exact⟨e,us,rfl,rfl,hH,rfl,hn,hp,rfl,rfl,fun hI _ _=>⟨hI,fun i y _ hy=>⟨y,hy,fun _ ho=> .inl ho,fun _ _ _=>rfl⟩,fun b cs hb=>⟨cs,hb,fun i y hy=>⟨y,hy,fun _ ho=> .inl ho⟩⟩⟩⟩
 |m::ms,i,base,e,h,h',us,hH,hr,hi,hn,hp=>by
  simp only[List.length_cons]at hi
  simp only[Hand.rootsM]at hr
  split at hr
  ·rename_i hm
   split at hr
   case h_2=>cases hr
   rename_i h1 hroot
   obtain⟨vs,p1,ps,p2,p3,p4⟩:=push_ok hH i
   obtain⟨e1,g1,g2,g3,g4,g5,g6,g7,_,g8⟩:=rootI_foot p1 hroot
   obtain⟨f,d1,d2⟩:=rootI_drop (n:=n) hroot (by omega)
   have hnu:n<=us.length:=by rw[←hH.len];exact hn
   have hpairs:Pairs e1.w (h1.l.drop n) ((us++vs).drop n):=by
    rw[g1,d1,p2,List.drop_append_of_le_length hn,List.drop_append_of_le_length hnu]
    exact(hp.append p3).sub fun _ _ _ _ _ _ _ _ _ _ _=>rfl
   obtain⟨e2,us2,y1,y2,y3,y4,y5,y6,y7,y8,y9⟩:=rootsM_ok g3 hr (by omega) (by rw[d2,p2];simp;omega) hpairs
   refine⟨e2,us2,y1.trans g1,y2.trans g2,y3,by rw[y4,List.take_append_of_le_length hnu],y5,by rw[←g1];exact y6,y7.trans g4,y8.trans g5,fun {e0 A N} hI hN hms=> ?_⟩
   have hpl: ∀ (j:Nat) y,j<n->(h.push i).l[j]? =some y->h.l[j]? =some y:=fun j y hj hy=>by
    rw[p2,List.getElem?_append_left (by omega)]at hy
    exact hy
   have hNb:N base:=by have:=hN 0 (by simp);simpa using this
   have hI1:=g8 hI fun x hx o ho=>hms 0 x (by simp[hm]) (by simpa using hpl i x (by omega) hx) o ho
   obtain⟨z1,z2,z3⟩:=y9 hI1 (fun j hj=>by have:=hN (j+1) (by simpa using hj);rwa [show base+1+j=base+(j+1)by omega]) (fun j x hj hx o ho=>by
    obtain⟨x0,q1,q2⟩:=g6 _ x hx
    rcases q2.1 o ho with q3|q3
    ·exact hms (j+1) x0 (by simpa using hj) (by
      have hlt:j<ms.length:=(List.getElem?_eq_some_iff.1 hj).1
      have:=hpl _ x0 (by omega) q1
      rwa [show i+1+j=i+(j+1)by omega]at this) o q3
    ·rw[q3];exact hNb)
   refine⟨z1,fun j y hj hy=> ?_,fun b cs hb=> ?_⟩
   ·obtain⟨x,q1,q2⟩:=z2 j y hj hy
    obtain⟨x0,q3,q4⟩:=g6 j x q1
    refine⟨x0,hpl j x0 hj q3,fun o ho=> ?_,fun b i hb=> ?_⟩
    ·rcases q2.1 o ho with q5|q5
     ·exact(q4.1 o q5).imp id fun h=>by rw[h];exact hNb
     ·exact .inr q5
    ·have h1:=q2.2 b i hb
     rw[q4.2 b i (h1.trans hb),h1]
   ·obtain⟨cs1,q1,q2⟩:=z3 b cs hb
    obtain⟨cs0,q3,q4⟩:=g7 b cs1 q1
    refine⟨cs0,q3,fun j y hy=> ?_⟩
    obtain⟨x,q5,q6⟩:=q2 j y hy
    obtain⟨x0,q7,q8⟩:=q4 j x q5
    refine⟨x0,q7,fun o ho=> ?_⟩
    rcases q6 o ho with q9|q9
    ·exact(q8.1 o q9).imp id fun h=>by rw[h];exact hNb
    ·exact .inr q9
  ·obtain⟨e2,us2,y1,y2,y3,y4,y5,y6,y7,y8,y9⟩:=rootsM_ok hH hr (by omega) hn hp
   refine⟨e2,us2,y1,y2,y3,y4,y5,y6,y7,y8,fun hI hN hms=> ?_⟩
   exact y9 hI (fun j hj=>by have:=hN (j+1) (by simpa using hj);rwa [show base+1+j=base+(j+1)by omega]) (fun j x hj hx=>hms (j+1) x (by simpa using hj) (by rwa [show i+1+j=i+(j+1)by omega]at hx))
theorem adopt_nm {o1 o i j:Nat} {p:Path} (h:s.adopt o1 o p i j=some s'):s'.n=s.n/\s'.m=s.m:=by
 obtain⟨_,_,h1,h2⟩:=adopt_gone h
 exact⟨h1,h2⟩
theorem backA_ok: ∀ {n:Nat} {e:Env} {h:Hand} {us:List Value} {r:Value} {x:AV} {s':St},HRel fm e h a (r::us)->Pairs e.w h.l.tail us->backA n h=some (x,s')->
  ∃e',e'.w=e.w/\Rel fm e' s' a/\AvOk e' x r/\s'.n=h.s.n/\s'.m=h.s.m
 |0,e,h,us,r,x,s',hH,hp,hb=>by
  simp only[backA]at hb
  split at hb
  ·rename_i y l hl
   simp only[Option.some.injEq,Prod.mk.injEq]at hb
   obtain⟨rfl,rfl⟩:=hb
   exact⟨e,rfl,hH.rel,hH.ok 0 y r (by rw[hl];rfl) rfl,rfl,rfl⟩
  ·cases hb
 |n+1,e,h,us,r,x,s',hH,hp,hb=>by
  simp only[backA]at hb
  split at hb
  ·rename_i y o q i j z l hl
   split at hb
   case h_2=>cases hb
   rename_i s1 hs1
   rw[hl]at hp
   match us,hp with
   |u::v::us,hp=>
   obtain⟨ad,rfl,hcell⟩:=hp.1 o q i j rfl
   have h1:=hH.ok 1 (.pa o q i j) _ (by rw[hl];rfl) rfl
   have h2:=hH.ok 2 (.ref z []) v (by rw[hl];rfl) rfl
   cases h1 with
   |pa _ _ _ _ k b off nn c rows hn hh hc=>
   have hv:v=e.hd z []:=by cases h2;rfl
   subst hv
   obtain⟨e1,g1,g2,g3,g4,_⟩:=adopt_ok hH.rel hs1 hn hh hc hcell
   obtain⟨q1,q2⟩:=adopt_nm hs1
   have hlen:=hH.len
   rw[hl]at hlen
   have hH1:HRel fm e1 {s:=s1,l:=subL (adoptF z o (q++[(i,j)])) (y::l)} a (r::us):=by
    refine⟨g3,by rw[subL_eq];simpa using hlen,fun m x u hx hu=> ?_⟩
    rw[subL_eq,List.getElem?_map]at hx
    cases hy:(y::l)[m]? with
    |none=>simp[hy]at hx
    |some x0=>
     simp[hy]at hx
     subst hx
     cases m with
     |zero=>
      simp at hy hu
      subst hy;subst hu
      exact(hH.ok 0 _ _ (by rw[hl];rfl) rfl).sub g4
     |succ m=>exact(hH.ok (m+3) x0 u (by rw[hl];simpa using hy) (by simpa using hu)).sub g4
   obtain⟨e2,y1,y2,y3,y4,y5⟩:=backA_ok hH1 (by
    show Pairs e1.w (subL _ l) us
    exact hp.2.sub fun _ _ _ _ _ _ _ _ _ _ _=>by rw[g1]) hb
   exact⟨e2,y1.trans g1,y2,y3,y4.trans q1,y5.trans q2⟩
  ·rename_i y w l hl
   rw[hl]at hp
   match us,hp with
   |u::v::us,hp=>
   have hlen:=hH.len
   rw[hl]at hlen
   have hH1:HRel fm e {h with l:=y::l} a (r::us):=by
    refine⟨hH.rel,by simpa using hlen,fun m x u hx hu=> ?_⟩
    cases m with
    |zero=>exact hH.ok 0 x u (by rw[hl];simpa using hx) (by simpa using hu)
    |succ m=>exact hH.ok (m+3) x u (by rw[hl];simpa using hx) (by simpa using hu)
   obtain⟨e2,y1,y2,y3,y4,y5⟩:=backA_ok hH1 hp.2 hb
   exact⟨e2,y1,y2,y3,y4,y5⟩
  ·cases hb
end Go.Proofs.YtbolhfegdocpeaaGreat.Ow
namespace Go.Proofs.YtbolhfegdocpeaaGreat.Ow
open Go
variable {P:Program} {fm fm0:Fm} {M:List Nat} {e e' e0:Env} {s s':St} {a:Act} {Q:Exit->Act->World->Prop}
theorem closeL_src {ob:List (Nat×Obj)} {x:AV} {l:L} {ids:List Nat} (h:closeL ob x=some (l,ids)): ∀c∈ids,x= .ref c []:=by
 unfold closeL at h
 split at h
 ·cases h;simp
 ·cases h;simp
 ·cases h;simp
 ·cases h;simp
 ·split at h
  ·cases h;intro c hc;simp at hc;rw[hc]
  ·cases h
 ·cases h
theorem closeLs_src {ob:List (Nat×Obj)}: ∀ {xs:List AV} {ls:List L} {ids:List Nat},closeLs ob xs=some (ls,ids)-> ∀c∈ids,.ref c []∈xs
 |[],ls,ids,h=>by simp only[closeLs,Option.some.injEq,Prod.mk.injEq]at h;obtain⟨rfl,rfl⟩:=h;simp
 |x::xs,ls,ids,h=>by
  simp only[closeLs]at h
  split at h
  case h_2=>cases h
  rename_i h1 h2
  simp only[Option.some.injEq,Prod.mk.injEq]at h
  obtain⟨rfl,rfl⟩:=h
  intro c hc
  rcases List.mem_append.1 hc with h3|h3
  ·rw[closeL_src h1 c h3];exact List.mem_cons_self
  ·exact List.mem_cons_of_mem _ (closeLs_src h2 c h3)
def Src (ob:List (Nat×Obj)) (z:AV) (c:Nat):Prop:=z= .ref c []\/(∃l,z= .agg l/\ .ref c []∈l)\/ ∃b cells,z= .pb b 0/\getO ob b= .box cells/\(c=b\/ .ref c []∈cells)
theorem closeArg_src {ob:List (Nat×Obj)} {x:AV} {r:Arg} {ids:List Nat} (h:closeArg ob x=some (r,ids)): ∀c∈ids,Src ob x c:=by
 intro c hc
 unfold closeArg at h
 split at h
 ·rename_i l
  obtain⟨⟨l1,os⟩,h1,h2⟩:=Option.map_eq_some_iff.1 h
  cases h2
  exact .inr (.inl ⟨l,rfl,closeLs_src h1 c hc⟩)
 ·split at h
  ·rename_i cs hob
   obtain⟨⟨l1,os⟩,h1,h2⟩:=Option.map_eq_some_iff.1 h
   cases h2
   refine .inr (.inr ⟨_,cs,rfl,hob,?_⟩)
   rcases List.mem_cons.1 hc with h3|h3
   ·exact .inl h3
   ·exact .inr (closeLs_src h1 c h3)
  ·cases h
 ·cases h;cases hc
 ·obtain⟨l1,h1,h2⟩:=Option.map_eq_some_iff.1 h
  cases h2;cases hc
 ·obtain⟨⟨l1,os⟩,h1,h2⟩:=Option.map_eq_some_iff.1 h
  cases h2
  exact .inl (closeL_src h1 c hc)
theorem closeArgs_src {ob:List (Nat×Obj)}: ∀ {xs:List AV} {ls:List Arg} {ids:List Nat},closeArgs ob xs=some (ls,ids)-> ∀c∈ids,∃z∈xs,Src ob z c
 |[],ls,ids,h=>by simp only[closeArgs,Option.some.injEq,Prod.mk.injEq]at h;obtain⟨rfl,rfl⟩:=h;simp
 |x::xs,ls,ids,h=>by
  simp only[closeArgs]at h
  split at h
  case h_2=>cases h
  rename_i h1 h2
  simp only[Option.some.injEq,Prod.mk.injEq]at h
  obtain⟨rfl,rfl⟩:=h
  intro c hc
  rcases List.mem_append.1 hc with h3|h3
  ·exact⟨x,List.mem_cons_self,closeArg_src h1 c h3⟩
  ·obtain⟨z,h4,h5⟩:=closeArgs_src h2 c h3
   exact⟨z,List.mem_cons_of_mem _ h4,h5⟩
theorem unflat_mem: ∀ {sh:List (Option Nat)} {ys:List AV} {z:AV},z∈unflatA sh ys->(∃l,z= .agg l/\ ∀y∈l,y∈ys)\/z∈ys\/z= .dead
 |[],ys,z,h=>by cases h
 |some n::sh,ys,z,h=>by
  simp only[unflatA]at h
  rcases List.mem_cons.1 h with rfl|h
  ·exact .inl ⟨_,rfl,fun y hy=>List.mem_of_mem_take hy⟩
  ·rcases unflat_mem h with ⟨l,h1,h2⟩|h1|h1
   ·exact .inl ⟨l,h1,fun y hy=>List.mem_of_mem_drop (h2 y hy)⟩
   ·exact .inr (.inl (List.mem_of_mem_drop h1))
   ·exact .inr (.inr h1)
 |none::sh,ys,z,h=>by
  simp only[unflatA]at h
  rcases List.mem_cons.1 h with rfl|h
  ·cases ys with
   |nil=>exact .inr (.inr rfl)
   |cons y ys=>exact .inr (.inl List.mem_cons_self)
  ·have ht: ∀ {y},y∈ys.tail->y∈ys:=fun h=>List.mem_of_mem_tail h
   rcases unflat_mem h with ⟨l,h1,h2⟩|h1|h1
   ·exact .inl ⟨l,h1,fun y hy=>ht (h2 y hy)⟩
   ·exact .inr (.inl (ht h1))
   ·exact .inr (.inr h1)
theorem lendL_src {ob:List (Nat×Obj)} {m:Nat} {x y:AV} {os:List Nat} (h:lendL ob m x=some (y,os)) (hy:(∃c p,y= .ref c p)\/ ∃b j,y= .pb b j):m≠0/\x=y:=by
 unfold lendL at h
 split at h
 ·exfalso
  split at h
  ·cases h;rcases hy with ⟨_,_,h⟩|⟨_,_,h⟩<;>cases h
  ·cases h;rcases hy with ⟨_,_,h⟩|⟨_,_,h⟩<;>cases h
  ·obtain⟨_,_,h2⟩:=Option.map_eq_some_iff.1 h
   cases h2;rcases hy with ⟨_,_,h⟩|⟨_,_,h⟩<;>cases h
  ·obtain⟨_,_,h2⟩:=Option.map_eq_some_iff.1 h
   cases h2;rcases hy with ⟨_,_,h⟩|⟨_,_,h⟩<;>cases h
  ·obtain⟨_,_,h2⟩:=Option.map_eq_some_iff.1 h
   cases h2;rcases hy with ⟨_,_,h⟩|⟨_,_,h⟩<;>cases h
 ·unfold ownL at h
  split at h
  ·cases h;exact⟨by decide,rfl⟩
  ·cases h
 ·unfold ownL at h
  split at h
  ·cases h;exact⟨by decide,rfl⟩
  ·cases h
 ·exfalso
  obtain⟨_,_,h2⟩:=Option.map_eq_some_iff.1 h
  cases h2;rcases hy with ⟨_,_,h⟩|⟨_,_,h⟩<;>cases h
theorem lendLs_src {ob:List (Nat×Obj)}: ∀ {ms:List Nat} {xs ys:List AV} {os:List Nat},lendLs ob ms xs=some (ys,os)-> ∀ (i:Nat) y,ys[i]? =some y->((∃c p,y= .ref c p)\/ ∃b j,y= .pb b j)->
  ∃m,ms[i]? =some m/\m≠0/\xs[i]? =some y
 |ms,[],ys,os,h,i,y,hy,_=>by
  simp only[lendLs,Option.some.injEq,Prod.mk.injEq]at h
  obtain⟨rfl,rfl⟩:=h
  simp at hy
 |ms,x::xs,ys,os,h,i,y,hy,hk=>by
  simp only[lendLs]at h
  split at h
  case h_2=>cases h
  rename_i y1 os1 m qs h1 h2
  simp only[Option.some.injEq,Prod.mk.injEq]at h
  obtain⟨rfl,rfl⟩:=h
  cases i with
  |zero=>
   simp at hy
   subst hy
   obtain⟨g1,g2⟩:=lendL_src h1 hk
   cases ms with
   |nil=>exact absurd rfl g1
   |cons m ms=>exact⟨m,rfl,g1,by simp[g2]⟩
  |succ i=>
   obtain⟨m',g1,g2,g3⟩:=lendLs_src h2 i y (by simpa using hy) hk
   cases ms with
   |nil=>simp at g1
   |cons m0 ms=>exact⟨m',by simpa using g1,g2,by simpa using g3⟩
def BoxNo (os:List (Nat×Obj)):Prop:= ∀x∈os,∀c,x.2= .box c->noImL c=true
theorem BoxNo.nil:BoxNo []:=fun x h=>by cases h
theorem BoxNo.append {l l':List (Nat×Obj)} (h:BoxNo l) (h':BoxNo l'):BoxNo (l++l'):=fun x hx=>by
 rcases List.mem_append.1 hx with h1|h1
 ·exact h x h1
 ·exact h' x h1
theorem BoxNo.cons {x:Nat×Obj} {l:List (Nat×Obj)} (h: ∀c,x.2= .box c->noImL c=true) (h':BoxNo l):BoxNo (x::l):=fun y hy=>by
 rcases List.mem_cons.1 hy with h1|h1
 ·rw[h1];exact h
 ·exact h' y h1
theorem BoxNo.get {os:List (Nat×Obj)} (h:BoxNo os) {j:Nat} {c:List AV} (hj:getO os j= .box c):noImL c=true:=by
 induction os with
 |nil=>cases hj
 |cons x os ih=>
  obtain⟨n,y⟩:=x
  simp only[getO]at hj
  split at hj
  ·exact h (n,y) List.mem_cons_self c hj
  ·exact ih (fun z hz=>h z (List.mem_cons_of_mem _ hz)) hj
theorem openLs_no: ∀ {ls:List L} {n:Nat},ls.any imL=false->noImL (openLs n ls).1=true/\BoxNo (openLs n ls).2.1
 |[],n,_=>⟨rfl,BoxNo.nil⟩
 |l::ls,n,h=>by
  simp only[List.any_cons,Bool.or_eq_false_iff]at h
  cases l with
  |sc v=>obtain⟨g1,g2⟩:=openLs_no (n:=n) h.2;exact⟨by simp[openLs,noImL,noIm,g1],by simpa[openLs]using g2⟩
  |nil k=>obtain⟨g1,g2⟩:=openLs_no (n:=n) h.2;exact⟨by simp[openLs,noImL,noIm,g1],by simpa[openLs]using g2⟩
  |im k r=>simp[imL]at h
  |al i k r=>obtain⟨g1,g2⟩:=openLs_no (n:=n) h.2;exact⟨by simp[openLs,noImL,noIm,g1],by simpa[openLs]using g2⟩
  |own k r=>
   obtain⟨g1,g2⟩:=openLs_no (n:=n+1) h.2
   exact⟨by simp[openLs,noImL,noIm,g1],by simp only[openLs];exact BoxNo.cons (fun c h=>by cases h) g2⟩
theorem openRV_no {r:RV} {n:Nat} (h:imRV r=false):noIm (openRV n r).1=true/\BoxNo (openRV n r).2.1:=by
 cases r with
 |v l=>
  obtain⟨g1,g2⟩:=openLs_no (ls:=[l]) (n:=n) (by simpa[imRV]using h)
  refine⟨?_,by simpa[openRV,openArg]using g2⟩
  simp only[openRV,openArg]
  cases hl:(openLs n [l]).1 with
  |nil=>rfl
  |cons y l=>rw[hl]at g1;simp[noImL]at g1;simpa using g1.1
 |a ls=>
  obtain⟨g1,g2⟩:=openLs_no (ls:=ls) (n:=n) (by simpa[imRV]using h)
  exact⟨by simpa[openRV,openArg,noIm]using g1,by simpa[openRV,openArg]using g2⟩
 |p ls=>
  obtain⟨g1,g2⟩:=openLs_no (ls:=ls) (n:=n+1) (by simpa[imRV]using h)
  exact⟨by simp[openRV,openArg,noIm],by simp only[openRV,openArg];exact BoxNo.cons (fun c h=>by cases h;exact g1) g2⟩
theorem openRVs_no: ∀ {rs:List RV} {n:Nat},rs.any imRV=false->noImL (openRVs n rs).1=true/\BoxNo (openRVs n rs).2.1
 |[],n,_=>⟨rfl,BoxNo.nil⟩
 |r::rs,n,h=>by
  simp only[List.any_cons,Bool.or_eq_false_iff]at h
  obtain⟨g1,g2⟩:=openRV_no (n:=n) h.1
  obtain⟨y1,y2⟩:=openRVs_no (n:=(openRV n r).2.2) h.2
  exact⟨by simp[openRVs,noImL,g1,y1],by simp only[openRVs];exact g2.append y2⟩
theorem exitF_no (os:List (Nat×Obj)): ∀ (is:List Nat) (fs:List (Option (List (List T)))),BoxNo (exitF os is fs)
 |[],_=>by simp only[exitF];exact BoxNo.nil
 |i::is,[]=>by simp only[exitF];exact BoxNo.nil
 |i::is,none::fs=>by simp only[exitF];exact exitF_no os is fs
 |i::is,some rows::fs=>by
  simp only[exitF]
  split
  ·exact BoxNo.cons (fun c h=>by cases h) (exitF_no os is fs)
  ·exact exitF_no os is fs
theorem exitB_no: ∀ {bs:List Nat} {lss:List (List L)} {n:Nat},(lss.any fun ls=>ls.any imL)=false->BoxNo (exitB n bs lss).1
 |[],_,n,_=>by simp only[exitB];exact BoxNo.nil
 |b::bs,[],n,_=>by simp only[exitB];exact BoxNo.nil
 |b::bs,ls::lss,n,h=>by
  simp only[List.any_cons,Bool.or_eq_false_iff]at h
  obtain⟨g1,g2⟩:=openLs_no (n:=n) h.1
  simp only[exitB]
  exact BoxNo.cons (fun c h=>by cases h;exact g1) (g2.append (exitB_no h.2))
theorem exitO_no {args:List Arg} {r:Res} (h:(r.out.any imRV||r.pfin.any fun ls=>ls.any imL)=false):noIm (one (exitO args r).1)=true/\BoxNo (exitO args r).2:=by
 simp only[Bool.or_eq_false_iff]at h
 simp only[exitO]
 obtain⟨g1,g2⟩:=openRVs_no (n:=(exitB (openArgs 0 0 args).2.2 (ownIds 0 args).2 r.pfin).2) h.1
 refine⟨?_,((exitF_no _ _ _).append (exitB_no h.2)).append g2⟩
 generalize (openRVs (exitB (openArgs 0 0 args).2.2 (ownIds 0 args).2 r.pfin).2 r.out).1=l at g1
 match l,g1 with
 |[],_=>rfl
 |[x],g1=>simpa[noImL,one]using g1
 |x::y::l,g1=>exact g1
def BoxAl (os:List (Nat×Obj)):Prop:= ∀x∈os,∀c,x.2= .box c->noAlL c=true
theorem BoxAl.nil:BoxAl []:=fun x h=>by cases h
theorem BoxAl.append {l l':List (Nat×Obj)} (h:BoxAl l) (h':BoxAl l'):BoxAl (l++l'):=fun x hx=>by
 rcases List.mem_append.1 hx with h1|h1
 ·exact h x h1
 ·exact h' x h1
theorem BoxAl.cons {x:Nat×Obj} {l:List (Nat×Obj)} (h: ∀c,x.2= .box c->noAlL c=true) (h':BoxAl l):BoxAl (x::l):=fun y hy=>by
 rcases List.mem_cons.1 hy with h1|h1
 ·rw[h1];exact h
 ·exact h' y h1
theorem BoxAl.get {os:List (Nat×Obj)} (h:BoxAl os) {j:Nat} {c:List AV} (hj:getO os j= .box c):noAlL c=true:=by
 induction os with
 |nil=>cases hj
 |cons x os ih=>
  obtain⟨n,y⟩:=x
  simp only[getO]at hj
  split at hj
  ·exact h (n,y) List.mem_cons_self c hj
  ·exact ih (fun z hz=>h z (List.mem_cons_of_mem _ hz)) hj
theorem openLs_bal: ∀ (ls:List L) (n:Nat),BoxAl (openLs n ls).2.1
 |[],n=>BoxAl.nil
 | .sc v::ls,n=>by simpa[openLs]using openLs_bal ls n
 | .nil v::ls,n=>by simpa[openLs]using openLs_bal ls n
 | .im k r::ls,n=>by simpa[openLs]using openLs_bal ls n
 | .al i k r::ls,n=>by simpa[openLs]using openLs_bal ls n
 | .own k r::ls,n=>by simp only[openLs];exact BoxAl.cons (fun c h=>by cases h) (openLs_bal ls (n+1))
theorem openLs_al: ∀ {ls:List L} {n:Nat},ls.any alL=false->noAlL (openLs n ls).1=true
 |[],n,_=>rfl
 |l::ls,n,h=>by
  simp only[List.any_cons,Bool.or_eq_false_iff]at h
  cases l with
  |al i k r=>simp[alL]at h
  |own k r=>have:=openLs_al (n:=n+1) h.2;simp[openLs,noAlL,noAl,this]
  |_=>have:=openLs_al (n:=n) h.2;simp[openLs,noAlL,noAl,this]
theorem openRV_bal {r:RV} {n:Nat} (h:alRV r=false):BoxAl (openRV n r).2.1:=by
 cases r with
 |v l=>simpa[openRV,openArg]using openLs_bal [l] n
 |a ls=>simpa[openRV,openArg]using openLs_bal ls n
 |p ls=>simp only[openRV,openArg];exact BoxAl.cons (fun c h1=>by cases h1;exact openLs_al h) (openLs_bal ls (n+1))
theorem openRVs_bal: ∀ {rs:List RV} {n:Nat},rs.any alRV=false->BoxAl (openRVs n rs).2.1
 |[],n,_=>BoxAl.nil
 |r::rs,n,h=>by
  simp only[List.any_cons,Bool.or_eq_false_iff]at h
  simp only[openRVs];exact(openRV_bal h.1).append (openRVs_bal h.2)
theorem exitF_bal (os:List (Nat×Obj)): ∀ (is:List Nat) (fs:List (Option (List (List T)))),BoxAl (exitF os is fs)
 |[],_=>by simp only[exitF];exact BoxAl.nil
 |i::is,[]=>by simp only[exitF];exact BoxAl.nil
 |i::is,none::fs=>by simp only[exitF];exact exitF_bal os is fs
 |i::is,some rows::fs=>by
  simp only[exitF]
  split
  ·exact BoxAl.cons (fun c h=>by cases h) (exitF_bal os is fs)
  ·exact exitF_bal os is fs
theorem exitB_bal: ∀ {bs:List Nat} {lss:List (List L)} {n:Nat},(lss.any fun ls=>ls.any alL)=false->BoxAl (exitB n bs lss).1
 |[],_,n,_=>by simp only[exitB];exact BoxAl.nil
 |b::bs,[],n,_=>by simp only[exitB];exact BoxAl.nil
 |b::bs,ls::lss,n,h=>by
  simp only[List.any_cons,Bool.or_eq_false_iff]at h
  have g1:=openLs_al (n:=n) h.1
  have g2:=openLs_bal ls n
  simp only[exitB]
  exact BoxAl.cons (fun c h=>by cases h;exact g1) (g2.append (exitB_bal h.2))
theorem exitO_bal {args:List Arg} {r:Res} (h:(r.out.any alRV||r.pfin.any fun ls=>ls.any alL)=false):BoxAl (exitO args r).2:=by
 simp only[Bool.or_eq_false_iff]at h
 simp only[exitO]
 exact((exitF_bal _ _ _).append (exitB_bal h.2)).append (openRVs_bal h.1)
theorem tkList_keys {α β:Type}: ∀ {ys:List AV} {xs:List α} {us:List β},xs.length=us.length->tkKeys (tkList ys xs)=tkKeys (tkList ys us)
 |[],xs,us,_=>rfl
 |y::ys,[],[],_=>by cases y<;>rfl
 |y::ys,[],u::us,h=>by cases h
 |y::ys,x::xs,[],h=>by cases h
 |y::ys,x::xs,u::us,h=>by
  have ih:=tkList_keys (ys:=ys) (xs:=xs) (us:=us) (by simpa using h)
  cases y<;>simp[tkList,tkKeys,ih]
theorem tkGet_mem {α:Type}: ∀ {ys:List AV} {xs:List α} {j:Nat} {x:α},tkGet (tkList ys xs) j=some x-> ∃ (i:Nat) (k:Nat) (r:List (List T)),ys[i]? =some (.al j k r)/\xs[i]? =some x
 |[],xs,j,x,h=>by simp[tkList,tkGet]at h
 |y::ys,[],j,x,h=>by cases y<;>simp[tkList,tkGet]at h
 |y::ys,x0::xs,j,x,h=>by
  have next:tkGet (tkList ys xs) j=some x-> ∃ (i:Nat) (k:Nat) (r:List (List T)),(y::ys)[i]? =some (.al j k r)/\(x0::xs)[i]? =some x:=fun h=>by
   obtain⟨i,k,r,h1,h2⟩:=tkGet_mem h
   exact⟨i+1,k,r,by simpa using h1,by simpa using h2⟩
  by_cases hy: ∃i k r,y= .al i k r
  ·obtain⟨i,k,r,rfl⟩:=hy
   simp only[tkList,tkGet]at h
   split at h
   ·rename_i hij
    subst hij
    cases h
    exact⟨0,k,r,rfl,rfl⟩
   ·exact next h
  ·cases y<;>first|exact next (by simpa[tkList]using h)|exact absurd ⟨_,_,_,rfl⟩ hy
theorem tkKeys_mem {α:Type}: ∀ {ys:List AV} {xs:List α} {i j k:Nat} {r:List (List T)} {x:α},ys[i]? =some (.al j k r)->xs[i]? =some x->j∈tkKeys (tkList ys xs)
 |[],xs,i,j,k,r,x,h,_=>by simp at h
 |y::ys,[],i,j,k,r,x,_,h=>by simp at h
 |y::ys,x0::xs,0,j,k,r,x,h,h2=>by
  simp at h;subst h;simp[tkList,tkKeys]
 |y::ys,x0::xs,i+1,j,k,r,x,h,h2=>by
  have ih:=tkKeys_mem (ys:=ys) (xs:=xs) (i:=i) (by simpa using h) (by simpa using h2)
  cases y<;>simp[tkList,tkKeys,ih]
theorem tkGet_at {α:Type}: ∀ {ys:List AV} {xs:List α} {i j k:Nat} {r:List (List T)} {x:α},(tkKeys (tkList ys xs)).Nodup->ys[i]? =some (.al j k r)->xs[i]? =some x->tkGet (tkList ys xs) j=some x
 |[],xs,i,j,k,r,x,_,h,_=>by simp at h
 |y::ys,[],i,j,k,r,x,_,_,h=>by simp at h
 |y::ys,x0::xs,0,j,k,r,x,hn,h,h2=>by
  simp at h h2;subst h;subst h2;simp[tkList,tkGet]
 |y::ys,x0::xs,i+1,j,k,r,x,hn,h,h2=>by
  have h:ys[i]? =some (.al j k r):=by simpa using h
  have h2:xs[i]? =some x:=by simpa using h2
  by_cases hy: ∃i0 k r,y= .al i0 k r
  ·obtain⟨i0,k0,r0,rfl⟩:=hy
   simp only[tkList,tkKeys]at hn
   obtain⟨n1,n2⟩:=List.nodup_cons.1 hn
   simp only[tkList,tkGet]
   have hne: ¬i0=j:=fun hh=>n1 (by rw[hh];exact tkKeys_mem h h2)
   rw[if_neg hne]
   exact tkGet_at n2 h h2
  ·cases y<;>first|exact absurd ⟨_,_,_,rfl⟩ hy|(simp only[tkList]at hn ⊢;exact tkGet_at hn h h2)
end Go.Proofs.YtbolhfegdocpeaaGreat.Ow
namespace Go.Proofs.YtbolhfegdocpeaaGreat.Ow
open Go
variable {P:Program} {fm fm0:Fm} {M:List Nat} {e e' e0:Env} {s s':St} {a:Act} {Q:Exit->Act->World->Prop}
variable {K:Nat->List Arg->Option Res} {md:Nat->List Nat}
structure CallM (ob:List (Nat×Obj)) (ms:List Nat) (xs:List AV) (base:Nat) (M:List Nat):Prop where
 fresh: ∀j,j<(flatA xs).length->base+j∈M
 place: ∀ (i:Nat) m x,ms[i]? =some m->m≠0->(flatA xs)[i]? =some x-> ∀o∈placeA x,o∈M
 box: ∀ (i:Nat) m b j,ms[i]? =some m->m≠0->(flatA xs)[i]? =some (.pb b j)->b∈M/\ ∀cells,getO ob b= .box cells-> ∀y∈cells,∀o∈placeA y,o∈M
theorem callA_ok (hR:Rel fm e s a) {d:Option Nat} {o f:Nat} {xs:List AV} {vs:List Value} (hK: ∀args r,K f args=some r->CallOk P f args r) (hlen:xs.length=vs.length)
  (hv: ∀ (i:Nat) x v,xs[i]? =some x->vs[i]? =some v->AvOk e x v) (hM:CallM s.ob (md f) xs o M) (h:callA K md s d o f xs=some s'):
  Calls P f vs.toArray e.w fun
   | .returned v,w'=> ∃e' s2 x,e'.w=w'/\Rel fm e' s2 a/\AvOk e' x v/\s2.put d x=some s'/\Evo e e' M
   |_,_=>False:=by
 unfold callA giveA at h
 split at h
 case h_2=>cases h
 rename_i g hg
 split at hg
 case h_2=>cases hg
 rename_i h1 hroots
 split at hg
 case h_2=>cases hg
 rename_i ys lent hlend
 split at hg
 case h_2=>cases hg
 rename_i args cs hclose
 split at hg
 case isFalse=>cases hg
 rename_i hchk
 simp only[Option.some.injEq]at hg
 subst hg
 simp only[Bool.and_eq_true]at hchk
 obtain⟨⟨⟨⟨c1,c5,c6⟩,c2⟩,c3⟩,c4⟩:=hchk
 have c6:args.any alArg=false:=by simpa using c6
 have hnd:=nodupB_iff c2
 have hap: ∀x∈lent,x∉cs:=fun x hx=>by have:=List.all_eq_true.1 c3 x hx;simpa using this
 have hpa: ∀x∈paObjs (h1.l.drop (flatA xs).length),x∉cs:=fun x hx=>by have:=List.all_eq_true.1 c4 x hx;simpa using this
 split at h
 case h_2=>cases h
 rename_i r hr
 split at h
 case h_2=>cases h
 rename_i v2 s2 htake
 unfold Given.take at htake
 split at htake
 case isFalse=>cases htake
 rename_i hchk2
 simp only[Bool.and_eq_true]at hchk2
 obtain⟨⟨⟨⟨k5,k1⟩,k2⟩,k3⟩,k4⟩:=hchk2
 have k5:(r.out.any alRV||r.pfin.any fun ls=>ls.any alL)=false:=by simpa using k5
 obtain⟨f1,f2⟩:=flat_ok hlen hv
 have hH:HRel fm e {s,l:=flatA xs} a (flatV xs vs):=⟨hR,f1,f2⟩
 obtain⟨e1,us1,y1,y2,y3,y4,y5,y6,y7,y8,y9⟩:=rootsM_ok (n:=(flatA xs).length) hH hroots (by simp;omega) (Nat.le_refl _) (by
  simp only[List.drop_length]
  rw[f1,List.drop_length]
  trivial)
 have hcsN: ∀o∈cs,e1.ob o≠ .none:=fun o ho=>by rw[y3.rel.ob];exact closeArgs_ids hclose o ho
 have hl1:(h1.l.take (flatA xs).length).length=(flatA xs).length:=by simp;omega
 have hv1: ∀ (i:Nat) x u,(h1.l.take (flatA xs).length)[i]? =some x->(flatV xs vs)[i]? =some u->AvOk e1 x u:=fun i x u hx hu=>by
  have hi:=(List.getElem?_eq_some_iff.1 hu).1
  rw[List.getElem?_take,if_pos (by omega)]at hx
  refine y3.ok i x u hx ?_
  have h2:(us1.take (flatA xs).length)[i]? =some u:=by rw[y4,List.getElem?_take,if_pos (by omega)];exact hu
  rw[List.getElem?_take,if_pos (by omega)]at h2
  exact h2
 let TT:Nat->Value:=fun j=>(tkGet (tkList ys (flatV xs vs)) j).getD (e1.tk j)
 have hkeys:(tkKeys (tkList ys (flatV xs vs))).Nodup:=by
  rw[←tkList_keys (ys:=ys) (xs:=h1.l.take (flatA xs).length) (us:=flatV xs vs) (hl1.trans f1)]
  exact nodupB_iff c5
 have hTT: ∀ (i:Nat) j k r u,ys[i]? =some (.al j k r)->(flatV xs vs)[i]? =some u->u=TT j:=fun i j k r u h1 h2=>by
  simp only[TT,tkGet_at hkeys h1 h2,Option.getD_some]
 have hzl:(unflatA (shapes xs) ys).length=vs.length:=by
  have hyl:ys.length=(flatV xs vs).length:=by
   have: ∀ {ms:List Nat} {xs ys:List AV} {os:List Nat},lendLs h1.s.ob ms xs=some (ys,os)->ys.length=xs.length:=by
    intro ms xs
    induction xs generalizing ms with
    |nil=>intro ys os h;simp only[lendLs,Option.some.injEq,Prod.mk.injEq]at h;rw[←h.1]
    |cons x xs ih=>
     intro ys os h
     simp only[lendLs]at h
     split at h
     case h_2=>cases h
     rename_i h2
     simp only[Option.some.injEq,Prod.mk.injEq]at h
     rw[←h.1]
     simp[ih h2]
   rw[this hlend,hl1,f1]
  have: ∀ (xs ys:List AV),(unflatA (shapes xs) ys).length=xs.length:=by
   intro xs
   induction xs with
   |nil=>intro ys;rfl
   |cons x xs ih=>intro ys;cases x<;>simp[shapes,unflatA,ih]
  rw[this,hlen]
 obtain⟨fm0,e0,z1,zT,z2,z3,z4,z5,z6,z7⟩:=enter_ok y3.rel TT hclose hnd hap hzl (fun o ho c hb=>closeArgs_al hclose c6 o ho c (by rw[←y3.rel.ob];exact hb)) (fun {e0 f'} hz htk hC i z v hzi hvi=>by
  obtain⟨q1,q2⟩:=lendLs_ok y3.rel hz hC hv1 hlend (fun o ho=>ho) (fun i j k r u h1 h2=>by rw[htk];exact hTT i j k r u h1 h2)
  obtain⟨q3,q4⟩:=unflat_ok (e0:=e0) (ys:=mvL f' ys) hlen hv (by rw[mvL_eq,List.length_map,q1,hl1,f1]) (fun j y u hy hu=>by
   rw[mvL_eq,List.getElem?_map]at hy
   cases hyj:ys[j]? with
   |none=>simp[hyj]at hy
   |some y0=>simp[hyj]at hy;subst hy;exact q2 j y0 u hyj hu)
  refine q4 i (z.mv f') v ?_ hvi
  rw[←mvL_unflat,mvL_eq,List.getElem?_map,hzi];rfl)
 have hcall:=hK args r hr fm0 e0 vs z1
 rw[z3,y1]at hcall
 refine Calls.mono hcall fun en w' hpost=> ?_
 cases en with
 |panicked _=>exact hpost
 |outgrown=>exact hpost
 |returned v=>
 obtain⟨e',hw',hx⟩:=hpost
 have hno:lent=[]\/(r.out.any imRV||r.pfin.any fun ls=>ls.any imL)=false:=by
  simp only[Bool.or_eq_true,List.isEmpty_iff,Bool.not_eq_true']at k1
  exact k1
 have harrinv: ∀ {X:Obj} {f':Nat->Option Nat} {k:Nat} {r0:List (List T)},X.mv f'= .arr k r0->X= .arr k r0:=fun {X} {_} {_} {_} h=>by cases X<;>simp[Obj.mv]at h;simp[h]
 have hboxinv: ∀ {X:Obj} {f':Nat->Option Nat} {c:List AV},X.mv f'= .box c-> ∃c0,X= .box c0:=fun {X} {_} {_} h=>by cases X<;>simp[Obj.mv]at h;exact⟨_,rfl⟩
 have hlt: ∀ {j:Nat} {o:Nat},cs[j]? =some o->j<(openArgs 0 0 args).2.2:=fun h=>by rw[z6];exact(List.getElem?_eq_some_iff.1 h).1
 obtain⟨e2,m1,m2,m3,m4,m5,m6,m7⟩:=merge_ok (base:=o+40) y3.rel hnd hcsN k4 hx.mem z2 z4 z5 hx.ob
  (fun j o k rows hj ho=>by
   obtain⟨q1,r0,q2⟩:=hx.hd j k rows (hlt hj) ho
   obtain⟨p1,p2,f',p3⟩:=z7 j o hj
   exact⟨q1.trans p1,r0,harrinv (p3 ▸ q2)⟩)
  (fun j o c0 hj ho=>by
   obtain⟨p1,p2,f',p3⟩:=z7 j o hj
   obtain⟨c,q1,q2⟩:=hx.bk j (mvL f' c0) (hlt hj) (by rw[p3,ho];rfl)
   exact⟨c,q1,q2.trans p2⟩)
  (fun j o c hj ho=>by
   obtain⟨c0,q1⟩:=hx.bx j c (hlt hj) ho
   obtain⟨p1,p2,f',p3⟩:=z7 j o hj
   exact hboxinv (p3 ▸ q1))
  (hno.imp id fun h j c hj=>by rw[hx.ob]at hj;exact(exitO_no h).2.get hj)
  (fun j c hj=>by rw[hx.ob]at hj;exact(exitO_bal k5).get hj)
 have hul:us1.length=h1.l.length:=y3.len.symm
 have hH2:HRel fm e2 {s:=Given.merge {s:=h1.s,bk:=h1.l.drop (flatA xs).length,lent,args,cs,tks:=tkList ys (h1.l.take (flatA xs).length)} (o+40) (exitO args r).2,l:=(one (exitO args r).1).mvt (backN cs (o+40)) (tkBack (afterF cs (exitO args r).2) (tkList ys (h1.l.take (flatA xs).length)))::subL (afterF cs (exitO args r).2) (h1.l.drop (flatA xs).length)} a (v::us1.drop (flatA xs).length):=by
  refine⟨m2,by simp[subL_eq,hul],fun i x u hxi hui=> ?_⟩
  cases i with
  |zero=>
   simp at hxi hui
   subst hxi;subst hui
   refine hx.val.mvt m3 (fun j hj=> ?_) (hno.elim (fun h=> .inr (m4 h)) fun h=> .inl (exitO_no h).1)
   have htj:e'.tk j=TT j:=by rw[hx.mem.tk,zT]
   unfold tkBack
   cases hg:tkGet (tkList ys (h1.l.take (flatA xs).length)) j with
   |none=>exact .dead _ hj
   |some x0=>
    obtain⟨i,k,r,q1,q2⟩:=tkGet_mem hg
    have hi:i<(flatV xs vs).length:=by rw[←f1,←hl1];exact(List.getElem?_eq_some_iff.1 q2).1
    have:=hTT i j k r _ q1 (List.getElem?_eq_getElem hi)
    rw[htj,←this]
    exact(hv1 i x0 _ q2 (List.getElem?_eq_getElem hi)).sub m5
  |succ i=>
   simp only[List.getElem?_cons_succ]at hxi hui
   rw[subL_eq,List.getElem?_map]at hxi
   cases hxi':(h1.l.drop (flatA xs).length)[i]? with
   |none=>simp[hxi']at hxi
   |some x0=>
    simp[hxi']at hxi
    subst hxi
    rw[List.getElem?_drop]at hxi' hui
    exact(y3.ok _ x0 u hxi' hui).sub m5
 have hpairs:Pairs e2.w (subL (afterF cs (exitO args r).2) (h1.l.drop (flatA xs).length)) (us1.drop (flatA xs).length):=by
  refine y6.sub fun i o' q i' j' u hxi hui hne ad hu=> ?_
  have hmem:o'∈paObjs (h1.l.drop (flatA xs).length):=by
   have: ∀ {l:List AV} {i:Nat},l[i]? =some (.pa o' q i' j')->o'∈paObjs l:=by
    intro l
    induction l with
    |nil=>intro i h;simp at h
    |cons y l ih=>
     intro i h
     cases i with
     |zero=>simp at h;subst h;simp[paObjs]
     |succ i=>
      have:=ih (i:=i) (by simpa using h)
      cases y<;>simp[paObjs,this]
   exact this hxi
  rw[List.getElem?_drop]at hxi hui
  have hok:=y3.ok _ _ u hxi hui
  subst hu
  cases hok with
  |pa _ _ _ _ k b off nn c rows hn hh hc=>
  have hblk:e1.blk (.nd o' q)=some b:=blk_nd_of hn (by rw[hh];simp[blkOf,hc])
  have hb:=(y3.rel.mem.own _ b hblk).1
  rw[←y1]
  exact cell_congr (m7 b hb fun l hl=>by rw[y3.rel.mem.inj l _ b hl hblk];exact hpa o' hmem)
 obtain⟨e3,b1,b2,b3,b4,b5⟩:=backA_ok hH2 hpairs htake
 refine⟨e3,s2,v2,b1.trans (m1.trans hw'),b2,b3,h,by rw[b1,←y1];exact m6,fun b hb hl=> ?_⟩
 rw[b1,←y1]
 refine m7 b (by rw[y1];exact hb) fun l hl1 hc=> ?_
 obtain⟨i1,i2,i3⟩:=y9 (e0:=e) (A:=fun o=>o∈M) (N:=fun o=>o∈M) (fun l b h1 h2=>⟨l,h1,h2⟩) (fun j hj=>hM.fresh j (by simp at hj;omega)) (fun j x hj hx o' ho'=>by
  simp only[Nat.zero_add]at hx
  rw[List.getElem?_take]at hj
  split at hj
  ·exact hM.place j 1 x hj (by decide) hx o' ho'
  ·cases hj)
 suffices hcM:l.obj∈M by
  obtain⟨l0,q1,q2⟩:=i1 l b hl1 hcM
  exact hl l0 q1 q2
 have leafM: ∀y∈ys,(y= .ref l.obj []->l.obj∈M)/\ ∀b' cells,y= .pb b' 0->getO h1.s.ob b'= .box cells->(l.obj=b'\/ .ref l.obj []∈cells)->l.obj∈M:=by
  intro y hy
  obtain⟨i,hi⟩:=List.mem_iff_getElem?.1 hy
  refine⟨fun hyr=> ?_,fun b' cells hyb hbox hor=> ?_⟩
  ·obtain⟨m,q1,q2,q3⟩:=lendLs_src hlend i y hi (.inl ⟨_,_,hyr⟩)
   rw[List.getElem?_take]at q3
   split at q3
   case isFalse=>cases q3
   rename_i hin
   obtain⟨x,q4,q5,_⟩:=i2 i y hin q3
   rcases q5 l.obj (by rw[hyr];simp[placeA])with q6|q6
   ·exact hM.place i m x q1 q2 q4 _ q6
   ·exact q6
  ·obtain⟨m,q1,q2,q3⟩:=lendLs_src hlend i y hi (.inr ⟨_,_,hyb⟩)
   rw[List.getElem?_take]at q3
   split at q3
   case isFalse=>cases q3
   rename_i hin
   obtain⟨x,q4,_,q5⟩:=i2 i y hin q3
   have hxy:=q5 b' 0 hyb
   rw[hxy,hyb]at q4
   obtain⟨p1,p2⟩:=hM.box i m b' 0 q1 q2 q4
   rcases hor with q6|q6
   ·rw[q6];exact p1
   ·obtain⟨cells0,p3,p4⟩:=i3 b' cells hbox
    obtain⟨j,hj⟩:=List.mem_iff_getElem?.1 q6
    obtain⟨x0,p5,p6⟩:=p4 j _ hj
    rcases p6 l.obj (by simp[placeA])with p7|p7
    ·exact p2 cells0 p3 x0 (List.mem_of_getElem? p5) _ p7
    ·exact p7
 have hone: ∀y∈ys,oneCell y=true:=fun y hy=>List.all_eq_true.1 c1 y hy
 obtain⟨z,hz,hsrc⟩:=closeArgs_src hclose l.obj hc
 rcases unflat_mem hz with ⟨l',hz1,hz2⟩|hz1|hz1
 ·rcases hsrc with hs|⟨l'',hs,hs2⟩|⟨b',cells,hs,_⟩
  ·rw[hs]at hz1;cases hz1
  ·rw[hs]at hz1
   cases hz1
   exact(leafM _ (hz2 _ hs2)).1 rfl
  ·rw[hs]at hz1;cases hz1
 ·rcases hsrc with hs|⟨l'',hs,hs2⟩|⟨b',cells,hs,hs2,hs3⟩
  ·exact(leafM z hz1).1 hs
  ·have:=hone z hz1
   rw[hs]at this
   cases this
  ·exact(leafM z hz1).2 b' cells hs hs2 hs3
 ·rcases hsrc with hs|⟨l'',hs,hs2⟩|⟨b',cells,hs,_⟩<;>(rw[hs]at hz1;cases hz1)
end Go.Proofs.YtbolhfegdocpeaaGreat.Ow
namespace Go.Proofs.YtbolhfegdocpeaaGreat.Ow
open Go
variable {P:Program} {fm fm0:Fm} {M:List Nat} {e e' e0:Env} {s s':St} {a:Act} {Q:Exit->Act->World->Prop}
variable {K:Nat->List Arg->Option Res} {md:Nat->List Nat}
def Enters (P:Program) (f:Nat):Prop:= ∃fn,P.funcs[f]? =some fn/\fn.name≠ "runtime.NumGoroutine" /\fn.body≠none
def KOk (P:Program) (K:Nat->List Arg->Option Res):Prop:= ∀f args r,K f args=some r->Enters P f/\CallOk P f args r
theorem callFunc_run {f:Nat} (h:Enters P f) (args:Array Value) (w:World):(callFunc f args).run P w= .ok (.enter f args) w:=by
 obtain⟨fn,h1,h2,h3⟩:=h
 simp[callFunc,h1,h2,h3]
theorem callA_K {d:Option Nat} {o f:Nat} {xs:List AV} (h:callA K md s d o f xs=some s'): ∃args r,K f args=some r:=by
 unfold callA at h
 split at h
 case h_2=>cases h
 split at h
 case h_2=>cases h
 rename_i hr
 exact⟨_,_,hr⟩
theorem call_wp (hR:Rel fm e s a) {o:Oper} {f base:Nat} {xs:List AV} {vs:List Value} (hK:KOk P K) (hrun:Enters P f->(execOp a.eval o).run P e.w= .ok (.enter f vs.toArray) e.w) (hlen:xs.length=vs.length)
  (hv: ∀ (i:Nat) x v,xs[i]? =some x->vs[i]? =some v->AvOk e x v) (hM:CallM s.ob (md f) xs base M) (h:callA K md s o.dst base f xs=some s'):o.wp P a e.w (Reach fm e M s') Q:=by
 obtain⟨args,r,hr⟩:=callA_K h
 unfold Oper.wp
 rw[hrun (hK f args r hr).1,Oper.upon_enter]
 refine Calls.mono (callA_ok hR (fun args r hr=>(hK f args r hr).2) hlen hv hM h) fun en w' hp=> ?_
 cases en with
 |panicked _=>exact hp.elim
 |outgrown=>exact hp.elim
 |returned v=>
  obtain⟨e',s2,x,h1,h2,h3,h4,h5⟩:=hp
  exact⟨e',h1,h2.put h3 h4,h5⟩
theorem op_call (hR:Rel fm e s a) {o:Oper} {c:Call} {f base:Nat} {Xs:List X} (hK:KOk P K) (ho:o.op= .call c) (hc:c.callee= .value (.func f)) (hxs:xsOf P c.argTypes.toList c.args.toList=some Xs)
  (hM:CallM s.ob (md f) (Xs.map (ev s.tm)) base M) (h:stepI K md s o.dst (.call base f Xs)=some s'):o.wp P a e.w (Reach fm e M s') Q:=by
 simp only[stepI]at h
 obtain⟨h1,h2⟩:=xsOf_ok hR hxs
 refine call_wp hR (vs:=c.args.toList.map a.eval) hK (fun hE=> ?_) h1 h2 hM h
 have hargs:(c.args.toList.map a.eval).toArray=c.args.map a.eval:=by rw[←Array.toList_map]
 simp only[execOp,ho,resolve,hc,Act.eval,Deferred.ofValue,hargs]
 simp[invoke,callFunc_run hE]
theorem op_callv (hR:Rel fm e s a) {o:Oper} {c:Call} {t base:Nat} {Xs:List X} (hK:KOk P K) (ho:o.op= .call c) (hc:c.callee= .value (.tmp t)) (hxs:xsOf P c.argTypes.toList c.args.toList=some Xs)
  (hM: ∀f caps,getT s.tm t= .clo f caps->CallM s.ob (md f) (Xs.map (ev s.tm)++caps) base M) (h:stepI K md s o.dst (.callv base (.t t) Xs)=some s'):o.wp P a e.w (Reach fm e M s') Q:=by
 simp only[stepI,ev]at h
 split at h
 case h_2=>cases h
 rename_i f caps hf
 obtain⟨h1,h2⟩:=xsOf_ok hR hxs
 have ht:=hR.tm t
 rw[hf]at ht
 generalize hu:a.tmps.getD t undef=u at ht
 cases ht with
 |clo _ _ us hlen hok=>
 refine call_wp hR (vs:=c.args.toList.map a.eval++us) hK (fun hE=> ?_) (by simp only[List.length_append,hlen,h1]) (fun i x v hx hv=> ?_) (hM f caps hf) h
 ·have hargs:(c.args.toList.map a.eval++us).toArray=c.args.map a.eval++us.toArray:=by simp
  have hev:a.eval (.tmp t)= .func (.func f) #[] us.toArray:=hu
  simp only[execOp,ho,resolve,hc,hev,Deferred.ofValue,hargs]
  simp[invoke,callFunc_run hE]
 ·rw[List.getElem?_append]at hx hv
  rw[h1]at hx
  split at hx
  ·rename_i hi;rw[if_pos hi]at hv;exact h2 i x v hx hv
  ·rename_i hi;rw[if_neg hi]at hv;exact hok _ x v hx hv
end Go.Proofs.YtbolhfegdocpeaaGreat.Ow
namespace Go.Proofs.YtbolhfegdocpeaaGreat.Ow
open Go
variable {P:Program} {fm fm0:Fm} {M:List Nat} {e e' e0:Env} {s s':St} {a:Act} {Q:Exit->Act->World->Prop}
variable {K:Nat->List Arg->Option Res} {md:Nat->List Nat}
theorem root_len {h h':Hand} {i k:Nat} (hr:h.root i k=some h'):i<h.l.length:=by
 unfold Hand.root at hr
 cases hi:h.l[i]? with
 |none=>simp[hi]at hr
 |some x=>exact(List.getElem?_eq_some_iff.1 hi).1
theorem rootsAt_ok {us:List Value}: ∀ {l:List Nat} {base:Nat} {e:Env} {h h':Hand},HRel fm e h a us->h.rootsAt base l=some h'->
  ∃e',e'.w=e.w/\e'.Im=e.Im/\HRel fm e' h' a us/\h'.s.n=h.s.n/\h'.s.m=h.s.m/\
   ∀ {e0:Env} {A N:Nat->Prop},RootInv e0 e A N->(∀j,j<l.length->N (base+j))->(∀i∈l,∀x,h.l[i]? =some x-> ∀o∈placeA x,N o)->RootInv e0 e' A N
 |[],base,e,h,h',hH,hr=>by
  simp only[Hand.rootsAt,Option.some.injEq]at hr
  subst hr
  exact⟨e,rfl,rfl,hH,rfl,rfl,fun hI _ _=>hI⟩
 |i::l,base,e,h,h',hH,hr=>by
  simp only[Hand.rootsAt]at hr
  split at hr
  case h_2=>cases hr
  rename_i h1 hroot
  obtain⟨e1,g1,g2,g3,g4,g5,g6,g7,_,g8⟩:=root_foot hH hroot
  obtain⟨e2,y1,y2,y3,y4,y5,y6⟩:=rootsAt_ok g3 hr
  refine⟨e2,y1.trans g1,y2.trans g2,y3,y4.trans g4,y5.trans g5,fun hI hN hp=> ?_⟩
  refine y6 (g8 hI fun x hx o ho=>hp i List.mem_cons_self x hx o ho) (fun j hj=>by have:=hN (j+1) (by simpa using hj);rwa [show base+1+j=base+(j+1)by omega]) (fun i' hi' x hx o ho=> ?_)
  obtain⟨x0,q1,q2,_⟩:=g6 i' x hx
  rcases q2 o ho with q3|q3
  ·exact hp i' (List.mem_cons_of_mem _ hi') x0 q1 o q3
  ·rw[q3];have:=hN 0 (by simp);simpa using this
structure CallcM (s:St) (ms:List Nat) (xs:List AV) (base:Nat) (cs:List Nat) (M:List Nat):Prop where
 fresh: ∀j,j<cs.length->base+90+j∈M
 place: ∀i∈cs,∀x,xs[i]? =some x-> ∀o∈placeA x,o∈M
 call: ∀h,({s,l:=xs}:Hand).rootsAt (base+90) cs=some h->CallM h.s.ob ms h.l base M
theorem op_callc (hR:Rel fm e s a) {o:Oper} {c:Call} {f base:Nat} {Xs:List X} {cs:List Nat} (hK:KOk P K) (ho:o.op= .call c) (hc:c.callee= .value (.func f)) (hxs:xsOf P c.argTypes.toList c.args.toList=some Xs)
  (hM:CallcM s (md f) (Xs.map (ev s.tm)) base cs M) (h:stepI K md s o.dst (.callc base f Xs cs)=some s'):o.wp P a e.w (Reach fm e M s') Q:=by
 simp only[stepI]at h
 split at h
 case h_2=>cases h
 rename_i h1 hr
 obtain⟨g1,g2⟩:=xsOf_ok hR hxs
 have hH:HRel fm e {s,l:=Xs.map (ev s.tm)} a (c.args.toList.map a.eval):=⟨hR,g1,g2⟩
 obtain⟨e1,y1,y2,y3,y4,y5,y6⟩:=rootsAt_ok hH hr
 have hargs:(c.args.toList.map a.eval).toArray=c.args.map a.eval:=by rw[←Array.toList_map]
 have hwp:o.wp P a e1.w (Reach fm e1 M s') Q:=by
  refine call_wp y3.rel (vs:=c.args.toList.map a.eval) hK (fun hE=> ?_) y3.len y3.ok (hM.call h1 hr) h
  simp only[execOp,ho,resolve,hc,Act.eval,Deferred.ofValue,hargs]
  simp[invoke,callFunc_run hE]
 rw[y1]at hwp
 have hEvo: ∀ {e2:Env},Evo e1 e2 M->Evo e e2 M:=fun {e2} hE=>by
  refine⟨by rw[←y1];exact hE.size,fun b hb hl=> ?_⟩
  rw[←y1]
  refine hE.same b (by rw[y1];exact hb) fun l hl1 hlM=> ?_
  obtain⟨l0,q1,q2⟩:=y6 (e0:=e) (A:=fun o=>o∈M) (N:=fun o=>o∈M) (fun l b h1 h2=>⟨l,h1,h2⟩) hM.fresh hM.place l b hl1 hlM
  exact hl l0 q1 q2
 refine Oper.wp_mono (fun a' w' hh=> ?_) hwp
 obtain⟨e2,q1,q2,q3⟩:=hh
 exact⟨e2,q1,q2,hEvo q3⟩
end Go.Proofs.YtbolhfegdocpeaaGreat.Ow
namespace Go.Proofs.YtbolhfegdocpeaaGreat.Ow
open Go
variable {P:Program} {fm fm0:Fm} {M:List Nat} {e e' e0:Env} {s s':St} {a:Act} {Q:Exit->Act->World->Prop}
theorem openArgs_tm: ∀ (args:List Arg) (t n i:Nat),(i<t\/t+args.length<=i)->getT (openArgs t n args).1 i= .non
 |[],t,n,i,_=>rfl
 |x::args,t,n,i,h=>by
  simp only[List.length_cons]at h
  have hx:getT (openArgs t n (x::args)).1 i=if i=t then(openArg n x).1 else getT (openArgs (t+1) (openArg n x).2.2 args).1 i:=rfl
  rw[hx,if_neg (by omega)]
  exact openArgs_tm args (t+1) _ i (by omega)
theorem entry_rel {args:List Arg} {vs:List Value} (hE:EntryOk fm e args vs) {n:Nat} (hn:args.length<=n):Rel fm e (entry n args) {tmps:=vs.toArray++Array.replicate (n - vs.toArray.size) undef,defers:=[]}:=by
 refine⟨hE.mem,hE.ob,fun o k rows _ _=>(hE.H o).symm,fun o cs _ _=>(hE.B o).symm,by simp[entry,←hE.len];omega,rfl,fun t=> ?_⟩
 show AvOk e (getT (openArgs 0 0 args).1 t) _
 by_cases ht:t<vs.length
 ·have h1:vs[t]? =some vs[t]:=List.getElem?_eq_getElem ht
  have h2:(vs.toArray++Array.replicate (n - vs.toArray.size) undef).getD t undef=vs[t]:=by
   rw[Array.getD_eq_getD_getElem?,Array.getElem?_append_left (by simpa using ht)]
   simp[h1]
  rw[h2]
  exact hE.val t _ h1
 ·rw[openArgs_tm args 0 0 t (.inr (by rw[hE.len];omega))]
  exact .non _
theorem rootsI_ok {us:List Value}: ∀ {m:Nat} {e:Env} {h h':Hand} {base i:Nat},HRel fm e h a us->h.rootsI base i m=some h'->
  ∃e',e'.w=e.w/\e'.Im=e.Im/\HRel fm e' h' a us/\h'.s.n=h.s.n/\h'.s.m=h.s.m/\BoxC e e'
 |0,e,h,h',base,i,hH,hr=>by simp only[Hand.rootsI,Option.some.injEq]at hr;subst hr;exact⟨e,rfl,rfl,hH,rfl,rfl,BoxC.refl e⟩
 |m+1,e,h,h',base,i,hH,hr=>by
  simp only[Hand.rootsI]at hr
  split at hr
  ·rename_i h1 h2
   obtain⟨e1,g1,g2,g3,g4,g5,_,_,g6,_⟩:=rootI_foot hH h2
   obtain⟨e2,y1,y2,y3,y4,y5,y6⟩:=rootsI_ok g3 hr
   refine⟨e2,y1.trans g1,y2.trans g2,y3,y4.trans g4,y5.trans g5,fun o cs hb=> ?_⟩
   obtain⟨c1,q1,q2⟩:=g6 o cs hb
   obtain⟨c2,q3,q4⟩:=y6 o c1 q1
   exact⟨c2,q3,q4.trans q2⟩
  ·cases hr
theorem rebox_ok (hR:Rel fm e s a) {b:Nat} {cs cs':List AV} (hb:e.ob b= .box cs) (hc: ∀ (j:Nat) c,cs'[j]? =some c->Wr e.w (e.bk b) j/\ ∃u,e.w.cell? ⟨e.bk b,j,none⟩=some u/\AvOk e c u):
  ∃e',e'.w=e.w/\e'.Im=e.Im/\Rel fm e' (s.putO b (.box cs')) a/\(Carry e e' fun o p=>some (o,p))/\(∀o,e'.bk o=e.bk o)/\ ∀o,e'.ob o=if o=b then .box cs' else e.ob o:=by
 let e':Env:={e with ob:=fun o=>if o=b then .box cs' else e.ob o}
 have hob: ∀o,e'.ob o=if o=b then .box cs' else e.ob o:=fun _=>rfl
 have hnode: ∀o p,e'.node o p=e.node o p:=fun o p=>by
  by_cases h:o=b
  ·subst h;simp[Env.node,e',hb]
  ·simp[Env.node,e',h]
 have hblk: ∀l x,e'.blk l=some x->e.blk l=some x:=by
  intro l x h
  cases l with
  |nd o p=>
   obtain⟨k,r,h1,h2⟩:=blk_nd h
   rw[hnode]at h1
   exact blk_nd_of h1 h2
  |bx o=>
   obtain⟨c,h1,h2⟩:=blk_bx h
   rw[←h2]
   by_cases ho:o=b
   ·subst ho;exact blk_bx_of hb
   ·rw[hob,if_neg ho]at h1;exact blk_bx_of h1
 have hC:Carry e e' fun o p=>some (o,p):=by
  refine⟨fun b hb=>⟨hb,rfl⟩,fun o p k rows o' p' hn hf=> ?_,fun o c ho=> ?_,fun o p k rows hn=>(hR.mem.node o p k rows hn).one,rfl⟩
  ·cases hf
   exact⟨rows,by rw[hnode];exact hn,rfl,rfl⟩
  ·by_cases h:o=b
   ·exact⟨cs',by rw[hob,if_pos h],rfl⟩
   ·exact⟨c,by rw[hob,if_neg h];exact ho,rfl⟩
 refine⟨e',rfl,rfl,⟨⟨fun o c ho j x hx=> ?_,fun o p k r hn=> ?_,fun l l' x h h'=>hR.mem.inj l l' x (hblk l x h) (hblk l' x h'),fun l x h=>hR.mem.own l x (hblk l x h),hR.mem.im,hR.mem.im0,hR.mem.keeps,hR.mem.tk⟩,fun o=> ?_,fun o k r h1 h2=> ?_,fun o c h1 h2=> ?_,hR.size,hR.defers,fun t=>(hR.tm t).carry hC⟩,hC,fun _=>rfl,hob⟩
 ·by_cases h:o=b
  ·subst h
   rw[hob,if_pos rfl]at ho
   cases ho
   obtain⟨g1,u,g2,g3⟩:=hc j x hx
   exact⟨g1,u,g2,g3.carry hC⟩
  ·rw[hob,if_neg h]at ho
   obtain⟨g1,u,g2,g3⟩:=hR.mem.box o c ho j x hx
   exact⟨g1,u,g2,g3.carry hC⟩
 ·rw[hnode]at hn
  exact hR.mem.node o p k r hn
 ·rw[hob,getO_putO]
  by_cases h:o=b
  ·rw[if_pos h,if_pos h]
  ·rw[if_neg h,if_neg h];exact hR.ob o
 ·rw[hob]at h2
  split at h2
  ·cases h2
  ·exact hR.pinh o k r h1 h2
 ·rw[hob]at h2
  split at h2
  ·rename_i h;subst h;exact hR.pinb _ cs h1 hb
  ·exact hR.pinb o c h1 h2
theorem rootBox_ok {us:List Value} {h h':Hand} {base b:Nat} (hH:HRel fm e h a us) (hr:h.rootBox base b=some h'):
  ∃e',e'.w=e.w/\e'.Im=e.Im/\HRel fm e' h' a us/\h'.s.n=h.s.n/\h'.s.m=h.s.m:=by
 unfold Hand.rootBox at hr
 split at hr
 case h_2=>cases hr
 rename_i cs hcs
 split at hr
 case h_2=>cases hr
 rename_i h1 hroots
 cases hr
 have hb:e.ob b= .box cs:=by rw[hH.rel.ob];exact hcs
 let uc:List Value:=(List.range cs.length).map fun j=>(e.w.cell? ⟨e.bk b,j,none⟩).getD undef
 have huc:uc.length=cs.length:=by simp[uc]
 have hcell: ∀ (j:Nat) c u,cs[j]? =some c->uc[j]? =some u->Wr e.w (e.bk b) j/\e.w.cell? ⟨e.bk b,j,none⟩=some u/\AvOk e c u:=by
  intro j c u hc hu
  obtain⟨g1,v,g2,g3⟩:=hH.rel.mem.box b cs hb j c hc
  have hj:=(List.getElem?_eq_some_iff.1 hc).1
  have hv:u=v:=by
   simp only[uc,List.getElem?_map,List.getElem?_range hj,Option.map_some,Option.some.injEq,g2,Option.getD_some]at hu
   exact hu.symm
  subst hv
  exact⟨g1,g2,g3⟩
 have hH1:HRel fm e {s:=h.s,l:=cs++h.l} a (uc++us):=by
  refine⟨hH.rel,by simp[huc,hH.len],fun i x u hx hu=> ?_⟩
  rw[List.getElem?_append]at hx hu
  rw[huc]at hu
  split at hx
  ·rename_i hi;rw[if_pos hi]at hu;exact(hcell i x u hx hu).2.2
  ·rename_i hi;rw[if_neg hi]at hu;exact hH.ok _ x u hx hu
 obtain⟨e1,g1,g2,g3,g4,g5,g6⟩:=rootsI_ok hH1 hroots
 obtain⟨cs1,q1,q2⟩:=g6 b cs hb
 obtain⟨e2,y1,y2,y3,y4,y5,y6⟩:=rebox_ok g3.rel q1 (cs':=h1.l.take cs.length) (fun j c hc=>by
  rw[List.getElem?_take]at hc
  split at hc
  case isFalse=>cases hc
  rename_i hj
  obtain⟨u,hu⟩:=getElem?_of_lt (l:=uc) (i:=j) (by omega)
  obtain⟨c0,hc0⟩:=getElem?_of_lt (l:=cs) (i:=j) hj
  obtain⟨z1,z2,z3⟩:=hcell j c0 u hc0 hu
  rw[q2,g1]
  exact⟨z1,u,z2,g3.ok j c u hc (by rw[List.getElem?_append_left (by omega)];exact hu)⟩)
 have hlen:=g3.len
 refine⟨e2,y1.trans g1,y2.trans g2,⟨y3,by simp only[List.length_drop,hlen,List.length_append,huc];omega,fun i x u hx hu=> ?_⟩,g4,g5⟩
 rw[List.getElem?_drop]at hx
 exact(g3.ok _ x u hx (by rw[List.getElem?_append_right (by omega),huc,show cs.length+i - cs.length=i by omega];exact hu)).carry y4
theorem rootBoxes_ok {us:List Value}: ∀ {l:List Nat} {base:Nat} {e:Env} {h h':Hand},HRel fm e h a us->h.rootBoxes base l=some h'->
  ∃e',e'.w=e.w/\e'.Im=e.Im/\HRel fm e' h' a us/\h'.s.n=h.s.n/\h'.s.m=h.s.m
 |[],base,e,h,h',hH,hr=>by simp only[Hand.rootBoxes,Option.some.injEq]at hr;subst hr;exact⟨e,rfl,rfl,hH,rfl,rfl⟩
 |b::l,base,e,h,h',hH,hr=>by
  simp only[Hand.rootBoxes]at hr
  split at hr
  ·rename_i h1 h2
   obtain⟨e1,g1,g2,g3,g4,g5⟩:=rootBox_ok hH h2
   obtain⟨e2,y1,y2,y3,y4,y5⟩:=rootBoxes_ok g3 hr
   exact⟨e2,y1.trans g1,y2.trans g2,y3,y4.trans g4,y5.trans g5⟩
  ·cases hr
end Go.Proofs.YtbolhfegdocpeaaGreat.Ow
namespace Go.Proofs.YtbolhfegdocpeaaGreat.Ow
open Go
variable {P:Program} {fm fm0:Fm} {M:List Nat} {e e' e0:Env} {s s':St} {a:Act} {Q:Exit->Act->World->Prop}
def oneV:List Value->Value
 |[v]=>v
 |vs=> .tuple vs.toArray
def readRes (tmps:Array Value):ResultVar->Sem Value
 | .tmp t=>pure (tmps.getD t undef)
 | .cell b t=>do loadVar t (←asAddr (tmps.getD b undef))
theorem loadA_ptr {n:Option Nat} {x y:AV} {v:Value} (hx:AvOk e x v) (h:loadA s.ob n x=some y): ∃ad,v= .pointer (some ad):=by
 cases hx with
 |pb o j cs hb=>exact⟨_,rfl⟩
 |pa o p i j k b off n' c rows hn hh hc=>exact⟨_,rfl⟩
 |pim v cs hp=>obtain⟨_,_,rfl,_⟩:=hp;exact⟨_,rfl⟩
 |_=>simp[loadA]at h
theorem result_ok (hR:Rel fm e s a) {v:ResultVar} {rp:RP} {l:List ResultVar} {m:List RP} (hr:resOf P (v::l)=some (rp::m)) {x:AV} (hx:resV s rp=some x):
  resOf P l=some m/\ ∃u,(readRes a.tmps v).run P e.w= .ok u e.w/\AvOk e x u:=by
 cases v with
 |tmp t=>
  cases hm:resOf P l with
  |none=>simp[resOf,hm]at hr
  |some m'=>
   simp[resOf,hm]at hr
   obtain⟨rfl,rfl⟩:=hr
   simp only[resV,Option.some.injEq]at hx
   subst hx
   exact⟨rfl,_,rfl,hR.tm t⟩
 |cell b t=>
  cases hn:nOf P t with
  |none=>simp[resOf,hn]at hr
  |some n=>
   cases hm:resOf P l with
   |none=>simp[resOf,hn,hm]at hr
   |some m'=>
    simp[resOf,hn,hm]at hr
    obtain⟨rfl,rfl⟩:=hr
    simp only[resV]at hx
    obtain⟨u,h1,h2⟩:=load_ok hR hn (hR.tm b) hx
    obtain⟨ad,had⟩:=loadA_ptr (hR.tm b) hx
    refine⟨rfl,u,?_,h2⟩
    rw[had]at h1
    simp only[readRes,had]
    simpa[Instr.loadAt,Instr.sureAddr,asAddr]using h1
theorem results_list (hR:Rel fm e s a): ∀ {l:List ResultVar} {res:List RP} {xs:List AV},resOf P l=some res->mapM' (resV s) res=some xs->
  ∃vs:List Value,(l.mapM (readRes a.tmps)).run P e.w= .ok vs e.w/\xs.length=vs.length/\ ∀ (i:Nat) x v,xs[i]? =some x->vs[i]? =some v->AvOk e x v
 |[],res,xs,hr,hx=>by
  simp only[resOf,Option.some.injEq]at hr
  subst hr
  simp only[mapM',Option.some.injEq]at hx
  subst hx
  exact⟨[],by simp,rfl,fun i x v h=>by simp at h⟩
 |v::l,[],xs,hr,hx=>by
  exfalso
  cases v<;>simp only[resOf]at hr
  ·cases h:resOf P l<;>simp[h]at hr
  ·split at hr<;>simp at hr
 |v::l,rp::res,xs,hr,hx=>by
  simp only[mapM']at hx
  split at hx
  case h_2=>cases hx
  rename_i x hx1
  split at hx
  case h_2=>cases hx
  rename_i ys hx2
  cases hx
  obtain⟨g1,u,g2,g3⟩:=result_ok hR hr hx1
  obtain⟨vs,y1,y2,y3⟩:=results_list hR g1 hx2
  refine⟨u::vs,?_,by simp[y2],fun i z w hz hw=> ?_⟩
  ·rw[List.mapM_cons]
   simp[g2,y1]
  ·cases i with
   |zero=>simp at hz hw;subst hz;subst hw;exact g3
   |succ i=>exact y3 i z w (by simpa using hz) (by simpa using hw)
theorem results_ok (hR:Rel fm e s a) {fn:Func} {res:List RP} {xs:List AV} (hr:resOf P fn.results.toList=some res) (hx:mapM' (resV s) res=some xs):
  ∃vs:List Value,(results fn a.tmps).run P e.w= .ok (oneV vs) e.w/\xs.length=vs.length/\ ∀ (i:Nat) x v,xs[i]? =some x->vs[i]? =some v->AvOk e x v:=by
 obtain⟨vs,h1,h2,h3⟩:=results_list hR hr hx
 refine⟨vs,?_,h2,h3⟩
 have hdef:results fn a.tmps=(do
  let vs ←fn.results.mapM (readRes a.tmps)
  pure (if h:vs.size=1 then vs[0]else .tuple vs)):=rfl
 rw[hdef,Array.mapM_eq_mapM_toList]
 match vs,h1 with
 |[],h1=>simp[h1,oneV]
 |[v],h1=>simp[h1,oneV]
 |v::w::vs,h1=>simp[h1,oneV]
end Go.Proofs.YtbolhfegdocpeaaGreat.Ow
namespace Go.Proofs.YtbolhfegdocpeaaGreat.Ow
open Go
variable {ob:List (Nat×Obj)} {f:Nat->Option Nat}
theorem keys_mvO (f:Nat->Option Nat) (ob:List (Nat×Obj)): ∀ (l:List Nat) (n o:Nat),o∈(mvO f ob n l).map (·.1)->n<=o/\o<n+l.length
 |[],n,o,h=>by simp[mvO]at h
 |x::l,n,o,h=>by
  simp only[mvO,List.map_cons,List.mem_cons]at h
  simp only[List.length_cons]
  rcases h with h|h
  ·omega
  ·have:=keys_mvO f ob l (n+1) o h
   omega
theorem getO_left {l1 l2:List (Nat×Obj)} {o:Nat} (h:o∉l2.map (·.1)):getO (l1++l2) o=getO l1 o:=by
 rw[getO_append]
 split
 ·rfl
 ·rename_i h1;rw[getO_not h,getO_not h1]
theorem getO_right {l1 l2:List (Nat×Obj)} {o:Nat} (h:o∉l1.map (·.1)):getO (l1++l2) o=getO l2 o:=by
 rw[getO_append,if_neg h]
theorem exitB_close: ∀ {bs:List Nat} {n:Nat} {lss:List (List L)} {ids:List Nat},closeBs ob bs=some (lss,ids)->(∀ (i:Nat) o,ids[i]? =some o->f o=some (n+i))->(∀b∈bs,b<n)->
  (exitB n bs lss).2=n+ids.length/\ ∀o,getO (exitB n bs lss).1 o=if o∈bs then(getO ob o).mv f else getO (mvO f ob n ids) o
 |[],n,lss,ids,h,hf,hb=>by
  simp only[closeBs,Option.some.injEq,Prod.mk.injEq]at h
  obtain⟨rfl,rfl⟩:=h
  exact⟨rfl,fun o=>by simp[exitB,mvO]⟩
 |b::bs,n,lss,ids,h,hf,hb=>by
  simp only[closeBs]at h
  split at h
  case h_2=>cases h
  rename_i cs hcs
  split at h
  case h_2=>cases h
  rename_i ls os m qs h1 h2
  simp only[Option.some.injEq,Prod.mk.injEq]at h
  obtain⟨rfl,rfl⟩:=h
  obtain⟨g1,g2⟩:=exitB_close (n:=n+os.length) h2 (at_right hf) (fun b' hb'=>by have:=hb b' (List.mem_cons_of_mem _ hb');omega)
  have hbn:=hb b List.mem_cons_self
  have hx:exitB n (b::bs) (ls::m)=((b,.box (mvL f cs))::(mvO f ob n os++(exitB (n+os.length) bs m).1),(exitB (n+os.length) bs m).2):=by
   simp only[exitB]
   rw[openLs_close h1 (at_left hf)]
  rw[hx]
  refine⟨by rw[g1];simp[Nat.add_assoc],fun o=> ?_⟩
  simp only[getO]
  by_cases ho:o=b
  ·subst ho
   simp[hcs,Obj.mv]
  ·rw[if_neg ho,mvO_append]
   simp only[List.mem_cons,ho,false_or]
   by_cases hob:o∈bs
   ·have hlt:=hb o (List.mem_cons_of_mem _ hob)
    rw[getO_right (fun h=>by have:=keys_mvO _ _ _ _ _ h;omega),g2,if_pos hob,if_pos hob]
   ·rw[if_neg hob,getO_append,getO_append,g2,if_neg hob]
def finX (ob os:List (Nat×Obj)) (gone:List Nat) (o:Nat):Obj:=
 if gone.contains o then .none else match getO ob o,getO os o with
 | .arr k rows,.arr k' _=>if k=k' then .arr k rows else .none
 |_,_=> .none
theorem fin_obj (ob os:List (Nat×Obj)) (gone:List Nat) (o:Nat):(match finOf ob os gone o,getO os o with
  |some rows,.arr k _=>Obj.arr k rows
  |_,_=> .none)=finX ob os gone o:=by
 unfold finOf finX
 by_cases hg:gone.contains o=true
 ·rw[if_pos hg,if_pos hg]
 ·rw[if_neg hg,if_neg hg]
  cases h1:getO ob o with
  |none=>rfl
  |box _=>rfl
  |arr k rows=>
   cases h2:getO os o with
   |none=>rfl
   |box _=>rfl
   |arr k' r'=>
    simp only
    by_cases h:k=k'
    ·simp[h]
    ·simp[h]
theorem exitF_get (ob os:List (Nat×Obj)) (gone:List Nat) (o:Nat): ∀is:List Nat,getO (exitF os is (is.map (finOf ob os gone))) o=if o∈is then finX ob os gone o else .none
 |[]=>by simp[exitF,getO]
 |i::is=>by
  have ih:=exitF_get ob os gone o is
  have hi:=fin_obj ob os gone i
  simp only[List.map_cons]
  cases hf:finOf ob os gone i with
  |none=>
   rw[hf]at hi
   simp only[exitF,ih]
   by_cases h:o=i
   ·subst h
    have:finX ob os gone o= .none:=by rw[←hi]
    simp[this]
   ·simp[h]
  |some rows=>
   rw[hf]at hi
   simp only[exitF]
   cases hx:getO os i with
   |arr k r=>
    rw[hx]at hi
    simp only[getO]
    by_cases h:o=i
    ·subst h;simp[←hi]
    ·simp[h,ih]
   |none=>
    rw[hx]at hi
    simp only[ih]
    by_cases h:o=i
    ·subst h
     have:finX ob os gone o= .none:=by rw[←hi]
     simp[this]
    ·simp[h]
   |box c=>
    rw[hx]at hi
    simp only[ih]
    by_cases h:o=i
    ·subst h
     have:finX ob os gone o= .none:=by rw[←hi]
     simp[this]
    ·simp[h]
end Go.Proofs.YtbolhfegdocpeaaGreat.Ow
namespace Go.Proofs.YtbolhfegdocpeaaGreat.Ow
open Go
theorem openLs_keys: ∀ (ls:List L) (n:Nat),n<=(openLs n ls).2.2/\ ∀o∈(openLs n ls).2.1.map (·.1),n<=o/\o<(openLs n ls).2.2
 |[],n=>⟨Nat.le_refl _,fun o h=>by simp[openLs]at h⟩
 | .sc v::ls,n=>by simpa[openLs]using openLs_keys ls n
 | .nil v::ls,n=>by simpa[openLs]using openLs_keys ls n
 | .im k r::ls,n=>by simpa[openLs]using openLs_keys ls n
 | .al i k r::ls,n=>by simpa[openLs]using openLs_keys ls n
 | .own k r::ls,n=>by
  obtain⟨g1,g2⟩:=openLs_keys ls (n+1)
  show n<=(openLs (n+1) ls).2.2/\ ∀o∈n::(openLs (n+1) ls).2.1.map (·.1),n<=o/\o<(openLs (n+1) ls).2.2
  refine⟨by omega,fun o h=> ?_⟩
  rcases List.mem_cons.1 h with h1|h1
  ·omega
  ·have:=g2 o h1
   omega
theorem openArg_keys (x:Arg) (n:Nat):n<=(openArg n x).2.2/\ ∀o∈(openArg n x).2.1.map (·.1),n<=o/\o<(openArg n x).2.2:=by
 cases x with
 |v l=>simpa[openArg]using openLs_keys [l] n
 |a ls=>simpa[openArg]using openLs_keys ls n
 |pm ls=>
  obtain⟨g1,g2⟩:=openLs_keys ls (n+1)
  show n<=(openLs (n+1) ls).2.2/\ ∀o∈n::(openLs (n+1) ls).2.1.map (·.1),n<=o/\o<(openLs (n+1) ls).2.2
  refine⟨by omega,fun o h=> ?_⟩
  rcases List.mem_cons.1 h with h1|h1
  ·omega
  ·have:=g2 o h1
   omega
 |pi ts=>exact⟨Nat.le_refl _,fun o h=>by simp[openArg]at h⟩
 |c f caps=>exact⟨Nat.le_refl _,fun o h=>by simp[openArg]at h⟩
theorem ownIds_lt: ∀ (args:List Arg) (t n:Nat),n<=(openArgs t n args).2.2/\(∀o∈(ownIds n args).1,n<=o/\o<(openArgs t n args).2.2)/\(∀o∈(ownIds n args).2,n<=o/\o<(openArgs t n args).2.2)/\
  ∀o∈(ownIds n args).1,o∉(ownIds n args).2
 |[],t,n=>⟨Nat.le_refl _,fun o h=>by simp[ownIds]at h,fun o h=>by simp[ownIds]at h,fun o h=>by simp[ownIds]at h⟩
 |x::args,t,n=>by
  obtain⟨k1,k2⟩:=openArg_keys x n
  obtain⟨g1,g2,g3,g4⟩:=ownIds_lt args (t+1) (openArg n x).2.2
  have hm:(openArgs t n (x::args)).2.2=(openArgs (t+1) (openArg n x).2.2 args).2.2:=rfl
  rw[hm]
  have hother: ∀ {is bs:List Nat},is=(openArg n x).2.1.map (·.1)++(ownIds (openArg n x).2.2 args).1->bs=(ownIds (openArg n x).2.2 args).2->
    n<=(openArgs (t+1) (openArg n x).2.2 args).2.2/\(∀o∈is,n<=o/\o<(openArgs (t+1) (openArg n x).2.2 args).2.2)/\(∀o∈bs,n<=o/\o<(openArgs (t+1) (openArg n x).2.2 args).2.2)/\ ∀o∈is,o∉bs:=by
   intro is bs h1 h2
   subst h1;subst h2
   refine⟨by omega,fun o h=> ?_,fun o h=> ?_,fun o h h2=> ?_⟩
   ·rcases List.mem_append.1 h with h|h
    ·have:=k2 o h;omega
    ·have:=g2 o h;omega
   ·have:=g3 o h;omega
   ·rcases List.mem_append.1 h with h|h
    ·have:=k2 o h;have:=g3 o h2;omega
    ·exact g4 o h h2
  cases x with
  |pm ls=>
   have ho:ownIds n (.pm ls::args)=((ownIds (openArg n (.pm ls)).2.2 args).1,n::(ownIds (openArg n (.pm ls)).2.2 args).2):=rfl
   have hn:n<(openArg n (.pm ls)).2.2:=by
    have:=(openLs_keys ls (n+1)).1
    show n<(openLs (n+1) ls).2.2
    omega
   rw[ho]
   refine⟨by omega,fun o h=> ?_,fun o h=> ?_,fun o h h2=> ?_⟩
   ·have:=g2 o h;omega
   ·rcases List.mem_cons.1 h with h|h
    ·omega
    ·have:=g3 o h;omega
   ·rcases List.mem_cons.1 h2 with h3|h3
    ·have:=g2 o h;omega
    ·exact g4 o h h3
  |v l=>exact hother rfl rfl
  |a ls=>exact hother rfl rfl
  |pi ts=>exact hother rfl rfl
  |c f caps=>exact hother rfl rfl
end Go.Proofs.YtbolhfegdocpeaaGreat.Ow
namespace Go.Proofs.YtbolhfegdocpeaaGreat.Ow
open Go
variable {P:Program} {fm fm0:Fm} {M:List Nat} {e e' e0:Env} {s s':St} {a:Act} {Q:Exit->Act->World->Prop}
theorem one_ok {xs:List AV} {vs:List Value} (hl:xs.length=vs.length) (h: ∀ (i:Nat) x v,xs[i]? =some x->vs[i]? =some v->AvOk e x v):AvOk e (one xs) (oneV vs):=by
 match xs,vs with
 |[],[]=>exact .tup [] [] rfl h
 |[x],[v]=>exact h 0 x v rfl rfl
 |x::y::xs,u::v::vs=>exact .tup _ _ hl h
 |[],_::_=>simp at hl
 |[_],[]=>simp at hl
 |[_],_::_::_=>simp at hl
 |_::_::_,[]=>simp at hl
 |_::_::_,[_]=>simp at hl
def exitN (m:Nat) (ids bs own:List Nat) (ob os:List (Nat×Obj)) (o:Nat):Option Nat:=
 if o∈ids then some (m+posN o ids 0)else if o∈bs\/o∈own/\isObj (finX ob os ids o)=true then some o else none
def exitG (m:Nat) (ids:List Nat) (f:Nat->Option Nat) (j:Nat):Option Nat:=
 if j<m then(if f j=some j then some j else none)else ids[j - m]?
theorem exit_fg {m:Nat} {ids bs own:List Nat} {ob os:List (Nat×Obj)} (hnd:ids.Nodup) (hbs: ∀o∈bs,o<m) (hown: ∀o∈own,o<m):
  (∀o o',exitN m ids bs own ob os o=some o'->exitG m ids (exitN m ids bs own ob os) o'=some o)/\ ∀o o',exitG m ids (exitN m ids bs own ob os) o'=some o->exitN m ids bs own ob os o=some o':=by
 constructor
 ·intro o o' h
  unfold exitN at h
  split at h
  ·rename_i ho
   cases h
   unfold exitG
   rw[if_neg (by omega),show m+posN o ids 0 - m=posN o ids 0 - 0 by omega]
   exact(posN_get (i:=0) ho).2
  ·rename_i ho
   split at h
   case isFalse=>cases h
   rename_i hc
   cases h
   have hlt:o<m:=by
    rcases hc with h1|h1
    ·exact hbs o h1
    ·exact hown o h1.1
   unfold exitG
   rw[if_pos hlt]
   have:exitN m ids bs own ob os o=some o:=by unfold exitN;rw[if_neg ho,if_pos hc]
   rw[if_pos this]
 ·intro o o' h
  unfold exitG at h
  split at h
  ·split at h
   ·rename_i h1;cases h;exact h1
   ·cases h
  ·rename_i hm
   unfold exitN
   rw[if_pos (List.mem_of_getElem? h),posN_at hnd h]
   congr 1;omega
end Go.Proofs.YtbolhfegdocpeaaGreat.Ow
namespace Go.Proofs.YtbolhfegdocpeaaGreat.Ow
open Go
variable {P:Program} {fm fm0:Fm} {M:List Nat} {e e' e0:Env} {s s':St} {a:Act} {Q:Exit->Act->World->Prop}
theorem mvL_one (f:Nat->Option Nat) (xs:List AV):(one xs).mv f=one (mvL f xs):=by
 match xs with
 |[]=>rfl
 |[x]=>rfl
 |x::y::xs=>rfl
theorem exitF_keys (os:List (Nat×Obj)): ∀ (is:List Nat) (fs:List (Option (List (List T)))) (o:Nat),o∈(exitF os is fs).map (·.1)->o∈is
 |[],_,o,h=>by simp[exitF]at h
 |i::is,[],o,h=>by simp[exitF]at h
 |i::is,none::fs,o,h=>by
  simp only[exitF]at h
  exact List.mem_cons_of_mem _ (exitF_keys os is fs o h)
 |i::is,some rows::fs,o,h=>by
  simp only[exitF]at h
  split at h
  ·rcases List.mem_cons.1 h with h1|h1
   ·have h1:o=i:=h1
    rw[h1];exact List.mem_cons_self
   ·exact List.mem_cons_of_mem _ (exitF_keys os is fs o h1)
  ·exact List.mem_cons_of_mem _ (exitF_keys os is fs o h)
theorem exitB_keys: ∀ (bs:List Nat) (lss:List (List L)) (n o:Nat),n<=(exitB n bs lss).2/\(o∈(exitB n bs lss).1.map (·.1)->o∈bs\/n<=o/\o<(exitB n bs lss).2)
 |[],_,n,o=>⟨by simp[exitB],fun h=>by simp[exitB]at h⟩
 |b::bs,[],n,o=>⟨by simp[exitB],fun h=>by simp[exitB]at h⟩
 |b::bs,ls::lss,n,o=>by
  obtain⟨k1,k2⟩:=openLs_keys ls n
  obtain⟨g1,g2⟩:=exitB_keys bs lss (openLs n ls).2.2 o
  show n<=(exitB (openLs n ls).2.2 bs lss).2/\(o∈b::((openLs n ls).2.1++(exitB (openLs n ls).2.2 bs lss).1).map (·.1)->o∈b::bs\/n<=o/\o<(exitB (openLs n ls).2.2 bs lss).2)
  refine⟨by omega,fun h=> ?_⟩
  rcases List.mem_cons.1 h with h|h
  ·rw[h];exact .inl List.mem_cons_self
  ·rw[List.map_append]at h
   rcases List.mem_append.1 h with h|h
   ·have:=k2 o h;exact .inr (by omega)
   ·rcases g2 h with h|h
    ·exact .inl (List.mem_cons_of_mem _ h)
    ·exact .inr (by omega)
theorem getO_left' {l1 l2:List (Nat×Obj)} {o:Nat} (h:getO l2 o= .none):getO (l1++l2) o=getO l1 o:=by
 rw[getO_append]
 split
 ·rfl
 ·rename_i h1;rw[h,getO_not h1]
theorem closeBs_box {ob:List (Nat×Obj)}: ∀ {bs:List Nat} {lss:List (List L)} {ids:List Nat},closeBs ob bs=some (lss,ids)-> ∀b∈bs,∃cs,getO ob b= .box cs
 |[],lss,ids,h,b,hb=>by cases hb
 |x::bs,lss,ids,h,b,hb=>by
  simp only[closeBs]at h
  split at h
  case h_2=>cases h
  rename_i cs hcs
  split at h
  case h_2=>cases h
  rename_i h1 h2
  rcases List.mem_cons.1 hb with rfl|h3
  ·exact⟨cs,hcs⟩
  ·exact closeBs_box h2 b h3
theorem openLs_nobox: ∀ (ls:List L) (n o:Nat) (c:List AV),getO (openLs n ls).2.1 o≠ .box c
 |[],n,o,c=>by simp[openLs,getO]
 | .sc v::ls,n,o,c=>by simpa[openLs]using openLs_nobox ls n o c
 | .nil v::ls,n,o,c=>by simpa[openLs]using openLs_nobox ls n o c
 | .im k r::ls,n,o,c=>by simpa[openLs]using openLs_nobox ls n o c
 | .al i k r::ls,n,o,c=>by simpa[openLs]using openLs_nobox ls n o c
 | .own k r::ls,n,o,c=>by
  show (if o=n then Obj.arr k r else getO (openLs (n+1) ls).2.1 o)≠ .box c
  split
  ·simp
  ·exact openLs_nobox ls (n+1) o c
theorem ownIds_box: ∀ (args:List Arg) (t n o:Nat),(∃c,getO (openArgs t n args).2.1 o= .box c)<->o∈(ownIds n args).2
 |[],t,n,o=>by simp[openArgs,ownIds,getO]
 |x::args,t,n,o=>by
  have ih:=ownIds_box args (t+1) (openArg n x).2.2 o
  obtain⟨k1,k2⟩:=openArg_keys x n
  obtain⟨_,_,g3,_⟩:=ownIds_lt args (t+1) (openArg n x).2.2
  have hos:(openArgs t n (x::args)).2.1=(openArg n x).2.1++(openArgs (t+1) (openArg n x).2.2 args).2.1:=rfl
  rw[hos,getO_append]
  have hother: ∀ {bs:List Nat},bs=(ownIds (openArg n x).2.2 args).2->(∀c,getO (openArg n x).2.1 o≠ .box c)->
    ((∃c,(if o∈(openArg n x).2.1.map (·.1)then getO (openArg n x).2.1 o else getO (openArgs (t+1) (openArg n x).2.2 args).2.1 o)= .box c)<->o∈bs):=by
   intro bs h1 h2
   subst h1
   split
   ·rename_i hk
    refine⟨fun⟨c,hc⟩=>absurd hc (h2 c),fun h=> ?_⟩
    have:=g3 o h;have:=k2 o hk;omega
   ·exact ih
  cases x with
  |pm ls=>
   have ho:(ownIds n (.pm ls::args)).2=n::(ownIds (openArg n (.pm ls)).2.2 args).2:=rfl
   have hox:(openArg n (.pm ls)).2.1=(n,.box (openLs (n+1) ls).1)::(openLs (n+1) ls).2.1:=rfl
   rw[ho]
   by_cases hon:o=n
   ·subst hon
    rw[hox]
    simp[getO]
   ·split
    ·rename_i hk
     refine⟨fun⟨c,hc⟩=> ?_,fun h=> ?_⟩
     ·rw[hox]at hc
      simp only[getO,if_neg hon]at hc
      exact absurd hc (openLs_nobox ls (n+1) o c)
     ·rcases List.mem_cons.1 h with h|h
      ·exact absurd h hon
      ·have:=g3 o h;have:=k2 o hk;omega
    ·rw[ih]
     simp[hon]
  |v l=>exact hother rfl (fun c=>by simpa[openArg]using openLs_nobox [l] n o c)
  |a ls=>exact hother rfl (fun c=>by simpa[openArg]using openLs_nobox ls n o c)
  |pi ts=>exact hother rfl (fun c=>by simp[openArg,getO])
  |c f caps=>exact hother rfl (fun c=>by simp[openArg,getO])
theorem leave_ok {args:List Arg} {ws:List Value} {res:List RP} {fn:Func} {r:Res} (hE:EntryOk fm e0 args ws) (hR:Rel fm e s a) (hm:s.m=(openArgs 0 0 args).2.2)
  (hr:resOf P fn.results.toList=some res) (h:leave res args s=some r): ∃v e',(results fn a.tmps).run P e.w= .ok v e.w/\e'.w=e.w/\ExitOk fm e0 args r e' v:=by
 unfold leave at h
 split at h
 case h_2=>cases h
 rename_i xs hxs
 split at h
 case h_2=>cases h
 rename_i h0 hroots
 split at h
 case h_2=>cases h
 rename_i h1 hboxes
 split at h
 case h_2=>cases h
 rename_i pfin is out js hcb hcr
 split at h
 case isFalse=>cases h
 rename_i hchk
 simp only[Option.some.injEq]at h
 subst h
 simp only[Bool.and_eq_true]at hchk
 obtain⟨hnd,hdis⟩:=hchk
 have hnd:=nodupB_iff hnd
 have hdis: ∀b∈(ownIds 0 args).2,b∉is++js:=fun b hb=>by have:=List.all_eq_true.1 hdis b hb;simpa using this
 obtain⟨vs,v1,v2,v3⟩:=results_ok hR hr hxs
 obtain⟨f1,f2⟩:=flat_ok v2 v3
 have hH:HRel fm e {s,l:=flatA xs} a (flatV xs vs):=⟨hR,f1,f2⟩
 obtain⟨e1,y1,y2,y3,y4,y5,_⟩:=rootsI_ok hH hroots
 obtain⟨e2,z1,z2,z3,z4,z5⟩:=rootBoxes_ok y3 hboxes
 obtain⟨o1,o2,o3,o4⟩:=ownIds_lt args 0 0
 have hmm:h1.s.m=(openArgs 0 0 args).2.2:=z5.trans (y5.trans hm)
 obtain⟨q1,q2⟩:=exit_fg (ob:=h1.s.ob) (os:=(openArgs 0 0 args).2.1) (bs:=(ownIds 0 args).2) (own:=(ownIds 0 args).1) (m:=(openArgs 0 0 args).2.2) hnd (fun o ho=>(o3 o ho).2) (fun o ho=>(o2 o ho).2)
 generalize hf:exitN (openArgs 0 0 args).2.2 (is++js) (ownIds 0 args).2 (ownIds 0 args).1 h1.s.ob (openArgs 0 0 args).2.1=f at q1 q2
 generalize hg:exitG (openArgs 0 0 args).2.2 (is++js) f=g at q1 q2
 have hMem:=ren_ok z3.rel.mem (f:=f) (g:=g) (fun o o' h _=>q1 o o' h) q2
 have hC:=ren_mvC z3.rel.mem (f:=f) (g:=g) (fun o o' h _=>q1 o o' h)
 have hids: ∀ (i:Nat) o,(is++js)[i]? =some o->f o=some ((openArgs 0 0 args).2.2+i):=fun i o hi=>by
  rw[←hf]
  unfold exitN
  rw[if_pos (List.mem_of_getElem? hi),posN_at hnd hi]
  simp
 obtain⟨b1,b2⟩:=exitB_close (f:=f) hcb (at_left hids) (fun b hb=>(o3 b hb).2)
 have b3:=openRVs_close (f:=f) hcr (n:=(openArgs 0 0 args).2.2+is.length) (at_right hids)
 have hexit:exitO args {out,pfin,fin:=(ownIds 0 args).1.map (finOf h1.s.ob (openArgs 0 0 args).2.1 (is++js))}=
   (mvL f (unflatA (shapes xs) h1.l),exitF (openArgs 0 0 args).2.1 (ownIds 0 args).1 ((ownIds 0 args).1.map (finOf h1.s.ob (openArgs 0 0 args).2.1 (is++js)))++(exitB (openArgs 0 0 args).2.2 (ownIds 0 args).2 pfin).1++mvO f h1.s.ob ((openArgs 0 0 args).2.2+is.length) js):=by
  simp only[exitO,b1,b3]
 have hgo: ∀o,(e2.ren f g).ob o=match g o with
   |some x=>(getO h1.s.ob x).mv f
   |none=> .none:=fun o=>by
  simp only[Env.ren]
  cases g o with
  |none=>rfl
  |some x=>simp only[z3.rel.ob]
 have hfo: ∀o,o<(openArgs 0 0 args).2.2->g o=if f o=some o then some o else none:=fun o ho=>by
  rw[←hg];simp only[exitG,if_pos ho]
 have hob: ∀o,(e2.ren f g).ob o=getO (exitO args {out,pfin,fin:=(ownIds 0 args).1.map (finOf h1.s.ob (openArgs 0 0 args).2.1 (is++js))}).2 o:=by
  intro o
  rw[hgo,hexit]
  simp only
  by_cases ho:o<(openArgs 0 0 args).2.2
  ·rw[hfo o ho,getO_left (fun h=>by have:=keys_mvO _ _ _ _ _ h;omega)]
   have hB:o∉(ownIds 0 args).2->getO (exitB (openArgs 0 0 args).2.2 (ownIds 0 args).2 pfin).1 o= .none:=fun h=>by
    rw[b2,if_neg h]
    exact getO_not fun h=>by have:=keys_mvO _ _ _ _ _ h;omega
   have hfv:f o=if o∈is++js then some ((openArgs 0 0 args).2.2+posN o (is++js) 0)else if o∈(ownIds 0 args).2\/o∈(ownIds 0 args).1/\isObj (finX h1.s.ob (openArgs 0 0 args).2.1 (is++js) o)=true then some o else none:=by
    rw[←hf];rfl
   by_cases hw:o∈(ownIds 0 args).1
   ·rw[getO_left' (hB (o4 o hw)),exitF_get,if_pos hw,hfv]
    by_cases hi:o∈is++js
    ·rw[if_pos hi,if_neg (by simp;omega)]
     simp only[finX]
     rw[if_pos (by simpa using hi)]
    ·rw[if_neg hi]
     by_cases hx:isObj (finX h1.s.ob (openArgs 0 0 args).2.1 (is++js) o)=true
     ·rw[if_pos (show o∈(ownIds 0 args).2\/o∈(ownIds 0 args).1/\isObj (finX h1.s.ob (openArgs 0 0 args).2.1 (is++js) o)=true from .inr ⟨hw,hx⟩)]
      simp only[if_true]
      unfold finX at hx ⊢
      rw[if_neg (by simpa using hi)]at hx ⊢
      split at hx
      ·rename_i k r k' r' e1' e2'
       split at hx
       ·rename_i hk
        simp[e1',hk,Obj.mv]
       ·cases hx
      ·cases hx
     ·have hn: ¬ (o∈(ownIds 0 args).2\/o∈(ownIds 0 args).1/\isObj (finX h1.s.ob (openArgs 0 0 args).2.1 (is++js) o)=true):=by simp[o4 o hw,hx]
      rw[if_neg hn]
      simp only[reduceCtorEq,if_false]
      cases hz:finX h1.s.ob (openArgs 0 0 args).2.1 (is++js) o with
      |none=>rfl
      |box _=>simp[hz,isObj]at hx
      |arr _ _=>simp[hz,isObj]at hx
   ·rw[getO_right (fun h=>hw (exitF_keys _ _ _ _ h)),hfv]
    by_cases hbb:o∈(ownIds 0 args).2
    ·rw[if_neg (hdis o hbb),if_pos (show o∈(ownIds 0 args).2\/o∈(ownIds 0 args).1/\isObj (finX h1.s.ob (openArgs 0 0 args).2.1 (is++js) o)=true from .inl hbb),b2,if_pos hbb]
     simp only[if_true]
    ·rw[hB hbb]
     by_cases hi:o∈is++js
     ·rw[if_pos hi,if_neg (by simp;omega)]
     ·have hn: ¬ (o∈(ownIds 0 args).2\/o∈(ownIds 0 args).1/\isObj (finX h1.s.ob (openArgs 0 0 args).2.1 (is++js) o)=true):=by simp[hbb,hw]
      rw[if_neg hi,if_neg hn]
      simp only[reduceCtorEq,if_false]
  ·have hgv:g o=(is++js)[o - (openArgs 0 0 args).2.2]? :=by rw[←hg];simp only[exitG,if_neg ho]
   rw[hgv,List.append_assoc,getO_right (fun h=>ho (o2 o (exitF_keys _ _ _ _ h)).2)]
   have hbb:o∉(ownIds 0 args).2:=fun h=>ho (o3 o h).2
   have hmv:getO (mvO f h1.s.ob (openArgs 0 0 args).2.2 (is++js)) o=match (is++js)[o - (openArgs 0 0 args).2.2]? with
    |some x=>(getO h1.s.ob x).mv f
    |none=> .none:=by
    rw[getO_mvO,if_pos (by omega)]
    cases (is++js)[o - (openArgs 0 0 args).2.2]? <;>rfl
   rw[←hmv,mvO_append]
   by_cases hlt:o<(openArgs 0 0 args).2.2+is.length
   ·have hC0:o∉(mvO f h1.s.ob ((openArgs 0 0 args).2.2+is.length) js).map (·.1):=fun h=>by have:=keys_mvO _ _ _ _ _ h;omega
    rw[getO_left hC0,getO_left hC0,b2,if_neg hbb]
   ·have hA0:o∉(mvO f h1.s.ob (openArgs 0 0 args).2.2 is).map (·.1):=fun h=>by have:=keys_mvO _ _ _ _ _ h;omega
    rw[getO_right hA0,getO_right (fun h=>by
     rcases(exitB_keys _ _ _ _).2 h with h2|h2
     ·exact hbb h2
     ·rw[b1]at h2;omega)]
 have hgo': ∀o,o<(openArgs 0 0 args).2.2->(e2.ren f g).ob o≠ .none->g o=some o/\o∉is++js/\(o∈(ownIds 0 args).2\/o∈(ownIds 0 args).1/\isObj (finX h1.s.ob (openArgs 0 0 args).2.1 (is++js) o)=true):=fun o ho hx=>by
  have h2:=hfo o ho
  by_cases h3:f o=some o
  ·rw[if_pos h3]at h2
   refine⟨h2,?_⟩
   rw[←hf]at h3
   unfold exitN at h3
   split at h3
   ·simp at h3;omega
   ·rename_i h4
    split at h3
    ·rename_i h5;exact⟨h4,h5⟩
    ·cases h3
  ·rw[if_neg h3]at h2
   rw[hgo,h2]at hx
   exact absurd rfl hx
 refine⟨_,e2.ren f g,v1,z1.trans y1,hMem,hob,fun o k rows ho hx=> ?_,fun o c0 ho hx=> ?_,fun o c ho hx=> ?_,?_⟩
 ·obtain⟨w1,w2,w3⟩:=hgo' o ho (by rw[hx];simp)
  have hx2:=hx
  rw[hgo,w1]at hx2
  simp only at hx2
  have hob2:getO h1.s.ob o= .arr k rows:=by cases hh:getO h1.s.ob o<;>simp[hh,Obj.mv]at hx2;simp[hx2]
  have hhd:(e2.ren f g).hd o []=e2.hd o []:=by simp[Env.ren,w1]
  refine⟨?_,?_⟩
  ·rw[hhd,z3.rel.pinh o k rows (by rw[hmm];exact ho) (by rw[z3.rel.ob];exact hob2),hE.H]
  ·rcases w3 with w3|⟨_,w4⟩
   ·obtain⟨c,hc⟩:=closeBs_box hcb o w3
    rw[hc]at hob2;cases hob2
   ·unfold finX at w4
    rw[if_neg (by simpa using w2),hob2]at w4
    split at w4
    ·rename_i k1 r1 k2 r2 e1' e2'
     cases e1'
     split at w4
     ·rename_i hk;subst hk;exact⟨r2,by rw[hE.ob];exact e2'⟩
     ·cases w4
    ·cases w4
 ·rw[hE.ob]at hx
  have hb:=(ownIds_box args 0 0 o).1 ⟨c0,hx⟩
  have hgo2:g o=some o:=by
   rw[hfo o ho,if_pos]
   rw[←hf]
   unfold exitN
   rw[if_neg (hdis o hb),if_pos (.inl hb)]
  obtain⟨cs,hcs⟩:=closeBs_box hcb o hb
  refine⟨mvL f cs,by rw[hgo,hgo2];simp only[hcs,Obj.mv],?_⟩
  have hbk:(e2.ren f g).bk o=e2.bk o:=by simp[Env.ren,hgo2]
  rw[hbk,z3.rel.pinb o cs (by rw[hmm];exact ho) (by rw[z3.rel.ob];exact hcs),hE.B]
 ·obtain⟨w1,w2,w3⟩:=hgo' o ho (by rw[hx];simp)
  rw[hgo,w1]at hx
  simp only at hx
  rcases w3 with w3|⟨_,w4⟩
  ·obtain⟨c0,hc0⟩:=(ownIds_box args 0 0 o).2 w3
   exact⟨c0,by rw[hE.ob];exact hc0⟩
  ·unfold finX at w4
   rw[if_neg (by simpa using w2)]at w4
   split at w4
   ·rename_i k1 r1 k2 r2 e1' e2'
    rw[e1']at hx
    simp[Obj.mv]at hx
   ·cases w4
 ·rw[hexit]
  simp only
  rw[←mvL_one]
  have hul:h1.l.length=(flatV xs vs).length:=z3.len
  obtain⟨t1,t2⟩:=unflat_ok (e0:=e2) v2 v3 hul z3.ok
  exact(one_ok (e:=e2) (t1.trans v2) t2).mv hC (.inr fun b hb=>⟨hb,rfl⟩) (.inr ⟨rfl,fun b hb=>⟨hb,rfl⟩⟩)
end Go.Proofs.YtbolhfegdocpeaaGreat.Ow
namespace Go.Proofs.YtbolhfegdocpeaaGreat.Ow
open Go
variable {P:Program} {fm fm0:Fm} {M:List Nat} {e e' e0:Env} {s s':St} {a:Act} {Q:Exit->Act->World->Prop}
variable {K:Nat->List Arg->Option Res} {md:Nat->List Nat}
def FootM (md:Nat->List Nat) (s:St) (M:List Nat):I->Prop
 | .store _ _ x _=> ∀y∈tgt (ev s.tm x),y∈M
 | .app _ _ _ x _=> ∀y∈tgtW (ev s.tm x),y∈M
 | .app0 _ _ _ _ x _=> ∀y∈tgtW (ev s.tm x),y∈M
 | .cpy _ x _=> ∀y∈tgtW (ev s.tm x),y∈M
 | .clr _ _ x=> ∀y∈tgtW (ev s.tm x),y∈M
 | .call o f xs=>CallM s.ob (md f) (xs.map (ev s.tm)) o M
 | .callc o f xs cs=>CallcM s (md f) (xs.map (ev s.tm)) o cs M
 | .callv o x xs=> ∀f caps,ev s.tm x= .clo f caps->CallM s.ob (md f) (xs.map (ev s.tm)++caps) o M
 |_=>True
structure Out (P:Program) (fm:Fm) (e:Env) (M:List Nat) (s:St) (o:Oper) (a:Act) (s':St) (Q:Exit->Act->World->Prop) (i:I):Prop where
 yl:pureI i=true->Yl P e s o a s'
 wp:o.wp P a e.w (Reach fm e M s') Q
 ld:loadI i=true->Ldl P e s o a s' i
theorem both (hR:Rel fm e s a) {o:Oper} {i:I} (h:Yl P e s o a s') (hl:loadI i=false:=by rfl):Out P fm e M s o a s' Q i:=
 ⟨fun _=>h,h.wp hR Q,fun h=>(by rw[hl]at h;cases h)⟩
theorem loud {o:Oper} {i:I} (h:o.wp P a e.w (Reach fm e M s') Q) (hi:pureI i=false:=by rfl) (hl:loadI i=false:=by rfl):Out P fm e M s o a s' Q i:=
 ⟨fun h=>(by rw[hi]at h;cases h),h,fun h=>(by rw[hl]at h;cases h)⟩
theorem list1 {α:Type} {l:Array α} {x:α} (h:l.toList=[x]):l= #[x]:=by
 have:l=l.toList.toArray:=by simp
 rw[this,h]
theorem list2 {α:Type} {l:Array α} {x y:α} (h:l.toList=[x,y]):l= #[x,y]:=by
 have:l=l.toList.toArray:=by simp
 rw[this,h]
theorem call_eta {c:Call} {f:Callee} {args:Array Operand} {ts:Array TypeId} (h1:c.callee=f) (h2:c.args=args) (h3:c.argTypes=ts):c={callee:=f,args:=args,argTypes:=ts}:=by
 cases c;simp_all
theorem arr_get {α:Type} {l:Array α} {i:Nat} {x:α} (h:l[i]? =some x):l.toList[i]? =some x:=by simpa using h
theorem prepCall_ok (hR:Rel fm e s a) (hK:KOk P K) {h:Hint} {b:Nat} {o:Oper} {c:Call} {i:I} (ho:o.op= .call c) (hp:prepCall P h b c=some i) (hM:FootM md s M i)
  (hs:stepI K md s o.dst i=some s'):Out P fm e M s o a s' Q i:=by
 unfold prepCall at hp
 split at hp
 ·rename_i f hc
  split at hp
  ·cases hx:xsOf P c.argTypes.toList c.args.toList with
   |none=>simp[hx]at hp
   |some Xs=>simp only[hx,Option.map_some,Option.some.injEq]at hp;subst hp;exact loud (op_call hR hK ho hc hx hM hs)
  ·cases hx:xsOf P c.argTypes.toList c.args.toList with
   |none=>simp[hx]at hp
   |some Xs=>simp only[hx,Option.map_some,Option.some.injEq]at hp;subst hp;exact loud (op_callc hR hK ho hc hx hM hs)
 ·rename_i t hc
  cases hx:xsOf P c.argTypes.toList c.args.toList with
  |none=>simp[hx]at hp
  |some Xs=>simp only[hx,Option.map_some,Option.some.injEq]at hp;subst hp;exact loud (op_callv hR hK ho hc hx (fun f caps h1=>hM f caps h1) hs)
 ·rename_i hc
  split at hp
  case h_2=>cases hp
  rename_i t x h1 h2
  have hcc:=call_eta hc (list1 h2) (list1 h1)
  subst hcc
  split at hp
  ·cases hx:xOf P t x with
   |none=>simp[hx]at hp
   |some X=>simp only[hx,Option.map_some,Option.some.injEq]at hp;subst hp;exact both hR (op_slen hR ho ‹_› hx hs)
  ·cases hx:xOf P t x with
   |none=>simp[hx]at hp
   |some X=>simp only[hx,Option.map_some,Option.some.injEq]at hp;subst hp;exact both hR (op_len hR ho ‹_› hx hs)
  ·cases hp
 ·rename_i hc
  split at hp
  case h_2=>cases hp
  rename_i t t2 x y h1 h2
  have hcc:=call_eta hc (list2 h2) (list2 h1)
  subst hcc
  split at hp
  ·rename_i el e2 ht ht2
   split at hp
   case isFalse=>cases hp
   rename_i he
   subst he
   split at hp
   case h_2=>cases hp
   rename_i k bb aa cc hk hb ha hc2
   split at hp
   case isFalse=>cases hp
   rename_i hz
   simp only[Option.some.injEq]at hp;subst hp
   exact loud (op_app hR ho ht ht2 hk hb hz ha hc2 hM hs)
  ·rename_i el k2 ht ht2
   split at hp
   case h_2=>cases hp
   rename_i k bb z aa cc hk hb hz ha hc2
   simp only[Option.some.injEq]at hp;subst hp
   cases hzz:zeroOf P el with
   |none=>simp[hzz]at hz
   |some zs=>
    simp only[hzz,Option.bind_some]at hz
    exact loud (op_app0 hR ho ht ht2 hk hb hzz hz ha hc2 hM hs)
  ·cases hp
 ·rename_i hc
  split at hp
  case h_2=>cases hp
  rename_i t x h1 h2
  have hcc:=call_eta hc (list1 h2) (list1 h1)
  subst hcc
  split at hp
  ·cases hx:xOf P t x with
   |none=>simp[hx]at hp
   |some X=>simp only[hx,Option.map_some,Option.some.injEq]at hp;subst hp;exact both hR (op_cap0 hR ho ‹_› hx hs)
  ·cases hp
 ·rename_i hc
  split at hp
  case h_2=>cases hp
  rename_i t t2 x y h1 h2
  have hcc:=call_eta hc (list2 h2) (list2 h1)
  subst hcc
  split at hp
  case h_2=>cases hp
  rename_i el e2 ht ht2
  split at hp
  case isFalse=>cases hp
  split at hp
  case h_2=>cases hp
  rename_i k aa cc hk ha hc2
  simp only[Option.some.injEq]at hp;subst hp
  exact loud (op_cpy hR ho ht hk ha hc2 hM hs)
 ·rename_i hc
  split at hp
  case h_2=>cases hp
  rename_i t x h1 h2
  have hcc:=call_eta hc (list1 h2) (list1 h1)
  subst hcc
  split at hp
  case h_2=>cases hp
  rename_i el ht
  split at hp
  case h_2=>cases hp
  rename_i k z aa hk hz ha
  simp only[Option.some.injEq]at hp;subst hp
  exact loud (op_clr hR ho ht hk hz ha hM hs)
 ·rename_i hc
  split at hp
  case h_2=>cases hp
  rename_i t t2 x y h1 h2
  have hcc:=call_eta hc (list2 h2) (list2 h1)
  subst hcc
  split at hp
  case h_2=>cases hp
  rename_i k aa cc hk ha hc2
  simp only[Option.some.injEq]at hp;subst hp
  exact both hR (op_mm (mx:=true) hR ho ha hc2 hs)
 ·rename_i hc
  split at hp
  case h_2=>cases hp
  rename_i t t2 x y h1 h2
  have hcc:=call_eta hc (list2 h2) (list2 h1)
  subst hcc
  split at hp
  case h_2=>cases hp
  rename_i k aa cc hk ha hc2
  simp only[Option.some.injEq]at hp;subst hp
  exact both hR (op_mm (mx:=false) hR ho ha hc2 hs)
 ·cases hp
end Go.Proofs.YtbolhfegdocpeaaGreat.Ow
namespace Go.Proofs.YtbolhfegdocpeaaGreat.Ow
open Go
variable {P:Program} {fm fm0:Fm} {M:List Nat} {e e' e0:Env} {s s':St} {a:Act} {Q:Exit->Act->World->Prop}
variable {K:Nat->List Arg->Option Res} {md:Nat->List Nat}
theorem map_inj {α β:Type} {f:α->β} {x:Option α} {y:β} (h:x.map f=some y): ∃z,x=some z/\f z=y:=by
 cases x with
 |none=>simp at h
 |some z=>exact⟨z,rfl,by simpa using h⟩
theorem prepOp_ok (hR:Rel fm e s a) (hK:KOk P K) {h:Hint} {b:Nat} {o:Oper} {op:Op} {i:I} (ho:o.op=op) (hp:prepOp P h b o.type op=some i) (hM:FootM md s M i)
  (hs:stepI K md s o.dst i=some s'):Out P fm e M s o a s' Q i:=by
 cases op with
 |move x=>
  obtain⟨X,hx,rfl⟩:=map_inj hp
  exact both hR (op_move hR (.inl ho) hx hs)
 |assign x=>
  obtain⟨X,hx,rfl⟩:=map_inj hp
  exact both hR (op_move hR (.inr ho) hx hs)
 |pick c x y=>
  simp only[prepOp]at hp
  split at hp
  case h_2=>cases hp
  rename_i h1 h2 h3
  simp only[Option.some.injEq]at hp;subst hp
  exact both hR (op_pick hR ho h1 h2 h3 hs)
 |alloc t=>
  obtain⟨X,hx,rfl⟩:=map_inj hp
  exact loud (op_new hR ho hx hs)
 |box t x=>
  obtain⟨X,hx,rfl⟩:=map_inj hp
  exact loud (op_box hR ho hx hs)
 |build t parts=>
  simp only[prepOp]at hp
  split at hp
  ·rename_i fs z ht hz
   split at hp
   case isFalse=>cases hp
   rename_i hall
   obtain⟨ps,hps,rfl⟩:=map_inj hp
   exact both hR (op_bldS hR ho ht hz hall hps hs)
  ·rename_i el z ht hz
   split at hp
   case h_2=>cases hp
   rename_i k hk
   obtain⟨ps,hps,rfl⟩:=map_inj hp
   exact both hR (op_bldA hR ho ht hz hk hps hs)
  ·cases hp
 |buildSlice t len parts=>
  simp only[prepOp]at hp
  split at hp
  case h_2=>cases hp
  rename_i el ht
  split at hp
  case h_2=>cases hp
  rename_i k hk
  split at hp
  case isFalse=>cases hp
  rename_i hc
  obtain⟨h1,h2,h3⟩:=hc
  obtain⟨ps,hps,rfl⟩:=map_inj hp
  exact loud (op_bsl hR ho ht hk h3 h1 h2 hps hs)
 |load t x=>
  simp only[prepOp]at hp
  split at hp
  case h_2=>cases hp
  rename_i n X hn hx
  simp only[Option.some.injEq]at hp
  split at hp
  ·subst hp;exact loud (op_take hR ho hn hx hs)
  ·subst hp;exact(fun h=>⟨fun h1=>(by cases h1),h.wp hR Q,fun _=>h⟩:Ldl P e s o a s' _->Out P fm e M s o a s' Q _) (op_load hR ho hn hx hs)
 |store t x v=>
  simp only[prepOp]at hp
  split at hp
  ·rename_i X V hn hx hv
   split at hp
   case isFalse=>cases hp
   rename_i h1
   simp only[Option.some.injEq]at hp;subst hp
   exact loud (op_store hR ho hn (fun _=>h1) hx hv hM hs)
  ·rename_i n X V hn hx hv
   simp only[Option.some.injEq]at hp;subst hp
   exact loud (op_store hR ho hn (fun h=>by cases h) hx hv hM hs)
  ·cases hp
 |nilCheck x=>
  obtain⟨X,hx,rfl⟩:=map_inj hp
  exact both hR (op_nchk hR ho hx hs)
 |binOp op t x y t2=>
  simp only[prepOp]at hp
  split at hp
  ·rename_i ht
   split at hp
   ·rename_i h1 h2
    simp only[Option.some.injEq]at hp;subst hp
    exact both hR (op_beq hR ho h1 h2 ht hs)
   ·rename_i h1 h2
    simp only[Option.some.injEq]at hp;subst hp
    exact both hR (op_beq hR ho h1 h2 ht hs)
   ·cases hp
  ·rename_i k ht
   split at hp
   case h_2=>cases hp
   rename_i X Y h1 h2
   simp only[Option.some.injEq]at hp;subst hp
   exact both hR (op_bin hR ho h1 h2 hs)
  ·rename_i ht
   split at hp
   case h_2=>cases hp
   rename_i X Y h1 h2
   simp only[Option.some.injEq]at hp;subst hp
   exact both hR (op_bin hR ho h1 h2 hs)
  ·cases hp
 |unOp op t x=>
  simp only[prepOp]at hp
  split at hp
  case h_2=>cases hp
  rename_i X hx
  simp only[Option.some.injEq]at hp;subst hp
  exact both hR (op_un hR ho hx hs)
 |convert t u x=>
  simp only[prepOp]at hp
  split at hp
  ·rename_i h1 h2 h3
   simp only[Option.some.injEq]at hp;subst hp
   exact both hR (op_toInt hR ho h1 h2 h3 hs)
  ·rename_i h1 h2 h3
   simp only[Option.some.injEq]at hp;subst hp
   exact both hR (op_toStr hR ho h1 h2 h3 hs)
  ·rename_i h1 h2 h3
   split at hp
   case h_2=>cases hp
   rename_i h4
   simp only[Option.some.injEq]at hp;subst hp
   exact loud (op_b2s hR ho h1 h4 h2 h3 hs)
  ·cases hp
 |makeSlice t len cap=>
  simp only[prepOp]at hp
  split at hp
  case h_2=>cases hp
  rename_i el ht
  split at hp
  case h_2=>cases hp
  rename_i k z bb X hk hz hb hx
  split at hp
  case isFalse=>cases hp
  rename_i hsx
  simp only[Option.some.injEq]at hp;subst hp
  exact loud (op_mk hR ho ht hk hz hb hsx hx hs)
 |slice t x lo hi mx=>
  simp only[prepOp]at hp
  split at hp
  ·rename_i h1 h2 h3 h4
   simp only[Option.some.injEq]at hp;subst hp
   exact both hR (op_sls hR ho h1 h2 h3 h4 hs)
  ·rename_i h1 h2 h3 h4
   obtain⟨k,hk,rfl⟩:=map_inj hp
   exact both hR (op_sl hR ho h1 hk h2 h3 h4 hs)
  ·rename_i h1 h2 h3
   split at hp
   case h_2=>cases hp
   split at hp
   case isFalse=>cases hp
   rename_i hz
   simp only[Bool.and_eq_true]at hz
   obtain⟨k,hk,rfl⟩:=map_inj hp
   cases lo with
   |none=>exact both hR (op_sl0 hR ho h1 hk rfl hz.1 hz.2 h2 hs)
   |some l=>cases h4:xOf P o.type l<;>simp[ox,h4]at h3
  ·cases hp
 |fieldAddr t x f=>
  simp only[prepOp]at hp
  split at hp
  case h_2=>cases hp
  rename_i fs ht
  split at hp
  case h_2=>cases hp
  rename_i fd X hf hx
  split at hp
  ·rename_i m hm
   simp only[Option.some.injEq]at hp;subst hp
   exact both hR (op_fa hR ho ht (arr_get hf) hm hx hs)
  ·cases hp
 |field t x f=>
  simp only[prepOp]at hp
  split at hp
  case h_2=>cases hp
  rename_i fs ht
  split at hp
  case h_2=>cases hp
  rename_i fd X hf hx
  obtain⟨n,hn,rfl⟩:=map_inj hp
  exact both hR (op_fld hR ho ht (arr_get hf) hn hx hs)
 |indexAddr t x j=>
  simp only[prepOp]at hp
  split at hp
  ·rename_i h1 h2 h3
   obtain⟨k,hk,rfl⟩:=map_inj hp
   exact both hR (op_ia hR ho h1 hk h2 h3 hs)
  ·rename_i h1 h2 h3
   obtain⟨k,hk,rfl⟩:=map_inj hp
   exact both hR (op_iaa hR ho h1 hk h2 h3 hs)
  ·cases hp
 |index t x j=>
  simp only[prepOp]at hp
  split at hp
  case h_2=>cases hp
  rename_i h1 h2 h3
  simp only[Option.some.injEq]at hp;subst hp
  exact both hR (op_ixs hR ho h1 h2 h3 hs)
 |extract x j=>
  obtain⟨X,hx,rfl⟩:=map_inj hp
  exact both hR (op_ext hR ho hx hs)
 |call c=>exact prepCall_ok hR hK ho hp hM hs
 |makeFunc f first caps=>
  cases f with
  |func f=>
   simp only[prepOp]at hp
   split at hp
   case isFalse=>cases hp
   rename_i hf
   obtain⟨X,hx,rfl⟩:=map_inj hp
   have hf:=Array.eq_empty_of_size_eq_zero hf
   subst hf
   exact both hR (op_fn hR ho hx hs)
  |_=>simp[prepOp]at hp
 |makeInterface t x=>simp only[prepOp,Option.some.injEq]at hp;subst hp;simp[stepI]at hs
 |panic x=>simp only[prepOp,Option.some.injEq]at hp;subst hp;simp[stepI]at hs
 |_=>simp[prepOp]at hp
end Go.Proofs.YtbolhfegdocpeaaGreat.Ow
namespace Go.Proofs.YtbolhfegdocpeaaGreat.Ow
open Go
variable {P:Program} {fm fm0:Fm} {M:List Nat} {e e' e0:Env} {s s':St} {a:Act} {Q:Exit->Act->World->Prop}
variable {K:Nat->List Arg->Option Res} {md:Nat->List Nat}
theorem placeL_in {cells:List AV} {y:AV} (h:y∈cells) {o:Nat} (ho:o∈placeA y):o∈placeL cells:=by
 obtain⟨i,hi⟩:=List.getElem?_of_mem h
 exact placeL_mem hi o ho
theorem leafsFoot_get {ob:List (Nat×Obj)}: ∀ {ms:List Nat} {xs:List AV} {i m:Nat} {x:AV},ms[i]? =some m->xs[i]? =some x-> ∀o∈leafFoot ob m x,o∈leafsFoot ob ms xs
 |[],_,i,m,x,h,_,o,_=>by simp at h
 |_::_,[],i,m,x,_,h,o,_=>by simp at h
 |n::ms,y::xs,0,m,x,h,h2,o,ho=>by
  simp only[List.getElem?_cons_zero,Option.some.injEq]at h h2
  subst h;subst h2
  exact List.mem_append_left _ ho
 |n::ms,y::xs,i+1,m,x,h,h2,o,ho=>by
  simp only[List.getElem?_cons_succ]at h h2
  exact List.mem_append_right _ (leafsFoot_get h h2 o ho)
theorem nums_mem: ∀ {n j b:Nat},j<n->b+j∈nums b n
 |0,j,b,h=>absurd h (by omega)
 |n+1,0,b,_=>List.mem_cons_self
 |n+1,j+1,b,h=>by
  have:=nums_mem (n:=n) (j:=j) (b:=b+1) (by omega)
  rw[show b+1+j=b+(j+1)by omega]at this
  exact List.mem_cons_of_mem _ this
theorem callFoot_ok (ob:List (Nat×Obj)) (ms:List Nat) (xs:List AV) (base:Nat) {M:List Nat} (hM: ∀o∈callFoot ob ms xs base,o∈M):CallM ob ms xs base M:=by
 refine⟨fun j hj=>hM _ (List.mem_append_left _ (nums_mem hj)),fun i m x h1 h2 h3 o ho=> ?_,fun i m b j h1 h2 h3=>⟨?_,fun cells hc y hy o ho=> ?_⟩⟩
 ·refine hM _ (List.mem_append_right _ (leafsFoot_get h1 h3 o ?_))
  unfold leafFoot
  rw[if_neg h2]
  exact List.mem_append_left _ ho
 ·refine hM _ (List.mem_append_right _ (leafsFoot_get h1 h3 b ?_))
  unfold leafFoot
  rw[if_neg h2]
  exact List.mem_append_right _ List.mem_cons_self
 ·refine hM _ (List.mem_append_right _ (leafsFoot_get h1 h3 o ?_))
  unfold leafFoot
  rw[if_neg h2]
  refine List.mem_append_right _ (List.mem_cons_of_mem _ ?_)
  simp only[hc]
  exact placeL_in hy ho
theorem foot_ok (md:Nat->List Nat) (s:St) (i:I) {M:List Nat} (hM: ∀o∈foot md s i,o∈M):FootM md s M i:=by
 cases i with
 |store o n x v=>exact hM
 |app o k b x y=>exact hM
 |app0 o k b z x y=>exact hM
 |cpy k x y=>exact hM
 |clr k z x=>exact hM
 |call o f xs=>exact callFoot_ok _ _ _ _ hM
 |callv o x xs=>
  intro f caps h
  refine callFoot_ok _ _ _ _ fun o' ho'=>hM _ ?_
  simp only[foot,h]
  exact ho'
 |callc o f xs cs=>
  refine⟨fun j hj=>hM _ (List.mem_append_left _ (nums_mem hj)),fun i hi x hx o' ho'=> ?_,fun h hh=>callFoot_ok _ _ _ _ fun o' ho'=>hM _ ?_⟩
  ·refine hM _ (List.mem_append_right _ (List.mem_append_left _ (List.mem_flatMap.2 ⟨i,hi,?_⟩)))
   simp only[hx]
   exact ho'
  ·refine List.mem_append_right _ (List.mem_append_right _ ?_)
   simp only[hh]
   exact ho'
 |_=>trivial
theorem ite_some {α:Type} {c:Prop} [Decidable c] {x:Option α} {y:α} (h:(if c then x else none)=some y):c/\x=some y:=by
 split at h
 ·exact⟨‹_›,h⟩
 ·cases h
theorem prepOper_ok (hR:Rel fm e s a) (hK:KOk P K) {h:Hint} {n r i:Nat} {ops:Array Oper} {o:Oper} {ins:Ins} (hp:prepOper P h n r ops i o=some ins)
  (hM:FootM md s M ins.op) (hs:stepG K md ins s=some s'):
  ins.d=o.dst/\if Region.wanted o (yielded ops a.tmps)then Out P fm e M s o a s' Q ins.op else s.put o.dst .und=some s':=by
 unfold prepOper at hp
 split at hp
 case h_1=>cases hp
 rename_i i' hop
 have hp:=(ite_some hp).2
 split at hp
 ·rename_i hg
  simp only[Option.some.injEq]at hp
  subst hp
  refine⟨rfl,?_⟩
  simp only[Region.wanted,hg,if_true]
  simp only[stepG]at hs
  exact prepOp_ok hR hK rfl hop hM hs
 ·rename_i j b hg
  split at hp
  case h_2=>cases hp
  rename_i t ht
  split at hp
  case isFalse=>cases hp
  rename_i hlt
  simp only[Option.some.injEq]at hp
  subst hp
  refine⟨rfl,?_⟩
  simp only[stepG]at hs
  obtain⟨hlt2,hs⟩:=ite_some hs
  have hsz:t<a.tmps.size:=by rw[hR.size];exact hlt2
  have hgt:a.tmps[t]? =some (a.tmps.getD t undef):=by
   simp[Array.getD,hsz]
  have htm:=hR.tm t
  have hy:yielded ops a.tmps j=match a.tmps.getD t undef with
    | .bool b=>some b
    |_=>none:=by
   unfold yielded
   rw[ht]
   simp only[Option.bind_some,hgt]
   cases a.tmps.getD t undef<;>rfl
  simp only[Region.wanted,hg,hy]
  split at hs
  ·rename_i b1 hb1
   rw[hb1]at htm
   rw[htm.sc_inv.1]
   by_cases hbb:b1=b
   ·subst hbb
    simp only[if_true]at hs
    simp only[beq_self_eq_true,if_true]
    exact prepOp_ok hR hK rfl hop hM hs
   ·rw[if_neg hbb]at hs
    have:(some b1==some b)=false:=by simp[hbb]
    simp only[this,Bool.false_eq_true,if_false]
    exact hs
  ·rename_i hb1
   rw[hb1]at htm
   generalize a.tmps.getD t undef=u at htm
   cases htm
   have:((match undef with
    | .bool b=>some b
    |_=>none)==some b)=false:=by simp[undef]
   simp only[this,Bool.false_eq_true,if_false]
   exact hs
  ·cases hs
theorem prepOpers_get {h:Hint} {n r:Nat} {ops:Array Oper}: ∀ {l:List Oper} {i:Nat} {ins:List Ins},prepOpers P h n r ops i l=some ins->ins.length=l.length/\
  ∀ (k:Nat) o x,l[k]? =some o->ins[k]? =some x->prepOper P h n r ops (i+k) o=some x
 |[],i,ins,hp=>by
  simp only[prepOpers,Option.some.injEq]at hp
  subst hp
  exact⟨rfl,fun k o x h _=>by simp at h⟩
 |o::l,i,ins,hp=>by
  simp only[prepOpers]at hp
  split at hp
  case h_2=>cases hp
  rename_i x m hx hm
  simp only[Option.some.injEq]at hp
  subst hp
  obtain⟨g1,g2⟩:=prepOpers_get hm
  refine⟨by simp[g1],fun k o' x' h1 h2=> ?_⟩
  cases k with
  |zero=>
   simp only[List.getElem?_cons_zero,Option.some.injEq]at h1 h2
   subst h1;subst h2
   exact hx
  |succ k=>
   simp only[List.getElem?_cons_succ]at h1 h2
   have:=g2 k o' x' h1 h2
   rwa [show i+1+k=i+(k+1)by omega]at this
theorem steps_ok (hK:KOk P K) {h:Hint} {n r:Nat} {ops:Array Oper}: ∀ {l:List Ins} {i:Nat} {e:Env} {s:St} {a:Act},Rel fm e s a->(∀ (k:Nat) x,l[k]? =some x-> ∃o,ops[i+k]? =some o/\prepOper P h n r ops (i+k) o=some x)->
  steps K md l s=some s'->(∀e' a',Rel fm e' s' a'->Q .normal a' e'.w)->wpOps P ops Q (List.range' i l.length) a e.w
 |[],i,e,s,a,hR,hp,hs,hQ=>by
  simp only[steps,Option.some.injEq]at hs
  subst hs
  exact hQ e a hR
 |x::l,i,e,s,a,hR,hp,hs,hQ=>by
  simp only[steps]at hs
  split at hs
  case h_2=>cases hs
  rename_i s1 hs1
  obtain⟨o,ho,hx⟩:=hp 0 x rfl
  simp only[Nat.add_zero]at ho
  have hrest: ∀ {a1:Act} {w1:World},Reach fm e (foot md s x.op) s1 a1 w1->wpOps P ops Q (List.range' (i+1) l.length) a1 w1:=by
   intro a1 w1 hh
   obtain⟨e1,h1,h2,_⟩:=hh
   rw[←h1]
   refine steps_ok (h:=h) (n:=n) (r:=r) hK h2 (fun k y hy=> ?_) hs hQ
   have:=hp (k+1) y (by simpa using hy)
   rwa [show i+(k+1)=i+1+k by omega]at this
  obtain⟨hd,hw⟩:=prepOper_ok (Q:=Q) (M:=foot md s x.op) hR hK hx (foot_ok md s x.op fun o ho=>ho) hs1
  simp only[List.length_cons,List.range'_succ,wpOps,ho]
  split at hw
  ·rename_i hwa
   simp only[hwa,if_true]
   exact .inl (Oper.wp_mono (fun a1 w1 hh=>hrest hh) hw.wp)
  ·rename_i hwa
   simp only[hwa]
   exact hrest ⟨e,rfl,hR.put .und hw,.refl e _⟩
theorem region_ok (hK:KOk P K) {h:Hint} {n r:Nat} {ops:Array Oper} {l:List Ins} (hR:Rel fm e s a) (hp:prepOpers P h n r ops 0 ops.toList=some l) (hs:steps K md l s=some s')
  (hQ: ∀e' a',Rel fm e' s' a'->Q .normal a' e'.w):(Code.region r ops false).wp P Q a e.w:=by
 obtain⟨g1,g2⟩:=prepOpers_get hp
 refine wp_region ?_
 have:=steps_ok (h:=h) (n:=n) (r:=r) (i:=0) (Q:=Q) (ops:=ops) hK hR (fun k x hx=> ?_) hs hQ
 ·rw[g1]at this
  rw[List.range_eq_range']
  simpa using this
 ·have hlt:k<ops.toList.length:=by rw[←g1];exact(List.getElem?_eq_some_iff.1 hx).1
  obtain⟨o,ho⟩:=getElem?_of_lt hlt
  exact⟨o,by simpa using ho,by have:=g2 k o x ho hx;rwa [Nat.zero_add]at this ⊢⟩
end Go.Proofs.YtbolhfegdocpeaaGreat.Ow
namespace Go.Proofs.YtbolhfegdocpeaaGreat.Ow
open Go
variable {P:Program} {ops:Array Oper} {Q:Exit->Act->World->Prop}
abbrev Held:=List (Nat×Nat×Option Go.Obj)
def HeldOk (held:Held) (w:World):Prop:= ∀h∈held,w.heap[h.2.1]? =h.2.2
def Held.cut (held:Held) (ops:Array Oper) (j:Nat):Held:=held.filter fun h=> !ancB ops ops.size h.1 j
def wpAnyG (P:Program) (ops:Array Oper) (Q:Exit->Act->World->Prop):Nat->Held->Array Bool->Act->World->Prop
 |0,_,listed,a,w=>Region.ready .any ops listed=[]/\Q .normal a w
 |fuel+1,held,listed,a,w=>(Region.ready .any ops listed=[]->Q .normal a w)/\
  ∀j∈Region.ready .any ops listed,wpOp P ops Q j (fun a' w'=>HeldOk (held.cut ops j) w'/\wpAnyG P ops Q fuel (held.cut ops j) (listed.setIfInBounds j true) a' w') a w
theorem wpAny_of_G: ∀ (fuel:Nat) (held:Held) (listed:Array Bool) (a:Act) (w:World),wpAnyG P ops Q fuel held listed a w->wpAny P .any ops Q fuel listed a w
 |0,_,_,_,_,h=>h
 |fuel+1,_,_,_,_,h=>⟨h.1,fun i hi=>wpOp_mono (fun a' w' h'=>wpAny_of_G fuel _ _ a' w' h'.2) (h.2 i hi)⟩
theorem wpAnyG_sub: ∀ (fuel:Nat) {held held':Held} {listed:Array Bool} {a:Act} {w:World},(∀h∈held',h∈held)->wpAnyG P ops Q fuel held listed a w->wpAnyG P ops Q fuel held' listed a w
 |0,_,_,_,_,_,_,h=>h
 |fuel+1,held,held',_,_,_,hs,h=>⟨h.1,fun i hi=>wpOp_mono (fun a' w' h'=>by
   have hc: ∀h∈held'.cut ops i,h∈held.cut ops i:=fun x hx=>by
    unfold Held.cut at*
    rw[List.mem_filter]at*
    exact⟨hs x hx.1,hx.2⟩
   exact⟨fun x hx=>h'.1 x (hc x hx),wpAnyG_sub fuel hc h'.2⟩) (h.2 i hi)⟩
def Closed (ops:Array Oper) (listed:Array Bool):Prop:= ∀k o,listed.getD k false=true->ops[k]? =some o-> ∀e∈o.after,Region.binds .any e=true->listed.getD e.on false=true
theorem closed_start (n:Nat):Closed ops (Array.replicate n false):=fun k o h _=>by
 exfalso
 simp only[Array.getD_eq_getD_getElem?,Array.getElem?_replicate]at h
 split at h<;>simp at h
theorem getD_set_self {listed:Array Bool} {i k:Nat} (h:(listed.setIfInBounds i true).getD k false=true):k=i\/listed.getD k false=true:=by
 by_cases hik:i=k
 ·exact .inl hik.symm
 ·right;rwa [getD_set_ne false hik]at h
theorem closed_set {listed:Array Bool} {j:Nat} (hc:Closed ops listed) (hj:j∈Region.ready .any ops listed):Closed ops (listed.setIfInBounds j true):=by
 intro k o hk ho e he hb
 obtain⟨_,oj,hoj,hall⟩:=mem_ready.1 hj
 refine getD_set_true ?_
 rcases getD_set_self hk with rfl|hk
 ·rw[hoj]at ho;cases ho;exact hall e he hb
 ·exact hc k o hk ho e he hb
theorem ancB_listed {listed:Array Bool} (hc:Closed ops listed): ∀ (n i j:Nat),(∀o,ops[j]? =some o-> ∀e∈o.after,Region.binds .any e=true->listed.getD e.on false=true)->ancB ops n i j=true->listed.getD i false=true
 |0,i,j,_,h=>by simp[ancB]at h
 |n+1,i,j,hj,h=>by
  simp only[ancB]at h
  split at h
  ·rename_i o ho
   obtain⟨e,he,h2⟩:=List.any_eq_true.1 h
   simp only[Bool.and_eq_true,Bool.or_eq_true,beq_iff_eq]at h2
   have hl:=hj o ho e (by simpa using he) h2.1
   rcases h2.2 with h3|h3
   ·rwa [h3]at hl
   ·exact ancB_listed hc n i e.on (fun o' ho' e' he' hb'=>hc e.on o' hl ho' e' he' hb') h3
  ·cases h
theorem ready_not_anc {listed:Array Bool} (hc:Closed ops listed) {i j:Nat} (hi:i∈Region.ready .any ops listed) (hj:j∈Region.ready .any ops listed):ancB ops ops.size i j=false:=by
 cases h:ancB ops ops.size i j with
 |false=>rfl
 |true=>
  obtain⟨_,oj,hoj,hall⟩:=mem_ready.1 hj
  have h1:=ancB_listed hc ops.size i j (fun o ho e he hb=>by rw[hoj]at ho;cases ho;exact hall e he hb) h
  have h0:=(mem_ready.1 hi).1
  rcases Nat.lt_or_ge i listed.size with h'|h'
  ·simp[h']at h0 h1;rw[h0]at h1;cases h1
  ·simp[Array.getElem?_eq_none h']at h1
theorem HeldOk.cut {held:Held} {w:World} (h:HeldOk held w) (j:Nat):HeldOk (held.cut ops j) w:=fun x hx=>h x (List.mem_filter.1 hx).1
theorem hoist {i:Nat} {oi:Oper} {v:Value} {ex:Held} (hi:ops[i]? =some oi) (hsel: ∀ (j:Nat) (o:Oper) cs b,ops[j]? =some o->o.op≠ .select cs b)
  (hQ: ∀c a w,Q (.panic c) (a.put oi.dst v) w->Q (.panic c) a w) (hex: ∀h∈ex,h.1=i):
  ∀ (fuel:Nat) (held:Held) (listed:Array Bool) (a:Act) (w:World),Closed ops listed->
   (∀j oj,ops[j]? =some oj->j≠i->listed.getD j true=false->(∀e∈oj.after,Region.binds .any e=true->e.on≠i)->oi.apart ops oj=true)->
   i∈Region.ready .any ops listed->YieldsIf P ops (HeldOk ex) oi v a->HeldOk ex w->HeldOk held w->
   wpAnyG P ops Q fuel (ex++held) (listed.setIfInBounds i true) (a.put oi.dst v) w->wpAnyG P ops Q (fuel+1) held listed a w:=by
 intro fuel
 induction fuel with
 |zero=>
  intro held listed a w hcl _ hr hy hS hH H
  refine⟨fun h=>(by rw[h]at hr;cases hr),fun j hj=> ?_⟩
  by_cases hji:j=i
  ·subst hji;exact hy.wpOp hi hS ⟨hH.cut _,H⟩
  ·have:=ready_mono hj hji
   rw[H.1]at this
   cases this
 |succ fuel ih=>
  intro held listed a w hcl hfree hr hy hS hH H
  refine⟨fun h=>(by rw[h]at hr;cases hr),fun j hj=> ?_⟩
  by_cases hji:j=i
  ·subst hji
   refine hy.wpOp hi hS ⟨hH.cut _,wpAnyG_sub _ (fun x hx=> ?_) H⟩
   exact List.mem_append_right _ (List.mem_filter.1 hx).1
  ·have h1:=H.2 j (ready_mono hj hji)
   obtain⟨hjun,oj,hoj,hall⟩:=mem_ready.1 hj
   have hna:=ready_not_anc hcl hr hj
   have hcut:Held.cut (ex++held) ops j=ex++Held.cut held ops j:=by
    unfold Held.cut
    rw[List.filter_append]
    congr 1
    rw[List.filter_eq_self]
    intro x hx
    rw[hex x hx,hna]
    rfl
   rw[hcut]at h1
   have hnot: ∀e∈oj.after,Region.binds .any e=true->e.on≠i:=fun e he hb heq=>by
    have h1:=hall e he hb
    have h0:=(mem_ready.1 hr).1
    rw[heq]at h1
    rcases Nat.lt_or_ge i listed.size with h'|h'
    ·simp[h']at h0 h1;rw[h0]at h1;cases h1
    ·simp[Array.getElem?_eq_none h']at h1
   have h2:=wpOp_putIf hoj (hfree j oj hoj hji hjun hnot) (fun cs b=>hsel i oi cs b hi) (fun cs b=>hsel j oj cs b hoj) hQ hy h1
   have hfree': ∀k ok,ops[k]? =some ok->k≠i->(listed.setIfInBounds j true).getD k true=false->
     (∀e∈ok.after,Region.binds .any e=true->e.on≠i)->oi.apart ops ok=true:=fun k ok hk hki hun hno=>by
    refine hfree k ok hk hki ?_ hno
    by_cases hjk:j=k
    ·subst hjk;exact hjun
    ·rw[getD_set_ne true hjk]at hun;exact hun
   refine wpOp_mono (fun a' w' h3=> ?_) h2
   obtain⟨g1,g2,g3⟩:=h3
   have gex:HeldOk ex w':=fun x hx=>g2 x (List.mem_append_left _ hx)
   have ghd:HeldOk (Held.cut held ops j) w':=fun x hx=>g2 x (List.mem_append_right _ hx)
   refine⟨ghd,ih (Held.cut held ops j) (listed.setIfInBounds j true) a' w' (closed_set hcl hj) hfree' (ready_mono hr (Ne.symm hji)) g1 gex ghd ?_⟩
   rw[Array.setIfInBounds_comm _ _ hji]
   exact g3
theorem Oper.wp_keep {o:Oper} {a:Act} {w:World} {K:Act->World->Prop} (h:o.wp P a w K Q):
  o.wp P a w (fun a' w'=>K a' w'/\ ∀x,(∀d,o.dst=some d->x≠ .tmp d)->a'.eval x=a.eval x) Q:=by
 have hp: ∀v x,(∀d,o.dst=some d->x≠ .tmp d)->(a.put o.dst v).eval x=a.eval x:=fun v x hx=>Act.eval_put hx
 unfold Oper.wp at*
 generalize (execOp a.eval o).run P w=r at*
 cases r with
 |ok n w'=>
  cases n<;>simp only[Oper.upon]at h ⊢
  case value u=>exact⟨h,hp u⟩
  case skip=>exact⟨h,hp _⟩
  case defer d=>
   refine⟨h,fun x hx=> ?_⟩
   rw[Act.eval_put hx]
   cases x<;>rfl
  case enter f args=>exact Calls.mono h fun e w'' he=>by cases e<;>first|exact⟨he,hp _⟩|exact he
  case row row args=>exact Rows.mono h fun u w'' he=>⟨he,hp u⟩
 |halt x w'=>cases x<;>simp only[Oper.upon]at h ⊢ <;>exact h
end Go.Proofs.YtbolhfegdocpeaaGreat.Ow
namespace Go.Proofs.YtbolhfegdocpeaaGreat.Ow
open Go
variable {P:Program} {fm fm0:Fm} {M:List Nat} {e e' e0:Env} {s s':St} {a a':Act} {Q:Exit->Act->World->Prop}
variable {K:Nat->List Arg->Option Res} {md:Nat->List Nat}
structure Alk (x y:St):Prop where
 n:x.n=y.n
 m:x.m=y.m
 tm: ∀t,getT x.tm t=getT y.tm t
 ob: ∀o,getO x.ob o=getO y.ob o
theorem Alk.refl (x:St):Alk x x:=⟨rfl,rfl,fun _=>rfl,fun _=>rfl⟩
theorem Alk.trans {x y z:St} (h:Alk x y) (h':Alk y z):Alk x z:=⟨h.n.trans h'.n,h.m.trans h'.m,fun t=>(h.tm t).trans (h'.tm t),fun o=>(h.ob o).trans (h'.ob o)⟩
theorem Alk.symm {x y:St} (h:Alk x y):Alk y x:=⟨h.n.symm,h.m.symm,fun t=>(h.tm t).symm,fun o=>(h.ob o).symm⟩
theorem Rel.alk (hR:Rel fm e s a) (h:Alk s s'):Rel fm e s' a:=
 ⟨hR.mem,fun o=>by rw[hR.ob,h.ob],fun o k rows ho=>hR.pinh o k rows (h.m ▸ ho),fun o cs ho=>hR.pinb o cs (h.m ▸ ho),by rw[hR.size,h.n],hR.defers,fun t=>h.tm t ▸ hR.tm t⟩
theorem getT_insT (x:Nat×AV) (t:Nat): ∀l:List (Nat×AV),getT (insT x l) t=if t=x.1 then x.2 else getT l t
 |[]=>rfl
 |y::l=>by
  simp only[insT]
  split
  ·rfl
  ·rename_i hlt
   simp only[getT,getT_insT x t l]
   by_cases h1:t=y.1
   ·rw[if_pos h1,if_pos h1,if_neg (by omega)]
   ·rw[if_neg h1,if_neg h1]
theorem getT_sortT (t:Nat): ∀l:List (Nat×AV),getT (sortT l) t=getT l t
 |[]=>rfl
 |x::l=>by simp only[sortT,getT_insT,getT_sortT t l];rfl
theorem getO_insO (x:Nat×Obj) (t:Nat): ∀l:List (Nat×Obj),getO (insO x l) t=if t=x.1 then x.2 else getO l t
 |[]=>rfl
 |y::l=>by
  simp only[insO]
  split
  ·rfl
  ·rename_i hlt
   simp only[getO,getO_insO x t l]
   by_cases h1:t=y.1
   ·rw[if_pos h1,if_pos h1,if_neg (by omega)]
   ·rw[if_neg h1,if_neg h1]
theorem getO_sortO (t:Nat): ∀l:List (Nat×Obj),getO (sortO l) t=getO l t
 |[]=>rfl
 |x::l=>by simp only[sortO,getO_insO,getO_sortO t l];rfl
theorem Alike2.alk {x y:St} (h:Alike2 x y):Alk x y:=by
 obtain⟨h1,h2,h3,h4⟩:=h
 exact⟨h1,h2,fun t=>by rw[←getT_sortT t x.tm,h3,getT_sortT],fun o=>by rw[←getO_sortO o x.ob,h4,getO_sortO]⟩
theorem same2_some {x y:Option St} {s:St} (h:same2 x y=some s):x=some s/\ ∃s',y=some s'/\Alk s' s:=by
 unfold same2 at h
 split at h
 ·rename_i s1 s2
  split at h
  ·rename_i h1
   cases h
   exact⟨rfl,s2,rfl,h1.alk.symm⟩
  ·cases h
 ·cases h
theorem altD_ok {f:Nat->Option D}: ∀ {rs:List Nat} {r:Nat} {t:D} {s':St},altD f r rs=some t->runD K md t s=some s'-> ∀j∈r::rs,∃tj sj,f j=some tj/\runD K md tj s=some sj/\Alk sj s'
 |[],r,t,s',h,hr,j,hj=>by
  simp only[List.mem_singleton]at hj
  subst hj
  exact⟨t,s',h,hr,.refl _⟩
 |r'::rs,r,t,s',h,hr,j,hj=>by
  simp only[altD]at h
  split at h
  case h_2=>cases h
  rename_i ta tb ha hb
  cases h
  simp only[runD]at hr
  obtain⟨h1,s2,h2,h3⟩:=same2_some hr
  rcases List.mem_cons.1 hj with rfl|hj
  ·exact⟨ta,s',ha,h1,.refl _⟩
  ·obtain⟨tj,sj,g1,g2,g3⟩:=altD_ok hb h2 j hj
   exact⟨tj,sj,g1,g2,g3.trans h3⟩
theorem firstQ_spec {ops:Array Oper} {l:List Ins} {listed:Array Bool} {j:Nat} {x:Ins}: ∀ {js:List Nat},firstQ ops l listed js=some (j,x)->
  j∈js/\l[j]? =some x/\(pureI x.op||loadI x.op)=true/\Region.free .any ops listed j=true
 |[],h=>by cases h
 |i::js,h=>by
  simp only[firstQ]at h
  split at h
  ·rename_i y hy
   split at h
   ·rename_i hc
    cases h
    simp only[Bool.and_eq_true]at hc
    exact⟨List.mem_cons_self,hy,hc.1,hc.2⟩
   ·obtain⟨h1,h2⟩:=firstQ_spec h
    exact⟨List.mem_cons_of_mem _ h1,h2⟩
  ·obtain⟨h1,h2⟩:=firstQ_spec h
   exact⟨List.mem_cons_of_mem _ h1,h2⟩
theorem prepOper_g {h:Hint} {n r i:Nat} {ops:Array Oper} {o:Oper} {ins:Ins} (hp:prepOper P h n r ops i o=some ins):
  ins.d=o.dst/\((o.guard=none/\ins.g=none)\/ ∃j b t,o.guard=some (j,b)/\(ops[j]?).bind (·.dst)=some t/\ins.g=some (t,b)):=by
 unfold prepOper at hp
 split at hp
 case h_1=>cases hp
 rename_i i' hop
 have hp:=(ite_some hp).2
 split at hp
 ·rename_i hg
  simp only[Option.some.injEq]at hp
  subst hp
  exact⟨rfl,.inl ⟨hg,rfl⟩⟩
 ·rename_i j b hg
  split at hp
  case h_2=>cases hp
  rename_i t ht
  obtain⟨_,hp⟩:=ite_some hp
  simp only[Option.some.injEq]at hp
  subst hp
  exact⟨rfl,.inr ⟨j,b,t,hg,ht,rfl⟩⟩
theorem yield_at (tmps:Array Value) (t:Nat):(match tmps[t]? with
  |some (.bool b)=>some b
  |_=>none)=(match tmps.getD t undef with
  | .bool b=>some b
  |_=>none):=by
 rw[Array.getD_eq_getD_getElem?]
 cases tmps[t]? with
 |none=>rfl
 |some v=>cases v<;>rfl
theorem yielded_at {ops:Array Oper} {g t:Nat} (a:Act) (h:(ops[g]?).bind (·.dst)=some t):yielded ops a.tmps g=match a.tmps.getD t undef with
  | .bool b=>some b
  |_=>none:=by
 unfold yielded
 rw[h,←yield_at]
 rfl
theorem wanted_keep {ops:Array Oper} {o:Oper} {d:Option Nat} (hk: ∀x,(∀t,d=some t->x≠ .tmp t)->a'.eval x=a.eval x) (hd: ∀t,d=some t->t∉o.looksAt ops):
  Region.wanted o (yielded ops a'.tmps)=Region.wanted o (yielded ops a.tmps):=by
 unfold Region.wanted
 cases hg:o.guard with
 |none=>rfl
 |some gw=>
  obtain⟨g,want⟩:=gw
  have:yielded ops a'.tmps g=yielded ops a.tmps g:=by
   cases ht:(ops[g]?).bind (·.dst)with
   |none=>simp[yielded,ht]
   |some t=>
    rw[yielded_at a ht,yielded_at a' ht]
    have:=hk (.tmp t) (fun u hu hc=>by
     cases hc
     exact hd t hu (by simp[Oper.looksAt,hg,ht]))
    simp only[Act.eval]at this
    rw[this]
  simp only[this]
structure HInv (P:Program) (ops:Array Oper) (l:List Ins) (held:List Nat) (H:Held) (a:Act):Prop where
 one: ∀h∈H,h.1∈held/\ ∃x o t y n X tx off,l[h.1]? =some x/\ops[h.1]? =some o/\x.op= .load n X/\o.op= .load t y/\xOf P tx y=some X/\
  Region.wanted o (yielded ops a.tmps)=true/\a.eval y= .pointer (some ⟨h.2.1,off,none⟩)
theorem HInv.next {ops:Array Oper} {l:List Ins} {held held':List Nat} {H H':Held} (hI:HInv P ops l held H a) {x:Ins} (hkb:keepB ops held' x=true) (hs: ∀h∈H',h∈H/\h.1∈held')
  (hk: ∀y,(∀t,x.d=some t->y≠ .tmp t)->a'.eval y=a.eval y):HInv P ops l held' H' a':=by
 refine⟨fun h hh=> ?_⟩
 obtain⟨g1,g2⟩:=hs h hh
 obtain⟨_,x',o,t,y,n,X,tx,off,y1,y2,y3,y4,y5,y6,y7⟩:=hI.one h g1
 have hno: ∀t,x.d=some t->t∉o.looksAt ops:=fun t ht=>by
  have:=List.all_eq_true.1 hkb h.1 g2
  simp only[y2,ht]at this
  simpa using this
 refine⟨g2,x',o,t,y,n,X,tx,off,y1,y2,y3,y4,y5,by rw[wanted_keep hk hno];exact y6,?_⟩
 rw[hk y (fun u hu hc=>hno u hu ?_)]
 ·exact y7
 ·subst hc
  refine List.mem_append_left _ (List.mem_filterMap.2 ⟨.tmp u,?_,rfl⟩)
  simp[y4,Op.operands]
theorem hang_ok (hR:Rel fm e s a) {h:Hint} {n r i:Nat} {ops:Array Oper} {o:Oper} {ins x:Ins} (hp:prepOper P h n r ops i o=some x) {m:Option Nat} {X:X} (hx:x.op= .load m X) {tx:TypeId} {y:Operand}
  (hX:xOf P tx y=some X) (hw:Region.wanted o (yielded ops a.tmps)=true) {b off:Nat} (hv:a.eval y= .pointer (some ⟨b,off,none⟩)) (hh:hangOk md s ins x=true)
  (hE:Evo e e' (foot md s ins.op)):e'.w.heap[b]? =e.w.heap[b]? :=by
 unfold hangOk at hh
 simp only[Bool.or_eq_true]at hh
 rcases hh with hh|hh
 ·exfalso
  obtain⟨_,hg⟩:=prepOper_g hp
  rcases hg with ⟨_,hg⟩|⟨j,bb,t,g1,g2,g3⟩
  ·rw[hg]at hh;cases hh
  ·rw[g3]at hh
   simp only at hh
   simp only[Region.wanted,g1,yielded_at a g2,beq_iff_eq]at hw
   have htm:=hR.tm t
   split at hh
   ·rename_i b1 hb1
    rw[hb1]at htm
    rw[htm.sc_inv.1]at hw
    simp only[Option.some.injEq]at hw
    subst hw
    simp at hh
   ·rename_i hb1
    rw[hb1]at htm
    generalize a.tmps.getD t undef=u at htm hw
    cases htm
    simp[undef]at hw
   ·cases hh
 ·rw[hx]at hh
  simp only at hh
  have h1:=xOf_ok hR hX
  rw[hv]at h1
  have key: ∀ {l:Pl},e.blk l=some b->l.obj∉foot md s ins.op->e'.w.heap[b]? =e.w.heap[b]? :=fun {l} hl hn=>
   hE.same b (hR.mem.own l b hl).1 fun l2 h2 h3=>hn (by rw[hR.mem.inj l l2 b hl h2];exact h3)
  split at hh
  ·rename_i cs hcs
   rw[hcs]at h1
   cases h1 with
   |pim v cs hp=>
   obtain⟨b',off',he,him,_⟩:=hp
   cases he
   exact hE.same b (hR.mem.im b him).1 fun l hl=>absurd him (hR.mem.own l b hl).2.2
  ·rename_i o' p i' j' hcs
   rw[hcs]at h1
   generalize hvv:Value.pointer (some (⟨b,off,none⟩:Addr))=vv at h1
   cases h1 with
   |pa o p i j k b2 off2 n' c rows hn hh2 hc=>
   cases hvv
   refine key (l:= .nd o' p) ?_ (by simpa[Pl.obj]using hh)
   simp only[Env.blk,hn,hh2,blkOf,if_pos hc]
  ·rename_i o' j' hcs
   rw[hcs]at h1
   generalize hvv:Value.pointer (some (⟨b,off,none⟩:Addr))=vv at h1
   cases h1 with
   |pb o j cs hb=>
   cases hvv
   exact key (l:= .bx o') (by simp only[Env.blk,hb]) (by simpa[Pl.obj]using hh)
  ·cases hh
end Go.Proofs.YtbolhfegdocpeaaGreat.Ow
namespace Go.Proofs.YtbolhfegdocpeaaGreat.Ow
open Go
variable {P:Program} {fm fm0:Fm} {M:List Nat} {e e' e0:Env} {s s':St} {a a':Act} {Q:Exit->Act->World->Prop}
variable {K:Nat->List Arg->Option Res} {md:Nat->List Nat}
def EndQ (fm:Fm) (s:St):Exit->Act->World->Prop
 | .normal,a,w=> ∃e',e'.w=w/\Rel fm e' s a
 |_,_,_=>False
theorem endQ_panic {s:St} {c:List PanicEntry} {a:Act} {w:World} (h:EndQ fm s (.panic c) a w):False:=h
theorem stepG_put {x:Ins} {o:Oper} (hd:x.d=o.dst): ∀y,(∀t,o.dst=some t->y≠Operand.tmp t)<->(∀t,x.d=some t->y≠Operand.tmp t):=by rw[hd];exact fun _=>Iff.rfl
theorem runD_ok (hK:KOk P K) {h:Hint} {n r:Nat} {ops:Array Oper} {l:List Ins} (hsel: ∀ (j:Nat) (o:Oper) cs b,ops[j]? =some o->o.op≠ .select cs b)
  (hp: ∀ (k:Nat) o x,ops[k]? =some o->l[k]? =some x->prepOper P h n r ops k o=some x):
  ∀ (N:Nat) (t:D) (listed:Array Bool) (held:List Nat) (H:Held) (e:Env) (s s' s2:St) (a:Act),prepD ops l N listed held=some t->Closed ops listed->HInv P ops l held H a->HeldOk H e.w->Rel fm e s a->
   runD K md t s=some s'->Alk s' s2->wpAnyG P ops (EndQ fm s2) N H listed a e.w:=by
 intro N
 induction N with
 |zero=>
  intro t listed held H e s s' s2 a ht hcl hI hH hR hr hA
  simp only[prepD]at ht
  split at ht
  ·rename_i hrd
   cases ht
   simp only[runD,Option.some.injEq]at hr
   subst hr
   exact⟨hrd,e,rfl,hR.alk hA⟩
  ·cases ht
 |succ N ih=>
  intro t listed held H e s s' s2 a ht hcl hI hH hR hr hA
  simp only[prepD]at ht
  split at ht
  ·rename_i hrd
   cases ht
   simp only[runD,Option.some.injEq]at hr
   subst hr
   exact⟨fun _=>⟨e,rfl,hR.alk hA⟩,fun j hj=>by rw[hrd]at hj;cases hj⟩
  rename_i r0 rs hrd
  split at ht
  ·rename_i j x hq
   obtain⟨q1,q2,q3,q4⟩:=firstQ_spec hq
   generalize hheld:(if loadI x.op=true then j::held else held)=held' at ht
   obtain⟨hkb,ht⟩:=ite_some ht
   obtain⟨t',ht',rfl⟩:=map_inj ht
   simp only[runD]at hr
   split at hr
   case h_2=>cases hr
   rename_i s1 hs1
   have hj:j∈Region.ready .any ops listed:=by rw[hrd];exact q1
   obtain⟨_,o,ho,_⟩:=mem_ready.1 hj
   obtain⟨hd,hw⟩:=prepOper_ok (M:=foot md s x.op) (Q:=EndQ fm s2) hR hK (hp j o x ho q2) (foot_ok md s x.op fun o ho=>ho) hs1
   have hfree:=Region.free_spec ho q4
   have hcl':=closed_set hcl hj
   have hsub: ∀i∈held,i∈held':=fun i hi=>by rw[←hheld];split<;>simp[hi]
   have hkeep: ∀v y,(∀t,x.d=some t->y≠Operand.tmp t)->(a.put o.dst v).eval y=a.eval y:=fun v y hy=>Act.eval_put fun d hd'=>hy d (hd.trans hd')
   have hI': ∀v,HInv P ops l held' H (a.put o.dst v):=fun v=>by
    have hI0:HInv P ops l held' H a:=⟨fun h hh=>⟨hsub _ (hI.one h hh).1,(hI.one h hh).2⟩⟩
    exact hI0.next hkb (fun h hh=>⟨hh,(hI0.one h hh).1⟩) (hkeep v)
   split at hw
   ·rename_i hwa
    by_cases hpu:pureI x.op=true
    ·obtain⟨v,y,g1,g2,g3⟩:=hw.yl hpu
     refine hoist (ex:=[]) (v:=v) ho hsel (fun c a w hh=>(endQ_panic hh).elim) (fun h hh=>by cases hh) N H listed a e.w hcl hfree hj (.inl ⟨hwa,fun w _=>g1 w⟩) (fun h hh=>by cases hh) hH ?_
     exact ih t' _ held' H e s1 s' s2 (a.put o.dst v) ht' hcl' (hI' v) hH (hR.put g2 g3) hr hA
    ·have hld:loadI x.op=true:=by
      rw[Bool.or_eq_true]at q3
      exact q3.resolve_left hpu
     obtain⟨tt,y,n',X,v,z,b,off,y1,y2,⟨tx,y3⟩,y4,y5,y6,y7⟩:=hw.ld hld
     refine hoist (ex:=[(j,b,e.w.heap[b]?)]) (v:=v) ho hsel (fun c a w hh=>(endQ_panic hh).elim) (fun h hh=>by simp only[List.mem_singleton]at hh;rw[hh]) N H listed a e.w hcl hfree hj
      (.inl ⟨hwa,fun w hwh=>y5 w (hwh _ (List.mem_singleton.2 rfl))⟩) (fun h hh=>by simp only[List.mem_singleton]at hh;rw[hh]) hH ?_
     have hjh:j∈held':=by rw[←hheld,if_pos hld];exact List.mem_cons_self
     have hI0:HInv P ops l held' ([(j,b,e.w.heap[b]?)]++H) a:=⟨fun h hh=>by
      rcases List.mem_cons.1 hh with rfl|hh
      ·exact⟨hjh,x,o,tt,y,n',X,tx,off,q2,ho,y2,y1,y3,hwa,y4⟩
      ·exact⟨hsub _ (hI.one h hh).1,(hI.one h hh).2⟩⟩
     refine ih t' _ held' _ e s1 s' s2 (a.put o.dst v) ht' hcl' (hI0.next hkb (fun h hh=>⟨hh,(hI0.one h hh).1⟩) (hkeep v)) (fun h hh=> ?_) (hR.put y6 y7) hr hA
     rcases List.mem_cons.1 hh with rfl|hh
     ·rfl
     ·exact hH h hh
   ·rename_i hwa
    refine hoist (ex:=[]) (v:=undef) ho hsel (fun c a w hh=>(endQ_panic hh).elim) (fun h hh=>by cases hh) N H listed a e.w hcl hfree hj (.inr ⟨by simpa using hwa,rfl⟩) (fun h hh=>by cases hh) hH ?_
    exact ih t' _ held' H e s1 s' s2 (a.put o.dst undef) ht' hcl' (hI' undef) hH (hR.put .und hw) hr hA
  ·refine⟨fun h0=>(by rw[hrd]at h0;cases h0),fun j hj=> ?_⟩
   have hj0:=hj
   rw[hrd]at hj
   obtain⟨tj,sj,g1,g2,g3⟩:=altD_ok ht hr j hj
   have hA':=g3.trans hA
   split at g1
   case h_2=>cases g1
   rename_i x hx
   obtain⟨hkb,g1⟩:=ite_some g1
   obtain⟨t',ht',rfl⟩:=map_inj g1
   simp only[runD]at g2
   obtain⟨hhang,g2⟩:=ite_some g2
   split at g2
   case h_2=>cases g2
   rename_i s1 hs1
   obtain⟨_,o,ho,_⟩:=mem_ready.1 hj0
   obtain⟨hd,hw⟩:=prepOper_ok (M:=foot md s x.op) (Q:=EndQ fm s2) hR hK (hp j o x ho hx) (foot_ok md s x.op fun o ho=>ho) hs1
   have hcl':=closed_set hcl hj0
   have hcut: ∀h∈H.cut ops j,h∈H/\h.1∈hangs ops held j:=fun h hh=>by
    obtain⟨z1,z2⟩:=List.mem_filter.1 hh
    exact⟨z1,List.mem_filter.2 ⟨(hI.one h z1).1,z2⟩⟩
   unfold wpOp
   simp only[ho]
   split at hw
   ·rename_i hwa
    rw[if_pos hwa]
    refine .inl (Oper.wp_mono (fun a' w' hh=> ?_) (Oper.wp_keep hw.wp))
    obtain⟨⟨e1,z1,z2,z3⟩,hkeep⟩:=hh
    have hI':=hI.next hkb hcut fun y hy=>hkeep y fun t ht=>hy t (hd.trans ht)
    have hH':HeldOk (H.cut ops j) w':=fun h hh=>by
     obtain⟨c1,c2⟩:=hcut h hh
     obtain⟨_,x',o',t,y,n',X,tx,off,y1,y2,y3,y4,y5,y6,y7⟩:=hI.one h c1
     have hin:x'∈(hangs ops held j).filterMap fun i=>l[i]? :=List.mem_filterMap.2 ⟨h.1,c2,y1⟩
     have:=hang_ok hR (hp h.1 o' x' y2 y1) y3 y5 y6 y7 (List.all_eq_true.1 hhang x' hin) z3
     rw[←z1,this,hH h c1]
    rw[←z1]at hH' ⊢
    exact⟨hH',ih t' _ _ _ e1 s1 sj s2 a' ht' hcl' hI' hH' z2 g2 hA'⟩
   ·rename_i hwa
    rw[if_neg hwa]
    exact⟨hH.cut j,ih t' _ _ _ e s1 sj s2 (a.put o.dst undef) ht' hcl' (hI.next hkb hcut fun y hy=>Act.eval_put fun d hd'=>hy d (hd.trans hd')) (hH.cut j) (hR.put .und hw) g2 hA'⟩
theorem Rel.drew (hR:Rel fm e s a): ∃e',e'.w={e.w with drawn:=e.w.drawn+1}/\Rel fm e' s a:=by
 let e':Env:={e with w:={e.w with drawn:=e.w.drawn+1}}
 have hM:=hR.mem
 have hcar:Carry e e' fun o p=>some (o,p):=⟨fun b hb=>⟨hb,rfl⟩,fun o p k rows o' p' hn hf=>by cases hf;exact⟨rows,hn,rfl,rfl⟩,fun o cs ho=>⟨cs,ho,rfl⟩,fun o p k rows hn=>(hM.node o p k rows hn).one,rfl⟩
 refine⟨e',rfl,⟨⟨fun o cs ho j c hc=> ?_,fun o p k rows hn=> ?_,hM.inj,hM.own,hM.im,hM.im0,?_,hM.tk⟩,hR.ob,hR.pinh,hR.pinb,hR.size,hR.defers,fun t=>(hR.tm t).carry hcar⟩⟩
 ·obtain⟨h1,u,h2,h3⟩:=hM.box o cs ho j c hc
  exact⟨h1.congr (w':=e'.w) rfl,u,(cellc (w':=e'.w) rfl).trans h2,h3.carry hcar⟩
 ·exact(hM.node o p k rows hn).congr (w':=e'.w) (KinR.refl _) (fun b _=>rfl) (fun i j k1 r1 _=>rfl)
 ·exact⟨hM.keeps.os,hM.keeps.tape,hM.keeps.output,hM.keeps.size,hM.keeps.block⟩
theorem region_draw_ok (hm:P.follows .mixedOrders=true) (hK:KOk P K) {h:Hint} {n r:Nat} {ops:Array Oper} {l:List Ins} {t:D} (hR:Rel fm e s a) (hp:prepOpers P h n r ops 0 ops.toList=some l)
  (hns:Region.noSelect ops=true) (ht:prepD ops l ops.size (Array.replicate ops.size false) []=some t) (hs:runD K md t s=some s')
  (hQ: ∀e' a',Rel fm e' s' a'->Q .normal a' e'.w):(Code.region r ops true).wp P Q a e.w:=by
 obtain⟨g1,g2⟩:=prepOpers_get hp
 obtain⟨e1,h1,h2⟩:=hR.drew
 refine wp_mono (Q:=EndQ fm s') (wp_region_any hm (wpAny_of_G ops.size [] _ a _ ?_)) (fun ex a' w' hh=> ?_)
 ·rw[←h1]
  refine runD_ok (h:=h) (n:=n) (r:=r) hK (Region.noSelect_spec hns) (fun k o x ho hx=> ?_) ops.size t _ [] [] e1 s s' s' a ht (closed_start _) ⟨fun h hh=>by cases hh⟩ (fun h hh=>by cases hh) h2 hs (.refl _)
  have:=g2 k o x (by simpa using ho) hx
  rwa [Nat.zero_add]at this
 ·cases ex with
  |normal=>
   obtain⟨e',q1,q2⟩:=hh
   rw[←q1]
   exact hQ e' a' q2
  |_=>exact hh.elim
end Go.Proofs.YtbolhfegdocpeaaGreat.Ow
namespace Go.Proofs.YtbolhfegdocpeaaGreat.Ow
open Go
variable {P:Program} {fm fm0:Fm} {M:List Nat} {e e' e0:Env} {s s':St} {a a':Act} {Q:Exit->Act->World->Prop}
variable {K:Nat->List Arg->Option Res} {md:Nat->List Nat} {Lp:Nat->List Nat->C->St->Option (Ex×St)}
def Ex.up:Ex->Exit
 | .normal=> .normal
 | .exit id=> .exit id
 | .ret=> .ret
theorem Rel.drop (hR:Rel fm e s a) (l:List Nat):Rel fm e (s.drop l) a:=
 ⟨hR.mem,hR.ob,hR.pinh,hR.pinb,hR.size,hR.defers,fun t=>by
  rcases getT_liveT s.tm t l with h|h
  ·show AvOk e (getT (liveT s.tm l) t) _
   rw[h];exact hR.tm t
  ·show AvOk e (getT (liveT s.tm l) t) _
   rw[h];exact .non _⟩
def LpOk (P:Program) (Lp:Nat->List Nat->C->St->Option (Ex×St)):Prop:= ∀ (fm:Fm) (h:Hint) (n b:Nat) (c:Code) (pc:C) (o:Nat) (live:List Nat) (e:Env) (s s':St) (a:Act) (ex:Ex) (Q:Exit->Act->World->Prop),
 prepC P h n b c=some pc->Rel fm e s a->Lp o live pc s=some (ex,s')->(∀e' a',Rel fm e' s' a'->Q ex.up a' e'.w)->(Code.loop c).wp P Q a e.w
theorem exec_ok (hm:P.follows .mixedOrders=true) (hK:KOk P K) (hL:LpOk P Lp) {h:Hint} {n:Nat}: ∀ (c:Code) (b:Nat) (pc:C) (e:Env) (s s':St) (a:Act) (ex:Ex) (Q:Exit->Act->World->Prop),prepC P h n b c=some pc->
  Rel fm e s a->exec K Lp md pc s=some (ex,s')->(∀e' a',Rel fm e' s' a'->Q ex.up a' e'.w)->c.wp P Q a e.w:=by
 intro c
 induction c with
 |skip=>
  intro b pc e s s' a ex Q hp hR hx hQ
  simp only[prepC,Option.some.injEq]at hp
  subst hp
  simp only[exec,Option.some.injEq,Prod.mk.injEq]at hx
  obtain⟨rfl,rfl⟩:=hx
  exact wp_skip (hQ e a hR)
 |region id ops draw=>
  intro b pc e s s' a ex Q hp hR hx hQ
  simp only[prepC]at hp
  split at hp
  case h_2=>cases hp
  rename_i l hl
  split at hp
  ·rename_i hd
   obtain⟨hns,hp⟩:=ite_some hp
   obtain⟨t,ht,rfl⟩:=map_inj hp
   simp only[exec]at hx
   split at hx
   case h_2=>cases hx
   rename_i s1 hs1
   simp only[Option.some.injEq,Prod.mk.injEq]at hx
   obtain⟨rfl,rfl⟩:=hx
   rw[hd]
   exact region_draw_ok hm hK hR hl hns ht hs1 fun e' a' h'=>hQ e' a' (h'.drop _)
  ·rename_i hd
   simp only[Option.some.injEq]at hp
   subst hp
   simp only[exec]at hx
   split at hx
   case h_2=>cases hx
   rename_i s1 hs1
   simp only[Option.some.injEq,Prod.mk.injEq]at hx
   obtain⟨rfl,rfl⟩:=hx
   have hd:draw=false:=by simpa using hd
   rw[hd]
   exact region_ok hK hR hl hs1 fun e' a' h'=>hQ e' a' (h'.drop _)
 |seq x y ihx ihy=>
  intro b pc e s s' a ex Q hp hR hx hQ
  simp only[prepC]at hp
  split at hp
  case h_2=>cases hp
  rename_i cx cy hcx hcy
  simp only[Option.some.injEq]at hp
  subst hp
  simp only[exec]at hx
  refine wp_seq ?_
  split at hx
  ·rename_i s1 hs1
   refine ihx b cx e s s1 a .normal _ hcx hR hs1 fun e' a' h'=> ?_
   exact ihy b cy e' s1 s' a' ex Q hcy h' hx hQ
  ·rename_i hne
   refine ihx b cx e s s' a ex _ hcx hR hx fun e' a' h'=> ?_
   cases ex with
   |normal=>exact absurd hx (hne s')
   |exit id=>exact hQ e' a' h'
   |ret=>exact hQ e' a' h'
 |cond c x y ihx ihy=>
  intro b pc e s s' a ex Q hp hR hx hQ
  simp only[prepC]at hp
  split at hp
  case h_2=>cases hp
  rename_i t cx cy hc hcx hcy
  simp only[Option.some.injEq]at hp
  subst hp
  simp only[exec]at hx
  split at hx
  case h_2=>cases hx
  rename_i bb hbb
  have h1:=xOf_ok hR hc
  rw[hbb]at h1
  refine wp_cond h1.sc_inv.1 ?_
  cases bb with
  |true=>exact ihx b cx e s s' a ex Q hcx hR (by simpa using hx) hQ
  |false=>exact ihy b cy e s s' a ex Q hcy hR (by simpa using hx) hQ
 |block id x ih=>
  intro b pc e s s' a ex Q hp hR hx hQ
  obtain⟨cx,hcx,rfl⟩:=map_inj hp
  simp only[exec]at hx
  refine wp_block ?_
  split at hx
  ·rename_i j s1 hs1
   refine ih id cx e s s1 a (.exit j) _ hcx hR hs1 fun e' a' h'=> ?_
   simp only[Ex.up,Exit.inBlock]
   split at hx
   ·rename_i hj
    simp only[Option.some.injEq,Prod.mk.injEq]at hx
    obtain⟨rfl,rfl⟩:=hx
    rw[if_pos hj]
    exact hQ e' a' h'
   ·rename_i hj
    simp only[Option.some.injEq,Prod.mk.injEq]at hx
    obtain⟨rfl,rfl⟩:=hx
    rw[if_neg hj]
    exact hQ e' a' h'
  ·rename_i hne
   refine ih id cx e s s' a ex _ hcx hR hx fun e' a' h'=> ?_
   cases ex with
   |normal=>exact hQ e' a' h'
   |exit id=>exact absurd hx (hne id s')
   |ret=>exact hQ e' a' h'
 |loop x ih=>
  intro b pc e s s' a ex Q hp hR hx hQ
  obtain⟨cx,hcx,rfl⟩:=map_inj hp
  simp only[exec]at hx
  exact hL fm h n b x cx _ _ e s s' a ex Q hcx hR hx hQ
 |exit id=>
  intro b pc e s s' a ex Q hp hR hx hQ
  simp only[prepC,Option.some.injEq]at hp
  subst hp
  simp only[exec,Option.some.injEq,Prod.mk.injEq]at hx
  obtain⟨rfl,rfl⟩:=hx
  exact wp_exit (hQ e a hR)
 |ret=>
  intro b pc e s s' a ex Q hp hR hx hQ
  simp only[prepC,Option.some.injEq]at hp
  subst hp
  simp only[exec,Option.some.injEq,Prod.mk.injEq]at hx
  obtain⟨rfl,rfl⟩:=hx
  exact wp_ret (hQ e a hR)
 |_=>intro b pc e s s' a ex Q hp;simp[prepC]at hp
theorem wp_loopN {c:Code} {w:World} (I:Nat->Act->World->Prop) {n0:Nat} (h0:I n0 a w)
  (round: ∀n a w,I n a w->c.wp P (Exit.then (fun a' w'=> ∃m,m<n/\I m a' w') Q) a w):(Code.loop c).wp P Q a w:=by
 intro b k cs
 have key: ∀n a w,I n a w-> ∃e a' w',Q e a' w'/\Arrives P (lone (b.at a (.code c:: .inLoop c::k)) cs w) b k cs e a' w':=by
  intro n
  induction n using Nat.strongRecOn with
  |_ n ih=>
   intro a w hI
   obtain⟨e,a₁,w₁,hq,harr⟩:=round n a w hI b (.inLoop c::k) cs
   cases e with
   |normal=>
    obtain⟨m,hlt,hI₁⟩:=hq
    obtain⟨e₂,a₂,w₂,hq₂,harr₂⟩:=ih m hlt a₁ w₁ hI₁
    exact⟨e₂,a₂,w₂,hq₂,.of_steps (Steps.trans harr (.one step_inLoop)) harr₂⟩
   |exit id=>exact⟨_,a₁,w₁,hq,.pass (x:= .inLoop c) rfl (fun _ _=> .inl (by simp)) harr⟩
   |goto l=>exact⟨_,a₁,w₁,hq,.pass (x:= .inLoop c) rfl (fun _ _=> .inl (by simp)) harr⟩
   |ret=>exact⟨_,a₁,w₁,hq,.pass (x:= .inLoop c) rfl (fun _ _=> .inl (by simp)) harr⟩
   |panic ch=>exact⟨_,a₁,w₁,hq,.pass (x:= .inLoop c) rfl (fun _ _=> .inl (by simp)) harr⟩
   |outgrown=>exact⟨_,a₁,w₁,hq,.pass (x:= .inLoop c) rfl (fun _ _=> .inl (by simp)) harr⟩
 obtain⟨e,a',w',hq,harr⟩:=key _ a w h0
 exact⟨e,a',w',hq,.of_steps (.one step_loop) harr⟩
structure GOk (P:Program) (H:Nat->Hint) (G:Nat->Option PF):Prop where
 prep: ∀f pf,G f=some pf->prep P H f=some pf
theorem endF_ok {args:List Arg} {res:List RP} {x:Option (Ex×St)} {r:Res} (h:endF res args x=some r): ∃ex s,x=some (ex,s)/\(ex= .normal\/ex= .ret)/\s.m=(openArgs 0 0 args).2.2/\leave res args s=some r:=by
 unfold endF at h
 split at h
 ·obtain⟨h1,h2⟩:=ite_some h
  exact⟨_,_,rfl,.inl rfl,h1,h2⟩
 ·obtain⟨h1,h2⟩:=ite_some h
  exact⟨_,_,rfl,.inr rfl,h1,h2⟩
 ·cases h
theorem sem_ok (hm:P.follows .mixedOrders=true) {H:Nat->Hint} {G:Nat->Option PF} {PK:Nat->List Arg->Option Res} (hG:GOk P H G) (hPK:KOk P PK)  (N:Nat):KOk P (sem G PK md N).1/\LpOk P (sem G PK md N).2:=by
 induction N using Nat.strongRecOn with
 |_ N ih=>
 cases N with
 |zero=>exact⟨fun f args r h=>by simp[sem]at h,fun fm h n b c pc o live e s s' a ex Q _ _ hx _=>by simp[sem]at hx⟩
 |succ N=>
  have ⟨hK,hL⟩:=ih N (Nat.lt_succ_self N)
  constructor
  ·intro f args r h
   simp only[sem]at h
   split at h
   ·rename_i pf hpf
    obtain⟨hn,h⟩:=ite_some h
    have hpr:=hG.prep f pf hpf
    unfold prep at hpr
    split at hpr
    case h_2=>cases hpr
    rename_i fn hfn
    unfold prepF at hpr
    split at hpr
    ·cases hpr
    rename_i hname
    split at hpr
    case h_2=>cases hpr
    rename_i c hc
    split at hpr
    case h_2=>cases hpr
    rename_i bb rr hb hrr
    obtain⟨hsz,hpr⟩:=ite_some hpr
    simp only[Option.some.injEq]at hpr
    subst hpr
    refine⟨⟨fn,hfn,hname,by rw[hc];simp⟩,fun fm e vs hE=> ?_⟩
    obtain⟨ex,s,h1,h2,h3,h4⟩:=endF_ok h
    refine calls_of_wp hfn hc ?_
    have hR:=entry_rel hE (n:=fn.ntmps) hn
    refine exec_ok hm hK hL c 0 bb e _ s _ ex _ hb hR h1 fun e' a' hR'=> ?_
    obtain⟨v,e2,g1,g2,g3⟩:=leave_ok hE hR' h3 hrr h4
    have:bodyPost P fn (fun
     | .returned v,w'=> ∃e',e'.w=w'/\ExitOk fm e args r e' v
     |_,_=>False) .normal a' e'.w:=⟨hR'.defers,v,g1,e2,g2,g3⟩
    rcases h2 with rfl|rfl
    ·exact this
    ·exact this
   ·exact hPK f args r h
  ·intro fm h n b c pc o live e s s' a ex Q hp hR hx hQ
   refine wp_loopN (fun n a w=>n<=N+1/\ ∃e s,e.w=w/\Rel fm e s a/\(sem G PK md n).2 o live pc s=some (ex,s')) (n0:=N+1) ⟨Nat.le_refl _,e,s,rfl,hR,hx⟩ ?_
   intro n1 a1 w1 hI
   obtain⟨hle,e1,s1,rfl,hR1,hx1⟩:=hI
   cases n1 with
   |zero=>simp[sem]at hx1
   |succ n1=>
    obtain⟨hK1,hL1⟩:=ih n1 (by omega)
    simp only[sem]at hx1
    obtain⟨hmo,hx1⟩:=ite_some hx1
    obtain⟨e2,hw2,hR2⟩:=canon_ok hR1 hmo live
    rw[←hw2]
    split at hx1
    ·rename_i s2 hs2
     refine exec_ok hm hK1 hL1 c b pc e2 _ s2 a1 .normal _ hp hR2 hs2 fun e' a' h'=> ?_
     exact⟨n1,Nat.lt_succ_self n1,by omega,e',s2,rfl,h',hx1⟩
    ·rename_i hne
     refine exec_ok hm hK1 hL1 c b pc e2 _ s' a1 ex _ hp hR2 hx1 fun e' a' h'=> ?_
     cases ex with
     |normal=>exact absurd hx1 (hne s')
     |exit id=>exact hQ e' a' h'
     |ret=>exact hQ e' a' h'
end Go.Proofs.YtbolhfegdocpeaaGreat.Ow
namespace Go.Proofs.YtbolhfegdocpeaaGreat.Ow
open Go
variable {s s':St}
variable {K K':Nat->List Arg->Option Res} {md:Nat->List Nat} {Lp Lp':Nat->List Nat->C->St->Option (Ex×St)}
def LeK (K K':Nat->List Arg->Option Res):Prop:= ∀f args r,K f args=some r->K' f args=some r
def LeL (Lp Lp':Nat->List Nat->C->St->Option (Ex×St)):Prop:= ∀o live c s r,Lp o live c s=some r->Lp' o live c s=some r
theorem callA_mono (h:LeK K K') {d:Option Nat} {o f:Nat} {xs:List AV} (hx:callA K md s d o f xs=some s'):callA K' md s d o f xs=some s':=by
 unfold callA at hx ⊢
 split at hx
 case h_2=>cases hx
 rename_i g hg
 split at hx
 case h_2=>cases hx
 rename_i r hr
 simp only[hg,h _ _ _ hr]
 exact hx
theorem stepI_mono (h:LeK K K') {d:Option Nat} {i:I} (hx:stepI K md s d i=some s'):stepI K' md s d i=some s':=by
 cases i with
 |call o f xs=>exact callA_mono h hx
 |callc o f xs cs=>
  simp only[stepI]at hx ⊢
  split at hx
  case h_2=>cases hx
  rename_i h1 hh1
  exact callA_mono h hx
 |callv o x xs=>
  simp only[stepI]at hx ⊢
  split at hx
  case h_2=>cases hx
  rename_i f caps hf
  exact callA_mono h hx
 |_=>exact hx
theorem stepG_mono (h:LeK K K') {i:Ins} (hx:stepG K md i s=some s'):stepG K' md i s=some s':=by
 unfold stepG at hx ⊢
 split at hx
 ·exact stepI_mono h hx
 ·obtain⟨h1,hx⟩:=ite_some hx
  rw[if_pos h1]
  split at hx
  ·rename_i b1 hb1
   split at hx
   ·rename_i hb
    simp only[if_pos hb]
    exact stepI_mono h hx
   ·rename_i hb
    simp only[if_neg hb]
    exact hx
  ·exact hx
  ·cases hx
theorem steps_mono (h:LeK K K'): ∀ {l:List Ins} {s s':St},steps K md l s=some s'->steps K' md l s=some s'
 |[],s,s',hx=>hx
 |i::l,s,s',hx=>by
  simp only[steps]at hx ⊢
  split at hx
  case h_2=>cases hx
  rename_i s1 hs1
  simp only[stepG_mono h hs1]
  exact steps_mono h hx
theorem runD_mono (h:LeK K K'): ∀ {t:D} {s s':St},runD K md t s=some s'->runD K' md t s=some s'
 | .fin,s,s',hx=>hx
 | .one i t,s,s',hx=>by
  simp only[runD]at hx ⊢
  split at hx
  case h_2=>cases hx
  rename_i s1 hs1
  simp only[stepG_mono h hs1]
  exact runD_mono h hx
 | .loud i hang t,s,s',hx=>by
  simp only[runD]at hx ⊢
  obtain⟨h1,hx⟩:=ite_some hx
  rw[if_pos h1]
  split at hx
  case h_2=>cases hx
  rename_i s1 hs1
  simp only[stepG_mono h hs1]
  exact runD_mono h hx
 | .alt a b,s,s',hx=>by
  simp only[runD]at hx ⊢
  obtain⟨h1,s2,h2,_⟩:=same2_some hx
  rw[h1,h2]at hx
  rw[runD_mono h h1,runD_mono h h2]
  exact hx
theorem exec_mono (h:LeK K K') (hl:LeL Lp Lp'): ∀ {c:C} {s:St} {r:Ex×St},exec K Lp md c s=some r->exec K' Lp' md c s=some r
 | .skip,s,r,hx=>hx
 | .exit id,s,r,hx=>hx
 | .ret,s,r,hx=>hx
 | .reg l dr,s,r,hx=>by
  simp only[exec]at hx ⊢
  split at hx
  case h_2=>cases hx
  rename_i s1 hs1
  simp only[steps_mono h hs1]
  exact hx
 | .dreg l dr,s,r,hx=>by
  simp only[exec]at hx ⊢
  split at hx
  case h_2=>cases hx
  rename_i s1 hs1
  simp only[runD_mono h hs1]
  exact hx
 | .seq a b,s,r,hx=>by
  simp only[exec]at hx ⊢
  split at hx
  ·rename_i s1 hs1
   simp only[exec_mono h hl hs1]
   exact exec_mono h hl hx
  ·rename_i hne
   rw[exec_mono h hl hx]
   obtain⟨ex,s1⟩:=r
   cases ex with
   |normal=>exact absurd hx (hne s1)
   |exit id=>rfl
   |ret=>rfl
 | .cond x a b,s,r,hx=>by
  simp only[exec]at hx ⊢
  split at hx
  case h_2=>cases hx
  rename_i c hc
  cases c with
  |true=>exact exec_mono h hl hx
  |false=>exact exec_mono h hl hx
 | .blk id a,s,r,hx=>by
  simp only[exec]at hx ⊢
  split at hx
  ·rename_i j s1 hs1
   simp only[exec_mono h hl hs1]
   exact hx
  ·rename_i hne
   rw[exec_mono h hl hx]
   obtain⟨ex,s1⟩:=r
   cases ex with
   |normal=>rfl
   |exit id=>exact absurd hx (hne id s1)
   |ret=>rfl
 | .loop o live a,s,r,hx=>hl _ _ _ _ _ hx
variable {G:Nat->Option PF} {PK:Nat->List Arg->Option Res}
theorem endF_mono {args:List Arg} {res:List RP} {x y:Option (Ex×St)} (h: ∀r,x=some r->y=some r) {r:Res} (hx:endF res args x=some r):endF res args y=some r:=by
 obtain⟨ex,s,h1,_,_,_⟩:=endF_ok hx
 rw[h1]at hx
 rw[h _ h1]
 exact hx
theorem sem_succ: ∀N,LeK (sem G PK md N).1 (sem G PK md (N+1)).1/\LeL (sem G PK md N).2 (sem G PK md (N+1)).2
 |0=>⟨fun f args r h=>by simp[sem]at h,fun o live c s r h=>by simp[sem]at h⟩
 |N+1=>by
  have ⟨h1,h2⟩:=sem_succ N
  constructor
  ·intro f args r h
   simp only[sem]at h
   rw[sem]
   simp only
   split at h
   ·rename_i pf hpf
    obtain⟨hn,h⟩:=ite_some h
    rw[if_pos hn]
    exact endF_mono (fun r hr=>exec_mono h1 h2 hr) h
   ·exact h
  ·intro o live c s r h
   simp only[sem]at h
   rw[sem]
   simp only
   obtain⟨hn,h⟩:=ite_some h
   rw[if_pos hn]
   split at h
   ·rename_i s1 hs1
    simp only[exec_mono h1 h2 hs1]
    exact h2 _ _ _ _ _ h
   ·rename_i hne
    rw[exec_mono h1 h2 h]
    obtain⟨ex,s1⟩:=r
    cases ex with
    |normal=>exact absurd h (hne s1)
    |exit id=>rfl
    |ret=>rfl
theorem sem_le {N M:Nat} (h:N<=M):LeK (sem G PK md N).1 (sem G PK md M).1/\LeL (sem G PK md N).2 (sem G PK md M).2:=by
 induction h with
 |refl=>exact⟨fun _ _ _ h=>h,fun _ _ _ _ _ h=>h⟩
 |step _ ih=>exact⟨fun f args r h=>(sem_succ _).1 _ _ _ (ih.1 _ _ _ h),fun o live c s r h=>(sem_succ _).2 _ _ _ _ _ (ih.2 _ _ _ _ _ h)⟩
open Classical in
noncomputable def semK (G:Nat->Option PF) (PK:Nat->List Arg->Option Res) (md:Nat->List Nat) (f:Nat) (args:List Arg):Option Res:=
 if h: ∃N r,(sem G PK md N).1 f args=some r then(sem G PK md h.choose).1 f args else none
open Classical in
noncomputable def semL (G:Nat->Option PF) (PK:Nat->List Arg->Option Res) (md:Nat->List Nat) (o:Nat) (live:List Nat) (c:C) (s:St):Option (Ex×St):=
 if h: ∃N r,(sem G PK md N).2 o live c s=some r then(sem G PK md h.choose).2 o live c s else none
theorem semK_iff {f:Nat} {args:List Arg} {r:Res}:semK G PK md f args=some r<-> ∃N,(sem G PK md N).1 f args=some r:=by
 unfold semK
 constructor
 ·intro h
  split at h
  ·exact⟨_,h⟩
  ·cases h
 ·intro ⟨N,h⟩
  have he: ∃N r,(sem G PK md N).1 f args=some r:=⟨N,r,h⟩
  rw[dif_pos he]
  obtain⟨r',hr'⟩:=he.choose_spec
  rw[hr']
  have h1:=(sem_le (Nat.le_max_left he.choose N)).1 _ _ _ hr'
  have h2:=(sem_le (Nat.le_max_right he.choose N)).1 _ _ _ h
  rw[h1]at h2
  exact h2
theorem semL_iff {o:Nat} {live:List Nat} {c:C} {s:St} {r:Ex×St}:semL G PK md o live c s=some r<-> ∃N,(sem G PK md N).2 o live c s=some r:=by
 unfold semL
 constructor
 ·intro h
  split at h
  ·exact⟨_,h⟩
  ·cases h
 ·intro ⟨N,h⟩
  have he: ∃N r,(sem G PK md N).2 o live c s=some r:=⟨N,r,h⟩
  rw[dif_pos he]
  obtain⟨r',hr'⟩:=he.choose_spec
  rw[hr']
  have h1:=(sem_le (Nat.le_max_left he.choose N)).2 _ _ _ _ _ hr'
  have h2:=(sem_le (Nat.le_max_right he.choose N)).2 _ _ _ _ _ h
  rw[h1]at h2
  exact h2
noncomputable abbrev kN (G:Nat->Option PF) (PK:Nat->List Arg->Option Res) (md:Nat->List Nat) (N:Nat):=(sem G PK md N).1
theorem callA_lim {d:Option Nat} {o f:Nat} {xs:List AV} (hx:callA (semK G PK md) md s d o f xs=some s'): ∃N,callA (sem G PK md N).1 md s d o f xs=some s':=by
 unfold callA at hx ⊢
 split at hx
 case h_2=>cases hx
 rename_i g hg
 split at hx
 case h_2=>cases hx
 rename_i r hr
 obtain⟨N,hN⟩:=semK_iff.1 hr
 exact⟨N,by simp only[hg,hN];exact hx⟩
theorem stepI_lim {d:Option Nat} {i:I} (hx:stepI (semK G PK md) md s d i=some s'): ∃N,stepI (sem G PK md N).1 md s d i=some s':=by
 cases i with
 |call o f xs=>exact callA_lim hx
 |callc o f xs cs=>
  simp only[stepI]at hx ⊢
  split at hx
  case h_2=>cases hx
  rename_i h1 hh1
  exact callA_lim hx
 |callv o x xs=>
  simp only[stepI]at hx ⊢
  split at hx
  case h_2=>cases hx
  rename_i f caps hf
  exact callA_lim hx
 |_=>exact⟨0,hx⟩
theorem stepG_lim {i:Ins} (hx:stepG (semK G PK md) md i s=some s'): ∃N,stepG (sem G PK md N).1 md i s=some s':=by
 unfold stepG at hx ⊢
 split at hx
 ·exact stepI_lim hx
 ·obtain⟨h1,hx⟩:=ite_some hx
  simp only[if_pos h1]
  split at hx
  ·rename_i b1 hb1
   split at hx
   ·rename_i hb
    simp only[if_pos hb]
    exact stepI_lim hx
   ·rename_i hb
    simp only[if_neg hb]
    exact⟨0,hx⟩
  ·exact⟨0,hx⟩
  ·cases hx
theorem steps_lim: ∀ {l:List Ins} {s s':St},steps (semK G PK md) md l s=some s'-> ∃N,steps (sem G PK md N).1 md l s=some s'
 |[],s,s',hx=>⟨0,hx⟩
 |i::l,s,s',hx=>by
  simp only[steps]at hx ⊢
  split at hx
  case h_2=>cases hx
  rename_i s1 hs1
  obtain⟨N,hN⟩:=stepG_lim hs1
  obtain⟨M,hM⟩:=steps_lim hx
  refine⟨max N M,?_⟩
  simp only[stepG_mono (sem_le (Nat.le_max_left N M)).1 hN]
  exact steps_mono (sem_le (Nat.le_max_right N M)).1 hM
theorem runD_lim: ∀ {t:D} {s s':St},runD (semK G PK md) md t s=some s'-> ∃N,runD (sem G PK md N).1 md t s=some s'
 | .fin,s,s',hx=>⟨0,hx⟩
 | .one i t,s,s',hx=>by
  simp only[runD]at hx ⊢
  split at hx
  case h_2=>cases hx
  rename_i s1 hs1
  obtain⟨N,hN⟩:=stepG_lim hs1
  obtain⟨M,hM⟩:=runD_lim hx
  refine⟨max N M,?_⟩
  simp only[stepG_mono (sem_le (Nat.le_max_left N M)).1 hN]
  exact runD_mono (sem_le (Nat.le_max_right N M)).1 hM
 | .loud i hang t,s,s',hx=>by
  simp only[runD]at hx ⊢
  obtain⟨h1,hx⟩:=ite_some hx
  simp only[if_pos h1]
  split at hx
  case h_2=>cases hx
  rename_i s1 hs1
  obtain⟨N,hN⟩:=stepG_lim hs1
  obtain⟨M,hM⟩:=runD_lim hx
  refine⟨max N M,?_⟩
  simp only[stepG_mono (sem_le (Nat.le_max_left N M)).1 hN]
  exact runD_mono (sem_le (Nat.le_max_right N M)).1 hM
 | .alt a b,s,s',hx=>by
  simp only[runD]at hx ⊢
  obtain⟨h1,s2,h2,_⟩:=same2_some hx
  rw[h1,h2]at hx
  obtain⟨N,hN⟩:=runD_lim h1
  obtain⟨M,hM⟩:=runD_lim h2
  refine⟨max N M,?_⟩
  rw[runD_mono (sem_le (Nat.le_max_left N M)).1 hN,runD_mono (sem_le (Nat.le_max_right N M)).1 hM]
  exact hx
theorem exec_lim: ∀ {c:C} {s:St} {r:Ex×St},exec (semK G PK md) (semL G PK md) md c s=some r-> ∃N,exec (sem G PK md N).1 (sem G PK md N).2 md c s=some r
 | .skip,s,r,hx=>⟨0,hx⟩
 | .exit id,s,r,hx=>⟨0,hx⟩
 | .ret,s,r,hx=>⟨0,hx⟩
 | .reg l dr,s,r,hx=>by
  simp only[exec]at hx ⊢
  split at hx
  case h_2=>cases hx
  rename_i s1 hs1
  obtain⟨N,hN⟩:=steps_lim hs1
  exact⟨N,by simp only[hN];exact hx⟩
 | .dreg l dr,s,r,hx=>by
  simp only[exec]at hx ⊢
  split at hx
  case h_2=>cases hx
  rename_i s1 hs1
  obtain⟨N,hN⟩:=runD_lim hs1
  exact⟨N,by simp only[hN];exact hx⟩
 | .seq a b,s,r,hx=>by
  simp only[exec]at hx ⊢
  split at hx
  ·rename_i s1 hs1
   obtain⟨N,hN⟩:=exec_lim hs1
   obtain⟨M,hM⟩:=exec_lim hx
   refine⟨max N M,?_⟩
   have h1:=sem_le (G:=G) (PK:=PK) (md:=md) (Nat.le_max_left N M)
   have h2:=sem_le (G:=G) (PK:=PK) (md:=md) (Nat.le_max_right N M)
   simp only[exec_mono h1.1 h1.2 hN]
   exact exec_mono h2.1 h2.2 hM
  ·rename_i hne
   obtain⟨N,hN⟩:=exec_lim hx
   refine⟨N,?_⟩
   rw[hN]
   obtain⟨ex,s1⟩:=r
   cases ex with
   |normal=>exact absurd hx (hne s1)
   |exit id=>rfl
   |ret=>rfl
 | .cond x a b,s,r,hx=>by
  simp only[exec]at hx ⊢
  split at hx
  case h_2=>cases hx
  rename_i c hc
  cases c with
  |true=>exact exec_lim hx
  |false=>exact exec_lim hx
 | .blk id a,s,r,hx=>by
  simp only[exec]at hx ⊢
  split at hx
  ·rename_i j s1 hs1
   obtain⟨N,hN⟩:=exec_lim hs1
   exact⟨N,by simp only[hN];exact hx⟩
  ·rename_i hne
   obtain⟨N,hN⟩:=exec_lim hx
   refine⟨N,?_⟩
   rw[hN]
   obtain⟨ex,s1⟩:=r
   cases ex with
   |normal=>rfl
   |exit id=>exact absurd hx (hne id s1)
   |ret=>rfl
 | .loop o live a,s,r,hx=>semL_iff.1 hx
theorem semK_of {f:Nat} {pf:PF} {args:List Arg} {r:Res} (hG:G f=some pf) (hn:args.length<=pf.n) (h:endF pf.res args (exec (semK G PK md) (semL G PK md) md pf.body (entry pf.n args))=some r):semK G PK md f args=some r:=by
 obtain⟨ex,s,h1,_,_,_⟩:=endF_ok h
 obtain⟨N,hN⟩:=exec_lim h1
 refine semK_iff.2 ⟨N+1,?_⟩
 rw[h1]at h
 simp only[sem,hG,if_pos hn,hN]
 exact h
theorem semK_prim {f:Nat} {args:List Arg} {r:Res} (hG:G f=none) (h:PK f args=some r):semK G PK md f args=some r:=
 semK_iff.2 ⟨1,by simp only[sem,hG];exact h⟩
theorem semL_more {o:Nat} {live:List Nat} {c:C} {s s1:St} {r:Ex×St} (hm:s.m<=o) (h:exec (semK G PK md) (semL G PK md) md c (canon o live s)=some (.normal,s1)) (h2:semL G PK md o live c s1=some r):semL G PK md o live c s=some r:=by
 obtain⟨N,hN⟩:=exec_lim h
 obtain⟨M,hM⟩:=semL_iff.1 h2
 have h3:=sem_le (G:=G) (PK:=PK) (md:=md) (Nat.le_max_left N M)
 have h4:=sem_le (G:=G) (PK:=PK) (md:=md) (Nat.le_max_right N M)
 refine semL_iff.2 ⟨max N M+1,?_⟩
 simp only[sem,if_pos hm,exec_mono h3.1 h3.2 hN]
 exact h4.2 _ _ _ _ _ hM
theorem semL_done {o:Nat} {live:List Nat} {c:C} {s:St} {r:Ex×St} (hm:s.m<=o) (h:exec (semK G PK md) (semL G PK md) md c (canon o live s)=some r) (hr:r.1≠ .normal):semL G PK md o live c s=some r:=by
 obtain⟨N,hN⟩:=exec_lim h
 refine semL_iff.2 ⟨N+1,?_⟩
 simp only[sem,if_pos hm,hN]
 obtain⟨ex,s1⟩:=r
 cases ex with
 |normal=>exact absurd rfl hr
 |exit id=>rfl
 |ret=>rfl
theorem semK_ok {P:Program} (hm:P.follows .mixedOrders=true) {H:Nat->Hint} (hG:GOk P H G) (hPK:KOk P PK):KOk P (semK G PK md):=fun f args r h=>by
 obtain⟨N,hN⟩:=semK_iff.1 h
 exact(sem_ok hm hG hPK N).1 f args r hN
end Go.Proofs.YtbolhfegdocpeaaGreat.Ow
namespace Go.Proofs.YtbolhfegdocpeaaGreat.Ow
open Go Go.ChangeShapes
inductive Ty where
 |int (k:IntKind)
 |bool
 |str
 |sl (row:List Ty)
inductive IsT:Ty->T->Prop
 |int (k:IntKind) (n:Int) (h:(Lit.int k n).wf=true):IsT (.int k) (.sc (.int k n))
 |bool (b:Bool):IsT .bool (.sc (.bool b))
 |str (s:ByteArray) (h:s.size<=maxLen):IsT .str (.sc (.string s))
 |sl (row:List Ty) (rows:List (List T)) (hl:rows.length<=maxLen) (hr: ∀r∈rows,r.length=row.length)
   (h: ∀r∈rows,∀ (j:Nat) ty t,row[j]? =some ty->r[j]? =some t->IsT ty t):IsT (.sl row) (.sl row.length rows)
def tysF (f:TypeId->Option (List Ty)) (c:TypeId->Nat):Nat->List Field->Option (List Ty)
 |_,[]=>some []
 |off,fd::fs=>if fd.offset=off then match f fd.type with
  |some r=>if r.length=c fd.type then(tysF f c (off+r.length) fs).map (r++ ·)else none
  |none=>none
  else none
def tyOf (P:Program):Nat->TypeId->Option (List Ty)
 |0,_=>none
 |n+1,t=>match P.underlying t with
  |some .bool=>some [.bool]
  |some (.int k)=>some [.int k]
  |some .string=>some [.str]
  |some (.slice e)=>match tyOf P n e with
   |some (y::r)=>if P.cellsOf e=(y::r).length then some [.sl (y::r)]else none
   |_=>none
  |some (.struct fs)=>match tysF (tyOf P n) P.cellsOf 0 fs.toList with
   |some r=>if P.cellsOf t=r.length then some r else none
   |none=>none
  |_=>none
structure LR (w:World) (tys:List Ty) (cs:List Value) (ts:List T):Prop where
 len:ts.length=tys.length
 len2:cs.length=tys.length
 ok: ∀ (j:Nat) ty v d,tys[j]? =some ty->cs[j]? =some v->ts[j]? =some d->IsT ty d/\POk w (fun b=>b<w.heap.size) v d
theorem LR.nil (w:World):LR w [] [] []:=⟨rfl,rfl,fun j ty v d h=>by simp at h⟩
theorem LR.one {w:World} {ty:Ty} {v:Value} {d:T} (h1:IsT ty d) (h2:POk w (fun b=>b<w.heap.size) v d):LR w [ty] [v] [d]:=
 ⟨rfl,rfl,fun j ty' v' d' a b c=>by
  cases j with
  |zero=>
   simp only[List.getElem?_cons_zero,Option.some.injEq]at a b c
   subst a;subst b;subst c
   exact⟨h1,h2⟩
  |succ j=>simp at a⟩
theorem LR.append {w:World} {tys tys':List Ty} {cs cs':List Value} {ts ts':List T} (h:LR w tys cs ts) (h':LR w tys' cs' ts'):LR w (tys++tys') (cs++cs') (ts++ts'):=by
 refine⟨by simp[h.len,h'.len],by simp[h.len2,h'.len2],fun j ty v d a b c=> ?_⟩
 rw[List.getElem?_append]at a b c
 rw[h.len2]at b
 rw[h.len]at c
 split at a
 ·rename_i hj
  rw[if_pos hj]at b c
  exact h.ok j ty v d a b c
 ·rename_i hj
  rw[if_neg hj]at b c
  exact h'.ok _ ty v d a b c
theorem list_of {α:Type} {p:Nat->α->Prop}: ∀n:Nat,(∀i,i<n-> ∃x,p i x)-> ∃l:List α,l.length=n/\ ∀ (i:Nat) x,l[i]? =some x->p i x
 |0,_=>⟨[],rfl,fun i x h=>by simp at h⟩
 |n+1,h=>by
  obtain⟨l,h1,h2⟩:=list_of n fun i hi=>h i (by omega)
  obtain⟨x,hx⟩:=h n (by omega)
  refine⟨l++[x],by simp[h1],fun i y hy=> ?_⟩
  rw[List.getElem?_append]at hy
  split at hy
  ·exact h2 i y hy
  ·rename_i hi
   cases hj:i - l.length with
   |zero=>
    rw[hj]at hy
    simp only[List.getElem?_cons_zero,Option.some.injEq]at hy
    subst hy
    rwa [show i=n by omega]
   |succ j=>rw[hj]at hy;simp at hy
theorem cells?_get {w:World} {base:Nat} {a:Addr} {n:Nat} {cs:List Value} (h:w.cells? base a n=some cs):cs.length=n/\ ∀i v,cs[i]? =some v->w.cell? (a.add i)=some v:=by
 unfold World.cells? at h
 obtain⟨_,h⟩:=ite_some h
 have hl:cs.length=n:=by simpa using mapM_some_length h
 refine⟨hl,fun i v hv=> ?_⟩
 have hi:i<n:=hl ▸ (List.getElem?_eq_some_iff.1 hv).1
 rw[←hv]
 exact mapM_some_get h i i (by simp[hi])
theorem cell_plain {w:World} {a:Addr} {v:Value} (h:w.cell? a=some v):a=⟨a.block,a.off,none⟩/\a.block<w.heap.size:=by
 unfold World.cell? at h
 split at h
 ·rename_i c t f hc
  split at h
  ·cases h
  ·rename_i hs
   obtain⟨b,o,s⟩:=a
   have:s=none:=by cases s<;>simp_all
   subst this
   exact⟨rfl,(Array.getElem?_eq_some_iff.1 hc).1⟩
 ·cases h
section
variable {H:Type} {enc:TypeId×Value->H} {P:Program} {w:World} {spare:Nat->Bool} {held:Bool}
theorem trod_T: ∀ (n:Nat) (t:TypeId) (cs:List Value) (x:DataW H×List MemPlace) (m:Nat) (tys:List Ty),DataW.trod enc P w 0 spare held n t cs=some x->tyOf P m t=some tys-> ∃ts,LR w tys cs ts:=by
 intro n
 induction n with
 |zero=>intro t cs x m tys h;simp[DataW.trod]at h
 |succ n ih=>
  intro t cs x m tys h ht
  cases m with
  |zero=>simp[tyOf]at ht
  |succ m=>
   simp only[tyOf]at ht
   split at ht
   ·rename_i hu
    cases ht
    obtain⟨b,rfl,_⟩:=DataW.trod_bool hu h
    exact⟨_,.one (.bool b) (.sc _ rfl)⟩
   ·rename_i k hu
    cases ht
    obtain⟨i,rfl,_,hw⟩:=DataW.trod_int hu h
    exact⟨_,.one (.int k i hw) (.sc _ rfl)⟩
   ·rename_i hu
    cases ht
    obtain⟨s,rfl,_,hs⟩:=DataW.trod_string hu h
    exact⟨_,.one (.str s hs) (.sc _ rfl)⟩
   ·rename_i e hu
    split at ht
    case h_2=>cases ht
    rename_i y r hty
    obtain⟨hsz,ht⟩:=ite_some ht
    cases ht
    rcases DataW.trod_slice hu h with ⟨rfl,_⟩|⟨a,len,cap,elems,rest,n',hn,rfl,_,_,hl,hm,hlen,hel,_,_⟩
    ·exact⟨_,.one (.sl (y::r) [] (Nat.zero_le _) (fun r h=>by cases h) (fun r h=>by cases h)) (.nil none 0 _)⟩
    ·cases hn
     have hrow: ∀i,i<len-> ∃ts us,LR w (y::r) us ts/\ ∀ (j:Nat) v,us[j]? =some v->w.cell? ((a.add (i*(r.length+1))).add j)=some v:=by
      intro i hi
      have h1:=hel i hi
      obtain⟨z,hz⟩:=getElem?_of_lt (l:=elems) (i:=i) (by omega)
      rw[hz,Option.bind_eq_some_iff,hsz]at h1
      obtain⟨us,h2,h3⟩:=h1
      obtain⟨g1,g2⟩:=cells?_get h2
      obtain⟨ts,hts⟩:=ih e us z m (y::r) h3 hty
      exact⟨ts,us,hts,fun j v hv=>g2 j v hv⟩
     obtain⟨rows,l1,l2⟩:=list_of len hrow
     have hrl: ∀ (i:Nat) rr,rows[i]? =some rr->rr.length=r.length+1:=fun i rr hrr=>by
      obtain⟨us,h1,_⟩:=l2 i rr hrr
      simpa using h1.len
     refine⟨[.sl (r.length+1) rows],.one (.sl (y::r) rows (by rw[l1];omega) (fun rr hrr=> ?_) (fun rr hrr j ty d hty' hd=> ?_)) ?_⟩
     ·obtain⟨i,hi⟩:=List.getElem?_of_mem hrr
      simpa using hrl i rr hi
     ·obtain⟨i,hi⟩:=List.getElem?_of_mem hrr
      obtain⟨us,h1,_⟩:=l2 i rr hi
      obtain⟨v,hv⟩:=getElem?_of_lt (l:=us) (i:=j) (by rw[h1.len2];exact(List.getElem?_eq_some_iff.1 hty').1)
      exact(h1.ok j ty v d hty' hv hd).1
     ·cases len with
      |zero=>
       have:rows=[]:=List.eq_nil_of_length_eq_zero l1
       subst this
       exact .nil _ _ _
      |succ len=>
       obtain⟨r0,hr0⟩:=getElem?_of_lt (l:=rows) (i:=0) (by omega)
       obtain⟨us0,q1,q2⟩:=l2 0 r0 hr0
       obtain⟨v0,hv0⟩:=getElem?_of_lt (l:=us0) (i:=0) (by rw[q1.len2];simp)
       have hc0:=q2 0 v0 hv0
       have ha:a=⟨a.block,a.off,none⟩/\a.block<w.heap.size:=by
        have:=cell_plain hc0
        simpa[Addr.add]using this
       obtain⟨b,off,sp⟩:=a
       obtain⟨ha1,ha2⟩:=ha
       cases ha1
       have key: ∀i j d,cellAt rows i j=some d-> ∃u,w.cell? ⟨b,off+(i*(r.length+1)+j),none⟩=some u/\POk w (fun b=>b<w.heap.size) u d:=fun i j d hd=>by
        unfold cellAt at hd
        split at hd
        case h_2=>cases hd
        rename_i rr hrr
        obtain⟨us,h1,h2⟩:=l2 i rr hrr
        obtain⟨v,hv⟩:=getElem?_of_lt (l:=us) (i:=j) (by rw[h1.len2,←h1.len];exact(List.getElem?_eq_some_iff.1 hd).1)
        obtain⟨ty,hty'⟩:=getElem?_of_lt (l:=y::r) (i:=j) (by rw[←h1.len];exact(List.getElem?_eq_some_iff.1 hd).1)
        refine⟨v,?_,(h1.ok j ty v d hty' hv hd).2⟩
        have:=h2 j v hv
        rw[addr_add,addr_add]at this
        rw[←this,Nat.add_assoc]
       have:=POk.sl (w:=w) (Im:=fun b=>b<w.heap.size) b off cap (r.length+1) rows (fun i j=>(w.cell? ⟨b,off+(i*(r.length+1)+j),none⟩).getD undef) ha2 (by rw[l1];exact hl)
        (fun rr hrr=>by
         obtain⟨i,hi⟩:=List.getElem?_of_mem hrr
         exact hrl i rr hi)
        (fun i j d hd=>by obtain⟨u,h1,_⟩:=key i j d hd;rw[h1];rfl)
        (fun i j d hd=>by obtain⟨u,h1,h2⟩:=key i j d hd;rw[h1];exact h2)
       rw[l1]at this
       exact this
   ·rename_i fs hu
    split at ht
    case h_2=>cases ht
    rename_i r hr
    obtain⟨hsz,ht⟩:=ite_some ht
    cases ht
    obtain⟨xs,n',hn,_,hlen,hxs,hf⟩:=DataW.trod_struct hu h
    cases hn
    have key: ∀ (gs:List Field) (i off:Nat) (r':List Ty),(∀ (j:Nat) g,gs[j]? =some g->fs[i+j]? =some g)->tysF (tyOf P m) P.cellsOf off gs=some r'->(cs.drop off).length=r'.length-> ∃ts,LR w r' (cs.drop off) ts:=by
     intro gs
     induction gs with
     |nil=>
      intro i off r' _ h1 h2
      simp only[tysF,Option.some.injEq]at h1
      subst h1
      have:cs.drop off=[]:=List.eq_nil_of_length_eq_zero h2
      rw[this]
      exact⟨[],.nil w⟩
     |cons g gs ihg=>
      intro i off r' hg h1 h2
      simp only[tysF]at h1
      obtain⟨hoff,h1⟩:=ite_some h1
      split at h1
      case h_2=>cases h1
      rename_i rg hrg
      obtain⟨hl1,h1⟩:=ite_some h1
      obtain⟨r2,hr2,rfl⟩:=map_inj h1
      have hgi:fs[i]? =some g:=hg 0 g rfl
      have hgf:=hf i g hgi
      obtain⟨z,hz⟩:=getElem?_of_lt (l:=xs) (i:=i) (by rw[hxs];exact(Array.getElem?_eq_some_iff.1 hgi).1)
      rw[hz,hoff,←hl1]at hgf
      obtain⟨ts1,hts1⟩:=ih g.type _ z m rg hgf hrg
      rw[List.length_drop,List.length_append]at h2
      obtain⟨ts2,hts2⟩:=ihg (i+1) (off+rg.length) r2 (fun j g' hj=>by have:=hg (j+1) g' (by simpa using hj);rwa [show i+(j+1)=i+1+j by omega]at this) hr2 (by rw[List.length_drop];omega)
      refine⟨ts1++ts2,?_⟩
      have:=hts1.append hts2
      rw[←List.drop_drop,List.take_append_drop]at this
      exact this
    have:=key fs.toList 0 0 _ (fun j g hg=>by rw[Nat.zero_add];simpa using hg) hr (by rw[List.drop_zero,hlen,hsz])
    rwa [List.drop_zero]at this
   ·cases ht
end
end Go.Proofs.YtbolhfegdocpeaaGreat.Ow
namespace Go.Proofs.YtbolhfegdocpeaaGreat.Ow
open Go
def leafL:T->L
 | .sc v=> .sc v
 | .sl k rows=> .im k rows
 | .hole=> .sc (.bool false)
inductive ArgR (w:World):Arg->Value->Prop
 |v (t:T) (v:Value) (hh:t≠ .hole) (h:POk w (fun b=>b<w.heap.size) v t):ArgR w (.v (leafL t)) v
 |a (ts:List T) (vs:List Value) (hl:ts.length=vs.length) (hh: ∀t∈ts,t≠ .hole) (h: ∀ (j:Nat) t v,ts[j]? =some t->vs[j]? =some v->POk w (fun b=>b<w.heap.size) v t):ArgR w (.a (ts.map leafL)) (.agg vs.toArray)
def lawE (w:World):Env:={w,ob:=fun _=> .none,hd:=fun _ _=>undef,bk:=fun _=>0,Im:=fun b=>b<w.heap.size,tk:=fun _=>undef}
def lawF (w:World):Fm:={w0:=w,F:=fun _=>False,I:=fun b=>b<w.heap.size,H:=fun _=>undef,B:=fun _=>0,T:=fun _=>undef}
def leafAV:T->AV
 | .sc v=> .sc v
 | .sl k rows=> .im k rows
 | .hole=> .sc (.bool false)
theorem openLs_im (n:Nat): ∀ts:List T,openLs n (ts.map leafL)=(ts.map leafAV,[],n)
 |[]=>rfl
 | .sc v::ts=>by simp[leafL,leafAV,openLs,openLs_im n ts]
 | .sl k r::ts=>by simp[leafL,leafAV,openLs,openLs_im n ts]
 | .hole::ts=>by simp[leafL,leafAV,openLs,openLs_im n ts]
theorem leafAV_ok {w:World} {t:T} {v:Value} (hh:t≠ .hole) (h:POk w (fun b=>b<w.heap.size) v t):AvOk (lawE w) (leafAV t) v:=by
 cases t with
 |sc u=>cases h with|sc _ hs=>exact .sc _ hs
 |sl k r=>exact .im _ _ _ h
 |hole=>exact absurd rfl hh
theorem openArg_im {w:World} {x:Arg} {v:Value} (h:ArgR w x v) (n:Nat):(openArg n x).2=([],n)/\AvOk (lawE w) (openArg n x).1 v/\ ∀ls,x≠ .pm ls:=by
 cases h with
 |v t v hh h=>
  have:openArg n (.v (leafL t))=(leafAV t,[],n):=by
   have:=openLs_im n [t]
   simp only[List.map_cons,List.map_nil]at this
   simp[openArg,this]
  rw[this]
  exact⟨rfl,leafAV_ok hh h,fun ls h=>by cases h⟩
 |a ts vs hl hh h=>
  have:openArg n (.a (ts.map leafL))=(.agg (ts.map leafAV),[],n):=by simp[openArg,openLs_im]
  rw[this]
  refine⟨rfl,.agg _ _ (by simpa using hl) fun i x u hx hu=> ?_,fun ls h=>by cases h⟩
  rw[List.getElem?_map]at hx
  obtain⟨t,ht,rfl⟩:=map_inj hx
  exact leafAV_ok (hh t (List.mem_of_getElem? ht)) (h i t u ht hu)
theorem openArgs_im {w:World}: ∀ {args:List Arg} {vs:List Value} (t n:Nat),args.length=vs.length->(∀ (i:Nat) x v,args[i]? =some x->vs[i]? =some v->ArgR w x v)->
  (openArgs t n args).2=([],n)/\(ownIds n args)=([],[])/\ ∀ (i:Nat) v,vs[i]? =some v->AvOk (lawE w) (getT (openArgs t n args).1 (t+i)) v
 |[],vs,t,n,hl,_=>⟨rfl,rfl,fun i v hv=>by cases vs<;>simp_all⟩
 |x::args,[],t,n,hl,_=>by simp at hl
 |x::args,v::vs,t,n,hl,h=>by
  obtain⟨g1,g2,g3⟩:=openArg_im (h 0 x v rfl rfl) n
  obtain⟨k1,k2,k3⟩:=openArgs_im (args:=args) (vs:=vs) (t+1) n (by simpa using hl) (fun i x v hx hv=>h (i+1) x v hx hv)
  have e1:(openArg n x).2.1=[]:=by rw[g1]
  have e2:(openArg n x).2.2=n:=by rw[g1]
  refine⟨?_,?_,fun i u hu=> ?_⟩
  ·simp only[openArgs,e1,e2,k1,List.nil_append]
  ·cases x with
   |pm ls=>exact absurd rfl (g3 ls)
   |v l=>simp only[ownIds,e1,e2,k2];rfl
   |a l=>simp only[ownIds,e1,e2,k2];rfl
   |pi l=>simp only[ownIds,e1,e2,k2];rfl
   |c f l=>simp only[ownIds,e1,e2,k2];rfl
  ·simp only[openArgs,e2]
   cases i with
   |zero=>
    simp only[List.getElem?_cons_zero,Option.some.injEq]at hu
    subst hu
    simp only[getT,Nat.add_zero,if_true]
    exact g2
   |succ i=>
    simp only[List.getElem?_cons_succ]at hu
    have:=k3 i u hu
    simp only[getT]
    rw[if_neg (by omega),show t+(i+1)=t+1+i by omega]
    exact this
theorem law_entry {w:World} {args:List Arg} {vs:List Value} (hl:args.length=vs.length) (h: ∀ (i:Nat) x v,args[i]? =some x->vs[i]? =some v->ArgR w x v):EntryOk (lawF w) (lawE w) args vs:=by
 obtain⟨k1,k2,k3⟩:=openArgs_im 0 0 hl h
 have hn: ∀o p,(lawE w).node o p=none:=fun o p=>rfl
 have hb: ∀l,(lawE w).blk l=none:=fun l=>by cases l<;>rfl
 refine⟨⟨fun o cs h=>(by cases h),fun o p k rows h=>(by rw[hn]at h;cases h),fun l l' b h=>(by rw[hb]at h;cases h),fun l b h=>(by rw[hb]at h;cases h),fun x hx=>⟨hx,fun h=> .inl hx⟩,fun x hx=>hx,.refl _ _,rfl⟩,rfl,rfl,fun _=>rfl,fun _=>rfl,fun o=>by rw[k1];rfl,hl,fun i v hv=> ?_⟩
 have:=k3 i v hv
 rwa [Nat.zero_add]at this
def yes:Res:={out:=[.v (.sc (.bool true))],fin:=[],pfin:=[]}
theorem law_calls {P:Program} {K:Nat->List Arg->Option Res} (hK:KOk P K) {f:Nat} {args:List Arg} {vs:List Value} {w:World} (hl:args.length=vs.length) (h: ∀ (i:Nat) x v,args[i]? =some x->vs[i]? =some v->ArgR w x v)
  (hs:K f args=some yes):Calls P f vs.toArray w fun
   | .returned v,w'=>v= .bool true/\RowKit.Below w.heap.size w w'
   |_,_=>False:=by
 have hE:=law_entry hl h
 refine Calls.mono ((hK f args yes hs).2 (lawF w) (lawE w) vs hE) fun en w' hh=> ?_
 cases en with
 |panicked _=>exact hh.elim
 |outgrown=>exact hh.elim
 |returned v=>
  obtain⟨e',rfl,hx⟩:=hh
  obtain⟨k1,k2,k3⟩:=openArgs_im 0 0 hl h
  have hv:=hx.val
  have he:exitO args yes=([.sc (.bool true)],[]):=by
   have k1':openArgs 0 0 args=((openArgs 0 0 args).1,[],0):=by rw[←k1]
   simp only[exitO]
   rw[k1']
   simp[k2,yes,exitB,exitF,openRVs,openRV,openArg,openLs]
  rw[he]at hv
  have hk:=hx.mem.keeps
  exact⟨hv.sc_inv.1,hk.os,hk.tape,hk.output,hk.size,fun k hlt=>hk.block k hlt fun hf=>hf⟩
end Go.Proofs.YtbolhfegdocpeaaGreat.Ow
namespace Go.Proofs.YtbolhfegdocpeaaGreat.Ow
open Go
variable {P:Program} {fm fm0:Fm} {M:List Nat} {e e' e0:Env} {s s':St} {a a':Act} {Q:Exit->Act->World->Prop}
def cl0 (t:TypeId):Array Oper:= #[{dst:=some 2,op:= .assign (.const (.slice none 0 0)),type:=t,pos:= "slices.go:355",after:= #[],guard:=none}]
def cl1 (t b:TypeId):Array Oper:= #[{dst:=some 3,op:= .move (.tmp 0),type:=t,pos:= "slices.go:357",after:= #[],guard:=none},
 {dst:=some 4,op:= .binOp .eql t (.tmp 3) (.const (.slice none 0 0)) t,type:=b,pos:= "slices.go:357",after:= #[{on:=0,ground:= .data}],guard:=none}]
def cl2 (t:TypeId):Array Oper:= #[{dst:=some 2,op:= .assign (.const (.slice none 0 0)),type:=t,pos:= "slices.go:358",after:= #[],guard:=none}]
def cl3 (t:TypeId):Array Oper:= #[{dst:=some 5,op:= .buildSlice t 0 #[],type:=t,pos:= "slices.go:362",after:= #[],guard:=none},
 {dst:=some 6,op:= .move (.tmp 0),type:=t,pos:= "slices.go:362",after:= #[],guard:=none},
 {dst:=some 7,op:= .call {callee:= .builtin .append,args:= #[.tmp 5,.tmp 6],argTypes:= #[t,t]},type:=t,pos:= "slices.go:362",after:= #[{on:=0,ground:= .data},{on:=1,ground:= .data}],guard:=none},
 {dst:=some 2,op:= .assign (.tmp 7),type:=t,pos:= "slices.go:362",after:= #[{on:=2,ground:= .data},{on:=2,ground:= .chain},{on:=0,ground:= .phase},{on:=1,ground:= .phase},{on:=2,ground:= .phase}],guard:=none}]
def cloneBody (t b:TypeId):Code:=
 (Code.region 0 (cl0 t) false).seq (((Code.region 1 (cl1 t b) false).seq (Code.cond (.tmp 4) ((Code.region 2 (cl2 t) false).seq .ret) .skip)).seq ((Code.region 3 (cl3 t) false).seq .ret))
theorem eql_nil {t el:TypeId} (ht:P.underlying t=some (.slice el)) (ad:Option Addr) (n c:Nat) (w:World):(binOp .eql t (.slice ad n c) (.slice none 0 0)).run P w= .ok (.bool ad.isNone) w:=by
 have hd: ∀d,(Op.equalIn (d+1) t (.slice ad n c) (.slice none 0 0)).run P w= .ok ad.isNone w:=by
  intro d
  cases ad with
  |none=>simp[Op.equalIn,run_underlying' ht]
  |some x=>simp[Op.equalIn,run_underlying' ht]
 have he:(Op.equal t (.slice ad n c) (.slice none 0 0)).run P w= .ok ad.isNone w:=hd 9999
 simp[binOp,he]
def K0 (_:Nat) (_:List Arg):Option Res:=none
theorem k0_ok:KOk P K0:=fun f args r h=>by cases h
theorem clone_ok {f:Nat} {fn:Func} {t b el:TypeId} {k bytes:Nat} (hfn:P.funcs[f]? =some fn) (hname:fn.name≠ "runtime.NumGoroutine") (hb:fn.body=some (cloneBody t b)) (hr:fn.results= #[.tmp 2]) (hn:fn.ntmps=8)
  (ht:P.underlying t=some (.slice el)) (hk:szOf P el=some k) (hby:bytesOfT P el=some bytes) (hz:(zeroOf P el).map List.length=some k) (hpos:0<bytes)
  {rows:List (List T)} (hflat:flat rows=true) (hsz:rows.length*bytes<=35184372088832):Enters P f/\CallOk P f [.v (.im k rows)] {out:=[.v (.own k rows)],fin:=[],pfin:=[]}:=by
 refine⟨⟨fn,hfn,hname,by rw[hb];simp⟩,fun fm e vs hE=> ?_⟩
 have hlen:=hE.len
 obtain⟨v,rfl⟩: ∃v,vs=[v]:=by
  cases vs with
  |nil=>simp at hlen
  |cons v vs=>cases vs with
   |nil=>exact⟨v,rfl⟩
   |cons _ _=>simp at hlen
 have hR:=entry_rel hE (n:=fn.ntmps) (by simp[hn])
 refine calls_of_wp hfn hb ?_
 have hres:resOf P fn.results.toList=some [.t 2]:=by rw[hr];rfl
 have hend: ∀ {e':Env} {s:St} {a':Act} {ex:Exit},Rel fm e' s a'->s.m=0->leave [.t 2] [.v (.im k rows)] s=some {out:=[.v (.own k rows)],fin:=[],pfin:=[]}->ex= .ret->
   bodyPost P fn (fun
    | .returned v,w'=> ∃e',e'.w=w'/\ExitOk fm e [.v (.im k rows)] {out:=[.v (.own k rows)],fin:=[],pfin:=[]} e' v
    |_,_=>False) ex a' e'.w:=by
  intro e' s a' ex hR' hm hl hex
  subst hex
  obtain⟨v,e2,g1,g2,g3⟩:=leave_ok hE hR' (by rw[hm];rfl) hres hl
  exact⟨hR'.defers,v,g1,e2,g2,g3⟩
 generalize hS:entry fn.ntmps [.v (.im k rows)]=s0 at hR
 have hs0:s0={n:=8,m:=0,tm:=[(0,.im k rows)],ob:=[]}:=by rw[←hS,hn];rfl
 subst hs0
 generalize bodyPost P fn (fun
    | .returned v,w'=> ∃e',e'.w=w'/\ExitOk fm e [.v (.im k rows)] {out:=[.v (.own k rows)],fin:=[],pfin:=[]} e' v
    |_,_=>False)=Q at hend ⊢
 refine wp_seq (region_ok (K:=K0) (md:=fun _=>[]) (h:={}) (n:=8) (l:=[⟨some 2,.mov (.k (.nil k)),none⟩]) (s':={n:=8,m:=0,tm:=[(2,.nil k),(0,.im k rows)],ob:=[]}) k0_ok hR ?_ ?_ ?_)
 ·simp[cl0,prepOpers,prepOper,prepOp,xOf,constA,const1,ht,hk]
 ·rfl
 intro e1 a1 hR1
 refine wp_seq (wp_seq (wp_region ?_))
 have h3:=hR1.tm 0
 have hx0:xOf P t (.tmp 0)=some (.t 0):=rfl
 have hwp:=(op_move (P:=P) (o:={dst:=some 3,op:= .move (.tmp 0),type:=t,pos:= "slices.go:357",after:= #[],guard:=none}) (s':={n:=8,m:=0,tm:=[(3,.im k rows),(2,.nil k),(0,.im k rows)],ob:=[]}) hR1 (.inl rfl) hx0 rfl).wp (M:=[]) hR1
 show wpOps P (cl1 t b) _ [0,1] a1 e1.w
 simp only[wpOps,cl1,List.getElem?_toArray,List.getElem?_cons_zero,Region.wanted,if_true]
 refine .inl (Oper.wp_mono (fun a2 w2 hh=> ?_) (hwp _))
 obtain⟨e2,rfl,hR2,_⟩:=hh
 simp only[List.getElem?_cons_succ,List.getElem?_cons_zero,if_true]
 refine .inl ?_
 have hv3:=hR2.tm 3
 simp only[getT,if_true]at hv3
 generalize hev:a2.tmps.getD 3 undef=v3 at hv3
 have hev3:a2.eval (.tmp 3)=v3:=hev
 obtain⟨ad,n',c,hv3e,hnil⟩: ∃ad n c,v3= .slice ad n c/\(ad=none->rows=[]):=by
  cases hv3 with
  |im v k rows hp=>
   cases hp with
   |nil ad c k=>exact⟨ad,0,c,rfl,fun _=>rfl⟩
   |sl b off c k rows us _ _ _ _ _=>exact⟨_,_,_,rfl,fun h=>by cases h⟩
 subst hv3e
 have hrun:(execOp a2.eval {dst:=some 4,op:= .binOp .eql t (.tmp 3) (.const (.slice none 0 0)) t,type:=b,pos:= "slices.go:357",after:= #[{on:=0,ground:= .data}],guard:=none}).run P e2.w= .ok (.value (.bool ad.isNone)) e2.w:=by
  have hg:(eqGuard .eql t (.tmp 3) (.const (.slice none 0 0)) (.slice ad n' c) (.slice none 0 0)).run P e2.w= .ok () e2.w:=rfl
  have hc:a2.eval (.const (.slice none 0 0))= .slice none 0 0:=rfl
  simp[execOp,hev3,hc,hg,eql_nil ht]
 have hput:({n:=8,m:=0,tm:=[(3,.im k rows),(2,.nil k),(0,.im k rows)],ob:=[]}:St).put (some 4) (.sc (.bool ad.isNone))=some {n:=8,m:=0,tm:=[(4,.sc (.bool ad.isNone)),(3,.im k rows),(2,.nil k),(0,.im k rows)],ob:=[]}:=rfl
 refine Oper.wp_mono (fun a3 w3 hh=> ?_) (value_ok (M:=[]) hR2 hrun (.sc _ rfl) hput _)
 obtain⟨e3,rfl,hR3,_⟩:=hh
 have hc4:=hR3.tm 4
 simp only[getT,if_true]at hc4
 have hc4:a3.eval (.tmp 4)= .bool ad.isNone:=hc4.sc_inv.1
 show (Code.cond _ _ _).wp P _ a3 e3.w
 refine wp_cond hc4 ?_
 cases had:ad with
 |none=>
  have:=hnil had
  subst this
  simp only[Option.isNone_none,if_true]
  refine wp_seq (region_ok (K:=K0) (md:=fun _=>[]) (h:={}) (n:=8) (l:=[⟨some 2,.mov (.k (.nil k)),none⟩]) (s':={n:=8,m:=0,tm:=[(2,.nil k),(4,.sc (.bool ad.isNone)),(3,.im k []),(2,.nil k),(0,.im k [])],ob:=[]}) k0_ok hR3 ?_ ?_ ?_)
  ·simp[cl2,prepOpers,prepOper,prepOp,xOf,constA,const1,ht,hk]
  ·rfl
  intro e4 a4 hR4
  refine wp_ret ?_
  exact hend hR4 rfl rfl rfl
 |some x=>
  simp only[Option.isNone_some,if_false,Bool.false_eq_true]
  refine wp_skip ?_
  show (Code.seq _ _).wp P _ a3 e3.w
  refine wp_seq (region_ok (K:=K0) (md:=fun _=>[]) (h:={}) (n:=8) (l:=[⟨some 5,.bsl 40000 k [],none⟩,⟨some 6,.mov (.t 0),none⟩,⟨some 7,.app 40200 k bytes (.t 5) (.t 6),none⟩,⟨some 2,.mov (.t 7),none⟩])
   (s':={n:=8,m:=0,tm:=[(2,.ref 40200 []),(7,.ref 40200 []),(6,.im k rows),(5,.dead),(4,.sc (.bool ad.isNone)),(3,.im k rows),(2,.nil k),(0,.im k rows)],ob:=[(40200,.arr k rows)]}) k0_ok hR3 ?_ ?_ ?_)
  ·simp[cl3,prepOpers,prepOper,prepOp,prepCall,xOf,ht,hk,hby,hz,rowOf]
  ·simp[steps,stepG,stepI,bslA,St.new,St.putO,getO,delO,St.put,ev,getT,appA,Hand.root,headRows,rowsOf,hpos,hsz,hflat,growS,St.gone,St.sub,subT,subO,AV.sub,growF,Obj.sub]
  intro e4 a4 hR4
  refine wp_ret ?_
  refine hend hR4 rfl ?_ rfl
  simp[leave,mapM',resV,getT,flatA,Hand.rootsI,Hand.rootI,Hand.root,ownIds,openArg,openLs,boxIds,Hand.rootBoxes,closeBs,closeRVs,closeRV,closeL,unflatA,shapes,getO,nodupB]
end Go.Proofs.YtbolhfegdocpeaaGreat.Ow
namespace Go.Proofs.YtbolhfegdocpeaaGreat.Ow
open Go
attribute [simp] getT getO delO cellAt setAt nodeAt nodeSet cutAt isSc ev AV.sub subL subT Obj.sub subO St.sub St.putO St.gone St.new St.put pre binS beqS beqA binA unA ofD ofPT ofDs ofPTs nodeOf cells loadA
 rowsOf lenA natOf idxA offA sliceA optNat bytesOf toT mapM' oneCell boxable rowAV isIm allSc allScA flat Ow.window cutF Hand.sub Hand.cut Hand.root Hand.roots setRow bare adoptF St.adopt St.adopts Hand.detach St.write storePa storeTo
 storeA holed holedR comeF growF headRows winOf growS appA app0A winAt putNode belowF cpyA clrA adoptRows unflat isImR bslA openLs openArg openArgs entry openRV openRVs AV.mv mvL AV.mvt mvtL noAl noAlL tkList tkGet tkKeys tkBack alL alArg alRV ownL Obj.mv flatA shapes unflatA Hand.rootI Hand.rootsI splitLast
 pairOf Hand.push Hand.rootsM capOf placeA placeL boxPl boxPls headN lendL lendLs closeL closeLs pimT closeArg closeArgs ownIds exitF exitB exitO imL imRV one backN nodupB posN afterF delAll mvAll freshO backA paObjs giveA Given.merge Given.take
 callA Hand.rootsAt bldA stepI stepG steps St.drop tgt tgtW nums leafFoot leafsFoot callFoot callcFoot foot hangOk insT sortT insO sortO same2 runD objsA objsL objsO addN liveT objsT reachO mvT isObj canonF mvO keepO canonL canon exec
 resV boxIds Hand.rootBox Hand.rootBoxes closeRV closeRVs closeBs finOf leave endF
@[simp] def io (d:Nat) (op:I):Ins:=⟨some d,op,none⟩
@[simp] def ix (op:I):Ins:=⟨none,op,none⟩
@[simp] def ki (n:Int):X:= .k (.sc (.int .i64 n))
@[simp] def kb (b:Bool):X:= .k (.sc (.bool b))
def enc {α:Type} (f:α->List T) (l:List α):List (List T):=l.map f
@[simp] theorem enc_len {α:Type} (f:α->List T) (l:List α):(enc f l).length=l.length:=by simp[enc]
@[simp] theorem enc_get {α:Type} (f:α->List T) (l:List α) (i:Nat):(enc f l)[i]? =l[i]?.map f:=by simp[enc]
@[simp] theorem enc_at {α:Type} (f:α->List T) (l:List α) (i:Nat) (h:i<(enc f l).length):(enc f l)[i]=f (l[i]'(by simpa using h)):=by simp[enc]
theorem at_of {α:Type} {l:List α} {i:Nat} {x:α} (h:l[i]? =some x): ∃hi:i<l.length,l[i]=x:=List.getElem?_eq_some_iff.1 h
@[simp] theorem enc_nil {α:Type} (f:α->List T):enc f []=[]:=rfl
@[simp] theorem enc_cons {α:Type} (f:α->List T) (x:α) (l:List α):enc f (x::l)=f x::enc f l:=rfl
theorem enc_append {α:Type} (f:α->List T) (l m:List α):enc f l++enc f m=enc f (l++m):=by simp[enc]
theorem enc_set {α:Type} (f:α->List T) (l:List α) (i:Nat) (x:α):(enc f l).set i (f x)=enc f (l.set i x):=by simp[enc]
theorem enc_take {α:Type} (f:α->List T) (l:List α) (n:Nat):(enc f l).take n=enc f (l.take n):=by simp[enc]
theorem enc_drop {α:Type} (f:α->List T) (l:List α) (n:Nat):(enc f l).drop n=enc f (l.drop n):=by simp[enc]
theorem enc_rep {α:Type} (f:α->List T) (n:Nat) (x:α):List.replicate n (f x)=enc f (List.replicate n x):=by simp[enc]
theorem enc_flat {α:Type} {f:α->List T} (h: ∀x,allSc (f x)=true): ∀l:List α,flat (enc f l)=true
 |[]=>rfl
 |x::l=>by show (allSc (f x)&&flat (enc f l))=true;rw[h,enc_flat h l];rfl
@[simp] def fI (n:Int):List T:=[.sc (.int .i64 n)]
@[simp] def fU (n:Int):List T:=[.sc (.int .u8 n)]
@[simp] def fL (b:Bool):List T:=[.sc (.bool b)]
@[simp] def fS (s:ByteArray):List T:=[.sc (.string s)]
@[simp] def fII (l:List Int):List T:=[.sl 1 (enc fI l)]
@[simp] def fUU (l:List Int):List T:=[.sl 1 (enc fU l)]
@[simp] theorem flat_I (l:List Int):flat (enc fI l)=true:=enc_flat (fun _=>rfl) l
@[simp] theorem flat_U (l:List Int):flat (enc fU l)=true:=enc_flat (fun _=>rfl) l
@[simp] theorem flat_L (l:List Bool):flat (enc fL l)=true:=enc_flat (fun _=>rfl) l
@[simp] theorem flat_S (l:List ByteArray):flat (enc fS l)=true:=enc_flat (fun _=>rfl) l
def cp {α:Type} (d:α) (l:List α) (j:Nat):List α:=l.take j++List.replicate (l.length - j) d
@[simp] theorem cp_len {α:Type} (d:α) (l:List α) {j:Nat} (h:j<=l.length):(cp d l j).length=l.length:=by simp[cp];omega
theorem cp_get {α:Type} (d:α) (l:List α) {j:Nat} (h:j<l.length):(cp d l j)[j]? =some d:=by
 unfold cp
 rw[List.getElem?_append_right (by simp;omega)]
 simp only[List.length_take,List.getElem?_replicate]
 rw[if_pos (by omega)]
theorem cp_at {α:Type} (d:α) (l:List α) {j:Nat} (h:j<l.length):(cp d l j)[j]'(by simp[cp];omega)=d:=(at_of (cp_get d l h)).2
theorem cp_set {α:Type} (d:α) (l:List α) {j:Nat} {x:α} (h:l[j]? =some x):(cp d l j).set j x=cp d l (j+1):=by
 have hj:j<l.length:=(List.getElem?_eq_some_iff.1 h).1
 apply List.ext_getElem?
 intro i
 have hx:l[j]=x:=(List.getElem?_eq_some_iff.1 h).2
 unfold cp
 rw[List.getElem?_set]
 split
 ·rename_i hij
  subst hij
  rw[if_pos (by simp;omega),List.getElem?_append_left (by simp;omega),List.getElem?_take,if_pos (by omega)]
  exact h.symm
 ·rename_i hij
  rcases Nat.lt_or_ge i j with h1|h1
  ·rw[List.getElem?_append_left (by simp;omega),List.getElem?_append_left (by simp;omega),List.getElem?_take,List.getElem?_take,if_pos h1,if_pos (by omega)]
  ·rw[List.getElem?_append_right (by simp;omega),List.getElem?_append_right (by simp;omega),List.getElem?_replicate,List.getElem?_replicate]
   simp only[List.length_take]
   congr 1
   apply propext
   omega
theorem cp_zero {α:Type} (d:α) (l:List α):cp d l 0=List.replicate l.length d:=by simp[cp]
theorem cp_all {α:Type} (d:α) (l:List α):cp d l l.length=l:=by simp[cp]
theorem wrap_id {x:Int} (h0: -9223372036854775808<=x) (h1:x<=9223372036854775807):IntKind.wrap .i64 x=x:=by
 have h1:IntKind.wrap .i64 x=(if x%18446744073709551616 ≥ 9223372036854775808 then x%18446744073709551616 - 18446744073709551616 else x%18446744073709551616):=by
  simp[IntKind.wrap,IntKind.bits,IntKind.signed]
 rw[h1]
 split<;>omega
end Go.Proofs.YtbolhfegdocpeaaGreat.Ow
namespace Go.Proofs.YtbolhfegdocpeaaGreat.Ow
open Go
variable {G:Nat->Option PF} {PK:Nat->List Arg->Option Res} {md:Nat->List Nat}
theorem loop_ok {o:Nat} {live:List Nat} {c:C} (ST:Nat->St) (n:Nat)
  (hstep: ∀j,j<n-> ∃s',exec (semK G PK md) (semL G PK md) md c (ST j)=some (.normal,s')/\s'.m<=o/\canon o live s'=ST (j+1))
  (hend: ∃ex s',exec (semK G PK md) (semL G PK md) md c (ST n)=some (ex,s')/\ex≠ .normal):
  ∀ (s:St),s.m<=o->canon o live s=ST 0->semL G PK md o live c s=exec (semK G PK md) (semL G PK md) md c (ST n):=by
 have key: ∀ (d j:Nat),j+d=n-> ∀ (s:St),s.m<=o->canon o live s=ST j->semL G PK md o live c s=exec (semK G PK md) (semL G PK md) md c (ST n):=by
  intro d
  induction d with
  |zero=>
   intro j hj s hm hs
   have:j=n:=by omega
   subst this
   obtain⟨ex,s',h,hne⟩:=hend
   rw[h]
   exact semL_done hm (by rw[hs];exact h) hne
  |succ d ih=>
   intro j hj s hm hs
   obtain⟨s',h1,h2,h3⟩:=hstep j (by omega)
   have h4:=ih (j+1) (by omega) s' h2 h3
   obtain⟨ex,s2,h5,hne⟩:=hend
   rw[h5]at h4 ⊢
   exact semL_more hm (by rw[hs];exact h1) h4
 intro s hm hs
 exact key n 0 (by omega) s hm hs
theorem first (p:Nat->Prop) (n:Nat): ∃k,k<=n/\(∀j,j<k->p j)/\(k=n\/k<n/\ ¬p k):=by
 induction n with
 |zero=>exact⟨0,Nat.le_refl _,fun j h=>absurd h (by omega),.inl rfl⟩
 |succ n ih=>
  obtain⟨k,h1,h2,h3⟩:=ih
  rcases h3 with rfl|⟨h3,h4⟩
  ·by_cases hp:p k
   ·refine⟨k+1,Nat.le_refl _,fun j hj=> ?_,.inl rfl⟩
    rcases Nat.lt_or_ge j k with h|h
    ·exact h2 j h
    ·rwa [show j=k by omega]
   ·exact⟨k,by omega,h2,.inr ⟨by omega,hp⟩⟩
  ·exact⟨k,by omega,h2,.inr ⟨by omega,h4⟩⟩
theorem incr {j n:Nat} (h:j<n) (hn:n<=1048576):IntKind.wrap .i64 ((j:Int)+1)=((j+1:Nat):Int):=by rw[wrap_id (by omega) (by omega)];rfl
def szr (left:Int) (s:Nat):Int:=if left<s then -1 else left - s
def sumN:List Nat->Nat
 |[]=>0
 |a::l=>a+sumN l
theorem sumN_take (l:List Nat) {j x:Nat} (h:l[j]? =some x):sumN (l.take (j+1))=sumN (l.take j)+x:=by
 induction l generalizing j with
 |nil=>simp at h
 |cons a l ih=>
  cases j with
  |zero=>simp at h;subst h;simp[sumN]
  |succ j=>simp at h;simp only[List.take_succ_cons,sumN,ih h];omega
theorem sumN_le (l:List Nat) (j:Nat):sumN (l.take j)<=sumN l:=by
 induction l generalizing j with
 |nil=>simp[sumN]
 |cons a l ih=>
  cases j with
  |zero=>simp[sumN]
  |succ j=>simp only[List.take_succ_cons,sumN];have:=ih j;omega
theorem sumN_mem {l:List Nat} {x:Nat} (h:x∈l):x<=sumN l:=by
 induction l with
 |nil=>cases h
 |cons a l ih=>
  simp only[sumN]
  rcases List.mem_cons.1 h with rfl|h
  ·omega
  ·have:=ih h;omega
structure MetaD where
 gens:List Int
 bits:List (List Int)
 fine:Bool
 old:Bool
 held:Bool
 last:Int
 deriving Inhabited,DecidableEq
structure SlotsD where
 a:List Int
 b:List Int
 deriving Inhabited,DecidableEq
structure NodeD where
 id:Int
 up:Bool
 prime:Bool
 image:List Int
 mt:MetaD
 sl:SlotsD
 conn:List Bool
 sync:List (List Int)
 copies:List Bool
 wait:List Int
 deriving Inhabited,DecidableEq
structure WireD where
 src:Int
 dst:Int
 bytes:List Int
 deriving Inhabited,DecidableEq
structure RecD where
 cell:Int
 up:Int
 deriving Inhabited,DecidableEq
structure WorldD where
 nodes:List NodeD
 net:List WireD
 log:List RecD
 safe:List Int
 gen:Int
 deriving Inhabited,DecidableEq
structure SnapD where
 last:Int
 image:List Int
 deriving Inhabited,DecidableEq
structure StoreD where
 w:WorldD
 blocks:List (List Int)
 deriving Inhabited,DecidableEq
@[simp] def fM (n:MetaD):List T:=[.sl 1 (enc fI n.gens),.sl 1 (enc fII n.bits),.sc (.bool n.fine),.sc (.bool n.old),.sc (.bool n.held),.sc (.int .i64 n.last)]
@[simp] def fSl (n:SlotsD):List T:=[.sl 1 (enc fU n.a),.sl 1 (enc fU n.b)]
@[simp] def fN (n:NodeD):List T:=[.sc (.int .i64 n.id),.sc (.bool n.up),.sc (.bool n.prime),.sl 1 (enc fI n.image),.sl 1 (enc fI n.mt.gens),.sl 1 (enc fII n.mt.bits),.sc (.bool n.mt.fine),.sc (.bool n.mt.old),.sc (.bool n.mt.held),.sc (.int .i64 n.mt.last),
 .sl 1 (enc fU n.sl.a),.sl 1 (enc fU n.sl.b),.sl 1 (enc fL n.conn),.sl 1 (enc fII n.sync),.sl 1 (enc fL n.copies),.sl 1 (enc fI n.wait)]
@[simp] def fW (w:WireD):List T:=[.sc (.int .i64 w.src),.sc (.int .i64 w.dst),.sl 1 (enc fU w.bytes)]
@[simp] def fR (r:RecD):List T:=[.sc (.int .i64 r.cell),.sc (.int .i64 r.up)]
@[simp] def fWo (w:WorldD):List T:=[.sl 16 (enc fN w.nodes),.sl 3 (enc fW w.net),.sl 2 (enc fR w.log),.sl 1 (enc fI w.safe),.sc (.int .i64 w.gen)]
@[simp] def fSn (s:SnapD):List T:=[.sc (.int .i64 s.last),.sl 1 (enc fI s.image)]
@[simp] def fSt (s:StoreD):List T:=[.sl 16 (enc fN s.w.nodes),.sl 3 (enc fW s.w.net),.sl 2 (enc fR s.w.log),.sl 1 (enc fI s.w.safe),.sc (.int .i64 s.w.gen),.sl 1 (enc fUU s.blocks)]
def zN:NodeD:=⟨0,false,false,[],⟨[],[],false,false,false,0⟩,⟨[],[]⟩,[],[],[],[]⟩
def zW:WireD:=⟨0,0,[]⟩
def zR:RecD:=⟨0,0⟩
@[simp] theorem zN0:zN.id=0:=rfl
@[simp] theorem zN1:zN.up=false:=rfl
@[simp] theorem zN2:zN.prime=false:=rfl
@[simp] theorem zN3:zN.image=[]:=rfl
@[simp] theorem zN4:zN.mt.gens=[]:=rfl
@[simp] theorem zN5:zN.mt.bits=[]:=rfl
@[simp] theorem zN6:zN.mt.fine=false:=rfl
@[simp] theorem zN7:zN.mt.old=false:=rfl
@[simp] theorem zN8:zN.mt.held=false:=rfl
@[simp] theorem zN9:zN.mt.last=0:=rfl
@[simp] theorem zN10:zN.sl.a=[]:=rfl
@[simp] theorem zN11:zN.sl.b=[]:=rfl
@[simp] theorem zN12:zN.conn=[]:=rfl
@[simp] theorem zN13:zN.sync=[]:=rfl
@[simp] theorem zN14:zN.copies=[]:=rfl
@[simp] theorem zN15:zN.wait=[]:=rfl
@[simp] theorem zW0:zW.src=0:=rfl
@[simp] theorem zW1:zW.dst=0:=rfl
@[simp] theorem zW2:zW.bytes=[]:=rfl
@[simp] theorem zR0:zR.cell=0:=rfl
@[simp] theorem zR1:zR.up=0:=rfl
@[simp] def lent:T->L
 | .sc v=> .sc v
 | .sl k rows=> .im k rows
 | .hole=> .sc (.bool false)
@[simp] def owned:T->L
 | .sc v=> .sc v
 | .sl k rows=> .own k rows
 | .hole=> .sc (.bool false)
@[simp] def lents:List T->List L
 |[]=>[]
 |t::l=>lent t::lents l
@[simp] def owneds:List T->List L
 |[]=>[]
 |t::l=>owned t::owneds l
theorem szr_lt {left:Int} {s:Nat} (h:left<s):szr left s= -1:=by unfold szr;rw[if_pos h]
theorem szr_ge {left:Int} {s:Nat} (h: ¬left<s):szr left s=left - s:=by unfold szr;rw[if_neg h]
def short {α:Type} (l:List α):Prop:=l.length<=9223372036854775807
def shorts {α:Type} (p:α->Prop) (l:List α):Prop:=short l/\ ∀x∈l,p x
def szs {α:Type} (f:α->Nat) (l:List α):Nat:=l.length+sumN (l.map f)
def szM (n:MetaD):Nat:=n.gens.length+szs List.length n.bits
def szSl (n:SlotsD):Nat:=n.a.length+n.b.length
def szN (n:NodeD):Nat:=n.image.length+szM n.mt+szSl n.sl+n.conn.length+szs List.length n.sync+n.copies.length+n.wait.length
def szW (w:WireD):Nat:=w.bytes.length
def szWo (w:WorldD):Nat:=szs szN w.nodes+szs szW w.net+w.log.length+w.safe.length
def szSn (s:SnapD):Nat:=s.image.length
def szSt (s:StoreD):Nat:=szWo s.w+szs List.length s.blocks
def shM (n:MetaD):Prop:=short n.gens/\shorts short n.bits
def shSl (n:SlotsD):Prop:=short n.a/\short n.b
def shN (n:NodeD):Prop:=short n.image/\shM n.mt/\shSl n.sl/\short n.conn/\shorts short n.sync/\short n.copies/\short n.wait
def shW (w:WireD):Prop:=short w.bytes
def shWo (w:WorldD):Prop:=shorts shN w.nodes/\shorts shW w.net/\short w.log/\short w.safe
def shSn (s:SnapD):Prop:=short s.image
def shSt (s:StoreD):Prop:=shWo s.w/\shorts short s.blocks
end Go.Proofs.YtbolhfegdocpeaaGreat.Ow
namespace Go.Proofs.YtbolhfegdocpeaaGreat.Ow
open Go
structure RowT (tys:List Ty) (ts:List T):Prop where
 len:ts.length=tys.length
 ok: ∀ (j:Nat) ty t,tys[j]? =some ty->ts[j]? =some t->IsT ty t
theorem isT_int {k:IntKind} {t:T} (h:IsT (.int k) t): ∃n,t= .sc (.int k n)/\(Lit.int k n).wf=true:=by cases h with|int k n h=>exact⟨n,rfl,h⟩
theorem isT_bool {t:T} (h:IsT .bool t): ∃b,t= .sc (.bool b):=by cases h with|bool b=>exact⟨b,rfl⟩
theorem isT_sl {row:List Ty} {t:T} (h:IsT (.sl row) t): ∃rows,t= .sl row.length rows/\rows.length<=9223372036854775807/\ ∀r∈rows,RowT row r:=by
 cases h with
 |sl row rows hl hr h=>exact⟨rows,rfl,hl,fun r hr'=>⟨hr r hr',h r hr'⟩⟩
theorem rows_enc {α:Type} {f:α->List T} {p:α->Prop}: ∀ {rows:List (List T)},(∀r∈rows,∃x,r=f x/\p x)-> ∃l,rows=enc f l/\ ∀x∈l,p x
 |[],_=>⟨[],rfl,fun x h=>by cases h⟩
 |r::rows,h=>by
  obtain⟨x,rfl,hx⟩:=h r List.mem_cons_self
  obtain⟨l,rfl,hl⟩:=rows_enc fun r hr=>h r (List.mem_cons_of_mem _ hr)
  exact⟨x::l,rfl,fun y hy=>by
   rcases List.mem_cons.1 hy with rfl|hy
   ·exact hx
   ·exact hl y hy⟩
def Dec {α:Type} (tys:List Ty) (f:α->List T) (p:α->Prop):Prop:= ∀ts,RowT tys ts-> ∃x,ts=f x/\p x
theorem dec_sl {α:Type} {tys:List Ty} {f:α->List T} {p:α->Prop} (h:Dec tys f p) {t:T} (ht:IsT (.sl tys) t): ∃l,t= .sl tys.length (enc f l)/\shorts p l:=by
 obtain⟨rows,rfl,hl,hr⟩:=isT_sl ht
 obtain⟨l,rfl,hp⟩:=rows_enc fun r hr'=>h r (hr r hr')
 exact⟨l,rfl,by simpa[short]using hl,hp⟩
theorem row1 {ty:Ty} {ts:List T} (h:RowT [ty] ts): ∃t,ts=[t]/\IsT ty t:=by
 obtain⟨hl,ho⟩:=h
 match ts,hl with
 |[t],_=>exact⟨t,rfl,ho 0 ty t rfl rfl⟩
theorem rowc {ty:Ty} {tys:List Ty} {ts:List T} (h:RowT (ty::tys) ts): ∃t ts',ts=t::ts'/\IsT ty t/\RowT tys ts':=by
 obtain⟨hl,ho⟩:=h
 cases ts with
 |nil=>simp at hl
 |cons t ts=>exact⟨t,ts,rfl,ho 0 ty t rfl rfl,by simpa using hl,fun j ty' t' h1 h2=>ho (j+1) ty' t' h1 h2⟩
theorem rown {ts:List T} (h:RowT [] ts):ts=[]:=List.eq_nil_of_length_eq_zero h.len
theorem dec_I:Dec [.int .i64] fI fun n=>(Lit.int .i64 n).wf=true:=fun ts h=>by
 obtain⟨t,rfl,h1⟩:=row1 h
 obtain⟨n,rfl,hn⟩:=isT_int h1
 exact⟨n,rfl,hn⟩
theorem dec_U:Dec [.int .u8] fU fun n=>(Lit.int .u8 n).wf=true:=fun ts h=>by
 obtain⟨t,rfl,h1⟩:=row1 h
 obtain⟨n,rfl,hn⟩:=isT_int h1
 exact⟨n,rfl,hn⟩
theorem dec_L:Dec [.bool] fL fun _=>True:=fun ts h=>by
 obtain⟨t,rfl,h1⟩:=row1 h
 obtain⟨n,rfl⟩:=isT_bool h1
 exact⟨n,rfl,trivial⟩
def okI (l:List Int):Prop:=shorts (fun n=>(Lit.int .i64 n).wf=true) l
def okU (l:List Int):Prop:=shorts (fun n=>(Lit.int .u8 n).wf=true) l
theorem dec_II:Dec [.sl [.int .i64]] fII okI:=fun ts h=>by
 obtain⟨t,rfl,h1⟩:=row1 h
 obtain⟨l,rfl,hl⟩:=dec_sl dec_I h1
 exact⟨l,rfl,hl⟩
theorem dec_UU:Dec [.sl [.int .u8]] fUU okU:=fun ts h=>by
 obtain⟨t,rfl,h1⟩:=row1 h
 obtain⟨l,rfl,hl⟩:=dec_sl dec_U h1
 exact⟨l,rfl,hl⟩
def tyN:List Ty:=[.int .i64,.bool,.bool,.sl [.int .i64],.sl [.int .i64],.sl [.sl [.int .i64]],.bool,.bool,.bool,.int .i64,.sl [.int .u8],.sl [.int .u8],.sl [.bool],.sl [.sl [.int .i64]],.sl [.bool],.sl [.int .i64]]
structure okN (x:NodeD):Prop where
 id:(Lit.int .i64 x.id).wf=true
 image:okI x.image
 gens:okI x.mt.gens
 bits:shorts okI x.mt.bits
 last:(Lit.int .i64 x.mt.last).wf=true
 a:okU x.sl.a
 b:okU x.sl.b
 conn:short x.conn
 sync:shorts okI x.sync
 copies:short x.copies
 wait:okI x.wait
theorem shorts_short {α:Type} {p:α->Prop} {l:List α} (h:shorts p l):short l:=h.1
theorem shorts2 {l:List (List Int)} (h:shorts okI l):shorts short l:=⟨h.1,fun x hx=>(h.2 x hx).1⟩
theorem okN.sh {x:NodeD} (h:okN x):shN x:=⟨h.image.1,⟨h.gens.1,shorts2 h.bits⟩,⟨h.a.1,h.b.1⟩,h.conn,shorts2 h.sync,h.copies,h.wait.1⟩
theorem dec_N:Dec tyN fN okN:=fun ts h=>by
 obtain⟨t0,ts,rfl,h0,h⟩:=rowc h
 obtain⟨t1,ts,rfl,h1,h⟩:=rowc h
 obtain⟨t2,ts,rfl,h2,h⟩:=rowc h
 obtain⟨t3,ts,rfl,h3,h⟩:=rowc h
 obtain⟨t4,ts,rfl,h4,h⟩:=rowc h
 obtain⟨t5,ts,rfl,h5,h⟩:=rowc h
 obtain⟨t6,ts,rfl,h6,h⟩:=rowc h
 obtain⟨t7,ts,rfl,h7,h⟩:=rowc h
 obtain⟨t8,ts,rfl,h8,h⟩:=rowc h
 obtain⟨t9,ts,rfl,h9,h⟩:=rowc h
 obtain⟨t10,ts,rfl,h10,h⟩:=rowc h
 obtain⟨t11,ts,rfl,h11,h⟩:=rowc h
 obtain⟨t12,ts,rfl,h12,h⟩:=rowc h
 obtain⟨t13,ts,rfl,h13,h⟩:=rowc h
 obtain⟨t14,ts,rfl,h14,h⟩:=rowc h
 obtain⟨t15,ts,rfl,h15,h⟩:=rowc h
 have:=rown h
 subst this
 obtain⟨n0,rfl,w0⟩:=isT_int h0
 obtain⟨b1,rfl⟩:=isT_bool h1
 obtain⟨b2,rfl⟩:=isT_bool h2
 obtain⟨l3,rfl,w3⟩:=dec_sl dec_I h3
 obtain⟨l4,rfl,w4⟩:=dec_sl dec_I h4
 obtain⟨l5,rfl,w5⟩:=dec_sl dec_II h5
 obtain⟨b6,rfl⟩:=isT_bool h6
 obtain⟨b7,rfl⟩:=isT_bool h7
 obtain⟨b8,rfl⟩:=isT_bool h8
 obtain⟨n9,rfl,w9⟩:=isT_int h9
 obtain⟨l10,rfl,w10⟩:=dec_sl dec_U h10
 obtain⟨l11,rfl,w11⟩:=dec_sl dec_U h11
 obtain⟨l12,rfl,w12⟩:=dec_sl dec_L h12
 obtain⟨l13,rfl,w13⟩:=dec_sl dec_II h13
 obtain⟨l14,rfl,w14⟩:=dec_sl dec_L h14
 obtain⟨l15,rfl,w15⟩:=dec_sl dec_I h15
 exact⟨⟨n0,b1,b2,l3,⟨l4,l5,b6,b7,b8,n9⟩,⟨l10,l11⟩,l12,l13,l14,l15⟩,rfl,⟨w0,w3,w4,w5,w9,w10,w11,w12.1,w13,w14.1,w15⟩⟩
def tyW:List Ty:=[.int .i64,.int .i64,.sl [.int .u8]]
structure okW (x:WireD):Prop where
 src:(Lit.int .i64 x.src).wf=true
 dst:(Lit.int .i64 x.dst).wf=true
 bytes:okU x.bytes
theorem dec_W:Dec tyW fW okW:=fun ts h=>by
 obtain⟨t0,ts,rfl,h0,h⟩:=rowc h
 obtain⟨t1,ts,rfl,h1,h⟩:=rowc h
 obtain⟨t2,ts,rfl,h2,h⟩:=rowc h
 have:=rown h
 subst this
 obtain⟨n0,rfl,w0⟩:=isT_int h0
 obtain⟨n1,rfl,w1⟩:=isT_int h1
 obtain⟨l2,rfl,w2⟩:=dec_sl dec_U h2
 exact⟨⟨n0,n1,l2⟩,rfl,⟨w0,w1,w2⟩⟩
def tyR:List Ty:=[.int .i64,.int .i64]
structure okR (x:RecD):Prop where
 cell:(Lit.int .i64 x.cell).wf=true
 up:(Lit.int .i64 x.up).wf=true
theorem dec_R:Dec tyR fR okR:=fun ts h=>by
 obtain⟨t0,ts,rfl,h0,h⟩:=rowc h
 obtain⟨t1,ts,rfl,h1,h⟩:=rowc h
 have:=rown h
 subst this
 obtain⟨n0,rfl,w0⟩:=isT_int h0
 obtain⟨n1,rfl,w1⟩:=isT_int h1
 exact⟨⟨n0,n1⟩,rfl,⟨w0,w1⟩⟩
def tyWo:List Ty:=[.sl tyN,.sl tyW,.sl tyR,.sl [.int .i64],.int .i64]
structure okWo (x:WorldD):Prop where
 nodes:shorts okN x.nodes
 net:shorts okW x.net
 log:shorts okR x.log
 safe:okI x.safe
 gen:(Lit.int .i64 x.gen).wf=true
theorem dec_Wo:Dec tyWo fWo okWo:=fun ts h=>by
 obtain⟨t0,ts,rfl,h0,h⟩:=rowc h
 obtain⟨t1,ts,rfl,h1,h⟩:=rowc h
 obtain⟨t2,ts,rfl,h2,h⟩:=rowc h
 obtain⟨t3,ts,rfl,h3,h⟩:=rowc h
 obtain⟨t4,ts,rfl,h4,h⟩:=rowc h
 have:=rown h
 subst this
 obtain⟨l0,rfl,w0⟩:=dec_sl dec_N h0
 obtain⟨l1,rfl,w1⟩:=dec_sl dec_W h1
 obtain⟨l2,rfl,w2⟩:=dec_sl dec_R h2
 obtain⟨l3,rfl,w3⟩:=dec_sl dec_I h3
 obtain⟨n4,rfl,w4⟩:=isT_int h4
 exact⟨⟨l0,l1,l2,l3,n4⟩,rfl,⟨w0,w1,w2,w3,w4⟩⟩
theorem okWo.sh {x:WorldD} (h:okWo x):shWo x:=⟨⟨h.nodes.1,fun y hy=>(h.nodes.2 y hy).sh⟩,⟨h.net.1,fun y hy=>(h.net.2 y hy).bytes.1⟩,h.log.1,h.safe.1⟩
def tySn:List Ty:=[.int .i64,.sl [.int .i64]]
structure okSn (x:SnapD):Prop where
 last:(Lit.int .i64 x.last).wf=true
 image:okI x.image
theorem dec_Sn:Dec tySn fSn okSn:=fun ts h=>by
 obtain⟨t0,ts,rfl,h0,h⟩:=rowc h
 obtain⟨t1,ts,rfl,h1,h⟩:=rowc h
 have:=rown h
 subst this
 obtain⟨n0,rfl,w0⟩:=isT_int h0
 obtain⟨l1,rfl,w1⟩:=dec_sl dec_I h1
 exact⟨⟨n0,l1⟩,rfl,⟨w0,w1⟩⟩
theorem okSn.sh {x:SnapD} (h:okSn x):shSn x:=h.image.1
def tySt:List Ty:=tyWo++[.sl [.sl [.int .u8]]]
structure okSt (x:StoreD):Prop where
 w:okWo x.w
 blocks:shorts okU x.blocks
theorem dec_St:Dec tySt fSt okSt:=fun ts h=>by
 obtain⟨t0,ts,rfl,h0,h⟩:=rowc h
 obtain⟨t1,ts,rfl,h1,h⟩:=rowc h
 obtain⟨t2,ts,rfl,h2,h⟩:=rowc h
 obtain⟨t3,ts,rfl,h3,h⟩:=rowc h
 obtain⟨t4,ts,rfl,h4,h⟩:=rowc h
 obtain⟨t5,ts,rfl,h5,h⟩:=rowc h
 have:=rown h
 subst this
 obtain⟨l0,rfl,w0⟩:=dec_sl dec_N h0
 obtain⟨l1,rfl,w1⟩:=dec_sl dec_W h1
 obtain⟨l2,rfl,w2⟩:=dec_sl dec_R h2
 obtain⟨l3,rfl,w3⟩:=dec_sl dec_I h3
 obtain⟨n4,rfl,w4⟩:=isT_int h4
 obtain⟨l5,rfl,w5⟩:=dec_sl dec_UU h5
 exact⟨⟨⟨l0,l1,l2,l3,n4⟩,l5⟩,rfl,⟨⟨w0,w1,w2,w3,w4⟩,w5⟩⟩
theorem okSt.sh {x:StoreD} (h:okSt x):shSt x:=⟨h.w.sh,h.blocks.1,fun y hy=>(h.blocks.2 y hy).1⟩
theorem lents_leaf: ∀ts:List T,lents ts=ts.map leafL
 |[]=>rfl
 | .sc v::ts=>by simp[lents_leaf ts,leafL]
 | .sl k r::ts=>by simp[lents_leaf ts,leafL]
 | .hole::ts=>by simp[lents_leaf ts,leafL]
theorem lr_row {w:World} {tys:List Ty} {cs:List Value} {ts:List T} (h:LR w tys cs ts):RowT tys ts:=
 ⟨h.len,fun j ty t h1 h2=>by
  obtain⟨v,hv⟩:=getElem?_of_lt (l:=cs) (i:=j) (by rw[h.len2];exact(List.getElem?_eq_some_iff.1 h1).1)
  exact(h.ok j ty v t h1 hv h2).1⟩
theorem isT_hole {ty:Ty} {t:T} (h:IsT ty t):t≠ .hole:=by cases h<;>simp
section
variable {H:Type} {encH:TypeId×Value->H} {P:Program} {w:World} {spare:Nat->Bool} {held:Bool}
theorem param_struct {α:Type} {tys:List Ty} {f:α->List T} {p:α->Prop} (hd:Dec tys f p) {t:TypeId} {fs:Array Field} (hu:P.underlying t=some (.struct fs)) {m:Nat} (hty:tyOf P m t=some tys)
  {r:Go.Reach} {b0:Nat} {v:Value} (hv:Value.okWide P w r b0 t v) {d:DataW H} {ps:List MemPlace} (h:DataW.Trod encH P w 0 spare held t v d ps): ∃x,p x/\ArgR w (.a (lents (f x))) v:=by
 obtain⟨cs,rfl,hsz⟩:=WideShapes.okWide_struct hu hv
 obtain⟨n,hn⟩:=h
 obtain⟨ts,hts⟩:=trod_T n t _ _ m tys hn hty
 obtain⟨x,rfl,hx⟩:=hd ts (lr_row hts)
 refine⟨x,hx,?_⟩
 rw[lents_leaf]
 have hc:(Value.agg cs).cells.toList=cs.toList:=rfl
 rw[hc]at hts
 have:=ArgR.a (w:=w) (f x) cs.toList (by rw[hts.len,hts.len2]) (fun t ht=>by
  obtain⟨i,hi⟩:=List.getElem?_of_mem ht
  obtain⟨ty,hty'⟩:=getElem?_of_lt (l:=tys) (i:=i) (by rw[←hts.len];exact(List.getElem?_eq_some_iff.1 hi).1)
  exact isT_hole ((lr_row hts).ok i ty t hty' hi)) (fun j t v h1 h2=>by
   obtain⟨ty,hty'⟩:=getElem?_of_lt (l:=tys) (i:=j) (by rw[←hts.len];exact(List.getElem?_eq_some_iff.1 h1).1)
   exact(hts.ok j ty v t hty' h2 h1).2)
 simpa using this
theorem param_int {t:TypeId} {k:IntKind} (hu:P.underlying t=some (.int k)) {r:Go.Reach} {b0:Nat} {v:Value} (hv:Value.okWide P w r b0 t v) {d:DataW H} {ps:List MemPlace} (h:DataW.Trod encH P w 0 spare held t v d ps):
  ∃n:Int,(Lit.int k n).wf=true/\ArgR w (.v (.sc (.int k n))) v:=by
 obtain⟨m,hm⟩:=h
 obtain⟨n',hv'⟩:=WideShapes.okWide_int hu hv
 subst hv'
 obtain⟨n,hc,_,hw⟩:=DataW.trod_int hu hm
 have h2:n'=n:=by
  have:=List.head_eq_of_cons_eq hc
  cases this
  rfl
 subst h2
 exact⟨n',hw,.v (.sc (.int k n')) _ (by simp) (.sc _ rfl)⟩
theorem param_slice {α:Type} {tys:List Ty} {f:α->List T} {p:α->Prop} (hd:Dec tys f p) {t el:TypeId} (hu:P.underlying t=some (.slice el)) {m:Nat} (hty:tyOf P m t=some [.sl tys])
  {r:Go.Reach} {b0:Nat} {v:Value} (hv:Value.okWide P w r b0 t v) {d:DataW H} {ps:List MemPlace} (h:DataW.Trod encH P w 0 spare held t v d ps): ∃l,shorts p l/\ArgR w (.v (.im tys.length (Ow.enc f l))) v:=by
 obtain⟨a,len,cap,rfl⟩:=WideShapes.okWide_slice hu hv
 obtain⟨n,hn⟩:=h
 obtain⟨ts,hts⟩:=trod_T n t _ _ m _ hn hty
 obtain⟨t0,rfl,h0⟩:=row1 (lr_row hts)
 obtain⟨l,rfl,hl⟩:=dec_sl hd h0
 refine⟨l,hl,?_⟩
 have:=(hts.ok 0 _ _ _ rfl rfl rfl).2
 exact .v (.sl tys.length (Ow.enc f l)) _ (by simp) this
end
end Go.Proofs.YtbolhfegdocpeaaGreat.Ow
namespace Go.Proofs.YtbolhfegdocpeaaGreat.Ow
open Go
def kindsB (P:Program) (fn:Func) (c:OpenClaim):Bool:=(c.kinds==(if c.domain.isEmpty then []else fn.params.toList.map fun t=>match P.underlying t with|some (.int k)=>some k|_=>none))
theorem joined_of {P:Program} {f:FuncId} {fn:Func} {s:ChangeSpec} {c:OpenClaim} (h0:(c.wf (OpenSpec.ofChange s))=true) (h1:(laidOutB P)=true) (h2:(mapsRowed P)=true) (h3:(fn.params.all (P.readableRec ·))=true) (h4:(namedTie P c.named s.vars)=true) (h5:((c.stops==[]))=true) (h6:((P.stops==[]))=true) (h7:((c.knobs==[]))=true) (h8:((P.stopKnobs==[]))=true) (h9:((c.inPlace==P.inPlace f))=true) (h10:((c.unfollowed==P.unfollowed f))=true) (h11:((c.recurses==P.recurses f))=true) (h12:((c.named==P.varsNamed f))=true) (h13:((c.maps==(fn.params.toList++s.plain.varTypes P).any (P.mapsRec ·)))=true) (h14:((c.ifaces==(fn.params.toList++s.plain.varTypes P).any (P.ifacesRec ·)))=true) (h15:((c.mapsOut==P.mapsAmong fn.resultTypes.toList))=true) (h16:((c.loops==(fn.params.toList++s.plain.varTypes P).any (P.loopsFrom ·)))=true) (h17:((c.wideKeys==(fn.params.toList++s.plain.varTypes P++fn.resultTypes.toList).any (P.wideKeysFrom ·)))=true) (h18:(s.vars.all (P.varReadable ·))=true) (h19:(fn.resultTypes.all (fun t=>P.readableRec t&&decide (t<P.types.size)))=true) (h20:((c.ifacesOut==fn.resultTypes.toList.any (P.ifacesRec ·)))=true) (h21:((c.loopsOut==fn.resultTypes.toList.any (P.loopsFrom ·)))=true) (h22:((c.plainKeys==P.plainKeys))=true) (h23:(c.shortTexts.isNone)=true) (h24:(P.stopsHeard)=true) (h25:(P.mayEnter)=true) (h26:((c.lifted==P.liftsFinal))=true) (h27:((P.make==some c.make))=true) (h28:(kindsB P fn c)=true) (h29:((c.pinned==c.pinnedBy))=true) (h30:((c.veiled==(fn.params.toList++s.plain.varTypes P++fn.resultTypes.toList).any (P.veiledRec ·)))=true) (h31:(c.veiledFits P fn.params.toList (fn.params.toList++s.plain.varTypes P++fn.resultTypes.toList))=true):joinedFacts P f fn s c=true:=by
 unfold joinedFacts
 simp only[Bool.and_eq_true]
 exact⟨⟨⟨⟨⟨⟨⟨⟨⟨⟨⟨⟨⟨⟨⟨⟨⟨⟨⟨⟨⟨⟨⟨⟨⟨⟨⟨⟨⟨⟨⟨h0,h1⟩,h2⟩,h3⟩,h4⟩,h5⟩,h6⟩,h7⟩,h8⟩,h9⟩,h10⟩,h11⟩,h12⟩,h13⟩,h14⟩,h15⟩,h16⟩,h17⟩,h18⟩,h19⟩,h20⟩,h21⟩,h22⟩,h23⟩,h24⟩,h25⟩,h26⟩,h27⟩,h28⟩,h29⟩,h30⟩,h31⟩
end Go.Proofs.YtbolhfegdocpeaaGreat.Ow
