/- The small machine over trees, and that what it computes is what the calls of the loaded functions return: part 3. -/
import Derived.Test.YtbolhfegdocpeaaGreatBaseB
import Derived.OrdersHeld
import Derived.ChangeSlices
import Derived.Below
import Derived.WideShapes
import Derived.JoinedOf
namespace Go.Proofs.YtbolhfegdocpeaaGreat.Ow
open Go
set_option linter.unusedVariables false
set_option linter.unusedSimpArgs false
section
variable {P:Program} {fm fm0:Fm} {M:List Nat} {e e' e0:Env} {s s':St} {a:Act} {Q:Exit->Act->World->Prop} {lent:List Nat}
theorem Ua {h h':Ao} {n o lo hi:Nat} {p:AO} {full:Bool} (hc:h.cut n o p lo hi full=some h'):h'.l=Bv (EM o p n lo hi full) h.l:=by
 unfold Ao.cut at hc;split at hc
 case h_2=>cases hc
 split at hc
 case h_2=>cases hc
 split at hc
 case h_2=>cases hc
 split at hc
 case isFalse=>cases hc
 split at hc
 ·simp only[Option.some.injEq]at hc;subst hc;rfl
 ·split at hc
  case h_2=>cases hc
  simp only[Option.some.injEq]at hc;subst hc;rfl
theorem SR {h h':Ao} {i k n:Nat} (hr:h.root i k=some h') (hi:i<n): ∃f,h'.l.drop n=Bv f (h.l.drop n)/\h'.l.length=h.l.length:=by
 have idd: ∃f,h.l.drop n=Bv f (h.l.drop n)/\h.l.length=h.l.length:=⟨_,(Kd _).symm,rfl⟩;unfold Ao.root at hr;split at hr
 ·cases hr;exact idd
 ·split at hr
  case h_2=>cases hr
  split at hr
  case isFalse=>cases hr
  cases hr
  exact⟨_,by rw[List.drop_set_of_lt hi];exact(Kd _).symm,by simp⟩
 ·split at hr
  ·cases hr;exact idd
  ·split at hr
   case h_2=>cases hr
   rw[Ua hr];exact⟨_,by rw[BR,BR,List.map_drop],by rw[BR];simp⟩
 ·split at hr
  case h_2=>cases hr
  rename_i h1 hc
  cases hr
  refine⟨_,by rw[List.drop_set_of_lt hi,Ua hc,BR,←List.map_drop,←BR],?_⟩;simp only[List.length_set];rw[Ua hc,BR];simp
 ·cases hr
theorem Qa {h h':Ao} {i k n:Nat} (hr:h.rootI i k=some h') (hi:i<n): ∃f,h'.l.drop n=Bv f (h.l.drop n)/\h'.l.length=h.l.length:=by
 have idd: ∃f,h.l.drop n=Bv f (h.l.drop n)/\h.l.length=h.l.length:=⟨_,(Kd _).symm,rfl⟩;unfold Ao.rootI at hr;split at hr
 ·cases hr;exact idd
 ·cases hr;exact idd
 ·cases hr;exact idd
 ·cases hr;exact idd
 ·cases hr;exact idd
 ·exact SR hr hi
def FromN (N:Nat->Prop) (n:Nat) (l l':List AV):Prop:= ∀ (i:Nat) y,i<n->l'[i]? =some y-> ∃x,l[i]? =some x/\(∀o∈Aw y,o∈Aw x\/N o)/\ ∀b j,y= .pb b j->x=y
def FromBN (N:Nat->Prop) (s s':St):Prop:= ∀b cs',AR s'.ob b= .box cs'-> ∃cs,AR s.ob b= .box cs/\ ∀ (i:Nat) y,cs'[i]? =some y-> ∃x,cs[i]? =some x/\ ∀o∈Aw y,o∈Aw x\/N o
theorem JR {n:Nat}: ∀ {ms:List Nat} {i base:Nat} {e:Env} {h h':Ao} {us:List Value},CN fm e h a us->h.rootsM base i ms=some h'->i+ms.length<=n->n<=h.l.length->CF e.w (h.l.drop n) (us.drop n)->
  ∃e' us',e'.w=e.w/\e'.Im=e.Im/\CN fm e' h' a us'/\us'.take n=us.take n/\n<=h'.l.length/\CF e.w (h'.l.drop n) (us'.drop n)/\h'.s.n=h.s.n/\h'.s.m=h.s.m/\
   ∀ {e0:Env} {A N:Nat->Prop},C2 e0 e A N->(∀j,j<ms.length->N (base+j))->(∀ (j:Nat) x,ms[j]? =some 1->h.l[i+j]? =some x-> ∀o∈Aw x,N o)->
    C2 e0 e' A N/\FromN N n h.l h'.l/\FromBN N h.s h'.s
 |[],i,base,e,h,h',us,hH,hr,hi,hn,hp=>by
  simp only[Ao.rootsM,Option.some.injEq]at hr;subst hr;exact⟨e,us,rfl,rfl,hH,rfl,hn,hp,rfl,rfl,fun hI _ _=>⟨hI,fun i y _ hy=>⟨y,hy,fun _ ho=> .inl ho,fun _ _ _=>rfl⟩,fun b cs hb=>⟨cs,hb,fun i y hy=>⟨y,hy,fun _ ho=> .inl ho⟩⟩⟩⟩
 |m::ms,i,base,e,h,h',us,hH,hr,hi,hn,hp=>by
  simp only[List.length_cons]at hi;simp only[Ao.rootsM]at hr;split at hr
  ·rename_i hm;split at hr
   case h_2=>cases hr
   rename_i h1 hroot;obtain⟨vs,p1,ps,p2,p3,p4⟩:=push_ok hH i;obtain⟨e1,g1,g2,g3,g4,g5,g6,g7,_,g8⟩:=LK p1 hroot;obtain⟨f,d1,d2⟩:=Qa (n:=n) hroot (by omega);have hnu:n<=us.length:=by rw[←hH.len];exact hn
   have hpairs:CF e1.w (h1.l.drop n) ((us++vs).drop n):=by
    rw[g1,d1,p2,List.drop_append_of_le_length hn,List.drop_append_of_le_length hnu];exact(hp.append p3).sub fun _ _ _ _ _ _ _ _ _ _ _=>rfl
   obtain⟨e2,us2,y1,y2,y3,y4,y5,y6,y7,y8,y9⟩:=JR g3 hr (by omega) (by rw[d2,p2];simp;omega) hpairs;refine⟨e2,us2,y1.trans g1,y2.trans g2,y3,by rw[y4,List.take_append_of_le_length hnu],y5,by rw[←g1];exact y6,y7.trans g4,y8.trans g5,fun {e0 A N} hI hN hms=> ?_⟩;have hpl: ∀ (j:Nat) y,j<n->(h.push i).l[j]? =some y->h.l[j]? =some y:=fun j y hj hy=>by
    rw[p2,List.getElem?_append_left (by omega)]at hy;exact hy
   have hNb:N base:=by have:=hN 0 (by simp);simpa using this
   have hI1:=g8 hI fun x hx o ho=>hms 0 x (by simp[hm]) (by simpa using hpl i x (by omega) hx) o ho
   obtain⟨z1,z2,z3⟩:=y9 hI1 (fun j hj=>by have:=hN (j+1) (by simpa using hj);rwa [show base+1+j=base+(j+1)by omega]) (fun j x hj hx o ho=>by
    obtain⟨x0,q1,q2⟩:=g6 _ x hx;rcases q2.1 o ho with q3|q3
    ·exact hms (j+1) x0 (by simpa using hj) (by
      have hlt:j<ms.length:=(List.getElem?_eq_some_iff.1 hj).1;have:=hpl _ x0 (by omega) q1;rwa [show i+1+j=i+(j+1)by omega]at this) o q3
    ·rw[q3];exact hNb)
   refine⟨z1,fun j y hj hy=> ?_,fun b cs hb=> ?_⟩
   ·obtain⟨x,q1,q2⟩:=z2 j y hj hy;obtain⟨x0,q3,q4⟩:=g6 j x q1;refine⟨x0,hpl j x0 hj q3,fun o ho=> ?_,fun b i hb=> ?_⟩
    ·rcases q2.1 o ho with q5|q5
     ·exact(q4.1 o q5).imp id fun h=>by rw[h];exact hNb
     ·exact .inr q5
    ·have h1:=q2.2 b i hb;rw[q4.2 b i (h1.trans hb),h1]
   ·obtain⟨cs1,q1,q2⟩:=z3 b cs hb;obtain⟨cs0,q3,q4⟩:=g7 b cs1 q1;refine⟨cs0,q3,fun j y hy=> ?_⟩;obtain⟨x,q5,q6⟩:=q2 j y hy;obtain⟨x0,q7,q8⟩:=q4 j x q5;refine⟨x0,q7,fun o ho=> ?_⟩;rcases q6 o ho with q9|q9
    ·exact(q8.1 o q9).imp id fun h=>by rw[h];exact hNb
    ·exact .inr q9
  ·obtain⟨e2,us2,y1,y2,y3,y4,y5,y6,y7,y8,y9⟩:=JR hH hr (by omega) hn hp;refine⟨e2,us2,y1,y2,y3,y4,y5,y6,y7,y8,fun hI hN hms=> ?_⟩;exact y9 hI (fun j hj=>by have:=hN (j+1) (by simpa using hj);rwa [show base+1+j=base+(j+1)by omega]) (fun j x hj hx=>hms (j+1) x (by simpa using hj) (by rwa [show i+1+j=i+(j+1)by omega]at hx))
theorem Um {o1 o i j:Nat} {p:AO} (h:s.adopt o1 o p i j=some s'):s'.n=s.n/\s'.m=s.m:=by
 obtain⟨_,_,h1,h2⟩:=IZ h;exact⟨h1,h2⟩
theorem Mh: ∀ {n:Nat} {e:Env} {h:Ao} {us:List Value} {r:Value} {x:AV} {s':St},CN fm e h a (r::us)->CF e.w h.l.tail us->Mi n h=some (x,s')->
  ∃e',e'.w=e.w/\Rel fm e' s' a/\AS e' x r/\s'.n=h.s.n/\s'.m=h.s.m
 |0,e,h,us,r,x,s',hH,hp,hb=>by
  simp only[Mi]at hb;split at hb
  ·rename_i y l hl;simp only[Option.some.injEq,Prod.mk.injEq]at hb;obtain⟨rfl,rfl⟩:=hb;exact⟨e,rfl,hH.rel,hH.ok 0 y r (by rw[hl];rfl) rfl,rfl,rfl⟩
  ·cases hb
 |n+1,e,h,us,r,x,s',hH,hp,hb=>by
  simp only[Mi]at hb;split at hb
  ·rename_i y o q i j z l hl;split at hb
   case h_2=>cases hb
   rename_i s1 hs1;rw[hl]at hp
   match us,hp with
   |u::v::us,hp=>
   obtain⟨ad,rfl,hcell⟩:=hp.1 o q i j rfl;have h1:=hH.ok 1 (.pa o q i j) _ (by rw[hl];rfl) rfl;have h2:=hH.ok 2 (.ref z []) v (by rw[hl];rfl) rfl
   cases h1 with
   |pa _ _ _ _ k b off nn c rows hn hh hc=>
   have hv:v=e.hd z []:=by cases h2;rfl
   subst hv;obtain⟨e1,g1,g2,g3,g4,_⟩:=QG hH.rel hs1 hn hh hc hcell;obtain⟨q1,q2⟩:=Um hs1;have hlen:=hH.len;rw[hl]at hlen;have hH1:CN fm e1 {s:=s1,l:=Bv (E9 z o (q++[(i,j)])) (y::l)} a (r::us):=by
    refine⟨g3,by rw[BR];simpa using hlen,fun m x u hx hu=> ?_⟩;rw[BR,List.getElem?_map]at hx
    cases hy:(y::l)[m]? with
    |none=>simp[hy]at hx
    |some x0=>
     simp[hy]at hx;subst hx
     cases m with
     |zero=>
      simp at hy hu;subst hy;subst hu;exact(hH.ok 0 _ _ (by rw[hl];rfl) rfl).sub g4
     |succ m=>exact(hH.ok (m+3) x0 u (by rw[hl];simpa using hy) (by simpa using hu)).sub g4
   obtain⟨e2,y1,y2,y3,y4,y5⟩:=Mh hH1 (by
    show CF e1.w (Bv _ l) us
    exact hp.2.sub fun _ _ _ _ _ _ _ _ _ _ _=>by rw[g1]) hb
   exact⟨e2,y1.trans g1,y2,y3,y4.trans q1,y5.trans q2⟩
  ·rename_i y w l hl;rw[hl]at hp
   match us,hp with
   |u::v::us,hp=>
   have hlen:=hH.len;rw[hl]at hlen;have hH1:CN fm e {h with l:=y::l} a (r::us):=by
    refine⟨hH.rel,by simpa using hlen,fun m x u hx hu=> ?_⟩
    cases m with
    |zero=>exact hH.ok 0 x u (by rw[hl];simpa using hx) (by simpa using hu)
    |succ m=>exact hH.ok (m+3) x u (by rw[hl];simpa using hx) (by simpa using hu)
   obtain⟨e2,y1,y2,y3,y4,y5⟩:=Mh hH1 hp.2 hb;exact⟨e2,y1,y2,y3,y4,y5⟩
  ·cases hb
end
section
variable {P:Program} {fm fm0:Fm} {M:List Nat} {e e' e0:Env} {s s':St} {a:Act} {Q:Exit->Act->World->Prop}
theorem MW {ob:List (Nat×Obj)} {x:AV} {l:L} {ids:List Nat} (h:Bs ob x=some (l,ids)): ∀c∈ids,x= .ref c []:=by
 unfold Bs at h;split at h
 ·cases h;simp
 ·cases h;simp
 ·cases h;simp
 ·cases h;simp
 ·split at h
  ·cases h;intro c hc;simp at hc;rw[hc]
  ·cases h
 ·cases h
theorem G3 {ob:List (Nat×Obj)}: ∀ {xs:List AV} {ls:List L} {ids:List Nat},BC ob xs=some (ls,ids)-> ∀c∈ids,.ref c []∈xs
 |[],ls,ids,h=>by simp only[BC,Option.some.injEq,Prod.mk.injEq]at h;obtain⟨rfl,rfl⟩:=h;simp
 |x::xs,ls,ids,h=>by
  simp only[BC]at h;split at h
  case h_2=>cases h
  rename_i h1 h2;simp only[Option.some.injEq,Prod.mk.injEq]at h;obtain⟨rfl,rfl⟩:=h;intro c hc;rcases List.mem_append.1 hc with h3|h3
  ·rw[MW h1 c h3];exact List.mem_cons_self
  ·exact List.mem_cons_of_mem _ (G3 h2 c h3)
def Src (ob:List (Nat×Obj)) (z:AV) (c:Nat):Prop:=z= .ref c []\/(∃l,z= .agg l/\ .ref c []∈l)\/ ∃b cells,z= .pb b 0/\AR ob b= .box cells/\(c=b\/ .ref c []∈cells)
theorem Ok {ob:List (Nat×Obj)} {x:AV} {r:Arg} {ids:List Nat} (h:Ch ob x=some (r,ids)): ∀c∈ids,Src ob x c:=by
 intro c hc;unfold Ch at h;split at h
 ·rename_i l;obtain⟨⟨l1,os⟩,h1,h2⟩:=Option.map_eq_some_iff.1 h
  cases h2
  exact .inr (.inl ⟨l,rfl,G3 h1 c hc⟩)
 ·split at h
  ·rename_i cs hob;obtain⟨⟨l1,os⟩,h1,h2⟩:=Option.map_eq_some_iff.1 h
   cases h2
   refine .inr (.inr ⟨_,cs,rfl,hob,?_⟩);rcases List.mem_cons.1 hc with h3|h3
   ·exact .inl h3
   ·exact .inr (G3 h1 c h3)
  ·cases h
 ·cases h;cases hc
 ·obtain⟨l1,h1,h2⟩:=Option.map_eq_some_iff.1 h
  cases h2;cases hc
 ·obtain⟨⟨l1,os⟩,h1,h2⟩:=Option.map_eq_some_iff.1 h
  cases h2
  exact .inl (MW h1 c hc)
theorem Hr {ob:List (Nat×Obj)}: ∀ {xs:List AV} {ls:List Arg} {ids:List Nat},BM ob xs=some (ls,ids)-> ∀c∈ids,∃z∈xs,Src ob z c
 |[],ls,ids,h=>by simp only[BM,Option.some.injEq,Prod.mk.injEq]at h;obtain⟨rfl,rfl⟩:=h;simp
 |x::xs,ls,ids,h=>by
  simp only[BM]at h;split at h
  case h_2=>cases h
  rename_i h1 h2;simp only[Option.some.injEq,Prod.mk.injEq]at h;obtain⟨rfl,rfl⟩:=h;intro c hc;rcases List.mem_append.1 hc with h3|h3
  ·exact⟨x,List.mem_cons_self,Ok h1 c h3⟩
  ·obtain⟨z,h4,h5⟩:=Hr h2 c h3;exact⟨z,List.mem_cons_of_mem _ h4,h5⟩
theorem Hz: ∀ {sh:List (Option Nat)} {ys:List AV} {z:AV},z∈BQ sh ys->(∃l,z= .agg l/\ ∀y∈l,y∈ys)\/z∈ys\/z= .dead
 |[],ys,z,h=>by cases h
 |some n::sh,ys,z,h=>by
  simp only[BQ]at h;rcases List.mem_cons.1 h with rfl|h
  ·exact .inl ⟨_,rfl,fun y hy=>List.mem_of_mem_take hy⟩
  ·rcases Hz h with ⟨l,h1,h2⟩|h1|h1
   ·exact .inl ⟨l,h1,fun y hy=>List.mem_of_mem_drop (h2 y hy)⟩
   ·exact .inr (.inl (List.mem_of_mem_drop h1))
   ·exact .inr (.inr h1)
 |none::sh,ys,z,h=>by
  simp only[BQ]at h;rcases List.mem_cons.1 h with rfl|h
  ·cases ys with
   |nil=>exact .inr (.inr rfl)
   |cons y ys=>exact .inr (.inl List.mem_cons_self)
  ·have ht: ∀ {y},y∈ys.tail->y∈ys:=fun h=>List.mem_of_mem_tail h
   rcases Hz h with ⟨l,h1,h2⟩|h1|h1
   ·exact .inl ⟨l,h1,fun y hy=>ht (h2 y hy)⟩
   ·exact .inr (.inl (ht h1))
   ·exact .inr (.inr h1)
theorem Sc {ob:List (Nat×Obj)} {m:Nat} {x y:AV} {os:List Nat} (h:NQ ob m x=some (y,os)) (hy:(∃c p,y= .ref c p)\/ ∃b j,y= .pb b j):m≠0/\x=y:=by
 unfold NQ at h;split at h
 ·exfalso;split at h
  ·cases h;rcases hy with ⟨_,_,h⟩|⟨_,_,h⟩<;>cases h
  ·cases h;rcases hy with ⟨_,_,h⟩|⟨_,_,h⟩<;>cases h
  ·obtain⟨_,_,h2⟩:=Option.map_eq_some_iff.1 h
   cases h2;rcases hy with ⟨_,_,h⟩|⟨_,_,h⟩<;>cases h
  ·obtain⟨_,_,h2⟩:=Option.map_eq_some_iff.1 h
   cases h2;rcases hy with ⟨_,_,h⟩|⟨_,_,h⟩<;>cases h
  ·obtain⟨_,_,h2⟩:=Option.map_eq_some_iff.1 h
   cases h2;rcases hy with ⟨_,_,h⟩|⟨_,_,h⟩<;>cases h
 ·unfold Qn at h;split at h
  ·cases h;exact⟨by decide,rfl⟩
  ·cases h
 ·unfold Qn at h;split at h
  ·cases h;exact⟨by decide,rfl⟩
  ·cases h
 ·exfalso;obtain⟨_,_,h2⟩:=Option.map_eq_some_iff.1 h
  cases h2;rcases hy with ⟨_,_,h⟩|⟨_,_,h⟩<;>cases h
theorem IE {ob:List (Nat×Obj)}: ∀ {ms:List Nat} {xs ys:List AV} {os:List Nat},D9 ob ms xs=some (ys,os)-> ∀ (i:Nat) y,ys[i]? =some y->((∃c p,y= .ref c p)\/ ∃b j,y= .pb b j)->
  ∃m,ms[i]? =some m/\m≠0/\xs[i]? =some y
 |ms,[],ys,os,h,i,y,hy,_=>by
  simp only[D9,Option.some.injEq,Prod.mk.injEq]at h;obtain⟨rfl,rfl⟩:=h;simp at hy
 |ms,x::xs,ys,os,h,i,y,hy,hk=>by
  simp only[D9]at h;split at h
  case h_2=>cases h
  rename_i y1 os1 m qs h1 h2;simp only[Option.some.injEq,Prod.mk.injEq]at h;obtain⟨rfl,rfl⟩:=h
  cases i with
  |zero=>
   simp at hy;subst hy;obtain⟨g1,g2⟩:=Sc h1 hk
   cases ms with
   |nil=>exact absurd rfl g1
   |cons m ms=>exact⟨m,rfl,g1,by simp[g2]⟩
  |succ i=>
   obtain⟨m',g1,g2,g3⟩:=IE h2 i y (by simpa using hy) hk
   cases ms with
   |nil=>simp at g1
   |cons m0 ms=>exact⟨m',by simpa using g1,g2,by simpa using g3⟩
def CB (os:List (Nat×Obj)):Prop:= ∀x∈os,∀c,x.2= .box c->Cs c=true
theorem CB.nil:CB []:=fun x h=>by cases h
theorem CB.append {l l':List (Nat×Obj)} (h:CB l) (h':CB l'):CB (l++l'):=fun x hx=>by
 rcases List.mem_append.1 hx with h1|h1
 ·exact h x h1
 ·exact h' x h1
theorem CB.cons {x:Nat×Obj} {l:List (Nat×Obj)} (h: ∀c,x.2= .box c->Cs c=true) (h':CB l):CB (x::l):=fun y hy=>by
 rcases List.mem_cons.1 hy with h1|h1
 ·rw[h1];exact h
 ·exact h' y h1
theorem CB.get {os:List (Nat×Obj)} (h:CB os) {j:Nat} {c:List AV} (hj:AR os j= .box c):Cs c=true:=by
 induction os with
 |nil=>cases hj
 |cons x os ih=>
  obtain⟨n,y⟩:=x;simp only[AR]at hj;split at hj
  ·exact h (n,y) List.mem_cons_self c hj
  ·exact ih (fun z hz=>h z (List.mem_cons_of_mem _ hz)) hj
theorem Cl: ∀ {ls:List L} {n:Nat},ls.any imL=false->Cs (AW n ls).1=true/\CB (AW n ls).2.1
 |[],n,_=>⟨rfl,CB.nil⟩
 |l::ls,n,h=>by
  simp only[List.any_cons,Bool.or_eq_false_iff]at h
  cases l with
  |sc v=>obtain⟨g1,g2⟩:=Cl (n:=n) h.2;exact⟨by simp[AW,Cs,IA,g1],by simpa[AW]using g2⟩
  |nil k=>obtain⟨g1,g2⟩:=Cl (n:=n) h.2;exact⟨by simp[AW,Cs,IA,g1],by simpa[AW]using g2⟩
  |im k r=>simp[imL]at h
  |al i k r=>obtain⟨g1,g2⟩:=Cl (n:=n) h.2;exact⟨by simp[AW,Cs,IA,g1],by simpa[AW]using g2⟩
  |sh d=>obtain⟨g1,g2⟩:=Cl (n:=n) h.2;exact⟨by simp[AW,Cs,IA,g1],by simpa[AW]using g2⟩
  |own k r=>
   obtain⟨g1,g2⟩:=Cl (n:=n+1) h.2;exact⟨by simp[AW,Cs,IA,g1],by simp only[AW];exact CB.cons (fun c h=>by cases h) g2⟩
theorem SX {r:RV} {n:Nat} (h:OL r=false):IA (CH n r).1=true/\CB (CH n r).2.1:=by
 cases r with
 |v l=>
  obtain⟨g1,g2⟩:=Cl (ls:=[l]) (n:=n) (by simpa[OL]using h);refine⟨?_,by simpa[CH,AU]using g2⟩;simp only[CH,AU]
  cases hl:(AW n [l]).1 with
  |nil=>rfl
  |cons y l=>rw[hl]at g1;simp[Cs]at g1;simpa using g1.1
 |a ls=>
  obtain⟨g1,g2⟩:=Cl (ls:=ls) (n:=n) (by simpa[OL]using h);exact⟨by simpa[CH,AU,IA]using g1,by simpa[CH,AU]using g2⟩
 |p ls=>
  obtain⟨g1,g2⟩:=Cl (ls:=ls) (n:=n+1) (by simpa[OL]using h);exact⟨by simp[CH,AU,IA],by simp only[CH,AU];exact CB.cons (fun c h=>by cases h;exact g1) g2⟩
theorem LX: ∀ {rs:List RV} {n:Nat},rs.any OL=false->Cs (CU n rs).1=true/\CB (CU n rs).2.1
 |[],n,_=>⟨rfl,CB.nil⟩
 |r::rs,n,h=>by
  simp only[List.any_cons,Bool.or_eq_false_iff]at h;obtain⟨g1,g2⟩:=SX (n:=n) h.1;obtain⟨y1,y2⟩:=LX (n:=(CH n r).2.2) h.2;exact⟨by simp[CU,Cs,g1,y1],by simp only[CU];exact g2.append y2⟩
theorem I6 (os:List (Nat×Obj)): ∀ (is:List Nat) (fs:List (Option (List (List T)))),CB (CE os is fs)
 |[],_=>by simp only[CE];exact CB.nil
 |i::is,[]=>by simp only[CE];exact CB.nil
 |i::is,none::fs=>by simp only[CE];exact I6 os is fs
 |i::is,some rows::fs=>by
  simp only[CE];split
  ·exact CB.cons (fun c h=>by cases h) (I6 os is fs)
  ·exact I6 os is fs
theorem Po: ∀ {bs:List Nat} {lss:List (List L)} {n:Nat},(lss.any fun ls=>ls.any imL)=false->CB (Bf n bs lss).1
 |[],_,n,_=>by simp only[Bf];exact CB.nil
 |b::bs,[],n,_=>by simp only[Bf];exact CB.nil
 |b::bs,ls::lss,n,h=>by
  simp only[List.any_cons,Bool.or_eq_false_iff]at h;obtain⟨g1,g2⟩:=Cl (n:=n) h.1;simp only[Bf];exact CB.cons (fun c h=>by cases h;exact g1) (g2.append (Po h.2))
theorem Pn {args:List Arg} {r:Res} (h:(r.out.any OL||r.pfin.any fun ls=>ls.any imL)=false):IA (one (Cd args r).1)=true/\CB (Cd args r).2:=by
 simp only[Bool.or_eq_false_iff]at h;simp only[Cd];obtain⟨g1,g2⟩:=LX (n:=(Bf (AK 0 0 args).2.2 (Ah 0 args).2 r.pfin).2) h.1;refine⟨?_,((I6 _ _ _).append (Po h.2)).append g2⟩;generalize (CU (Bf (AK 0 0 args).2.2 (Ah 0 args).2 r.pfin).2 r.out).1=l at g1
 match l,g1 with
 |[],_=>rfl
 |[x],g1=>simpa[Cs,one]using g1
 |x::y::l,g1=>exact g1
def CC (os:List (Nat×Obj)):Prop:= ∀x∈os,∀c,x.2= .box c->C8 c=true
theorem CC.nil:CC []:=fun x h=>by cases h
theorem CC.append {l l':List (Nat×Obj)} (h:CC l) (h':CC l'):CC (l++l'):=fun x hx=>by
 rcases List.mem_append.1 hx with h1|h1
 ·exact h x h1
 ·exact h' x h1
theorem CC.cons {x:Nat×Obj} {l:List (Nat×Obj)} (h: ∀c,x.2= .box c->C8 c=true) (h':CC l):CC (x::l):=fun y hy=>by
 rcases List.mem_cons.1 hy with h1|h1
 ·rw[h1];exact h
 ·exact h' y h1
theorem CC.get {os:List (Nat×Obj)} (h:CC os) {j:Nat} {c:List AV} (hj:AR os j= .box c):C8 c=true:=by
 induction os with
 |nil=>cases hj
 |cons x os ih=>
  obtain⟨n,y⟩:=x;simp only[AR]at hj;split at hj
  ·exact h (n,y) List.mem_cons_self c hj
  ·exact ih (fun z hz=>h z (List.mem_cons_of_mem _ hz)) hj
theorem B0: ∀ (ls:List L) (n:Nat),CC (AW n ls).2.1
 |[],n=>CC.nil
 | .sc v::ls,n=>by simpa[AW]using B0 ls n
 | .nil v::ls,n=>by simpa[AW]using B0 ls n
 | .im k r::ls,n=>by simpa[AW]using B0 ls n
 | .al i k r::ls,n=>by simpa[AW]using B0 ls n
 | .sh d::ls,n=>by simpa[AW]using B0 ls n
 | .own k r::ls,n=>by simp only[AW];exact CC.cons (fun c h=>by cases h) (B0 ls (n+1))
theorem HH: ∀ {ls:List L} {n:Nat},ls.any alL=false->C8 (AW n ls).1=true
 |[],n,_=>rfl
 |l::ls,n,h=>by
  simp only[List.any_cons,Bool.or_eq_false_iff]at h
  cases l with
  |al i k r=>simp[alL]at h
  |own k r=>have:=HH (n:=n+1) h.2;simp[AW,C8,OF,this]
  |_=>have:=HH (n:=n) h.2;simp[AW,C8,OF,this]
theorem Qo {r:RV} {n:Nat} (h:S3 r=false):CC (CH n r).2.1:=by
 cases r with
 |v l=>simpa[CH,AU]using B0 [l] n
 |a ls=>simpa[CH,AU]using B0 ls n
 |p ls=>simp only[CH,AU];exact CC.cons (fun c h1=>by cases h1;exact HH h) (B0 ls (n+1))
theorem J5: ∀ {rs:List RV} {n:Nat},rs.any S3=false->CC (CU n rs).2.1
 |[],n,_=>CC.nil
 |r::rs,n,h=>by
  simp only[List.any_cons,Bool.or_eq_false_iff]at h;simp only[CU];exact(Qo h.1).append (J5 h.2)
theorem HT (os:List (Nat×Obj)): ∀ (is:List Nat) (fs:List (Option (List (List T)))),CC (CE os is fs)
 |[],_=>by simp only[CE];exact CC.nil
 |i::is,[]=>by simp only[CE];exact CC.nil
 |i::is,none::fs=>by simp only[CE];exact HT os is fs
 |i::is,some rows::fs=>by
  simp only[CE];split
  ·exact CC.cons (fun c h=>by cases h) (HT os is fs)
  ·exact HT os is fs
theorem Ng: ∀ {bs:List Nat} {lss:List (List L)} {n:Nat},(lss.any fun ls=>ls.any alL)=false->CC (Bf n bs lss).1
 |[],_,n,_=>by simp only[Bf];exact CC.nil
 |b::bs,[],n,_=>by simp only[Bf];exact CC.nil
 |b::bs,ls::lss,n,h=>by
  simp only[List.any_cons,Bool.or_eq_false_iff]at h;have g1:=HH (n:=n) h.1;have g2:=B0 ls n;simp only[Bf];exact CC.cons (fun c h=>by cases h;exact g1) (g2.append (Ng h.2))
theorem Sj {args:List Arg} {r:Res} (h:(r.out.any S3||r.pfin.any fun ls=>ls.any alL)=false):CC (Cd args r).2:=by
 simp only[Bool.or_eq_false_iff]at h;simp only[Cd];exact((HT _ _ _).append (Ng h.2)).append (J5 h.1)
theorem Jz {α β:Type}: ∀ {ys:List AV} {xs:List α} {us:List β},xs.length=us.length->D6 (BO ys xs)=D6 (BO ys us)
 |[],xs,us,_=>rfl
 |y::ys,[],[],_=>by cases y<;>rfl
 |y::ys,[],u::us,h=>by cases h
 |y::ys,x::xs,[],h=>by cases h
 |y::ys,x::xs,u::us,h=>by
  have ih:=Jz (ys:=ys) (xs:=xs) (us:=us) (by simpa using h)
  cases y<;>simp[BO,D6,ih]
theorem M8 {α:Type}: ∀ {ys:List AV} {xs:List α} {j:Nat} {x:α},FD (BO ys xs) j=some x-> ∃ (i:Nat) (k:Nat) (r:List (List T)),ys[i]? =some (.al j k r)/\xs[i]? =some x
 |[],xs,j,x,h=>by simp[BO,FD]at h
 |y::ys,[],j,x,h=>by cases y<;>simp[BO,FD]at h
 |y::ys,x0::xs,j,x,h=>by
  have next:FD (BO ys xs) j=some x-> ∃ (i:Nat) (k:Nat) (r:List (List T)),(y::ys)[i]? =some (.al j k r)/\(x0::xs)[i]? =some x:=fun h=>by
   obtain⟨i,k,r,h1,h2⟩:=M8 h;exact⟨i+1,k,r,by simpa using h1,by simpa using h2⟩
  by_cases hy: ∃i k r,y= .al i k r
  ·obtain⟨i,k,r,rfl⟩:=hy;simp only[BO,FD]at h;split at h
   ·rename_i hij;subst hij
    cases h
    exact⟨0,k,r,rfl,rfl⟩
   ·exact next h
  ·cases y<;>first|exact next (by simpa[BO]using h)|exact absurd ⟨_,_,_,rfl⟩ hy
theorem Kx {α:Type}: ∀ {ys:List AV} {xs:List α} {i j k:Nat} {r:List (List T)} {x:α},ys[i]? =some (.al j k r)->xs[i]? =some x->j∈D6 (BO ys xs)
 |[],xs,i,j,k,r,x,h,_=>by simp at h
 |y::ys,[],i,j,k,r,x,_,h=>by simp at h
 |y::ys,x0::xs,0,j,k,r,x,h,h2=>by
  simp at h;subst h;simp[BO,D6]
 |y::ys,x0::xs,i+1,j,k,r,x,h,h2=>by
  have ih:=Kx (ys:=ys) (xs:=xs) (i:=i) (by simpa using h) (by simpa using h2)
  cases y<;>simp[BO,D6,ih]
theorem Ky {α:Type}: ∀ {ys:List AV} {xs:List α} {i j k:Nat} {r:List (List T)} {x:α},(D6 (BO ys xs)).Nodup->ys[i]? =some (.al j k r)->xs[i]? =some x->FD (BO ys xs) j=some x
 |[],xs,i,j,k,r,x,_,h,_=>by simp at h
 |y::ys,[],i,j,k,r,x,_,_,h=>by simp at h
 |y::ys,x0::xs,0,j,k,r,x,hn,h,h2=>by
  simp at h h2;subst h;subst h2;simp[BO,FD]
 |y::ys,x0::xs,i+1,j,k,r,x,hn,h,h2=>by
  have h:ys[i]? =some (.al j k r):=by simpa using h
  have h2:xs[i]? =some x:=by simpa using h2
  by_cases hy: ∃i0 k r,y= .al i0 k r
  ·obtain⟨i0,k0,r0,rfl⟩:=hy;simp only[BO,D6]at hn;obtain⟨n1,n2⟩:=List.nodup_cons.1 hn;simp only[BO,FD];have hne: ¬i0=j:=fun hh=>n1 (by rw[hh];exact Kx h h2)
   rw[if_neg hne];exact Ky n2 h h2
  ·cases y<;>first|exact absurd ⟨_,_,_,rfl⟩ hy|(simp only[BO]at hn ⊢;exact Ky hn h h2)
end
section
variable {P:Program} {fm fm0:Fm} {M:List Nat} {e e' e0:Env} {s s':St} {a:Act} {Q:Exit->Act->World->Prop}
variable {K:Nat->List Arg->Option Res} {md:Nat->List Nat}
structure KN (ob:List (Nat×Obj)) (ms:List Nat) (xs:List AV) (base:Nat) (M:List Nat):Prop where
 fresh: ∀j,j<(BF xs).length->base+j∈M
 place: ∀ (i:Nat) m x,ms[i]? =some m->m≠0->(BF xs)[i]? =some x-> ∀o∈Aw x,o∈M
 box: ∀ (i:Nat) m b j,ms[i]? =some m->m≠0->(BF xs)[i]? =some (.pb b j)->b∈M/\ ∀cells,AR ob b= .box cells-> ∀y∈cells,∀o∈Aw y,o∈M
theorem Uf (hR:Rel fm e s a) {d:Option Nat} {o f:Nat} {xs:List AV} {vs:List Value} (hK: ∀args r,K f args=some r->RN P f args r) (hlen:xs.length=vs.length)
  (hv: ∀ (i:Nat) x v,xs[i]? =some x->vs[i]? =some v->AS e x v) (hM:KN s.ob (md f) xs o M) (h:Ei K md s d o f xs=some s'):
  Calls P f vs.toArray e.w fun
   | .returned v,w'=> ∃e' s2 x,e'.w=w'/\Rel fm e' s2 a/\AS e' x v/\s2.put d x=some s'/\Evo e e' M
   |_,_=>False:=by
 unfold Ei UI at h
 split at h
 case h_2=>cases h
 rename_i g hg
 split at hg
 case h_2=>cases hg
 rename_i h1 hroots
 split at hg
 case h_2=>cases hg
 rename_i ys lent hlend
 split at hg
 case h_2=>cases hg
 rename_i args cs hclose
 split at hg
 case isFalse=>cases hg
 rename_i hchk
 simp only[Option.some.injEq]at hg
 subst hg
 simp only[Bool.and_eq_true]at hchk
 obtain⟨⟨⟨⟨c1,c5,c6⟩,c2⟩,c3⟩,c4⟩:=hchk
 have c6:args.any QF=false:=by simpa using c6
 have hnd:=Fp c2
 have hap: ∀x∈lent,x∉cs:=fun x hx=>by have:=List.all_eq_true.1 c3 x hx;simpa using this
 have hpa: ∀x∈Fo (h1.l.drop (BF xs).length),x∉cs:=fun x hx=>by have:=List.all_eq_true.1 c4 x hx;simpa using this
 split at h
 case h_2=>cases h
 rename_i r hr
 split at h
 case h_2=>cases h
 rename_i v2 s2 htake
 unfold JH.take at htake
 split at htake
 case isFalse=>cases htake
 rename_i hchk2
 simp only[Bool.and_eq_true]at hchk2
 obtain⟨⟨⟨⟨k5,k1⟩,k2⟩,k3⟩,k4⟩:=hchk2
 have k5:(r.out.any S3||r.pfin.any fun ls=>ls.any alL)=false:=by simpa using k5
 obtain⟨f1,f2⟩:=OQ hlen hv
 have hH:CN fm e {s,l:=BF xs} a (DA xs vs):=⟨hR,f1,f2⟩
 obtain⟨e1,us1,y1,y2,y3,y4,y5,y6,y7,y8,y9⟩:=JR (n:=(BF xs).length) hH hroots (by simp;omega) (Nat.le_refl _) (by
  simp only[List.drop_length];rw[f1,List.drop_length];trivial)
 have hcsN: ∀o∈cs,e1.ob o≠ .none:=fun o ho=>by rw[y3.rel.ob];exact Hs hclose o ho
 have hl1:(h1.l.take (BF xs).length).length=(BF xs).length:=by simp;omega
 have hv1: ∀ (i:Nat) x u,(h1.l.take (BF xs).length)[i]? =some x->(DA xs vs)[i]? =some u->AS e1 x u:=fun i x u hx hu=>by
  have hi:=(List.getElem?_eq_some_iff.1 hu).1;rw[List.getElem?_take,if_pos (by omega)]at hx;refine y3.ok i x u hx ?_;have h2:(us1.take (BF xs).length)[i]? =some u:=by rw[y4,List.getElem?_take,if_pos (by omega)];exact hu
  rw[List.getElem?_take,if_pos (by omega)]at h2;exact h2
 let TT:Nat->Value:=fun j=>(FD (BO ys (DA xs vs)) j).getD (e1.tk j)
 have hkeys:(D6 (BO ys (DA xs vs))).Nodup:=by
  rw[←Jz (ys:=ys) (xs:=h1.l.take (BF xs).length) (us:=DA xs vs) (hl1.trans f1)];exact Fp c5
 have hTT: ∀ (i:Nat) j k r u,ys[i]? =some (.al j k r)->(DA xs vs)[i]? =some u->u=TT j:=fun i j k r u h1 h2=>by
  simp only[TT,Ky hkeys h1 h2,Option.getD_some]
 have hzl:(BQ (Ct xs) ys).length=vs.length:=by
  have hyl:ys.length=(DA xs vs).length:=by
   have: ∀ {ms:List Nat} {xs ys:List AV} {os:List Nat},D9 h1.s.ob ms xs=some (ys,os)->ys.length=xs.length:=by
    intro ms xs
    induction xs generalizing ms with
    |nil=>intro ys os h;simp only[D9,Option.some.injEq,Prod.mk.injEq]at h;rw[←h.1]
    |cons x xs ih=>
     intro ys os h;simp only[D9]at h;split at h
     case h_2=>cases h
     rename_i h2;simp only[Option.some.injEq,Prod.mk.injEq]at h;rw[←h.1];simp[ih h2]
   rw[this hlend,hl1,f1]
  have: ∀ (xs ys:List AV),(BQ (Ct xs) ys).length=xs.length:=by
   intro xs
   induction xs with
   |nil=>intro ys;rfl
   |cons x xs ih=>intro ys;cases x<;>simp[Ct,BQ,ih]
  rw[this,hlen]
 obtain⟨fm0,e0,z1,zT,z2,z3,z4,z5,z6,z7⟩:=UX y3.rel TT hclose hnd hap hzl (fun o ho c hb=>JE hclose c6 o ho c (by rw[←y3.rel.ob];exact hb)) (fun {e0 f'} hz htk hC i z v hzi hvi=>by
  obtain⟨q1,q2⟩:=NP y3.rel hz hC hv1 hlend (fun o ho=>ho) (fun i j k r u h1 h2=>by rw[htk];exact hTT i j k r u h1 h2);obtain⟨q3,q4⟩:=HC (e0:=e0) (ys:=mvL f' ys) hlen hv (by rw[Dm,List.length_map,q1,hl1,f1]) (fun j y u hy hu=>by
   rw[Dm,List.getElem?_map]at hy
   cases hyj:ys[j]? with
   |none=>simp[hyj]at hy
   |some y0=>simp[hyj]at hy;subst hy;exact q2 j y0 u hyj hu)
  refine q4 i (z.mv f') v ?_ hvi;rw[←IB,Dm,List.getElem?_map,hzi];rfl)
 have hcall:=hK args r hr fm0 e0 vs z1
 rw[z3,y1]at hcall
 refine Calls.mono hcall fun en w' hpost=> ?_
 cases en with
 |panicked _=>exact hpost
 |outgrown=>exact hpost
 |returned v=>
 obtain⟨e',hw',hx⟩:=hpost
 have hno:lent=[]\/(r.out.any OL||r.pfin.any fun ls=>ls.any imL)=false:=by
  simp only[Bool.or_eq_true,List.isEmpty_iff,Bool.not_eq_true']at k1;exact k1
 have harrinv: ∀ {X:Obj} {f':Nat->Option Nat} {k:Nat} {r0:List (List T)},X.mv f'= .arr k r0->X= .arr k r0:=fun {X} {_} {_} {_} h=>by cases X<;>simp[Obj.mv]at h;simp[h]
 have hboxinv: ∀ {X:Obj} {f':Nat->Option Nat} {c:List AV},X.mv f'= .box c-> ∃c0,X= .box c0:=fun {X} {_} {_} h=>by cases X<;>simp[Obj.mv]at h;exact⟨_,rfl⟩
 have hlt: ∀ {j:Nat} {o:Nat},cs[j]? =some o->j<(AK 0 0 args).2.2:=fun h=>by rw[z6];exact(List.getElem?_eq_some_iff.1 h).1
 obtain⟨e2,m1,m2,m3,m4,m5,m6,m7⟩:=Tq (base:=o+40) y3.rel hnd hcsN k4 hx.mem z2 z4 z5 hx.ob
  (fun j o k rows hj ho=>by
   obtain⟨q1,r0,q2⟩:=hx.hd j k rows (hlt hj) ho;obtain⟨p1,p2,f',p3⟩:=z7 j o hj;exact⟨q1.trans p1,r0,harrinv (p3 ▸ q2)⟩)
  (fun j o c0 hj ho=>by
   obtain⟨p1,p2,f',p3⟩:=z7 j o hj;obtain⟨c,q1,q2⟩:=hx.bk j (mvL f' c0) (hlt hj) (by rw[p3,ho];rfl);exact⟨c,q1,q2.trans p2⟩)
  (fun j o c hj ho=>by
   obtain⟨c0,q1⟩:=hx.bx j c (hlt hj) ho;obtain⟨p1,p2,f',p3⟩:=z7 j o hj;exact hboxinv (p3 ▸ q1))
  (hno.imp id fun h j c hj=>by rw[hx.ob]at hj;exact(Pn h).2.get hj)
  (fun j c hj=>by rw[hx.ob]at hj;exact(Sj k5).get hj)
 have hul:us1.length=h1.l.length:=y3.len.symm
 have hH2:CN fm e2 {s:=JH.merge {s:=h1.s,bk:=h1.l.drop (BF xs).length,lent,args,cs,tks:=BO ys (h1.l.take (BF xs).length)} (o+40) (Cd args r).2,l:=(one (Cd args r).1).mvt (Ej cs (o+40)) (Nz (Dt cs (Cd args r).2) (BO ys (h1.l.take (BF xs).length)))::Bv (Dt cs (Cd args r).2) (h1.l.drop (BF xs).length)} a (v::us1.drop (BF xs).length):=by
  refine⟨m2,by simp[BR,hul],fun i x u hxi hui=> ?_⟩
  cases i with
  |zero=>
   simp at hxi hui;subst hxi;subst hui;refine hx.val.mvt m3 (fun j hj=> ?_) (hno.elim (fun h=> .inr (m4 h)) fun h=> .inl (Pn h).1);have htj:e'.tk j=TT j:=by rw[hx.mem.tk,zT]
   unfold Nz
   cases hg:FD (BO ys (h1.l.take (BF xs).length)) j with
   |none=>exact .dead _ hj
   |some x0=>
    obtain⟨i,k,r,q1,q2⟩:=M8 hg;have hi:i<(DA xs vs).length:=by rw[←f1,←hl1];exact(List.getElem?_eq_some_iff.1 q2).1
    have:=hTT i j k r _ q1 (List.getElem?_eq_getElem hi);rw[htj,←this];exact(hv1 i x0 _ q2 (List.getElem?_eq_getElem hi)).sub m5
  |succ i=>
   simp only[List.getElem?_cons_succ]at hxi hui;rw[BR,List.getElem?_map]at hxi
   cases hxi':(h1.l.drop (BF xs).length)[i]? with
   |none=>simp[hxi']at hxi
   |some x0=>
    simp[hxi']at hxi;subst hxi;rw[List.getElem?_drop]at hxi' hui;exact(y3.ok _ x0 u hxi' hui).sub m5
 have hpairs:CF e2.w (Bv (Dt cs (Cd args r).2) (h1.l.drop (BF xs).length)) (us1.drop (BF xs).length):=by
  refine y6.sub fun i o' q i' j' u hxi hui hne ad hu=> ?_
  have hmem:o'∈Fo (h1.l.drop (BF xs).length):=by
   have: ∀ {l:List AV} {i:Nat},l[i]? =some (.pa o' q i' j')->o'∈Fo l:=by
    intro l
    induction l with
    |nil=>intro i h;simp at h
    |cons y l ih=>
     intro i h
     cases i with
     |zero=>simp at h;subst h;simp[Fo]
     |succ i=>
      have:=ih (i:=i) (by simpa using h)
      cases y<;>simp[Fo,this]
   exact this hxi
  rw[List.getElem?_drop]at hxi hui;have hok:=y3.ok _ _ u hxi hui;subst hu
  cases hok with
  |pa _ _ _ _ k b off nn c rows hn hh hc=>
  have hblk:e1.blk (.nd o' q)=some b:=Ae hn (by rw[hh];simp[BG,hc]);have hb:=(y3.rel.mem.own _ b hblk).1;rw[←y1];exact Bt (m7 b hb fun l hl=>by rw[y3.rel.mem.inj l _ b hl hblk];exact hpa o' hmem)
 obtain⟨e3,b1,b2,b3,b4,b5⟩:=Mh hH2 hpairs htake
 refine⟨e3,s2,v2,b1.trans (m1.trans hw'),b2,b3,h,by rw[b1,←y1];exact m6,fun b hb hl=> ?_⟩
 rw[b1,←y1]
 refine m7 b (by rw[y1];exact hb) fun l hl1 hc=> ?_
 obtain⟨i1,i2,i3⟩:=y9 (e0:=e) (A:=fun o=>o∈M) (N:=fun o=>o∈M) (fun l b h1 h2=>⟨l,h1,h2⟩) (fun j hj=>hM.fresh j (by simp at hj;omega)) (fun j x hj hx o' ho'=>by
  simp only[Nat.zero_add]at hx;rw[List.getElem?_take]at hj;split at hj
  ·exact hM.place j 1 x hj (by decide) hx o' ho'
  ·cases hj)
 suffices hcM:l.obj∈M by
  obtain⟨l0,q1,q2⟩:=i1 l b hl1 hcM;exact hl l0 q1 q2
 have leafM: ∀y∈ys,(y= .ref l.obj []->l.obj∈M)/\ ∀b' cells,y= .pb b' 0->AR h1.s.ob b'= .box cells->(l.obj=b'\/ .ref l.obj []∈cells)->l.obj∈M:=by
  intro y hy;obtain⟨i,hi⟩:=List.mem_iff_getElem?.1 hy;refine⟨fun hyr=> ?_,fun b' cells hyb hbox hor=> ?_⟩
  ·obtain⟨m,q1,q2,q3⟩:=IE hlend i y hi (.inl ⟨_,_,hyr⟩);rw[List.getElem?_take]at q3;split at q3
   case isFalse=>cases q3
   rename_i hin;obtain⟨x,q4,q5,_⟩:=i2 i y hin q3;rcases q5 l.obj (by rw[hyr];simp[Aw])with q6|q6
   ·exact hM.place i m x q1 q2 q4 _ q6
   ·exact q6
  ·obtain⟨m,q1,q2,q3⟩:=IE hlend i y hi (.inr ⟨_,_,hyb⟩);rw[List.getElem?_take]at q3;split at q3
   case isFalse=>cases q3
   rename_i hin;obtain⟨x,q4,_,q5⟩:=i2 i y hin q3;have hxy:=q5 b' 0 hyb;rw[hxy,hyb]at q4;obtain⟨p1,p2⟩:=hM.box i m b' 0 q1 q2 q4;rcases hor with q6|q6
   ·rw[q6];exact p1
   ·obtain⟨cells0,p3,p4⟩:=i3 b' cells hbox;obtain⟨j,hj⟩:=List.mem_iff_getElem?.1 q6;obtain⟨x0,p5,p6⟩:=p4 j _ hj;rcases p6 l.obj (by simp[Aw])with p7|p7
    ·exact p2 cells0 p3 x0 (List.mem_of_getElem? p5) _ p7
    ·exact p7
 have hone: ∀y∈ys,oneCell y=true:=fun y hy=>List.all_eq_true.1 c1 y hy
 obtain⟨z,hz,hsrc⟩:=Hr hclose l.obj hc
 rcases Hz hz with ⟨l',hz1,hz2⟩|hz1|hz1
 ·rcases hsrc with hs|⟨l'',hs,hs2⟩|⟨b',cells,hs,_⟩
  ·rw[hs]at hz1;cases hz1
  ·rw[hs]at hz1
   cases hz1
   exact(leafM _ (hz2 _ hs2)).1 rfl
  ·rw[hs]at hz1;cases hz1
 ·rcases hsrc with hs|⟨l'',hs,hs2⟩|⟨b',cells,hs,hs2,hs3⟩
  ·exact(leafM z hz1).1 hs
  ·have:=hone z hz1
   rw[hs]at this
   cases this
  ·exact(leafM z hz1).2 b' cells hs hs2 hs3
 ·rcases hsrc with hs|⟨l'',hs,hs2⟩|⟨b',cells,hs,_⟩<;>(rw[hs]at hz1;cases hz1)
end
section
variable {P:Program} {fm fm0:Fm} {M:List Nat} {e e' e0:Env} {s s':St} {a:Act} {Q:Exit->Act->World->Prop}
variable {K:Nat->List Arg->Option Res} {md:Nat->List Nat}
def Ot (P:Program) (f:Nat):Prop:= ∃fn,P.funcs[f]? =some fn/\fn.name≠ "runtime.NumGoroutine" /\fn.body≠none
def KOk (P:Program) (K:Nat->List Arg->Option Res):Prop:= ∀f args r,K f args=some r->Ot P f/\RN P f args r
theorem F3 {f:Nat} (h:Ot P f) (args:Array Value) (w:World):(callFunc f args).run P w= .ok (.enter f args) w:=by
 obtain⟨fn,h1,h2,h3⟩:=h;simp[callFunc,h1,h2,h3]
theorem callA_K {d:Option Nat} {o f:Nat} {xs:List AV} (h:Ei K md s d o f xs=some s'): ∃args r,K f args=some r:=by
 unfold Ei at h;split at h
 case h_2=>cases h
 split at h
 case h_2=>cases h
 rename_i hr;exact⟨_,_,hr⟩
theorem Om (hR:Rel fm e s a) {o:Oper} {f base:Nat} {xs:List AV} {vs:List Value} (hK:KOk P K) (hrun:Ot P f->(execOp a.eval o).run P e.w= .ok (.enter f vs.toArray) e.w) (hlen:xs.length=vs.length)
  (hv: ∀ (i:Nat) x v,xs[i]? =some x->vs[i]? =some v->AS e x v) (hM:KN s.ob (md f) xs base M) (h:Ei K md s o.dst base f xs=some s'):o.wp P a e.w (Reach fm e M s') Q:=by
 obtain⟨args,r,hr⟩:=callA_K h
 unfold Oper.wp
 rw[hrun (hK f args r hr).1,Oper.upon_enter]
 refine Calls.mono (Uf hR (fun args r hr=>(hK f args r hr).2) hlen hv hM h) fun en w' hp=> ?_
 cases en with
 |panicked _=>exact hp.elim
 |outgrown=>exact hp.elim
 |returned v=>
  obtain⟨e',s2,x,h1,h2,h3,h4,h5⟩:=hp;exact⟨e',h1,h2.put h3 h4,h5⟩
theorem op_call (hR:Rel fm e s a) {o:Oper} {c:Call} {f base:Nat} {Xs:List X} (hK:KOk P K) (ho:o.op= .call c) (hc:c.callee= .value (.func f)) (hxs:GN P c.argTypes.toList c.args.toList=some Xs)
  (hM:KN s.ob (md f) (Xs.map (ev s.tm)) base M) (h:Aa K md s o.dst (.call base f Xs)=some s'):o.wp P a e.w (Reach fm e M s') Q:=by
 simp only[Aa]at h
 obtain⟨h1,h2⟩:=Ie hR hxs
 refine Om hR (vs:=c.args.toList.map a.eval) hK (fun hE=> ?_) h1 h2 hM h
 have hargs:(c.args.toList.map a.eval).toArray=c.args.map a.eval:=by rw[←Array.toList_map]
 simp only[execOp,ho,resolve,hc,Act.eval,Deferred.ofValue,hargs]
 simp[invoke,F3 hE]
theorem Td (hR:Rel fm e s a) {o:Oper} {c:Call} {t base:Nat} {Xs:List X} (hK:KOk P K) (ho:o.op= .call c) (hc:c.callee= .value (.tmp t)) (hxs:GN P c.argTypes.toList c.args.toList=some Xs)
  (hM: ∀f caps,At s.tm t= .clo f caps->KN s.ob (md f) (Xs.map (ev s.tm)++caps) base M) (h:Aa K md s o.dst (.callv base (.t t) Xs)=some s'):o.wp P a e.w (Reach fm e M s') Q:=by
 simp only[Aa,ev]at h
 split at h
 case h_2=>cases h
 rename_i f caps hf
 obtain⟨h1,h2⟩:=Ie hR hxs
 have ht:=hR.tm t
 rw[hf]at ht
 generalize hu:a.tmps.getD t undef=u at ht
 cases ht with
 |clo _ _ us hlen hok=>
 refine Om hR (vs:=c.args.toList.map a.eval++us) hK (fun hE=> ?_) (by simp only[List.length_append,hlen,h1]) (fun i x v hx hv=> ?_) (hM f caps hf) h
 ·have hargs:(c.args.toList.map a.eval++us).toArray=c.args.map a.eval++us.toArray:=by simp
  have hev:a.eval (.tmp t)= .func (.func f) #[] us.toArray:=hu
  simp only[execOp,ho,resolve,hc,hev,Deferred.ofValue,hargs]
  simp[invoke,F3 hE]
 ·rw[List.getElem?_append]at hx hv
  rw[h1]at hx
  split at hx
  ·rename_i hi;rw[if_pos hi]at hv;exact h2 i x v hx hv
  ·rename_i hi;rw[if_neg hi]at hv;exact hok _ x v hx hv
end
section
variable {P:Program} {fm fm0:Fm} {M:List Nat} {e e' e0:Env} {s s':St} {a:Act} {Q:Exit->Act->World->Prop}
variable {K:Nat->List Arg->Option Res} {md:Nat->List Nat}
theorem root_len {h h':Ao} {i k:Nat} (hr:h.root i k=some h'):i<h.l.length:=by
 unfold Ao.root at hr
 cases hi:h.l[i]? with
 |none=>simp[hi]at hr
 |some x=>exact(List.getElem?_eq_some_iff.1 hi).1
theorem LJ {us:List Value}: ∀ {l:List Nat} {base:Nat} {e:Env} {h h':Ao},CN fm e h a us->h.rootsAt base l=some h'->
  ∃e',e'.w=e.w/\e'.Im=e.Im/\CN fm e' h' a us/\h'.s.n=h.s.n/\h'.s.m=h.s.m/\
   ∀ {e0:Env} {A N:Nat->Prop},C2 e0 e A N->(∀j,j<l.length->N (base+j))->(∀i∈l,∀x,h.l[i]? =some x-> ∀o∈Aw x,N o)->C2 e0 e' A N
 |[],base,e,h,h',hH,hr=>by
  simp only[Ao.rootsAt,Option.some.injEq]at hr;subst hr;exact⟨e,rfl,rfl,hH,rfl,rfl,fun hI _ _=>hI⟩
 |i::l,base,e,h,h',hH,hr=>by
  simp only[Ao.rootsAt]at hr;split at hr
  case h_2=>cases hr
  rename_i h1 hroot;obtain⟨e1,g1,g2,g3,g4,g5,g6,g7,_,g8⟩:=JT hH hroot;obtain⟨e2,y1,y2,y3,y4,y5,y6⟩:=LJ g3 hr;refine⟨e2,y1.trans g1,y2.trans g2,y3,y4.trans g4,y5.trans g5,fun hI hN hp=> ?_⟩;refine y6 (g8 hI fun x hx o ho=>hp i List.mem_cons_self x hx o ho) (fun j hj=>by have:=hN (j+1) (by simpa using hj);rwa [show base+1+j=base+(j+1)by omega]) (fun i' hi' x hx o ho=> ?_);obtain⟨x0,q1,q2,_⟩:=g6 i' x hx;rcases q2 o ho with q3|q3
  ·exact hp i' (List.mem_cons_of_mem _ hi') x0 q1 o q3
  ·rw[q3];have:=hN 0 (by simp);simpa using this
structure Up (s:St) (ms:List Nat) (xs:List AV) (base:Nat) (cs:List Nat) (M:List Nat):Prop where
 fresh: ∀j,j<cs.length->base+90+j∈M
 place: ∀i∈cs,∀x,xs[i]? =some x-> ∀o∈Aw x,o∈M
 call: ∀h,({s,l:=xs}:Ao).rootsAt (base+90) cs=some h->KN h.s.ob ms h.l base M
theorem Te (hR:Rel fm e s a) {o:Oper} {c:Call} {f base:Nat} {Xs:List X} {cs:List Nat} (hK:KOk P K) (ho:o.op= .call c) (hc:c.callee= .value (.func f)) (hxs:GN P c.argTypes.toList c.args.toList=some Xs)
  (hM:Up s (md f) (Xs.map (ev s.tm)) base cs M) (h:Aa K md s o.dst (.callc base f Xs cs)=some s'):o.wp P a e.w (Reach fm e M s') Q:=by
 simp only[Aa]at h
 split at h
 case h_2=>cases h
 rename_i h1 hr
 obtain⟨g1,g2⟩:=Ie hR hxs
 have hH:CN fm e {s,l:=Xs.map (ev s.tm)} a (c.args.toList.map a.eval):=⟨hR,g1,g2⟩
 obtain⟨e1,y1,y2,y3,y4,y5,y6⟩:=LJ hH hr
 have hargs:(c.args.toList.map a.eval).toArray=c.args.map a.eval:=by rw[←Array.toList_map]
 have hwp:o.wp P a e1.w (Reach fm e1 M s') Q:=by
  refine Om y3.rel (vs:=c.args.toList.map a.eval) hK (fun hE=> ?_) y3.len y3.ok (hM.call h1 hr) h;simp only[execOp,ho,resolve,hc,Act.eval,Deferred.ofValue,hargs];simp[invoke,F3 hE]
 rw[y1]at hwp
 have hEvo: ∀ {e2:Env},Evo e1 e2 M->Evo e e2 M:=fun {e2} hE=>by
  refine⟨by rw[←y1];exact hE.size,fun b hb hl=> ?_⟩;rw[←y1];refine hE.same b (by rw[y1];exact hb) fun l hl1 hlM=> ?_
  obtain⟨l0,q1,q2⟩:=y6 (e0:=e) (A:=fun o=>o∈M) (N:=fun o=>o∈M) (fun l b h1 h2=>⟨l,h1,h2⟩) hM.fresh hM.place l b hl1 hlM;exact hl l0 q1 q2
 refine Oper.wp_mono (fun a' w' hh=> ?_) hwp
 obtain⟨e2,q1,q2,q3⟩:=hh
 exact⟨e2,q1,q2,hEvo q3⟩
end
section
variable {P:Program} {fm fm0:Fm} {M:List Nat} {e e' e0:Env} {s s':St} {a:Act} {Q:Exit->Act->World->Prop}
theorem J6: ∀ (args:List Arg) (t n i:Nat),(i<t\/t+args.length<=i)->At (AK t n args).1 i= .non
 |[],t,n,i,_=>rfl
 |x::args,t,n,i,h=>by
  simp only[List.length_cons]at h;have hx:At (AK t n (x::args)).1 i=if i=t then(AU n x).1 else At (AK (t+1) (AU n x).2.2 args).1 i:=rfl;rw[hx,if_neg (by omega)];exact J6 args (t+1) _ i (by omega)
theorem Nl {args:List Arg} {vs:List Value} (hE:JI fm e args vs) {n:Nat} (hn:args.length<=n):Rel fm e (Nm n args) {tmps:=vs.toArray++Array.replicate (n - vs.toArray.size) undef,defers:=[]}:=by
 refine⟨hE.mem,hE.ob,fun o k rows _ _=>(hE.H o).symm,fun o cs _ _=>(hE.B o).symm,by simp[Nm,←hE.len];omega,rfl,fun t=> ?_⟩
 show AS e (At (AK 0 0 args).1 t) _
 by_cases ht:t<vs.length
 ·have h1:vs[t]? =some vs[t]:=List.getElem?_eq_getElem ht;have h2:(vs.toArray++Array.replicate (n - vs.toArray.size) undef).getD t undef=vs[t]:=by
   rw[Array.getD_eq_getD_getElem?,Array.getElem?_append_left (by simpa using ht)];simp[h1]
  rw[h2];exact hE.val t _ h1
 ·rw[J6 args 0 0 t (.inr (by rw[hE.len];omega))];exact .non _
theorem JS {us:List Value}: ∀ {m:Nat} {e:Env} {h h':Ao} {base i:Nat},CN fm e h a us->h.rootsI base i m=some h'->
  ∃e',e'.w=e.w/\e'.Im=e.Im/\CN fm e' h' a us/\h'.s.n=h.s.n/\h'.s.m=h.s.m/\M5 e e'
 |0,e,h,h',base,i,hH,hr=>by simp only[Ao.rootsI,Option.some.injEq]at hr;subst hr;exact⟨e,rfl,rfl,hH,rfl,rfl,M5.refl e⟩
 |m+1,e,h,h',base,i,hH,hr=>by
  simp only[Ao.rootsI]at hr;split at hr
  ·rename_i h1 h2;obtain⟨e1,g1,g2,g3,g4,g5,_,_,g6,_⟩:=LK hH h2;obtain⟨e2,y1,y2,y3,y4,y5,y6⟩:=JS g3 hr;refine⟨e2,y1.trans g1,y2.trans g2,y3,y4.trans g4,y5.trans g5,fun o cs hb=> ?_⟩;obtain⟨c1,q1,q2⟩:=g6 o cs hb;obtain⟨c2,q3,q4⟩:=y6 o c1 q1;exact⟨c2,q3,q4.trans q2⟩
  ·cases hr
theorem TQ (hR:Rel fm e s a) {b:Nat} {cs cs':List AV} (hb:e.ob b= .box cs) (hc: ∀ (j:Nat) c,cs'[j]? =some c->Wr e.w (e.bk b) j/\ ∃u,e.w.cell? ⟨e.bk b,j,none⟩=some u/\AS e c u):
  ∃e',e'.w=e.w/\e'.Im=e.Im/\Rel fm e' (s.putO b (.box cs')) a/\(Bm e e' fun o p=>some (o,p))/\(∀o,e'.bk o=e.bk o)/\ ∀o,e'.ob o=if o=b then .box cs' else e.ob o:=by
 let e':Env:={e with ob:=fun o=>if o=b then .box cs' else e.ob o}
 have hob: ∀o,e'.ob o=if o=b then .box cs' else e.ob o:=fun _=>rfl
 have hnode: ∀o p,e'.node o p=e.node o p:=fun o p=>by
  by_cases h:o=b
  ·subst h;simp[Env.node,e',hb]
  ·simp[Env.node,e',h]
 have hblk: ∀l x,e'.blk l=some x->e.blk l=some x:=by
  intro l x h
  cases l with
  |nd o p=>
   obtain⟨k,r,h1,h2⟩:=E7 h;rw[hnode]at h1;exact Ae h1 h2
  |bx o=>
   obtain⟨c,h1,h2⟩:=Ds h;rw[←h2];by_cases ho:o=b
   ·subst ho;exact Ad hb
   ·rw[hob,if_neg ho]at h1;exact Ad h1
 have hC:Bm e e' fun o p=>some (o,p):=by
  refine⟨fun b hb=>⟨hb,rfl⟩,fun o p k rows o' p' hn hf=> ?_,fun o c ho=> ?_,fun o p k rows hn=>(hR.mem.node o p k rows hn).one,rfl⟩
  ·cases hf
   exact⟨rows,by rw[hnode];exact hn,rfl,rfl⟩
  ·by_cases h:o=b
   ·exact⟨cs',by rw[hob,if_pos h],rfl⟩
   ·exact⟨c,by rw[hob,if_neg h];exact ho,rfl⟩
 refine⟨e',rfl,rfl,⟨⟨fun o c ho j x hx=> ?_,fun o p k r hn=> ?_,fun l l' x h h'=>hR.mem.inj l l' x (hblk l x h) (hblk l' x h'),fun l x h=>hR.mem.own l x (hblk l x h),hR.mem.im,hR.mem.im0,hR.mem.keeps,hR.mem.tk⟩,fun o=> ?_,fun o k r h1 h2=> ?_,fun o c h1 h2=> ?_,hR.size,hR.defers,fun t=>(hR.tm t).carry hC⟩,hC,fun _=>rfl,hob⟩
 ·by_cases h:o=b
  ·subst h
   rw[hob,if_pos rfl]at ho
   cases ho
   obtain⟨g1,u,g2,g3⟩:=hc j x hx
   exact⟨g1,u,g2,g3.carry hC⟩
  ·rw[hob,if_neg h]at ho
   obtain⟨g1,u,g2,g3⟩:=hR.mem.box o c ho j x hx
   exact⟨g1,u,g2,g3.carry hC⟩
 ·rw[hnode]at hn
  exact hR.mem.node o p k r hn
 ·rw[hob,A6]
  by_cases h:o=b
  ·rw[if_pos h,if_pos h]
  ·rw[if_neg h,if_neg h];exact hR.ob o
 ·rw[hob]at h2
  split at h2
  ·cases h2
  ·exact hR.pinh o k r h1 h2
 ·rw[hob]at h2
  split at h2
  ·rename_i h;subst h;exact hR.pinb _ cs h1 hb
  ·exact hR.pinb o c h1 h2
theorem Qb {us:List Value} {h h':Ao} {base b:Nat} (hH:CN fm e h a us) (hr:h.rootBox base b=some h'):
  ∃e',e'.w=e.w/\e'.Im=e.Im/\CN fm e' h' a us/\h'.s.n=h.s.n/\h'.s.m=h.s.m:=by
 unfold Ao.rootBox at hr
 split at hr
 case h_2=>cases hr
 rename_i cs hcs
 split at hr
 case h_2=>cases hr
 rename_i h1 hroots
 cases hr
 have hb:e.ob b= .box cs:=by rw[hH.rel.ob];exact hcs
 let uc:List Value:=(List.range cs.length).map fun j=>(e.w.cell? ⟨e.bk b,j,none⟩).getD undef
 have huc:uc.length=cs.length:=by simp[uc]
 have hcell: ∀ (j:Nat) c u,cs[j]? =some c->uc[j]? =some u->Wr e.w (e.bk b) j/\e.w.cell? ⟨e.bk b,j,none⟩=some u/\AS e c u:=by
  intro j c u hc hu;obtain⟨g1,v,g2,g3⟩:=hH.rel.mem.box b cs hb j c hc;have hj:=(List.getElem?_eq_some_iff.1 hc).1;have hv:u=v:=by
   simp only[uc,List.getElem?_map,List.getElem?_range hj,Option.map_some,Option.some.injEq,g2,Option.getD_some]at hu;exact hu.symm
  subst hv;exact⟨g1,g2,g3⟩
 have hH1:CN fm e {s:=h.s,l:=cs++h.l} a (uc++us):=by
  refine⟨hH.rel,by simp[huc,hH.len],fun i x u hx hu=> ?_⟩;rw[List.getElem?_append]at hx hu;rw[huc]at hu;split at hx
  ·rename_i hi;rw[if_pos hi]at hu;exact(hcell i x u hx hu).2.2
  ·rename_i hi;rw[if_neg hi]at hu;exact hH.ok _ x u hx hu
 obtain⟨e1,g1,g2,g3,g4,g5,g6⟩:=JS hH1 hroots
 obtain⟨cs1,q1,q2⟩:=g6 b cs hb
 obtain⟨e2,y1,y2,y3,y4,y5,y6⟩:=TQ g3.rel q1 (cs':=h1.l.take cs.length) (fun j c hc=>by
  rw[List.getElem?_take]at hc;split at hc
  case isFalse=>cases hc
  rename_i hj;obtain⟨u,hu⟩:=AE (l:=uc) (i:=j) (by omega);obtain⟨c0,hc0⟩:=AE (l:=cs) (i:=j) hj;obtain⟨z1,z2,z3⟩:=hcell j c0 u hc0 hu;rw[q2,g1];exact⟨z1,u,z2,g3.ok j c u hc (by rw[List.getElem?_append_left (by omega)];exact hu)⟩)
 have hlen:=g3.len
 refine⟨e2,y1.trans g1,y2.trans g2,⟨y3,by simp only[List.length_drop,hlen,List.length_append,huc];omega,fun i x u hx hu=> ?_⟩,g4,g5⟩
 rw[List.getElem?_drop]at hx
 exact(g3.ok _ x u hx (by rw[List.getElem?_append_right (by omega),huc,show cs.length+i - cs.length=i by omega];exact hu)).carry y4
theorem In {us:List Value}: ∀ {l:List Nat} {base:Nat} {e:Env} {h h':Ao},CN fm e h a us->h.rootBoxes base l=some h'->
  ∃e',e'.w=e.w/\e'.Im=e.Im/\CN fm e' h' a us/\h'.s.n=h.s.n/\h'.s.m=h.s.m
 |[],base,e,h,h',hH,hr=>by simp only[Ao.rootBoxes,Option.some.injEq]at hr;subst hr;exact⟨e,rfl,rfl,hH,rfl,rfl⟩
 |b::l,base,e,h,h',hH,hr=>by
  simp only[Ao.rootBoxes]at hr;split at hr
  ·rename_i h1 h2;obtain⟨e1,g1,g2,g3,g4,g5⟩:=Qb hH h2;obtain⟨e2,y1,y2,y3,y4,y5⟩:=In g3 hr;exact⟨e2,y1.trans g1,y2.trans g2,y3,y4.trans g4,y5.trans g5⟩
  ·cases hr
end
section
variable {P:Program} {fm fm0:Fm} {M:List Nat} {e e' e0:Env} {s s':St} {a:Act} {Q:Exit->Act->World->Prop}
def Th:List Value->Value
 |[v]=>v
 |vs=> .tuple vs.toArray
def Kg (tmps:Array Value):ResultVar->Sem Value
 | .tmp t=>pure (tmps.getD t undef)
 | .cell b t=>do loadVar t (←asAddr (tmps.getD b undef))
theorem Sa {n:Option Nat} {x y:AV} {v:Value} (hx:AS e x v) (h:FL s.ob n x=some y): ∃ad,v= .pointer (some ad):=by
 cases hx with
 |pb o j cs hb=>exact⟨_,rfl⟩
 |pa o p i j k b off n' c rows hn hh hc=>exact⟨_,rfl⟩
 |pim v cs hp=>obtain⟨_,_,rfl,_⟩:=hp;exact⟨_,rfl⟩
 |_=>simp[FL]at h
theorem SS (hR:Rel fm e s a) {v:ResultVar} {rp:RP} {l:List ResultVar} {m:List RP} (hr:Ca P (v::l)=some (rp::m)) {x:AV} (hx:PA s rp=some x):
  Ca P l=some m/\ ∃u,(Kg a.tmps v).run P e.w= .ok u e.w/\AS e x u:=by
 cases v with
 |tmp t=>
  cases hm:Ca P l with
  |none=>simp[Ca,hm]at hr
  |some m'=>
   simp[Ca,hm]at hr;obtain⟨rfl,rfl⟩:=hr;simp only[PA,Option.some.injEq]at hx;subst hx;exact⟨rfl,_,rfl,hR.tm t⟩
 |cell b t=>
  cases hn:nOf P t with
  |none=>simp[Ca,hn]at hr
  |some n=>
   cases hm:Ca P l with
   |none=>simp[Ca,hn,hm]at hr
   |some m'=>
    simp[Ca,hn,hm]at hr;obtain⟨rfl,rfl⟩:=hr;simp only[PA]at hx;obtain⟨u,h1,h2⟩:=Rm hR hn (hR.tm b) hx;obtain⟨ad,had⟩:=Sa (hR.tm b) hx;refine⟨rfl,u,?_,h2⟩;rw[had]at h1;simp only[Kg,had];simpa[Instr.loadAt,Instr.sureAddr,asAddr]using h1
theorem Io (hR:Rel fm e s a): ∀ {l:List ResultVar} {res:List RP} {xs:List AV},Ca P l=some res->CD (PA s) res=some xs->
  ∃vs:List Value,(l.mapM (Kg a.tmps)).run P e.w= .ok vs e.w/\xs.length=vs.length/\ ∀ (i:Nat) x v,xs[i]? =some x->vs[i]? =some v->AS e x v
 |[],res,xs,hr,hx=>by
  simp only[Ca,Option.some.injEq]at hr;subst hr;simp only[CD,Option.some.injEq]at hx;subst hx;exact⟨[],by simp,rfl,fun i x v h=>by simp at h⟩
 |v::l,[],xs,hr,hx=>by
  exfalso
  cases v<;>simp only[Ca]at hr
  ·cases h:Ca P l<;>simp[h]at hr
  ·split at hr<;>simp at hr
 |v::l,rp::res,xs,hr,hx=>by
  simp only[CD]at hx;split at hx
  case h_2=>cases hx
  rename_i x hx1;split at hx
  case h_2=>cases hx
  rename_i ys hx2
  cases hx
  obtain⟨g1,u,g2,g3⟩:=SS hR hr hx1;obtain⟨vs,y1,y2,y3⟩:=Io hR g1 hx2;refine⟨u::vs,?_,by simp[y2],fun i z w hz hw=> ?_⟩
  ·rw[List.mapM_cons];simp[g2,y1]
  ·cases i with
   |zero=>simp at hz hw;subst hz;subst hw;exact g3
   |succ i=>exact y3 i z w (by simpa using hz) (by simpa using hw)
theorem Qc (hR:Rel fm e s a) {fn:Func} {res:List RP} {xs:List AV} (hr:Ca P fn.results.toList=some res) (hx:CD (PA s) res=some xs):
  ∃vs:List Value,(results fn a.tmps).run P e.w= .ok (Th vs) e.w/\xs.length=vs.length/\ ∀ (i:Nat) x v,xs[i]? =some x->vs[i]? =some v->AS e x v:=by
 obtain⟨vs,h1,h2,h3⟩:=Io hR hr hx
 refine⟨vs,?_,h2,h3⟩
 have hdef:results fn a.tmps=(do
  let vs ←fn.results.mapM (Kg a.tmps)
  pure (if h:vs.size=1 then vs[0]else .tuple vs)):=rfl
 rw[hdef,Array.mapM_eq_mapM_toList]
 match vs,h1 with
 |[],h1=>simp[h1,Th]
 |[v],h1=>simp[h1,Th]
 |v::w::vs,h1=>simp[h1,Th]
end
section
variable {ob:List (Nat×Obj)} {f:Nat->Option Nat}
theorem FN (f:Nat->Option Nat) (ob:List (Nat×Obj)): ∀ (l:List Nat) (n o:Nat),o∈(mvO f ob n l).map (·.1)->n<=o/\o<n+l.length
 |[],n,o,h=>by simp[mvO]at h
 |x::l,n,o,h=>by
  simp only[mvO,List.map_cons,List.mem_cons]at h;simp only[List.length_cons];rcases h with h|h
  ·omega
  ·have:=FN f ob l (n+1) o h;omega
theorem Jg {l1 l2:List (Nat×Obj)} {o:Nat} (h:o∉l2.map (·.1)):AR (l1++l2) o=AR l1 o:=by
 rw[C9];split
 ·rfl
 ·rename_i h1;rw[Ea h,Ea h1]
theorem EZ {l1 l2:List (Nat×Obj)} {o:Nat} (h:o∉l1.map (·.1)):AR (l1++l2) o=AR l2 o:=by
 rw[C9,if_neg h]
theorem KF: ∀ {bs:List Nat} {n:Nat} {lss:List (List L)} {ids:List Nat},EN ob bs=some (lss,ids)->(∀ (i:Nat) o,ids[i]? =some o->f o=some (n+i))->(∀b∈bs,b<n)->
  (Bf n bs lss).2=n+ids.length/\ ∀o,AR (Bf n bs lss).1 o=if o∈bs then(AR ob o).mv f else AR (mvO f ob n ids) o
 |[],n,lss,ids,h,hf,hb=>by
  simp only[EN,Option.some.injEq,Prod.mk.injEq]at h;obtain⟨rfl,rfl⟩:=h;exact⟨rfl,fun o=>by simp[Bf,mvO]⟩
 |b::bs,n,lss,ids,h,hf,hb=>by
  simp only[EN]at h;split at h
  case h_2=>cases h
  rename_i cs hcs;split at h
  case h_2=>cases h
  rename_i ls os m qs h1 h2;simp only[Option.some.injEq,Prod.mk.injEq]at h;obtain⟨rfl,rfl⟩:=h;obtain⟨g1,g2⟩:=KF (n:=n+os.length) h2 (Fb hf) (fun b' hb'=>by have:=hb b' (List.mem_cons_of_mem _ hb');omega);have hbn:=hb b List.mem_cons_self;have hx:Bf n (b::bs) (ls::m)=((b,.box (mvL f cs))::(mvO f ob n os++(Bf (n+os.length) bs m).1),(Bf (n+os.length) bs m).2):=by
   simp only[Bf];rw[EJ h1 (HY hf)]
  rw[hx];refine⟨by rw[g1];simp[Nat.add_assoc],fun o=> ?_⟩;simp only[AR];by_cases ho:o=b
  ·subst ho;simp[hcs,Obj.mv]
  ·rw[if_neg ho,C4];simp only[List.mem_cons,ho,false_or];by_cases hob:o∈bs
   ·have hlt:=hb o (List.mem_cons_of_mem _ hob);rw[EZ (fun h=>by have:=FN _ _ _ _ _ h;omega),g2,if_pos hob,if_pos hob]
   ·rw[if_neg hob,C9,C9,g2,if_neg hob]
def Fw (ob os:List (Nat×Obj)) (gone:List Nat) (o:Nat):Obj:=
 if gone.contains o then .none else match AR ob o,AR os o with
 | .arr k rows,.arr k' _=>if k=k' then .arr k rows else .none
 |_,_=> .none
theorem fin_obj (ob os:List (Nat×Obj)) (gone:List Nat) (o:Nat):(match I4 ob os gone o,AR os o with
  |some rows,.arr k _=>Obj.arr k rows
  |_,_=> .none)=Fw ob os gone o:=by
 unfold I4 Fw
 by_cases hg:gone.contains o=true
 ·rw[if_pos hg,if_pos hg]
 ·rw[if_neg hg,if_neg hg]
  cases h1:AR ob o with
  |none=>rfl
  |box _=>rfl
  |arr k rows=>
   cases h2:AR os o with
   |none=>rfl
   |box _=>rfl
   |arr k' r'=>
    simp only;by_cases h:k=k'
    ·simp[h]
    ·simp[h]
theorem Nf (ob os:List (Nat×Obj)) (gone:List Nat) (o:Nat): ∀is:List Nat,AR (CE os is (is.map (I4 ob os gone))) o=if o∈is then Fw ob os gone o else .none
 |[]=>by simp[CE,AR]
 |i::is=>by
  have ih:=Nf ob os gone o is;have hi:=fin_obj ob os gone i;simp only[List.map_cons]
  cases hf:I4 ob os gone i with
  |none=>
   rw[hf]at hi;simp only[CE,ih];by_cases h:o=i
   ·subst h;have:Fw ob os gone o= .none:=by rw[←hi]
    simp[this]
   ·simp[h]
  |some rows=>
   rw[hf]at hi;simp only[CE]
   cases hx:AR os i with
   |arr k r=>
    rw[hx]at hi;simp only[AR];by_cases h:o=i
    ·subst h;simp[←hi]
    ·simp[h,ih]
   |none=>
    rw[hx]at hi;simp only[ih];by_cases h:o=i
    ·subst h;have:Fw ob os gone o= .none:=by rw[←hi]
     simp[this]
    ·simp[h]
   |box c=>
    rw[hx]at hi;simp only[ih];by_cases h:o=i
    ·subst h;have:Fw ob os gone o= .none:=by rw[←hi]
     simp[this]
    ·simp[h]
end
theorem BX: ∀ (ls:List L) (n:Nat),n<=(AW n ls).2.2/\ ∀o∈(AW n ls).2.1.map (·.1),n<=o/\o<(AW n ls).2.2
 |[],n=>⟨Nat.le_refl _,fun o h=>by simp[AW]at h⟩
 | .sc v::ls,n=>by simpa[AW]using BX ls n
 | .nil v::ls,n=>by simpa[AW]using BX ls n
 | .im k r::ls,n=>by simpa[AW]using BX ls n
 | .al i k r::ls,n=>by simpa[AW]using BX ls n
 | .sh d::ls,n=>by simpa[AW]using BX ls n
 | .own k r::ls,n=>by
  obtain⟨g1,g2⟩:=BX ls (n+1)
  show n<=(AW (n+1) ls).2.2/\ ∀o∈n::(AW (n+1) ls).2.1.map (·.1),n<=o/\o<(AW (n+1) ls).2.2
  refine⟨by omega,fun o h=> ?_⟩;rcases List.mem_cons.1 h with h1|h1
  ·omega
  ·have:=g2 o h1;omega
theorem It (x:Arg) (n:Nat):n<=(AU n x).2.2/\ ∀o∈(AU n x).2.1.map (·.1),n<=o/\o<(AU n x).2.2:=by
 cases x with
 |v l=>simpa[AU]using BX [l] n
 |a ls=>simpa[AU]using BX ls n
 |pm ls=>
  obtain⟨g1,g2⟩:=BX ls (n+1)
  show n<=(AW (n+1) ls).2.2/\ ∀o∈n::(AW (n+1) ls).2.1.map (·.1),n<=o/\o<(AW (n+1) ls).2.2
  refine⟨by omega,fun o h=> ?_⟩;rcases List.mem_cons.1 h with h1|h1
  ·omega
  ·have:=g2 o h1;omega
 |pi ts=>exact⟨Nat.le_refl _,fun o h=>by simp[AU]at h⟩
 |c f caps=>exact⟨Nat.le_refl _,fun o h=>by simp[AU]at h⟩
theorem JW: ∀ (args:List Arg) (t n:Nat),n<=(AK t n args).2.2/\(∀o∈(Ah n args).1,n<=o/\o<(AK t n args).2.2)/\(∀o∈(Ah n args).2,n<=o/\o<(AK t n args).2.2)/\
  ∀o∈(Ah n args).1,o∉(Ah n args).2
 |[],t,n=>⟨Nat.le_refl _,fun o h=>by simp[Ah]at h,fun o h=>by simp[Ah]at h,fun o h=>by simp[Ah]at h⟩
 |x::args,t,n=>by
  obtain⟨k1,k2⟩:=It x n;obtain⟨g1,g2,g3,g4⟩:=JW args (t+1) (AU n x).2.2;have hm:(AK t n (x::args)).2.2=(AK (t+1) (AU n x).2.2 args).2.2:=rfl;rw[hm];have hother: ∀ {is bs:List Nat},is=(AU n x).2.1.map (·.1)++(Ah (AU n x).2.2 args).1->bs=(Ah (AU n x).2.2 args).2->
    n<=(AK (t+1) (AU n x).2.2 args).2.2/\(∀o∈is,n<=o/\o<(AK (t+1) (AU n x).2.2 args).2.2)/\(∀o∈bs,n<=o/\o<(AK (t+1) (AU n x).2.2 args).2.2)/\ ∀o∈is,o∉bs:=by
   intro is bs h1 h2
   subst h1;subst h2
   refine⟨by omega,fun o h=> ?_,fun o h=> ?_,fun o h h2=> ?_⟩
   ·rcases List.mem_append.1 h with h|h
    ·have:=k2 o h;omega
    ·have:=g2 o h;omega
   ·have:=g3 o h;omega
   ·rcases List.mem_append.1 h with h|h
    ·have:=k2 o h;have:=g3 o h2;omega
    ·exact g4 o h h2
  cases x with
  |pm ls=>
   have ho:Ah n (.pm ls::args)=((Ah (AU n (.pm ls)).2.2 args).1,n::(Ah (AU n (.pm ls)).2.2 args).2):=rfl;have hn:n<(AU n (.pm ls)).2.2:=by
    have:=(BX ls (n+1)).1
    show n<(AW (n+1) ls).2.2
    omega
   rw[ho];refine⟨by omega,fun o h=> ?_,fun o h=> ?_,fun o h h2=> ?_⟩
   ·have:=g2 o h;omega
   ·rcases List.mem_cons.1 h with h|h
    ·omega
    ·have:=g3 o h;omega
   ·rcases List.mem_cons.1 h2 with h3|h3
    ·have:=g2 o h;omega
    ·exact g4 o h h3
  |v l=>exact hother rfl rfl
  |a ls=>exact hother rfl rfl
  |pi ts=>exact hother rfl rfl
  |c f caps=>exact hother rfl rfl
section
variable {P:Program} {fm fm0:Fm} {M:List Nat} {e e' e0:Env} {s s':St} {a:Act} {Q:Exit->Act->World->Prop}
theorem one_ok {xs:List AV} {vs:List Value} (hl:xs.length=vs.length) (h: ∀ (i:Nat) x v,xs[i]? =some x->vs[i]? =some v->AS e x v):AS e (one xs) (Th vs):=by
 match xs,vs with
 |[],[]=>exact .tup [] [] rfl h
 |[x],[v]=>exact h 0 x v rfl rfl
 |x::y::xs,u::v::vs=>exact .tup _ _ hl h
 |[],_::_=>simp at hl
 |[_],[]=>simp at hl
 |[_],_::_::_=>simp at hl
 |_::_::_,[]=>simp at hl
 |_::_::_,[_]=>simp at hl
def GB (m:Nat) (ids bs own:List Nat) (ob os:List (Nat×Obj)) (o:Nat):Option Nat:=
 if o∈ids then some (m+EV o ids 0)else if o∈bs\/o∈own/\DU (Fw ob os ids o)=true then some o else none
def KE (m:Nat) (ids:List Nat) (f:Nat->Option Nat) (j:Nat):Option Nat:=
 if j<m then(if f j=some j then some j else none)else ids[j - m]?
theorem exit_fg {m:Nat} {ids bs own:List Nat} {ob os:List (Nat×Obj)} (hnd:ids.Nodup) (hbs: ∀o∈bs,o<m) (hown: ∀o∈own,o<m):
  (∀o o',GB m ids bs own ob os o=some o'->KE m ids (GB m ids bs own ob os) o'=some o)/\ ∀o o',KE m ids (GB m ids bs own ob os) o'=some o->GB m ids bs own ob os o=some o':=by
 constructor
 ·intro o o' h
  unfold GB at h
  split at h
  ·rename_i ho
   cases h
   unfold KE
   rw[if_neg (by omega),show m+EV o ids 0 - m=EV o ids 0 - 0 by omega]
   exact(FI (i:=0) ho).2
  ·rename_i ho
   split at h
   case isFalse=>cases h
   rename_i hc
   cases h
   have hlt:o<m:=by
    rcases hc with h1|h1
    ·exact hbs o h1
    ·exact hown o h1.1
   unfold KE
   rw[if_pos hlt]
   have:GB m ids bs own ob os o=some o:=by unfold GB;rw[if_neg ho,if_pos hc]
   rw[if_pos this]
 ·intro o o' h
  unfold KE at h
  split at h
  ·split at h
   ·rename_i h1;cases h;exact h1
   ·cases h
  ·rename_i hm
   unfold GB
   rw[if_pos (List.mem_of_getElem? h),Et hnd h]
   congr 1;omega
end
section
variable {P:Program} {fm fm0:Fm} {M:List Nat} {e e' e0:Env} {s s':St} {a:Act} {Q:Exit->Act->World->Prop}
theorem mvL_one (f:Nat->Option Nat) (xs:List AV):(one xs).mv f=one (mvL f xs):=by
 match xs with
 |[]=>rfl
 |[x]=>rfl
 |x::y::xs=>rfl
theorem Ec (os:List (Nat×Obj)): ∀ (is:List Nat) (fs:List (Option (List (List T)))) (o:Nat),o∈(CE os is fs).map (·.1)->o∈is
 |[],_,o,h=>by simp[CE]at h
 |i::is,[],o,h=>by simp[CE]at h
 |i::is,none::fs,o,h=>by
  simp only[CE]at h;exact List.mem_cons_of_mem _ (Ec os is fs o h)
 |i::is,some rows::fs,o,h=>by
  simp only[CE]at h;split at h
  ·rcases List.mem_cons.1 h with h1|h1
   ·have h1:o=i:=h1;rw[h1];exact List.mem_cons_self
   ·exact List.mem_cons_of_mem _ (Ec os is fs o h1)
  ·exact List.mem_cons_of_mem _ (Ec os is fs o h)
theorem L3: ∀ (bs:List Nat) (lss:List (List L)) (n o:Nat),n<=(Bf n bs lss).2/\(o∈(Bf n bs lss).1.map (·.1)->o∈bs\/n<=o/\o<(Bf n bs lss).2)
 |[],_,n,o=>⟨by simp[Bf],fun h=>by simp[Bf]at h⟩
 |b::bs,[],n,o=>⟨by simp[Bf],fun h=>by simp[Bf]at h⟩
 |b::bs,ls::lss,n,o=>by
  obtain⟨k1,k2⟩:=BX ls n;obtain⟨g1,g2⟩:=L3 bs lss (AW n ls).2.2 o
  show n<=(Bf (AW n ls).2.2 bs lss).2/\(o∈b::((AW n ls).2.1++(Bf (AW n ls).2.2 bs lss).1).map (·.1)->o∈b::bs\/n<=o/\o<(Bf (AW n ls).2.2 bs lss).2)
  refine⟨by omega,fun h=> ?_⟩;rcases List.mem_cons.1 h with h|h
  ·rw[h];exact .inl List.mem_cons_self
  ·rw[List.map_append]at h;rcases List.mem_append.1 h with h|h
   ·have:=k2 o h;exact .inr (by omega)
   ·rcases g2 h with h|h
    ·exact .inl (List.mem_cons_of_mem _ h)
    ·exact .inr (by omega)
theorem Qu {l1 l2:List (Nat×Obj)} {o:Nat} (h:AR l2 o= .none):AR (l1++l2) o=AR l1 o:=by
 rw[C9];split
 ·rfl
 ·rename_i h1;rw[h,Ea h1]
theorem G6 {ob:List (Nat×Obj)}: ∀ {bs:List Nat} {lss:List (List L)} {ids:List Nat},EN ob bs=some (lss,ids)-> ∀b∈bs,∃cs,AR ob b= .box cs
 |[],lss,ids,h,b,hb=>by cases hb
 |x::bs,lss,ids,h,b,hb=>by
  simp only[EN]at h;split at h
  case h_2=>cases h
  rename_i cs hcs;split at h
  case h_2=>cases h
  rename_i h1 h2;rcases List.mem_cons.1 hb with rfl|h3
  ·exact⟨cs,hcs⟩
  ·exact G6 h2 b h3
theorem Bi: ∀ (ls:List L) (n o:Nat) (c:List AV),AR (AW n ls).2.1 o≠ .box c
 |[],n,o,c=>by simp[AW,AR]
 | .sc v::ls,n,o,c=>by simpa[AW]using Bi ls n o c
 | .nil v::ls,n,o,c=>by simpa[AW]using Bi ls n o c
 | .im k r::ls,n,o,c=>by simpa[AW]using Bi ls n o c
 | .al i k r::ls,n,o,c=>by simpa[AW]using Bi ls n o c
 | .sh d::ls,n,o,c=>by simpa[AW]using Bi ls n o c
 | .own k r::ls,n,o,c=>by
  show (if o=n then Obj.arr k r else AR (AW (n+1) ls).2.1 o)≠ .box c
  split
  ·simp
  ·exact Bi ls (n+1) o c
theorem H6: ∀ (args:List Arg) (t n o:Nat),(∃c,AR (AK t n args).2.1 o= .box c)<->o∈(Ah n args).2
 |[],t,n,o=>by simp[AK,Ah,AR]
 |x::args,t,n,o=>by
  have ih:=H6 args (t+1) (AU n x).2.2 o;obtain⟨k1,k2⟩:=It x n;obtain⟨_,_,g3,_⟩:=JW args (t+1) (AU n x).2.2;have hos:(AK t n (x::args)).2.1=(AU n x).2.1++(AK (t+1) (AU n x).2.2 args).2.1:=rfl;rw[hos,C9];have hother: ∀ {bs:List Nat},bs=(Ah (AU n x).2.2 args).2->(∀c,AR (AU n x).2.1 o≠ .box c)->
    ((∃c,(if o∈(AU n x).2.1.map (·.1)then AR (AU n x).2.1 o else AR (AK (t+1) (AU n x).2.2 args).2.1 o)= .box c)<->o∈bs):=by
   intro bs h1 h2
   subst h1
   split
   ·rename_i hk
    refine⟨fun⟨c,hc⟩=>absurd hc (h2 c),fun h=> ?_⟩
    have:=g3 o h;have:=k2 o hk;omega
   ·exact ih
  cases x with
  |pm ls=>
   have ho:(Ah n (.pm ls::args)).2=n::(Ah (AU n (.pm ls)).2.2 args).2:=rfl;have hox:(AU n (.pm ls)).2.1=(n,.box (AW (n+1) ls).1)::(AW (n+1) ls).2.1:=rfl;rw[ho];by_cases hon:o=n
   ·subst hon;rw[hox];simp[AR]
   ·split
    ·rename_i hk;refine⟨fun⟨c,hc⟩=> ?_,fun h=> ?_⟩
     ·rw[hox]at hc;simp only[AR,if_neg hon]at hc;exact absurd hc (Bi ls (n+1) o c)
     ·rcases List.mem_cons.1 h with h|h
      ·exact absurd h hon
      ·have:=g3 o h;have:=k2 o hk;omega
    ·rw[ih];simp[hon]
  |v l=>exact hother rfl (fun c=>by simpa[AU]using Bi [l] n o c)
  |a ls=>exact hother rfl (fun c=>by simpa[AU]using Bi ls n o c)
  |pi ts=>exact hother rfl (fun c=>by simp[AU,AR])
  |c f caps=>exact hother rfl (fun c=>by simp[AU,AR])
theorem PZ {args:List Arg} {ws:List Value} {res:List RP} {fn:Func} {r:Res} (hE:JI fm e0 args ws) (hR:Rel fm e s a) (hm:s.m=(AK 0 0 args).2.2)
  (hr:Ca P fn.results.toList=some res) (h:KB res args s=some r): ∃v e',(results fn a.tmps).run P e.w= .ok v e.w/\e'.w=e.w/\Mo fm e0 args r e' v:=by
 unfold KB at h
 split at h
 case h_2=>cases h
 rename_i xs hxs
 split at h
 case h_2=>cases h
 rename_i h0 hroots
 split at h
 case h_2=>cases h
 rename_i h1 hboxes
 split at h
 case h_2=>cases h
 rename_i pfin is out js hcb hcr
 split at h
 case isFalse=>cases h
 rename_i hchk
 simp only[Option.some.injEq]at h
 subst h
 simp only[Bool.and_eq_true]at hchk
 obtain⟨hnd,hdis⟩:=hchk
 have hnd:=Fp hnd
 have hdis: ∀b∈(Ah 0 args).2,b∉is++js:=fun b hb=>by have:=List.all_eq_true.1 hdis b hb;simpa using this
 obtain⟨vs,v1,v2,v3⟩:=Qc hR hr hxs
 obtain⟨f1,f2⟩:=OQ v2 v3
 have hH:CN fm e {s,l:=BF xs} a (DA xs vs):=⟨hR,f1,f2⟩
 obtain⟨e1,y1,y2,y3,y4,y5,_⟩:=JS hH hroots
 obtain⟨e2,z1,z2,z3,z4,z5⟩:=In y3 hboxes
 obtain⟨o1,o2,o3,o4⟩:=JW args 0 0
 have hmm:h1.s.m=(AK 0 0 args).2.2:=z5.trans (y5.trans hm)
 obtain⟨q1,q2⟩:=exit_fg (ob:=h1.s.ob) (os:=(AK 0 0 args).2.1) (bs:=(Ah 0 args).2) (own:=(Ah 0 args).1) (m:=(AK 0 0 args).2.2) hnd (fun o ho=>(o3 o ho).2) (fun o ho=>(o2 o ho).2)
 generalize hf:GB (AK 0 0 args).2.2 (is++js) (Ah 0 args).2 (Ah 0 args).1 h1.s.ob (AK 0 0 args).2.1=f at q1 q2
 generalize hg:KE (AK 0 0 args).2.2 (is++js) f=g at q1 q2
 have hMem:=TP z3.rel.mem (f:=f) (g:=g) (fun o o' h _=>q1 o o' h) q2
 have hC:=N6 z3.rel.mem (f:=f) (g:=g) (fun o o' h _=>q1 o o' h)
 have hids: ∀ (i:Nat) o,(is++js)[i]? =some o->f o=some ((AK 0 0 args).2.2+i):=fun i o hi=>by
  rw[←hf];unfold GB;rw[if_pos (List.mem_of_getElem? hi),Et hnd hi];simp
 obtain⟨b1,b2⟩:=KF (f:=f) hcb (HY hids) (fun b hb=>(o3 b hb).2)
 have b3:=Mr (f:=f) hcr (n:=(AK 0 0 args).2.2+is.length) (Fb hids)
 have hexit:Cd args {out,pfin,fin:=(Ah 0 args).1.map (I4 h1.s.ob (AK 0 0 args).2.1 (is++js))}=
   (mvL f (BQ (Ct xs) h1.l),CE (AK 0 0 args).2.1 (Ah 0 args).1 ((Ah 0 args).1.map (I4 h1.s.ob (AK 0 0 args).2.1 (is++js)))++(Bf (AK 0 0 args).2.2 (Ah 0 args).2 pfin).1++mvO f h1.s.ob ((AK 0 0 args).2.2+is.length) js):=by
  simp only[Cd,b1,b3]
 have hgo: ∀o,(e2.ren f g).ob o=match g o with
   |some x=>(AR h1.s.ob x).mv f
   |none=> .none:=fun o=>by
  simp only[Env.ren]
  cases g o with
  |none=>rfl
  |some x=>simp only[z3.rel.ob]
 have hfo: ∀o,o<(AK 0 0 args).2.2->g o=if f o=some o then some o else none:=fun o ho=>by
  rw[←hg];simp only[KE,if_pos ho]
 have hob: ∀o,(e2.ren f g).ob o=AR (Cd args {out,pfin,fin:=(Ah 0 args).1.map (I4 h1.s.ob (AK 0 0 args).2.1 (is++js))}).2 o:=by
  intro o;rw[hgo,hexit];simp only;by_cases ho:o<(AK 0 0 args).2.2
  ·rw[hfo o ho,Jg (fun h=>by have:=FN _ _ _ _ _ h;omega)];have hB:o∉(Ah 0 args).2->AR (Bf (AK 0 0 args).2.2 (Ah 0 args).2 pfin).1 o= .none:=fun h=>by
    rw[b2,if_neg h];exact Ea fun h=>by have:=FN _ _ _ _ _ h;omega
   have hfv:f o=if o∈is++js then some ((AK 0 0 args).2.2+EV o (is++js) 0)else if o∈(Ah 0 args).2\/o∈(Ah 0 args).1/\DU (Fw h1.s.ob (AK 0 0 args).2.1 (is++js) o)=true then some o else none:=by
    rw[←hf];rfl
   by_cases hw:o∈(Ah 0 args).1
   ·rw[Qu (hB (o4 o hw)),Nf,if_pos hw,hfv];by_cases hi:o∈is++js
    ·rw[if_pos hi,if_neg (by simp;omega)];simp only[Fw];rw[if_pos (by simpa using hi)]
    ·rw[if_neg hi];by_cases hx:DU (Fw h1.s.ob (AK 0 0 args).2.1 (is++js) o)=true
     ·rw[if_pos (show o∈(Ah 0 args).2\/o∈(Ah 0 args).1/\DU (Fw h1.s.ob (AK 0 0 args).2.1 (is++js) o)=true from .inr ⟨hw,hx⟩)];simp only[if_true];unfold Fw at hx ⊢;rw[if_neg (by simpa using hi)]at hx ⊢;split at hx
      ·rename_i k r k' r' e1' e2';split at hx
       ·rename_i hk;simp[e1',hk,Obj.mv]
       ·cases hx
      ·cases hx
     ·have hn: ¬ (o∈(Ah 0 args).2\/o∈(Ah 0 args).1/\DU (Fw h1.s.ob (AK 0 0 args).2.1 (is++js) o)=true):=by simp[o4 o hw,hx]
      rw[if_neg hn];simp only[reduceCtorEq,if_false]
      cases hz:Fw h1.s.ob (AK 0 0 args).2.1 (is++js) o with
      |none=>rfl
      |box _=>simp[hz,DU]at hx
      |arr _ _=>simp[hz,DU]at hx
   ·rw[EZ (fun h=>hw (Ec _ _ _ _ h)),hfv];by_cases hbb:o∈(Ah 0 args).2
    ·rw[if_neg (hdis o hbb),if_pos (show o∈(Ah 0 args).2\/o∈(Ah 0 args).1/\DU (Fw h1.s.ob (AK 0 0 args).2.1 (is++js) o)=true from .inl hbb),b2,if_pos hbb];simp only[if_true]
    ·rw[hB hbb];by_cases hi:o∈is++js
     ·rw[if_pos hi,if_neg (by simp;omega)]
     ·have hn: ¬ (o∈(Ah 0 args).2\/o∈(Ah 0 args).1/\DU (Fw h1.s.ob (AK 0 0 args).2.1 (is++js) o)=true):=by simp[hbb,hw]
      rw[if_neg hi,if_neg hn];simp only[reduceCtorEq,if_false]
  ·have hgv:g o=(is++js)[o - (AK 0 0 args).2.2]? :=by rw[←hg];simp only[KE,if_neg ho]
   rw[hgv,List.append_assoc,EZ (fun h=>ho (o2 o (Ec _ _ _ _ h)).2)];have hbb:o∉(Ah 0 args).2:=fun h=>ho (o3 o h).2
   have hmv:AR (mvO f h1.s.ob (AK 0 0 args).2.2 (is++js)) o=match (is++js)[o - (AK 0 0 args).2.2]? with
    |some x=>(AR h1.s.ob x).mv f
    |none=> .none:=by
    rw[I3,if_pos (by omega)]
    cases (is++js)[o - (AK 0 0 args).2.2]? <;>rfl
   rw[←hmv,C4];by_cases hlt:o<(AK 0 0 args).2.2+is.length
   ·have hC0:o∉(mvO f h1.s.ob ((AK 0 0 args).2.2+is.length) js).map (·.1):=fun h=>by have:=FN _ _ _ _ _ h;omega
    rw[Jg hC0,Jg hC0,b2,if_neg hbb]
   ·have hA0:o∉(mvO f h1.s.ob (AK 0 0 args).2.2 is).map (·.1):=fun h=>by have:=FN _ _ _ _ _ h;omega
    rw[EZ hA0,EZ (fun h=>by
     rcases(L3 _ _ _ _).2 h with h2|h2
     ·exact hbb h2
     ·rw[b1]at h2;omega)]
 have hgo': ∀o,o<(AK 0 0 args).2.2->(e2.ren f g).ob o≠ .none->g o=some o/\o∉is++js/\(o∈(Ah 0 args).2\/o∈(Ah 0 args).1/\DU (Fw h1.s.ob (AK 0 0 args).2.1 (is++js) o)=true):=fun o ho hx=>by
  have h2:=hfo o ho;by_cases h3:f o=some o
  ·rw[if_pos h3]at h2;refine⟨h2,?_⟩;rw[←hf]at h3;unfold GB at h3;split at h3
   ·simp at h3;omega
   ·rename_i h4;split at h3
    ·rename_i h5;exact⟨h4,h5⟩
    ·cases h3
  ·rw[if_neg h3]at h2;rw[hgo,h2]at hx;exact absurd rfl hx
 refine⟨_,e2.ren f g,v1,z1.trans y1,hMem,hob,fun o k rows ho hx=> ?_,fun o c0 ho hx=> ?_,fun o c ho hx=> ?_,?_⟩
 ·obtain⟨w1,w2,w3⟩:=hgo' o ho (by rw[hx];simp)
  have hx2:=hx
  rw[hgo,w1]at hx2
  simp only at hx2
  have hob2:AR h1.s.ob o= .arr k rows:=by cases hh:AR h1.s.ob o<;>simp[hh,Obj.mv]at hx2;simp[hx2]
  have hhd:(e2.ren f g).hd o []=e2.hd o []:=by simp[Env.ren,w1]
  refine⟨?_,?_⟩
  ·rw[hhd,z3.rel.pinh o k rows (by rw[hmm];exact ho) (by rw[z3.rel.ob];exact hob2),hE.H]
  ·rcases w3 with w3|⟨_,w4⟩
   ·obtain⟨c,hc⟩:=G6 hcb o w3
    rw[hc]at hob2;cases hob2
   ·unfold Fw at w4
    rw[if_neg (by simpa using w2),hob2]at w4
    split at w4
    ·rename_i k1 r1 k2 r2 e1' e2'
     cases e1'
     split at w4
     ·rename_i hk;subst hk;exact⟨r2,by rw[hE.ob];exact e2'⟩
     ·cases w4
    ·cases w4
 ·rw[hE.ob]at hx
  have hb:=(H6 args 0 0 o).1 ⟨c0,hx⟩
  have hgo2:g o=some o:=by
   rw[hfo o ho,if_pos];rw[←hf];unfold GB;rw[if_neg (hdis o hb),if_pos (.inl hb)]
  obtain⟨cs,hcs⟩:=G6 hcb o hb
  refine⟨mvL f cs,by rw[hgo,hgo2];simp only[hcs,Obj.mv],?_⟩
  have hbk:(e2.ren f g).bk o=e2.bk o:=by simp[Env.ren,hgo2]
  rw[hbk,z3.rel.pinb o cs (by rw[hmm];exact ho) (by rw[z3.rel.ob];exact hcs),hE.B]
 ·obtain⟨w1,w2,w3⟩:=hgo' o ho (by rw[hx];simp)
  rw[hgo,w1]at hx
  simp only at hx
  rcases w3 with w3|⟨_,w4⟩
  ·obtain⟨c0,hc0⟩:=(H6 args 0 0 o).2 w3
   exact⟨c0,by rw[hE.ob];exact hc0⟩
  ·unfold Fw at w4
   rw[if_neg (by simpa using w2)]at w4
   split at w4
   ·rename_i k1 r1 k2 r2 e1' e2'
    rw[e1']at hx
    simp[Obj.mv]at hx
   ·cases w4
 ·rw[hexit]
  simp only
  rw[←mvL_one]
  have hul:h1.l.length=(DA xs vs).length:=z3.len
  obtain⟨t1,t2⟩:=HC (e0:=e2) v2 v3 hul z3.ok
  exact(one_ok (e:=e2) (t1.trans v2) t2).mv hC (.inr fun b hb=>⟨hb,rfl⟩) (.inr ⟨rfl,fun b hb=>⟨hb,rfl⟩⟩)
end
section
variable {P:Program} {fm fm0:Fm} {M:List Nat} {e e' e0:Env} {s s':St} {a:Act} {Q:Exit->Act->World->Prop}
variable {K:Nat->List Arg->Option Res} {md:Nat->List Nat}
def SC (md:Nat->List Nat) (s:St) (M:List Nat):I->Prop
 | .store _ _ x _=> ∀y∈tgt (ev s.tm x),y∈M
 | .app _ _ _ x _=> ∀y∈FE (ev s.tm x),y∈M
 | .app0 _ _ _ _ x _=> ∀y∈FE (ev s.tm x),y∈M
 | .cpy _ x _=> ∀y∈FE (ev s.tm x),y∈M
 | .clr _ _ x=> ∀y∈FE (ev s.tm x),y∈M
 | .call o f xs=>KN s.ob (md f) (xs.map (ev s.tm)) o M
 | .callc o f xs cs=>Up s (md f) (xs.map (ev s.tm)) o cs M
 | .callv o x xs=> ∀f caps,ev s.tm x= .clo f caps->KN s.ob (md f) (xs.map (ev s.tm)++caps) o M
 |_=>True
structure Out (P:Program) (fm:Fm) (e:Env) (M:List Nat) (s:St) (o:Oper) (a:Act) (s':St) (Q:Exit->Act->World->Prop) (i:I):Prop where
 yl:PC i=true->Yl P e s o a s'
 wp:o.wp P a e.w (Reach fm e M s') Q
 ld:I0 i=true->Ldl P e s o a s' i
theorem DD (hR:Rel fm e s a) {o:Oper} {i:I} (h:Yl P e s o a s') (hl:I0 i=false:=by rfl):Out P fm e M s o a s' Q i:=
 ⟨fun _=>h,h.wp hR Q,fun h=>(by rw[hl]at h;cases h)⟩
theorem loud {o:Oper} {i:I} (h:o.wp P a e.w (Reach fm e M s') Q) (hi:PC i=false:=by rfl) (hl:I0 i=false:=by rfl):Out P fm e M s o a s' Q i:=
 ⟨fun h=>(by rw[hi]at h;cases h),h,fun h=>(by rw[hl]at h;cases h)⟩
theorem NN {α:Type} {l:Array α} {x:α} (h:l.toList=[x]):l= #[x]:=by
 have:l=l.toList.toArray:=by simp
 rw[this,h]
theorem J9 {α:Type} {l:Array α} {x y:α} (h:l.toList=[x,y]):l= #[x,y]:=by
 have:l=l.toList.toArray:=by simp
 rw[this,h]
theorem Eh {c:Call} {f:Callee} {args:Array Operand} {ts:Array TypeId} (h1:c.callee=f) (h2:c.args=args) (h3:c.argTypes=ts):c={callee:=f,args:=args,argTypes:=ts}:=by
 cases c;simp_all
theorem R8 {α:Type} {l:Array α} {i:Nat} {x:α} (h:l[i]? =some x):l.toList[i]? =some x:=by simpa using h
theorem PD (hR:Rel fm e s a) (hK:KOk P K) {h:AI} {b:Nat} {o:Oper} {c:Call} {i:I} (ho:o.op= .call c) (hp:Iq P h b c=some i) (hM:SC md s M i)
  (hs:Aa K md s o.dst i=some s'):Out P fm e M s o a s' Q i:=by
 unfold Iq at hp
 split at hp
 ·rename_i f hc
  split at hp
  ·cases hx:GN P c.argTypes.toList c.args.toList with
   |none=>simp[hx]at hp
   |some Xs=>simp only[hx,Option.map_some,Option.some.injEq]at hp;subst hp;exact loud (op_call hR hK ho hc hx hM hs)
  ·cases hx:GN P c.argTypes.toList c.args.toList with
   |none=>simp[hx]at hp
   |some Xs=>simp only[hx,Option.map_some,Option.some.injEq]at hp;subst hp;exact loud (Te hR hK ho hc hx hM hs)
 ·rename_i t hc
  cases hx:GN P c.argTypes.toList c.args.toList with
  |none=>simp[hx]at hp
  |some Xs=>simp only[hx,Option.map_some,Option.some.injEq]at hp;subst hp;exact loud (Td hR hK ho hc hx (fun f caps h1=>hM f caps h1) hs)
 ·rename_i hc
  split at hp
  case h_2=>cases hp
  rename_i t x h1 h2
  have hcc:=Eh hc (NN h2) (NN h1)
  subst hcc
  split at hp
  ·cases hx:xOf P t x with
   |none=>simp[hx]at hp
   |some X=>simp only[hx,Option.map_some,Option.some.injEq]at hp;subst hp;exact DD hR (op_slen hR ho ‹_› hx hs)
  ·cases hx:xOf P t x with
   |none=>simp[hx]at hp
   |some X=>simp only[hx,Option.map_some,Option.some.injEq]at hp;subst hp;exact DD hR (op_len hR ho ‹_› hx hs)
  ·cases hp
 ·rename_i hc
  split at hp
  case h_2=>cases hp
  rename_i t t2 x y h1 h2
  have hcc:=Eh hc (J9 h2) (J9 h1)
  subst hcc
  split at hp
  ·rename_i el e2 ht ht2
   split at hp
   case isFalse=>cases hp
   rename_i he
   subst he
   split at hp
   case h_2=>cases hp
   rename_i k bb aa cc hk hb ha hc2
   split at hp
   case isFalse=>cases hp
   rename_i hz
   simp only[Option.some.injEq]at hp;subst hp
   exact loud (op_app hR ho ht ht2 hk hb hz ha hc2 hM hs)
  ·rename_i el k2 ht ht2
   split at hp
   case h_2=>cases hp
   rename_i k bb z aa cc hk hb hz ha hc2
   simp only[Option.some.injEq]at hp;subst hp
   cases hzz:BW P el with
   |none=>simp[hzz]at hz
   |some zs=>
    simp only[hzz,Option.bind_some]at hz;exact loud (op_app0 hR ho ht ht2 hk hb hzz hz ha hc2 hM hs)
  ·cases hp
 ·rename_i hc
  split at hp
  case h_2=>cases hp
  rename_i t x h1 h2
  have hcc:=Eh hc (NN h2) (NN h1)
  subst hcc
  split at hp
  ·cases hx:xOf P t x with
   |none=>simp[hx]at hp
   |some X=>simp only[hx,Option.map_some,Option.some.injEq]at hp;subst hp;exact DD hR (op_cap0 hR ho ‹_› hx hs)
  ·cases hp
 ·rename_i hc
  split at hp
  case h_2=>cases hp
  rename_i t t2 x y h1 h2
  have hcc:=Eh hc (J9 h2) (J9 h1)
  subst hcc
  split at hp
  case h_2=>cases hp
  rename_i el e2 ht ht2
  split at hp
  case isFalse=>cases hp
  split at hp
  case h_2=>cases hp
  rename_i k aa cc hk ha hc2
  simp only[Option.some.injEq]at hp;subst hp
  exact loud (op_cpy hR ho ht hk ha hc2 hM hs)
 ·rename_i hc
  split at hp
  case h_2=>cases hp
  rename_i t x h1 h2
  have hcc:=Eh hc (NN h2) (NN h1)
  subst hcc
  split at hp
  case h_2=>cases hp
  rename_i el ht
  split at hp
  case h_2=>cases hp
  rename_i k z aa hk hz ha
  simp only[Option.some.injEq]at hp;subst hp
  exact loud (op_clr hR ho ht hk hz ha hM hs)
 ·rename_i hc
  split at hp
  case h_2=>cases hp
  rename_i t t2 x y h1 h2
  have hcc:=Eh hc (J9 h2) (J9 h1)
  subst hcc
  split at hp
  case h_2=>cases hp
  rename_i k aa cc hk ha hc2
  simp only[Option.some.injEq]at hp;subst hp
  exact DD hR (op_mm (mx:=true) hR ho ha hc2 hs)
 ·rename_i hc
  split at hp
  case h_2=>cases hp
  rename_i t t2 x y h1 h2
  have hcc:=Eh hc (J9 h2) (J9 h1)
  subst hcc
  split at hp
  case h_2=>cases hp
  rename_i k aa cc hk ha hc2
  simp only[Option.some.injEq]at hp;subst hp
  exact DD hR (op_mm (mx:=false) hR ho ha hc2 hs)
 ·cases hp
end
section
variable {P:Program} {fm fm0:Fm} {M:List Nat} {e e' e0:Env} {s s':St} {a:Act} {Q:Exit->Act->World->Prop}
variable {K:Nat->List Arg->Option Res} {md:Nat->List Nat}
theorem BS {α β:Type} {f:α->β} {x:Option α} {y:β} (h:x.map f=some y): ∃z,x=some z/\f z=y:=by
 cases x with
 |none=>simp at h
 |some z=>exact⟨z,rfl,by simpa using h⟩
theorem NH (hR:Rel fm e s a) (hK:KOk P K) {h:AI} {b:Nat} {o:Oper} {op:Op} {i:I} (ho:o.op=op) (hp:Bh P h b o.type op=some i) (hM:SC md s M i)
  (hs:Aa K md s o.dst i=some s'):Out P fm e M s o a s' Q i:=by
 cases op with
 |move x=>
  obtain⟨X,hx,rfl⟩:=BS hp;exact DD hR (OB hR (.inl ho) hx hs)
 |assign x=>
  obtain⟨X,hx,rfl⟩:=BS hp;exact DD hR (OB hR (.inr ho) hx hs)
 |pick c x y=>
  simp only[Bh]at hp;split at hp
  case h_2=>cases hp
  rename_i h1 h2 h3;simp only[Option.some.injEq]at hp;subst hp;exact DD hR (op_pick hR ho h1 h2 h3 hs)
 |alloc t=>
  obtain⟨X,hx,rfl⟩:=BS hp;exact loud (op_new hR ho hx hs)
 |box t x=>
  obtain⟨X,hx,rfl⟩:=BS hp;exact loud (op_box hR ho hx hs)
 |build t parts=>
  simp only[Bh]at hp;split at hp
  ·rename_i fs z ht hz;split at hp
   case isFalse=>cases hp
   rename_i hall;obtain⟨ps,hps,rfl⟩:=BS hp;exact DD hR (op_bldS hR ho ht hz hall hps hs)
  ·rename_i el z ht hz;split at hp
   case h_2=>cases hp
   rename_i k hk;obtain⟨ps,hps,rfl⟩:=BS hp;exact DD hR (op_bldA hR ho ht hz hk hps hs)
  ·cases hp
 |buildSlice t len parts=>
  simp only[Bh]at hp;split at hp
  case h_2=>cases hp
  rename_i el ht;split at hp
  case h_2=>cases hp
  rename_i k hk;split at hp
  case isFalse=>cases hp
  rename_i hc;obtain⟨h1,h2,h3⟩:=hc;obtain⟨ps,hps,rfl⟩:=BS hp;exact loud (op_bsl hR ho ht hk h3 h1 h2 hps hs)
 |load t x=>
  simp only[Bh]at hp;split at hp
  case h_2=>cases hp
  rename_i n X hn hx;simp only[Option.some.injEq]at hp;split at hp
  ·subst hp;exact loud (op_take hR ho hn hx hs)
  ·subst hp;exact(fun h=>⟨fun h1=>(by cases h1),h.wp hR Q,fun _=>h⟩:Ldl P e s o a s' _->Out P fm e M s o a s' Q _) (op_load hR ho hn hx hs)
 |store t x v=>
  simp only[Bh]at hp;split at hp
  ·rename_i X V hn hx hv;split at hp
   case isFalse=>cases hp
   rename_i h1;simp only[Option.some.injEq]at hp;subst hp;exact loud (PH hR ho hn (fun _=>h1) hx hv hM hs)
  ·rename_i n X V hn hx hv;simp only[Option.some.injEq]at hp;subst hp;exact loud (PH hR ho hn (fun h=>by cases h) hx hv hM hs)
  ·cases hp
 |nilCheck x=>
  obtain⟨X,hx,rfl⟩:=BS hp;exact DD hR (op_nchk hR ho hx hs)
 |binOp op t x y t2=>
  simp only[Bh]at hp;split at hp
  ·rename_i ht;split at hp
   ·rename_i h1 h2;simp only[Option.some.injEq]at hp;subst hp;exact DD hR (Tg hR ho h1 h2 ht hs)
   ·rename_i h1 h2;simp only[Option.some.injEq]at hp;subst hp;exact DD hR (Tg hR ho h1 h2 ht hs)
   ·cases hp
  ·rename_i k ht;split at hp
   case h_2=>cases hp
   rename_i X Y h1 h2;simp only[Option.some.injEq]at hp;subst hp;exact DD hR (Tf hR ho h1 h2 hs)
  ·rename_i ht;split at hp
   case h_2=>cases hp
   rename_i X Y h1 h2;simp only[Option.some.injEq]at hp;subst hp;exact DD hR (Tf hR ho h1 h2 hs)
  ·cases hp
 |unOp op t x=>
  simp only[Bh]at hp;split at hp
  case h_2=>cases hp
  rename_i X hx;simp only[Option.some.injEq]at hp;subst hp;exact DD hR (op_un hR ho hx hs)
 |convert t u x=>
  simp only[Bh]at hp;split at hp
  ·rename_i h1 h2 h3;simp only[Option.some.injEq]at hp;subst hp;exact DD hR (Tc hR ho h1 h2 h3 hs)
  ·rename_i h1 h2 h3;simp only[Option.some.injEq]at hp;subst hp;exact DD hR (Tb hR ho h1 h2 h3 hs)
  ·rename_i h1 h2 h3;split at hp
   case h_2=>cases hp
   rename_i h4;simp only[Option.some.injEq]at hp;subst hp;exact loud (op_b2s hR ho h1 h4 h2 h3 hs)
  ·cases hp
 |makeSlice t len cap=>
  simp only[Bh]at hp;split at hp
  case h_2=>cases hp
  rename_i el ht;split at hp
  case h_2=>cases hp
  rename_i k z bb X hk hz hb hx;split at hp
  case isFalse=>cases hp
  rename_i hsx;simp only[Option.some.injEq]at hp;subst hp;exact loud (op_mk hR ho ht hk hz hb hsx hx hs)
 |slice t x lo hi mx=>
  simp only[Bh]at hp;split at hp
  ·rename_i h1 h2 h3 h4;simp only[Option.some.injEq]at hp;subst hp;exact DD hR (op_sls hR ho h1 h2 h3 h4 hs)
  ·rename_i h1 h2 h3 h4;obtain⟨k,hk,rfl⟩:=BS hp;exact DD hR (op_sl hR ho h1 hk h2 h3 h4 hs)
  ·rename_i h1 h2 h3;split at hp
   case h_2=>cases hp
   split at hp
   case isFalse=>cases hp
   rename_i hz;simp only[Bool.and_eq_true]at hz;obtain⟨k,hk,rfl⟩:=BS hp
   cases lo with
   |none=>exact DD hR (op_sl0 hR ho h1 hk rfl hz.1 hz.2 h2 hs)
   |some l=>cases h4:xOf P o.type l<;>simp[ox,h4]at h3
  ·cases hp
 |fieldAddr t x f=>
  simp only[Bh]at hp;split at hp
  case h_2=>cases hp
  rename_i fs ht;split at hp
  case h_2=>cases hp
  rename_i fd X hf hx;split at hp
  ·rename_i m hm;simp only[Option.some.injEq]at hp;subst hp;exact DD hR (op_fa hR ho ht (R8 hf) hm hx hs)
  ·cases hp
 |field t x f=>
  simp only[Bh]at hp;split at hp
  case h_2=>cases hp
  rename_i fs ht;split at hp
  case h_2=>cases hp
  rename_i fd X hf hx;obtain⟨n,hn,rfl⟩:=BS hp;exact DD hR (op_fld hR ho ht (R8 hf) hn hx hs)
 |indexAddr t x j=>
  simp only[Bh]at hp;split at hp
  ·rename_i h1 h2 h3;obtain⟨k,hk,rfl⟩:=BS hp;exact DD hR (op_ia hR ho h1 hk h2 h3 hs)
  ·rename_i h1 h2 h3;obtain⟨k,hk,rfl⟩:=BS hp;exact DD hR (op_iaa hR ho h1 hk h2 h3 hs)
  ·cases hp
 |index t x j=>
  simp only[Bh]at hp;split at hp
  case h_2=>cases hp
  rename_i h1 h2 h3;simp only[Option.some.injEq]at hp;subst hp;exact DD hR (op_ixs hR ho h1 h2 h3 hs)
 |extract x j=>
  obtain⟨X,hx,rfl⟩:=BS hp;exact DD hR (op_ext hR ho hx hs)
 |call c=>exact PD hR hK ho hp hM hs
 |makeFunc f first caps=>
  cases f with
  |func f=>
   simp only[Bh]at hp;split at hp
   case isFalse=>cases hp
   rename_i hf;obtain⟨X,hx,rfl⟩:=BS hp;have hf:=Array.eq_empty_of_size_eq_zero hf;subst hf;exact DD hR (op_fn hR ho hx hs)
  |_=>simp[Bh]at hp
 |makeInterface t x=>simp only[Bh,Option.some.injEq]at hp;subst hp;simp[Aa]at hs
 |panic x=>simp only[Bh,Option.some.injEq]at hp;subst hp;simp[Aa]at hs
 |_=>simp[Bh]at hp
end
section
variable {P:Program} {fm fm0:Fm} {M:List Nat} {e e' e0:Env} {s s':St} {a:Act} {Q:Exit->Act->World->Prop}
variable {K:Nat->List Arg->Option Res} {md:Nat->List Nat}
theorem SV {cells:List AV} {y:AV} (h:y∈cells) {o:Nat} (ho:o∈Aw y):o∈H5 cells:=by
 obtain⟨i,hi⟩:=List.getElem?_of_mem h;exact H4 hi o ho
theorem Du {ob:List (Nat×Obj)}: ∀ {ms:List Nat} {xs:List AV} {i m:Nat} {x:AV},ms[i]? =some m->xs[i]? =some x-> ∀o∈FM ob m x,o∈HM ob ms xs
 |[],_,i,m,x,h,_,o,_=>by simp at h
 |_::_,[],i,m,x,_,h,o,_=>by simp at h
 |n::ms,y::xs,0,m,x,h,h2,o,ho=>by
  simp only[List.getElem?_cons_zero,Option.some.injEq]at h h2;subst h;subst h2;exact List.mem_append_left _ ho
 |n::ms,y::xs,i+1,m,x,h,h2,o,ho=>by
  simp only[List.getElem?_cons_succ]at h h2;exact List.mem_append_right _ (Du h h2 o ho)
theorem La: ∀ {n j b:Nat},j<n->b+j∈Tl b n
 |0,j,b,h=>absurd h (by omega)
 |n+1,0,b,_=>List.mem_cons_self
 |n+1,j+1,b,h=>by
  have:=La (n:=n) (j:=j) (b:=b+1) (by omega);rw[show b+1+j=b+(j+1)by omega]at this;exact List.mem_cons_of_mem _ this
theorem G8 (ob:List (Nat×Obj)) (ms:List Nat) (xs:List AV) (base:Nat) {M:List Nat} (hM: ∀o∈G9 ob ms xs base,o∈M):KN ob ms xs base M:=by
 refine⟨fun j hj=>hM _ (List.mem_append_left _ (La hj)),fun i m x h1 h2 h3 o ho=> ?_,fun i m b j h1 h2 h3=>⟨?_,fun cells hc y hy o ho=> ?_⟩⟩
 ·refine hM _ (List.mem_append_right _ (Du h1 h3 o ?_));unfold FM;rw[if_neg h2];exact List.mem_append_left _ ho
 ·refine hM _ (List.mem_append_right _ (Du h1 h3 b ?_));unfold FM;rw[if_neg h2];exact List.mem_append_right _ List.mem_cons_self
 ·refine hM _ (List.mem_append_right _ (Du h1 h3 o ?_));unfold FM;rw[if_neg h2];refine List.mem_append_right _ (List.mem_cons_of_mem _ ?_);simp only[hc];exact SV hy ho
theorem OP (md:Nat->List Nat) (s:St) (i:I) {M:List Nat} (hM: ∀o∈Lw md s i,o∈M):SC md s M i:=by
 cases i with
 |store o n x v=>exact hM
 |app o k b x y=>exact hM
 |app0 o k b z x y=>exact hM
 |cpy k x y=>exact hM
 |clr k z x=>exact hM
 |call o f xs=>exact G8 _ _ _ _ hM
 |callv o x xs=>
  intro f caps h;refine G8 _ _ _ _ fun o' ho'=>hM _ ?_
  simp only[Lw,h];exact ho'
 |callc o f xs cs=>
  refine⟨fun j hj=>hM _ (List.mem_append_left _ (La hj)),fun i hi x hx o' ho'=> ?_,fun h hh=>G8 _ _ _ _ fun o' ho'=>hM _ ?_⟩
  ·refine hM _ (List.mem_append_right _ (List.mem_append_left _ (List.mem_flatMap.2 ⟨i,hi,?_⟩)));simp only[hx];exact ho'
  ·refine List.mem_append_right _ (List.mem_append_right _ ?_);simp only[hh];exact ho'
 |_=>trivial
theorem A7 {α:Type} {c:Prop} [Decidable c] {x:Option α} {y:α} (h:(if c then x else none)=some y):c/\x=some y:=by
 split at h
 ·exact⟨‹_›,h⟩
 ·cases h
theorem GW (hR:Rel fm e s a) (hK:KOk P K) {h:AI} {n r i:Nat} {ops:Array Oper} {o:Oper} {ins:Ins} (hp:CK P h n r ops i o=some ins)
  (hM:SC md s M ins.op) (hs:Er K md ins s=some s'):
  ins.d=o.dst/\if Region.wanted o (yielded ops a.tmps)then Out P fm e M s o a s' Q ins.op else s.put o.dst .und=some s':=by
 unfold CK at hp
 split at hp
 case h_1=>cases hp
 rename_i i' hop
 have hp:=(A7 hp).2
 split at hp
 ·rename_i hg
  simp only[Option.some.injEq]at hp
  subst hp
  refine⟨rfl,?_⟩
  simp only[Region.wanted,hg,if_true]
  simp only[Er]at hs
  exact NH hR hK rfl hop hM hs
 ·rename_i j b hg
  split at hp
  case h_2=>cases hp
  rename_i t ht
  split at hp
  case isFalse=>cases hp
  rename_i hlt
  simp only[Option.some.injEq]at hp
  subst hp
  refine⟨rfl,?_⟩
  simp only[Er]at hs
  obtain⟨hlt2,hs⟩:=A7 hs
  have hsz:t<a.tmps.size:=by rw[hR.size];exact hlt2
  have hgt:a.tmps[t]? =some (a.tmps.getD t undef):=by
   simp[Array.getD,hsz]
  have htm:=hR.tm t
  have hy:yielded ops a.tmps j=match a.tmps.getD t undef with
    | .bool b=>some b
    |_=>none:=by
   unfold yielded
   rw[ht]
   simp only[Option.bind_some,hgt]
   cases a.tmps.getD t undef<;>rfl
  simp only[Region.wanted,hg,hy]
  split at hs
  ·rename_i b1 hb1
   rw[hb1]at htm
   rw[htm.sc_inv.1]
   by_cases hbb:b1=b
   ·subst hbb
    simp only[if_true]at hs
    simp only[beq_self_eq_true,if_true]
    exact NH hR hK rfl hop hM hs
   ·rw[if_neg hbb]at hs
    have:(some b1==some b)=false:=by simp[hbb]
    simp only[this,Bool.false_eq_true,if_false]
    exact hs
  ·rename_i hb1
   rw[hb1]at htm
   generalize a.tmps.getD t undef=u at htm
   cases htm
   have:((match undef with
    | .bool b=>some b
    |_=>none)==some b)=false:=by simp[undef]
   simp only[this,Bool.false_eq_true,if_false]
   exact hs
  ·cases hs
theorem Ez {h:AI} {n r:Nat} {ops:Array Oper}: ∀ {l:List Oper} {i:Nat} {ins:List Ins},B6 P h n r ops i l=some ins->ins.length=l.length/\
  ∀ (k:Nat) o x,l[k]? =some o->ins[k]? =some x->CK P h n r ops (i+k) o=some x
 |[],i,ins,hp=>by
  simp only[B6,Option.some.injEq]at hp;subst hp;exact⟨rfl,fun k o x h _=>by simp at h⟩
 |o::l,i,ins,hp=>by
  simp only[B6]at hp;split at hp
  case h_2=>cases hp
  rename_i x m hx hm;simp only[Option.some.injEq]at hp;subst hp;obtain⟨g1,g2⟩:=Ez hm;refine⟨by simp[g1],fun k o' x' h1 h2=> ?_⟩
  cases k with
  |zero=>
   simp only[List.getElem?_cons_zero,Option.some.injEq]at h1 h2;subst h1;subst h2;exact hx
  |succ k=>
   simp only[List.getElem?_cons_succ]at h1 h2;have:=g2 k o' x' h1 h2;rwa [show i+1+k=i+(k+1)by omega]at this
theorem O5 (hK:KOk P K) {h:AI} {n r:Nat} {ops:Array Oper}: ∀ {l:List Ins} {i:Nat} {e:Env} {s:St} {a:Act},Rel fm e s a->(∀ (k:Nat) x,l[k]? =some x-> ∃o,ops[i+k]? =some o/\CK P h n r ops (i+k) o=some x)->
  Ep K md l s=some s'->(∀e' a',Rel fm e' s' a'->Q .normal a' e'.w)->wpOps P ops Q (List.range' i l.length) a e.w
 |[],i,e,s,a,hR,hp,hs,hQ=>by
  simp only[Ep,Option.some.injEq]at hs;subst hs;exact hQ e a hR
 |x::l,i,e,s,a,hR,hp,hs,hQ=>by
  simp only[Ep]at hs;split at hs
  case h_2=>cases hs
  rename_i s1 hs1;obtain⟨o,ho,hx⟩:=hp 0 x rfl;simp only[Nat.add_zero]at ho;have hrest: ∀ {a1:Act} {w1:World},Reach fm e (Lw md s x.op) s1 a1 w1->wpOps P ops Q (List.range' (i+1) l.length) a1 w1:=by
   intro a1 w1 hh;obtain⟨e1,h1,h2,_⟩:=hh;rw[←h1];refine O5 (h:=h) (n:=n) (r:=r) hK h2 (fun k y hy=> ?_) hs hQ;have:=hp (k+1) y (by simpa using hy);rwa [show i+(k+1)=i+1+k by omega]at this
  obtain⟨hd,hw⟩:=GW (Q:=Q) (M:=Lw md s x.op) hR hK hx (OP md s x.op fun o ho=>ho) hs1;simp only[List.length_cons,List.range'_succ,wpOps,ho];split at hw
  ·rename_i hwa;simp only[hwa,if_true];exact .inl (Oper.wp_mono (fun a1 w1 hh=>hrest hh) hw.wp)
  ·rename_i hwa;simp only[hwa];exact hrest ⟨e,rfl,hR.put .und hw,.refl e _⟩
theorem HF (hK:KOk P K) {h:AI} {n r:Nat} {ops:Array Oper} {l:List Ins} (hR:Rel fm e s a) (hp:B6 P h n r ops 0 ops.toList=some l) (hs:Ep K md l s=some s')
  (hQ: ∀e' a',Rel fm e' s' a'->Q .normal a' e'.w):(Code.region r ops false).wp P Q a e.w:=by
 obtain⟨g1,g2⟩:=Ez hp
 refine wp_region ?_
 have:=O5 (h:=h) (n:=n) (r:=r) (i:=0) (Q:=Q) (ops:=ops) hK hR (fun k x hx=> ?_) hs hQ
 ·rw[g1]at this
  rw[List.range_eq_range']
  simpa using this
 ·have hlt:k<ops.toList.length:=by rw[←g1];exact(List.getElem?_eq_some_iff.1 hx).1
  obtain⟨o,ho⟩:=AE hlt
  exact⟨o,by simpa using ho,by have:=g2 k o x ho hx;rwa [Nat.zero_add]at this ⊢⟩
end
section
variable {P:Program} {ops:Array Oper} {Q:Exit->Act->World->Prop}
abbrev F6:=List (Nat×Nat×Option Go.Obj)
def El (held:F6) (w:World):Prop:= ∀h∈held,w.heap[h.2.1]? =h.2.2
def F6.cut (held:F6) (ops:Array Oper) (j:Nat):F6:=held.filter fun h=> !QE ops ops.size h.1 j
def Hw (P:Program) (ops:Array Oper) (Q:Exit->Act->World->Prop):Nat->F6->Array Bool->Act->World->Prop
 |0,_,listed,a,w=>Region.ready .any ops listed=[]/\Q .normal a w
 |fuel+1,held,listed,a,w=>(Region.ready .any ops listed=[]->Q .normal a w)/\
  ∀j∈Region.ready .any ops listed,wpOp P ops Q j (fun a' w'=>El (held.cut ops j) w'/\Hw P ops Q fuel (held.cut ops j) (listed.setIfInBounds j true) a' w') a w
theorem Ku: ∀ (fuel:Nat) (held:F6) (listed:Array Bool) (a:Act) (w:World),Hw P ops Q fuel held listed a w->wpAny P .any ops Q fuel listed a w
 |0,_,_,_,_,h=>h
 |fuel+1,_,_,_,_,h=>⟨h.1,fun i hi=>wpOp_mono (fun a' w' h'=>Ku fuel _ _ a' w' h'.2) (h.2 i hi)⟩
theorem Kv: ∀ (fuel:Nat) {held held':F6} {listed:Array Bool} {a:Act} {w:World},(∀h∈held',h∈held)->Hw P ops Q fuel held listed a w->Hw P ops Q fuel held' listed a w
 |0,_,_,_,_,_,_,h=>h
 |fuel+1,held,held',_,_,_,hs,h=>⟨h.1,fun i hi=>wpOp_mono (fun a' w' h'=>by
   have hc: ∀h∈held'.cut ops i,h∈held.cut ops i:=fun x hx=>by
    unfold F6.cut at*;rw[List.mem_filter]at*;exact⟨hs x hx.1,hx.2⟩
   exact⟨fun x hx=>h'.1 x (hc x hx),Kv fuel hc h'.2⟩) (h.2 i hi)⟩
def Ib (ops:Array Oper) (listed:Array Bool):Prop:= ∀k o,listed.getD k false=true->ops[k]? =some o-> ∀e∈o.after,Region.binds .any e=true->listed.getD e.on false=true
theorem Oj (n:Nat):Ib ops (Array.replicate n false):=fun k o h _=>by
 exfalso;simp only[Array.getD_eq_getD_getElem?,Array.getElem?_replicate]at h;split at h<;>simp at h
theorem Mw {listed:Array Bool} {i k:Nat} (h:(listed.setIfInBounds i true).getD k false=true):k=i\/listed.getD k false=true:=by
 by_cases hik:i=k
 ·exact .inl hik.symm
 ·right;rwa [getD_set_ne false hik]at h
theorem IU {listed:Array Bool} {j:Nat} (hc:Ib ops listed) (hj:j∈Region.ready .any ops listed):Ib ops (listed.setIfInBounds j true):=by
 intro k o hk ho e he hb;obtain⟨_,oj,hoj,hall⟩:=mem_ready.1 hj;refine getD_set_true ?_;rcases Mw hk with rfl|hk
 ·rw[hoj]at ho;cases ho;exact hall e he hb
 ·exact hc k o hk ho e he hb
theorem KM {listed:Array Bool} (hc:Ib ops listed): ∀ (n i j:Nat),(∀o,ops[j]? =some o-> ∀e∈o.after,Region.binds .any e=true->listed.getD e.on false=true)->QE ops n i j=true->listed.getD i false=true
 |0,i,j,_,h=>by simp[QE]at h
 |n+1,i,j,hj,h=>by
  simp only[QE]at h;split at h
  ·rename_i o ho;obtain⟨e,he,h2⟩:=List.any_eq_true.1 h;simp only[Bool.and_eq_true,Bool.or_eq_true,beq_iff_eq]at h2;have hl:=hj o ho e (by simpa using he) h2.1;rcases h2.2 with h3|h3
   ·rwa [h3]at hl
   ·exact KM hc n i e.on (fun o' ho' e' he' hb'=>hc e.on o' hl ho' e' he' hb') h3
  ·cases h
theorem Mq {listed:Array Bool} (hc:Ib ops listed) {i j:Nat} (hi:i∈Region.ready .any ops listed) (hj:j∈Region.ready .any ops listed):QE ops ops.size i j=false:=by
 cases h:QE ops ops.size i j with
 |false=>rfl
 |true=>
  obtain⟨_,oj,hoj,hall⟩:=mem_ready.1 hj;have h1:=KM hc ops.size i j (fun o ho e he hb=>by rw[hoj]at ho;cases ho;exact hall e he hb) h;have h0:=(mem_ready.1 hi).1;rcases Nat.lt_or_ge i listed.size with h'|h'
  ·simp[h']at h0 h1;rw[h0]at h1;cases h1
  ·simp[Array.getElem?_eq_none h']at h1
theorem El.cut {held:F6} {w:World} (h:El held w) (j:Nat):El (held.cut ops j) w:=fun x hx=>h x (List.mem_filter.1 hx).1
theorem UF {i:Nat} {oi:Oper} {v:Value} {ex:F6} (hi:ops[i]? =some oi) (hsel: ∀ (j:Nat) (o:Oper) cs b,ops[j]? =some o->o.op≠ .select cs b)
  (hQ: ∀c a w,Q (.panic c) (a.put oi.dst v) w->Q (.panic c) a w) (hex: ∀h∈ex,h.1=i):
  ∀ (fuel:Nat) (held:F6) (listed:Array Bool) (a:Act) (w:World),Ib ops listed->
   (∀j oj,ops[j]? =some oj->j≠i->listed.getD j true=false->(∀e∈oj.after,Region.binds .any e=true->e.on≠i)->oi.apart ops oj=true)->
   i∈Region.ready .any ops listed->YieldsIf P ops (El ex) oi v a->El ex w->El held w->
   Hw P ops Q fuel (ex++held) (listed.setIfInBounds i true) (a.put oi.dst v) w->Hw P ops Q (fuel+1) held listed a w:=by
 intro fuel
 induction fuel with
 |zero=>
  intro held listed a w hcl _ hr hy hS hH H;refine⟨fun h=>(by rw[h]at hr;cases hr),fun j hj=> ?_⟩;by_cases hji:j=i
  ·subst hji;exact hy.wpOp hi hS ⟨hH.cut _,H⟩
  ·have:=ready_mono hj hji;rw[H.1]at this
   cases this
 |succ fuel ih=>
  intro held listed a w hcl hfree hr hy hS hH H;refine⟨fun h=>(by rw[h]at hr;cases hr),fun j hj=> ?_⟩;by_cases hji:j=i
  ·subst hji;refine hy.wpOp hi hS ⟨hH.cut _,Kv _ (fun x hx=> ?_) H⟩;exact List.mem_append_right _ (List.mem_filter.1 hx).1
  ·have h1:=H.2 j (ready_mono hj hji);obtain⟨hjun,oj,hoj,hall⟩:=mem_ready.1 hj;have hna:=Mq hcl hr hj;have hcut:F6.cut (ex++held) ops j=ex++F6.cut held ops j:=by
    unfold F6.cut;rw[List.filter_append];congr 1;rw[List.filter_eq_self];intro x hx;rw[hex x hx,hna];rfl
   rw[hcut]at h1;have hnot: ∀e∈oj.after,Region.binds .any e=true->e.on≠i:=fun e he hb heq=>by
    have h1:=hall e he hb;have h0:=(mem_ready.1 hr).1;rw[heq]at h1;rcases Nat.lt_or_ge i listed.size with h'|h'
    ·simp[h']at h0 h1;rw[h0]at h1;cases h1
    ·simp[Array.getElem?_eq_none h']at h1
   have h2:=wpOp_putIf hoj (hfree j oj hoj hji hjun hnot) (fun cs b=>hsel i oi cs b hi) (fun cs b=>hsel j oj cs b hoj) hQ hy h1;have hfree': ∀k ok,ops[k]? =some ok->k≠i->(listed.setIfInBounds j true).getD k true=false->
     (∀e∈ok.after,Region.binds .any e=true->e.on≠i)->oi.apart ops ok=true:=fun k ok hk hki hun hno=>by
    refine hfree k ok hk hki ?_ hno
    by_cases hjk:j=k
    ·subst hjk;exact hjun
    ·rw[getD_set_ne true hjk]at hun;exact hun
   refine wpOp_mono (fun a' w' h3=> ?_) h2;obtain⟨g1,g2,g3⟩:=h3;have gex:El ex w':=fun x hx=>g2 x (List.mem_append_left _ hx)
   have ghd:El (F6.cut held ops j) w':=fun x hx=>g2 x (List.mem_append_right _ hx)
   refine⟨ghd,ih (F6.cut held ops j) (listed.setIfInBounds j true) a' w' (IU hcl hj) hfree' (ready_mono hr (Ne.symm hji)) g1 gex ghd ?_⟩;rw[Array.setIfInBounds_comm _ _ hji];exact g3
theorem Oper.wp_keep {o:Oper} {a:Act} {w:World} {K:Act->World->Prop} (h:o.wp P a w K Q):
  o.wp P a w (fun a' w'=>K a' w'/\ ∀x,(∀d,o.dst=some d->x≠ .tmp d)->a'.eval x=a.eval x) Q:=by
 have hp: ∀v x,(∀d,o.dst=some d->x≠ .tmp d)->(a.put o.dst v).eval x=a.eval x:=fun v x hx=>Act.eval_put hx
 unfold Oper.wp at*
 generalize (execOp a.eval o).run P w=r at*
 cases r with
 |ok n w'=>
  cases n<;>simp only[Oper.upon]at h ⊢
  case value u=>exact⟨h,hp u⟩
  case skip=>exact⟨h,hp _⟩
  case defer d=>
   refine⟨h,fun x hx=> ?_⟩;rw[Act.eval_put hx]
   cases x<;>rfl
  case enter f args=>exact Calls.mono h fun e w'' he=>by cases e<;>first|exact⟨he,hp _⟩|exact he
  case row row args=>exact Rows.mono h fun u w'' he=>⟨he,hp u⟩
 |halt x w'=>cases x<;>simp only[Oper.upon]at h ⊢ <;>exact h
end
section
variable {P:Program} {fm fm0:Fm} {M:List Nat} {e e' e0:Env} {s s':St} {a a':Act} {Q:Exit->Act->World->Prop}
variable {K:Nat->List Arg->Option Res} {md:Nat->List Nat}
structure Alk (x y:St):Prop where
 n:x.n=y.n
 m:x.m=y.m
 tm: ∀t,At x.tm t=At y.tm t
 ob: ∀o,AR x.ob o=AR y.ob o
theorem Alk.refl (x:St):Alk x x:=⟨rfl,rfl,fun _=>rfl,fun _=>rfl⟩
theorem Alk.trans {x y z:St} (h:Alk x y) (h':Alk y z):Alk x z:=⟨h.n.trans h'.n,h.m.trans h'.m,fun t=>(h.tm t).trans (h'.tm t),fun o=>(h.ob o).trans (h'.ob o)⟩
theorem Alk.symm {x y:St} (h:Alk x y):Alk y x:=⟨h.n.symm,h.m.symm,fun t=>(h.tm t).symm,fun o=>(h.ob o).symm⟩
theorem Rel.alk (hR:Rel fm e s a) (h:Alk s s'):Rel fm e s' a:=
 ⟨hR.mem,fun o=>by rw[hR.ob,h.ob],fun o k rows ho=>hR.pinh o k rows (h.m ▸ ho),fun o cs ho=>hR.pinb o cs (h.m ▸ ho),by rw[hR.size,h.n],hR.defers,fun t=>h.tm t ▸ hR.tm t⟩
theorem NZ (x:Nat×AV) (t:Nat): ∀l:List (Nat×AV),At (UC x l) t=if t=x.1 then x.2 else At l t
 |[]=>rfl
 |y::l=>by
  simp only[UC];split
  ·rfl
  ·rename_i hlt;simp only[At,NZ x t l];by_cases h1:t=y.1
   ·rw[if_pos h1,if_pos h1,if_neg (by omega)]
   ·rw[if_neg h1,if_neg h1]
theorem II (t:Nat): ∀l:List (Nat×AV),At (NC l) t=At l t
 |[]=>rfl
 |x::l=>by simp only[NC,NZ,II t l];rfl
theorem Nb (x:Nat×Obj) (t:Nat): ∀l:List (Nat×Obj),AR (UD x l) t=if t=x.1 then x.2 else AR l t
 |[]=>rfl
 |y::l=>by
  simp only[UD];split
  ·rfl
  ·rename_i hlt;simp only[AR,Nb x t l];by_cases h1:t=y.1
   ·rw[if_pos h1,if_pos h1,if_neg (by omega)]
   ·rw[if_neg h1,if_neg h1]
theorem IK (t:Nat): ∀l:List (Nat×Obj),AR (ND l) t=AR l t
 |[]=>rfl
 |x::l=>by simp only[ND,Nb,IK t l];rfl
theorem AF.alk {x y:St} (h:AF x y):Alk x y:=by
 obtain⟨h1,h2,h3,h4⟩:=h;exact⟨h1,h2,fun t=>by rw[←II t x.tm,h3,II],fun o=>by rw[←IK o x.ob,h4,IK]⟩
theorem H2 {x y:Option St} {s:St} (h:RZ x y=some s):x=some s/\ ∃s',y=some s'/\Alk s' s:=by
 unfold RZ at h;split at h
 ·rename_i s1 s2;split at h
  ·rename_i h1
   cases h
   exact⟨rfl,s2,rfl,h1.alk.symm⟩
  ·cases h
 ·cases h
theorem R9 {f:Nat->Option D}: ∀ {rs:List Nat} {r:Nat} {t:D} {s':St},altD f r rs=some t->D7 K md t s=some s'-> ∀j∈r::rs,∃tj sj,f j=some tj/\D7 K md tj s=some sj/\Alk sj s'
 |[],r,t,s',h,hr,j,hj=>by
  simp only[List.mem_singleton]at hj;subst hj;exact⟨t,s',h,hr,.refl _⟩
 |r'::rs,r,t,s',h,hr,j,hj=>by
  simp only[altD]at h;split at h
  case h_2=>cases h
  rename_i ta tb ha hb
  cases h
  simp only[D7]at hr;obtain⟨h1,s2,h2,h3⟩:=H2 hr;rcases List.mem_cons.1 hj with rfl|hj
  ·exact⟨ta,s',ha,h1,.refl _⟩
  ·obtain⟨tj,sj,g1,g2,g3⟩:=R9 hb h2 j hj;exact⟨tj,sj,g1,g2,g3.trans h3⟩
theorem Gt {ops:Array Oper} {l:List Ins} {listed:Array Bool} {j:Nat} {x:Ins}: ∀ {js:List Nat},Lz ops l listed js=some (j,x)->
  j∈js/\l[j]? =some x/\(PC x.op||I0 x.op)=true/\Region.free .any ops listed j=true
 |[],h=>by cases h
 |i::js,h=>by
  simp only[Lz]at h;split at h
  ·rename_i y hy;split at h
   ·rename_i hc
    cases h
    simp only[Bool.and_eq_true]at hc;exact⟨List.mem_cons_self,hy,hc.1,hc.2⟩
   ·obtain⟨h1,h2⟩:=Gt h;exact⟨List.mem_cons_of_mem _ h1,h2⟩
  ·obtain⟨h1,h2⟩:=Gt h;exact⟨List.mem_cons_of_mem _ h1,h2⟩
theorem Qh {h:AI} {n r i:Nat} {ops:Array Oper} {o:Oper} {ins:Ins} (hp:CK P h n r ops i o=some ins):
  ins.d=o.dst/\((o.guard=none/\ins.g=none)\/ ∃j b t,o.guard=some (j,b)/\(ops[j]?).bind (·.dst)=some t/\ins.g=some (t,b)):=by
 unfold CK at hp
 split at hp
 case h_1=>cases hp
 rename_i i' hop
 have hp:=(A7 hp).2
 split at hp
 ·rename_i hg
  simp only[Option.some.injEq]at hp
  subst hp
  exact⟨rfl,.inl ⟨hg,rfl⟩⟩
 ·rename_i j b hg
  split at hp
  case h_2=>cases hp
  rename_i t ht
  obtain⟨_,hp⟩:=A7 hp
  simp only[Option.some.injEq]at hp
  subst hp
  exact⟨rfl,.inr ⟨j,b,t,hg,ht,rfl⟩⟩
theorem S7 (tmps:Array Value) (t:Nat):(match tmps[t]? with
  |some (.bool b)=>some b
  |_=>none)=(match tmps.getD t undef with
  | .bool b=>some b
  |_=>none):=by
 rw[Array.getD_eq_getD_getElem?]
 cases tmps[t]? with
 |none=>rfl
 |some v=>cases v<;>rfl
theorem Hu {ops:Array Oper} {g t:Nat} (a:Act) (h:(ops[g]?).bind (·.dst)=some t):yielded ops a.tmps g=match a.tmps.getD t undef with
  | .bool b=>some b
  |_=>none:=by
 unfold yielded
 rw[h,←S7]
 rfl
theorem Oz {ops:Array Oper} {o:Oper} {d:Option Nat} (hk: ∀x,(∀t,d=some t->x≠ .tmp t)->a'.eval x=a.eval x) (hd: ∀t,d=some t->t∉o.looksAt ops):
  Region.wanted o (yielded ops a'.tmps)=Region.wanted o (yielded ops a.tmps):=by
 unfold Region.wanted
 cases hg:o.guard with
 |none=>rfl
 |some gw=>
  obtain⟨g,want⟩:=gw;have:yielded ops a'.tmps g=yielded ops a.tmps g:=by
   cases ht:(ops[g]?).bind (·.dst)with
   |none=>simp[yielded,ht]
   |some t=>
    rw[Hu a ht,Hu a' ht];have:=hk (.tmp t) (fun u hu hc=>by
     cases hc
     exact hd t hu (by simp[Oper.looksAt,hg,ht]))
    simp only[Act.eval]at this;rw[this]
  simp only[this]
structure RM (P:Program) (ops:Array Oper) (l:List Ins) (held:List Nat) (H:F6) (a:Act):Prop where
 one: ∀h∈H,h.1∈held/\ ∃x o t y n X tx off,l[h.1]? =some x/\ops[h.1]? =some o/\x.op= .load n X/\o.op= .load t y/\xOf P tx y=some X/\
  Region.wanted o (yielded ops a.tmps)=true/\a.eval y= .pointer (some ⟨h.2.1,off,none⟩)
theorem RM.next {ops:Array Oper} {l:List Ins} {held held':List Nat} {H H':F6} (hI:RM P ops l held H a) {x:Ins} (hkb:T5 ops held' x=true) (hs: ∀h∈H',h∈H/\h.1∈held')
  (hk: ∀y,(∀t,x.d=some t->y≠ .tmp t)->a'.eval y=a.eval y):RM P ops l held' H' a':=by
 refine⟨fun h hh=> ?_⟩
 obtain⟨g1,g2⟩:=hs h hh
 obtain⟨_,x',o,t,y,n,X,tx,off,y1,y2,y3,y4,y5,y6,y7⟩:=hI.one h g1
 have hno: ∀t,x.d=some t->t∉o.looksAt ops:=fun t ht=>by
  have:=List.all_eq_true.1 hkb h.1 g2;simp only[y2,ht]at this;simpa using this
 refine⟨g2,x',o,t,y,n,X,tx,off,y1,y2,y3,y4,y5,by rw[Oz hk hno];exact y6,?_⟩
 rw[hk y (fun u hu hc=>hno u hu ?_)]
 ·exact y7
 ·subst hc
  refine List.mem_append_left _ (List.mem_filterMap.2 ⟨.tmp u,?_,rfl⟩)
  simp[y4,Op.operands]
theorem hang_ok (hR:Rel fm e s a) {h:AI} {n r i:Nat} {ops:Array Oper} {o:Oper} {ins x:Ins} (hp:CK P h n r ops i o=some x) {m:Option Nat} {X:X} (hx:x.op= .load m X) {tx:TypeId} {y:Operand}
  (hX:xOf P tx y=some X) (hw:Region.wanted o (yielded ops a.tmps)=true) {b off:Nat} (hv:a.eval y= .pointer (some ⟨b,off,none⟩)) (hh:ON md s ins x=true)
  (hE:Evo e e' (Lw md s ins.op)):e'.w.heap[b]? =e.w.heap[b]? :=by
 unfold ON at hh
 simp only[Bool.or_eq_true]at hh
 rcases hh with hh|hh
 ·exfalso
  obtain⟨_,hg⟩:=Qh hp
  rcases hg with ⟨_,hg⟩|⟨j,bb,t,g1,g2,g3⟩
  ·rw[hg]at hh;cases hh
  ·rw[g3]at hh
   simp only at hh
   simp only[Region.wanted,g1,Hu a g2,beq_iff_eq]at hw
   have htm:=hR.tm t
   split at hh
   ·rename_i b1 hb1
    rw[hb1]at htm
    rw[htm.sc_inv.1]at hw
    simp only[Option.some.injEq]at hw
    subst hw
    simp at hh
   ·rename_i hb1
    rw[hb1]at htm
    generalize a.tmps.getD t undef=u at htm hw
    cases htm
    simp[undef]at hw
   ·cases hh
 ·rw[hx]at hh
  simp only at hh
  have h1:=Ap hR hX
  rw[hv]at h1
  have key: ∀ {l:Pl},e.blk l=some b->l.obj∉Lw md s ins.op->e'.w.heap[b]? =e.w.heap[b]? :=fun {l} hl hn=>
   hE.same b (hR.mem.own l b hl).1 fun l2 h2 h3=>hn (by rw[hR.mem.inj l l2 b hl h2];exact h3)
  split at hh
  ·rename_i cs hcs
   rw[hcs]at h1
   cases h1 with
   |pim v cs hp=>
   obtain⟨b',off',he,him,_⟩:=hp
   cases he
   exact hE.same b (hR.mem.im b him).1 fun l hl=>absurd him (hR.mem.own l b hl).2.2
  ·rename_i o' p i' j' hcs
   rw[hcs]at h1
   generalize hvv:Value.pointer (some (⟨b,off,none⟩:Addr))=vv at h1
   cases h1 with
   |pa o p i j k b2 off2 n' c rows hn hh2 hc=>
   cases hvv
   refine key (l:= .nd o' p) ?_ (by simpa[Pl.obj]using hh)
   simp only[Env.blk,hn,hh2,BG,if_pos hc]
  ·rename_i o' j' hcs
   rw[hcs]at h1
   generalize hvv:Value.pointer (some (⟨b,off,none⟩:Addr))=vv at h1
   cases h1 with
   |pb o j cs hb=>
   cases hvv
   exact key (l:= .bx o') (by simp only[Env.blk,hb]) (by simpa[Pl.obj]using hh)
  ·cases hh
end
section
variable {P:Program} {fm fm0:Fm} {M:List Nat} {e e' e0:Env} {s s':St} {a a':Act} {Q:Exit->Act->World->Prop}
variable {K:Nat->List Arg->Option Res} {md:Nat->List Nat}
def Uo (fm:Fm) (s:St):Exit->Act->World->Prop
 | .normal,a,w=> ∃e',e'.w=w/\Rel fm e' s a
 |_,_,_=>False
theorem IT {s:St} {c:List PanicEntry} {a:Act} {w:World} (h:Uo fm s (.panic c) a w):False:=h
theorem stepG_put {x:Ins} {o:Oper} (hd:x.d=o.dst): ∀y,(∀t,o.dst=some t->y≠Operand.tmp t)<->(∀t,x.d=some t->y≠Operand.tmp t):=by rw[hd];exact fun _=>Iff.rfl
theorem runD_ok (hK:KOk P K) {h:AI} {n r:Nat} {ops:Array Oper} {l:List Ins} (hsel: ∀ (j:Nat) (o:Oper) cs b,ops[j]? =some o->o.op≠ .select cs b)
  (hp: ∀ (k:Nat) o x,ops[k]? =some o->l[k]? =some x->CK P h n r ops k o=some x):
  ∀ (N:Nat) (t:D) (listed:Array Bool) (held:List Nat) (H:F6) (e:Env) (s s' s2:St) (a:Act),J2 ops l N listed held=some t->Ib ops listed->RM P ops l held H a->El H e.w->Rel fm e s a->
   D7 K md t s=some s'->Alk s' s2->Hw P ops (Uo fm s2) N H listed a e.w:=by
 intro N
 induction N with
 |zero=>
  intro t listed held H e s s' s2 a ht hcl hI hH hR hr hA;simp only[J2]at ht;split at ht
  ·rename_i hrd
   cases ht
   simp only[D7,Option.some.injEq]at hr;subst hr;exact⟨hrd,e,rfl,hR.alk hA⟩
  ·cases ht
 |succ N ih=>
  intro t listed held H e s s' s2 a ht hcl hI hH hR hr hA;simp only[J2]at ht;split at ht
  ·rename_i hrd
   cases ht
   simp only[D7,Option.some.injEq]at hr;subst hr;exact⟨fun _=>⟨e,rfl,hR.alk hA⟩,fun j hj=>by rw[hrd]at hj;cases hj⟩
  rename_i r0 rs hrd;split at ht
  ·rename_i j x hq;obtain⟨q1,q2,q3,q4⟩:=Gt hq;generalize hheld:(if I0 x.op=true then j::held else held)=held' at ht;obtain⟨hkb,ht⟩:=A7 ht;obtain⟨t',ht',rfl⟩:=BS ht;simp only[D7]at hr;split at hr
   case h_2=>cases hr
   rename_i s1 hs1;have hj:j∈Region.ready .any ops listed:=by rw[hrd];exact q1
   obtain⟨_,o,ho,_⟩:=mem_ready.1 hj;obtain⟨hd,hw⟩:=GW (M:=Lw md s x.op) (Q:=Uo fm s2) hR hK (hp j o x ho q2) (OP md s x.op fun o ho=>ho) hs1;have hfree:=Region.free_spec ho q4;have hcl':=IU hcl hj;have hsub: ∀i∈held,i∈held':=fun i hi=>by rw[←hheld];split<;>simp[hi]
   have hkeep: ∀v y,(∀t,x.d=some t->y≠Operand.tmp t)->(a.put o.dst v).eval y=a.eval y:=fun v y hy=>Act.eval_put fun d hd'=>hy d (hd.trans hd')
   have hI': ∀v,RM P ops l held' H (a.put o.dst v):=fun v=>by
    have hI0:RM P ops l held' H a:=⟨fun h hh=>⟨hsub _ (hI.one h hh).1,(hI.one h hh).2⟩⟩;exact hI0.next hkb (fun h hh=>⟨hh,(hI0.one h hh).1⟩) (hkeep v)
   split at hw
   ·rename_i hwa;by_cases hpu:PC x.op=true
    ·obtain⟨v,y,g1,g2,g3⟩:=hw.yl hpu;refine UF (ex:=[]) (v:=v) ho hsel (fun c a w hh=>(IT hh).elim) (fun h hh=>by cases hh) N H listed a e.w hcl hfree hj (.inl ⟨hwa,fun w _=>g1 w⟩) (fun h hh=>by cases hh) hH ?_;exact ih t' _ held' H e s1 s' s2 (a.put o.dst v) ht' hcl' (hI' v) hH (hR.put g2 g3) hr hA
    ·have hld:I0 x.op=true:=by
      rw[Bool.or_eq_true]at q3;exact q3.resolve_left hpu
     obtain⟨tt,y,n',X,v,z,b,off,y1,y2,⟨tx,y3⟩,y4,y5,y6,y7⟩:=hw.ld hld;refine UF (ex:=[(j,b,e.w.heap[b]?)]) (v:=v) ho hsel (fun c a w hh=>(IT hh).elim) (fun h hh=>by simp only[List.mem_singleton]at hh;rw[hh]) N H listed a e.w hcl hfree hj
      (.inl ⟨hwa,fun w hwh=>y5 w (hwh _ (List.mem_singleton.2 rfl))⟩) (fun h hh=>by simp only[List.mem_singleton]at hh;rw[hh]) hH ?_
     have hjh:j∈held':=by rw[←hheld,if_pos hld];exact List.mem_cons_self
     have hI0:RM P ops l held' ([(j,b,e.w.heap[b]?)]++H) a:=⟨fun h hh=>by
      rcases List.mem_cons.1 hh with rfl|hh
      ·exact⟨hjh,x,o,tt,y,n',X,tx,off,q2,ho,y2,y1,y3,hwa,y4⟩
      ·exact⟨hsub _ (hI.one h hh).1,(hI.one h hh).2⟩⟩
     refine ih t' _ held' _ e s1 s' s2 (a.put o.dst v) ht' hcl' (hI0.next hkb (fun h hh=>⟨hh,(hI0.one h hh).1⟩) (hkeep v)) (fun h hh=> ?_) (hR.put y6 y7) hr hA;rcases List.mem_cons.1 hh with rfl|hh
     ·rfl
     ·exact hH h hh
   ·rename_i hwa;refine UF (ex:=[]) (v:=undef) ho hsel (fun c a w hh=>(IT hh).elim) (fun h hh=>by cases hh) N H listed a e.w hcl hfree hj (.inr ⟨by simpa using hwa,rfl⟩) (fun h hh=>by cases hh) hH ?_;exact ih t' _ held' H e s1 s' s2 (a.put o.dst undef) ht' hcl' (hI' undef) hH (hR.put .und hw) hr hA
  ·refine⟨fun h0=>(by rw[hrd]at h0;cases h0),fun j hj=> ?_⟩;have hj0:=hj;rw[hrd]at hj;obtain⟨tj,sj,g1,g2,g3⟩:=R9 ht hr j hj;have hA':=g3.trans hA;split at g1
   case h_2=>cases g1
   rename_i x hx;obtain⟨hkb,g1⟩:=A7 g1;obtain⟨t',ht',rfl⟩:=BS g1;simp only[D7]at g2;obtain⟨hhang,g2⟩:=A7 g2;split at g2
   case h_2=>cases g2
   rename_i s1 hs1;obtain⟨_,o,ho,_⟩:=mem_ready.1 hj0;obtain⟨hd,hw⟩:=GW (M:=Lw md s x.op) (Q:=Uo fm s2) hR hK (hp j o x ho hx) (OP md s x.op fun o ho=>ho) hs1;have hcl':=IU hcl hj0;have hcut: ∀h∈H.cut ops j,h∈H/\h.1∈Pi ops held j:=fun h hh=>by
    obtain⟨z1,z2⟩:=List.mem_filter.1 hh;exact⟨z1,List.mem_filter.2 ⟨(hI.one h z1).1,z2⟩⟩
   unfold wpOp;simp only[ho];split at hw
   ·rename_i hwa;rw[if_pos hwa];refine .inl (Oper.wp_mono (fun a' w' hh=> ?_) (Oper.wp_keep hw.wp));obtain⟨⟨e1,z1,z2,z3⟩,hkeep⟩:=hh;have hI':=hI.next hkb hcut fun y hy=>hkeep y fun t ht=>hy t (hd.trans ht)
    have hH':El (H.cut ops j) w':=fun h hh=>by
     obtain⟨c1,c2⟩:=hcut h hh;obtain⟨_,x',o',t,y,n',X,tx,off,y1,y2,y3,y4,y5,y6,y7⟩:=hI.one h c1;have hin:x'∈(Pi ops held j).filterMap fun i=>l[i]? :=List.mem_filterMap.2 ⟨h.1,c2,y1⟩
     have:=hang_ok hR (hp h.1 o' x' y2 y1) y3 y5 y6 y7 (List.all_eq_true.1 hhang x' hin) z3;rw[←z1,this,hH h c1]
    rw[←z1]at hH' ⊢;exact⟨hH',ih t' _ _ _ e1 s1 sj s2 a' ht' hcl' hI' hH' z2 g2 hA'⟩
   ·rename_i hwa;rw[if_neg hwa];exact⟨hH.cut j,ih t' _ _ _ e s1 sj s2 (a.put o.dst undef) ht' hcl' (hI.next hkb hcut fun y hy=>Act.eval_put fun d hd'=>hy d (hd.trans hd')) (hH.cut j) (hR.put .und hw) g2 hA'⟩
theorem Rel.drew (hR:Rel fm e s a): ∃e',e'.w={e.w with drawn:=e.w.drawn+1}/\Rel fm e' s a:=by
 let e':Env:={e with w:={e.w with drawn:=e.w.drawn+1}}
 have hM:=hR.mem;have hcar:Bm e e' fun o p=>some (o,p):=⟨fun b hb=>⟨hb,rfl⟩,fun o p k rows o' p' hn hf=>by cases hf;exact⟨rows,hn,rfl,rfl⟩,fun o cs ho=>⟨cs,ho,rfl⟩,fun o p k rows hn=>(hM.node o p k rows hn).one,rfl⟩
 refine⟨e',rfl,⟨⟨fun o cs ho j c hc=> ?_,fun o p k rows hn=> ?_,hM.inj,hM.own,hM.im,hM.im0,?_,hM.tk⟩,hR.ob,hR.pinh,hR.pinb,hR.size,hR.defers,fun t=>(hR.tm t).carry hcar⟩⟩
 ·obtain⟨h1,u,h2,h3⟩:=hM.box o cs ho j c hc;exact⟨h1.congr (w':=e'.w) rfl,u,(MZ (w':=e'.w) rfl).trans h2,h3.carry hcar⟩
 ·exact(hM.node o p k rows hn).congr (w':=e'.w) (ED.refl _) (fun b _=>rfl) (fun i j k1 r1 _=>rfl)
 ·exact⟨hM.keeps.os,hM.keeps.tape,hM.keeps.output,hM.keeps.size,hM.keeps.block⟩
theorem LN (hm:P.follows .mixedOrders=true) (hK:KOk P K) {h:AI} {n r:Nat} {ops:Array Oper} {l:List Ins} {t:D} (hR:Rel fm e s a) (hp:B6 P h n r ops 0 ops.toList=some l)
  (hns:Region.noSelect ops=true) (ht:J2 ops l ops.size (Array.replicate ops.size false) []=some t) (hs:D7 K md t s=some s')
  (hQ: ∀e' a',Rel fm e' s' a'->Q .normal a' e'.w):(Code.region r ops true).wp P Q a e.w:=by
 obtain⟨g1,g2⟩:=Ez hp
 obtain⟨e1,h1,h2⟩:=hR.drew
 refine wp_mono (Q:=Uo fm s') (wp_region_any hm (Ku ops.size [] _ a _ ?_)) (fun ex a' w' hh=> ?_)
 ·rw[←h1]
  refine runD_ok (h:=h) (n:=n) (r:=r) hK (Region.noSelect_spec hns) (fun k o x ho hx=> ?_) ops.size t _ [] [] e1 s s' s' a ht (Oj _) ⟨fun h hh=>by cases hh⟩ (fun h hh=>by cases hh) h2 hs (.refl _)
  have:=g2 k o x (by simpa using ho) hx
  rwa [Nat.zero_add]at this
 ·cases ex with
  |normal=>
   obtain⟨e',q1,q2⟩:=hh;rw[←q1];exact hQ e' a' q2
  |_=>exact hh.elim
end
section
variable {P:Program} {fm fm0:Fm} {M:List Nat} {e e' e0:Env} {s s':St} {a a':Act} {Q:Exit->Act->World->Prop}
variable {K:Nat->List Arg->Option Res} {md:Nat->List Nat} {Lp:Nat->List Nat->C->St->Option (Ex×St)}
def Ex.up:Ex->Exit
 | .normal=> .normal
 | .exit id=> .exit id
 | .ret=> .ret
theorem Rel.drop (hR:Rel fm e s a) (l:List Nat):Rel fm e (s.drop l) a:=
 ⟨hR.mem,hR.ob,hR.pinh,hR.pinb,hR.size,hR.defers,fun t=>by
  rcases IJ s.tm t l with h|h
  ·show AS e (At (Gj s.tm l) t) _
   rw[h];exact hR.tm t
  ·show AS e (At (Gj s.tm l) t) _
   rw[h];exact .non _⟩
def LpOk (P:Program) (Lp:Nat->List Nat->C->St->Option (Ex×St)):Prop:= ∀ (fm:Fm) (h:AI) (n b:Nat) (c:Code) (pc:C) (o:Nat) (live:List Nat) (e:Env) (s s':St) (a:Act) (ex:Ex) (Q:Exit->Act->World->Prop),
 BD P h n b c=some pc->Rel fm e s a->Lp o live pc s=some (ex,s')->(∀e' a',Rel fm e' s' a'->Q ex.up a' e'.w)->(Code.loop c).wp P Q a e.w
theorem OS (hm:P.follows .mixedOrders=true) (hK:KOk P K) (hL:LpOk P Lp) {h:AI} {n:Nat}: ∀ (c:Code) (b:Nat) (pc:C) (e:Env) (s s':St) (a:Act) (ex:Ex) (Q:Exit->Act->World->Prop),BD P h n b c=some pc->
  Rel fm e s a->An K Lp md pc s=some (ex,s')->(∀e' a',Rel fm e' s' a'->Q ex.up a' e'.w)->c.wp P Q a e.w:=by
 intro c
 induction c with
 |skip=>
  intro b pc e s s' a ex Q hp hR hx hQ;simp only[BD,Option.some.injEq]at hp;subst hp;simp only[An,Option.some.injEq,Prod.mk.injEq]at hx;obtain⟨rfl,rfl⟩:=hx;exact wp_skip (hQ e a hR)
 |region id ops draw=>
  intro b pc e s s' a ex Q hp hR hx hQ;simp only[BD]at hp;split at hp
  case h_2=>cases hp
  rename_i l hl;split at hp
  ·rename_i hd;obtain⟨hns,hp⟩:=A7 hp;obtain⟨t,ht,rfl⟩:=BS hp;simp only[An]at hx;split at hx
   case h_2=>cases hx
   rename_i s1 hs1;simp only[Option.some.injEq,Prod.mk.injEq]at hx;obtain⟨rfl,rfl⟩:=hx;rw[hd];exact LN hm hK hR hl hns ht hs1 fun e' a' h'=>hQ e' a' (h'.drop _)
  ·rename_i hd;simp only[Option.some.injEq]at hp;subst hp;simp only[An]at hx;split at hx
   case h_2=>cases hx
   rename_i s1 hs1;simp only[Option.some.injEq,Prod.mk.injEq]at hx;obtain⟨rfl,rfl⟩:=hx;have hd:draw=false:=by simpa using hd
   rw[hd];exact HF hK hR hl hs1 fun e' a' h'=>hQ e' a' (h'.drop _)
 |seq x y ihx ihy=>
  intro b pc e s s' a ex Q hp hR hx hQ;simp only[BD]at hp;split at hp
  case h_2=>cases hp
  rename_i cx cy hcx hcy;simp only[Option.some.injEq]at hp;subst hp;simp only[An]at hx;refine wp_seq ?_;split at hx
  ·rename_i s1 hs1;refine ihx b cx e s s1 a .normal _ hcx hR hs1 fun e' a' h'=> ?_
   exact ihy b cy e' s1 s' a' ex Q hcy h' hx hQ
  ·rename_i hne;refine ihx b cx e s s' a ex _ hcx hR hx fun e' a' h'=> ?_
   cases ex with
   |normal=>exact absurd hx (hne s')
   |exit id=>exact hQ e' a' h'
   |ret=>exact hQ e' a' h'
 |cond c x y ihx ihy=>
  intro b pc e s s' a ex Q hp hR hx hQ;simp only[BD]at hp;split at hp
  case h_2=>cases hp
  rename_i t cx cy hc hcx hcy;simp only[Option.some.injEq]at hp;subst hp;simp only[An]at hx;split at hx
  case h_2=>cases hx
  rename_i bb hbb;have h1:=Ap hR hc;rw[hbb]at h1;refine wp_cond h1.sc_inv.1 ?_
  cases bb with
  |true=>exact ihx b cx e s s' a ex Q hcx hR (by simpa using hx) hQ
  |false=>exact ihy b cy e s s' a ex Q hcy hR (by simpa using hx) hQ
 |block id x ih=>
  intro b pc e s s' a ex Q hp hR hx hQ;obtain⟨cx,hcx,rfl⟩:=BS hp;simp only[An]at hx;refine wp_block ?_;split at hx
  ·rename_i j s1 hs1;refine ih id cx e s s1 a (.exit j) _ hcx hR hs1 fun e' a' h'=> ?_
   simp only[Ex.up,Exit.inBlock];split at hx
   ·rename_i hj;simp only[Option.some.injEq,Prod.mk.injEq]at hx;obtain⟨rfl,rfl⟩:=hx;rw[if_pos hj];exact hQ e' a' h'
   ·rename_i hj;simp only[Option.some.injEq,Prod.mk.injEq]at hx;obtain⟨rfl,rfl⟩:=hx;rw[if_neg hj];exact hQ e' a' h'
  ·rename_i hne;refine ih id cx e s s' a ex _ hcx hR hx fun e' a' h'=> ?_
   cases ex with
   |normal=>exact hQ e' a' h'
   |exit id=>exact absurd hx (hne id s')
   |ret=>exact hQ e' a' h'
 |loop x ih=>
  intro b pc e s s' a ex Q hp hR hx hQ;obtain⟨cx,hcx,rfl⟩:=BS hp;simp only[An]at hx;exact hL fm h n b x cx _ _ e s s' a ex Q hcx hR hx hQ
 |exit id=>
  intro b pc e s s' a ex Q hp hR hx hQ;simp only[BD,Option.some.injEq]at hp;subst hp;simp only[An,Option.some.injEq,Prod.mk.injEq]at hx;obtain⟨rfl,rfl⟩:=hx;exact wp_exit (hQ e a hR)
 |ret=>
  intro b pc e s s' a ex Q hp hR hx hQ;simp only[BD,Option.some.injEq]at hp;subst hp;simp only[An,Option.some.injEq,Prod.mk.injEq]at hx;obtain⟨rfl,rfl⟩:=hx;exact wp_ret (hQ e a hR)
 |_=>intro b pc e s s' a ex Q hp;simp[BD]at hp
theorem S8 {c:Code} {w:World} (I:Nat->Act->World->Prop) {n0:Nat} (h0:I n0 a w)
  (round: ∀n a w,I n a w->c.wp P (Exit.then (fun a' w'=> ∃m,m<n/\I m a' w') Q) a w):(Code.loop c).wp P Q a w:=by
 intro b k cs
 have key: ∀n a w,I n a w-> ∃e a' w',Q e a' w'/\Arrives P (lone (b.at a (.code c:: .inLoop c::k)) cs w) b k cs e a' w':=by
  intro n
  induction n using Nat.strongRecOn with
  |_ n ih=>
   intro a w hI;obtain⟨e,a₁,w₁,hq,harr⟩:=round n a w hI b (.inLoop c::k) cs
   cases e with
   |normal=>
    obtain⟨m,hlt,hI₁⟩:=hq;obtain⟨e₂,a₂,w₂,hq₂,harr₂⟩:=ih m hlt a₁ w₁ hI₁;exact⟨e₂,a₂,w₂,hq₂,.of_steps (Steps.trans harr (.one step_inLoop)) harr₂⟩
   |exit id=>exact⟨_,a₁,w₁,hq,.pass (x:= .inLoop c) rfl (fun _ _=> .inl (by simp)) harr⟩
   |goto l=>exact⟨_,a₁,w₁,hq,.pass (x:= .inLoop c) rfl (fun _ _=> .inl (by simp)) harr⟩
   |ret=>exact⟨_,a₁,w₁,hq,.pass (x:= .inLoop c) rfl (fun _ _=> .inl (by simp)) harr⟩
   |panic ch=>exact⟨_,a₁,w₁,hq,.pass (x:= .inLoop c) rfl (fun _ _=> .inl (by simp)) harr⟩
   |outgrown=>exact⟨_,a₁,w₁,hq,.pass (x:= .inLoop c) rfl (fun _ _=> .inl (by simp)) harr⟩
 obtain⟨e,a',w',hq,harr⟩:=key _ a w h0
 exact⟨e,a',w',hq,.of_steps (.one step_loop) harr⟩
structure GOk (P:Program) (H:Nat->AI) (G:Nat->Option PF):Prop where
 prep: ∀f pf,G f=some pf->prep P H f=some pf
theorem Oh {args:List Arg} {res:List RP} {x:Option (Ex×St)} {r:Res} (h:RC res args x=some r): ∃ex s,x=some (ex,s)/\(ex= .normal\/ex= .ret)/\s.m=(AK 0 0 args).2.2/\KB res args s=some r:=by
 unfold RC at h;split at h
 ·obtain⟨h1,h2⟩:=A7 h;exact⟨_,_,rfl,.inl rfl,h1,h2⟩
 ·obtain⟨h1,h2⟩:=A7 h;exact⟨_,_,rfl,.inr rfl,h1,h2⟩
 ·cases h
theorem sem_ok (hm:P.follows .mixedOrders=true) {H:Nat->AI} {G:Nat->Option PF} {PK:Nat->List Arg->Option Res} (hG:GOk P H G) (hPK:KOk P PK)  (N:Nat):KOk P (sem G PK md N).1/\LpOk P (sem G PK md N).2:=by
 induction N using Nat.strongRecOn with
 |_ N ih=>
 cases N with
 |zero=>exact⟨fun f args r h=>by simp[sem]at h,fun fm h n b c pc o live e s s' a ex Q _ _ hx _=>by simp[sem]at hx⟩
 |succ N=>
  have ⟨hK,hL⟩:=ih N (Nat.lt_succ_self N);constructor
  ·intro f args r h;simp only[sem]at h;split at h
   ·rename_i pf hpf;obtain⟨hn,h⟩:=A7 h;have hpr:=hG.prep f pf hpf;unfold prep at hpr;split at hpr
    case h_2=>cases hpr
    rename_i fn hfn;unfold TX at hpr;split at hpr
    ·cases hpr
    rename_i hname;split at hpr
    case h_2=>cases hpr
    rename_i c hc;split at hpr
    case h_2=>cases hpr
    rename_i bb rr hb hrr;obtain⟨hsz,hpr⟩:=A7 hpr;simp only[Option.some.injEq]at hpr;subst hpr;refine⟨⟨fn,hfn,hname,by rw[hc];simp⟩,fun fm e vs hE=> ?_⟩;obtain⟨ex,s,h1,h2,h3,h4⟩:=Oh h;refine calls_of_wp hfn hc ?_;have hR:=Nl hE (n:=fn.ntmps) hn;refine OS hm hK hL c 0 bb e _ s _ ex _ hb hR h1 fun e' a' hR'=> ?_
    obtain⟨v,e2,g1,g2,g3⟩:=PZ hE hR' h3 hrr h4;have:bodyPost P fn (fun
     | .returned v,w'=> ∃e',e'.w=w'/\Mo fm e args r e' v
     |_,_=>False) .normal a' e'.w:=⟨hR'.defers,v,g1,e2,g2,g3⟩
    rcases h2 with rfl|rfl
    ·exact this
    ·exact this
   ·exact hPK f args r h
  ·intro fm h n b c pc o live e s s' a ex Q hp hR hx hQ;refine S8 (fun n a w=>n<=N+1/\ ∃e s,e.w=w/\Rel fm e s a/\(sem G PK md n).2 o live pc s=some (ex,s')) (n0:=N+1) ⟨Nat.le_refl _,e,s,rfl,hR,hx⟩ ?_;intro n1 a1 w1 hI;obtain⟨hle,e1,s1,rfl,hR1,hx1⟩:=hI
   cases n1 with
   |zero=>simp[sem]at hx1
   |succ n1=>
    obtain⟨hK1,hL1⟩:=ih n1 (by omega);simp only[sem]at hx1;obtain⟨hmo,hx1⟩:=A7 hx1;obtain⟨e2,hw2,hR2⟩:=Ue hR1 hmo live;rw[←hw2];split at hx1
    ·rename_i s2 hs2;refine OS hm hK1 hL1 c b pc e2 _ s2 a1 .normal _ hp hR2 hs2 fun e' a' h'=> ?_
     exact⟨n1,Nat.lt_succ_self n1,by omega,e',s2,rfl,h',hx1⟩
    ·rename_i hne;refine OS hm hK1 hL1 c b pc e2 _ s' a1 ex _ hp hR2 hx1 fun e' a' h'=> ?_
     cases ex with
     |normal=>exact absurd hx1 (hne s')
     |exit id=>exact hQ e' a' h'
     |ret=>exact hQ e' a' h'
end
section
variable {s s':St}
variable {K K':Nat->List Arg->Option Res} {md:Nat->List Nat} {Lp Lp':Nat->List Nat->C->St->Option (Ex×St)}
def LeK (K K':Nat->List Arg->Option Res):Prop:= ∀f args r,K f args=some r->K' f args=some r
def LeL (Lp Lp':Nat->List Nat->C->St->Option (Ex×St)):Prop:= ∀o live c s r,Lp o live c s=some r->Lp' o live c s=some r
theorem IW (h:LeK K K') {d:Option Nat} {o f:Nat} {xs:List AV} (hx:Ei K md s d o f xs=some s'):Ei K' md s d o f xs=some s':=by
 unfold Ei at hx ⊢;split at hx
 case h_2=>cases hx
 rename_i g hg;split at hx
 case h_2=>cases hx
 rename_i r hr;simp only[hg,h _ _ _ hr];exact hx
theorem Kz (h:LeK K K') {d:Option Nat} {i:I} (hx:Aa K md s d i=some s'):Aa K' md s d i=some s':=by
 cases i with
 |call o f xs=>exact IW h hx
 |callc o f xs cs=>
  simp only[Aa]at hx ⊢;split at hx
  case h_2=>cases hx
  rename_i h1 hh1;exact IW h hx
 |callv o x xs=>
  simp only[Aa]at hx ⊢;split at hx
  case h_2=>cases hx
  rename_i f caps hf;exact IW h hx
 |_=>exact hx
theorem Dh (h:LeK K K') {i:Ins} (hx:Er K md i s=some s'):Er K' md i s=some s':=by
 unfold Er at hx ⊢;split at hx
 ·exact Kz h hx
 ·obtain⟨h1,hx⟩:=A7 hx;rw[if_pos h1];split at hx
  ·rename_i b1 hb1;split at hx
   ·rename_i hb;simp only[if_pos hb];exact Kz h hx
   ·rename_i hb;simp only[if_neg hb];exact hx
  ·exact hx
  ·cases hx
theorem H1 (h:LeK K K'): ∀ {l:List Ins} {s s':St},Ep K md l s=some s'->Ep K' md l s=some s'
 |[],s,s',hx=>hx
 |i::l,s,s',hx=>by
  simp only[Ep]at hx ⊢;split at hx
  case h_2=>cases hx
  rename_i s1 hs1;simp only[Dh h hs1];exact H1 h hx
theorem Cj (h:LeK K K'): ∀ {t:D} {s s':St},D7 K md t s=some s'->D7 K' md t s=some s'
 | .fin,s,s',hx=>hx
 | .one i t,s,s',hx=>by
  simp only[D7]at hx ⊢;split at hx
  case h_2=>cases hx
  rename_i s1 hs1;simp only[Dh h hs1];exact Cj h hx
 | .loud i hang t,s,s',hx=>by
  simp only[D7]at hx ⊢;obtain⟨h1,hx⟩:=A7 hx;rw[if_pos h1];split at hx
  case h_2=>cases hx
  rename_i s1 hs1;simp only[Dh h hs1];exact Cj h hx
 | .alt a b,s,s',hx=>by
  simp only[D7]at hx ⊢;obtain⟨h1,s2,h2,_⟩:=H2 hx;rw[h1,h2]at hx;rw[Cj h h1,Cj h h2];exact hx
theorem Bn (h:LeK K K') (hl:LeL Lp Lp'): ∀ {c:C} {s:St} {r:Ex×St},An K Lp md c s=some r->An K' Lp' md c s=some r
 | .skip,s,r,hx=>hx
 | .exit id,s,r,hx=>hx
 | .ret,s,r,hx=>hx
 | .reg l dr,s,r,hx=>by
  simp only[An]at hx ⊢;split at hx
  case h_2=>cases hx
  rename_i s1 hs1;simp only[H1 h hs1];exact hx
 | .dreg l dr,s,r,hx=>by
  simp only[An]at hx ⊢;split at hx
  case h_2=>cases hx
  rename_i s1 hs1;simp only[Cj h hs1];exact hx
 | .seq a b,s,r,hx=>by
  simp only[An]at hx ⊢;split at hx
  ·rename_i s1 hs1;simp only[Bn h hl hs1];exact Bn h hl hx
  ·rename_i hne;rw[Bn h hl hx];obtain⟨ex,s1⟩:=r
   cases ex with
   |normal=>exact absurd hx (hne s1)
   |exit id=>rfl
   |ret=>rfl
 | .cond x a b,s,r,hx=>by
  simp only[An]at hx ⊢;split at hx
  case h_2=>cases hx
  rename_i c hc
  cases c with
  |true=>exact Bn h hl hx
  |false=>exact Bn h hl hx
 | .blk id a,s,r,hx=>by
  simp only[An]at hx ⊢;split at hx
  ·rename_i j s1 hs1;simp only[Bn h hl hs1];exact hx
  ·rename_i hne;rw[Bn h hl hx];obtain⟨ex,s1⟩:=r
   cases ex with
   |normal=>rfl
   |exit id=>exact absurd hx (hne id s1)
   |ret=>rfl
 | .loop o live a,s,r,hx=>hl _ _ _ _ _ hx
variable {G:Nat->Option PF} {PK:Nat->List Arg->Option Res}
theorem Sw {args:List Arg} {res:List RP} {x y:Option (Ex×St)} (h: ∀r,x=some r->y=some r) {r:Res} (hx:RC res args x=some r):RC res args y=some r:=by
 obtain⟨ex,s,h1,_,_,_⟩:=Oh hx;rw[h1]at hx;rw[h _ h1];exact hx
theorem LG: ∀N,LeK (sem G PK md N).1 (sem G PK md (N+1)).1/\LeL (sem G PK md N).2 (sem G PK md (N+1)).2
 |0=>⟨fun f args r h=>by simp[sem]at h,fun o live c s r h=>by simp[sem]at h⟩
 |N+1=>by
  have ⟨h1,h2⟩:=LG N;constructor
  ·intro f args r h;simp only[sem]at h;rw[sem];simp only;split at h
   ·rename_i pf hpf;obtain⟨hn,h⟩:=A7 h;rw[if_pos hn];exact Sw (fun r hr=>Bn h1 h2 hr) h
   ·exact h
  ·intro o live c s r h;simp only[sem]at h;rw[sem];simp only;obtain⟨hn,h⟩:=A7 h;rw[if_pos hn];split at h
   ·rename_i s1 hs1;simp only[Bn h1 h2 hs1];exact h2 _ _ _ _ _ h
   ·rename_i hne;rw[Bn h1 h2 h];obtain⟨ex,s1⟩:=r
    cases ex with
    |normal=>exact absurd h (hne s1)
    |exit id=>rfl
    |ret=>rfl
theorem Cu {N M:Nat} (h:N<=M):LeK (sem G PK md N).1 (sem G PK md M).1/\LeL (sem G PK md N).2 (sem G PK md M).2:=by
 induction h with
 |refl=>exact⟨fun _ _ _ h=>h,fun _ _ _ _ _ h=>h⟩
 |step _ ih=>exact⟨fun f args r h=>(LG _).1 _ _ _ (ih.1 _ _ _ h),fun o live c s r h=>(LG _).2 _ _ _ _ _ (ih.2 _ _ _ _ _ h)⟩
open Classical in
noncomputable def AH (G:Nat->Option PF) (PK:Nat->List Arg->Option Res) (md:Nat->List Nat) (f:Nat) (args:List Arg):Option Res:=
 if h: ∃N r,(sem G PK md N).1 f args=some r then(sem G PK md h.choose).1 f args else none
open Classical in
noncomputable def Ag (G:Nat->Option PF) (PK:Nat->List Arg->Option Res) (md:Nat->List Nat) (o:Nat) (live:List Nat) (c:C) (s:St):Option (Ex×St):=
 if h: ∃N r,(sem G PK md N).2 o live c s=some r then(sem G PK md h.choose).2 o live c s else none
theorem Ik {f:Nat} {args:List Arg} {r:Res}:AH G PK md f args=some r<-> ∃N,(sem G PK md N).1 f args=some r:=by
 unfold AH;constructor
 ·intro h;split at h
  ·exact⟨_,h⟩
  ·cases h
 ·intro ⟨N,h⟩;have he: ∃N r,(sem G PK md N).1 f args=some r:=⟨N,r,h⟩;rw[dif_pos he];obtain⟨r',hr'⟩:=he.choose_spec;rw[hr'];have h1:=(Cu (Nat.le_max_left he.choose N)).1 _ _ _ hr';have h2:=(Cu (Nat.le_max_right he.choose N)).1 _ _ _ h;rw[h1]at h2;exact h2
theorem Ij {o:Nat} {live:List Nat} {c:C} {s:St} {r:Ex×St}:Ag G PK md o live c s=some r<-> ∃N,(sem G PK md N).2 o live c s=some r:=by
 unfold Ag;constructor
 ·intro h;split at h
  ·exact⟨_,h⟩
  ·cases h
 ·intro ⟨N,h⟩;have he: ∃N r,(sem G PK md N).2 o live c s=some r:=⟨N,r,h⟩;rw[dif_pos he];obtain⟨r',hr'⟩:=he.choose_spec;rw[hr'];have h1:=(Cu (Nat.le_max_left he.choose N)).2 _ _ _ _ _ hr';have h2:=(Cu (Nat.le_max_right he.choose N)).2 _ _ _ _ _ h;rw[h1]at h2;exact h2
noncomputable abbrev kN (G:Nat->Option PF) (PK:Nat->List Arg->Option Res) (md:Nat->List Nat) (N:Nat):=(sem G PK md N).1
theorem Ju {d:Option Nat} {o f:Nat} {xs:List AV} (hx:Ei (AH G PK md) md s d o f xs=some s'): ∃N,Ei (sem G PK md N).1 md s d o f xs=some s':=by
 unfold Ei at hx ⊢;split at hx
 case h_2=>cases hx
 rename_i g hg;split at hx
 case h_2=>cases hx
 rename_i r hr;obtain⟨N,hN⟩:=Ik.1 hr;exact⟨N,by simp only[hg,hN];exact hx⟩
theorem NB {d:Option Nat} {i:I} (hx:Aa (AH G PK md) md s d i=some s'): ∃N,Aa (sem G PK md N).1 md s d i=some s':=by
 cases i with
 |call o f xs=>exact Ju hx
 |callc o f xs cs=>
  simp only[Aa]at hx ⊢;split at hx
  case h_2=>cases hx
  rename_i h1 hh1;exact Ju hx
 |callv o x xs=>
  simp only[Aa]at hx ⊢;split at hx
  case h_2=>cases hx
  rename_i f caps hf;exact Ju hx
 |_=>exact⟨0,hx⟩
theorem JQ {i:Ins} (hx:Er (AH G PK md) md i s=some s'): ∃N,Er (sem G PK md N).1 md i s=some s':=by
 unfold Er at hx ⊢;split at hx
 ·exact NB hx
 ·obtain⟨h1,hx⟩:=A7 hx;simp only[if_pos h1];split at hx
  ·rename_i b1 hb1;split at hx
   ·rename_i hb;simp only[if_pos hb];exact NB hx
   ·rename_i hb;simp only[if_neg hb];exact⟨0,hx⟩
  ·exact⟨0,hx⟩
  ·cases hx
theorem NA: ∀ {l:List Ins} {s s':St},Ep (AH G PK md) md l s=some s'-> ∃N,Ep (sem G PK md N).1 md l s=some s'
 |[],s,s',hx=>⟨0,hx⟩
 |i::l,s,s',hx=>by
  simp only[Ep]at hx ⊢;split at hx
  case h_2=>cases hx
  rename_i s1 hs1;obtain⟨N,hN⟩:=JQ hs1;obtain⟨M,hM⟩:=NA hx;refine⟨max N M,?_⟩;simp only[Dh (Cu (Nat.le_max_left N M)).1 hN];exact H1 (Cu (Nat.le_max_right N M)).1 hM
theorem GT: ∀ {t:D} {s s':St},D7 (AH G PK md) md t s=some s'-> ∃N,D7 (sem G PK md N).1 md t s=some s'
 | .fin,s,s',hx=>⟨0,hx⟩
 | .one i t,s,s',hx=>by
  simp only[D7]at hx ⊢;split at hx
  case h_2=>cases hx
  rename_i s1 hs1;obtain⟨N,hN⟩:=JQ hs1;obtain⟨M,hM⟩:=GT hx;refine⟨max N M,?_⟩;simp only[Dh (Cu (Nat.le_max_left N M)).1 hN];exact Cj (Cu (Nat.le_max_right N M)).1 hM
 | .loud i hang t,s,s',hx=>by
  simp only[D7]at hx ⊢;obtain⟨h1,hx⟩:=A7 hx;simp only[if_pos h1];split at hx
  case h_2=>cases hx
  rename_i s1 hs1;obtain⟨N,hN⟩:=JQ hs1;obtain⟨M,hM⟩:=GT hx;refine⟨max N M,?_⟩;simp only[Dh (Cu (Nat.le_max_left N M)).1 hN];exact Cj (Cu (Nat.le_max_right N M)).1 hM
 | .alt a b,s,s',hx=>by
  simp only[D7]at hx ⊢;obtain⟨h1,s2,h2,_⟩:=H2 hx;rw[h1,h2]at hx;obtain⟨N,hN⟩:=GT h1;obtain⟨M,hM⟩:=GT h2;refine⟨max N M,?_⟩;rw[Cj (Cu (Nat.le_max_left N M)).1 hN,Cj (Cu (Nat.le_max_right N M)).1 hM];exact hx
theorem Cx: ∀ {c:C} {s:St} {r:Ex×St},An (AH G PK md) (Ag G PK md) md c s=some r-> ∃N,An (sem G PK md N).1 (sem G PK md N).2 md c s=some r
 | .skip,s,r,hx=>⟨0,hx⟩
 | .exit id,s,r,hx=>⟨0,hx⟩
 | .ret,s,r,hx=>⟨0,hx⟩
 | .reg l dr,s,r,hx=>by
  simp only[An]at hx ⊢;split at hx
  case h_2=>cases hx
  rename_i s1 hs1;obtain⟨N,hN⟩:=NA hs1;exact⟨N,by simp only[hN];exact hx⟩
 | .dreg l dr,s,r,hx=>by
  simp only[An]at hx ⊢;split at hx
  case h_2=>cases hx
  rename_i s1 hs1;obtain⟨N,hN⟩:=GT hs1;exact⟨N,by simp only[hN];exact hx⟩
 | .seq a b,s,r,hx=>by
  simp only[An]at hx ⊢;split at hx
  ·rename_i s1 hs1;obtain⟨N,hN⟩:=Cx hs1;obtain⟨M,hM⟩:=Cx hx;refine⟨max N M,?_⟩;have h1:=Cu (G:=G) (PK:=PK) (md:=md) (Nat.le_max_left N M);have h2:=Cu (G:=G) (PK:=PK) (md:=md) (Nat.le_max_right N M);simp only[Bn h1.1 h1.2 hN];exact Bn h2.1 h2.2 hM
  ·rename_i hne;obtain⟨N,hN⟩:=Cx hx;refine⟨N,?_⟩;rw[hN];obtain⟨ex,s1⟩:=r
   cases ex with
   |normal=>exact absurd hx (hne s1)
   |exit id=>rfl
   |ret=>rfl
 | .cond x a b,s,r,hx=>by
  simp only[An]at hx ⊢;split at hx
  case h_2=>cases hx
  rename_i c hc
  cases c with
  |true=>exact Cx hx
  |false=>exact Cx hx
 | .blk id a,s,r,hx=>by
  simp only[An]at hx ⊢;split at hx
  ·rename_i j s1 hs1;obtain⟨N,hN⟩:=Cx hs1;exact⟨N,by simp only[hN];exact hx⟩
  ·rename_i hne;obtain⟨N,hN⟩:=Cx hx;refine⟨N,?_⟩;rw[hN];obtain⟨ex,s1⟩:=r
   cases ex with
   |normal=>rfl
   |exit id=>exact absurd hx (hne id s1)
   |ret=>rfl
 | .loop o live a,s,r,hx=>Ij.1 hx
theorem AA {f:Nat} {pf:PF} {args:List Arg} {r:Res} (hG:G f=some pf) (hn:args.length<=pf.n) (h:RC pf.res args (An (AH G PK md) (Ag G PK md) md pf.body (Nm pf.n args))=some r):AH G PK md f args=some r:=by
 obtain⟨ex,s,h1,_,_,_⟩:=Oh h;obtain⟨N,hN⟩:=Cx h1;refine Ik.2 ⟨N+1,?_⟩;rw[h1]at h;simp only[sem,hG,if_pos hn,hN];exact h
theorem semK_prim {f:Nat} {args:List Arg} {r:Res} (hG:G f=none) (h:PK f args=some r):AH G PK md f args=some r:=
 Ik.2 ⟨1,by simp only[sem,hG];exact h⟩
theorem FG {o:Nat} {live:List Nat} {c:C} {s s1:St} {r:Ex×St} (hm:s.m<=o) (h:An (AH G PK md) (Ag G PK md) md c (Ai o live s)=some (.normal,s1)) (h2:Ag G PK md o live c s1=some r):Ag G PK md o live c s=some r:=by
 obtain⟨N,hN⟩:=Cx h;obtain⟨M,hM⟩:=Ij.1 h2;have h3:=Cu (G:=G) (PK:=PK) (md:=md) (Nat.le_max_left N M);have h4:=Cu (G:=G) (PK:=PK) (md:=md) (Nat.le_max_right N M);refine Ij.2 ⟨max N M+1,?_⟩;simp only[sem,if_pos hm,Bn h3.1 h3.2 hN];exact h4.2 _ _ _ _ _ hM
theorem Dj {o:Nat} {live:List Nat} {c:C} {s:St} {r:Ex×St} (hm:s.m<=o) (h:An (AH G PK md) (Ag G PK md) md c (Ai o live s)=some r) (hr:r.1≠ .normal):Ag G PK md o live c s=some r:=by
 obtain⟨N,hN⟩:=Cx h;refine Ij.2 ⟨N+1,?_⟩;simp only[sem,if_pos hm,hN];obtain⟨ex,s1⟩:=r
 cases ex with
 |normal=>exact absurd rfl hr
 |exit id=>rfl
 |ret=>rfl
theorem semK_ok {P:Program} (hm:P.follows .mixedOrders=true) {H:Nat->AI} (hG:GOk P H G) (hPK:KOk P PK):KOk P (AH G PK md):=fun f args r h=>by
 obtain⟨N,hN⟩:=Ik.1 h;exact(sem_ok hm hG hPK N).1 f args r hN
end
section
open Go Go.ChangeShapes
inductive Ty where
 |int (k:IntKind)
 |bool
 |str
 |sl (row:List Ty)
inductive IsT:Ty->T->Prop
 |int (k:IntKind) (n:Int) (h:(Lit.int k n).wf=true):IsT (.int k) (.sc (.int k n))
 |bool (b:Bool):IsT .bool (.sc (.bool b))
 |str (s:ByteArray) (h:s.size<=maxLen):IsT .str (.sc (.string s))
 |sl (row:List Ty) (rows:List (List T)) (hl:rows.length<=maxLen) (hr: ∀r∈rows,r.length=row.length)
   (h: ∀r∈rows,∀ (j:Nat) ty t,row[j]? =some ty->r[j]? =some t->IsT ty t):IsT (.sl row) (.sl row.length rows)
def TB (f:TypeId->Option (List Ty)) (c:TypeId->Nat):Nat->List Field->Option (List Ty)
 |_,[]=>some []
 |off,fd::fs=>if fd.offset=off then match f fd.type with
  |some r=>if r.length=c fd.type then(TB f c (off+r.length) fs).map (r++ ·)else none
  |none=>none
  else none
def O2 (P:Program):Nat->TypeId->Option (List Ty)
 |0,_=>none
 |n+1,t=>match P.underlying t with
  |some .bool=>some [.bool]
  |some (.int k)=>some [.int k]
  |some .string=>some [.str]
  |some (.slice e)=>match O2 P n e with
   |some (y::r)=>if P.cellsOf e=(y::r).length then some [.sl (y::r)]else none
   |_=>none
  |some (.struct fs)=>match TB (O2 P n) P.cellsOf 0 fs.toList with
   |some r=>if P.cellsOf t=r.length then some r else none
   |none=>none
  |_=>none
structure LR (w:World) (tys:List Ty) (cs:List Value) (ts:List T):Prop where
 len:ts.length=tys.length
 len2:cs.length=tys.length
 ok: ∀ (j:Nat) ty v d,tys[j]? =some ty->cs[j]? =some v->ts[j]? =some d->IsT ty d/\POk w (fun b=>b<w.heap.size) v d
theorem LR.nil (w:World):LR w [] [] []:=⟨rfl,rfl,fun j ty v d h=>by simp at h⟩
theorem LR.one {w:World} {ty:Ty} {v:Value} {d:T} (h1:IsT ty d) (h2:POk w (fun b=>b<w.heap.size) v d):LR w [ty] [v] [d]:=
 ⟨rfl,rfl,fun j ty' v' d' a b c=>by
  cases j with
  |zero=>
   simp only[List.getElem?_cons_zero,Option.some.injEq]at a b c;subst a;subst b;subst c;exact⟨h1,h2⟩
  |succ j=>simp at a⟩
theorem LR.append {w:World} {tys tys':List Ty} {cs cs':List Value} {ts ts':List T} (h:LR w tys cs ts) (h':LR w tys' cs' ts'):LR w (tys++tys') (cs++cs') (ts++ts'):=by
 refine⟨by simp[h.len,h'.len],by simp[h.len2,h'.len2],fun j ty v d a b c=> ?_⟩;rw[List.getElem?_append]at a b c;rw[h.len2]at b;rw[h.len]at c;split at a
 ·rename_i hj;rw[if_pos hj]at b c;exact h.ok j ty v d a b c
 ·rename_i hj;rw[if_neg hj]at b c;exact h'.ok _ ty v d a b c
theorem Rn {α:Type} {p:Nat->α->Prop}: ∀n:Nat,(∀i,i<n-> ∃x,p i x)-> ∃l:List α,l.length=n/\ ∀ (i:Nat) x,l[i]? =some x->p i x
 |0,_=>⟨[],rfl,fun i x h=>by simp at h⟩
 |n+1,h=>by
  obtain⟨l,h1,h2⟩:=Rn n fun i hi=>h i (by omega)
  obtain⟨x,hx⟩:=h n (by omega);refine⟨l++[x],by simp[h1],fun i y hy=> ?_⟩;rw[List.getElem?_append]at hy;split at hy
  ·exact h2 i y hy
  ·rename_i hi
   cases hj:i - l.length with
   |zero=>
    rw[hj]at hy;simp only[List.getElem?_cons_zero,Option.some.injEq]at hy;subst hy;rwa [show i=n by omega]
   |succ j=>rw[hj]at hy;simp at hy
theorem RF {w:World} {base:Nat} {a:Addr} {n:Nat} {cs:List Value} (h:w.cells? base a n=some cs):cs.length=n/\ ∀i v,cs[i]? =some v->w.cell? (a.add i)=some v:=by
 unfold World.cells? at h;obtain⟨_,h⟩:=A7 h;have hl:cs.length=n:=by simpa using mapM_some_length h
 refine⟨hl,fun i v hv=> ?_⟩;have hi:i<n:=hl ▸ (List.getElem?_eq_some_iff.1 hv).1;rw[←hv];exact mapM_some_get h i i (by simp[hi])
theorem RG {w:World} {a:Addr} {v:Value} (h:w.cell? a=some v):a=⟨a.block,a.off,none⟩/\a.block<w.heap.size:=by
 unfold World.cell? at h;split at h
 ·rename_i c t f hc;split at h
  ·cases h
  ·rename_i hs;obtain⟨b,o,s⟩:=a;have:s=none:=by cases s<;>simp_all
   subst this;exact⟨rfl,(Array.getElem?_eq_some_iff.1 hc).1⟩
 ·cases h
section
variable {H:Type} {enc:TypeId×Value->H} {P:Program} {w:World} {spare:Nat->Bool} {held:Bool}
theorem TC: ∀ (n:Nat) (t:TypeId) (cs:List Value) (x:DataW H×List MemPlace) (m:Nat) (tys:List Ty),DataW.trod enc P w 0 spare held n t cs=some x->O2 P m t=some tys-> ∃ts,LR w tys cs ts:=by
 intro n
 induction n with
 |zero=>intro t cs x m tys h;simp[DataW.trod]at h
 |succ n ih=>
  intro t cs x m tys h ht
  cases m with
  |zero=>simp[O2]at ht
  |succ m=>
   simp only[O2]at ht;split at ht
   ·rename_i hu
    cases ht
    obtain⟨b,rfl,_⟩:=DataW.trod_bool hu h;exact⟨_,.one (.bool b) (.sc _ rfl)⟩
   ·rename_i k hu
    cases ht
    obtain⟨i,rfl,_,hw⟩:=DataW.trod_int hu h;exact⟨_,.one (.int k i hw) (.sc _ rfl)⟩
   ·rename_i hu
    cases ht
    obtain⟨s,rfl,_,hs⟩:=DataW.trod_string hu h;exact⟨_,.one (.str s hs) (.sc _ rfl)⟩
   ·rename_i e hu;split at ht
    case h_2=>cases ht
    rename_i y r hty;obtain⟨hsz,ht⟩:=A7 ht
    cases ht
    rcases DataW.trod_slice hu h with ⟨rfl,_⟩|⟨a,len,cap,elems,rest,n',hn,rfl,_,_,hl,hm,hlen,hel,_,_⟩
    ·exact⟨_,.one (.sl (y::r) [] (Nat.zero_le _) (fun r h=>by cases h) (fun r h=>by cases h)) (.nil none 0 _)⟩
    ·cases hn
     have hrow: ∀i,i<len-> ∃ts us,LR w (y::r) us ts/\ ∀ (j:Nat) v,us[j]? =some v->w.cell? ((a.add (i*(r.length+1))).add j)=some v:=by
      intro i hi;have h1:=hel i hi;obtain⟨z,hz⟩:=AE (l:=elems) (i:=i) (by omega);rw[hz,Option.bind_eq_some_iff,hsz]at h1;obtain⟨us,h2,h3⟩:=h1;obtain⟨g1,g2⟩:=RF h2;obtain⟨ts,hts⟩:=ih e us z m (y::r) h3 hty;exact⟨ts,us,hts,fun j v hv=>g2 j v hv⟩
     obtain⟨rows,l1,l2⟩:=Rn len hrow;have hrl: ∀ (i:Nat) rr,rows[i]? =some rr->rr.length=r.length+1:=fun i rr hrr=>by
      obtain⟨us,h1,_⟩:=l2 i rr hrr;simpa using h1.len
     refine⟨[.sl (r.length+1) rows],.one (.sl (y::r) rows (by rw[l1];omega) (fun rr hrr=> ?_) (fun rr hrr j ty d hty' hd=> ?_)) ?_⟩
     ·obtain⟨i,hi⟩:=List.getElem?_of_mem hrr;simpa using hrl i rr hi
     ·obtain⟨i,hi⟩:=List.getElem?_of_mem hrr;obtain⟨us,h1,_⟩:=l2 i rr hi;obtain⟨v,hv⟩:=AE (l:=us) (i:=j) (by rw[h1.len2];exact(List.getElem?_eq_some_iff.1 hty').1);exact(h1.ok j ty v d hty' hv hd).1
     ·cases len with
      |zero=>
       have:rows=[]:=List.eq_nil_of_length_eq_zero l1;subst this;exact .nil _ _ _
      |succ len=>
       obtain⟨r0,hr0⟩:=AE (l:=rows) (i:=0) (by omega);obtain⟨us0,q1,q2⟩:=l2 0 r0 hr0;obtain⟨v0,hv0⟩:=AE (l:=us0) (i:=0) (by rw[q1.len2];simp);have hc0:=q2 0 v0 hv0;have ha:a=⟨a.block,a.off,none⟩/\a.block<w.heap.size:=by
        have:=RG hc0;simpa[Addr.add]using this
       obtain⟨b,off,sp⟩:=a;obtain⟨ha1,ha2⟩:=ha
       cases ha1
       have key: ∀i j d,AM rows i j=some d-> ∃u,w.cell? ⟨b,off+(i*(r.length+1)+j),none⟩=some u/\POk w (fun b=>b<w.heap.size) u d:=fun i j d hd=>by
        unfold AM at hd;split at hd
        case h_2=>cases hd
        rename_i rr hrr;obtain⟨us,h1,h2⟩:=l2 i rr hrr;obtain⟨v,hv⟩:=AE (l:=us) (i:=j) (by rw[h1.len2,←h1.len];exact(List.getElem?_eq_some_iff.1 hd).1);obtain⟨ty,hty'⟩:=AE (l:=y::r) (i:=j) (by rw[←h1.len];exact(List.getElem?_eq_some_iff.1 hd).1);refine⟨v,?_,(h1.ok j ty v d hty' hv hd).2⟩;have:=h2 j v hv;rw[Bg,Bg]at this;rw[←this,Nat.add_assoc]
       have:=POk.sl (w:=w) (Im:=fun b=>b<w.heap.size) b off cap (r.length+1) rows (fun i j=>(w.cell? ⟨b,off+(i*(r.length+1)+j),none⟩).getD undef) ha2 (by rw[l1];exact hl)
        (fun rr hrr=>by
         obtain⟨i,hi⟩:=List.getElem?_of_mem hrr;exact hrl i rr hi)
        (fun i j d hd=>by obtain⟨u,h1,_⟩:=key i j d hd;rw[h1];rfl)
        (fun i j d hd=>by obtain⟨u,h1,h2⟩:=key i j d hd;rw[h1];exact h2)
       rw[l1]at this;exact this
   ·rename_i fs hu;split at ht
    case h_2=>cases ht
    rename_i r hr;obtain⟨hsz,ht⟩:=A7 ht
    cases ht
    obtain⟨xs,n',hn,_,hlen,hxs,hf⟩:=DataW.trod_struct hu h
    cases hn
    have key: ∀ (gs:List Field) (i off:Nat) (r':List Ty),(∀ (j:Nat) g,gs[j]? =some g->fs[i+j]? =some g)->TB (O2 P m) P.cellsOf off gs=some r'->(cs.drop off).length=r'.length-> ∃ts,LR w r' (cs.drop off) ts:=by
     intro gs
     induction gs with
     |nil=>
      intro i off r' _ h1 h2;simp only[TB,Option.some.injEq]at h1;subst h1;have:cs.drop off=[]:=List.eq_nil_of_length_eq_zero h2;rw[this];exact⟨[],.nil w⟩
     |cons g gs ihg=>
      intro i off r' hg h1 h2;simp only[TB]at h1;obtain⟨hoff,h1⟩:=A7 h1;split at h1
      case h_2=>cases h1
      rename_i rg hrg;obtain⟨hl1,h1⟩:=A7 h1;obtain⟨r2,hr2,rfl⟩:=BS h1;have hgi:fs[i]? =some g:=hg 0 g rfl;have hgf:=hf i g hgi;obtain⟨z,hz⟩:=AE (l:=xs) (i:=i) (by rw[hxs];exact(Array.getElem?_eq_some_iff.1 hgi).1);rw[hz,hoff,←hl1]at hgf;obtain⟨ts1,hts1⟩:=ih g.type _ z m rg hgf hrg;rw[List.length_drop,List.length_append]at h2;obtain⟨ts2,hts2⟩:=ihg (i+1) (off+rg.length) r2 (fun j g' hj=>by have:=hg (j+1) g' (by simpa using hj);rwa [show i+(j+1)=i+1+j by omega]at this) hr2 (by rw[List.length_drop];omega);refine⟨ts1++ts2,?_⟩;have:=hts1.append hts2;rw[←List.drop_drop,List.take_append_drop]at this;exact this
    have:=key fs.toList 0 0 _ (fun j g hg=>by rw[Nat.zero_add];simpa using hg) hr (by rw[List.drop_zero,hlen,hsz]);rwa [List.drop_zero]at this
   ·cases ht
end
end
def F8:T->L
 | .sc v=> .sc v
 | .sl k rows=> .im k rows
 | .hole=> .sc (.bool false)
inductive M6 (w:World):Arg->Value->Prop
 |v (t:T) (v:Value) (hh:t≠ .hole) (h:POk w (fun b=>b<w.heap.size) v t):M6 w (.v (F8 t)) v
 |a (ts:List T) (vs:List Value) (hl:ts.length=vs.length) (hh: ∀t∈ts,t≠ .hole) (h: ∀ (j:Nat) t v,ts[j]? =some t->vs[j]? =some v->POk w (fun b=>b<w.heap.size) v t):M6 w (.a (ts.map F8)) (.agg vs.toArray)
def Qs (w:World):Env:={w,ob:=fun _=> .none,hd:=fun _ _=>undef,bk:=fun _=>0,Im:=fun b=>b<w.heap.size,tk:=fun _=>undef}
def lawF (w:World):Fm:={w0:=w,F:=fun _=>False,I:=fun b=>b<w.heap.size,H:=fun _=>undef,B:=fun _=>0,T:=fun _=>undef}
def IG:T->AV
 | .sc v=> .sc v
 | .sl k rows=> .im k rows
 | .hole=> .sc (.bool false)
theorem FJ (n:Nat): ∀ts:List T,AW n (ts.map F8)=(ts.map IG,[],n)
 |[]=>rfl
 | .sc v::ts=>by simp[F8,IG,AW,FJ n ts]
 | .sl k r::ts=>by simp[F8,IG,AW,FJ n ts]
 | .hole::ts=>by simp[F8,IG,AW,FJ n ts]
theorem NS {w:World} {t:T} {v:Value} (hh:t≠ .hole) (h:POk w (fun b=>b<w.heap.size) v t):AS (Qs w) (IG t) v:=by
 cases t with
 |sc u=>cases h with|sc _ hs=>exact .sc _ hs
 |sl k r=>exact .im _ _ _ h
 |hole=>exact absurd rfl hh
theorem Qp {w:World} {x:Arg} {v:Value} (h:M6 w x v) (n:Nat):(AU n x).2=([],n)/\AS (Qs w) (AU n x).1 v/\ ∀ls,x≠ .pm ls:=by
 cases h with
 |v t v hh h=>
  have:AU n (.v (F8 t))=(IG t,[],n):=by
   have:=FJ n [t];simp only[List.map_cons,List.map_nil]at this;simp[AU,this]
  rw[this];exact⟨rfl,NS hh h,fun ls h=>by cases h⟩
 |a ts vs hl hh h=>
  have:AU n (.a (ts.map F8))=(.agg (ts.map IG),[],n):=by simp[AU,FJ]
  rw[this];refine⟨rfl,.agg _ _ (by simpa using hl) fun i x u hx hu=> ?_,fun ls h=>by cases h⟩;rw[List.getElem?_map]at hx;obtain⟨t,ht,rfl⟩:=BS hx;exact NS (hh t (List.mem_of_getElem? ht)) (h i t u ht hu)
theorem GZ {w:World}: ∀ {args:List Arg} {vs:List Value} (t n:Nat),args.length=vs.length->(∀ (i:Nat) x v,args[i]? =some x->vs[i]? =some v->M6 w x v)->
  (AK t n args).2=([],n)/\(Ah n args)=([],[])/\ ∀ (i:Nat) v,vs[i]? =some v->AS (Qs w) (At (AK t n args).1 (t+i)) v
 |[],vs,t,n,hl,_=>⟨rfl,rfl,fun i v hv=>by cases vs<;>simp_all⟩
 |x::args,[],t,n,hl,_=>by simp at hl
 |x::args,v::vs,t,n,hl,h=>by
  obtain⟨g1,g2,g3⟩:=Qp (h 0 x v rfl rfl) n;obtain⟨k1,k2,k3⟩:=GZ (args:=args) (vs:=vs) (t+1) n (by simpa using hl) (fun i x v hx hv=>h (i+1) x v hx hv);have e1:(AU n x).2.1=[]:=by rw[g1]
  have e2:(AU n x).2.2=n:=by rw[g1]
  refine⟨?_,?_,fun i u hu=> ?_⟩
  ·simp only[AK,e1,e2,k1,List.nil_append]
  ·cases x with
   |pm ls=>exact absurd rfl (g3 ls)
   |v l=>simp only[Ah,e1,e2,k2];rfl
   |a l=>simp only[Ah,e1,e2,k2];rfl
   |pi l=>simp only[Ah,e1,e2,k2];rfl
   |c f l=>simp only[Ah,e1,e2,k2];rfl
  ·simp only[AK,e2]
   cases i with
   |zero=>
    simp only[List.getElem?_cons_zero,Option.some.injEq]at hu;subst hu;simp only[At,Nat.add_zero,if_true];exact g2
   |succ i=>
    simp only[List.getElem?_cons_succ]at hu;have:=k3 i u hu;simp only[At];rw[if_neg (by omega),show t+(i+1)=t+1+i by omega];exact this
theorem Sd {w:World} {args:List Arg} {vs:List Value} (hl:args.length=vs.length) (h: ∀ (i:Nat) x v,args[i]? =some x->vs[i]? =some v->M6 w x v):JI (lawF w) (Qs w) args vs:=by
 obtain⟨k1,k2,k3⟩:=GZ 0 0 hl h;have hn: ∀o p,(Qs w).node o p=none:=fun o p=>rfl
 have hb: ∀l,(Qs w).blk l=none:=fun l=>by cases l<;>rfl
 refine⟨⟨fun o cs h=>(by cases h),fun o p k rows h=>(by rw[hn]at h;cases h),fun l l' b h=>(by rw[hb]at h;cases h),fun l b h=>(by rw[hb]at h;cases h),fun x hx=>⟨hx,fun h=> .inl hx⟩,fun x hx=>hx,.refl _ _,rfl⟩,rfl,rfl,fun _=>rfl,fun _=>rfl,fun o=>by rw[k1];rfl,hl,fun i v hv=> ?_⟩;have:=k3 i v hv;rwa [Nat.zero_add]at this
def yes:Res:={out:=[.v (.sc (.bool true))],fin:=[],pfin:=[]}
theorem law_calls {P:Program} {K:Nat->List Arg->Option Res} (hK:KOk P K) {f:Nat} {args:List Arg} {vs:List Value} {w:World} (hl:args.length=vs.length) (h: ∀ (i:Nat) x v,args[i]? =some x->vs[i]? =some v->M6 w x v)
  (hs:K f args=some yes):Calls P f vs.toArray w fun
   | .returned v,w'=>v= .bool true/\RowKit.Below w.heap.size w w'
   |_,_=>False:=by
 have hE:=Sd hl h
 refine Calls.mono ((hK f args yes hs).2 (lawF w) (Qs w) vs hE) fun en w' hh=> ?_
 cases en with
 |panicked _=>exact hh.elim
 |outgrown=>exact hh.elim
 |returned v=>
  obtain⟨e',rfl,hx⟩:=hh;obtain⟨k1,k2,k3⟩:=GZ 0 0 hl h;have hv:=hx.val;have he:Cd args yes=([.sc (.bool true)],[]):=by
   have k1':AK 0 0 args=((AK 0 0 args).1,[],0):=by rw[←k1]
   simp only[Cd];rw[k1'];simp[k2,yes,Bf,CE,CU,CH,AU,AW]
  rw[he]at hv;have hk:=hx.mem.keeps;exact⟨hv.sc_inv.1,hk.os,hk.tape,hk.output,hk.size,fun k hlt=>hk.block k hlt fun hf=>hf⟩
section
variable {P:Program} {fm fm0:Fm} {M:List Nat} {e e' e0:Env} {s s':St} {a a':Act} {Q:Exit->Act->World->Prop}
def cl0 (t:TypeId):Array Oper:= #[{dst:=some 2,op:= .assign (.const (.slice none 0 0)),type:=t,pos:= "slices.go:355",after:= #[],guard:=none}]
def cl1 (t b:TypeId):Array Oper:= #[{dst:=some 3,op:= .move (.tmp 0),type:=t,pos:= "slices.go:357",after:= #[],guard:=none},
 {dst:=some 4,op:= .binOp .eql t (.tmp 3) (.const (.slice none 0 0)) t,type:=b,pos:= "slices.go:357",after:= #[{on:=0,ground:= .data}],guard:=none}]
def cl2 (t:TypeId):Array Oper:= #[{dst:=some 2,op:= .assign (.const (.slice none 0 0)),type:=t,pos:= "slices.go:358",after:= #[],guard:=none}]
def cl3 (t:TypeId):Array Oper:= #[{dst:=some 5,op:= .buildSlice t 0 #[],type:=t,pos:= "slices.go:362",after:= #[],guard:=none},
 {dst:=some 6,op:= .move (.tmp 0),type:=t,pos:= "slices.go:362",after:= #[],guard:=none},
 {dst:=some 7,op:= .call {callee:= .builtin .append,args:= #[.tmp 5,.tmp 6],argTypes:= #[t,t]},type:=t,pos:= "slices.go:362",after:= #[{on:=0,ground:= .data},{on:=1,ground:= .data}],guard:=none},
 {dst:=some 2,op:= .assign (.tmp 7),type:=t,pos:= "slices.go:362",after:= #[{on:=2,ground:= .data},{on:=2,ground:= .chain},{on:=0,ground:= .phase},{on:=1,ground:= .phase},{on:=2,ground:= .phase}],guard:=none}]
def S2 (t b:TypeId):Code:=
 (Code.region 0 (cl0 t) false).seq (((Code.region 1 (cl1 t b) false).seq (Code.cond (.tmp 4) ((Code.region 2 (cl2 t) false).seq .ret) .skip)).seq ((Code.region 3 (cl3 t) false).seq .ret))
theorem eql_nil {t el:TypeId} (ht:P.underlying t=some (.slice el)) (ad:Option Addr) (n c:Nat) (w:World):(binOp .eql t (.slice ad n c) (.slice none 0 0)).run P w= .ok (.bool ad.isNone) w:=by
 have hd: ∀d,(Op.equalIn (d+1) t (.slice ad n c) (.slice none 0 0)).run P w= .ok ad.isNone w:=by
  intro d
  cases ad with
  |none=>simp[Op.equalIn,AQ ht]
  |some x=>simp[Op.equalIn,AQ ht]
 have he:(Op.equal t (.slice ad n c) (.slice none 0 0)).run P w= .ok ad.isNone w:=hd 9999;simp[binOp,he]
def K0 (_:Nat) (_:List Arg):Option Res:=none
theorem T6:KOk P K0:=fun f args r h=>by cases h
theorem clone_ok {f:Nat} {fn:Func} {t b el:TypeId} {k bytes:Nat} (hfn:P.funcs[f]? =some fn) (hname:fn.name≠ "runtime.NumGoroutine") (hb:fn.body=some (S2 t b)) (hr:fn.results= #[.tmp 2]) (hn:fn.ntmps=8)
  (ht:P.underlying t=some (.slice el)) (hk:Bd P el=some k) (hby:Cz P el=some bytes) (hz:(BW P el).map List.length=some k) (hpos:0<bytes)
  {rows:List (List T)} (hflat:BA rows=true) (hsz:rows.length*bytes<=35184372088832):Ot P f/\RN P f [.v (.im k rows)] {out:=[.v (.own k rows)],fin:=[],pfin:=[]}:=by
 refine⟨⟨fn,hfn,hname,by rw[hb];simp⟩,fun fm e vs hE=> ?_⟩
 have hlen:=hE.len
 obtain⟨v,rfl⟩: ∃v,vs=[v]:=by
  cases vs with
  |nil=>simp at hlen
  |cons v vs=>cases vs with
   |nil=>exact⟨v,rfl⟩
   |cons _ _=>simp at hlen
 have hR:=Nl hE (n:=fn.ntmps) (by simp[hn])
 refine calls_of_wp hfn hb ?_
 have hres:Ca P fn.results.toList=some [.t 2]:=by rw[hr];rfl
 have hend: ∀ {e':Env} {s:St} {a':Act} {ex:Exit},Rel fm e' s a'->s.m=0->KB [.t 2] [.v (.im k rows)] s=some {out:=[.v (.own k rows)],fin:=[],pfin:=[]}->ex= .ret->
   bodyPost P fn (fun
    | .returned v,w'=> ∃e',e'.w=w'/\Mo fm e [.v (.im k rows)] {out:=[.v (.own k rows)],fin:=[],pfin:=[]} e' v
    |_,_=>False) ex a' e'.w:=by
  intro e' s a' ex hR' hm hl hex
  subst hex
  obtain⟨v,e2,g1,g2,g3⟩:=PZ hE hR' (by rw[hm];rfl) hres hl
  exact⟨hR'.defers,v,g1,e2,g2,g3⟩
 generalize hS:Nm fn.ntmps [.v (.im k rows)]=s0 at hR
 have hs0:s0={n:=8,m:=0,tm:=[(0,.im k rows)],ob:=[]}:=by rw[←hS,hn];rfl
 subst hs0
 generalize bodyPost P fn (fun
    | .returned v,w'=> ∃e',e'.w=w'/\Mo fm e [.v (.im k rows)] {out:=[.v (.own k rows)],fin:=[],pfin:=[]} e' v
    |_,_=>False)=Q at hend ⊢
 refine wp_seq (HF (K:=K0) (md:=fun _=>[]) (h:={}) (n:=8) (l:=[⟨some 2,.mov (.k (.nil k)),none⟩]) (s':={n:=8,m:=0,tm:=[(2,.nil k),(0,.im k rows)],ob:=[]}) T6 hR ?_ ?_ ?_)
 ·simp[cl0,B6,CK,Bh,xOf,Fy,Ef,ht,hk]
 ·rfl
 intro e1 a1 hR1
 refine wp_seq (wp_seq (wp_region ?_))
 have h3:=hR1.tm 0
 have hx0:xOf P t (.tmp 0)=some (.t 0):=rfl
 have hwp:=(OB (P:=P) (o:={dst:=some 3,op:= .move (.tmp 0),type:=t,pos:= "slices.go:357",after:= #[],guard:=none}) (s':={n:=8,m:=0,tm:=[(3,.im k rows),(2,.nil k),(0,.im k rows)],ob:=[]}) hR1 (.inl rfl) hx0 rfl).wp (M:=[]) hR1
 show wpOps P (cl1 t b) _ [0,1] a1 e1.w
 simp only[wpOps,cl1,List.getElem?_toArray,List.getElem?_cons_zero,Region.wanted,if_true]
 refine .inl (Oper.wp_mono (fun a2 w2 hh=> ?_) (hwp _))
 obtain⟨e2,rfl,hR2,_⟩:=hh
 simp only[List.getElem?_cons_succ,List.getElem?_cons_zero,if_true]
 refine .inl ?_
 have hv3:=hR2.tm 3
 simp only[At,if_true]at hv3
 generalize hev:a2.tmps.getD 3 undef=v3 at hv3
 have hev3:a2.eval (.tmp 3)=v3:=hev
 obtain⟨ad,n',c,hv3e,hnil⟩: ∃ad n c,v3= .slice ad n c/\(ad=none->rows=[]):=by
  cases hv3 with
  |im v k rows hp=>
   cases hp with
   |nil ad c k=>exact⟨ad,0,c,rfl,fun _=>rfl⟩
   |sl b off c k rows us _ _ _ _ _=>exact⟨_,_,_,rfl,fun h=>by cases h⟩
 subst hv3e
 have hrun:(execOp a2.eval {dst:=some 4,op:= .binOp .eql t (.tmp 3) (.const (.slice none 0 0)) t,type:=b,pos:= "slices.go:357",after:= #[{on:=0,ground:= .data}],guard:=none}).run P e2.w= .ok (.value (.bool ad.isNone)) e2.w:=by
  have hg:(eqGuard .eql t (.tmp 3) (.const (.slice none 0 0)) (.slice ad n' c) (.slice none 0 0)).run P e2.w= .ok () e2.w:=rfl;have hc:a2.eval (.const (.slice none 0 0))= .slice none 0 0:=rfl;simp[execOp,hev3,hc,hg,eql_nil ht]
 have hput:({n:=8,m:=0,tm:=[(3,.im k rows),(2,.nil k),(0,.im k rows)],ob:=[]}:St).put (some 4) (.sc (.bool ad.isNone))=some {n:=8,m:=0,tm:=[(4,.sc (.bool ad.isNone)),(3,.im k rows),(2,.nil k),(0,.im k rows)],ob:=[]}:=rfl
 refine Oper.wp_mono (fun a3 w3 hh=> ?_) (Ig (M:=[]) hR2 hrun (.sc _ rfl) hput _)
 obtain⟨e3,rfl,hR3,_⟩:=hh
 have hc4:=hR3.tm 4
 simp only[At,if_true]at hc4
 have hc4:a3.eval (.tmp 4)= .bool ad.isNone:=hc4.sc_inv.1
 show (Code.cond _ _ _).wp P _ a3 e3.w
 refine wp_cond hc4 ?_
 cases had:ad with
 |none=>
  have:=hnil had;subst this;simp only[Option.isNone_none,if_true];refine wp_seq (HF (K:=K0) (md:=fun _=>[]) (h:={}) (n:=8) (l:=[⟨some 2,.mov (.k (.nil k)),none⟩]) (s':={n:=8,m:=0,tm:=[(2,.nil k),(4,.sc (.bool ad.isNone)),(3,.im k []),(2,.nil k),(0,.im k [])],ob:=[]}) T6 hR3 ?_ ?_ ?_)
  ·simp[cl2,B6,CK,Bh,xOf,Fy,Ef,ht,hk]
  ·rfl
  intro e4 a4 hR4;refine wp_ret ?_;exact hend hR4 rfl rfl rfl
 |some x=>
  simp only[Option.isNone_some,if_false,Bool.false_eq_true];refine wp_skip ?_
  show (Code.seq _ _).wp P _ a3 e3.w
  refine wp_seq (HF (K:=K0) (md:=fun _=>[]) (h:={}) (n:=8) (l:=[⟨some 5,.bsl 40000 k [],none⟩,⟨some 6,.mov (.t 0),none⟩,⟨some 7,.app 40200 k bytes (.t 5) (.t 6),none⟩,⟨some 2,.mov (.t 7),none⟩])
   (s':={n:=8,m:=0,tm:=[(2,.ref 40200 []),(7,.ref 40200 []),(6,.im k rows),(5,.dead),(4,.sc (.bool ad.isNone)),(3,.im k rows),(2,.nil k),(0,.im k rows)],ob:=[(40200,.arr k rows)]}) T6 hR3 ?_ ?_ ?_)
  ·simp[cl3,B6,CK,Bh,Iq,xOf,ht,hk,hby,hz,LH]
  ·simp[Ep,Er,Aa,bslA,St.new,St.putO,AR,M2,St.put,ev,At,appA,Ao.root,FQ,Be,hpos,hsz,hflat,Ls,St.gone,St.sub,Mp,KO,AV.sub,I2,Obj.sub]
  intro e4 a4 hR4;refine wp_ret ?_;refine hend hR4 rfl ?_ rfl;simp[KB,CD,PA,At,BF,Ao.rootsI,Ao.rootI,Ao.root,Ah,AU,AW,Mf,Ao.rootBoxes,EN,Dz,JD,IV,shOf,Bs,BQ,Ct,AR,Gb]
end
attribute [simp] At AR M2 AM DI AN CV Hq Dn ev AV.sub Bv Mp Obj.sub KO St.sub St.putO St.gone St.new St.put pre QD Ui beqA binA unA ofD Tj JX J7 CR cells FL
 Be Mt Gg Pf PI GS E0 B5 toT CD oneCell HX Df isIm Fd Bw BA Ow.window EM Ao.sub Ao.cut Ao.root Ao.roots Az IY E9 St.adopt St.adopts Ao.detach St.write Ke HD
 QS Ev Cb MU I2 FQ RO Ls appA Uk FC Fn IX cpyA clrA B9 DF isImR bslA AW AU AK Nm CH CU AV.mv mvL AV.mvt PR OF C8 BO FD D6 Nz alL QF S3 Qn Obj.mv BF Ct BQ Ao.rootI Ao.rootsI C6
 DL Ao.push Ao.rootsM Mb Aw H5 Ns Me headN NQ D9 Bs BC Qk Ch BM Ah CE Bf Cd imL OL one Ej Gb EV Dt G2 Hg IN Mi Fo UI JH.merge JH.take
 Ei Ao.rootsAt On Aa Er Ep St.drop tgt FE Tl FM HM G9 Nr Lw ON UC NC UD ND RZ D7 Tk NJ objsO QH Gj Rf Qd mvT DU G7 mvO Lk Jt Ai An
 PA Mf Ao.rootBox Ao.rootBoxes shOf IV F1 JD Dz EN I4 KB RC
@[simp] def io (d:Nat) (op:I):Ins:=⟨some d,op,none⟩
@[simp] def ix (op:I):Ins:=⟨none,op,none⟩
@[simp] def ki (n:Int):X:= .k (.sc (.int .i64 n))
@[simp] def kb (b:Bool):X:= .k (.sc (.bool b))
def enc {α:Type} (f:α->List T) (l:List α):List (List T):=l.map f
@[simp] theorem Da {α:Type} (f:α->List T) (l:List α):(enc f l).length=l.length:=by simp[enc]
@[simp] theorem Kn {α:Type} (f:α->List T) (l:List α) (i:Nat):(enc f l)[i]? =l[i]?.map f:=by simp[enc]
@[simp] theorem enc_at {α:Type} (f:α->List T) (l:List α) (i:Nat) (h:i<(enc f l).length):(enc f l)[i]=f (l[i]'(by simpa using h)):=by simp[enc]
theorem Ba {α:Type} {l:List α} {i:Nat} {x:α} (h:l[i]? =some x): ∃hi:i<l.length,l[i]=x:=List.getElem?_eq_some_iff.1 h
@[simp] theorem BK {α:Type} (f:α->List T):enc f []=[]:=rfl
@[simp] theorem BZ {α:Type} (f:α->List T) (x:α) (l:List α):enc f (x::l)=f x::enc f l:=rfl
theorem Ac {α:Type} (f:α->List T) (l m:List α):enc f l++enc f m=enc f (l++m):=by simp[enc]
theorem Bc {α:Type} (f:α->List T) (l:List α) (i:Nat) (x:α):(enc f l).set i (f x)=enc f (l.set i x):=by simp[enc]
theorem A5 {α:Type} (f:α->List T) (l:List α) (n:Nat):(enc f l).take n=enc f (l.take n):=by simp[enc]
theorem CM {α:Type} (f:α->List T) (l:List α) (n:Nat):(enc f l).drop n=enc f (l.drop n):=by simp[enc]
theorem enc_rep {α:Type} (f:α->List T) (n:Nat) (x:α):List.replicate n (f x)=enc f (List.replicate n x):=by simp[enc]
theorem FX {α:Type} {f:α->List T} (h: ∀x,Fd (f x)=true): ∀l:List α,BA (enc f l)=true
 |[]=>rfl
 |x::l=>by show (Fd (f x)&&BA (enc f l))=true;rw[h,FX h l];rfl
@[simp] def fI (n:Int):List T:=[.sc (.int .i64 n)]
@[simp] def fU (n:Int):List T:=[.sc (.int .u8 n)]
@[simp] def fL (b:Bool):List T:=[.sc (.bool b)]
@[simp] def fS (s:ByteArray):List T:=[.sc (.string s)]
@[simp] def fII (l:List Int):List T:=[.sl 1 (enc fI l)]
@[simp] def fUU (l:List Int):List T:=[.sl 1 (enc fU l)]
@[simp] theorem Ly (l:List Int):BA (enc fI l)=true:=FX (fun _=>rfl) l
@[simp] theorem Lx (l:List Int):BA (enc fU l)=true:=FX (fun _=>rfl) l
@[simp] theorem flat_L (l:List Bool):BA (enc fL l)=true:=FX (fun _=>rfl) l
@[simp] theorem flat_S (l:List ByteArray):BA (enc fS l)=true:=FX (fun _=>rfl) l
def cp {α:Type} (d:α) (l:List α) (j:Nat):List α:=l.take j++List.replicate (l.length - j) d
@[simp] theorem cp_len {α:Type} (d:α) (l:List α) {j:Nat} (h:j<=l.length):(cp d l j).length=l.length:=by simp[cp];omega
theorem cp_get {α:Type} (d:α) (l:List α) {j:Nat} (h:j<l.length):(cp d l j)[j]? =some d:=by
 unfold cp;rw[List.getElem?_append_right (by simp;omega)];simp only[List.length_take,List.getElem?_replicate];rw[if_pos (by omega)]
theorem cp_at {α:Type} (d:α) (l:List α) {j:Nat} (h:j<l.length):(cp d l j)[j]'(by simp[cp];omega)=d:=(Ba (cp_get d l h)).2
theorem cp_set {α:Type} (d:α) (l:List α) {j:Nat} {x:α} (h:l[j]? =some x):(cp d l j).set j x=cp d l (j+1):=by
 have hj:j<l.length:=(List.getElem?_eq_some_iff.1 h).1;apply List.ext_getElem?;intro i;have hx:l[j]=x:=(List.getElem?_eq_some_iff.1 h).2;unfold cp;rw[List.getElem?_set];split
 ·rename_i hij;subst hij;rw[if_pos (by simp;omega),List.getElem?_append_left (by simp;omega),List.getElem?_take,if_pos (by omega)];exact h.symm
 ·rename_i hij;rcases Nat.lt_or_ge i j with h1|h1
  ·rw[List.getElem?_append_left (by simp;omega),List.getElem?_append_left (by simp;omega),List.getElem?_take,List.getElem?_take,if_pos h1,if_pos (by omega)]
  ·rw[List.getElem?_append_right (by simp;omega),List.getElem?_append_right (by simp;omega),List.getElem?_replicate,List.getElem?_replicate];simp only[List.length_take];congr 1;apply propext;omega
theorem cp_zero {α:Type} (d:α) (l:List α):cp d l 0=List.replicate l.length d:=by simp[cp]
theorem cp_all {α:Type} (d:α) (l:List α):cp d l l.length=l:=by simp[cp]
theorem AC {x:Int} (h0: -9223372036854775808<=x) (h1:x<=9223372036854775807):IntKind.wrap .i64 x=x:=by
 have h1:IntKind.wrap .i64 x=(if x%18446744073709551616 ≥ 9223372036854775808 then x%18446744073709551616 - 18446744073709551616 else x%18446744073709551616):=by
  simp[IntKind.wrap,IntKind.bits,IntKind.signed]
 rw[h1];split<;>omega
section
variable {G:Nat->Option PF} {PK:Nat->List Arg->Option Res} {md:Nat->List Nat}
theorem AL {o:Nat} {live:List Nat} {c:C} (ST:Nat->St) (n:Nat)
  (hstep: ∀j,j<n-> ∃s',An (AH G PK md) (Ag G PK md) md c (ST j)=some (.normal,s')/\s'.m<=o/\Ai o live s'=ST (j+1))
  (hend: ∃ex s',An (AH G PK md) (Ag G PK md) md c (ST n)=some (ex,s')/\ex≠ .normal):
  ∀ (s:St),s.m<=o->Ai o live s=ST 0->Ag G PK md o live c s=An (AH G PK md) (Ag G PK md) md c (ST n):=by
 have key: ∀ (d j:Nat),j+d=n-> ∀ (s:St),s.m<=o->Ai o live s=ST j->Ag G PK md o live c s=An (AH G PK md) (Ag G PK md) md c (ST n):=by
  intro d
  induction d with
  |zero=>
   intro j hj s hm hs;have:j=n:=by omega
   subst this;obtain⟨ex,s',h,hne⟩:=hend;rw[h];exact Dj hm (by rw[hs];exact h) hne
  |succ d ih=>
   intro j hj s hm hs;obtain⟨s',h1,h2,h3⟩:=hstep j (by omega);have h4:=ih (j+1) (by omega) s' h2 h3;obtain⟨ex,s2,h5,hne⟩:=hend;rw[h5]at h4 ⊢;exact FG hm (by rw[hs];exact h1) h4
 intro s hm hs
 exact key n 0 (by omega) s hm hs
theorem first (p:Nat->Prop) (n:Nat): ∃k,k<=n/\(∀j,j<k->p j)/\(k=n\/k<n/\ ¬p k):=by
 induction n with
 |zero=>exact⟨0,Nat.le_refl _,fun j h=>absurd h (by omega),.inl rfl⟩
 |succ n ih=>
  obtain⟨k,h1,h2,h3⟩:=ih;rcases h3 with rfl|⟨h3,h4⟩
  ·by_cases hp:p k
   ·refine⟨k+1,Nat.le_refl _,fun j hj=> ?_,.inl rfl⟩;rcases Nat.lt_or_ge j k with h|h
    ·exact h2 j h
    ·rwa [show j=k by omega]
   ·exact⟨k,by omega,h2,.inr ⟨by omega,hp⟩⟩
  ·exact⟨k,by omega,h2,.inr ⟨by omega,h4⟩⟩
theorem A2 {j n:Nat} (h:j<n) (hn:n<=1048576):IntKind.wrap .i64 ((j:Int)+1)=((j+1:Nat):Int):=by rw[AC (by omega) (by omega)];rfl
def szr (left:Int) (s:Nat):Int:=if left<s then -1 else left - s
def H0:List Nat->Nat
 |[]=>0
 |a::l=>a+H0 l
theorem sumN_take (l:List Nat) {j x:Nat} (h:l[j]? =some x):H0 (l.take (j+1))=H0 (l.take j)+x:=by
 induction l generalizing j with
 |nil=>simp at h
 |cons a l ih=>
  cases j with
  |zero=>simp at h;subst h;simp[H0]
  |succ j=>simp at h;simp only[List.take_succ_cons,H0,ih h];omega
theorem sumN_le (l:List Nat) (j:Nat):H0 (l.take j)<=H0 l:=by
 induction l generalizing j with
 |nil=>simp[H0]
 |cons a l ih=>
  cases j with
  |zero=>simp[H0]
  |succ j=>simp only[List.take_succ_cons,H0];have:=ih j;omega
theorem sumN_mem {l:List Nat} {x:Nat} (h:x∈l):x<=H0 l:=by
 induction l with
 |nil=>cases h
 |cons a l ih=>
  simp only[H0];rcases List.mem_cons.1 h with rfl|h
  ·omega
  ·have:=ih h;omega
structure Av where
 gens:List Int
 bits:List (List Int)
 fine:Bool
 old:Bool
 held:Bool
 last:Int
 deriving Inhabited,DecidableEq
structure A8 where
 a:List Int
 b:List Int
 deriving Inhabited,DecidableEq
structure AG where
 id:Int
 up:Bool
 prime:Bool
 image:List Int
 mt:Av
 sl:A8
 conn:List Bool
 sync:List (List Int)
 copies:List Bool
 wait:List Int
 deriving Inhabited,DecidableEq
structure DC where
 src:Int
 dst:Int
 bytes:List Int
 deriving Inhabited,DecidableEq
structure S5 where
 cell:Int
 up:Int
 deriving Inhabited,DecidableEq
structure AB where
 nodes:List AG
 net:List DC
 log:List S5
 safe:List Int
 gen:Int
 deriving Inhabited,DecidableEq
structure QI where
 last:Int
 image:List Int
 deriving Inhabited,DecidableEq
structure Ml where
 w:AB
 blocks:List (List Int)
 deriving Inhabited,DecidableEq
@[simp] def fM (n:Av):List T:=[.sl 1 (enc fI n.gens),.sl 1 (enc fII n.bits),.sc (.bool n.fine),.sc (.bool n.old),.sc (.bool n.held),.sc (.int .i64 n.last)]
@[simp] def fSl (n:A8):List T:=[.sl 1 (enc fU n.a),.sl 1 (enc fU n.b)]
@[simp] def fN (n:AG):List T:=[.sc (.int .i64 n.id),.sc (.bool n.up),.sc (.bool n.prime),.sl 1 (enc fI n.image),.sl 1 (enc fI n.mt.gens),.sl 1 (enc fII n.mt.bits),.sc (.bool n.mt.fine),.sc (.bool n.mt.old),.sc (.bool n.mt.held),.sc (.int .i64 n.mt.last),
 .sl 1 (enc fU n.sl.a),.sl 1 (enc fU n.sl.b),.sl 1 (enc fL n.conn),.sl 1 (enc fII n.sync),.sl 1 (enc fL n.copies),.sl 1 (enc fI n.wait)]
@[simp] def fW (w:DC):List T:=[.sc (.int .i64 w.src),.sc (.int .i64 w.dst),.sl 1 (enc fU w.bytes)]
@[simp] def fR (r:S5):List T:=[.sc (.int .i64 r.cell),.sc (.int .i64 r.up)]
@[simp] def fWo (w:AB):List T:=[.sl 16 (enc fN w.nodes),.sl 3 (enc fW w.net),.sl 2 (enc fR w.log),.sl 1 (enc fI w.safe),.sc (.int .i64 w.gen)]
@[simp] def fSn (s:QI):List T:=[.sc (.int .i64 s.last),.sl 1 (enc fI s.image)]
@[simp] def fSt (s:Ml):List T:=[.sl 16 (enc fN s.w.nodes),.sl 3 (enc fW s.w.net),.sl 2 (enc fR s.w.log),.sl 1 (enc fI s.w.safe),.sc (.int .i64 s.w.gen),.sl 1 (enc fUU s.blocks)]
def zN:AG:=⟨0,false,false,[],⟨[],[],false,false,false,0⟩,⟨[],[]⟩,[],[],[],[]⟩
def zW:DC:=⟨0,0,[]⟩
def zR:S5:=⟨0,0⟩
@[simp] theorem zN0:zN.id=0:=rfl
@[simp] theorem zN1:zN.up=false:=rfl
@[simp] theorem zN2:zN.prime=false:=rfl
@[simp] theorem zN3:zN.image=[]:=rfl
@[simp] theorem zN4:zN.mt.gens=[]:=rfl
@[simp] theorem zN5:zN.mt.bits=[]:=rfl
@[simp] theorem zN6:zN.mt.fine=false:=rfl
@[simp] theorem zN7:zN.mt.old=false:=rfl
@[simp] theorem zN8:zN.mt.held=false:=rfl
@[simp] theorem zN9:zN.mt.last=0:=rfl
@[simp] theorem zN10:zN.sl.a=[]:=rfl
@[simp] theorem zN11:zN.sl.b=[]:=rfl
@[simp] theorem zN12:zN.conn=[]:=rfl
@[simp] theorem zN13:zN.sync=[]:=rfl
@[simp] theorem zN14:zN.copies=[]:=rfl
@[simp] theorem zN15:zN.wait=[]:=rfl
@[simp] theorem zW0:zW.src=0:=rfl
@[simp] theorem zW1:zW.dst=0:=rfl
@[simp] theorem zW2:zW.bytes=[]:=rfl
@[simp] theorem zR0:zR.cell=0:=rfl
@[simp] theorem zR1:zR.up=0:=rfl
@[simp] def lent:T->L
 | .sc v=> .sc v
 | .sl k rows=> .im k rows
 | .hole=> .sc (.bool false)
@[simp] def AX:T->L
 | .sc v=> .sc v
 | .sl k rows=> .own k rows
 | .hole=> .sc (.bool false)
@[simp] def AJ:List T->List L
 |[]=>[]
 |t::l=>lent t::AJ l
@[simp] def AD:List T->List L
 |[]=>[]
 |t::l=>AX t::AD l
theorem szr_lt {left:Int} {s:Nat} (h:left<s):szr left s= -1:=by unfold szr;rw[if_pos h]
theorem szr_ge {left:Int} {s:Nat} (h: ¬left<s):szr left s=left - s:=by unfold szr;rw[if_neg h]
def C7 {α:Type} (l:List α):Prop:=l.length<=9223372036854775807
def CQ {α:Type} (p:α->Prop) (l:List α):Prop:=C7 l/\ ∀x∈l,p x
def szs {α:Type} (f:α->Nat) (l:List α):Nat:=l.length+H0 (l.map f)
def szM (n:Av):Nat:=n.gens.length+szs List.length n.bits
def szSl (n:A8):Nat:=n.a.length+n.b.length
def szN (n:AG):Nat:=n.image.length+szM n.mt+szSl n.sl+n.conn.length+szs List.length n.sync+n.copies.length+n.wait.length
def szW (w:DC):Nat:=w.bytes.length
def szWo (w:AB):Nat:=szs szN w.nodes+szs szW w.net+w.log.length+w.safe.length
def szSn (s:QI):Nat:=s.image.length
def szSt (s:Ml):Nat:=szWo s.w+szs List.length s.blocks
def shM (n:Av):Prop:=C7 n.gens/\CQ C7 n.bits
def shSl (n:A8):Prop:=C7 n.a/\C7 n.b
def shN (n:AG):Prop:=C7 n.image/\shM n.mt/\shSl n.sl/\C7 n.conn/\CQ C7 n.sync/\C7 n.copies/\C7 n.wait
def shW (w:DC):Prop:=C7 w.bytes
def shWo (w:AB):Prop:=CQ shN w.nodes/\CQ shW w.net/\C7 w.log/\C7 w.safe
def shSn (s:QI):Prop:=C7 s.image
def shSt (s:Ml):Prop:=shWo s.w/\CQ C7 s.blocks
end
section
structure RL (tys:List Ty) (ts:List T):Prop where
 len:ts.length=tys.length
 ok: ∀ (j:Nat) ty t,tys[j]? =some ty->ts[j]? =some t->IsT ty t
theorem DT {k:IntKind} {t:T} (h:IsT (.int k) t): ∃n,t= .sc (.int k n)/\(Lit.int k n).wf=true:=by cases h with|int k n h=>exact⟨n,rfl,h⟩
theorem FP {t:T} (h:IsT .bool t): ∃b,t= .sc (.bool b):=by cases h with|bool b=>exact⟨b,rfl⟩
theorem isT_sl {row:List Ty} {t:T} (h:IsT (.sl row) t): ∃rows,t= .sl row.length rows/\rows.length<=9223372036854775807/\ ∀r∈rows,RL row r:=by
 cases h with
 |sl row rows hl hr h=>exact⟨rows,rfl,hl,fun r hr'=>⟨hr r hr',h r hr'⟩⟩
theorem O9 {α:Type} {f:α->List T} {p:α->Prop}: ∀ {rows:List (List T)},(∀r∈rows,∃x,r=f x/\p x)-> ∃l,rows=enc f l/\ ∀x∈l,p x
 |[],_=>⟨[],rfl,fun x h=>by cases h⟩
 |r::rows,h=>by
  obtain⟨x,rfl,hx⟩:=h r List.mem_cons_self;obtain⟨l,rfl,hl⟩:=O9 fun r hr=>h r (List.mem_cons_of_mem _ hr)
  exact⟨x::l,rfl,fun y hy=>by
   rcases List.mem_cons.1 hy with rfl|hy
   ·exact hx
   ·exact hl y hy⟩
def Dec {α:Type} (tys:List Ty) (f:α->List T) (p:α->Prop):Prop:= ∀ts,RL tys ts-> ∃x,ts=f x/\p x
theorem Br {α:Type} {tys:List Ty} {f:α->List T} {p:α->Prop} (h:Dec tys f p) {t:T} (ht:IsT (.sl tys) t): ∃l,t= .sl tys.length (enc f l)/\CQ p l:=by
 obtain⟨rows,rfl,hl,hr⟩:=isT_sl ht;obtain⟨l,rfl,hp⟩:=O9 fun r hr'=>h r (hr r hr')
 exact⟨l,rfl,by simpa[C7]using hl,hp⟩
theorem SQ {ty:Ty} {ts:List T} (h:RL [ty] ts): ∃t,ts=[t]/\IsT ty t:=by
 obtain⟨hl,ho⟩:=h
 match ts,hl with
 |[t],_=>exact⟨t,rfl,ho 0 ty t rfl rfl⟩
theorem Ck {ty:Ty} {tys:List Ty} {ts:List T} (h:RL (ty::tys) ts): ∃t ts',ts=t::ts'/\IsT ty t/\RL tys ts':=by
 obtain⟨hl,ho⟩:=h
 cases ts with
 |nil=>simp at hl
 |cons t ts=>exact⟨t,ts,rfl,ho 0 ty t rfl rfl,by simpa using hl,fun j ty' t' h1 h2=>ho (j+1) ty' t' h1 h2⟩
theorem SP {ts:List T} (h:RL [] ts):ts=[]:=List.eq_nil_of_length_eq_zero h.len
theorem MR:Dec [.int .i64] fI fun n=>(Lit.int .i64 n).wf=true:=fun ts h=>by
 obtain⟨t,rfl,h1⟩:=SQ h;obtain⟨n,rfl,hn⟩:=DT h1;exact⟨n,rfl,hn⟩
theorem Rz:Dec [.int .u8] fU fun n=>(Lit.int .u8 n).wf=true:=fun ts h=>by
 obtain⟨t,rfl,h1⟩:=SQ h;obtain⟨n,rfl,hn⟩:=DT h1;exact⟨n,rfl,hn⟩
theorem dec_L:Dec [.bool] fL fun _=>True:=fun ts h=>by
 obtain⟨t,rfl,h1⟩:=SQ h;obtain⟨n,rfl⟩:=FP h1;exact⟨n,rfl,trivial⟩
def okI (l:List Int):Prop:=CQ (fun n=>(Lit.int .i64 n).wf=true) l
def okU (l:List Int):Prop:=CQ (fun n=>(Lit.int .u8 n).wf=true) l
theorem UZ:Dec [.sl [.int .i64]] fII okI:=fun ts h=>by
 obtain⟨t,rfl,h1⟩:=SQ h;obtain⟨l,rfl,hl⟩:=Br MR h1;exact⟨l,rfl,hl⟩
theorem dec_UU:Dec [.sl [.int .u8]] fUU okU:=fun ts h=>by
 obtain⟨t,rfl,h1⟩:=SQ h;obtain⟨l,rfl,hl⟩:=Br Rz h1;exact⟨l,rfl,hl⟩
def tyN:List Ty:=[.int .i64,.bool,.bool,.sl [.int .i64],.sl [.int .i64],.sl [.sl [.int .i64]],.bool,.bool,.bool,.int .i64,.sl [.int .u8],.sl [.int .u8],.sl [.bool],.sl [.sl [.int .i64]],.sl [.bool],.sl [.int .i64]]
structure okN (x:AG):Prop where
 id:(Lit.int .i64 x.id).wf=true
 image:okI x.image
 gens:okI x.mt.gens
 bits:CQ okI x.mt.bits
 last:(Lit.int .i64 x.mt.last).wf=true
 a:okU x.sl.a
 b:okU x.sl.b
 conn:C7 x.conn
 sync:CQ okI x.sync
 copies:C7 x.copies
 wait:okI x.wait
theorem shorts_short {α:Type} {p:α->Prop} {l:List α} (h:CQ p l):C7 l:=h.1
theorem RX {l:List (List Int)} (h:CQ okI l):CQ C7 l:=⟨h.1,fun x hx=>(h.2 x hx).1⟩
theorem okN.sh {x:AG} (h:okN x):shN x:=⟨h.image.1,⟨h.gens.1,RX h.bits⟩,⟨h.a.1,h.b.1⟩,h.conn,RX h.sync,h.copies,h.wait.1⟩
theorem dec_N:Dec tyN fN okN:=fun ts h=>by
 obtain⟨t0,ts,rfl,h0,h⟩:=Ck h;obtain⟨t1,ts,rfl,h1,h⟩:=Ck h;obtain⟨t2,ts,rfl,h2,h⟩:=Ck h;obtain⟨t3,ts,rfl,h3,h⟩:=Ck h;obtain⟨t4,ts,rfl,h4,h⟩:=Ck h;obtain⟨t5,ts,rfl,h5,h⟩:=Ck h;obtain⟨t6,ts,rfl,h6,h⟩:=Ck h;obtain⟨t7,ts,rfl,h7,h⟩:=Ck h;obtain⟨t8,ts,rfl,h8,h⟩:=Ck h;obtain⟨t9,ts,rfl,h9,h⟩:=Ck h;obtain⟨t10,ts,rfl,h10,h⟩:=Ck h;obtain⟨t11,ts,rfl,h11,h⟩:=Ck h;obtain⟨t12,ts,rfl,h12,h⟩:=Ck h;obtain⟨t13,ts,rfl,h13,h⟩:=Ck h;obtain⟨t14,ts,rfl,h14,h⟩:=Ck h;obtain⟨t15,ts,rfl,h15,h⟩:=Ck h;have:=SP h;subst this;obtain⟨n0,rfl,w0⟩:=DT h0;obtain⟨b1,rfl⟩:=FP h1;obtain⟨b2,rfl⟩:=FP h2;obtain⟨l3,rfl,w3⟩:=Br MR h3;obtain⟨l4,rfl,w4⟩:=Br MR h4;obtain⟨l5,rfl,w5⟩:=Br UZ h5;obtain⟨b6,rfl⟩:=FP h6;obtain⟨b7,rfl⟩:=FP h7;obtain⟨b8,rfl⟩:=FP h8;obtain⟨n9,rfl,w9⟩:=DT h9;obtain⟨l10,rfl,w10⟩:=Br Rz h10;obtain⟨l11,rfl,w11⟩:=Br Rz h11;obtain⟨l12,rfl,w12⟩:=Br dec_L h12;obtain⟨l13,rfl,w13⟩:=Br UZ h13;obtain⟨l14,rfl,w14⟩:=Br dec_L h14;obtain⟨l15,rfl,w15⟩:=Br MR h15;exact⟨⟨n0,b1,b2,l3,⟨l4,l5,b6,b7,b8,n9⟩,⟨l10,l11⟩,l12,l13,l14,l15⟩,rfl,⟨w0,w3,w4,w5,w9,w10,w11,w12.1,w13,w14.1,w15⟩⟩
def tyW:List Ty:=[.int .i64,.int .i64,.sl [.int .u8]]
structure okW (x:DC):Prop where
 src:(Lit.int .i64 x.src).wf=true
 dst:(Lit.int .i64 x.dst).wf=true
 bytes:okU x.bytes
theorem dec_W:Dec tyW fW okW:=fun ts h=>by
 obtain⟨t0,ts,rfl,h0,h⟩:=Ck h;obtain⟨t1,ts,rfl,h1,h⟩:=Ck h;obtain⟨t2,ts,rfl,h2,h⟩:=Ck h;have:=SP h;subst this;obtain⟨n0,rfl,w0⟩:=DT h0;obtain⟨n1,rfl,w1⟩:=DT h1;obtain⟨l2,rfl,w2⟩:=Br Rz h2;exact⟨⟨n0,n1,l2⟩,rfl,⟨w0,w1,w2⟩⟩
def tyR:List Ty:=[.int .i64,.int .i64]
structure okR (x:S5):Prop where
 cell:(Lit.int .i64 x.cell).wf=true
 up:(Lit.int .i64 x.up).wf=true
theorem dec_R:Dec tyR fR okR:=fun ts h=>by
 obtain⟨t0,ts,rfl,h0,h⟩:=Ck h;obtain⟨t1,ts,rfl,h1,h⟩:=Ck h;have:=SP h;subst this;obtain⟨n0,rfl,w0⟩:=DT h0;obtain⟨n1,rfl,w1⟩:=DT h1;exact⟨⟨n0,n1⟩,rfl,⟨w0,w1⟩⟩
def tyWo:List Ty:=[.sl tyN,.sl tyW,.sl tyR,.sl [.int .i64],.int .i64]
structure okWo (x:AB):Prop where
 nodes:CQ okN x.nodes
 net:CQ okW x.net
 log:CQ okR x.log
 safe:okI x.safe
 gen:(Lit.int .i64 x.gen).wf=true
theorem dec_Wo:Dec tyWo fWo okWo:=fun ts h=>by
 obtain⟨t0,ts,rfl,h0,h⟩:=Ck h;obtain⟨t1,ts,rfl,h1,h⟩:=Ck h;obtain⟨t2,ts,rfl,h2,h⟩:=Ck h;obtain⟨t3,ts,rfl,h3,h⟩:=Ck h;obtain⟨t4,ts,rfl,h4,h⟩:=Ck h;have:=SP h;subst this;obtain⟨l0,rfl,w0⟩:=Br dec_N h0;obtain⟨l1,rfl,w1⟩:=Br dec_W h1;obtain⟨l2,rfl,w2⟩:=Br dec_R h2;obtain⟨l3,rfl,w3⟩:=Br MR h3;obtain⟨n4,rfl,w4⟩:=DT h4;exact⟨⟨l0,l1,l2,l3,n4⟩,rfl,⟨w0,w1,w2,w3,w4⟩⟩
theorem okWo.sh {x:AB} (h:okWo x):shWo x:=⟨⟨h.nodes.1,fun y hy=>(h.nodes.2 y hy).sh⟩,⟨h.net.1,fun y hy=>(h.net.2 y hy).bytes.1⟩,h.log.1,h.safe.1⟩
def tySn:List Ty:=[.int .i64,.sl [.int .i64]]
structure okSn (x:QI):Prop where
 last:(Lit.int .i64 x.last).wf=true
 image:okI x.image
theorem dec_Sn:Dec tySn fSn okSn:=fun ts h=>by
 obtain⟨t0,ts,rfl,h0,h⟩:=Ck h;obtain⟨t1,ts,rfl,h1,h⟩:=Ck h;have:=SP h;subst this;obtain⟨n0,rfl,w0⟩:=DT h0;obtain⟨l1,rfl,w1⟩:=Br MR h1;exact⟨⟨n0,l1⟩,rfl,⟨w0,w1⟩⟩
theorem okSn.sh {x:QI} (h:okSn x):shSn x:=h.image.1
def tySt:List Ty:=tyWo++[.sl [.sl [.int .u8]]]
structure okSt (x:Ml):Prop where
 w:okWo x.w
 blocks:CQ okU x.blocks
theorem dec_St:Dec tySt fSt okSt:=fun ts h=>by
 obtain⟨t0,ts,rfl,h0,h⟩:=Ck h;obtain⟨t1,ts,rfl,h1,h⟩:=Ck h;obtain⟨t2,ts,rfl,h2,h⟩:=Ck h;obtain⟨t3,ts,rfl,h3,h⟩:=Ck h;obtain⟨t4,ts,rfl,h4,h⟩:=Ck h;obtain⟨t5,ts,rfl,h5,h⟩:=Ck h;have:=SP h;subst this;obtain⟨l0,rfl,w0⟩:=Br dec_N h0;obtain⟨l1,rfl,w1⟩:=Br dec_W h1;obtain⟨l2,rfl,w2⟩:=Br dec_R h2;obtain⟨l3,rfl,w3⟩:=Br MR h3;obtain⟨n4,rfl,w4⟩:=DT h4;obtain⟨l5,rfl,w5⟩:=Br dec_UU h5;exact⟨⟨⟨l0,l1,l2,l3,n4⟩,l5⟩,rfl,⟨⟨w0,w1,w2,w3,w4⟩,w5⟩⟩
theorem okSt.sh {x:Ml} (h:okSt x):shSt x:=⟨h.w.sh,h.blocks.1,fun y hy=>(h.blocks.2 y hy).1⟩
theorem Fs: ∀ts:List T,AJ ts=ts.map F8
 |[]=>rfl
 | .sc v::ts=>by simp[Fs ts,F8]
 | .sl k r::ts=>by simp[Fs ts,F8]
 | .hole::ts=>by simp[Fs ts,F8]
theorem Qr {w:World} {tys:List Ty} {cs:List Value} {ts:List T} (h:LR w tys cs ts):RL tys ts:=
 ⟨h.len,fun j ty t h1 h2=>by
  obtain⟨v,hv⟩:=AE (l:=cs) (i:=j) (by rw[h.len2];exact(List.getElem?_eq_some_iff.1 h1).1);exact(h.ok j ty v t h1 hv h2).1⟩
theorem UA {ty:Ty} {t:T} (h:IsT ty t):t≠ .hole:=by cases h<;>simp
section
variable {H:Type} {encH:TypeId×Value->H} {P:Program} {w:World} {spare:Nat->Bool} {held:Bool}
theorem param_struct {α:Type} {tys:List Ty} {f:α->List T} {p:α->Prop} (hd:Dec tys f p) {t:TypeId} {fs:Array Field} (hu:P.underlying t=some (.struct fs)) {m:Nat} (hty:O2 P m t=some tys)
  {r:Go.Reach} {b0:Nat} {v:Value} (hv:Value.okWide P w r b0 t v) {d:DataW H} {ps:List MemPlace} (h:DataW.Trod encH P w 0 spare held t v d ps): ∃x,p x/\M6 w (.a (AJ (f x))) v:=by
 obtain⟨cs,rfl,hsz⟩:=WideShapes.okWide_struct hu hv
 obtain⟨n,hn⟩:=h
 obtain⟨ts,hts⟩:=TC n t _ _ m tys hn hty
 obtain⟨x,rfl,hx⟩:=hd ts (Qr hts)
 refine⟨x,hx,?_⟩
 rw[Fs]
 have hc:(Value.agg cs).cells.toList=cs.toList:=rfl
 rw[hc]at hts
 have:=M6.a (w:=w) (f x) cs.toList (by rw[hts.len,hts.len2]) (fun t ht=>by
  obtain⟨i,hi⟩:=List.getElem?_of_mem ht;obtain⟨ty,hty'⟩:=AE (l:=tys) (i:=i) (by rw[←hts.len];exact(List.getElem?_eq_some_iff.1 hi).1);exact UA ((Qr hts).ok i ty t hty' hi)) (fun j t v h1 h2=>by
   obtain⟨ty,hty'⟩:=AE (l:=tys) (i:=j) (by rw[←hts.len];exact(List.getElem?_eq_some_iff.1 h1).1);exact(hts.ok j ty v t hty' h2 h1).2)
 simpa using this
theorem param_int {t:TypeId} {k:IntKind} (hu:P.underlying t=some (.int k)) {r:Go.Reach} {b0:Nat} {v:Value} (hv:Value.okWide P w r b0 t v) {d:DataW H} {ps:List MemPlace} (h:DataW.Trod encH P w 0 spare held t v d ps):
  ∃n:Int,(Lit.int k n).wf=true/\M6 w (.v (.sc (.int k n))) v:=by
 obtain⟨m,hm⟩:=h
 obtain⟨n',hv'⟩:=WideShapes.okWide_int hu hv
 subst hv'
 obtain⟨n,hc,_,hw⟩:=DataW.trod_int hu hm
 have h2:n'=n:=by
  have:=List.head_eq_of_cons_eq hc
  cases this
  rfl
 subst h2
 exact⟨n',hw,.v (.sc (.int k n')) _ (by simp) (.sc _ rfl)⟩
theorem param_slice {α:Type} {tys:List Ty} {f:α->List T} {p:α->Prop} (hd:Dec tys f p) {t el:TypeId} (hu:P.underlying t=some (.slice el)) {m:Nat} (hty:O2 P m t=some [.sl tys])
  {r:Go.Reach} {b0:Nat} {v:Value} (hv:Value.okWide P w r b0 t v) {d:DataW H} {ps:List MemPlace} (h:DataW.Trod encH P w 0 spare held t v d ps): ∃l,CQ p l/\M6 w (.v (.im tys.length (Ow.enc f l))) v:=by
 obtain⟨a,len,cap,rfl⟩:=WideShapes.okWide_slice hu hv
 obtain⟨n,hn⟩:=h
 obtain⟨ts,hts⟩:=TC n t _ _ m _ hn hty
 obtain⟨t0,rfl,h0⟩:=SQ (Qr hts)
 obtain⟨l,rfl,hl⟩:=Br hd h0
 refine⟨l,hl,?_⟩
 have:=(hts.ok 0 _ _ _ rfl rfl rfl).2
 exact .v (.sl tys.length (Ow.enc f l)) _ (by simp) this
end
end
def kindsB (P:Program) (fn:Func) (c:OpenClaim):Bool:=(c.kinds==(if c.domain.isEmpty then []else fn.params.toList.map fun t=>match P.underlying t with|some (.int k)=>some k|_=>none))
theorem joined_of {P:Program} {f:FuncId} {fn:Func} {s:ChangeSpec} {c:OpenClaim} (h0:(c.wf (OpenSpec.ofChange s))=true) (h1:(laidOutB P)=true) (h2:(mapsRowed P)=true) (h3:(fn.params.all (P.readableRec ·))=true) (h4:(namedTie P c.named s.vars)=true) (h5:((c.stops==[]))=true) (h6:((P.stops==[]))=true) (h7:((c.knobs==[]))=true) (h8:((P.stopKnobs==[]))=true) (h9:((c.inPlace==P.inPlace f))=true) (h10:((c.unfollowed==P.unfollowed f))=true) (h11:((c.recurses==P.recurses f))=true) (h12:((c.named==P.varsNamed f))=true) (h13:((c.maps==(fn.params.toList++s.plain.varTypes P).any (P.mapsRec ·)))=true) (h14:((c.ifaces==(fn.params.toList++s.plain.varTypes P).any (P.ifacesRec ·)))=true) (h15:((c.mapsOut==P.mapsAmong fn.resultTypes.toList))=true) (h16:((c.loops==(fn.params.toList++s.plain.varTypes P).any (P.loopsFrom ·)))=true) (h17:((c.wideKeys==(fn.params.toList++s.plain.varTypes P++fn.resultTypes.toList).any (P.wideKeysFrom ·)))=true) (h18:(s.vars.all (P.varReadable ·))=true) (h19:(fn.resultTypes.all (fun t=>P.readableRec t&&decide (t<P.types.size)))=true) (h20:((c.ifacesOut==fn.resultTypes.toList.any (P.ifacesRec ·)))=true) (h21:((c.loopsOut==fn.resultTypes.toList.any (P.loopsFrom ·)))=true) (h22:((c.plainKeys==P.plainKeys))=true) (h23:(c.shortTexts.isNone)=true) (h24:(P.stopsHeard)=true) (h25:(P.mayEnter)=true) (h26:((c.lifted==P.liftsFinal))=true) (h27:((P.make==some c.make))=true) (h28:(kindsB P fn c)=true) (h29:((c.pinned==c.pinnedBy))=true) (h30:((c.veiled==(fn.params.toList++s.plain.varTypes P++fn.resultTypes.toList).any (P.veiledRec ·)))=true) (h31:(c.veiledFits P fn.params.toList (fn.params.toList++s.plain.varTypes P++fn.resultTypes.toList))=true):joinedFacts P f fn s c=true:=by
 unfold joinedFacts;simp only[Bool.and_eq_true];exact⟨⟨⟨⟨⟨⟨⟨⟨⟨⟨⟨⟨⟨⟨⟨⟨⟨⟨⟨⟨⟨⟨⟨⟨⟨⟨⟨⟨⟨⟨⟨h0,h1⟩,h2⟩,h3⟩,h4⟩,h5⟩,h6⟩,h7⟩,h8⟩,h9⟩,h10⟩,h11⟩,h12⟩,h13⟩,h14⟩,h15⟩,h16⟩,h17⟩,h18⟩,h19⟩,h20⟩,h21⟩,h22⟩,h23⟩,h24⟩,h25⟩,h26⟩,h27⟩,h28⟩,h29⟩,h30⟩,h31⟩
end Go.Proofs.YtbolhfegdocpeaaGreat.Ow
