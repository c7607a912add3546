/- The small machine over trees, and that what it computes is what the calls of the loaded functions return: part 3. -/
import Derived.Test.YtghgecpicnfgpaaGreatBaseB
import Derived.OrdersHeld
import Derived.ChangeSlices
import Derived.Below
import Derived.WideShapes
import Derived.JoinedOf
namespace Go.Proofs.YtghgecpicnfgpaaGreat.Ow
open Go
set_option linter.unusedVariables false
set_option linter.unusedSimpArgs false
section
variable {P:Program} {fm fm0:Fm} {M:List Nat} {e e' e0:Env} {s s':St} {a:Act} {Q:Exit->Act->World->Prop} {lent:List Nat}
theorem Xh {h h':Aq} {n o lo hi:Nat} {p:AQ} {full:Bool} (hc:h.cut n o p lo hi full=some h'):h'.l=CL (FN o p n lo hi full) h.l:=by
 unfold Aq.cut at hc;split at hc
 case h_2=>cases hc
 split at hc
 case h_2=>cases hc
 split at hc
 case h_2=>cases hc
 split at hc
 case isFalse=>cases hc
 split at hc
 ·simp only[Option.some.injEq]at hc;subst hc;rfl
 ·split at hc
  case h_2=>cases hc
  simp only[Option.some.injEq]at hc;subst hc;rfl
theorem U6 {h h':Aq} {i k n:Nat} (hr:h.root i k=some h') (hi:i<n): ∃f,h'.l.drop n=CL f (h.l.drop n)/\h'.l.length=h.l.length:=by
 have idd: ∃f,h.l.drop n=CL f (h.l.drop n)/\h.l.length=h.l.length:=⟨_,(NA _).symm,rfl⟩;unfold Aq.root at hr;split at hr
 ·cases hr;exact idd
 ·split at hr
  case h_2=>cases hr
  split at hr
  case isFalse=>cases hr
  cases hr
  exact⟨_,by rw[List.drop_set_of_lt hi];exact(NA _).symm,by simp⟩
 ·split at hr
  ·cases hr;exact idd
  ·split at hr
   case h_2=>cases hr
   rw[Xh hr];exact⟨_,by rw[Bf,Bf,List.map_drop],by rw[Bf];simp⟩
 ·split at hr
  case h_2=>cases hr
  rename_i h1 hc
  cases hr
  refine⟨_,by rw[List.drop_set_of_lt hi,Xh hc,Bf,<-List.map_drop,<-Bf],?_⟩;simp only[List.length_set];rw[Xh hc,Bf];simp
 ·cases hr
theorem TD {h h':Aq} {i k n:Nat} (hr:h.rootI i k=some h') (hi:i<n): ∃f,h'.l.drop n=CL f (h.l.drop n)/\h'.l.length=h.l.length:=by
 have idd: ∃f,h.l.drop n=CL f (h.l.drop n)/\h.l.length=h.l.length:=⟨_,(NA _).symm,rfl⟩;unfold Aq.rootI at hr;split at hr
 ·cases hr;exact idd
 ·cases hr;exact idd
 ·cases hr;exact idd
 ·cases hr;exact idd
 ·cases hr;exact idd
 ·exact U6 hr hi
def FromN (N:Nat->Prop) (n:Nat) (l l':List AV):Prop:= ∀ (i:Nat) y,i<n->l'[i]? =some y-> ∃x,l[i]? =some x/\(∀o∈A1 y,o∈A1 x\/N o)/\ ∀b j,y= .pb b j->x=y
def FromBN (N:Nat->Prop) (s s':St):Prop:= ∀b cs',AN s'.ob b= .box cs'-> ∃cs,AN s.ob b= .box cs/\ ∀ (i:Nat) y,cs'[i]? =some y-> ∃x,cs[i]? =some x/\ ∀o∈A1 y,o∈A1 x\/N o
theorem LZ {n:Nat}: ∀ {ms:List Nat} {i base:Nat} {e:Env} {h h':Aq} {us:List Value},Cs fm e h a us->h.rootsM base i ms=some h'->i+ms.length<=n->n<=h.l.length->Ch e.w (h.l.drop n) (us.drop n)->
  ∃e' us',e'.w=e.w/\e'.Im=e.Im/\Cs fm e' h' a us'/\us'.take n=us.take n/\n<=h'.l.length/\Ch e.w (h'.l.drop n) (us'.drop n)/\h'.s.n=h.s.n/\h'.s.m=h.s.m/\
   ∀ {e0:Env} {A N:Nat->Prop},Ds e0 e A N->(∀j,j<ms.length->N (base+j))->(∀ (j:Nat) x,ms[j]? =some 1->h.l[i+j]? =some x-> ∀o∈A1 x,N o)->
    Ds e0 e' A N/\FromN N n h.l h'.l/\FromBN N h.s h'.s
 |[],i,base,e,h,h',us,hH,hr,hi,hn,hp=>by
  simp only[Aq.rootsM,Option.some.injEq]at hr;subst hr;exact⟨e,us,rfl,rfl,hH,rfl,hn,hp,rfl,rfl,λhI _ _=>⟨hI,λi y _ hy=>⟨y,hy,λ_ ho=> .inl ho,λ_ _ _=>rfl⟩,λb cs hb=>⟨cs,hb,λi y hy=>⟨y,hy,λ_ ho=> .inl ho⟩⟩⟩⟩
 |m::ms,i,base,e,h,h',us,hH,hr,hi,hn,hp=>by
  simp only[List.length_cons]at hi;simp only[Aq.rootsM]at hr;split at hr
  ·rename_i hm;split at hr
   case h_2=>cases hr
   rename_i h1 hroot;obtain⟨vs,p1,ps,p2,p3,p4⟩:=push_ok hH i;obtain⟨e1,g1,g2,g3,g4,g5,g6,g7,_,g8⟩:=Ni p1 hroot;obtain⟨f,d1,d2⟩:=TD (n:=n) hroot (by omega);have hnu:n<=us.length:=by rw[<-hH.len];exact hn
   have hpairs:Ch e1.w (h1.l.drop n) ((us++vs).drop n):=by
    rw[g1,d1,p2,List.drop_append_of_le_length hn,List.drop_append_of_le_length hnu];exact(hp.append p3).sub λ_ _ _ _ _ _ _ _ _ _ _=>rfl
   obtain⟨e2,us2,y1,y2,y3,y4,y5,y6,y7,y8,y9⟩:=LZ g3 hr (by omega) (by rw[d2,p2];simp;omega) hpairs;refine⟨e2,us2,y1.trans g1,y2.trans g2,y3,by rw[y4,List.take_append_of_le_length hnu],y5,by rw[<-g1];exact y6,y7.trans g4,y8.trans g5,λ{e0 A N} hI hN hms=> ?_⟩;have hpl: ∀ (j:Nat) y,j<n->(h.push i).l[j]? =some y->h.l[j]? =some y:=λj y hj hy=>by
    rw[p2,List.getElem?_append_left (by omega)]at hy;exact hy
   have hNb:N base:=by have:=hN 0 (by simp);simpa using this
   have hI1:=g8 hI λx hx o ho=>hms 0 x (by simp[hm]) (by simpa using hpl i x (by omega) hx) o ho
   obtain⟨z1,z2,z3⟩:=y9 hI1 (λj hj=>by have:=hN (j+1) (by simpa using hj);rwa [show base+1+j=base+(j+1)by omega]) (λj x hj hx o ho=>by
    obtain⟨x0,q1,q2⟩:=g6 _ x hx;rcases q2.1 o ho with q3|q3
    ·exact hms (j+1) x0 (by simpa using hj) (by
      have hlt:j<ms.length:=(List.getElem?_eq_some_iff.1 hj).1;have:=hpl _ x0 (by omega) q1;rwa [show i+1+j=i+(j+1)by omega]at this) o q3
    ·rw[q3];exact hNb)
   refine⟨z1,λj y hj hy=> ?_,λb cs hb=> ?_⟩
   ·obtain⟨x,q1,q2⟩:=z2 j y hj hy;obtain⟨x0,q3,q4⟩:=g6 j x q1;refine⟨x0,hpl j x0 hj q3,λo ho=> ?_,λb i hb=> ?_⟩
    ·rcases q2.1 o ho with q5|q5
     ·exact(q4.1 o q5).imp id λh=>by rw[h];exact hNb
     ·exact .inr q5
    ·have h1:=q2.2 b i hb;rw[q4.2 b i (h1.trans hb),h1]
   ·obtain⟨cs1,q1,q2⟩:=z3 b cs hb;obtain⟨cs0,q3,q4⟩:=g7 b cs1 q1;refine⟨cs0,q3,λj y hy=> ?_⟩;obtain⟨x,q5,q6⟩:=q2 j y hy;obtain⟨x0,q7,q8⟩:=q4 j x q5;refine⟨x0,q7,λo ho=> ?_⟩;rcases q6 o ho with q9|q9
    ·exact(q8.1 o q9).imp id λh=>by rw[h];exact hNb
    ·exact .inr q9
  ·obtain⟨e2,us2,y1,y2,y3,y4,y5,y6,y7,y8,y9⟩:=LZ hH hr (by omega) hn hp;refine⟨e2,us2,y1,y2,y3,y4,y5,y6,y7,y8,λhI hN hms=> ?_⟩;exact y9 hI (λj hj=>by have:=hN (j+1) (by simpa using hj);rwa [show base+1+j=base+(j+1)by omega]) (λj x hj hx=>hms (j+1) x (by simpa using hj) (by rwa [show i+1+j=i+(j+1)by omega]at hx))
theorem Xw {o1 o i j:Nat} {p:AQ} (h:s.adopt o1 o p i j=some s'):s'.n=s.n/\s'.m=s.m:=by
 obtain⟨_,_,h1,h2⟩:=KG h;exact⟨h1,h2⟩
theorem O8: ∀ {n:Nat} {e:Env} {h:Aq} {us:List Value} {r:Value} {x:AV} {s':St},Cs fm e h a (r::us)->Ch e.w h.l.tail us->O9 n h=some (x,s')->
  ∃e',e'.w=e.w/\Rel fm e' s' a/\AS e' x r/\s'.n=h.s.n/\s'.m=h.s.m
 |0,e,h,us,r,x,s',hH,hp,hb=>by
  simp only[O9]at hb;split at hb
  ·rename_i y l hl;simp only[Option.some.injEq,Prod.mk.injEq]at hb;obtain⟨rfl,rfl⟩:=hb;exact⟨e,rfl,hH.rel,hH.ok 0 y r (by rw[hl];rfl) rfl,rfl,rfl⟩
  ·cases hb
 |n+1,e,h,us,r,x,s',hH,hp,hb=>by
  simp only[O9]at hb;split at hb
  ·rename_i y o q i j z l hl;split at hb
   case h_2=>cases hb
   rename_i s1 hs1;rw[hl]at hp
   match us,hp with
   |u::v::us,hp=>
   obtain⟨ad,rfl,hcell⟩:=hp.1 o q i j rfl;have h1:=hH.ok 1 (.pa o q i j) _ (by rw[hl];rfl) rfl;have h2:=hH.ok 2 (.ref z []) v (by rw[hl];rfl) rfl
   cases h1 with
   |pa _ _ _ _ k b off nn c rows hn hh hc=>
   have hv:v=e.hd z []:=by cases h2;rfl
   subst hv;obtain⟨e1,g1,g2,g3,g4,_⟩:=Ss hH.rel hs1 hn hh hc hcell;obtain⟨q1,q2⟩:=Xw hs1;have hlen:=hH.len;rw[hl]at hlen;have hH1:Cs fm e1 {s:=s1,l:=CL (GL z o (q++[(i,j)])) (y::l)} a (r::us):=by
    refine⟨g3,by rw[Bf];simpa using hlen,λm x u hx hu=> ?_⟩;rw[Bf,List.getElem?_map]at hx
    cases hy:(y::l)[m]? with
    |none=>simp[hy]at hx
    |some x0=>
     simp[hy]at hx;subst hx
     cases m with
     |zero=>
      simp at hy hu;subst hy;subst hu;exact(hH.ok 0 _ _ (by rw[hl];rfl) rfl).sub g4
     |succ m=>exact(hH.ok (m+3) x0 u (by rw[hl];simpa using hy) (by simpa using hu)).sub g4
   obtain⟨e2,y1,y2,y3,y4,y5⟩:=O8 hH1 (by
    show Ch e1.w (CL _ l) us
    exact hp.2.sub λ_ _ _ _ _ _ _ _ _ _ _=>by rw[g1]) hb
   exact⟨e2,y1.trans g1,y2,y3,y4.trans q1,y5.trans q2⟩
  ·rename_i y w l hl;rw[hl]at hp
   match us,hp with
   |u::v::us,hp=>
   have hlen:=hH.len;rw[hl]at hlen;have hH1:Cs fm e {h with l:=y::l} a (r::us):=by
    refine⟨hH.rel,by simpa using hlen,λm x u hx hu=> ?_⟩
    cases m with
    |zero=>exact hH.ok 0 x u (by rw[hl];simpa using hx) (by simpa using hu)
    |succ m=>exact hH.ok (m+3) x u (by rw[hl];simpa using hx) (by simpa using hu)
   obtain⟨e2,y1,y2,y3,y4,y5⟩:=O8 hH1 hp.2 hb;exact⟨e2,y1,y2,y3,y4,y5⟩
  ·cases hb
end
section
variable {P:Program} {fm fm0:Fm} {M:List Nat} {e e' e0:Env} {s s':St} {a:Act} {Q:Exit->Act->World->Prop}
theorem Ox {ob:List (Nat×Obj)} {x:AV} {l:L} {ids:List Nat} (h:Ck ob x=some (l,ids)): ∀c∈ids,x= .ref c []:=by
 unfold Ck at h;split at h
 ·cases h;simp
 ·cases h;simp
 ·cases h;simp
 ·cases h;simp
 ·split at h
  ·cases h;intro c hc;simp at hc;rw[hc]
  ·cases h
 ·cases h
theorem IN {ob:List (Nat×Obj)}: ∀ {xs:List AV} {ls:List L} {ids:List Nat},Bs ob xs=some (ls,ids)-> ∀c∈ids,.ref c []∈xs
 |[],ls,ids,h=>by simp only[Bs,Option.some.injEq,Prod.mk.injEq]at h;obtain⟨rfl,rfl⟩:=h;simp
 |x::xs,ls,ids,h=>by
  simp only[Bs]at h;split at h
  case h_2=>cases h
  rename_i h1 h2;simp only[Option.some.injEq,Prod.mk.injEq]at h;obtain⟨rfl,rfl⟩:=h;intro c hc;rcases List.mem_append.1 hc with h3|h3
  ·rw[Ox h1 c h3];exact List.mem_cons_self
  ·exact List.mem_cons_of_mem _ (IN h2 c h3)
def Src (ob:List (Nat×Obj)) (z:AV) (c:Nat):Prop:=z= .ref c []\/(∃l,z= .agg l/\ .ref c []∈l)\/ ∃b cells,z= .pb b 0/\AN ob b= .box cells/\(c=b\/ .ref c []∈cells)
theorem RU {ob:List (Nat×Obj)} {x:AV} {r:Arg} {ids:List Nat} (h:EQ ob x=some (r,ids)): ∀c∈ids,Src ob x c:=by
 intro c hc;unfold EQ at h;split at h
 ·rename_i l;obtain⟨⟨l1,os⟩,h1,h2⟩:=Option.map_eq_some_iff.1 h
  cases h2
  exact .inr (.inl ⟨l,rfl,IN h1 c hc⟩)
 ·split at h
  ·rename_i cs hob;obtain⟨⟨l1,os⟩,h1,h2⟩:=Option.map_eq_some_iff.1 h
   cases h2
   refine .inr (.inr ⟨_,cs,rfl,hob,?_⟩);rcases List.mem_cons.1 hc with h3|h3
   ·exact .inl h3
   ·exact .inr (IN h1 c h3)
  ·cases h
 ·cases h;cases hc
 ·obtain⟨l1,h1,h2⟩:=Option.map_eq_some_iff.1 h
  cases h2;cases hc
 ·obtain⟨⟨l1,os⟩,h1,h2⟩:=Option.map_eq_some_iff.1 h
  cases h2
  exact .inl (Ox h1 c hc)
theorem JQ {ob:List (Nat×Obj)}: ∀ {xs:List AV} {ls:List Arg} {ids:List Nat},B6 ob xs=some (ls,ids)-> ∀c∈ids,∃z∈xs,Src ob z c
 |[],ls,ids,h=>by simp only[B6,Option.some.injEq,Prod.mk.injEq]at h;obtain⟨rfl,rfl⟩:=h;simp
 |x::xs,ls,ids,h=>by
  simp only[B6]at h;split at h
  case h_2=>cases h
  rename_i h1 h2;simp only[Option.some.injEq,Prod.mk.injEq]at h;obtain⟨rfl,rfl⟩:=h;intro c hc;rcases List.mem_append.1 hc with h3|h3
  ·exact⟨x,List.mem_cons_self,RU h1 c h3⟩
  ·obtain⟨z,h4,h5⟩:=JQ h2 c h3;exact⟨z,List.mem_cons_of_mem _ h4,h5⟩
theorem JZ: ∀ {sh:List (Option Nat)} {ys:List AV} {z:AV},z∈Be sh ys->(∃l,z= .agg l/\ ∀y∈l,y∈ys)\/z∈ys\/z= .dead
 |[],ys,z,h=>by cases h
 |some n::sh,ys,z,h=>by
  simp only[Be]at h;rcases List.mem_cons.1 h with rfl|h
  ·exact .inl ⟨_,rfl,λy hy=>List.mem_of_mem_take hy⟩
  ·rcases JZ h with ⟨l,h1,h2⟩|h1|h1
   ·exact .inl ⟨l,h1,λy hy=>List.mem_of_mem_drop (h2 y hy)⟩
   ·exact .inr (.inl (List.mem_of_mem_drop h1))
   ·exact .inr (.inr h1)
 |none::sh,ys,z,h=>by
  simp only[Be]at h;rcases List.mem_cons.1 h with rfl|h
  ·cases ys with
   |nil=>exact .inr (.inr rfl)
   |cons y ys=>exact .inr (.inl List.mem_cons_self)
  ·have ht: ∀ {y},y∈ys.tail->y∈ys:=λh=>List.mem_of_mem_tail h
   rcases JZ h with ⟨l,h1,h2⟩|h1|h1
   ·exact .inl ⟨l,h1,λy hy=>ht (h2 y hy)⟩
   ·exact .inr (.inl (ht h1))
   ·exact .inr (.inr h1)
theorem VN {ob:List (Nat×Obj)} {m:Nat} {x y:AV} {os:List Nat} (h:P1 ob m x=some (y,os)) (hy:(∃c p,y= .ref c p)\/ ∃b j,y= .pb b j):m≠0/\x=y:=by
 unfold P1 at h;split at h
 ·exfalso;split at h
  ·cases h;rcases hy with ⟨_,_,h⟩|⟨_,_,h⟩<;>cases h
  ·cases h;rcases hy with ⟨_,_,h⟩|⟨_,_,h⟩<;>cases h
  ·obtain⟨_,_,h2⟩:=Option.map_eq_some_iff.1 h
   cases h2;rcases hy with ⟨_,_,h⟩|⟨_,_,h⟩<;>cases h
  ·obtain⟨_,_,h2⟩:=Option.map_eq_some_iff.1 h
   cases h2;rcases hy with ⟨_,_,h⟩|⟨_,_,h⟩<;>cases h
  ·obtain⟨_,_,h2⟩:=Option.map_eq_some_iff.1 h
   cases h2;rcases hy with ⟨_,_,h⟩|⟨_,_,h⟩<;>cases h
 ·unfold TO at h;split at h
  ·cases h;exact⟨by decide,rfl⟩
  ·cases h
 ·unfold TO at h;split at h
  ·cases h;exact⟨by decide,rfl⟩
  ·cases h
 ·exfalso;obtain⟨_,_,h2⟩:=Option.map_eq_some_iff.1 h
  cases h2;rcases hy with ⟨_,_,h⟩|⟨_,_,h⟩<;>cases h
theorem Jt {ob:List (Nat×Obj)}: ∀ {ms:List Nat} {xs ys:List AV} {os:List Nat},E2 ob ms xs=some (ys,os)-> ∀ (i:Nat) y,ys[i]? =some y->((∃c p,y= .ref c p)\/ ∃b j,y= .pb b j)->
  ∃m,ms[i]? =some m/\m≠0/\xs[i]? =some y
 |ms,[],ys,os,h,i,y,hy,_=>by
  simp only[E2,Option.some.injEq,Prod.mk.injEq]at h;obtain⟨rfl,rfl⟩:=h;simp at hy
 |ms,x::xs,ys,os,h,i,y,hy,hk=>by
  simp only[E2]at h;split at h
  case h_2=>cases h
  rename_i y1 os1 m qs h1 h2;simp only[Option.some.injEq,Prod.mk.injEq]at h;obtain⟨rfl,rfl⟩:=h
  cases i with
  |zero=>
   simp at hy;subst hy;obtain⟨g1,g2⟩:=VN h1 hk
   cases ms with
   |nil=>exact absurd rfl g1
   |cons m ms=>exact⟨m,rfl,g1,by simp[g2]⟩
  |succ i=>
   obtain⟨m',g1,g2,g3⟩:=Jt h2 i y (by simpa using hy) hk
   cases ms with
   |nil=>simp at g1
   |cons m0 ms=>exact⟨m',by simpa using g1,g2,by simpa using g3⟩
def Cg (os:List (Nat×Obj)):Prop:= ∀x∈os,∀c,x.2= .box c->DZ c=true
theorem Cg.nil:Cg []:=λx h=>by cases h
theorem Cg.append {l l':List (Nat×Obj)} (h:Cg l) (h':Cg l'):Cg (l++l'):=λx hx=>by
 rcases List.mem_append.1 hx with h1|h1
 ·exact h x h1
 ·exact h' x h1
theorem Cg.cons {x:Nat×Obj} {l:List (Nat×Obj)} (h: ∀c,x.2= .box c->DZ c=true) (h':Cg l):Cg (x::l):=λy hy=>by
 rcases List.mem_cons.1 hy with h1|h1
 ·rw[h1];exact h
 ·exact h' y h1
theorem Cg.get {os:List (Nat×Obj)} (h:Cg os) {j:Nat} {c:List AV} (hj:AN os j= .box c):DZ c=true:=by
 induction os with
 |nil=>cases hj
 |cons x os ih=>
  obtain⟨n,y⟩:=x;simp only[AN]at hj;split at hj
  ·exact h (n,y) List.mem_cons_self c hj
  ·exact ih (λz hz=>h z (List.mem_cons_of_mem _ hz)) hj
theorem DL: ∀ {ls:List L} {n:Nat},ls.any imL=false->DZ (AW n ls).1=true/\Cg (AW n ls).2.1
 |[],n,_=>⟨rfl,Cg.nil⟩
 |l::ls,n,h=>by
  simp only[List.any_cons,Bool.or_eq_false_iff]at h
  cases l with
  |sc v=>obtain⟨g1,g2⟩:=DL (n:=n) h.2;exact⟨by simp[AW,DZ,Jo,g1],by simpa[AW]using g2⟩
  |nil k=>obtain⟨g1,g2⟩:=DL (n:=n) h.2;exact⟨by simp[AW,DZ,Jo,g1],by simpa[AW]using g2⟩
  |im k r=>simp[imL]at h
  |al i k r=>obtain⟨g1,g2⟩:=DL (n:=n) h.2;exact⟨by simp[AW,DZ,Jo,g1],by simpa[AW]using g2⟩
  |sh d=>obtain⟨g1,g2⟩:=DL (n:=n) h.2;exact⟨by simp[AW,DZ,Jo,g1],by simpa[AW]using g2⟩
  |own k r=>
   obtain⟨g1,g2⟩:=DL (n:=n+1) h.2;exact⟨by simp[AW,DZ,Jo,g1],by simp only[AW];exact Cg.cons (λc h=>by cases h) g2⟩
theorem VC {r:RV} {n:Nat} (h:Qs r=false):Jo (DC n r).1=true/\Cg (DC n r).2.1:=by
 cases r with
 |v l=>
  obtain⟨g1,g2⟩:=DL (ls:=[l]) (n:=n) (by simpa[Qs]using h);refine⟨?_,by simpa[DC,AT]using g2⟩;simp only[DC,AT]
  cases hl:(AW n [l]).1 with
  |nil=>rfl
  |cons y l=>rw[hl]at g1;simp[DZ]at g1;simpa using g1.1
 |a ls=>
  obtain⟨g1,g2⟩:=DL (ls:=ls) (n:=n) (by simpa[Qs]using h);exact⟨by simpa[DC,AT,Jo]using g1,by simpa[DC,AT]using g2⟩
 |p ls=>
  obtain⟨g1,g2⟩:=DL (ls:=ls) (n:=n+1) (by simpa[Qs]using h);exact⟨by simp[DC,AT,Jo],by simp only[DC,AT];exact Cg.cons (λc h=>by cases h;exact g1) g2⟩
theorem Np: ∀ {rs:List RV} {n:Nat},rs.any Qs=false->DZ (C1 n rs).1=true/\Cg (C1 n rs).2.1
 |[],n,_=>⟨rfl,Cg.nil⟩
 |r::rs,n,h=>by
  simp only[List.any_cons,Bool.or_eq_false_iff]at h;obtain⟨g1,g2⟩:=VC (n:=n) h.1;obtain⟨y1,y2⟩:=Np (n:=(DC n r).2.2) h.2;exact⟨by simp[C1,DZ,g1,y1],by simp only[C1];exact g2.append y2⟩
theorem Kt (os:List (Nat×Obj)): ∀ (is:List Nat) (fs:List (Option (List (List T)))),Cg (DG os is fs)
 |[],_=>by simp only[DG];exact Cg.nil
 |i::is,[]=>by simp only[DG];exact Cg.nil
 |i::is,none::fs=>by simp only[DG];exact Kt os is fs
 |i::is,some rows::fs=>by
  simp only[DG];split
  ·exact Cg.cons (λc h=>by cases h) (Kt os is fs)
  ·exact Kt os is fs
theorem SQ: ∀ {bs:List Nat} {lss:List (List L)} {n:Nat},(lss.any λls=>ls.any imL)=false->Cg (B9 n bs lss).1
 |[],_,n,_=>by simp only[B9];exact Cg.nil
 |b::bs,[],n,_=>by simp only[B9];exact Cg.nil
 |b::bs,ls::lss,n,h=>by
  simp only[List.any_cons,Bool.or_eq_false_iff]at h;obtain⟨g1,g2⟩:=DL (n:=n) h.1;simp only[B9];exact Cg.cons (λc h=>by cases h;exact g1) (g2.append (SQ h.2))
theorem SP {args:List Arg} {r:Res} (h:(r.out.any Qs||r.pfin.any λls=>ls.any imL)=false):Jo (one (CN args r).1)=true/\Cg (CN args r).2:=by
 simp only[Bool.or_eq_false_iff]at h;simp only[CN];obtain⟨g1,g2⟩:=Np (n:=(B9 (AH 0 0 args).2.2 (Al 0 args).2 r.pfin).2) h.1;refine⟨?_,((Kt _ _ _).append (SQ h.2)).append g2⟩;generalize (C1 (B9 (AH 0 0 args).2.2 (Al 0 args).2 r.pfin).2 r.out).1=l at g1
 match l,g1 with
 |[],_=>rfl
 |[x],g1=>simpa[DZ,one]using g1
 |x::y::l,g1=>exact g1
theorem MP {α β:Type}: ∀ {ys:List AV} {xs:List α} {us:List β},xs.length=us.length->Bt (BW ys xs)=Bt (BW ys us)
 |[],xs,us,_=>rfl
 |y::ys,[],[],_=>by cases y<;>rfl
 |y::ys,[],u::us,h=>by cases h
 |y::ys,x::xs,[],h=>by cases h
 |y::ys,x::xs,u::us,h=>by
  have ih:=MP (ys:=ys) (xs:=xs) (us:=us) (by simpa using h)
  cases y<;>simp[BW,Bt,ih]
theorem Pg {α:Type}: ∀ {ys:List AV} {xs:List α} {j:Nat} {x:α},CK (BW ys xs) j=some x-> ∃ (i:Nat) (k:Nat) (r:List (List T)),ys[i]? =some (.al j k r)/\xs[i]? =some x
 |[],xs,j,x,h=>by simp[BW,CK]at h
 |y::ys,[],j,x,h=>by cases y<;>simp[BW,CK]at h
 |y::ys,x0::xs,j,x,h=>by
  have next:CK (BW ys xs) j=some x-> ∃ (i:Nat) (k:Nat) (r:List (List T)),(y::ys)[i]? =some (.al j k r)/\(x0::xs)[i]? =some x:=λh=>by
   obtain⟨i,k,r,h1,h2⟩:=Pg h;exact⟨i+1,k,r,by simpa using h1,by simpa using h2⟩
  by_cases hy: ∃i k r,y= .al i k r
  ·obtain⟨i,k,r,rfl⟩:=hy;simp only[BW,CK]at h;split at h
   ·rename_i hij;subst hij
    cases h
    exact⟨0,k,r,rfl,rfl⟩
   ·exact next h
  ·cases y<;>first|exact next (by simpa[BW]using h)|exact absurd ⟨_,_,_,rfl⟩ hy
theorem Ja {α:Type}: ∀ {ys:List AV} {xs:List α} {i j k:Nat} {r:List (List T)} {x:α},ys[i]? =some (.al j k r)->xs[i]? =some x->j∈Bt (BW ys xs)
 |[],xs,i,j,k,r,x,h,_=>by simp at h
 |y::ys,[],i,j,k,r,x,_,h=>by simp at h
 |y::ys,x0::xs,0,j,k,r,x,h,h2=>by
  simp at h;subst h;simp[BW,Bt]
 |y::ys,x0::xs,i+1,j,k,r,x,h,h2=>by
  have ih:=Ja (ys:=ys) (xs:=xs) (i:=i) (by simpa using h) (by simpa using h2)
  cases y<;>simp[BW,Bt,ih]
theorem NX {α:Type}: ∀ {ys:List AV} {xs:List α} {i j k:Nat} {r:List (List T)} {x:α},(Bt (BW ys xs)).Nodup->ys[i]? =some (.al j k r)->xs[i]? =some x->CK (BW ys xs) j=some x
 |[],xs,i,j,k,r,x,_,h,_=>by simp at h
 |y::ys,[],i,j,k,r,x,_,_,h=>by simp at h
 |y::ys,x0::xs,0,j,k,r,x,hn,h,h2=>by
  simp at h h2;subst h;subst h2;simp[BW,CK]
 |y::ys,x0::xs,i+1,j,k,r,x,hn,h,h2=>by
  have h:ys[i]? =some (.al j k r):=by simpa using h
  have h2:xs[i]? =some x:=by simpa using h2
  by_cases hy: ∃i0 k r,y= .al i0 k r
  ·obtain⟨i0,k0,r0,rfl⟩:=hy;simp only[BW,Bt]at hn;obtain⟨n1,n2⟩:=List.nodup_cons.1 hn;simp only[BW,CK];have hne: ¬i0=j:=λhh=>n1 (by rw[hh];exact Ja h h2)
   rw[if_neg hne];exact NX n2 h h2
  ·cases y<;>first|exact absurd ⟨_,_,_,rfl⟩ hy|(simp only[BW]at hn ⊢;exact NX hn h h2)
end
section
variable {P:Program} {fm fm0:Fm} {M:List Nat} {e e' e0:Env} {s s':St} {a:Act} {Q:Exit->Act->World->Prop}
variable {K:Nat->List Arg->Option Res} {md:Nat->List Nat}
structure Mp (ob:List (Nat×Obj)) (ms:List Nat) (xs:List AV) (base:Nat) (M:List Nat):Prop where
 fresh: ∀j,j<(BM xs).length->base+j∈M
 place: ∀ (i:Nat) m x,ms[i]? =some m->m≠0->(BM xs)[i]? =some x-> ∀o∈A1 x,o∈M
 box: ∀ (i:Nat) m b j,ms[i]? =some m->m≠0->(BM xs)[i]? =some (.pb b j)->b∈M/\ ∀cells,AN ob b= .box cells-> ∀y∈cells,∀o∈A1 y,o∈M
theorem I7 {α:Type}: ∀ (a b:List (Nat×α)),Bt (a++b)=Bt a++Bt b
 |[],_=>rfl
 |(i,x)::a,b=>by simp[Bt,I7 a b]
theorem FH {α:Type} (j:Nat): ∀ (a b:List (Nat×α)),CK (a++b) j=match CK a j with
  |some x=>some x
  |none=>CK b j
 |[],_=>rfl
 |(i,x)::a,b=>by
  simp only[List.cons_append,CK];split
  ·rfl
  ·exact FH j a b
theorem Pf {α:Type} {j:Nat}: ∀ {a:List (Nat×α)},j∉Bt a->CK a j=none
 |[],_=>rfl
 |(i,x)::a,h=>by
  simp only[Bt,List.mem_cons,not_or]at h;simp only[CK];rw[if_neg (λe=>h.1 e.symm)];exact Pf h.2
theorem Ig {ob:List (Nat×Obj)}: ∀ {cs:List Nat} {o:Nat} {c:List AV},Ns ob cs=true->o∈cs->AN ob o= .box c->JC c=true
 |[],_,_,_,h,_=>by cases h
 |x::cs,o,c,h,ho,hc=>by
  simp only[Ns,Bool.and_eq_true]at h;rcases List.mem_cons.1 ho with rfl|h1
  ·have:=h.1;rw[hc]at this;exact this
  ·exact Ig h.2 h1 hc
theorem tokB_ok (hR:Rel fm e s a) {ms:List Nat} {ys:List AV} {obT:List (Nat×Obj)} {lentT:List Nat} {tkT:List (Nat×AV)} (h:tokB s.ob ms ys=some (obT,lentT,tkT)):
  ∃vT:List (Nat×Value),Bt vT=Bt tkT/\(∀j x0,CK tkT j=some x0-> ∃u,CK vT j=some u/\AS e x0 u)/\
   (∀b c,AN obT b= .box c-> ∃c',AN s.ob b= .box c'/\ ∀o p,.ref o p∈c-> .ref o p∈c')/\
   ∀ {lent cs:List Nat} {T:Nat->Value},(∀o∈lentT,o∈lent)->(∀j u,CK vT j=some u->T j=u)->Ns s.ob cs=true->Ut e obT lent T cs:=by
 have same: ∃vT:List (Nat×Value),Bt vT=Bt ([]:List (Nat×AV))/\(∀j x0,CK ([]:List (Nat×AV)) j=some x0-> ∃u,CK vT j=some u/\AS e x0 u)/\
   (∀b c,AN s.ob b= .box c-> ∃c',AN s.ob b= .box c'/\ ∀o p,.ref o p∈c-> .ref o p∈c')/\
   ∀ {lent cs:List Nat} {T:Nat->Value},(∀o∈([]:List Nat),o∈lent)->(∀j u,CK vT j=some u->T j=u)->Ns s.ob cs=true->Ut e s.ob lent T cs:=by
  refine⟨[],rfl,λj x0 h=>(by cases h),λb c h=>⟨c,h,λ_ _ h=>h⟩,λ{lent cs T} _ _ hno=>⟨λo _=>(hR.ob o).symm,λo c h=>⟨c,by rw[<-hR.ob,h]⟩,λo ho c hc j x hx=> ?_⟩⟩
  obtain⟨g1,u,g2,g3⟩:=hR.mem.box o c (by rw[hR.ob,hc]) j x hx
  exact⟨g1,u,g2,λ{e0 f} _ _ hC hI=>g3.mv hC (.inr hI) (.inl (GZ (Ig hno ho hc) hx))⟩
 unfold tokB at h
 split at h
 case h_2=>
  simp only[Option.some.injEq,Prod.mk.injEq]at h;obtain⟨rfl,rfl,rfl⟩:=h;exact same
 rename_i b _
 split at h
 case isFalse=>
  simp only[Option.some.injEq,Prod.mk.injEq]at h;obtain⟨rfl,rfl,rfl⟩:=h;exact same
 split at h
 case h_2=>cases h
 rename_i x l hb
 obtain⟨⟨k,r⟩,h1,h2⟩:=Option.map_eq_some_iff.1 h
 simp only[Prod.mk.injEq]at h2
 obtain⟨rfl,rfl,rfl⟩:=h2
 have hob:e.ob b= .box (x::l):=by rw[hR.ob,hb]
 obtain⟨w1,u,w2,w3⟩:=hR.mem.box b _ hob 0 x rfl
 have hget: ∀o,o≠b->AN ((b,.box (.al 99 k r::l))::MF s.ob b) o=AN s.ob o:=λo ho=>by
  simp only[AN];rw[if_neg ho,DF,if_neg ho]
 have hgetb:AN ((b,.box (.al 99 k r::l))::MF s.ob b) b= .box (.al 99 k r::l):=by simp[AN]
 refine⟨[(99,u)],rfl,λj x0 hj=> ?_,λb' c hc=> ?_,λ{lent cs T} hl hT hno=>⟨λo ho=> ?_,λo c hc=> ?_,λo ho c hc j y hy=> ?_⟩⟩
 ·simp only[CK]at hj ⊢
  split at hj
  ·rename_i h99;cases hj;exact⟨u,by rw[if_pos h99],w3⟩
  ·cases hj
 ·by_cases hbb:b'=b
  ·subst hbb
   rw[hgetb]at hc
   cases hc
   exact⟨_,hb,λo p hm=>by
    rcases List.mem_cons.1 hm with h3|h3
    ·cases h3
    ·exact List.mem_cons_of_mem _ h3⟩
  ·rw[hget b' hbb]at hc
   exact⟨c,hc,λ_ _ h=>h⟩
 ·have hne:o≠b:=λhh=>ho _ (hh ▸ hob)
  rw[hget o hne,hR.ob]
 ·by_cases hbb:o=b
  ·subst hbb;exact⟨_,hgetb⟩
  ·exact⟨c,by rw[hget o hbb,<-hR.ob,hc]⟩
 ·by_cases hbb:o=b
  ·subst hbb
   rw[hgetb]at hc
   cases hc
   cases j with
   |zero=>
    simp at hy;subst hy;refine⟨w1,u,w2,λ{e0 f} hz ht hC hI=> ?_⟩;refine .al u 99 k r ?_ (Ii hR hz w3 h1 hl);rw[ht,hT 99 u (by simp[CK])]
   |succ j=>
    obtain⟨g1,u',g2,g3⟩:=hR.mem.box o _ hob (j+1) y (by simpa using hy);exact⟨g1,u',g2,λ{e0 f} _ _ hC hI=>g3.mv hC (.inr hI) (.inl (GZ (Ig hno ho hb) (i:=j+1) (by simpa using hy)))⟩
  ·rw[hget o hbb]at hc
   obtain⟨g1,u',g2,g3⟩:=hR.mem.box o c (by rw[hR.ob,hc]) j y hy
   exact⟨g1,u',g2,λ{e0 f} _ _ hC hI=>g3.mv hC (.inr hI) (.inl (GZ (Ig hno ho hc) hy))⟩
theorem Xm (hR:Rel fm e s a) {d:Option Nat} {o f:Nat} {xs:List AV} {vs:List Value} (hK: ∀args r,K f args=some r->KJ P f args r) (hlen:xs.length=vs.length)
  (hv: ∀ (i:Nat) x v,xs[i]? =some x->vs[i]? =some v->AS e x v) (hM:Mp s.ob (md f) xs o M) (h:Fn K md s d o f xs=some s'):
  Calls P f vs.toArray e.w fun
   | .returned v,w'=> ∃e' s2 x,e'.w=w'/\Rel fm e' s2 a/\AS e' x v/\s2.put d x=some s'/\Evo e e' M
   |_,_=>False:=by
 unfold Fn XC at h
 split at h
 case h_2=>cases h
 rename_i g hg
 split at hg
 case h_2=>cases hg
 rename_i h1 hroots
 split at hg
 case h_2=>cases hg
 rename_i ys lent hlend
 split at hg
 case h_2=>cases hg
 rename_i obT lentT tkT htok
 split at hg
 case h_2=>cases hg
 rename_i args cs hclose
 split at hg
 case isFalse=>cases hg
 rename_i hchk
 simp only[Option.some.injEq]at hg
 subst hg
 simp only[Bool.and_eq_true]at hchk
 obtain⟨⟨⟨⟨c1,c5,c6⟩,c2⟩,c3⟩,c4⟩:=hchk
 have hnd:=G2 c2
 have hap: ∀x∈lentT++lent,x∉cs:=λx hx=>by have:=List.all_eq_true.1 c3 x hx;simpa using this
 have hpa: ∀x∈G1 (h1.l.drop (BM xs).length),x∉cs:=λx hx=>by have:=List.all_eq_true.1 c4 x hx;simpa using this
 split at h
 case h_2=>cases h
 rename_i r hr
 split at h
 case h_2=>cases h
 rename_i v2 s2 htake
 unfold LS.take at htake
 split at htake
 case isFalse=>cases htake
 rename_i hchk2
 simp only[Bool.and_eq_true]at hchk2
 obtain⟨⟨⟨k1,k2⟩,k3⟩,k4⟩:=hchk2
 obtain⟨f1,f2⟩:=Qx hlen hv
 have hH:Cs fm e {s,l:=BM xs} a (D5 xs vs):=⟨hR,f1,f2⟩
 obtain⟨e1,us1,y1,y2,y3,y4,y5,y6,y7,y8,y9⟩:=LZ (n:=(BM xs).length) hH hroots (by simp;omega) (Nat.le_refl _) (by
  simp only[List.drop_length];rw[f1,List.drop_length];trivial)
 obtain⟨vT,t1,t2,t3,t4⟩:=tokB_ok y3.rel htok
 have hl1:(h1.l.take (BM xs).length).length=(BM xs).length:=by simp;omega
 have hv1: ∀ (i:Nat) x u,(h1.l.take (BM xs).length)[i]? =some x->(D5 xs vs)[i]? =some u->AS e1 x u:=λi x u hx hu=>by
  have hi:=(List.getElem?_eq_some_iff.1 hu).1;rw[List.getElem?_take,if_pos (by omega)]at hx;refine y3.ok i x u hx ?_;have h2:(us1.take (BM xs).length)[i]? =some u:=by rw[y4,List.getElem?_take,if_pos (by omega)];exact hu
  rw[List.getElem?_take,if_pos (by omega)]at h2;exact h2
 let TT:Nat->Value:=λj=>(CK (vT++BW ys (D5 xs vs)) j).getD (e1.tk j)
 have hkeys:(Bt vT++Bt (BW ys (D5 xs vs))).Nodup:=by
  rw[<-MP (ys:=ys) (xs:=h1.l.take (BM xs).length) (us:=D5 xs vs) (hl1.trans f1),t1,<-I7];exact G2 c5
 have hTT: ∀ (i:Nat) j k r u,ys[i]? =some (.al j k r)->(D5 xs vs)[i]? =some u->u=TT j:=λi j k r u h1 h2=>by
  have hn:j∉Bt vT:=λh3=>(List.nodup_append.1 hkeys).2.2 j h3 j (Ja h1 h2) rfl
  simp only[TT,FH,Pf hn,NX (List.nodup_append.1 hkeys).2.1 h1 h2,Option.getD_some]
 have hTv: ∀j u,CK vT j=some u->TT j=u:=λj u h=>by simp only[TT,FH,h,Option.getD_some]
 have hTok:Ut e1 obT (lentT++lent) TT cs:=t4 (λo ho=>List.mem_append_left _ ho) hTv c6
 have hcsN: ∀o∈cs,e1.ob o≠ .none:=λo ho hn=>JR hclose o ho (by rw[hTok.arr o (λc=>by rw[hn];simp),hn])
 have hzl:(Be (Db xs) ys).length=vs.length:=by
  have hyl:ys.length=(D5 xs vs).length:=by
   have: ∀ {ms:List Nat} {xs ys:List AV} {os:List Nat},E2 h1.s.ob ms xs=some (ys,os)->ys.length=xs.length:=by
    intro ms xs
    induction xs generalizing ms with
    |nil=>intro ys os h;simp only[E2,Option.some.injEq,Prod.mk.injEq]at h;rw[<-h.1]
    |cons x xs ih=>
     intro ys os h;simp only[E2]at h;split at h
     case h_2=>cases h
     rename_i h2;simp only[Option.some.injEq,Prod.mk.injEq]at h;rw[<-h.1];simp[ih h2]
   rw[this hlend,hl1,f1]
  have: ∀ (xs ys:List AV),(Be (Db xs) ys).length=xs.length:=by
   intro xs
   induction xs with
   |nil=>intro ys;rfl
   |cons x xs ih=>intro ys;cases x<;>simp[Db,Be,ih]
  rw[this,hlen]
 obtain⟨fm0,e0,z1,zT,z2,z3,z4,z5,z6,z7⟩:=Xe y3.rel TT hclose hnd hap hzl hTok (λ{e0 f'} hz htk hC i z v hzi hvi=>by
  obtain⟨q1,q2⟩:=P0 y3.rel hz hC hv1 hlend (λo ho=>List.mem_append_right _ ho) (λi j k r u h1 h2=>by rw[htk];exact hTT i j k r u h1 h2);obtain⟨q3,q4⟩:=IX (e0:=e0) (ys:=mvL f' ys) hlen hv (by rw[E1,List.length_map,q1,hl1,f1]) (λj y u hy hu=>by
   rw[E1,List.getElem?_map]at hy
   cases hyj:ys[j]? with
   |none=>simp[hyj]at hy
   |some y0=>simp[hyj]at hy;subst hy;exact q2 j y0 u hyj hu)
  refine q4 i (z.mv f') v ?_ hvi;rw[<-Jq,E1,List.getElem?_map,hzi];rfl)
 have hcall:=hK args r hr fm0 e0 vs z1
 rw[z3,y1]at hcall
 refine Calls.mono hcall λen w' hpost=> ?_
 cases en with
 |panicked _=>exact hpost
 |outgrown=>exact hpost
 |returned v=>
 obtain⟨e',hw',hx⟩:=hpost
 have hno:lentT++lent=[]\/(r.out.any Qs||r.pfin.any λls=>ls.any imL)=false:=by
  simp only[Bool.or_eq_true,List.isEmpty_iff,Bool.not_eq_true']at k1;exact k1
 have hback: ∀j,(e'.tk j).oneCell'=true->Jb (Cx cs (CN args r).2) (tkT++BW ys (h1.l.take (BM xs).length)) j= .dead\/
   ∃x0,AS e1 x0 (e'.tk j)/\Jb (Cx cs (CN args r).2) (tkT++BW ys (h1.l.take (BM xs).length)) j=x0.sub (Cx cs (CN args r).2):=λj hj=>by
  have htj:e'.tk j=TT j:=by rw[hx.mem.tk,zT]
  unfold Jb
  rw[FH]
  cases hg0:CK tkT j with
  |some x0=>
   obtain⟨u,q1,q2⟩:=t2 j x0 hg0;exact .inr ⟨x0,by rw[htj,hTv j u q1];exact q2,rfl⟩
  |none=>
   simp only[]
   cases hg:CK (BW ys (h1.l.take (BM xs).length)) j with
   |none=>exact .inl rfl
   |some x0=>
    obtain⟨i,k,r,q1,q2⟩:=Pg hg;have hi:i<(D5 xs vs).length:=by rw[<-f1,<-hl1];exact(List.getElem?_eq_some_iff.1 q2).1
    have:=hTT i j k r _ q1 (List.getElem?_eq_getElem hi);refine .inr ⟨x0,?_,rfl⟩;rw[htj,<-this];exact hv1 i x0 _ q2 (List.getElem?_eq_getElem hi)
 have hlt: ∀ {j:Nat} {o:Nat},cs[j]? =some o->j<(AH 0 0 args).2.2:=λh=>by rw[z6];exact(List.getElem?_eq_some_iff.1 h).1
 obtain⟨e2,m1,m2,m3,m4,m5,m6,m7⟩:=Wh (base:=o+40) y3.rel hnd hcsN k4 hx.mem z2 z4 z5 hx.ob
  (λj o k rows hj ho=>by
   obtain⟨q1,r0,q2⟩:=hx.hd j k rows (hlt hj) ho;obtain⟨p1,p2,p3,p4,p5⟩:=z7 j o hj;exact⟨q1.trans p1,r0,p3 _ _ q2⟩)
  (λj o c0 hj ho=>by
   obtain⟨p1,p2,p3,p4,p5⟩:=z7 j o hj;obtain⟨c',hc'⟩:=p4 c0 ho;obtain⟨c,q1,q2⟩:=hx.bk j c' (hlt hj) hc';exact⟨c,q1,q2.trans p2⟩)
  (λj o c hj ho=>by
   obtain⟨c0,q1⟩:=hx.bx j c (hlt hj) ho;obtain⟨p1,p2,p3,p4,p5⟩:=z7 j o hj;exact p5 _ q1)
  (hno.imp id λh j c hj=>by rw[hx.ob]at hj;exact(SP h).2.get hj)
  hback
 have hul:us1.length=h1.l.length:=y3.len.symm
 have hH2:Cs fm e2 {s:=LS.merge {s:=h1.s,bk:=h1.l.drop (BM xs).length,lent:=lentT++lent,args,cs,tks:=tkT++BW ys (h1.l.take (BM xs).length)} (o+40) (CN args r).2,l:=(one (CN args r).1).mvt (Fo cs (o+40)) (Jb (Cx cs (CN args r).2) (tkT++BW ys (h1.l.take (BM xs).length)))::CL (Cx cs (CN args r).2) (h1.l.drop (BM xs).length)} a (v::us1.drop (BM xs).length):=by
  refine⟨m2,by simp[Bf,hul],λi x u hxi hui=> ?_⟩
  cases i with
  |zero=>
   simp at hxi hui;subst hxi;subst hui;refine hx.val.mvt m3 (λj hj=> ?_) (hno.elim (λh=> .inr (m4 h)) λh=> .inl (SP h).1);rcases hback j hj with h|⟨x0,q1,q2⟩
   ·rw[h];exact .dead _ hj
   ·rw[q2];exact q1.sub m5
  |succ i=>
   simp only[List.getElem?_cons_succ]at hxi hui;rw[Bf,List.getElem?_map]at hxi
   cases hxi':(h1.l.drop (BM xs).length)[i]? with
   |none=>simp[hxi']at hxi
   |some x0=>
    simp[hxi']at hxi;subst hxi;rw[List.getElem?_drop]at hxi' hui;exact(y3.ok _ x0 u hxi' hui).sub m5
 have hpairs:Ch e2.w (CL (Cx cs (CN args r).2) (h1.l.drop (BM xs).length)) (us1.drop (BM xs).length):=by
  refine y6.sub λi o' q i' j' u hxi hui hne ad hu=> ?_
  have hmem:o'∈G1 (h1.l.drop (BM xs).length):=by
   have: ∀ {l:List AV} {i:Nat},l[i]? =some (.pa o' q i' j')->o'∈G1 l:=by
    intro l
    induction l with
    |nil=>intro i h;simp at h
    |cons y l ih=>
     intro i h
     cases i with
     |zero=>simp at h;subst h;simp[G1]
     |succ i=>
      have:=ih (i:=i) (by simpa using h)
      cases y<;>simp[G1,this]
   exact this hxi
  rw[List.getElem?_drop]at hxi hui;have hok:=y3.ok _ _ u hxi hui;subst hu
  cases hok with
  |pa _ _ _ _ k b off nn c rows hn hh hc=>
  have hblk:e1.blk (.nd o' q)=some b:=AY hn (by rw[hh];simp[BC,hc]);have hb:=(y3.rel.mem.own _ b hblk).1;rw[<-y1];exact CC (m7 b hb λl hl=>by rw[y3.rel.mem.inj l _ b hl hblk];exact hpa o' hmem)
 obtain⟨e3,b1,b2,b3,b4,b5⟩:=O8 hH2 hpairs htake
 refine⟨e3,s2,v2,b1.trans (m1.trans hw'),b2,b3,h,by rw[b1,<-y1];exact m6,λb hb hl=> ?_⟩
 rw[b1,<-y1]
 refine m7 b (by rw[y1];exact hb) λl hl1 hc=> ?_
 obtain⟨i1,i2,i3⟩:=y9 (e0:=e) (A:=λo=>o∈M) (N:=λo=>o∈M) (λl b h1 h2=>⟨l,h1,h2⟩) (λj hj=>hM.fresh j (by simp at hj;omega)) (λj x hj hx o' ho'=>by
  simp only[Nat.zero_add]at hx;rw[List.getElem?_take]at hj;split at hj
  ·exact hM.place j 1 x hj (by decide) hx o' ho'
  ·cases hj)
 suffices hcM:l.obj∈M by
  obtain⟨l0,q1,q2⟩:=i1 l b hl1 hcM;exact hl l0 q1 q2
 have leafM: ∀y∈ys,(y= .ref l.obj []->l.obj∈M)/\ ∀b' cells,y= .pb b' 0->AN h1.s.ob b'= .box cells->(l.obj=b'\/ .ref l.obj []∈cells)->l.obj∈M:=by
  intro y hy;obtain⟨i,hi⟩:=List.mem_iff_getElem?.1 hy;refine⟨λhyr=> ?_,λb' cells hyb hbox hor=> ?_⟩
  ·obtain⟨m,q1,q2,q3⟩:=Jt hlend i y hi (.inl ⟨_,_,hyr⟩);rw[List.getElem?_take]at q3;split at q3
   case isFalse=>cases q3
   rename_i hin;obtain⟨x,q4,q5,_⟩:=i2 i y hin q3;rcases q5 l.obj (by rw[hyr];simp[A1])with q6|q6
   ·exact hM.place i m x q1 q2 q4 _ q6
   ·exact q6
  ·obtain⟨m,q1,q2,q3⟩:=Jt hlend i y hi (.inr ⟨_,_,hyb⟩);rw[List.getElem?_take]at q3;split at q3
   case isFalse=>cases q3
   rename_i hin;obtain⟨x,q4,_,q5⟩:=i2 i y hin q3;have hxy:=q5 b' 0 hyb;rw[hxy,hyb]at q4;obtain⟨p1,p2⟩:=hM.box i m b' 0 q1 q2 q4;rcases hor with q6|q6
   ·rw[q6];exact p1
   ·obtain⟨cells0,p3,p4⟩:=i3 b' cells hbox;obtain⟨j,hj⟩:=List.mem_iff_getElem?.1 q6;obtain⟨x0,p5,p6⟩:=p4 j _ hj;rcases p6 l.obj (by simp[A1])with p7|p7
    ·exact p2 cells0 p3 x0 (List.mem_of_getElem? p5) _ p7
    ·exact p7
 have hone: ∀y∈ys,oneCell y=true:=λy hy=>List.all_eq_true.1 c1 y hy
 obtain⟨z,hz,hsrc⟩:=JQ hclose l.obj hc
 have hsrc:Src h1.s.ob z l.obj:=by
  rcases hsrc with hs|hs|⟨b',cells,hs,hs2,hs3⟩
  ·exact .inl hs
  ·exact .inr (.inl hs)
  ·obtain⟨c',q1,q2⟩:=t3 b' cells hs2;exact .inr (.inr ⟨b',c',hs,q1,hs3.imp id (q2 _ _)⟩)
 rcases JZ hz with ⟨l',hz1,hz2⟩|hz1|hz1
 ·rcases hsrc with hs|⟨l'',hs,hs2⟩|⟨b',cells,hs,_⟩
  ·rw[hs]at hz1;cases hz1
  ·rw[hs]at hz1
   cases hz1
   exact(leafM _ (hz2 _ hs2)).1 rfl
  ·rw[hs]at hz1;cases hz1
 ·rcases hsrc with hs|⟨l'',hs,hs2⟩|⟨b',cells,hs,hs2,hs3⟩
  ·exact(leafM z hz1).1 hs
  ·have:=hone z hz1
   rw[hs]at this
   cases this
  ·exact(leafM z hz1).2 b' cells hs hs2 hs3
 ·rcases hsrc with hs|⟨l'',hs,hs2⟩|⟨b',cells,hs,_⟩<;>(rw[hs]at hz1;cases hz1)
end
section
variable {P:Program} {fm fm0:Fm} {M:List Nat} {e e' e0:Env} {s s':St} {a:Act} {Q:Exit->Act->World->Prop}
variable {K:Nat->List Arg->Option Res} {md:Nat->List Nat}
def FB (P:Program) (f:Nat):Prop:= ∃fn,P.funcs[f]? =some fn/\fn.name≠ "runtime.NumGoroutine" /\fn.body≠none
def KOk (P:Program) (K:Nat->List Arg->Option Res):Prop:= ∀f args r,K f args=some r->FB P f/\KJ P f args r
theorem HK {f:Nat} (h:FB P f) (args:Array Value) (w:World):(callFunc f args).run P w= .ok (.enter f args) w:=by
 obtain⟨fn,h1,h2,h3⟩:=h;simp[callFunc,h1,h2,h3]
theorem callA_K {d:Option Nat} {o f:Nat} {xs:List AV} (h:Fn K md s d o f xs=some s'): ∃args r,K f args=some r:=by
 unfold Fn at h;split at h
 case h_2=>cases h
 split at h
 case h_2=>cases h
 rename_i hr;exact⟨_,_,hr⟩
theorem RX (hR:Rel fm e s a) {o:Oper} {f base:Nat} {xs:List AV} {vs:List Value} (hK:KOk P K) (hrun:FB P f->(execOp a.eval o).run P e.w= .ok (.enter f vs.toArray) e.w) (hlen:xs.length=vs.length)
  (hv: ∀ (i:Nat) x v,xs[i]? =some x->vs[i]? =some v->AS e x v) (hM:Mp s.ob (md f) xs base M) (h:Fn K md s o.dst base f xs=some s'):o.wp P a e.w (Reach fm e M s') Q:=by
 obtain⟨args,r,hr⟩:=callA_K h
 unfold Oper.wp
 rw[hrun (hK f args r hr).1,Oper.upon_enter]
 refine Calls.mono (Xm hR (λargs r hr=>(hK f args r hr).2) hlen hv hM h) λen w' hp=> ?_
 cases en with
 |panicked _=>exact hp.elim
 |outgrown=>exact hp.elim
 |returned v=>
  obtain⟨e',s2,x,h1,h2,h3,h4,h5⟩:=hp;exact⟨e',h1,h2.put h3 h4,h5⟩
theorem op_call (hR:Rel fm e s a) {o:Oper} {c:Call} {f base:Nat} {Xs:List X} (hK:KOk P K) (ho:o.op= .call c) (hc:c.callee= .value (.func f)) (hxs:Hb P c.argTypes.toList c.args.toList=some Xs)
  (hM:Mp s.ob (md f) (Xs.map (ev s.tm)) base M) (h:Ad K md s o.dst (.call base f Xs)=some s'):o.wp P a e.w (Reach fm e M s') Q:=by
 simp only[Ad]at h
 obtain⟨h1,h2⟩:=KM hR hxs
 refine RX hR (vs:=c.args.toList.map a.eval) hK (λhE=> ?_) h1 h2 hM h
 have hargs:(c.args.toList.map a.eval).toArray=c.args.map a.eval:=by rw[<-Array.toList_map]
 simp only[execOp,ho,resolve,hc,Act.eval,Deferred.ofValue,hargs]
 simp[invoke,HK hE]
theorem WW (hR:Rel fm e s a) {o:Oper} {c:Call} {t base:Nat} {Xs:List X} (hK:KOk P K) (ho:o.op= .call c) (hc:c.callee= .value (.tmp t)) (hxs:Hb P c.argTypes.toList c.args.toList=some Xs)
  (hM: ∀f caps,Aw s.tm t= .clo f caps->Mp s.ob (md f) (Xs.map (ev s.tm)++caps) base M) (h:Ad K md s o.dst (.callv base (.t t) Xs)=some s'):o.wp P a e.w (Reach fm e M s') Q:=by
 simp only[Ad,ev]at h
 split at h
 case h_2=>cases h
 rename_i f caps hf
 obtain⟨h1,h2⟩:=KM hR hxs
 have ht:=hR.tm t
 rw[hf]at ht
 generalize hu:a.tmps.getD t undef=u at ht
 cases ht with
 |clo _ _ us hlen hok=>
 refine RX hR (vs:=c.args.toList.map a.eval++us) hK (λhE=> ?_) (by simp only[List.length_append,hlen,h1]) (λi x v hx hv=> ?_) (hM f caps hf) h
 ·have hargs:(c.args.toList.map a.eval++us).toArray=c.args.map a.eval++us.toArray:=by simp
  have hev:a.eval (.tmp t)= .func (.func f) #[] us.toArray:=hu
  simp only[execOp,ho,resolve,hc,hev,Deferred.ofValue,hargs]
  simp[invoke,HK hE]
 ·rw[List.getElem?_append]at hx hv
  rw[h1]at hx
  split at hx
  ·rename_i hi;rw[if_pos hi]at hv;exact h2 i x v hx hv
  ·rename_i hi;rw[if_neg hi]at hv;exact hok _ x v hx hv
end
section
variable {P:Program} {fm fm0:Fm} {M:List Nat} {e e' e0:Env} {s s':St} {a:Act} {Q:Exit->Act->World->Prop}
variable {K:Nat->List Arg->Option Res} {md:Nat->List Nat}
theorem Nh {us:List Value}: ∀ {l:List Nat} {base:Nat} {e:Env} {h h':Aq},Cs fm e h a us->h.rootsAt base l=some h'->
  ∃e',e'.w=e.w/\e'.Im=e.Im/\Cs fm e' h' a us/\h'.s.n=h.s.n/\h'.s.m=h.s.m/\
   ∀ {e0:Env} {A N:Nat->Prop},Ds e0 e A N->(∀j,j<l.length->N (base+j))->(∀i∈l,∀x,h.l[i]? =some x-> ∀o∈A1 x,N o)->Ds e0 e' A N
 |[],base,e,h,h',hH,hr=>by
  simp only[Aq.rootsAt,Option.some.injEq]at hr;subst hr;exact⟨e,rfl,rfl,hH,rfl,rfl,λhI _ _=>hI⟩
 |i::l,base,e,h,h',hH,hr=>by
  simp only[Aq.rootsAt]at hr;split at hr
  case h_2=>cases hr
  rename_i h1 hroot;obtain⟨e1,g1,g2,g3,g4,g5,g6,g7,_,g8⟩:=Lb hH hroot;obtain⟨e2,y1,y2,y3,y4,y5,y6⟩:=Nh g3 hr;refine⟨e2,y1.trans g1,y2.trans g2,y3,y4.trans g4,y5.trans g5,λhI hN hp=> ?_⟩;refine y6 (g8 hI λx hx o ho=>hp i List.mem_cons_self x hx o ho) (λj hj=>by have:=hN (j+1) (by simpa using hj);rwa [show base+1+j=base+(j+1)by omega]) (λi' hi' x hx o ho=> ?_);obtain⟨x0,q1,q2,_⟩:=g6 i' x hx;rcases q2 o ho with q3|q3
  ·exact hp i' (List.mem_cons_of_mem _ hi') x0 q1 o q3
  ·rw[q3];have:=hN 0 (by simp);simpa using this
structure X1 (s:St) (ms:List Nat) (xs:List AV) (base:Nat) (cs:List Nat) (M:List Nat):Prop where
 fresh: ∀j,j<cs.length->base+90+j∈M
 place: ∀i∈cs,∀x,xs[i]? =some x-> ∀o∈A1 x,o∈M
 call: ∀h,({s,l:=xs}:Aq).rootsAt (base+90) cs=some h->Mp h.s.ob ms h.l base M
theorem WX (hR:Rel fm e s a) {o:Oper} {c:Call} {f base:Nat} {Xs:List X} {cs:List Nat} (hK:KOk P K) (ho:o.op= .call c) (hc:c.callee= .value (.func f)) (hxs:Hb P c.argTypes.toList c.args.toList=some Xs)
  (hM:X1 s (md f) (Xs.map (ev s.tm)) base cs M) (h:Ad K md s o.dst (.callc base f Xs cs)=some s'):o.wp P a e.w (Reach fm e M s') Q:=by
 simp only[Ad]at h
 split at h
 case h_2=>cases h
 rename_i h1 hr
 obtain⟨g1,g2⟩:=KM hR hxs
 have hH:Cs fm e {s,l:=Xs.map (ev s.tm)} a (c.args.toList.map a.eval):=⟨hR,g1,g2⟩
 obtain⟨e1,y1,y2,y3,y4,y5,y6⟩:=Nh hH hr
 have hargs:(c.args.toList.map a.eval).toArray=c.args.map a.eval:=by rw[<-Array.toList_map]
 have hwp:o.wp P a e1.w (Reach fm e1 M s') Q:=by
  refine RX y3.rel (vs:=c.args.toList.map a.eval) hK (λhE=> ?_) y3.len y3.ok (hM.call h1 hr) h;simp only[execOp,ho,resolve,hc,Act.eval,Deferred.ofValue,hargs];simp[invoke,HK hE]
 rw[y1]at hwp
 have hEvo: ∀ {e2:Env},Evo e1 e2 M->Evo e e2 M:=λ{e2} hE=>by
  refine⟨by rw[<-y1];exact hE.size,λb hb hl=> ?_⟩;rw[<-y1];refine hE.same b (by rw[y1];exact hb) λl hl1 hlM=> ?_
  obtain⟨l0,q1,q2⟩:=y6 (e0:=e) (A:=λo=>o∈M) (N:=λo=>o∈M) (λl b h1 h2=>⟨l,h1,h2⟩) hM.fresh hM.place l b hl1 hlM;exact hl l0 q1 q2
 refine Oper.wp_mono (λa' w' hh=> ?_) hwp
 obtain⟨e2,q1,q2,q3⟩:=hh
 exact⟨e2,q1,q2,hEvo q3⟩
end
section
variable {P:Program} {fm fm0:Fm} {M:List Nat} {e e' e0:Env} {s s':St} {a:Act} {Q:Exit->Act->World->Prop}
theorem MV: ∀ (args:List Arg) (t n i:Nat),(i<t\/t+args.length<=i)->Aw (AH t n args).1 i= .non
 |[],t,n,i,_=>rfl
 |x::args,t,n,i,h=>by
  simp only[List.length_cons]at h;have hx:Aw (AH t n (x::args)).1 i=if i=t then(AT n x).1 else Aw (AH (t+1) (AT n x).2.2 args).1 i:=rfl;rw[hx,if_neg (by omega)];exact MV args (t+1) _ i (by omega)
theorem QK {args:List Arg} {vs:List Value} (hE:I1 fm e args vs) {n:Nat} (hn:args.length<=n):Rel fm e (Om n args) {tmps:=vs.toArray++Array.replicate (n - vs.toArray.size) undef,defers:=[]}:=by
 refine⟨hE.mem,hE.ob,λo k rows _ _=>(hE.H o).symm,λo cs _ _=>(hE.B o).symm,by simp[Om,<-hE.len];omega,rfl,λt=> ?_⟩
 show AS e (Aw (AH 0 0 args).1 t) _
 by_cases ht:t<vs.length
 ·have h1:vs[t]? =some vs[t]:=List.getElem?_eq_getElem ht;have h2:(vs.toArray++Array.replicate (n - vs.toArray.size) undef).getD t undef=vs[t]:=by
   rw[Array.getD_eq_getD_getElem?,Array.getElem?_append_left (by simpa using ht)];simp[h1]
  rw[h2];exact hE.val t _ h1
 ·rw[MV args 0 0 t (.inr (by rw[hE.len];omega))];exact .non _
theorem La {us:List Value}: ∀ {m:Nat} {e:Env} {h h':Aq} {base i:Nat},Cs fm e h a us->h.rootsI base i m=some h'->
  ∃e',e'.w=e.w/\e'.Im=e.Im/\Cs fm e' h' a us/\h'.s.n=h.s.n/\h'.s.m=h.s.m/\Pc e e'
 |0,e,h,h',base,i,hH,hr=>by simp only[Aq.rootsI,Option.some.injEq]at hr;subst hr;exact⟨e,rfl,rfl,hH,rfl,rfl,Pc.refl e⟩
 |m+1,e,h,h',base,i,hH,hr=>by
  simp only[Aq.rootsI]at hr;split at hr
  ·rename_i h1 h2;obtain⟨e1,g1,g2,g3,g4,g5,_,_,g6,_⟩:=Ni hH h2;obtain⟨e2,y1,y2,y3,y4,y5,y6⟩:=La g3 hr;refine⟨e2,y1.trans g1,y2.trans g2,y3,y4.trans g4,y5.trans g5,λo cs hb=> ?_⟩;obtain⟨c1,q1,q2⟩:=g6 o cs hb;obtain⟨c2,q3,q4⟩:=y6 o c1 q1;exact⟨c2,q3,q4.trans q2⟩
  ·cases hr
theorem WG (hR:Rel fm e s a) {b:Nat} {cs cs':List AV} (hb:e.ob b= .box cs) (hc: ∀ (j:Nat) c,cs'[j]? =some c->Wr e.w (e.bk b) j/\ ∃u,e.w.cell? ⟨e.bk b,j,none⟩=some u/\AS e c u):
  ∃e',e'.w=e.w/\e'.Im=e.Im/\Rel fm e' (s.putO b (.box cs')) a/\(B0 e e' λo p=>some (o,p))/\(∀o,e'.bk o=e.bk o)/\ ∀o,e'.ob o=if o=b then .box cs' else e.ob o:=by
 let e':Env:={e with ob:=λo=>if o=b then .box cs' else e.ob o}
 have hob: ∀o,e'.ob o=if o=b then .box cs' else e.ob o:=λ_=>rfl
 have hnode: ∀o p,e'.node o p=e.node o p:=λo p=>by
  by_cases h:o=b
  ·subst h;simp[Env.node,e',hb]
  ·simp[Env.node,e',h]
 have hblk: ∀l x,e'.blk l=some x->e.blk l=some x:=by
  intro l x h
  cases l with
  |nd o p=>
   obtain⟨k,r,h1,h2⟩:=E9 h;rw[hnode]at h1;exact AY h1 h2
  |bx o=>
   obtain⟨c,h1,h2⟩:=Dv h;rw[<-h2];by_cases ho:o=b
   ·subst ho;exact Ag hb
   ·rw[hob,if_neg ho]at h1;exact Ag h1
 have hC:B0 e e' λo p=>some (o,p):=by
  refine⟨λb hb=>⟨hb,rfl⟩,λo p k rows o' p' hn hf=> ?_,λo c ho=> ?_,λo p k rows hn=>(hR.mem.node o p k rows hn).one,rfl⟩
  ·cases hf
   exact⟨rows,by rw[hnode];exact hn,rfl,rfl⟩
  ·by_cases h:o=b
   ·exact⟨cs',by rw[hob,if_pos h],rfl⟩
   ·exact⟨c,by rw[hob,if_neg h];exact ho,rfl⟩
 refine⟨e',rfl,rfl,⟨⟨λo c ho j x hx=> ?_,λo p k r hn=> ?_,λl l' x h h'=>hR.mem.inj l l' x (hblk l x h) (hblk l' x h'),λl x h=>hR.mem.own l x (hblk l x h),hR.mem.im,hR.mem.im0,hR.mem.keeps,hR.mem.tk⟩,λo=> ?_,λo k r h1 h2=> ?_,λo c h1 h2=> ?_,hR.size,hR.defers,λt=>(hR.tm t).carry hC⟩,hC,λ_=>rfl,hob⟩
 ·by_cases h:o=b
  ·subst h
   rw[hob,if_pos rfl]at ho
   cases ho
   obtain⟨g1,u,g2,g3⟩:=hc j x hx
   exact⟨g1,u,g2,g3.carry hC⟩
  ·rw[hob,if_neg h]at ho
   obtain⟨g1,u,g2,g3⟩:=hR.mem.box o c ho j x hx
   exact⟨g1,u,g2,g3.carry hC⟩
 ·rw[hnode]at hn
  exact hR.mem.node o p k r hn
 ·rw[hob,BE]
  by_cases h:o=b
  ·rw[if_pos h,if_pos h]
  ·rw[if_neg h,if_neg h];exact hR.ob o
 ·rw[hob]at h2
  split at h2
  ·cases h2
  ·exact hR.pinh o k r h1 h2
 ·rw[hob]at h2
  split at h2
  ·rename_i h;subst h;exact hR.pinb _ cs h1 hb
  ·exact hR.pinb o c h1 h2
theorem TE {us:List Value} {h h':Aq} {base b:Nat} (hH:Cs fm e h a us) (hr:h.rootBox base b=some h'):
  ∃e',e'.w=e.w/\e'.Im=e.Im/\Cs fm e' h' a us/\h'.s.n=h.s.n/\h'.s.m=h.s.m:=by
 unfold Aq.rootBox at hr
 split at hr
 case h_2=>cases hr
 rename_i cs hcs
 split at hr
 case h_2=>cases hr
 rename_i h1 hroots
 cases hr
 have hb:e.ob b= .box cs:=by rw[hH.rel.ob];exact hcs
 let uc:List Value:=(List.range cs.length).map λj=>(e.w.cell? ⟨e.bk b,j,none⟩).getD undef
 have huc:uc.length=cs.length:=by simp[uc]
 have hcell: ∀ (j:Nat) c u,cs[j]? =some c->uc[j]? =some u->Wr e.w (e.bk b) j/\e.w.cell? ⟨e.bk b,j,none⟩=some u/\AS e c u:=by
  intro j c u hc hu;obtain⟨g1,v,g2,g3⟩:=hH.rel.mem.box b cs hb j c hc;have hj:=(List.getElem?_eq_some_iff.1 hc).1;have hv:u=v:=by
   simp only[uc,List.getElem?_map,List.getElem?_range hj,Option.map_some,Option.some.injEq,g2,Option.getD_some]at hu;exact hu.symm
  subst hv;exact⟨g1,g2,g3⟩
 have hH1:Cs fm e {s:=h.s,l:=cs++h.l} a (uc++us):=by
  refine⟨hH.rel,by simp[huc,hH.len],λi x u hx hu=> ?_⟩;rw[List.getElem?_append]at hx hu;rw[huc]at hu;split at hx
  ·rename_i hi;rw[if_pos hi]at hu;exact(hcell i x u hx hu).2.2
  ·rename_i hi;rw[if_neg hi]at hu;exact hH.ok _ x u hx hu
 obtain⟨e1,g1,g2,g3,g4,g5,g6⟩:=La hH1 hroots
 obtain⟨cs1,q1,q2⟩:=g6 b cs hb
 obtain⟨e2,y1,y2,y3,y4,y5,y6⟩:=WG g3.rel q1 (cs':=h1.l.take cs.length) (λj c hc=>by
  rw[List.getElem?_take]at hc;split at hc
  case isFalse=>cases hc
  rename_i hj;obtain⟨u,hu⟩:=AF (l:=uc) (i:=j) (by omega);obtain⟨c0,hc0⟩:=AF (l:=cs) (i:=j) hj;obtain⟨z1,z2,z3⟩:=hcell j c0 u hc0 hu;rw[q2,g1];exact⟨z1,u,z2,g3.ok j c u hc (by rw[List.getElem?_append_left (by omega)];exact hu)⟩)
 have hlen:=g3.len
 refine⟨e2,y1.trans g1,y2.trans g2,⟨y3,by simp only[List.length_drop,hlen,List.length_append,huc];omega,λi x u hx hu=> ?_⟩,g4,g5⟩
 rw[List.getElem?_drop]at hx
 exact(g3.ok _ x u hx (by rw[List.getElem?_append_right (by omega),huc,show cs.length+i - cs.length=i by omega];exact hu)).carry y4
theorem KV {us:List Value}: ∀ {l:List Nat} {base:Nat} {e:Env} {h h':Aq},Cs fm e h a us->h.rootBoxes base l=some h'->
  ∃e',e'.w=e.w/\e'.Im=e.Im/\Cs fm e' h' a us/\h'.s.n=h.s.n/\h'.s.m=h.s.m
 |[],base,e,h,h',hH,hr=>by simp only[Aq.rootBoxes,Option.some.injEq]at hr;subst hr;exact⟨e,rfl,rfl,hH,rfl,rfl⟩
 |b::l,base,e,h,h',hH,hr=>by
  simp only[Aq.rootBoxes]at hr;split at hr
  ·rename_i h1 h2;obtain⟨e1,g1,g2,g3,g4,g5⟩:=TE hH h2;obtain⟨e2,y1,y2,y3,y4,y5⟩:=KV g3 hr;exact⟨e2,y1.trans g1,y2.trans g2,y3,y4.trans g4,y5.trans g5⟩
  ·cases hr
end
section
variable {P:Program} {fm fm0:Fm} {M:List Nat} {e e' e0:Env} {s s':St} {a:Act} {Q:Exit->Act->World->Prop}
def Wa:List Value->Value
 |[v]=>v
 |vs=> .tuple vs.toArray
def NE (tmps:Array Value):ResultVar->Sem Value
 | .tmp t=>pure (tmps.getD t undef)
 | .cell b t=>do loadVar t (<-asAddr (tmps.getD b undef))
theorem VL {n:Option Nat} {x y:AV} {v:Value} (hx:AS e x v) (h:Gb s.ob n x=some y): ∃ad,v= .pointer (some ad):=by
 cases hx with
 |pb o j cs hb=>exact⟨_,rfl⟩
 |pa o p i j k b off n' c rows hn hh hc=>exact⟨_,rfl⟩
 |pim v cs hp=>obtain⟨_,_,rfl,_⟩:=hp;exact⟨_,rfl⟩
 |_=>simp[Gb]at h
theorem U7 (hR:Rel fm e s a) {v:ResultVar} {rp:RP} {l:List ResultVar} {m:List RP} (hr:C0 P (v::l)=some (rp::m)) {x:AV} (hx:Rr s rp=some x):
  C0 P l=some m/\ ∃u,(NE a.tmps v).run P e.w= .ok u e.w/\AS e x u:=by
 cases v with
 |tmp t=>
  cases hm:C0 P l with
  |none=>simp[C0,hm]at hr
  |some m'=>
   simp[C0,hm]at hr;obtain⟨rfl,rfl⟩:=hr;simp only[Rr,Option.some.injEq]at hx;subst hx;exact⟨rfl,_,rfl,hR.tm t⟩
 |cell b t=>
  cases hn:nOf P t with
  |none=>simp[C0,hn]at hr
  |some n=>
   cases hm:C0 P l with
   |none=>simp[C0,hn,hm]at hr
   |some m'=>
    simp[C0,hn,hm]at hr;obtain⟨rfl,rfl⟩:=hr;simp only[Rr]at hx;obtain⟨u,h1,h2⟩:=UU hR hn (hR.tm b) hx;obtain⟨ad,had⟩:=VL (hR.tm b) hx;refine⟨rfl,u,?_,h2⟩;rw[had]at h1;simp only[NE,had];simpa[Instr.loadAt,Instr.sureAddr,asAddr]using h1
theorem KX (hR:Rel fm e s a): ∀ {l:List ResultVar} {res:List RP} {xs:List AV},C0 P l=some res->Co (Rr s) res=some xs->
  ∃vs:List Value,(l.mapM (NE a.tmps)).run P e.w= .ok vs e.w/\xs.length=vs.length/\ ∀ (i:Nat) x v,xs[i]? =some x->vs[i]? =some v->AS e x v
 |[],res,xs,hr,hx=>by
  simp only[C0,Option.some.injEq]at hr;subst hr;simp only[Co,Option.some.injEq]at hx;subst hx;exact⟨[],by simp,rfl,λi x v h=>by simp at h⟩
 |v::l,[],xs,hr,hx=>by
  exfalso
  cases v<;>simp only[C0]at hr
  ·cases h:C0 P l<;>simp[h]at hr
  ·split at hr<;>simp at hr
 |v::l,rp::res,xs,hr,hx=>by
  simp only[Co]at hx;split at hx
  case h_2=>cases hx
  rename_i x hx1;split at hx
  case h_2=>cases hx
  rename_i ys hx2
  cases hx
  obtain⟨g1,u,g2,g3⟩:=U7 hR hr hx1;obtain⟨vs,y1,y2,y3⟩:=KX hR g1 hx2;refine⟨u::vs,?_,by simp[y2],λi z w hz hw=> ?_⟩
  ·rw[List.mapM_cons];simp[g2,y1]
  ·cases i with
   |zero=>simp at hz hw;subst hz;subst hw;exact g3
   |succ i=>exact y3 i z w (by simpa using hz) (by simpa using hw)
theorem TF (hR:Rel fm e s a) {fn:Func} {res:List RP} {xs:List AV} (hr:C0 P fn.results.toList=some res) (hx:Co (Rr s) res=some xs):
  ∃vs:List Value,(results fn a.tmps).run P e.w= .ok (Wa vs) e.w/\xs.length=vs.length/\ ∀ (i:Nat) x v,xs[i]? =some x->vs[i]? =some v->AS e x v:=by
 obtain⟨vs,h1,h2,h3⟩:=KX hR hr hx
 refine⟨vs,?_,h2,h3⟩
 have hdef:results fn a.tmps=(do
  let vs <-fn.results.mapM (NE a.tmps)
  pure (if h:vs.size=1 then vs[0]else .tuple vs)):=rfl
 rw[hdef,Array.mapM_eq_mapM_toList]
 match vs,h1 with
 |[],h1=>simp[h1,Wa]
 |[v],h1=>simp[h1,Wa]
 |v::w::vs,h1=>simp[h1,Wa]
end
section
variable {ob:List (Nat×Obj)} {f:Nat->Option Nat}
theorem Ge (f:Nat->Option Nat) (ob:List (Nat×Obj)): ∀ (l:List Nat) (n o:Nat),o∈(mvO f ob n l).map (·.1)->n<=o/\o<n+l.length
 |[],n,o,h=>by simp[mvO]at h
 |x::l,n,o,h=>by
  simp only[mvO,List.map_cons,List.mem_cons]at h;simp only[List.length_cons];rcases h with h|h
  ·omega
  ·have:=Ge f ob l (n+1) o h;omega
theorem Lu {l1 l2:List (Nat×Obj)} {o:Nat} (h:o∉l2.map (·.1)):AN (l1++l2) o=AN l1 o:=by
 rw[D4];split
 ·rfl
 ·rename_i h1;rw[Fc h,Fc h1]
theorem Fb {l1 l2:List (Nat×Obj)} {o:Nat} (h:o∉l1.map (·.1)):AN (l1++l2) o=AN l2 o:=by
 rw[D4,if_neg h]
theorem Mg: ∀ {bs:List Nat} {n:Nat} {lss:List (List L)} {ids:List Nat},FP ob bs=some (lss,ids)->(∀ (i:Nat) o,ids[i]? =some o->f o=some (n+i))->(∀b∈bs,b<n)->
  (B9 n bs lss).2=n+ids.length/\ ∀o,AN (B9 n bs lss).1 o=if o∈bs then(AN ob o).mv f else AN (mvO f ob n ids) o
 |[],n,lss,ids,h,hf,hb=>by
  simp only[FP,Option.some.injEq,Prod.mk.injEq]at h;obtain⟨rfl,rfl⟩:=h;exact⟨rfl,λo=>by simp[B9,mvO]⟩
 |b::bs,n,lss,ids,h,hf,hb=>by
  simp only[FP]at h;split at h
  case h_2=>cases h
  rename_i cs hcs;split at h
  case h_2=>cases h
  rename_i ls os m qs h1 h2;simp only[Option.some.injEq,Prod.mk.injEq]at h;obtain⟨rfl,rfl⟩:=h;obtain⟨g1,g2⟩:=Mg (n:=n+os.length) h2 (Gr hf) (λb' hb'=>by have:=hb b' (List.mem_cons_of_mem _ hb');omega);have hbn:=hb b List.mem_cons_self;have hx:B9 n (b::bs) (ls::m)=((b,.box (mvL f cs))::(mvO f ob n os++(B9 (n+os.length) bs m).1),(B9 (n+os.length) bs m).2):=by
   simp only[B9];rw[FJ h1 (Iy hf)]
  rw[hx];refine⟨by rw[g1];simp[Nat.add_assoc],λo=> ?_⟩;simp only[AN];by_cases ho:o=b
  ·subst ho;simp[hcs,Obj.mv]
  ·rw[if_neg ho,Du];simp only[List.mem_cons,ho,false_or];by_cases hob:o∈bs
   ·have hlt:=hb o (List.mem_cons_of_mem _ hob);rw[Fb (λh=>by have:=Ge _ _ _ _ _ h;omega),g2,if_pos hob,if_pos hob]
   ·rw[if_neg hob,D4,D4,g2,if_neg hob]
def HB (ob os:List (Nat×Obj)) (gone:List Nat) (o:Nat):Obj:=
 if gone.contains o then .none else match AN ob o,AN os o with
 | .arr k rows,.arr k' _=>if k=k' then .arr k rows else .none
 |_,_=> .none
theorem fin_obj (ob os:List (Nat×Obj)) (gone:List Nat) (o:Nat):(match Ks ob os gone o,AN os o with
  |some rows,.arr k _=>Obj.arr k rows
  |_,_=> .none)=HB ob os gone o:=by
 unfold Ks HB
 by_cases hg:gone.contains o=true
 ·rw[if_pos hg,if_pos hg]
 ·rw[if_neg hg,if_neg hg]
  cases h1:AN ob o with
  |none=>rfl
  |box _=>rfl
  |arr k rows=>
   cases h2:AN os o with
   |none=>rfl
   |box _=>rfl
   |arr k' r'=>
    simp only;by_cases h:k=k'
    ·simp[h]
    ·simp[h]
theorem QE (ob os:List (Nat×Obj)) (gone:List Nat) (o:Nat): ∀is:List Nat,AN (DG os is (is.map (Ks ob os gone))) o=if o∈is then HB ob os gone o else .none
 |[]=>by simp[DG,AN]
 |i::is=>by
  have ih:=QE ob os gone o is;have hi:=fin_obj ob os gone i;simp only[List.map_cons]
  cases hf:Ks ob os gone i with
  |none=>
   rw[hf]at hi;simp only[DG,ih];by_cases h:o=i
   ·subst h;have:HB ob os gone o= .none:=by rw[<-hi]
    simp[this]
   ·simp[h]
  |some rows=>
   rw[hf]at hi;simp only[DG]
   cases hx:AN os i with
   |arr k r=>
    rw[hx]at hi;simp only[AN];by_cases h:o=i
    ·subst h;simp[<-hi]
    ·simp[h,ih]
   |none=>
    rw[hx]at hi;simp only[ih];by_cases h:o=i
    ·subst h;have:HB ob os gone o= .none:=by rw[<-hi]
     simp[this]
    ·simp[h]
   |box c=>
    rw[hx]at hi;simp only[ih];by_cases h:o=i
    ·subst h;have:HB ob os gone o= .none:=by rw[<-hi]
     simp[this]
    ·simp[h]
end
theorem Bn: ∀ (ls:List L) (n:Nat),n<=(AW n ls).2.2/\ ∀o∈(AW n ls).2.1.map (·.1),n<=o/\o<(AW n ls).2.2
 |[],n=>⟨Nat.le_refl _,λo h=>by simp[AW]at h⟩
 | .sc v::ls,n=>by simpa[AW]using Bn ls n
 | .nil v::ls,n=>by simpa[AW]using Bn ls n
 | .im k r::ls,n=>by simpa[AW]using Bn ls n
 | .al i k r::ls,n=>by simpa[AW]using Bn ls n
 | .sh d::ls,n=>by simpa[AW]using Bn ls n
 | .own k r::ls,n=>by
  obtain⟨g1,g2⟩:=Bn ls (n+1)
  show n<=(AW (n+1) ls).2.2/\ ∀o∈n::(AW (n+1) ls).2.1.map (·.1),n<=o/\o<(AW (n+1) ls).2.2
  refine⟨by omega,λo h=> ?_⟩;rcases List.mem_cons.1 h with h1|h1
  ·omega
  ·have:=g2 o h1;omega
theorem Kb (x:Arg) (n:Nat):n<=(AT n x).2.2/\ ∀o∈(AT n x).2.1.map (·.1),n<=o/\o<(AT n x).2.2:=by
 cases x with
 |v l=>simpa[AT]using Bn [l] n
 |a ls=>simpa[AT]using Bn ls n
 |pm ls=>
  obtain⟨g1,g2⟩:=Bn ls (n+1)
  show n<=(AW (n+1) ls).2.2/\ ∀o∈n::(AW (n+1) ls).2.1.map (·.1),n<=o/\o<(AW (n+1) ls).2.2
  refine⟨by omega,λo h=> ?_⟩;rcases List.mem_cons.1 h with h1|h1
  ·omega
  ·have:=g2 o h1;omega
 |pi ts=>exact⟨Nat.le_refl _,λo h=>by simp[AT]at h⟩
 |c f caps=>exact⟨Nat.le_refl _,λo h=>by simp[AT]at h⟩
theorem Lh: ∀ (args:List Arg) (t n:Nat),n<=(AH t n args).2.2/\(∀o∈(Al n args).1,n<=o/\o<(AH t n args).2.2)/\(∀o∈(Al n args).2,n<=o/\o<(AH t n args).2.2)/\
  ∀o∈(Al n args).1,o∉(Al n args).2
 |[],t,n=>⟨Nat.le_refl _,λo h=>by simp[Al]at h,λo h=>by simp[Al]at h,λo h=>by simp[Al]at h⟩
 |x::args,t,n=>by
  obtain⟨k1,k2⟩:=Kb x n;obtain⟨g1,g2,g3,g4⟩:=Lh args (t+1) (AT n x).2.2;have hm:(AH t n (x::args)).2.2=(AH (t+1) (AT n x).2.2 args).2.2:=rfl;rw[hm];have hother: ∀ {is bs:List Nat},is=(AT n x).2.1.map (·.1)++(Al (AT n x).2.2 args).1->bs=(Al (AT n x).2.2 args).2->
    n<=(AH (t+1) (AT n x).2.2 args).2.2/\(∀o∈is,n<=o/\o<(AH (t+1) (AT n x).2.2 args).2.2)/\(∀o∈bs,n<=o/\o<(AH (t+1) (AT n x).2.2 args).2.2)/\ ∀o∈is,o∉bs:=by
   intro is bs h1 h2
   subst h1;subst h2
   refine⟨by omega,λo h=> ?_,λo h=> ?_,λo h h2=> ?_⟩
   ·rcases List.mem_append.1 h with h|h
    ·have:=k2 o h;omega
    ·have:=g2 o h;omega
   ·have:=g3 o h;omega
   ·rcases List.mem_append.1 h with h|h
    ·have:=k2 o h;have:=g3 o h2;omega
    ·exact g4 o h h2
  cases x with
  |pm ls=>
   have ho:Al n (.pm ls::args)=((Al (AT n (.pm ls)).2.2 args).1,n::(Al (AT n (.pm ls)).2.2 args).2):=rfl;have hn:n<(AT n (.pm ls)).2.2:=by
    have:=(Bn ls (n+1)).1
    show n<(AW (n+1) ls).2.2
    omega
   rw[ho];refine⟨by omega,λo h=> ?_,λo h=> ?_,λo h h2=> ?_⟩
   ·have:=g2 o h;omega
   ·rcases List.mem_cons.1 h with h|h
    ·omega
    ·have:=g3 o h;omega
   ·rcases List.mem_cons.1 h2 with h3|h3
    ·have:=g2 o h;omega
    ·exact g4 o h h3
  |v l=>exact hother rfl rfl
  |a ls=>exact hother rfl rfl
  |pi ts=>exact hother rfl rfl
  |c f caps=>exact hother rfl rfl
section
variable {P:Program} {fm fm0:Fm} {M:List Nat} {e e' e0:Env} {s s':St} {a:Act} {Q:Exit->Act->World->Prop}
theorem one_ok {xs:List AV} {vs:List Value} (hl:xs.length=vs.length) (h: ∀ (i:Nat) x v,xs[i]? =some x->vs[i]? =some v->AS e x v):AS e (one xs) (Wa vs):=by
 match xs,vs with
 |[],[]=>exact .tup [] [] rfl h
 |[x],[v]=>exact h 0 x v rfl rfl
 |x::y::xs,u::v::vs=>exact .tup _ _ hl h
 |[],_::_=>simp at hl
 |[_],[]=>simp at hl
 |[_],_::_::_=>simp at hl
 |_::_::_,[]=>simp at hl
 |_::_::_,[_]=>simp at hl
def HR (m:Nat) (ids bs own:List Nat) (ob os:List (Nat×Obj)) (o:Nat):Option Nat:=
 if o∈ids then some (m+FV o ids 0)else if o∈bs\/o∈own/\EL (HB ob os ids o)=true then some o else none
def Mf (m:Nat) (ids:List Nat) (f:Nat->Option Nat) (j:Nat):Option Nat:=
 if j<m then(if f j=some j then some j else none)else ids[j - m]?
theorem exit_fg {m:Nat} {ids bs own:List Nat} {ob os:List (Nat×Obj)} (hnd:ids.Nodup) (hbs: ∀o∈bs,o<m) (hown: ∀o∈own,o<m):
  (∀o o',HR m ids bs own ob os o=some o'->Mf m ids (HR m ids bs own ob os) o'=some o)/\ ∀o o',Mf m ids (HR m ids bs own ob os) o'=some o->HR m ids bs own ob os o=some o':=by
 constructor
 ·intro o o' h
  unfold HR at h
  split at h
  ·rename_i ho
   cases h
   unfold Mf
   rw[if_neg (by omega),show m+FV o ids 0 - m=FV o ids 0 - 0 by omega]
   exact(GV (i:=0) ho).2
  ·rename_i ho
   split at h
   case isFalse=>cases h
   rename_i hc
   cases h
   have hlt:o<m:=by
    rcases hc with h1|h1
    ·exact hbs o h1
    ·exact hown o h1.1
   unfold Mf
   rw[if_pos hlt]
   have:HR m ids bs own ob os o=some o:=by unfold HR;rw[if_neg ho,if_pos hc]
   rw[if_pos this]
 ·intro o o' h
  unfold Mf at h
  split at h
  ·split at h
   ·rename_i h1;cases h;exact h1
   ·cases h
  ·rename_i hm
   unfold HR
   rw[if_pos (List.mem_of_getElem? h),Fy hnd h]
   congr 1;omega
end
section
variable {P:Program} {fm fm0:Fm} {M:List Nat} {e e' e0:Env} {s s':St} {a:Act} {Q:Exit->Act->World->Prop}
theorem mvL_one (f:Nat->Option Nat) (xs:List AV):(one xs).mv f=one (mvL f xs):=by
 match xs with
 |[]=>rfl
 |[x]=>rfl
 |x::y::xs=>rfl
theorem Fd (os:List (Nat×Obj)): ∀ (is:List Nat) (fs:List (Option (List (List T)))) (o:Nat),o∈(DG os is fs).map (·.1)->o∈is
 |[],_,o,h=>by simp[DG]at h
 |i::is,[],o,h=>by simp[DG]at h
 |i::is,none::fs,o,h=>by
  simp only[DG]at h;exact List.mem_cons_of_mem _ (Fd os is fs o h)
 |i::is,some rows::fs,o,h=>by
  simp only[DG]at h;split at h
  ·rcases List.mem_cons.1 h with h1|h1
   ·have h1:o=i:=h1;rw[h1];exact List.mem_cons_self
   ·exact List.mem_cons_of_mem _ (Fd os is fs o h1)
  ·exact List.mem_cons_of_mem _ (Fd os is fs o h)
theorem OH: ∀ (bs:List Nat) (lss:List (List L)) (n o:Nat),n<=(B9 n bs lss).2/\(o∈(B9 n bs lss).1.map (·.1)->o∈bs\/n<=o/\o<(B9 n bs lss).2)
 |[],_,n,o=>⟨by simp[B9],λh=>by simp[B9]at h⟩
 |b::bs,[],n,o=>⟨by simp[B9],λh=>by simp[B9]at h⟩
 |b::bs,ls::lss,n,o=>by
  obtain⟨k1,k2⟩:=Bn ls n;obtain⟨g1,g2⟩:=OH bs lss (AW n ls).2.2 o
  show n<=(B9 (AW n ls).2.2 bs lss).2/\(o∈b::((AW n ls).2.1++(B9 (AW n ls).2.2 bs lss).1).map (·.1)->o∈b::bs\/n<=o/\o<(B9 (AW n ls).2.2 bs lss).2)
  refine⟨by omega,λh=> ?_⟩;rcases List.mem_cons.1 h with h|h
  ·rw[h];exact .inl List.mem_cons_self
  ·rw[List.map_append]at h;rcases List.mem_append.1 h with h|h
   ·have:=k2 o h;exact .inr (by omega)
   ·rcases g2 h with h|h
    ·exact .inl (List.mem_cons_of_mem _ h)
    ·exact .inr (by omega)
theorem TZ {l1 l2:List (Nat×Obj)} {o:Nat} (h:AN l2 o= .none):AN (l1++l2) o=AN l1 o:=by
 rw[D4];split
 ·rfl
 ·rename_i h1;rw[h,Fc h1]
theorem IQ {ob:List (Nat×Obj)}: ∀ {bs:List Nat} {lss:List (List L)} {ids:List Nat},FP ob bs=some (lss,ids)-> ∀b∈bs,∃cs,AN ob b= .box cs
 |[],lss,ids,h,b,hb=>by cases hb
 |x::bs,lss,ids,h,b,hb=>by
  simp only[FP]at h;split at h
  case h_2=>cases h
  rename_i cs hcs;split at h
  case h_2=>cases h
  rename_i h1 h2;rcases List.mem_cons.1 hb with rfl|h3
  ·exact⟨cs,hcs⟩
  ·exact IQ h2 b h3
theorem Bv: ∀ (ls:List L) (n o:Nat) (c:List AV),AN (AW n ls).2.1 o≠ .box c
 |[],n,o,c=>by simp[AW,AN]
 | .sc v::ls,n,o,c=>by simpa[AW]using Bv ls n o c
 | .nil v::ls,n,o,c=>by simpa[AW]using Bv ls n o c
 | .im k r::ls,n,o,c=>by simpa[AW]using Bv ls n o c
 | .al i k r::ls,n,o,c=>by simpa[AW]using Bv ls n o c
 | .sh d::ls,n,o,c=>by simpa[AW]using Bv ls n o c
 | .own k r::ls,n,o,c=>by
  show (if o=n then Obj.arr k r else AN (AW (n+1) ls).2.1 o)≠ .box c
  split
  ·simp
  ·exact Bv ls (n+1) o c
theorem Jk: ∀ (args:List Arg) (t n o:Nat),(∃c,AN (AH t n args).2.1 o= .box c)<->o∈(Al n args).2
 |[],t,n,o=>by simp[AH,Al,AN]
 |x::args,t,n,o=>by
  have ih:=Jk args (t+1) (AT n x).2.2 o;obtain⟨k1,k2⟩:=Kb x n;obtain⟨_,_,g3,_⟩:=Lh args (t+1) (AT n x).2.2;have hos:(AH t n (x::args)).2.1=(AT n x).2.1++(AH (t+1) (AT n x).2.2 args).2.1:=rfl;rw[hos,D4];have hother: ∀ {bs:List Nat},bs=(Al (AT n x).2.2 args).2->(∀c,AN (AT n x).2.1 o≠ .box c)->
    ((∃c,(if o∈(AT n x).2.1.map (·.1)then AN (AT n x).2.1 o else AN (AH (t+1) (AT n x).2.2 args).2.1 o)= .box c)<->o∈bs):=by
   intro bs h1 h2
   subst h1
   split
   ·rename_i hk
    refine⟨fun⟨c,hc⟩=>absurd hc (h2 c),λh=> ?_⟩
    have:=g3 o h;have:=k2 o hk;omega
   ·exact ih
  cases x with
  |pm ls=>
   have ho:(Al n (.pm ls::args)).2=n::(Al (AT n (.pm ls)).2.2 args).2:=rfl;have hox:(AT n (.pm ls)).2.1=(n,.box (AW (n+1) ls).1)::(AW (n+1) ls).2.1:=rfl;rw[ho];by_cases hon:o=n
   ·subst hon;rw[hox];simp[AN]
   ·split
    ·rename_i hk;refine⟨fun⟨c,hc⟩=> ?_,λh=> ?_⟩
     ·rw[hox]at hc;simp only[AN,if_neg hon]at hc;exact absurd hc (Bv ls (n+1) o c)
     ·rcases List.mem_cons.1 h with h|h
      ·exact absurd h hon
      ·have:=g3 o h;have:=k2 o hk;omega
    ·rw[ih];simp[hon]
  |v l=>exact hother rfl (λc=>by simpa[AT]using Bv [l] n o c)
  |a ls=>exact hother rfl (λc=>by simpa[AT]using Bv ls n o c)
  |pi ts=>exact hother rfl (λc=>by simp[AT,AN])
  |c f caps=>exact hother rfl (λc=>by simp[AT,AN])
theorem SE {args:List Arg} {ws:List Value} {res:List RP} {fn:Func} {r:Res} (hE:I1 fm e0 args ws) (hR:Rel fm e s a) (hm:s.m=(AH 0 0 args).2.2)
  (hr:C0 P fn.results.toList=some res) (h:Ma res args s=some r): ∃v e',(results fn a.tmps).run P e.w= .ok v e.w/\e'.w=e.w/\KH fm e0 args r e' v:=by
 unfold Ma at h
 split at h
 case h_2=>cases h
 rename_i xs hxs
 split at h
 case h_2=>cases h
 rename_i h0 hroots
 split at h
 case h_2=>cases h
 rename_i h1 hboxes
 split at h
 case h_2=>cases h
 rename_i pfin is out js hcb hcr
 split at h
 case isFalse=>cases h
 rename_i hchk
 simp only[Option.some.injEq]at h
 subst h
 simp only[Bool.and_eq_true]at hchk
 obtain⟨hnd,hdis⟩:=hchk
 have hnd:=G2 hnd
 have hdis: ∀b∈(Al 0 args).2,b∉is++js:=λb hb=>by have:=List.all_eq_true.1 hdis b hb;simpa using this
 obtain⟨vs,v1,v2,v3⟩:=TF hR hr hxs
 obtain⟨f1,f2⟩:=Qx v2 v3
 have hH:Cs fm e {s,l:=BM xs} a (D5 xs vs):=⟨hR,f1,f2⟩
 obtain⟨e1,y1,y2,y3,y4,y5,_⟩:=La hH hroots
 obtain⟨e2,z1,z2,z3,z4,z5⟩:=KV y3 hboxes
 obtain⟨o1,o2,o3,o4⟩:=Lh args 0 0
 have hmm:h1.s.m=(AH 0 0 args).2.2:=z5.trans (y5.trans hm)
 obtain⟨q1,q2⟩:=exit_fg (ob:=h1.s.ob) (os:=(AH 0 0 args).2.1) (bs:=(Al 0 args).2) (own:=(Al 0 args).1) (m:=(AH 0 0 args).2.2) hnd (λo ho=>(o3 o ho).2) (λo ho=>(o2 o ho).2)
 generalize hf:HR (AH 0 0 args).2.2 (is++js) (Al 0 args).2 (Al 0 args).1 h1.s.ob (AH 0 0 args).2.1=f at q1 q2
 generalize hg:Mf (AH 0 0 args).2.2 (is++js) f=g at q1 q2
 have hMem:=WF z3.rel.mem (f:=f) (g:=g) (λo o' h _=>q1 o o' h) q2
 have hC:=Qg z3.rel.mem (f:=f) (g:=g) (λo o' h _=>q1 o o' h)
 have hids: ∀ (i:Nat) o,(is++js)[i]? =some o->f o=some ((AH 0 0 args).2.2+i):=λi o hi=>by
  rw[<-hf];unfold HR;rw[if_pos (List.mem_of_getElem? hi),Fy hnd hi];simp
 obtain⟨b1,b2⟩:=Mg (f:=f) hcb (Iy hids) (λb hb=>(o3 b hb).2)
 have b3:=PI (f:=f) hcr (n:=(AH 0 0 args).2.2+is.length) (Gr hids)
 have hexit:CN args {out,pfin,fin:=(Al 0 args).1.map (Ks h1.s.ob (AH 0 0 args).2.1 (is++js))}=
   (mvL f (Be (Db xs) h1.l),DG (AH 0 0 args).2.1 (Al 0 args).1 ((Al 0 args).1.map (Ks h1.s.ob (AH 0 0 args).2.1 (is++js)))++(B9 (AH 0 0 args).2.2 (Al 0 args).2 pfin).1++mvO f h1.s.ob ((AH 0 0 args).2.2+is.length) js):=by
  simp only[CN,b1,b3]
 have hgo: ∀o,(e2.ren f g).ob o=match g o with
   |some x=>(AN h1.s.ob x).mv f
   |none=> .none:=λo=>by
  simp only[Env.ren]
  cases g o with
  |none=>rfl
  |some x=>simp only[z3.rel.ob]
 have hfo: ∀o,o<(AH 0 0 args).2.2->g o=if f o=some o then some o else none:=λo ho=>by
  rw[<-hg];simp only[Mf,if_pos ho]
 have hob: ∀o,(e2.ren f g).ob o=AN (CN args {out,pfin,fin:=(Al 0 args).1.map (Ks h1.s.ob (AH 0 0 args).2.1 (is++js))}).2 o:=by
  intro o;rw[hgo,hexit];simp only;by_cases ho:o<(AH 0 0 args).2.2
  ·rw[hfo o ho,Lu (λh=>by have:=Ge _ _ _ _ _ h;omega)];have hB:o∉(Al 0 args).2->AN (B9 (AH 0 0 args).2.2 (Al 0 args).2 pfin).1 o= .none:=λh=>by
    rw[b2,if_neg h];exact Fc λh=>by have:=Ge _ _ _ _ _ h;omega
   have hfv:f o=if o∈is++js then some ((AH 0 0 args).2.2+FV o (is++js) 0)else if o∈(Al 0 args).2\/o∈(Al 0 args).1/\EL (HB h1.s.ob (AH 0 0 args).2.1 (is++js) o)=true then some o else none:=by
    rw[<-hf];rfl
   by_cases hw:o∈(Al 0 args).1
   ·rw[TZ (hB (o4 o hw)),QE,if_pos hw,hfv];by_cases hi:o∈is++js
    ·rw[if_pos hi,if_neg (by simp;omega)];simp only[HB];rw[if_pos (by simpa using hi)]
    ·rw[if_neg hi];by_cases hx:EL (HB h1.s.ob (AH 0 0 args).2.1 (is++js) o)=true
     ·rw[if_pos (show o∈(Al 0 args).2\/o∈(Al 0 args).1/\EL (HB h1.s.ob (AH 0 0 args).2.1 (is++js) o)=true from .inr ⟨hw,hx⟩)];simp only[if_true];unfold HB at hx ⊢;rw[if_neg (by simpa using hi)]at hx ⊢;split at hx
      ·rename_i k r k' r' e1' e2';split at hx
       ·rename_i hk;simp[e1',hk,Obj.mv]
       ·cases hx
      ·cases hx
     ·have hn: ¬ (o∈(Al 0 args).2\/o∈(Al 0 args).1/\EL (HB h1.s.ob (AH 0 0 args).2.1 (is++js) o)=true):=by simp[o4 o hw,hx]
      rw[if_neg hn];simp only[reduceCtorEq,if_false]
      cases hz:HB h1.s.ob (AH 0 0 args).2.1 (is++js) o with
      |none=>rfl
      |box _=>simp[hz,EL]at hx
      |arr _ _=>simp[hz,EL]at hx
   ·rw[Fb (λh=>hw (Fd _ _ _ _ h)),hfv];by_cases hbb:o∈(Al 0 args).2
    ·rw[if_neg (hdis o hbb),if_pos (show o∈(Al 0 args).2\/o∈(Al 0 args).1/\EL (HB h1.s.ob (AH 0 0 args).2.1 (is++js) o)=true from .inl hbb),b2,if_pos hbb];simp only[if_true]
    ·rw[hB hbb];by_cases hi:o∈is++js
     ·rw[if_pos hi,if_neg (by simp;omega)]
     ·have hn: ¬ (o∈(Al 0 args).2\/o∈(Al 0 args).1/\EL (HB h1.s.ob (AH 0 0 args).2.1 (is++js) o)=true):=by simp[hbb,hw]
      rw[if_neg hi,if_neg hn];simp only[reduceCtorEq,if_false]
  ·have hgv:g o=(is++js)[o - (AH 0 0 args).2.2]? :=by rw[<-hg];simp only[Mf,if_neg ho]
   rw[hgv,List.append_assoc,Fb (λh=>ho (o2 o (Fd _ _ _ _ h)).2)];have hbb:o∉(Al 0 args).2:=λh=>ho (o3 o h).2
   have hmv:AN (mvO f h1.s.ob (AH 0 0 args).2.2 (is++js)) o=match (is++js)[o - (AH 0 0 args).2.2]? with
    |some x=>(AN h1.s.ob x).mv f
    |none=> .none:=by
    rw[Kr,if_pos (by omega)]
    cases (is++js)[o - (AH 0 0 args).2.2]? <;>rfl
   rw[<-hmv,Du];by_cases hlt:o<(AH 0 0 args).2.2+is.length
   ·have hC0:o∉(mvO f h1.s.ob ((AH 0 0 args).2.2+is.length) js).map (·.1):=λh=>by have:=Ge _ _ _ _ _ h;omega
    rw[Lu hC0,Lu hC0,b2,if_neg hbb]
   ·have hA0:o∉(mvO f h1.s.ob (AH 0 0 args).2.2 is).map (·.1):=λh=>by have:=Ge _ _ _ _ _ h;omega
    rw[Fb hA0,Fb (λh=>by
     rcases(OH _ _ _ _).2 h with h2|h2
     ·exact hbb h2
     ·rw[b1]at h2;omega)]
 have hgo': ∀o,o<(AH 0 0 args).2.2->(e2.ren f g).ob o≠ .none->g o=some o/\o∉is++js/\(o∈(Al 0 args).2\/o∈(Al 0 args).1/\EL (HB h1.s.ob (AH 0 0 args).2.1 (is++js) o)=true):=λo ho hx=>by
  have h2:=hfo o ho;by_cases h3:f o=some o
  ·rw[if_pos h3]at h2;refine⟨h2,?_⟩;rw[<-hf]at h3;unfold HR at h3;split at h3
   ·simp at h3;omega
   ·rename_i h4;split at h3
    ·rename_i h5;exact⟨h4,h5⟩
    ·cases h3
  ·rw[if_neg h3]at h2;rw[hgo,h2]at hx;exact absurd rfl hx
 refine⟨_,e2.ren f g,v1,z1.trans y1,hMem,hob,λo k rows ho hx=> ?_,λo c0 ho hx=> ?_,λo c ho hx=> ?_,?_⟩
 ·obtain⟨w1,w2,w3⟩:=hgo' o ho (by rw[hx];simp)
  have hx2:=hx
  rw[hgo,w1]at hx2
  simp only at hx2
  have hob2:AN h1.s.ob o= .arr k rows:=by cases hh:AN h1.s.ob o<;>simp[hh,Obj.mv]at hx2;simp[hx2]
  have hhd:(e2.ren f g).hd o []=e2.hd o []:=by simp[Env.ren,w1]
  refine⟨?_,?_⟩
  ·rw[hhd,z3.rel.pinh o k rows (by rw[hmm];exact ho) (by rw[z3.rel.ob];exact hob2),hE.H]
  ·rcases w3 with w3|⟨_,w4⟩
   ·obtain⟨c,hc⟩:=IQ hcb o w3
    rw[hc]at hob2;cases hob2
   ·unfold HB at w4
    rw[if_neg (by simpa using w2),hob2]at w4
    split at w4
    ·rename_i k1 r1 k2 r2 e1' e2'
     cases e1'
     split at w4
     ·rename_i hk;subst hk;exact⟨r2,by rw[hE.ob];exact e2'⟩
     ·cases w4
    ·cases w4
 ·rw[hE.ob]at hx
  have hb:=(Jk args 0 0 o).1 ⟨c0,hx⟩
  have hgo2:g o=some o:=by
   rw[hfo o ho,if_pos];rw[<-hf];unfold HR;rw[if_neg (hdis o hb),if_pos (.inl hb)]
  obtain⟨cs,hcs⟩:=IQ hcb o hb
  refine⟨mvL f cs,by rw[hgo,hgo2];simp only[hcs,Obj.mv],?_⟩
  have hbk:(e2.ren f g).bk o=e2.bk o:=by simp[Env.ren,hgo2]
  rw[hbk,z3.rel.pinb o cs (by rw[hmm];exact ho) (by rw[z3.rel.ob];exact hcs),hE.B]
 ·obtain⟨w1,w2,w3⟩:=hgo' o ho (by rw[hx];simp)
  rw[hgo,w1]at hx
  simp only at hx
  rcases w3 with w3|⟨_,w4⟩
  ·obtain⟨c0,hc0⟩:=(Jk args 0 0 o).2 w3
   exact⟨c0,by rw[hE.ob];exact hc0⟩
  ·unfold HB at w4
   rw[if_neg (by simpa using w2)]at w4
   split at w4
   ·rename_i k1 r1 k2 r2 e1' e2'
    rw[e1']at hx
    simp[Obj.mv]at hx
   ·cases w4
 ·rw[hexit]
  simp only
  rw[<-mvL_one]
  have hul:h1.l.length=(D5 xs vs).length:=z3.len
  obtain⟨t1,t2⟩:=IX (e0:=e2) v2 v3 hul z3.ok
  exact(one_ok (e:=e2) (t1.trans v2) t2).mv hC (.inr λb hb=>⟨hb,rfl⟩) (.inr ⟨rfl,λb hb=>⟨hb,rfl⟩⟩)
end
section
variable {P:Program} {fm fm0:Fm} {M:List Nat} {e e' e0:Env} {s s':St} {a:Act} {Q:Exit->Act->World->Prop}
variable {K:Nat->List Arg->Option Res} {md:Nat->List Nat}
def Uv (md:Nat->List Nat) (s:St) (M:List Nat):I->Prop
 | .store _ _ x _=> ∀y∈tgt (ev s.tm x),y∈M
 | .app _ _ _ x _=> ∀y∈GP (ev s.tm x),y∈M
 | .app0 _ _ _ _ x _=> ∀y∈GP (ev s.tm x),y∈M
 | .cpy _ x _=> ∀y∈GP (ev s.tm x),y∈M
 | .clr _ _ x=> ∀y∈GP (ev s.tm x),y∈M
 | .call o f xs=>Mp s.ob (md f) (xs.map (ev s.tm)) o M
 | .callc o f xs cs=>X1 s (md f) (xs.map (ev s.tm)) o cs M
 | .callv o x xs=> ∀f caps,ev s.tm x= .clo f caps->Mp s.ob (md f) (xs.map (ev s.tm)++caps) o M
 |_=>True
structure Out (P:Program) (fm:Fm) (e:Env) (M:List Nat) (s:St) (o:Oper) (a:Act) (s':St) (Q:Exit->Act->World->Prop) (i:I):Prop where
 yl:Rs i=true->Yl P e s o a s'
 wp:o.wp P a e.w (Reach fm e M s') Q
 ld:Kj i=true->Ldl P e s o a s' i
theorem D8 (hR:Rel fm e s a) {o:Oper} {i:I} (h:Yl P e s o a s') (hl:Kj i=false:=by rfl):Out P fm e M s o a s' Q i:=
 ⟨λ_=>h,h.wp hR Q,λh=>(by rw[hl]at h;cases h)⟩
theorem loud {o:Oper} {i:I} (h:o.wp P a e.w (Reach fm e M s') Q) (hi:Rs i=false:=by rfl) (hl:Kj i=false:=by rfl):Out P fm e M s o a s' Q i:=
 ⟨λh=>(by rw[hi]at h;cases h),h,λh=>(by rw[hl]at h;cases h)⟩
theorem Py {α:Type} {l:Array α} {x:α} (h:l.toList=[x]):l= #[x]:=by
 have:l=l.toList.toArray:=by simp
 rw[this,h]
theorem MY {α:Type} {l:Array α} {x y:α} (h:l.toList=[x,y]):l= #[x,y]:=by
 have:l=l.toList.toArray:=by simp
 rw[this,h]
theorem Fl {c:Call} {f:Callee} {args:Array Operand} {ts:Array TypeId} (h1:c.callee=f) (h2:c.args=args) (h3:c.argTypes=ts):c={callee:=f,args:=args,argTypes:=ts}:=by
 cases c;simp_all
theorem Uq {α:Type} {l:Array α} {i:Nat} {x:α} (h:l[i]? =some x):l.toList[i]? =some x:=by simpa using h
theorem Rt (hR:Rel fm e s a) (hK:KOk P K) {h:AG} {b:Nat} {o:Oper} {c:Call} {i:I} (ho:o.op= .call c) (hp:KZ P h b c=some i) (hM:Uv md s M i)
  (hs:Ad K md s o.dst i=some s'):Out P fm e M s o a s' Q i:=by
 unfold KZ at hp
 split at hp
 ·rename_i f hc
  split at hp
  ·cases hx:Hb P c.argTypes.toList c.args.toList with
   |none=>simp[hx]at hp
   |some Xs=>simp only[hx,Option.map_some,Option.some.injEq]at hp;subst hp;exact loud (op_call hR hK ho hc hx hM hs)
  ·cases hx:Hb P c.argTypes.toList c.args.toList with
   |none=>simp[hx]at hp
   |some Xs=>simp only[hx,Option.map_some,Option.some.injEq]at hp;subst hp;exact loud (WX hR hK ho hc hx hM hs)
 ·rename_i t hc
  cases hx:Hb P c.argTypes.toList c.args.toList with
  |none=>simp[hx]at hp
  |some Xs=>simp only[hx,Option.map_some,Option.some.injEq]at hp;subst hp;exact loud (WW hR hK ho hc hx (λf caps h1=>hM f caps h1) hs)
 ·rename_i hc
  split at hp
  case h_2=>cases hp
  rename_i t x h1 h2
  have hcc:=Fl hc (Py h2) (Py h1)
  subst hcc
  split at hp
  ·cases hx:xOf P t x with
   |none=>simp[hx]at hp
   |some X=>simp only[hx,Option.map_some,Option.some.injEq]at hp;subst hp;exact D8 hR (op_slen hR ho ‹_› hx hs)
  ·cases hx:xOf P t x with
   |none=>simp[hx]at hp
   |some X=>simp only[hx,Option.map_some,Option.some.injEq]at hp;subst hp;exact D8 hR (op_len hR ho ‹_› hx hs)
  ·cases hp
 ·rename_i hc
  split at hp
  case h_2=>cases hp
  rename_i t t2 x y h1 h2
  have hcc:=Fl hc (MY h2) (MY h1)
  subst hcc
  split at hp
  ·rename_i el e2 ht ht2
   split at hp
   case isFalse=>cases hp
   rename_i he
   subst he
   split at hp
   case h_2=>cases hp
   rename_i k bb aa cc hk hb ha hc2
   split at hp
   case isFalse=>cases hp
   rename_i hz
   simp only[Option.some.injEq]at hp;subst hp
   exact loud (op_app hR ho ht ht2 hk hb hz ha hc2 hM hs)
  ·rename_i el k2 ht ht2
   split at hp
   case h_2=>cases hp
   rename_i k bb z aa cc hk hb hz ha hc2
   simp only[Option.some.injEq]at hp;subst hp
   cases hzz:Bc P el with
   |none=>simp[hzz]at hz
   |some zs=>
    simp only[hzz,Option.bind_some]at hz;exact loud (op_app0 hR ho ht ht2 hk hb hzz hz ha hc2 hM hs)
  ·cases hp
 ·rename_i hc
  split at hp
  case h_2=>cases hp
  rename_i t x h1 h2
  have hcc:=Fl hc (Py h2) (Py h1)
  subst hcc
  split at hp
  ·cases hx:xOf P t x with
   |none=>simp[hx]at hp
   |some X=>simp only[hx,Option.map_some,Option.some.injEq]at hp;subst hp;exact D8 hR (op_cap0 hR ho ‹_› hx hs)
  ·cases hp
 ·rename_i hc
  split at hp
  case h_2=>cases hp
  rename_i t t2 x y h1 h2
  have hcc:=Fl hc (MY h2) (MY h1)
  subst hcc
  split at hp
  case h_2=>cases hp
  rename_i el e2 ht ht2
  split at hp
  case isFalse=>cases hp
  split at hp
  case h_2=>cases hp
  rename_i k aa cc hk ha hc2
  simp only[Option.some.injEq]at hp;subst hp
  exact loud (op_cpy hR ho ht hk ha hc2 hM hs)
 ·rename_i hc
  split at hp
  case h_2=>cases hp
  rename_i t x h1 h2
  have hcc:=Fl hc (Py h2) (Py h1)
  subst hcc
  split at hp
  case h_2=>cases hp
  rename_i el ht
  split at hp
  case h_2=>cases hp
  rename_i k z aa hk hz ha
  simp only[Option.some.injEq]at hp;subst hp
  exact loud (op_clr hR ho ht hk hz ha hM hs)
 ·rename_i hc
  split at hp
  case h_2=>cases hp
  rename_i t t2 x y h1 h2
  have hcc:=Fl hc (MY h2) (MY h1)
  subst hcc
  split at hp
  case h_2=>cases hp
  rename_i k aa cc hk ha hc2
  simp only[Option.some.injEq]at hp;subst hp
  exact D8 hR (op_mm (mx:=true) hR ho ha hc2 hs)
 ·rename_i hc
  split at hp
  case h_2=>cases hp
  rename_i t t2 x y h1 h2
  have hcc:=Fl hc (MY h2) (MY h1)
  subst hcc
  split at hp
  case h_2=>cases hp
  rename_i k aa cc hk ha hc2
  simp only[Option.some.injEq]at hp;subst hp
  exact D8 hR (op_mm (mx:=false) hR ho ha hc2 hs)
 ·cases hp
end
section
variable {P:Program} {fm fm0:Fm} {M:List Nat} {e e' e0:Env} {s s':St} {a:Act} {Q:Exit->Act->World->Prop}
variable {K:Nat->List Arg->Option Res} {md:Nat->List Nat}
theorem Bg {α β:Type} {f:α->β} {x:Option α} {y:β} (h:x.map f=some y): ∃z,x=some z/\f z=y:=by
 cases x with
 |none=>simp at h
 |some z=>exact⟨z,rfl,by simpa using h⟩
theorem Pr (hR:Rel fm e s a) (hK:KOk P K) {h:AG} {b:Nat} {o:Oper} {op:Op} {i:I} (ho:o.op=op) (hp:Bu P h b o.type op=some i) (hM:Uv md s M i)
  (hs:Ad K md s o.dst i=some s'):Out P fm e M s o a s' Q i:=by
 cases op with
 |move x=>
  obtain⟨X,hx,rfl⟩:=Bg hp;exact D8 hR (Qk hR (.inl ho) hx hs)
 |assign x=>
  obtain⟨X,hx,rfl⟩:=Bg hp;exact D8 hR (Qk hR (.inr ho) hx hs)
 |pick c x y=>
  simp only[Bu]at hp;split at hp
  case h_2=>cases hp
  rename_i h1 h2 h3;simp only[Option.some.injEq]at hp;subst hp;exact D8 hR (op_pick hR ho h1 h2 h3 hs)
 |alloc t=>
  obtain⟨X,hx,rfl⟩:=Bg hp;exact loud (op_new hR ho hx hs)
 |box t x=>
  obtain⟨X,hx,rfl⟩:=Bg hp;exact loud (op_box hR ho hx hs)
 |build t parts=>
  simp only[Bu]at hp;split at hp
  ·rename_i fs z ht hz;split at hp
   case isFalse=>cases hp
   rename_i hall;obtain⟨ps,hps,rfl⟩:=Bg hp;exact D8 hR (op_bldS hR ho ht hz hall hps hs)
  ·rename_i el z ht hz;split at hp
   case h_2=>cases hp
   rename_i k hk;obtain⟨ps,hps,rfl⟩:=Bg hp;exact D8 hR (op_bldA hR ho ht hz hk hps hs)
  ·cases hp
 |buildSlice t len parts=>
  simp only[Bu]at hp;split at hp
  case h_2=>cases hp
  rename_i el ht;split at hp
  case h_2=>cases hp
  rename_i k hk;split at hp
  case isFalse=>cases hp
  rename_i hc;obtain⟨h1,h2,h3⟩:=hc;obtain⟨ps,hps,rfl⟩:=Bg hp;exact loud (op_bsl hR ho ht hk h3 h1 h2 hps hs)
 |load t x=>
  simp only[Bu]at hp;split at hp
  case h_2=>cases hp
  rename_i n X hn hx;simp only[Option.some.injEq]at hp;split at hp
  ·subst hp;exact loud (op_take hR ho hn hx hs)
  ·subst hp;exact(λh=>⟨λh1=>(by cases h1),h.wp hR Q,λ_=>h⟩:Ldl P e s o a s' _->Out P fm e M s o a s' Q _) (op_load hR ho hn hx hs)
 |store t x v=>
  simp only[Bu]at hp;split at hp
  ·rename_i X V hn hx hv;split at hp
   case isFalse=>cases hp
   rename_i h1;simp only[Option.some.injEq]at hp;subst hp;exact loud (Rw hR ho hn (λ_=>h1) hx hv hM hs)
  ·rename_i n X V hn hx hv;simp only[Option.some.injEq]at hp;subst hp;exact loud (Rw hR ho hn (λh=>by cases h) hx hv hM hs)
  ·cases hp
 |nilCheck x=>
  obtain⟨X,hx,rfl⟩:=Bg hp;exact D8 hR (op_nchk hR ho hx hs)
 |binOp op t x y t2=>
  simp only[Bu]at hp;split at hp
  ·rename_i ht;split at hp
   ·rename_i h1 h2;simp only[Option.some.injEq]at hp;subst hp;exact D8 hR (WZ hR ho h1 h2 ht hs)
   ·rename_i h1 h2;simp only[Option.some.injEq]at hp;subst hp;exact D8 hR (WZ hR ho h1 h2 ht hs)
   ·cases hp
  ·rename_i k ht;split at hp
   case h_2=>cases hp
   rename_i X Y h1 h2;simp only[Option.some.injEq]at hp;subst hp;exact D8 hR (WY hR ho h1 h2 hs)
  ·rename_i ht;split at hp
   case h_2=>cases hp
   rename_i X Y h1 h2;simp only[Option.some.injEq]at hp;subst hp;exact D8 hR (WY hR ho h1 h2 hs)
  ·cases hp
 |unOp op t x=>
  simp only[Bu]at hp;split at hp
  case h_2=>cases hp
  rename_i X hx;simp only[Option.some.injEq]at hp;subst hp;exact D8 hR (op_un hR ho hx hs)
 |convert t u x=>
  simp only[Bu]at hp;split at hp
  ·rename_i h1 h2 h3;simp only[Option.some.injEq]at hp;subst hp;exact D8 hR (WV hR ho h1 h2 h3 hs)
  ·rename_i h1 h2 h3;simp only[Option.some.injEq]at hp;subst hp;exact D8 hR (WU hR ho h1 h2 h3 hs)
  ·rename_i h1 h2 h3;split at hp
   case h_2=>cases hp
   rename_i h4;simp only[Option.some.injEq]at hp;subst hp;exact loud (op_b2s hR ho h1 h4 h2 h3 hs)
  ·cases hp
 |makeSlice t len cap=>
  simp only[Bu]at hp;split at hp
  case h_2=>cases hp
  rename_i el ht;split at hp
  case h_2=>cases hp
  rename_i k z bb X hk hz hb hx;split at hp
  case isFalse=>cases hp
  rename_i hsx;simp only[Option.some.injEq]at hp;subst hp;exact loud (op_mk hR ho ht hk hz hb hsx hx hs)
 |slice t x lo hi mx=>
  simp only[Bu]at hp;split at hp
  ·rename_i h1 h2 h3 h4;simp only[Option.some.injEq]at hp;subst hp;exact D8 hR (op_sls hR ho h1 h2 h3 h4 hs)
  ·rename_i h1 h2 h3 h4;obtain⟨k,hk,rfl⟩:=Bg hp;exact D8 hR (op_sl hR ho h1 hk h2 h3 h4 hs)
  ·rename_i h1 h2 h3;split at hp
   case h_2=>cases hp
   split at hp
   case isFalse=>cases hp
   rename_i hz;simp only[Bool.and_eq_true]at hz;obtain⟨k,hk,rfl⟩:=Bg hp
   cases lo with
   |none=>exact D8 hR (op_sl0 hR ho h1 hk rfl hz.1 hz.2 h2 hs)
   |some l=>cases h4:xOf P o.type l<;>simp[ox,h4]at h3
  ·cases hp
 |fieldAddr t x f=>
  simp only[Bu]at hp;split at hp
  case h_2=>cases hp
  rename_i fs ht;split at hp
  case h_2=>cases hp
  rename_i fd X hf hx;split at hp
  ·rename_i m hm;simp only[Option.some.injEq]at hp;subst hp;exact D8 hR (op_fa hR ho ht (Uq hf) hm hx hs)
  ·cases hp
 |field t x f=>
  simp only[Bu]at hp;split at hp
  case h_2=>cases hp
  rename_i fs ht;split at hp
  case h_2=>cases hp
  rename_i fd X hf hx;obtain⟨n,hn,rfl⟩:=Bg hp;exact D8 hR (op_fld hR ho ht (Uq hf) hn hx hs)
 |indexAddr t x j=>
  simp only[Bu]at hp;split at hp
  ·rename_i h1 h2 h3;obtain⟨k,hk,rfl⟩:=Bg hp;exact D8 hR (op_ia hR ho h1 hk h2 h3 hs)
  ·rename_i h1 h2 h3;obtain⟨k,hk,rfl⟩:=Bg hp;exact D8 hR (op_iaa hR ho h1 hk h2 h3 hs)
  ·cases hp
 |index t x j=>
  simp only[Bu]at hp;split at hp
  case h_2=>cases hp
  rename_i h1 h2 h3;simp only[Option.some.injEq]at hp;subst hp;exact D8 hR (op_ixs hR ho h1 h2 h3 hs)
 |extract x j=>
  obtain⟨X,hx,rfl⟩:=Bg hp;exact D8 hR (op_ext hR ho hx hs)
 |call c=>exact Rt hR hK ho hp hM hs
 |makeFunc f first caps=>
  cases f with
  |func f=>
   simp only[Bu]at hp;split at hp
   case isFalse=>cases hp
   rename_i hf;obtain⟨X,hx,rfl⟩:=Bg hp;have hf:=Array.eq_empty_of_size_eq_zero hf;subst hf;exact D8 hR (op_fn hR ho hx hs)
  |_=>simp[Bu]at hp
 |makeInterface t x=>simp only[Bu,Option.some.injEq]at hp;subst hp;simp[Ad]at hs
 |panic x=>simp only[Bu,Option.some.injEq]at hp;subst hp;simp[Ad]at hs
 |_=>simp[Bu]at hp
end
section
variable {P:Program} {fm fm0:Fm} {M:List Nat} {e e' e0:Env} {s s':St} {a:Act} {Q:Exit->Act->World->Prop}
variable {K:Nat->List Arg->Option Res} {md:Nat->List Nat}
theorem U9 {cells:List AV} {y:AV} (h:y∈cells) {o:Nat} (ho:o∈A1 y):o∈Jj cells:=by
 obtain⟨i,hi⟩:=List.getElem?_of_mem h;exact Ji hi o ho
theorem Eh {ob:List (Nat×Obj)}: ∀ {ms:List Nat} {xs:List AV} {i m:Nat} {x:AV},ms[i]? =some m->xs[i]? =some x-> ∀o∈Gc ob m x,o∈Ij ob ms xs
 |[],_,i,m,x,h,_,o,_=>by simp at h
 |_::_,[],i,m,x,_,h,o,_=>by simp at h
 |n::ms,y::xs,0,m,x,h,h2,o,ho=>by
  simp only[List.getElem?_cons_zero,Option.some.injEq]at h h2;subst h;subst h2;exact List.mem_append_left _ ho
 |n::ms,y::xs,i+1,m,x,h,h2,o,ho=>by
  simp only[List.getElem?_cons_succ]at h h2;exact List.mem_append_right _ (Eh h h2 o ho)
theorem Nr: ∀ {n j b:Nat},j<n->b+j∈We b n
 |0,j,b,h=>absurd h (by omega)
 |n+1,0,b,_=>List.mem_cons_self
 |n+1,j+1,b,h=>by
  have:=Nr (n:=n) (j:=j) (b:=b+1) (by omega);rw[show b+1+j=b+(j+1)by omega]at this;exact List.mem_cons_of_mem _ this
theorem IS (ob:List (Nat×Obj)) (ms:List Nat) (xs:List AV) (base:Nat) {M:List Nat} (hM: ∀o∈IT ob ms xs base,o∈M):Mp ob ms xs base M:=by
 refine⟨λj hj=>hM _ (List.mem_append_left _ (Nr hj)),λi m x h1 h2 h3 o ho=> ?_,λi m b j h1 h2 h3=>⟨?_,λcells hc y hy o ho=> ?_⟩⟩
 ·refine hM _ (List.mem_append_right _ (Eh h1 h3 o ?_));unfold Gc;rw[if_neg h2];exact List.mem_append_left _ ho
 ·refine hM _ (List.mem_append_right _ (Eh h1 h3 b ?_));unfold Gc;rw[if_neg h2];exact List.mem_append_right _ List.mem_cons_self
 ·refine hM _ (List.mem_append_right _ (Eh h1 h3 o ?_));unfold Gc;rw[if_neg h2];refine List.mem_append_right _ (List.mem_cons_of_mem _ ?_);simp only[hc];exact U9 hy ho
theorem Qw (md:Nat->List Nat) (s:St) (i:I) {M:List Nat} (hM: ∀o∈OB md s i,o∈M):Uv md s M i:=by
 cases i with
 |store o n x v=>exact hM
 |app o k b x y=>exact hM
 |app0 o k b z x y=>exact hM
 |cpy k x y=>exact hM
 |clr k z x=>exact hM
 |call o f xs=>exact IS _ _ _ _ hM
 |callv o x xs=>
  intro f caps h;refine IS _ _ _ _ λo' ho'=>hM _ ?_
  simp only[OB,h];exact ho'
 |callc o f xs cs=>
  refine⟨λj hj=>hM _ (List.mem_append_left _ (Nr hj)),λi hi x hx o' ho'=> ?_,λh hh=>IS _ _ _ _ λo' ho'=>hM _ ?_⟩
  ·refine hM _ (List.mem_append_right _ (List.mem_append_left _ (List.mem_flatMap.2 ⟨i,hi,?_⟩)));simp only[hx];exact ho'
  ·refine List.mem_append_right _ (List.mem_append_right _ ?_);simp only[hh];exact ho'
 |_=>trivial
theorem A8 {α:Type} {c:Prop} [Decidable c] {x:Option α} {y:α} (h:(if c then x else none)=some y):c/\x=some y:=by
 split at h
 ·exact⟨‹_›,h⟩
 ·cases h
theorem Hk (hR:Rel fm e s a) (hK:KOk P K) {h:AG} {n r i:Nat} {ops:Array Oper} {o:Oper} {ins:Ins} (hp:Cn P h n r ops i o=some ins)
  (hM:Uv md s M ins.op) (hs:Fw K md ins s=some s'):
  ins.d=o.dst/\if Region.wanted o (yielded ops a.tmps)then Out P fm e M s o a s' Q ins.op else s.put o.dst .und=some s':=by
 unfold Cn at hp
 split at hp
 case h_1=>cases hp
 rename_i i' hop
 have hp:=(A8 hp).2
 split at hp
 ·rename_i hg
  simp only[Option.some.injEq]at hp
  subst hp
  refine⟨rfl,?_⟩
  simp only[Region.wanted,hg,if_true]
  simp only[Fw]at hs
  exact Pr hR hK rfl hop hM hs
 ·rename_i j b hg
  split at hp
  case h_2=>cases hp
  rename_i t ht
  split at hp
  case isFalse=>cases hp
  rename_i hlt
  simp only[Option.some.injEq]at hp
  subst hp
  refine⟨rfl,?_⟩
  simp only[Fw]at hs
  obtain⟨hlt2,hs⟩:=A8 hs
  have hsz:t<a.tmps.size:=by rw[hR.size];exact hlt2
  have hgt:a.tmps[t]? =some (a.tmps.getD t undef):=by
   simp[Array.getD,hsz]
  have htm:=hR.tm t
  have hy:yielded ops a.tmps j=match a.tmps.getD t undef with
    | .bool b=>some b
    |_=>none:=by
   unfold yielded
   rw[ht]
   simp only[Option.bind_some,hgt]
   cases a.tmps.getD t undef<;>rfl
  simp only[Region.wanted,hg,hy]
  split at hs
  ·rename_i b1 hb1
   rw[hb1]at htm
   rw[htm.sc_inv.1]
   by_cases hbb:b1=b
   ·subst hbb
    simp only[if_true]at hs
    simp only[beq_self_eq_true,if_true]
    exact Pr hR hK rfl hop hM hs
   ·rw[if_neg hbb]at hs
    have:(some b1==some b)=false:=by simp[hbb]
    simp only[this,Bool.false_eq_true,if_false]
    exact hs
  ·rename_i hb1
   rw[hb1]at htm
   generalize a.tmps.getD t undef=u at htm
   cases htm
   have:((match undef with
    | .bool b=>some b
    |_=>none)==some b)=false:=by simp[undef]
   simp only[this,Bool.false_eq_true,if_false]
   exact hs
  ·cases hs
theorem F9 {h:AG} {n r:Nat} {ops:Array Oper}: ∀ {l:List Oper} {i:Nat} {ins:List Ins},Ca P h n r ops i l=some ins->ins.length=l.length/\
  ∀ (k:Nat) o x,l[k]? =some o->ins[k]? =some x->Cn P h n r ops (i+k) o=some x
 |[],i,ins,hp=>by
  simp only[Ca,Option.some.injEq]at hp;subst hp;exact⟨rfl,λk o x h _=>by simp at h⟩
 |o::l,i,ins,hp=>by
  simp only[Ca]at hp;split at hp
  case h_2=>cases hp
  rename_i x m hx hm;simp only[Option.some.injEq]at hp;subst hp;obtain⟨g1,g2⟩:=F9 hm;refine⟨by simp[g1],λk o' x' h1 h2=> ?_⟩
  cases k with
  |zero=>
   simp only[List.getElem?_cons_zero,Option.some.injEq]at h1 h2;subst h1;subst h2;exact hx
  |succ k=>
   simp only[List.getElem?_cons_succ]at h1 h2;have:=g2 k o' x' h1 h2;rwa [show i+1+k=i+(k+1)by omega]at this
theorem Rn (hK:KOk P K) {h:AG} {n r:Nat} {ops:Array Oper}: ∀ {l:List Ins} {i:Nat} {e:Env} {s:St} {a:Act},Rel fm e s a->(∀ (k:Nat) x,l[k]? =some x-> ∃o,ops[i+k]? =some o/\Cn P h n r ops (i+k) o=some x)->
  Fv K md l s=some s'->(∀e' a',Rel fm e' s' a'->Q .normal a' e'.w)->wpOps P ops Q (List.range' i l.length) a e.w
 |[],i,e,s,a,hR,hp,hs,hQ=>by
  simp only[Fv,Option.some.injEq]at hs;subst hs;exact hQ e a hR
 |x::l,i,e,s,a,hR,hp,hs,hQ=>by
  simp only[Fv]at hs;split at hs
  case h_2=>cases hs
  rename_i s1 hs1;obtain⟨o,ho,hx⟩:=hp 0 x rfl;simp only[Nat.add_zero]at ho;have hrest: ∀ {a1:Act} {w1:World},Reach fm e (OB md s x.op) s1 a1 w1->wpOps P ops Q (List.range' (i+1) l.length) a1 w1:=by
   intro a1 w1 hh;obtain⟨e1,h1,h2,_⟩:=hh;rw[<-h1];refine Rn (h:=h) (n:=n) (r:=r) hK h2 (λk y hy=> ?_) hs hQ;have:=hp (k+1) y (by simpa using hy);rwa [show i+(k+1)=i+1+k by omega]at this
  obtain⟨hd,hw⟩:=Hk (Q:=Q) (M:=OB md s x.op) hR hK hx (Qw md s x.op λo ho=>ho) hs1;simp only[List.length_cons,List.range'_succ,wpOps,ho];split at hw
  ·rename_i hwa;simp only[hwa,if_true];exact .inl (Oper.wp_mono (λa1 w1 hh=>hrest hh) hw.wp)
  ·rename_i hwa;simp only[hwa];exact hrest ⟨e,rfl,hR.put .und hw,.refl e _⟩
theorem Ic (hK:KOk P K) {h:AG} {n r:Nat} {ops:Array Oper} {l:List Ins} (hR:Rel fm e s a) (hp:Ca P h n r ops 0 ops.toList=some l) (hs:Fv K md l s=some s')
  (hQ: ∀e' a',Rel fm e' s' a'->Q .normal a' e'.w):(Code.region r ops false).wp P Q a e.w:=by
 obtain⟨g1,g2⟩:=F9 hp
 refine wp_region ?_
 have:=Rn (h:=h) (n:=n) (r:=r) (i:=0) (Q:=Q) (ops:=ops) hK hR (λk x hx=> ?_) hs hQ
 ·rw[g1]at this
  rw[List.range_eq_range']
  simpa using this
 ·have hlt:k<ops.toList.length:=by rw[<-g1];exact(List.getElem?_eq_some_iff.1 hx).1
  obtain⟨o,ho⟩:=AF hlt
  exact⟨o,by simpa using ho,by have:=g2 k o x ho hx;rwa [Nat.zero_add]at this ⊢⟩
end
section
variable {P:Program} {ops:Array Oper} {Q:Exit->Act->World->Prop}
abbrev HN:=List (Nat×Nat×Option Go.Obj)
def Fp (held:HN) (w:World):Prop:= ∀h∈held,w.heap[h.2.1]? =h.2.2
def HN.cut (held:HN) (ops:Array Oper) (j:Nat):HN:=held.filter λh=> !Sr ops ops.size h.1 j
def JW (P:Program) (ops:Array Oper) (Q:Exit->Act->World->Prop):Nat->HN->Array Bool->Act->World->Prop
 |0,_,listed,a,w=>Region.ready .any ops listed=[]/\Q .normal a w
 |fuel+1,held,listed,a,w=>(Region.ready .any ops listed=[]->Q .normal a w)/\
  ∀j∈Region.ready .any ops listed,wpOp P ops Q j (λa' w'=>Fp (held.cut ops j) w'/\JW P ops Q fuel (held.cut ops j) (listed.setIfInBounds j true) a' w') a w
theorem NS: ∀ (fuel:Nat) (held:HN) (listed:Array Bool) (a:Act) (w:World),JW P ops Q fuel held listed a w->wpAny P .any ops Q fuel listed a w
 |0,_,_,_,_,h=>h
 |fuel+1,_,_,_,_,h=>⟨h.1,λi hi=>wpOp_mono (λa' w' h'=>NS fuel _ _ a' w' h'.2) (h.2 i hi)⟩
theorem NT: ∀ (fuel:Nat) {held held':HN} {listed:Array Bool} {a:Act} {w:World},(∀h∈held',h∈held)->JW P ops Q fuel held listed a w->JW P ops Q fuel held' listed a w
 |0,_,_,_,_,_,_,h=>h
 |fuel+1,held,held',_,_,_,hs,h=>⟨h.1,λi hi=>wpOp_mono (λa' w' h'=>by
   have hc: ∀h∈held'.cut ops i,h∈held.cut ops i:=λx hx=>by
    unfold HN.cut at*;rw[List.mem_filter]at*;exact⟨hs x hx.1,hx.2⟩
   exact⟨λx hx=>h'.1 x (hc x hx),NT fuel hc h'.2⟩) (h.2 i hi)⟩
def KI (ops:Array Oper) (listed:Array Bool):Prop:= ∀k o,listed.getD k false=true->ops[k]? =some o-> ∀e∈o.after,Region.binds .any e=true->listed.getD e.on false=true
theorem RT (n:Nat):KI ops (Array.replicate n false):=λk o h _=>by
 exfalso;simp only[Array.getD_eq_getD_getElem?,Array.getElem?_replicate]at h;split at h<;>simp at h
theorem PR {listed:Array Bool} {i k:Nat} (h:(listed.setIfInBounds i true).getD k false=true):k=i\/listed.getD k false=true:=by
 by_cases hik:i=k
 ·exact .inl hik.symm
 ·right;rwa [getD_set_ne false hik]at h
theorem KA {listed:Array Bool} {j:Nat} (hc:KI ops listed) (hj:j∈Region.ready .any ops listed):KI ops (listed.setIfInBounds j true):=by
 intro k o hk ho e he hb;obtain⟨_,oj,hoj,hall⟩:=mem_ready.1 hj;refine getD_set_true ?_;rcases PR hk with rfl|hk
 ·rw[hoj]at ho;cases ho;exact hall e he hb
 ·exact hc k o hk ho e he hb
theorem Mo {listed:Array Bool} (hc:KI ops listed): ∀ (n i j:Nat),(∀o,ops[j]? =some o-> ∀e∈o.after,Region.binds .any e=true->listed.getD e.on false=true)->Sr ops n i j=true->listed.getD i false=true
 |0,i,j,_,h=>by simp[Sr]at h
 |n+1,i,j,hj,h=>by
  simp only[Sr]at h;split at h
  ·rename_i o ho;obtain⟨e,he,h2⟩:=List.any_eq_true.1 h;simp only[Bool.and_eq_true,Bool.or_eq_true,beq_iff_eq]at h2;have hl:=hj o ho e (by simpa using he) h2.1;rcases h2.2 with h3|h3
   ·rwa [h3]at hl
   ·exact Mo hc n i e.on (λo' ho' e' he' hb'=>hc e.on o' hl ho' e' he' hb') h3
  ·cases h
theorem PH {listed:Array Bool} (hc:KI ops listed) {i j:Nat} (hi:i∈Region.ready .any ops listed) (hj:j∈Region.ready .any ops listed):Sr ops ops.size i j=false:=by
 cases h:Sr ops ops.size i j with
 |false=>rfl
 |true=>
  obtain⟨_,oj,hoj,hall⟩:=mem_ready.1 hj;have h1:=Mo hc ops.size i j (λo ho e he hb=>by rw[hoj]at ho;cases ho;exact hall e he hb) h;have h0:=(mem_ready.1 hi).1;rcases Nat.lt_or_ge i listed.size with h'|h'
  ·simp[h']at h0 h1;rw[h0]at h1;cases h1
  ·simp[Array.getElem?_eq_none h']at h1
theorem Fp.cut {held:HN} {w:World} (h:Fp held w) (j:Nat):Fp (held.cut ops j) w:=λx hx=>h x (List.mem_filter.1 hx).1
theorem W9 {i:Nat} {oi:Oper} {v:Value} {ex:HN} (hi:ops[i]? =some oi) (hsel: ∀ (j:Nat) (o:Oper) cs b,ops[j]? =some o->o.op≠ .select cs b)
  (hQ: ∀c a w,Q (.panic c) (a.put oi.dst v) w->Q (.panic c) a w) (hex: ∀h∈ex,h.1=i):
  ∀ (fuel:Nat) (held:HN) (listed:Array Bool) (a:Act) (w:World),KI ops listed->
   (∀j oj,ops[j]? =some oj->j≠i->listed.getD j true=false->(∀e∈oj.after,Region.binds .any e=true->e.on≠i)->oi.apart ops oj=true)->
   i∈Region.ready .any ops listed->YieldsIf P ops (Fp ex) oi v a->Fp ex w->Fp held w->
   JW P ops Q fuel (ex++held) (listed.setIfInBounds i true) (a.put oi.dst v) w->JW P ops Q (fuel+1) held listed a w:=by
 intro fuel
 induction fuel with
 |zero=>
  intro held listed a w hcl _ hr hy hS hH H;refine⟨λh=>(by rw[h]at hr;cases hr),λj hj=> ?_⟩;by_cases hji:j=i
  ·subst hji;exact hy.wpOp hi hS ⟨hH.cut _,H⟩
  ·have:=ready_mono hj hji;rw[H.1]at this
   cases this
 |succ fuel ih=>
  intro held listed a w hcl hfree hr hy hS hH H;refine⟨λh=>(by rw[h]at hr;cases hr),λj hj=> ?_⟩;by_cases hji:j=i
  ·subst hji;refine hy.wpOp hi hS ⟨hH.cut _,NT _ (λx hx=> ?_) H⟩;exact List.mem_append_right _ (List.mem_filter.1 hx).1
  ·have h1:=H.2 j (ready_mono hj hji);obtain⟨hjun,oj,hoj,hall⟩:=mem_ready.1 hj;have hna:=PH hcl hr hj;have hcut:HN.cut (ex++held) ops j=ex++HN.cut held ops j:=by
    unfold HN.cut;rw[List.filter_append];congr 1;rw[List.filter_eq_self];intro x hx;rw[hex x hx,hna];rfl
   rw[hcut]at h1;have hnot: ∀e∈oj.after,Region.binds .any e=true->e.on≠i:=λe he hb heq=>by
    have h1:=hall e he hb;have h0:=(mem_ready.1 hr).1;rw[heq]at h1;rcases Nat.lt_or_ge i listed.size with h'|h'
    ·simp[h']at h0 h1;rw[h0]at h1;cases h1
    ·simp[Array.getElem?_eq_none h']at h1
   have h2:=wpOp_putIf hoj (hfree j oj hoj hji hjun hnot) (λcs b=>hsel i oi cs b hi) (λcs b=>hsel j oj cs b hoj) hQ hy h1;have hfree': ∀k ok,ops[k]? =some ok->k≠i->(listed.setIfInBounds j true).getD k true=false->
     (∀e∈ok.after,Region.binds .any e=true->e.on≠i)->oi.apart ops ok=true:=λk ok hk hki hun hno=>by
    refine hfree k ok hk hki ?_ hno
    by_cases hjk:j=k
    ·subst hjk;exact hjun
    ·rw[getD_set_ne true hjk]at hun;exact hun
   refine wpOp_mono (λa' w' h3=> ?_) h2;obtain⟨g1,g2,g3⟩:=h3;have gex:Fp ex w':=λx hx=>g2 x (List.mem_append_left _ hx)
   have ghd:Fp (HN.cut held ops j) w':=λx hx=>g2 x (List.mem_append_right _ hx)
   refine⟨ghd,ih (HN.cut held ops j) (listed.setIfInBounds j true) a' w' (KA hcl hj) hfree' (ready_mono hr (Ne.symm hji)) g1 gex ghd ?_⟩;rw[Array.setIfInBounds_comm _ _ hji];exact g3
theorem Oper.wp_keep {o:Oper} {a:Act} {w:World} {K:Act->World->Prop} (h:o.wp P a w K Q):
  o.wp P a w (λa' w'=>K a' w'/\ ∀x,(∀d,o.dst=some d->x≠ .tmp d)->a'.eval x=a.eval x) Q:=by
 have hp: ∀v x,(∀d,o.dst=some d->x≠ .tmp d)->(a.put o.dst v).eval x=a.eval x:=λv x hx=>Act.eval_put hx
 unfold Oper.wp at*
 generalize (execOp a.eval o).run P w=r at*
 cases r with
 |ok n w'=>
  cases n<;>simp only[Oper.upon]at h ⊢
  case value u=>exact⟨h,hp u⟩
  case skip=>exact⟨h,hp _⟩
  case defer d=>
   refine⟨h,λx hx=> ?_⟩;rw[Act.eval_put hx]
   cases x<;>rfl
  case enter f args=>exact Calls.mono h λe w'' he=>by cases e<;>first|exact⟨he,hp _⟩|exact he
  case row row args=>exact Rows.mono h λu w'' he=>⟨he,hp u⟩
 |halt x w'=>cases x<;>simp only[Oper.upon]at h ⊢ <;>exact h
end
section
variable {P:Program} {fm fm0:Fm} {M:List Nat} {e e' e0:Env} {s s':St} {a a':Act} {Q:Exit->Act->World->Prop}
variable {K:Nat->List Arg->Option Res} {md:Nat->List Nat}
structure Alk (x y:St):Prop where
 n:x.n=y.n
 m:x.m=y.m
 tm: ∀t,Aw x.tm t=Aw y.tm t
 ob: ∀o,AN x.ob o=AN y.ob o
theorem Alk.refl (x:St):Alk x x:=⟨rfl,rfl,λ_=>rfl,λ_=>rfl⟩
theorem Alk.trans {x y z:St} (h:Alk x y) (h':Alk y z):Alk x z:=⟨h.n.trans h'.n,h.m.trans h'.m,λt=>(h.tm t).trans (h'.tm t),λo=>(h.ob o).trans (h'.ob o)⟩
theorem Alk.symm {x y:St} (h:Alk x y):Alk y x:=⟨h.n.symm,h.m.symm,λt=>(h.tm t).symm,λo=>(h.ob o).symm⟩
theorem Rel.alk (hR:Rel fm e s a) (h:Alk s s'):Rel fm e s' a:=
 ⟨hR.mem,λo=>by rw[hR.ob,h.ob],λo k rows ho=>hR.pinh o k rows (h.m ▸ ho),λo cs ho=>hR.pinb o cs (h.m ▸ ho),by rw[hR.size,h.n],hR.defers,λt=>h.tm t ▸ hR.tm t⟩
theorem P9 (x:Nat×AV) (t:Nat): ∀l:List (Nat×AV),Aw (W5 x l) t=if t=x.1 then x.2 else Aw l t
 |[]=>rfl
 |y::l=>by
  simp only[W5];split
  ·rfl
  ·rename_i hlt;simp only[Aw,P9 x t l];by_cases h1:t=y.1
   ·rw[if_pos h1,if_pos h1,if_neg (by omega)]
   ·rw[if_neg h1,if_neg h1]
theorem Jw (t:Nat): ∀l:List (Nat×AV),Aw (Po l) t=Aw l t
 |[]=>rfl
 |x::l=>by simp only[Po,P9,Jw t l];rfl
theorem QC (x:Nat×Obj) (t:Nat): ∀l:List (Nat×Obj),AN (W6 x l) t=if t=x.1 then x.2 else AN l t
 |[]=>rfl
 |y::l=>by
  simp only[W6];split
  ·rfl
  ·rename_i hlt;simp only[AN,QC x t l];by_cases h1:t=y.1
   ·rw[if_pos h1,if_pos h1,if_neg (by omega)]
   ·rw[if_neg h1,if_neg h1]
theorem Jy (t:Nat): ∀l:List (Nat×Obj),AN (Pp l) t=AN l t
 |[]=>rfl
 |x::l=>by simp only[Pp,QC,Jy t l];rfl
theorem CV.alk {x y:St} (h:CV x y):Alk x y:=by
 obtain⟨h1,h2,h3,h4⟩:=h;exact⟨h1,h2,λt=>by rw[<-Jw t x.tm,h3,Jw],λo=>by rw[<-Jy o x.ob,h4,Jy]⟩
theorem Jg {x y:Option St} {s:St} (h:UJ x y=some s):x=some s/\ ∃s',y=some s'/\Alk s' s:=by
 unfold UJ at h;split at h
 ·rename_i s1 s2;split at h
  ·rename_i h1
   cases h
   exact⟨rfl,s2,rfl,h1.alk.symm⟩
  ·cases h
 ·cases h
theorem Ur {f:Nat->Option D}: ∀ {rs:List Nat} {r:Nat} {t:D} {s':St},altD f r rs=some t->E0 K md t s=some s'-> ∀j∈r::rs,∃tj sj,f j=some tj/\E0 K md tj s=some sj/\Alk sj s'
 |[],r,t,s',h,hr,j,hj=>by
  simp only[List.mem_singleton]at hj;subst hj;exact⟨t,s',h,hr,.refl _⟩
 |r'::rs,r,t,s',h,hr,j,hj=>by
  simp only[altD]at h;split at h
  case h_2=>cases h
  rename_i ta tb ha hb
  cases h
  simp only[E0]at hr;obtain⟨h1,s2,h2,h3⟩:=Jg hr;rcases List.mem_cons.1 hj with rfl|hj
  ·exact⟨ta,s',ha,h1,.refl _⟩
  ·obtain⟨tj,sj,g1,g2,g3⟩:=Ur hb h2 j hj;exact⟨tj,sj,g1,g2,g3.trans h3⟩
theorem H5 {ops:Array Oper} {l:List Ins} {listed:Array Bool} {j:Nat} {x:Ins}: ∀ {js:List Nat},OF ops l listed js=some (j,x)->
  j∈js/\l[j]? =some x/\(Rs x.op||Kj x.op)=true/\Region.free .any ops listed j=true
 |[],h=>by cases h
 |i::js,h=>by
  simp only[OF]at h;split at h
  ·rename_i y hy;split at h
   ·rename_i hc
    cases h
    simp only[Bool.and_eq_true]at hc;exact⟨List.mem_cons_self,hy,hc.1,hc.2⟩
   ·obtain⟨h1,h2⟩:=H5 h;exact⟨List.mem_cons_of_mem _ h1,h2⟩
  ·obtain⟨h1,h2⟩:=H5 h;exact⟨List.mem_cons_of_mem _ h1,h2⟩
theorem TK {h:AG} {n r i:Nat} {ops:Array Oper} {o:Oper} {ins:Ins} (hp:Cn P h n r ops i o=some ins):
  ins.d=o.dst/\((o.guard=none/\ins.g=none)\/ ∃j b t,o.guard=some (j,b)/\(ops[j]?).bind (·.dst)=some t/\ins.g=some (t,b)):=by
 unfold Cn at hp
 split at hp
 case h_1=>cases hp
 rename_i i' hop
 have hp:=(A8 hp).2
 split at hp
 ·rename_i hg
  simp only[Option.some.injEq]at hp
  subst hp
  exact⟨rfl,.inl ⟨hg,rfl⟩⟩
 ·rename_i j b hg
  split at hp
  case h_2=>cases hp
  rename_i t ht
  obtain⟨_,hp⟩:=A8 hp
  simp only[Option.some.injEq]at hp
  subst hp
  exact⟨rfl,.inr ⟨j,b,t,hg,ht,rfl⟩⟩
theorem Vs (tmps:Array Value) (t:Nat):(match tmps[t]? with
  |some (.bool b)=>some b
  |_=>none)=(match tmps.getD t undef with
  | .bool b=>some b
  |_=>none):=by
 rw[Array.getD_eq_getD_getElem?]
 cases tmps[t]? with
 |none=>rfl
 |some v=>cases v<;>rfl
theorem JT {ops:Array Oper} {g t:Nat} (a:Act) (h:(ops[g]?).bind (·.dst)=some t):yielded ops a.tmps g=match a.tmps.getD t undef with
  | .bool b=>some b
  |_=>none:=by
 unfold yielded
 rw[h,<-Vs]
 rfl
theorem Ri {ops:Array Oper} {o:Oper} {d:Option Nat} (hk: ∀x,(∀t,d=some t->x≠ .tmp t)->a'.eval x=a.eval x) (hd: ∀t,d=some t->t∉o.looksAt ops):
  Region.wanted o (yielded ops a'.tmps)=Region.wanted o (yielded ops a.tmps):=by
 unfold Region.wanted
 cases hg:o.guard with
 |none=>rfl
 |some gw=>
  obtain⟨g,want⟩:=gw;have:yielded ops a'.tmps g=yielded ops a.tmps g:=by
   cases ht:(ops[g]?).bind (·.dst)with
   |none=>simp[yielded,ht]
   |some t=>
    rw[JT a ht,JT a' ht];have:=hk (.tmp t) (λu hu hc=>by
     cases hc
     exact hd t hu (by simp[Oper.looksAt,hg,ht]))
    simp only[Act.eval]at this;rw[this]
  simp only[this]
structure UA (P:Program) (ops:Array Oper) (l:List Ins) (held:List Nat) (H:HN) (a:Act):Prop where
 one: ∀h∈H,h.1∈held/\ ∃x o t y n X tx off,l[h.1]? =some x/\ops[h.1]? =some o/\x.op= .load n X/\o.op= .load t y/\xOf P tx y=some X/\
  Region.wanted o (yielded ops a.tmps)=true/\a.eval y= .pointer (some ⟨h.2.1,off,none⟩)
theorem UA.next {ops:Array Oper} {l:List Ins} {held held':List Nat} {H H':HN} (hI:UA P ops l held H a) {x:Ins} (hkb:Wy ops held' x=true) (hs: ∀h∈H',h∈H/\h.1∈held')
  (hk: ∀y,(∀t,x.d=some t->y≠ .tmp t)->a'.eval y=a.eval y):UA P ops l held' H' a':=by
 refine⟨λh hh=> ?_⟩
 obtain⟨g1,g2⟩:=hs h hh
 obtain⟨_,x',o,t,y,n,X,tx,off,y1,y2,y3,y4,y5,y6,y7⟩:=hI.one h g1
 have hno: ∀t,x.d=some t->t∉o.looksAt ops:=λt ht=>by
  have:=List.all_eq_true.1 hkb h.1 g2;simp only[y2,ht]at this;simpa using this
 refine⟨g2,x',o,t,y,n,X,tx,off,y1,y2,y3,y4,y5,by rw[Ri hk hno];exact y6,?_⟩
 rw[hk y (λu hu hc=>hno u hu ?_)]
 ·exact y7
 ·subst hc
  refine List.mem_append_left _ (List.mem_filterMap.2 ⟨.tmp u,?_,rfl⟩)
  simp[y4,Op.operands]
theorem hang_ok (hR:Rel fm e s a) {h:AG} {n r i:Nat} {ops:Array Oper} {o:Oper} {ins x:Ins} (hp:Cn P h n r ops i o=some x) {m:Option Nat} {X:X} (hx:x.op= .load m X) {tx:TypeId} {y:Operand}
  (hX:xOf P tx y=some X) (hw:Region.wanted o (yielded ops a.tmps)=true) {b off:Nat} (hv:a.eval y= .pointer (some ⟨b,off,none⟩)) (hh:Qu md s ins x=true)
  (hE:Evo e e' (OB md s ins.op)):e'.w.heap[b]? =e.w.heap[b]? :=by
 unfold Qu at hh
 simp only[Bool.or_eq_true]at hh
 rcases hh with hh|hh
 ·exfalso
  obtain⟨_,hg⟩:=TK hp
  rcases hg with ⟨_,hg⟩|⟨j,bb,t,g1,g2,g3⟩
  ·rw[hg]at hh;cases hh
  ·rw[g3]at hh
   simp only at hh
   simp only[Region.wanted,g1,JT a g2,beq_iff_eq]at hw
   have htm:=hR.tm t
   split at hh
   ·rename_i b1 hb1
    rw[hb1]at htm
    rw[htm.sc_inv.1]at hw
    simp only[Option.some.injEq]at hw
    subst hw
    simp at hh
   ·rename_i hb1
    rw[hb1]at htm
    generalize a.tmps.getD t undef=u at htm hw
    cases htm
    simp[undef]at hw
   ·cases hh
 ·rw[hx]at hh
  simp only at hh
  have h1:=At hR hX
  rw[hv]at h1
  have key: ∀ {l:Pl},e.blk l=some b->l.obj∉OB md s ins.op->e'.w.heap[b]? =e.w.heap[b]? :=λ{l} hl hn=>
   hE.same b (hR.mem.own l b hl).1 λl2 h2 h3=>hn (by rw[hR.mem.inj l l2 b hl h2];exact h3)
  split at hh
  ·rename_i cs hcs
   rw[hcs]at h1
   cases h1 with
   |pim v cs hp=>
   obtain⟨b',off',he,him,_⟩:=hp
   cases he
   exact hE.same b (hR.mem.im b him).1 λl hl=>absurd him (hR.mem.own l b hl).2.2
  ·rename_i o' p i' j' hcs
   rw[hcs]at h1
   generalize hvv:Value.pointer (some (⟨b,off,none⟩:Addr))=vv at h1
   cases h1 with
   |pa o p i j k b2 off2 n' c rows hn hh2 hc=>
   cases hvv
   refine key (l:= .nd o' p) ?_ (by simpa[Pl.obj]using hh)
   simp only[Env.blk,hn,hh2,BC,if_pos hc]
  ·rename_i o' j' hcs
   rw[hcs]at h1
   generalize hvv:Value.pointer (some (⟨b,off,none⟩:Addr))=vv at h1
   cases h1 with
   |pb o j cs hb=>
   cases hvv
   exact key (l:= .bx o') (by simp only[Env.blk,hb]) (by simpa[Pl.obj]using hh)
  ·cases hh
end
section
variable {P:Program} {fm fm0:Fm} {M:List Nat} {e e' e0:Env} {s s':St} {a a':Act} {Q:Exit->Act->World->Prop}
variable {K:Nat->List Arg->Option Res} {md:Nat->List Nat}
def Xz (fm:Fm) (s:St):Exit->Act->World->Prop
 | .normal,a,w=> ∃e',e'.w=w/\Rel fm e' s a
 |_,_,_=>False
theorem J9 {s:St} {c:List PanicEntry} {a:Act} {w:World} (h:Xz fm s (.panic c) a w):False:=h
theorem runD_ok (hK:KOk P K) {h:AG} {n r:Nat} {ops:Array Oper} {l:List Ins} (hsel: ∀ (j:Nat) (o:Oper) cs b,ops[j]? =some o->o.op≠ .select cs b)
  (hp: ∀ (k:Nat) o x,ops[k]? =some o->l[k]? =some x->Cn P h n r ops k o=some x):
  ∀ (N:Nat) (t:D) (listed:Array Bool) (held:List Nat) (H:HN) (e:Env) (s s' s2:St) (a:Act),MR ops l N listed held=some t->KI ops listed->UA P ops l held H a->Fp H e.w->Rel fm e s a->
   E0 K md t s=some s'->Alk s' s2->JW P ops (Xz fm s2) N H listed a e.w:=by
 intro N
 induction N with
 |zero=>
  intro t listed held H e s s' s2 a ht hcl hI hH hR hr hA;simp only[MR]at ht;split at ht
  ·rename_i hrd
   cases ht
   simp only[E0,Option.some.injEq]at hr;subst hr;exact⟨hrd,e,rfl,hR.alk hA⟩
  ·cases ht
 |succ N ih=>
  intro t listed held H e s s' s2 a ht hcl hI hH hR hr hA;simp only[MR]at ht;split at ht
  ·rename_i hrd
   cases ht
   simp only[E0,Option.some.injEq]at hr;subst hr;exact⟨λ_=>⟨e,rfl,hR.alk hA⟩,λj hj=>by rw[hrd]at hj;cases hj⟩
  rename_i r0 rs hrd;split at ht
  ·rename_i j x hq;obtain⟨q1,q2,q3,q4⟩:=H5 hq;generalize hheld:(if Kj x.op=true then j::held else held)=held' at ht;obtain⟨hkb,ht⟩:=A8 ht;obtain⟨t',ht',rfl⟩:=Bg ht;simp only[E0]at hr;split at hr
   case h_2=>cases hr
   rename_i s1 hs1;have hj:j∈Region.ready .any ops listed:=by rw[hrd];exact q1
   obtain⟨_,o,ho,_⟩:=mem_ready.1 hj;obtain⟨hd,hw⟩:=Hk (M:=OB md s x.op) (Q:=Xz fm s2) hR hK (hp j o x ho q2) (Qw md s x.op λo ho=>ho) hs1;have hfree:=Region.free_spec ho q4;have hcl':=KA hcl hj;have hsub: ∀i∈held,i∈held':=λi hi=>by rw[<-hheld];split<;>simp[hi]
   have hkeep: ∀v y,(∀t,x.d=some t->y≠Operand.tmp t)->(a.put o.dst v).eval y=a.eval y:=λv y hy=>Act.eval_put λd hd'=>hy d (hd.trans hd')
   have hI': ∀v,UA P ops l held' H (a.put o.dst v):=λv=>by
    have hI0:UA P ops l held' H a:=⟨λh hh=>⟨hsub _ (hI.one h hh).1,(hI.one h hh).2⟩⟩;exact hI0.next hkb (λh hh=>⟨hh,(hI0.one h hh).1⟩) (hkeep v)
   split at hw
   ·rename_i hwa;by_cases hpu:Rs x.op=true
    ·obtain⟨v,y,g1,g2,g3⟩:=hw.yl hpu;refine W9 (ex:=[]) (v:=v) ho hsel (λc a w hh=>(J9 hh).elim) (λh hh=>by cases hh) N H listed a e.w hcl hfree hj (.inl ⟨hwa,λw _=>g1 w⟩) (λh hh=>by cases hh) hH ?_;exact ih t' _ held' H e s1 s' s2 (a.put o.dst v) ht' hcl' (hI' v) hH (hR.put g2 g3) hr hA
    ·have hld:Kj x.op=true:=by
      rw[Bool.or_eq_true]at q3;exact q3.resolve_left hpu
     obtain⟨tt,y,n',X,v,z,b,off,y1,y2,⟨tx,y3⟩,y4,y5,y6,y7⟩:=hw.ld hld;refine W9 (ex:=[(j,b,e.w.heap[b]?)]) (v:=v) ho hsel (λc a w hh=>(J9 hh).elim) (λh hh=>by simp only[List.mem_singleton]at hh;rw[hh]) N H listed a e.w hcl hfree hj
      (.inl ⟨hwa,λw hwh=>y5 w (hwh _ (List.mem_singleton.2 rfl))⟩) (λh hh=>by simp only[List.mem_singleton]at hh;rw[hh]) hH ?_
     have hjh:j∈held':=by rw[<-hheld,if_pos hld];exact List.mem_cons_self
     have hI0:UA P ops l held' ([(j,b,e.w.heap[b]?)]++H) a:=⟨λh hh=>by
      rcases List.mem_cons.1 hh with rfl|hh
      ·exact⟨hjh,x,o,tt,y,n',X,tx,off,q2,ho,y2,y1,y3,hwa,y4⟩
      ·exact⟨hsub _ (hI.one h hh).1,(hI.one h hh).2⟩⟩
     refine ih t' _ held' _ e s1 s' s2 (a.put o.dst v) ht' hcl' (hI0.next hkb (λh hh=>⟨hh,(hI0.one h hh).1⟩) (hkeep v)) (λh hh=> ?_) (hR.put y6 y7) hr hA;rcases List.mem_cons.1 hh with rfl|hh
     ·rfl
     ·exact hH h hh
   ·rename_i hwa;refine W9 (ex:=[]) (v:=undef) ho hsel (λc a w hh=>(J9 hh).elim) (λh hh=>by cases hh) N H listed a e.w hcl hfree hj (.inr ⟨by simpa using hwa,rfl⟩) (λh hh=>by cases hh) hH ?_;exact ih t' _ held' H e s1 s' s2 (a.put o.dst undef) ht' hcl' (hI' undef) hH (hR.put .und hw) hr hA
  ·refine⟨λh0=>(by rw[hrd]at h0;cases h0),λj hj=> ?_⟩;have hj0:=hj;rw[hrd]at hj;obtain⟨tj,sj,g1,g2,g3⟩:=Ur ht hr j hj;have hA':=g3.trans hA;split at g1
   case h_2=>cases g1
   rename_i x hx;obtain⟨hkb,g1⟩:=A8 g1;obtain⟨t',ht',rfl⟩:=Bg g1;simp only[E0]at g2;obtain⟨hhang,g2⟩:=A8 g2;split at g2
   case h_2=>cases g2
   rename_i s1 hs1;obtain⟨_,o,ho,_⟩:=mem_ready.1 hj0;obtain⟨hd,hw⟩:=Hk (M:=OB md s x.op) (Q:=Xz fm s2) hR hK (hp j o x ho hx) (Qw md s x.op λo ho=>ho) hs1;have hcl':=KA hcl hj0;have hcut: ∀h∈H.cut ops j,h∈H/\h.1∈SK ops held j:=λh hh=>by
    obtain⟨z1,z2⟩:=List.mem_filter.1 hh;exact⟨z1,List.mem_filter.2 ⟨(hI.one h z1).1,z2⟩⟩
   unfold wpOp;simp only[ho];split at hw
   ·rename_i hwa;rw[if_pos hwa];refine .inl (Oper.wp_mono (λa' w' hh=> ?_) (Oper.wp_keep hw.wp));obtain⟨⟨e1,z1,z2,z3⟩,hkeep⟩:=hh;have hI':=hI.next hkb hcut λy hy=>hkeep y λt ht=>hy t (hd.trans ht)
    have hH':Fp (H.cut ops j) w':=λh hh=>by
     obtain⟨c1,c2⟩:=hcut h hh;obtain⟨_,x',o',t,y,n',X,tx,off,y1,y2,y3,y4,y5,y6,y7⟩:=hI.one h c1;have hin:x'∈(SK ops held j).filterMap λi=>l[i]? :=List.mem_filterMap.2 ⟨h.1,c2,y1⟩
     have:=hang_ok hR (hp h.1 o' x' y2 y1) y3 y5 y6 y7 (List.all_eq_true.1 hhang x' hin) z3;rw[<-z1,this,hH h c1]
    rw[<-z1]at hH' ⊢;exact⟨hH',ih t' _ _ _ e1 s1 sj s2 a' ht' hcl' hI' hH' z2 g2 hA'⟩
   ·rename_i hwa;rw[if_neg hwa];exact⟨hH.cut j,ih t' _ _ _ e s1 sj s2 (a.put o.dst undef) ht' hcl' (hI.next hkb hcut λy hy=>Act.eval_put λd hd'=>hy d (hd.trans hd')) (hH.cut j) (hR.put .und hw) g2 hA'⟩
theorem Rel.drew (hR:Rel fm e s a): ∃e',e'.w={e.w with drawn:=e.w.drawn+1}/\Rel fm e' s a:=by
 let e':Env:={e with w:={e.w with drawn:=e.w.drawn+1}}
 have hM:=hR.mem;have hcar:B0 e e' λo p=>some (o,p):=⟨λb hb=>⟨hb,rfl⟩,λo p k rows o' p' hn hf=>by cases hf;exact⟨rows,hn,rfl,rfl⟩,λo cs ho=>⟨cs,ho,rfl⟩,λo p k rows hn=>(hM.node o p k rows hn).one,rfl⟩
 refine⟨e',rfl,⟨⟨λo cs ho j c hc=> ?_,λo p k rows hn=> ?_,hM.inj,hM.own,hM.im,hM.im0,?_,hM.tk⟩,hR.ob,hR.pinh,hR.pinb,hR.size,hR.defers,λt=>(hR.tm t).carry hcar⟩⟩
 ·obtain⟨h1,u,h2,h3⟩:=hM.box o cs ho j c hc;exact⟨h1.congr (w':=e'.w) rfl,u,(O0 (w':=e'.w) rfl).trans h2,h3.carry hcar⟩
 ·exact(hM.node o p k rows hn).congr (w':=e'.w) (Ev.refl _) (λb _=>rfl) (λi j k1 r1 _=>rfl)
 ·exact⟨hM.keeps.os,hM.keeps.tape,hM.keeps.output,hM.keeps.size,hM.keeps.block⟩
theorem Nk (hm:P.follows .mixedOrders=true) (hK:KOk P K) {h:AG} {n r:Nat} {ops:Array Oper} {l:List Ins} {t:D} (hR:Rel fm e s a) (hp:Ca P h n r ops 0 ops.toList=some l)
  (hns:Region.noSelect ops=true) (ht:MR ops l ops.size (Array.replicate ops.size false) []=some t) (hs:E0 K md t s=some s')
  (hQ: ∀e' a',Rel fm e' s' a'->Q .normal a' e'.w):(Code.region r ops true).wp P Q a e.w:=by
 obtain⟨g1,g2⟩:=F9 hp
 obtain⟨e1,h1,h2⟩:=hR.drew
 refine wp_mono (Q:=Xz fm s') (wp_region_any hm (NS ops.size [] _ a _ ?_)) (λex a' w' hh=> ?_)
 ·rw[<-h1]
  refine runD_ok (h:=h) (n:=n) (r:=r) hK (Region.noSelect_spec hns) (λk o x ho hx=> ?_) ops.size t _ [] [] e1 s s' s' a ht (RT _) ⟨λh hh=>by cases hh⟩ (λh hh=>by cases hh) h2 hs (.refl _)
  have:=g2 k o x (by simpa using ho) hx
  rwa [Nat.zero_add]at this
 ·cases ex with
  |normal=>
   obtain⟨e',q1,q2⟩:=hh;rw[<-q1];exact hQ e' a' q2
  |_=>exact hh.elim
end
section
variable {P:Program} {fm fm0:Fm} {M:List Nat} {e e' e0:Env} {s s':St} {a a':Act} {Q:Exit->Act->World->Prop}
variable {K:Nat->List Arg->Option Res} {md:Nat->List Nat} {Lp:Nat->List Nat->C->St->Option (Ex×St)}
def Ex.up:Ex->Exit
 | .normal=> .normal
 | .exit id=> .exit id
 | .ret=> .ret
theorem Rel.drop (hR:Rel fm e s a) (l:List Nat):Rel fm e (s.drop l) a:=
 ⟨hR.mem,hR.ob,hR.pinh,hR.pinb,hR.size,hR.defers,λt=>by
  rcases Jx s.tm t l with h|h
  ·show AS e (Aw (Hx s.tm l) t) _
   rw[h];exact hR.tm t
  ·show AS e (Aw (Hx s.tm l) t) _
   rw[h];exact .non _⟩
def LpOk (P:Program) (Lp:Nat->List Nat->C->St->Option (Ex×St)):Prop:= ∀ (fm:Fm) (h:AG) (n b:Nat) (c:Code) (pc:C) (o:Nat) (live:List Nat) (e:Env) (s s':St) (a:Act) (ex:Ex) (Q:Exit->Act->World->Prop),
 BL P h n b c=some pc->Rel fm e s a->Lp o live pc s=some (ex,s')->(∀e' a',Rel fm e' s' a'->Q ex.up a' e'.w)->(Code.loop c).wp P Q a e.w
theorem Qz (hm:P.follows .mixedOrders=true) (hK:KOk P K) (hL:LpOk P Lp) {h:AG} {n:Nat}: ∀ (c:Code) (b:Nat) (pc:C) (e:Env) (s s':St) (a:Act) (ex:Ex) (Q:Exit->Act->World->Prop),BL P h n b c=some pc->
  Rel fm e s a->BR K Lp md pc s=some (ex,s')->(∀e' a',Rel fm e' s' a'->Q ex.up a' e'.w)->c.wp P Q a e.w:=by
 intro c
 induction c with
 |skip=>
  intro b pc e s s' a ex Q hp hR hx hQ;simp only[BL,Option.some.injEq]at hp;subst hp;simp only[BR,Option.some.injEq,Prod.mk.injEq]at hx;obtain⟨rfl,rfl⟩:=hx;exact wp_skip (hQ e a hR)
 |region id ops draw=>
  intro b pc e s s' a ex Q hp hR hx hQ;simp only[BL]at hp;split at hp
  case h_2=>cases hp
  rename_i l hl;split at hp
  ·rename_i hd;obtain⟨hns,hp⟩:=A8 hp;obtain⟨t,ht,rfl⟩:=Bg hp;simp only[BR]at hx;split at hx
   case h_2=>cases hx
   rename_i s1 hs1;simp only[Option.some.injEq,Prod.mk.injEq]at hx;obtain⟨rfl,rfl⟩:=hx;rw[hd];exact Nk hm hK hR hl hns ht hs1 λe' a' h'=>hQ e' a' (h'.drop _)
  ·rename_i hd;simp only[Option.some.injEq]at hp;subst hp;simp only[BR]at hx;split at hx
   case h_2=>cases hx
   rename_i s1 hs1;simp only[Option.some.injEq,Prod.mk.injEq]at hx;obtain⟨rfl,rfl⟩:=hx;have hd:draw=false:=by simpa using hd
   rw[hd];exact Ic hK hR hl hs1 λe' a' h'=>hQ e' a' (h'.drop _)
 |seq x y ihx ihy=>
  intro b pc e s s' a ex Q hp hR hx hQ;simp only[BL]at hp;split at hp
  case h_2=>cases hp
  rename_i cx cy hcx hcy;simp only[Option.some.injEq]at hp;subst hp;simp only[BR]at hx;refine wp_seq ?_;split at hx
  ·rename_i s1 hs1;refine ihx b cx e s s1 a .normal _ hcx hR hs1 λe' a' h'=> ?_
   exact ihy b cy e' s1 s' a' ex Q hcy h' hx hQ
  ·rename_i hne;refine ihx b cx e s s' a ex _ hcx hR hx λe' a' h'=> ?_
   cases ex with
   |normal=>exact absurd hx (hne s')
   |exit id=>exact hQ e' a' h'
   |ret=>exact hQ e' a' h'
 |cond c x y ihx ihy=>
  intro b pc e s s' a ex Q hp hR hx hQ;simp only[BL]at hp;split at hp
  case h_2=>cases hp
  rename_i t cx cy hc hcx hcy;simp only[Option.some.injEq]at hp;subst hp;simp only[BR]at hx;split at hx
  case h_2=>cases hx
  rename_i bb hbb;have h1:=At hR hc;rw[hbb]at h1;refine wp_cond h1.sc_inv.1 ?_
  cases bb with
  |true=>exact ihx b cx e s s' a ex Q hcx hR (by simpa using hx) hQ
  |false=>exact ihy b cy e s s' a ex Q hcy hR (by simpa using hx) hQ
 |block id x ih=>
  intro b pc e s s' a ex Q hp hR hx hQ;obtain⟨cx,hcx,rfl⟩:=Bg hp;simp only[BR]at hx;refine wp_block ?_;split at hx
  ·rename_i j s1 hs1;refine ih id cx e s s1 a (.exit j) _ hcx hR hs1 λe' a' h'=> ?_
   simp only[Ex.up,Exit.inBlock];split at hx
   ·rename_i hj;simp only[Option.some.injEq,Prod.mk.injEq]at hx;obtain⟨rfl,rfl⟩:=hx;rw[if_pos hj];exact hQ e' a' h'
   ·rename_i hj;simp only[Option.some.injEq,Prod.mk.injEq]at hx;obtain⟨rfl,rfl⟩:=hx;rw[if_neg hj];exact hQ e' a' h'
  ·rename_i hne;refine ih id cx e s s' a ex _ hcx hR hx λe' a' h'=> ?_
   cases ex with
   |normal=>exact hQ e' a' h'
   |exit id=>exact absurd hx (hne id s')
   |ret=>exact hQ e' a' h'
 |loop x ih=>
  intro b pc e s s' a ex Q hp hR hx hQ;obtain⟨cx,hcx,rfl⟩:=Bg hp;simp only[BR]at hx;exact hL fm h n b x cx _ _ e s s' a ex Q hcx hR hx hQ
 |exit id=>
  intro b pc e s s' a ex Q hp hR hx hQ;simp only[BL,Option.some.injEq]at hp;subst hp;simp only[BR,Option.some.injEq,Prod.mk.injEq]at hx;obtain⟨rfl,rfl⟩:=hx;exact wp_exit (hQ e a hR)
 |ret=>
  intro b pc e s s' a ex Q hp hR hx hQ;simp only[BL,Option.some.injEq]at hp;subst hp;simp only[BR,Option.some.injEq,Prod.mk.injEq]at hx;obtain⟨rfl,rfl⟩:=hx;exact wp_ret (hQ e a hR)
 |_=>intro b pc e s s' a ex Q hp;simp[BL]at hp
theorem Vt {c:Code} {w:World} (I:Nat->Act->World->Prop) {n0:Nat} (h0:I n0 a w)
  (round: ∀n a w,I n a w->c.wp P (Exit.then (λa' w'=> ∃m,m<n/\I m a' w') Q) a w):(Code.loop c).wp P Q a w:=by
 intro b k cs
 have key: ∀n a w,I n a w-> ∃e a' w',Q e a' w'/\Arrives P (lone (b.at a (.code c:: .inLoop c::k)) cs w) b k cs e a' w':=by
  intro n
  induction n using Nat.strongRecOn with
  |_ n ih=>
   intro a w hI;obtain⟨e,a₁,w₁,hq,harr⟩:=round n a w hI b (.inLoop c::k) cs
   cases e with
   |normal=>
    obtain⟨m,hlt,hI₁⟩:=hq;obtain⟨e₂,a₂,w₂,hq₂,harr₂⟩:=ih m hlt a₁ w₁ hI₁;exact⟨e₂,a₂,w₂,hq₂,.of_steps (Steps.trans harr (.one step_inLoop)) harr₂⟩
   |exit id=>exact⟨_,a₁,w₁,hq,.pass (x:= .inLoop c) rfl (λ_ _=> .inl (by simp)) harr⟩
   |goto l=>exact⟨_,a₁,w₁,hq,.pass (x:= .inLoop c) rfl (λ_ _=> .inl (by simp)) harr⟩
   |ret=>exact⟨_,a₁,w₁,hq,.pass (x:= .inLoop c) rfl (λ_ _=> .inl (by simp)) harr⟩
   |panic ch=>exact⟨_,a₁,w₁,hq,.pass (x:= .inLoop c) rfl (λ_ _=> .inl (by simp)) harr⟩
   |outgrown=>exact⟨_,a₁,w₁,hq,.pass (x:= .inLoop c) rfl (λ_ _=> .inl (by simp)) harr⟩
 obtain⟨e,a',w',hq,harr⟩:=key _ a w h0
 exact⟨e,a',w',hq,.of_steps (.one step_loop) harr⟩
structure GOk (P:Program) (H:Nat->AG) (G:Nat->Option PF):Prop where
 prep: ∀f pf,G f=some pf->prep P H f=some pf
theorem RQ {args:List Arg} {res:List RP} {x:Option (Ex×St)} {r:Res} (h:Sf res args x=some r): ∃ex s,x=some (ex,s)/\(ex= .normal\/ex= .ret)/\s.m=(AH 0 0 args).2.2/\Ma res args s=some r:=by
 unfold Sf at h;split at h
 ·obtain⟨h1,h2⟩:=A8 h;exact⟨_,_,rfl,.inl rfl,h1,h2⟩
 ·obtain⟨h1,h2⟩:=A8 h;exact⟨_,_,rfl,.inr rfl,h1,h2⟩
 ·cases h
theorem sem_ok (hm:P.follows .mixedOrders=true) {H:Nat->AG} {G:Nat->Option PF} {PK:Nat->List Arg->Option Res} (hG:GOk P H G) (hPK:KOk P PK)  (N:Nat):KOk P (sem G PK md N).1/\LpOk P (sem G PK md N).2:=by
 induction N using Nat.strongRecOn with
 |_ N ih=>
 cases N with
 |zero=>exact⟨λf args r h=>by simp[sem]at h,λfm h n b c pc o live e s s' a ex Q _ _ hx _=>by simp[sem]at hx⟩
 |succ N=>
  have ⟨hK,hL⟩:=ih N (Nat.lt_succ_self N);constructor
  ·intro f args r h;simp only[sem]at h;split at h
   ·rename_i pf hpf;obtain⟨hn,h⟩:=A8 h;have hpr:=hG.prep f pf hpf;unfold prep at hpr;split at hpr
    case h_2=>cases hpr
    rename_i fn hfn;unfold WQ at hpr;split at hpr
    ·cases hpr
    rename_i hname;split at hpr
    case h_2=>cases hpr
    rename_i c hc;split at hpr
    case h_2=>cases hpr
    rename_i bb rr hb hrr;obtain⟨hsz,hpr⟩:=A8 hpr;simp only[Option.some.injEq]at hpr;subst hpr;refine⟨⟨fn,hfn,hname,by rw[hc];simp⟩,λfm e vs hE=> ?_⟩;obtain⟨ex,s,h1,h2,h3,h4⟩:=RQ h;refine calls_of_wp hfn hc ?_;have hR:=QK hE (n:=fn.ntmps) hn;refine Qz hm hK hL c 0 bb e _ s _ ex _ hb hR h1 λe' a' hR'=> ?_
    obtain⟨v,e2,g1,g2,g3⟩:=SE hE hR' h3 hrr h4;have:bodyPost P fn (fun
     | .returned v,w'=> ∃e',e'.w=w'/\KH fm e args r e' v
     |_,_=>False) .normal a' e'.w:=⟨hR'.defers,v,g1,e2,g2,g3⟩
    rcases h2 with rfl|rfl
    ·exact this
    ·exact this
   ·exact hPK f args r h
  ·intro fm h n b c pc o live e s s' a ex Q hp hR hx hQ;refine Vt (λn a w=>n<=N+1/\ ∃e s,e.w=w/\Rel fm e s a/\(sem G PK md n).2 o live pc s=some (ex,s')) (n0:=N+1) ⟨Nat.le_refl _,e,s,rfl,hR,hx⟩ ?_;intro n1 a1 w1 hI;obtain⟨hle,e1,s1,rfl,hR1,hx1⟩:=hI
   cases n1 with
   |zero=>simp[sem]at hx1
   |succ n1=>
    obtain⟨hK1,hL1⟩:=ih n1 (by omega);simp only[sem]at hx1;obtain⟨hmo,hx1⟩:=A8 hx1;obtain⟨e2,hw2,hR2⟩:=Xl hR1 hmo live;rw[<-hw2];split at hx1
    ·rename_i s2 hs2;refine Qz hm hK1 hL1 c b pc e2 _ s2 a1 .normal _ hp hR2 hs2 λe' a' h'=> ?_
     exact⟨n1,Nat.lt_succ_self n1,by omega,e',s2,rfl,h',hx1⟩
    ·rename_i hne;refine Qz hm hK1 hL1 c b pc e2 _ s' a1 ex _ hp hR2 hx1 λe' a' h'=> ?_
     cases ex with
     |normal=>exact absurd hx1 (hne s')
     |exit id=>exact hQ e' a' h'
     |ret=>exact hQ e' a' h'
end
section
variable {s s':St}
variable {K K':Nat->List Arg->Option Res} {md:Nat->List Nat} {Lp Lp':Nat->List Nat->C->St->Option (Ex×St)}
def LeK (K K':Nat->List Arg->Option Res):Prop:= ∀f args r,K f args=some r->K' f args=some r
def LeL (Lp Lp':Nat->List Nat->C->St->Option (Ex×St)):Prop:= ∀o live c s r,Lp o live c s=some r->Lp' o live c s=some r
theorem KD (h:LeK K K') {d:Option Nat} {o f:Nat} {xs:List AV} (hx:Fn K md s d o f xs=some s'):Fn K' md s d o f xs=some s':=by
 unfold Fn at hx ⊢;split at hx
 case h_2=>cases hx
 rename_i g hg;split at hx
 case h_2=>cases hx
 rename_i r hr;simp only[hg,h _ _ _ hr];exact hx
theorem NY (h:LeK K K') {d:Option Nat} {i:I} (hx:Ad K md s d i=some s'):Ad K' md s d i=some s':=by
 cases i with
 |call o f xs=>exact KD h hx
 |callc o f xs cs=>
  simp only[Ad]at hx ⊢;split at hx
  case h_2=>cases hx
  rename_i h1 hh1;exact KD h hx
 |callv o x xs=>
  simp only[Ad]at hx ⊢;split at hx
  case h_2=>cases hx
  rename_i f caps hf;exact KD h hx
 |_=>exact hx
theorem EX (h:LeK K K') {i:Ins} (hx:Fw K md i s=some s'):Fw K' md i s=some s':=by
 unfold Fw at hx ⊢;split at hx
 ·exact NY h hx
 ·obtain⟨h1,hx⟩:=A8 hx;rw[if_pos h1];split at hx
  ·rename_i b1 hb1;split at hx
   ·rename_i hb;simp only[if_pos hb];exact NY h hx
   ·rename_i hb;simp only[if_neg hb];exact hx
  ·exact hx
  ·cases hx
theorem Jc (h:LeK K K'): ∀ {l:List Ins} {s s':St},Fv K md l s=some s'->Fv K' md l s=some s'
 |[],s,s',hx=>hx
 |i::l,s,s',hx=>by
  simp only[Fv]at hx ⊢;split at hx
  case h_2=>cases hx
  rename_i s1 hs1;simp only[EX h hs1];exact Jc h hx
theorem DK (h:LeK K K'): ∀ {t:D} {s s':St},E0 K md t s=some s'->E0 K' md t s=some s'
 | .fin,s,s',hx=>hx
 | .one i t,s,s',hx=>by
  simp only[E0]at hx ⊢;split at hx
  case h_2=>cases hx
  rename_i s1 hs1;simp only[EX h hs1];exact DK h hx
 | .loud i hang t,s,s',hx=>by
  simp only[E0]at hx ⊢;obtain⟨h1,hx⟩:=A8 hx;rw[if_pos h1];split at hx
  case h_2=>cases hx
  rename_i s1 hs1;simp only[EX h hs1];exact DK h hx
 | .alt a b,s,s',hx=>by
  simp only[E0]at hx ⊢;obtain⟨h1,s2,h2,_⟩:=Jg hx;rw[h1,h2]at hx;rw[DK h h1,DK h h2];exact hx
theorem B4 (h:LeK K K') (hl:LeL Lp Lp'): ∀ {c:C} {s:St} {r:Ex×St},BR K Lp md c s=some r->BR K' Lp' md c s=some r
 | .skip,s,r,hx=>hx
 | .exit id,s,r,hx=>hx
 | .ret,s,r,hx=>hx
 | .reg l dr,s,r,hx=>by
  simp only[BR]at hx ⊢;split at hx
  case h_2=>cases hx
  rename_i s1 hs1;simp only[Jc h hs1];exact hx
 | .dreg l dr,s,r,hx=>by
  simp only[BR]at hx ⊢;split at hx
  case h_2=>cases hx
  rename_i s1 hs1;simp only[DK h hs1];exact hx
 | .seq a b,s,r,hx=>by
  simp only[BR]at hx ⊢;split at hx
  ·rename_i s1 hs1;simp only[B4 h hl hs1];exact B4 h hl hx
  ·rename_i hne;rw[B4 h hl hx];obtain⟨ex,s1⟩:=r
   cases ex with
   |normal=>exact absurd hx (hne s1)
   |exit id=>rfl
   |ret=>rfl
 | .cond x a b,s,r,hx=>by
  simp only[BR]at hx ⊢;split at hx
  case h_2=>cases hx
  rename_i c hc
  cases c with
  |true=>exact B4 h hl hx
  |false=>exact B4 h hl hx
 | .blk id a,s,r,hx=>by
  simp only[BR]at hx ⊢;split at hx
  ·rename_i j s1 hs1;simp only[B4 h hl hs1];exact hx
  ·rename_i hne;rw[B4 h hl hx];obtain⟨ex,s1⟩:=r
   cases ex with
   |normal=>rfl
   |exit id=>exact absurd hx (hne id s1)
   |ret=>rfl
 | .loop o live a,s,r,hx=>hl _ _ _ _ _ hx
variable {G:Nat->Option PF} {PK:Nat->List Arg->Option Res}
theorem Vl {args:List Arg} {res:List RP} {x y:Option (Ex×St)} (h: ∀r,x=some r->y=some r) {r:Res} (hx:Sf res args x=some r):Sf res args y=some r:=by
 obtain⟨ex,s,h1,_,_,_⟩:=RQ hx;rw[h1]at hx;rw[h _ h1];exact hx
theorem Nd: ∀N,LeK (sem G PK md N).1 (sem G PK md (N+1)).1/\LeL (sem G PK md N).2 (sem G PK md (N+1)).2
 |0=>⟨λf args r h=>by simp[sem]at h,λo live c s r h=>by simp[sem]at h⟩
 |N+1=>by
  have ⟨h1,h2⟩:=Nd N;constructor
  ·intro f args r h;simp only[sem]at h;rw[sem];simp only;split at h
   ·rename_i pf hpf;obtain⟨hn,h⟩:=A8 h;rw[if_pos hn];exact Vl (λr hr=>B4 h1 h2 hr) h
   ·exact h
  ·intro o live c s r h;simp only[sem]at h;rw[sem];simp only;obtain⟨hn,h⟩:=A8 h;rw[if_pos hn];split at h
   ·rename_i s1 hs1;simp only[B4 h1 h2 hs1];exact h2 _ _ _ _ _ h
   ·rename_i hne;rw[B4 h1 h2 h];obtain⟨ex,s1⟩:=r
    cases ex with
    |normal=>exact absurd h (hne s1)
    |exit id=>rfl
    |ret=>rfl
theorem Dc {N M:Nat} (h:N<=M):LeK (sem G PK md N).1 (sem G PK md M).1/\LeL (sem G PK md N).2 (sem G PK md M).2:=by
 induction h with
 |refl=>exact⟨λ_ _ _ h=>h,λ_ _ _ _ _ h=>h⟩
 |step _ ih=>exact⟨λf args r h=>(Nd _).1 _ _ _ (ih.1 _ _ _ h),λo live c s r h=>(Nd _).2 _ _ _ _ _ (ih.2 _ _ _ _ _ h)⟩
open Classical in
noncomputable def B3 (G:Nat->Option PF) (PK:Nat->List Arg->Option Res) (md:Nat->List Nat) (f:Nat) (args:List Arg):Option Res:=
 if h: ∃N r,(sem G PK md N).1 f args=some r then(sem G PK md h.choose).1 f args else none
open Classical in
noncomputable def A6 (G:Nat->Option PF) (PK:Nat->List Arg->Option Res) (md:Nat->List Nat) (o:Nat) (live:List Nat) (c:C) (s:St):Option (Ex×St):=
 if h: ∃N r,(sem G PK md N).2 o live c s=some r then(sem G PK md h.choose).2 o live c s else none
theorem KT {f:Nat} {args:List Arg} {r:Res}:B3 G PK md f args=some r<-> ∃N,(sem G PK md N).1 f args=some r:=by
 unfold B3;constructor
 ·intro h;split at h
  ·exact⟨_,h⟩
  ·cases h
 ·intro ⟨N,h⟩;have he: ∃N r,(sem G PK md N).1 f args=some r:=⟨N,r,h⟩;rw[dif_pos he];obtain⟨r',hr'⟩:=he.choose_spec;rw[hr'];have h1:=(Dc (Nat.le_max_left he.choose N)).1 _ _ _ hr';have h2:=(Dc (Nat.le_max_right he.choose N)).1 _ _ _ h;rw[h1]at h2;exact h2
theorem KS {o:Nat} {live:List Nat} {c:C} {s:St} {r:Ex×St}:A6 G PK md o live c s=some r<-> ∃N,(sem G PK md N).2 o live c s=some r:=by
 unfold A6;constructor
 ·intro h;split at h
  ·exact⟨_,h⟩
  ·cases h
 ·intro ⟨N,h⟩;have he: ∃N r,(sem G PK md N).2 o live c s=some r:=⟨N,r,h⟩;rw[dif_pos he];obtain⟨r',hr'⟩:=he.choose_spec;rw[hr'];have h1:=(Dc (Nat.le_max_left he.choose N)).2 _ _ _ _ _ hr';have h2:=(Dc (Nat.le_max_right he.choose N)).2 _ _ _ _ _ h;rw[h1]at h2;exact h2
noncomputable abbrev kN (G:Nat->Option PF) (PK:Nat->List Arg->Option Res) (md:Nat->List Nat) (N:Nat):=(sem G PK md N).1
theorem MI {d:Option Nat} {o f:Nat} {xs:List AV} (hx:Fn (B3 G PK md) md s d o f xs=some s'): ∃N,Fn (sem G PK md N).1 md s d o f xs=some s':=by
 unfold Fn at hx ⊢;split at hx
 case h_2=>cases hx
 rename_i g hg;split at hx
 case h_2=>cases hx
 rename_i r hr;obtain⟨N,hN⟩:=KT.1 hr;exact⟨N,by simp only[hg,hN];exact hx⟩
theorem Pj {d:Option Nat} {i:I} (hx:Ad (B3 G PK md) md s d i=some s'): ∃N,Ad (sem G PK md N).1 md s d i=some s':=by
 cases i with
 |call o f xs=>exact MI hx
 |callc o f xs cs=>
  simp only[Ad]at hx ⊢;split at hx
  case h_2=>cases hx
  rename_i h1 hh1;exact MI hx
 |callv o x xs=>
  simp only[Ad]at hx ⊢;split at hx
  case h_2=>cases hx
  rename_i f caps hf;exact MI hx
 |_=>exact⟨0,hx⟩
theorem LX {i:Ins} (hx:Fw (B3 G PK md) md i s=some s'): ∃N,Fw (sem G PK md N).1 md i s=some s':=by
 unfold Fw at hx ⊢;split at hx
 ·exact Pj hx
 ·obtain⟨h1,hx⟩:=A8 hx;simp only[if_pos h1];split at hx
  ·rename_i b1 hb1;split at hx
   ·rename_i hb;simp only[if_pos hb];exact Pj hx
   ·rename_i hb;simp only[if_neg hb];exact⟨0,hx⟩
  ·exact⟨0,hx⟩
  ·cases hx
theorem Pi: ∀ {l:List Ins} {s s':St},Fv (B3 G PK md) md l s=some s'-> ∃N,Fv (sem G PK md N).1 md l s=some s'
 |[],s,s',hx=>⟨0,hx⟩
 |i::l,s,s',hx=>by
  simp only[Fv]at hx ⊢;split at hx
  case h_2=>cases hx
  rename_i s1 hs1;obtain⟨N,hN⟩:=LX hs1;obtain⟨M,hM⟩:=Pi hx;refine⟨max N M,?_⟩;simp only[EX (Dc (Nat.le_max_left N M)).1 hN];exact Jc (Dc (Nat.le_max_right N M)).1 hM
theorem Hg: ∀ {t:D} {s s':St},E0 (B3 G PK md) md t s=some s'-> ∃N,E0 (sem G PK md N).1 md t s=some s'
 | .fin,s,s',hx=>⟨0,hx⟩
 | .one i t,s,s',hx=>by
  simp only[E0]at hx ⊢;split at hx
  case h_2=>cases hx
  rename_i s1 hs1;obtain⟨N,hN⟩:=LX hs1;obtain⟨M,hM⟩:=Hg hx;refine⟨max N M,?_⟩;simp only[EX (Dc (Nat.le_max_left N M)).1 hN];exact DK (Dc (Nat.le_max_right N M)).1 hM
 | .loud i hang t,s,s',hx=>by
  simp only[E0]at hx ⊢;obtain⟨h1,hx⟩:=A8 hx;simp only[if_pos h1];split at hx
  case h_2=>cases hx
  rename_i s1 hs1;obtain⟨N,hN⟩:=LX hs1;obtain⟨M,hM⟩:=Hg hx;refine⟨max N M,?_⟩;simp only[EX (Dc (Nat.le_max_left N M)).1 hN];exact DK (Dc (Nat.le_max_right N M)).1 hM
 | .alt a b,s,s',hx=>by
  simp only[E0]at hx ⊢;obtain⟨h1,s2,h2,_⟩:=Jg hx;rw[h1,h2]at hx;obtain⟨N,hN⟩:=Hg h1;obtain⟨M,hM⟩:=Hg h2;refine⟨max N M,?_⟩;rw[DK (Dc (Nat.le_max_left N M)).1 hN,DK (Dc (Nat.le_max_right N M)).1 hM];exact hx
theorem Dl: ∀ {c:C} {s:St} {r:Ex×St},BR (B3 G PK md) (A6 G PK md) md c s=some r-> ∃N,BR (sem G PK md N).1 (sem G PK md N).2 md c s=some r
 | .skip,s,r,hx=>⟨0,hx⟩
 | .exit id,s,r,hx=>⟨0,hx⟩
 | .ret,s,r,hx=>⟨0,hx⟩
 | .reg l dr,s,r,hx=>by
  simp only[BR]at hx ⊢;split at hx
  case h_2=>cases hx
  rename_i s1 hs1;obtain⟨N,hN⟩:=Pi hs1;exact⟨N,by simp only[hN];exact hx⟩
 | .dreg l dr,s,r,hx=>by
  simp only[BR]at hx ⊢;split at hx
  case h_2=>cases hx
  rename_i s1 hs1;obtain⟨N,hN⟩:=Hg hs1;exact⟨N,by simp only[hN];exact hx⟩
 | .seq a b,s,r,hx=>by
  simp only[BR]at hx ⊢;split at hx
  ·rename_i s1 hs1;obtain⟨N,hN⟩:=Dl hs1;obtain⟨M,hM⟩:=Dl hx;refine⟨max N M,?_⟩;have h1:=Dc (G:=G) (PK:=PK) (md:=md) (Nat.le_max_left N M);have h2:=Dc (G:=G) (PK:=PK) (md:=md) (Nat.le_max_right N M);simp only[B4 h1.1 h1.2 hN];exact B4 h2.1 h2.2 hM
  ·rename_i hne;obtain⟨N,hN⟩:=Dl hx;refine⟨N,?_⟩;rw[hN];obtain⟨ex,s1⟩:=r
   cases ex with
   |normal=>exact absurd hx (hne s1)
   |exit id=>rfl
   |ret=>rfl
 | .cond x a b,s,r,hx=>by
  simp only[BR]at hx ⊢;split at hx
  case h_2=>cases hx
  rename_i c hc
  cases c with
  |true=>exact Dl hx
  |false=>exact Dl hx
 | .blk id a,s,r,hx=>by
  simp only[BR]at hx ⊢;split at hx
  ·rename_i j s1 hs1;obtain⟨N,hN⟩:=Dl hs1;exact⟨N,by simp only[hN];exact hx⟩
  ·rename_i hne;obtain⟨N,hN⟩:=Dl hx;refine⟨N,?_⟩;rw[hN];obtain⟨ex,s1⟩:=r
   cases ex with
   |normal=>rfl
   |exit id=>exact absurd hx (hne id s1)
   |ret=>rfl
 | .loop o live a,s,r,hx=>KS.1 hx
theorem X2 {f:Nat} {pf:PF} {args:List Arg} {r:Res} (hG:G f=some pf) (h:Sf pf.res args (BR (B3 G PK md) (A6 G PK md) md pf.body (Om pf.n args))=some r) (hn:args.length<=pf.n:=by exact Nat.le_of_ble_eq_true rfl):B3 G PK md f args=some r:=by
 obtain⟨ex,s,h1,_,_,_⟩:=RQ h;obtain⟨N,hN⟩:=Dl h1;refine KT.2 ⟨N+1,?_⟩;rw[h1]at h;simp only[sem,hG,if_pos hn,hN];exact h
theorem semK_prim {f:Nat} {args:List Arg} {r:Res} (hG:G f=none) (h:PK f args=some r):B3 G PK md f args=some r:=
 KT.2 ⟨1,by simp only[sem,hG];exact h⟩
theorem GS {o:Nat} {live:List Nat} {c:C} {s s1:St} {r:Ex×St} (hm:s.m<=o) (h:BR (B3 G PK md) (A6 G PK md) md c (Aa o live s)=some (.normal,s1)) (h2:A6 G PK md o live c s1=some r):A6 G PK md o live c s=some r:=by
 obtain⟨N,hN⟩:=Dl h;obtain⟨M,hM⟩:=KS.1 h2;have h3:=Dc (G:=G) (PK:=PK) (md:=md) (Nat.le_max_left N M);have h4:=Dc (G:=G) (PK:=PK) (md:=md) (Nat.le_max_right N M);refine KS.2 ⟨max N M+1,?_⟩;simp only[sem,if_pos hm,B4 h3.1 h3.2 hN];exact h4.2 _ _ _ _ _ hM
theorem Ea {o:Nat} {live:List Nat} {c:C} {s:St} {r:Ex×St} (hm:s.m<=o) (h:BR (B3 G PK md) (A6 G PK md) md c (Aa o live s)=some r) (hr:r.1≠ .normal):A6 G PK md o live c s=some r:=by
 obtain⟨N,hN⟩:=Dl h;refine KS.2 ⟨N+1,?_⟩;simp only[sem,if_pos hm,hN];obtain⟨ex,s1⟩:=r
 cases ex with
 |normal=>exact absurd rfl hr
 |exit id=>rfl
 |ret=>rfl
theorem semK_ok {P:Program} (hm:P.follows .mixedOrders=true) {H:Nat->AG} (hG:GOk P H G) (hPK:KOk P PK):KOk P (B3 G PK md):=λf args r h=>by
 obtain⟨N,hN⟩:=KT.1 h;exact(sem_ok hm hG hPK N).1 f args r hN
end
section
open Go Go.ChangeShapes
inductive Ty where
 |int (k:IntKind)
 |bool
 |str
 |sl (row:List Ty)
inductive IsT:Ty->T->Prop
 |int (k:IntKind) (n:Int) (h:(Lit.int k n).wf=true):IsT (.int k) (.sc (.int k n))
 |bool (b:Bool):IsT .bool (.sc (.bool b))
 |str (s:ByteArray) (h:s.size<=maxLen):IsT .str (.sc (.string s))
 |sl (row:List Ty) (rows:List (List T)) (hl:rows.length<=maxLen) (hr: ∀r∈rows,r.length=row.length)
   (h: ∀r∈rows,∀ (j:Nat) ty t,row[j]? =some ty->r[j]? =some t->IsT ty t):IsT (.sl row) (.sl row.length rows)
def Vy (f:TypeId->Option (List Ty)) (c:TypeId->Nat):Nat->List Field->Option (List Ty)
 |_,[]=>some []
 |off,fd::fs=>if fd.offset=off then match f fd.type with
  |some r=>if r.length=c fd.type then(Vy f c (off+r.length) fs).map (r++ ·)else none
  |none=>none
  else none
def S0 (P:Program):Nat->TypeId->Option (List Ty)
 |0,_=>none
 |n+1,t=>match P.underlying t with
  |some .bool=>some [.bool]
  |some (.int k)=>some [.int k]
  |some .string=>some [.str]
  |some (.slice e)=>match S0 P n e with
   |some (y::r)=>if P.cellsOf e=(y::r).length then some [.sl (y::r)]else none
   |_=>none
  |some (.struct fs)=>match Vy (S0 P n) P.cellsOf 0 fs.toList with
   |some r=>if P.cellsOf t=r.length then some r else none
   |none=>none
  |_=>none
structure LR (w:World) (tys:List Ty) (cs:List Value) (ts:List T):Prop where
 len:ts.length=tys.length
 len2:cs.length=tys.length
 ok: ∀ (j:Nat) ty v d,tys[j]? =some ty->cs[j]? =some v->ts[j]? =some d->IsT ty d/\POk w (λb=>b<w.heap.size) v d
theorem LR.nil (w:World):LR w [] [] []:=⟨rfl,rfl,λj ty v d h=>by simp at h⟩
theorem LR.one {w:World} {ty:Ty} {v:Value} {d:T} (h1:IsT ty d) (h2:POk w (λb=>b<w.heap.size) v d):LR w [ty] [v] [d]:=
 ⟨rfl,rfl,λj ty' v' d' a b c=>by
  cases j with
  |zero=>
   simp only[List.getElem?_cons_zero,Option.some.injEq]at a b c;subst a;subst b;subst c;exact⟨h1,h2⟩
  |succ j=>simp at a⟩
theorem LR.append {w:World} {tys tys':List Ty} {cs cs':List Value} {ts ts':List T} (h:LR w tys cs ts) (h':LR w tys' cs' ts'):LR w (tys++tys') (cs++cs') (ts++ts'):=by
 refine⟨by simp[h.len,h'.len],by simp[h.len2,h'.len2],λj ty v d a b c=> ?_⟩;rw[List.getElem?_append]at a b c;rw[h.len2]at b;rw[h.len]at c;split at a
 ·rename_i hj;rw[if_pos hj]at b c;exact h.ok j ty v d a b c
 ·rename_i hj;rw[if_neg hj]at b c;exact h'.ok _ ty v d a b c
theorem UV {α:Type} {p:Nat->α->Prop}: ∀n:Nat,(∀i,i<n-> ∃x,p i x)-> ∃l:List α,l.length=n/\ ∀ (i:Nat) x,l[i]? =some x->p i x
 |0,_=>⟨[],rfl,λi x h=>by simp at h⟩
 |n+1,h=>by
  obtain⟨l,h1,h2⟩:=UV n λi hi=>h i (by omega)
  obtain⟨x,hx⟩:=h n (by omega);refine⟨l++[x],by simp[h1],λi y hy=> ?_⟩;rw[List.getElem?_append]at hy;split at hy
  ·exact h2 i y hy
  ·rename_i hi
   cases hj:i - l.length with
   |zero=>
    rw[hj]at hy;simp only[List.getElem?_cons_zero,Option.some.injEq]at hy;subst hy;rwa [show i=n by omega]
   |succ j=>rw[hj]at hy;simp at hy
theorem T2 {w:World} {base:Nat} {a:Addr} {n:Nat} {cs:List Value} (h:w.cells? base a n=some cs):cs.length=n/\ ∀i v,cs[i]? =some v->w.cell? (a.add i)=some v:=by
 unfold World.cells? at h;obtain⟨_,h⟩:=A8 h;have hl:cs.length=n:=by simpa using mapM_some_length h
 refine⟨hl,λi v hv=> ?_⟩;have hi:i<n:=hl ▸ (List.getElem?_eq_some_iff.1 hv).1;rw[<-hv];exact mapM_some_get h i i (by simp[hi])
theorem T3 {w:World} {a:Addr} {v:Value} (h:w.cell? a=some v):a=⟨a.block,a.off,none⟩/\a.block<w.heap.size:=by
 unfold World.cell? at h;split at h
 ·rename_i c t f hc;split at h
  ·cases h
  ·rename_i hs;obtain⟨b,o,s⟩:=a;have:s=none:=by cases s<;>simp_all
   subst this;exact⟨rfl,(Array.getElem?_eq_some_iff.1 hc).1⟩
 ·cases h
section
variable {H:Type} {enc:TypeId×Value->H} {P:Program} {w:World} {spare:Nat->Bool} {held:Bool}
theorem trod_T: ∀ (n:Nat) (t:TypeId) (cs:List Value) (x:DataW H×List MemPlace) (m:Nat) (tys:List Ty),DataW.trod enc P w 0 spare held n t cs=some x->S0 P m t=some tys-> ∃ts,LR w tys cs ts:=by
 intro n
 induction n with
 |zero=>intro t cs x m tys h;simp[DataW.trod]at h
 |succ n ih=>
  intro t cs x m tys h ht
  cases m with
  |zero=>simp[S0]at ht
  |succ m=>
   simp only[S0]at ht;split at ht
   ·rename_i hu
    cases ht
    obtain⟨b,rfl,_⟩:=DataW.trod_bool hu h;exact⟨_,.one (.bool b) (.sc _ rfl)⟩
   ·rename_i k hu
    cases ht
    obtain⟨i,rfl,_,hw⟩:=DataW.trod_int hu h;exact⟨_,.one (.int k i hw) (.sc _ rfl)⟩
   ·rename_i hu
    cases ht
    obtain⟨s,rfl,_,hs⟩:=DataW.trod_string hu h;exact⟨_,.one (.str s hs) (.sc _ rfl)⟩
   ·rename_i e hu;split at ht
    case h_2=>cases ht
    rename_i y r hty;obtain⟨hsz,ht⟩:=A8 ht
    cases ht
    rcases DataW.trod_slice hu h with ⟨rfl,_⟩|⟨a,len,cap,elems,rest,n',hn,rfl,_,_,hl,hm,hlen,hel,_,_⟩
    ·exact⟨_,.one (.sl (y::r) [] (Nat.zero_le _) (λr h=>by cases h) (λr h=>by cases h)) (.nil none 0 _)⟩
    ·cases hn
     have hrow: ∀i,i<len-> ∃ts us,LR w (y::r) us ts/\ ∀ (j:Nat) v,us[j]? =some v->w.cell? ((a.add (i*(r.length+1))).add j)=some v:=by
      intro i hi;have h1:=hel i hi;obtain⟨z,hz⟩:=AF (l:=elems) (i:=i) (by omega);rw[hz,Option.bind_eq_some_iff,hsz]at h1;obtain⟨us,h2,h3⟩:=h1;obtain⟨g1,g2⟩:=T2 h2;obtain⟨ts,hts⟩:=ih e us z m (y::r) h3 hty;exact⟨ts,us,hts,λj v hv=>g2 j v hv⟩
     obtain⟨rows,l1,l2⟩:=UV len hrow;have hrl: ∀ (i:Nat) rr,rows[i]? =some rr->rr.length=r.length+1:=λi rr hrr=>by
      obtain⟨us,h1,_⟩:=l2 i rr hrr;simpa using h1.len
     refine⟨[.sl (r.length+1) rows],.one (.sl (y::r) rows (by rw[l1];omega) (λrr hrr=> ?_) (λrr hrr j ty d hty' hd=> ?_)) ?_⟩
     ·obtain⟨i,hi⟩:=List.getElem?_of_mem hrr;simpa using hrl i rr hi
     ·obtain⟨i,hi⟩:=List.getElem?_of_mem hrr;obtain⟨us,h1,_⟩:=l2 i rr hi;obtain⟨v,hv⟩:=AF (l:=us) (i:=j) (by rw[h1.len2];exact(List.getElem?_eq_some_iff.1 hty').1);exact(h1.ok j ty v d hty' hv hd).1
     ·cases len with
      |zero=>
       have:rows=[]:=List.eq_nil_of_length_eq_zero l1;subst this;exact .nil _ _ _
      |succ len=>
       obtain⟨r0,hr0⟩:=AF (l:=rows) (i:=0) (by omega);obtain⟨us0,q1,q2⟩:=l2 0 r0 hr0;obtain⟨v0,hv0⟩:=AF (l:=us0) (i:=0) (by rw[q1.len2];simp);have hc0:=q2 0 v0 hv0;have ha:a=⟨a.block,a.off,none⟩/\a.block<w.heap.size:=by
        have:=T3 hc0;simpa[Addr.add]using this
       obtain⟨b,off,sp⟩:=a;obtain⟨ha1,ha2⟩:=ha
       cases ha1
       have key: ∀i j d,AI rows i j=some d-> ∃u,w.cell? ⟨b,off+(i*(r.length+1)+j),none⟩=some u/\POk w (λb=>b<w.heap.size) u d:=λi j d hd=>by
        unfold AI at hd;split at hd
        case h_2=>cases hd
        rename_i rr hrr;obtain⟨us,h1,h2⟩:=l2 i rr hrr;obtain⟨v,hv⟩:=AF (l:=us) (i:=j) (by rw[h1.len2,<-h1.len];exact(List.getElem?_eq_some_iff.1 hd).1);obtain⟨ty,hty'⟩:=AF (l:=y::r) (i:=j) (by rw[<-h1.len];exact(List.getElem?_eq_some_iff.1 hd).1);refine⟨v,?_,(h1.ok j ty v d hty' hv hd).2⟩;have:=h2 j v hv;rw[BZ,BZ]at this;rw[<-this,Nat.add_assoc]
       have:=POk.sl (w:=w) (Im:=λb=>b<w.heap.size) b off cap (r.length+1) rows (λi j=>(w.cell? ⟨b,off+(i*(r.length+1)+j),none⟩).getD undef) ha2 (by rw[l1];exact hl)
        (λrr hrr=>by
         obtain⟨i,hi⟩:=List.getElem?_of_mem hrr;exact hrl i rr hi)
        (λi j d hd=>by obtain⟨u,h1,_⟩:=key i j d hd;rw[h1];rfl)
        (λi j d hd=>by obtain⟨u,h1,h2⟩:=key i j d hd;rw[h1];exact h2)
       rw[l1]at this;exact this
   ·rename_i fs hu;split at ht
    case h_2=>cases ht
    rename_i r hr;obtain⟨hsz,ht⟩:=A8 ht
    cases ht
    obtain⟨xs,n',hn,_,hlen,hxs,hf⟩:=DataW.trod_struct hu h
    cases hn
    have key: ∀ (gs:List Field) (i off:Nat) (r':List Ty),(∀ (j:Nat) g,gs[j]? =some g->fs[i+j]? =some g)->Vy (S0 P m) P.cellsOf off gs=some r'->(cs.drop off).length=r'.length-> ∃ts,LR w r' (cs.drop off) ts:=by
     intro gs
     induction gs with
     |nil=>
      intro i off r' _ h1 h2;simp only[Vy,Option.some.injEq]at h1;subst h1;have:cs.drop off=[]:=List.eq_nil_of_length_eq_zero h2;rw[this];exact⟨[],.nil w⟩
     |cons g gs ihg=>
      intro i off r' hg h1 h2;simp only[Vy]at h1;obtain⟨hoff,h1⟩:=A8 h1;split at h1
      case h_2=>cases h1
      rename_i rg hrg;obtain⟨hl1,h1⟩:=A8 h1;obtain⟨r2,hr2,rfl⟩:=Bg h1;have hgi:fs[i]? =some g:=hg 0 g rfl;have hgf:=hf i g hgi;obtain⟨z,hz⟩:=AF (l:=xs) (i:=i) (by rw[hxs];exact(Array.getElem?_eq_some_iff.1 hgi).1);rw[hz,hoff,<-hl1]at hgf;obtain⟨ts1,hts1⟩:=ih g.type _ z m rg hgf hrg;rw[List.length_drop,List.length_append]at h2;obtain⟨ts2,hts2⟩:=ihg (i+1) (off+rg.length) r2 (λj g' hj=>by have:=hg (j+1) g' (by simpa using hj);rwa [show i+(j+1)=i+1+j by omega]at this) hr2 (by rw[List.length_drop];omega);refine⟨ts1++ts2,?_⟩;have:=hts1.append hts2;rw[<-List.drop_drop,List.take_append_drop]at this;exact this
    have:=key fs.toList 0 0 _ (λj g hg=>by rw[Nat.zero_add];simpa using hg) hr (by rw[List.drop_zero,hlen,hsz]);rwa [List.drop_zero]at this
   ·cases ht
end
end
def Mb:T->L
 | .sc v=> .sc v
 | .sl k rows=> .im k rows
 | .hole=> .sc (.bool false)
inductive UB (w:World):Arg->Value->Prop
 |v (t:T) (v:Value) (hh:t≠ .hole) (h:POk w (λb=>b<w.heap.size) v t):UB w (.v (Mb t)) v
 |a (ts:List T) (vs:List Value) (hl:ts.length=vs.length) (hh: ∀t∈ts,t≠ .hole) (h: ∀ (j:Nat) t v,ts[j]? =some t->vs[j]? =some v->POk w (λb=>b<w.heap.size) v t):UB w (.a (ts.map Mb)) (.agg vs.toArray)
def TS (w:World):Env:={w,ob:=λ_=> .none,hd:=λ_ _=>undef,bk:=λ_=>0,Im:=λb=>b<w.heap.size,tk:=λ_=>undef}
def lawF (w:World):Fm:={w0:=w,F:=λ_=>False,I:=λb=>b<w.heap.size,H:=λ_=>undef,B:=λ_=>0,T:=λ_=>undef}
def Ju:T->AV
 | .sc v=> .sc v
 | .sl k rows=> .im k rows
 | .hole=> .sc (.bool false)
theorem GY (n:Nat): ∀ts:List T,AW n (ts.map Mb)=(ts.map Ju,[],n)
 |[]=>rfl
 | .sc v::ts=>by simp[Mb,Ju,AW,GY n ts]
 | .sl k r::ts=>by simp[Mb,Ju,AW,GY n ts]
 | .hole::ts=>by simp[Mb,Ju,AW,GY n ts]
theorem P3 {w:World} {t:T} {v:Value} (hh:t≠ .hole) (h:POk w (λb=>b<w.heap.size) v t):AS (TS w) (Ju t) v:=by
 cases t with
 |sc u=>cases h with|sc _ hs=>exact .sc _ hs
 |sl k r=>exact .im _ _ _ h
 |hole=>exact absurd rfl hh
theorem TP {w:World} {x:Arg} {v:Value} (h:UB w x v) (n:Nat):(AT n x).2=([],n)/\AS (TS w) (AT n x).1 v/\ ∀ls,x≠ .pm ls:=by
 cases h with
 |v t v hh h=>
  have:AT n (.v (Mb t))=(Ju t,[],n):=by
   have:=GY n [t];simp only[List.map_cons,List.map_nil]at this;simp[AT,this]
  rw[this];exact⟨rfl,P3 hh h,λls h=>by cases h⟩
 |a ts vs hl hh h=>
  have:AT n (.a (ts.map Mb))=(.agg (ts.map Ju),[],n):=by simp[AT,GY]
  rw[this];refine⟨rfl,.agg _ _ (by simpa using hl) λi x u hx hu=> ?_,λls h=>by cases h⟩;rw[List.getElem?_map]at hx;obtain⟨t,ht,rfl⟩:=Bg hx;exact P3 (hh t (List.mem_of_getElem? ht)) (h i t u ht hu)
theorem Hn {w:World}: ∀ {args:List Arg} {vs:List Value} (t n:Nat),args.length=vs.length->(∀ (i:Nat) x v,args[i]? =some x->vs[i]? =some v->UB w x v)->
  (AH t n args).2=([],n)/\(Al n args)=([],[])/\ ∀ (i:Nat) v,vs[i]? =some v->AS (TS w) (Aw (AH t n args).1 (t+i)) v
 |[],vs,t,n,hl,_=>⟨rfl,rfl,λi v hv=>by cases vs<;>simp_all⟩
 |x::args,[],t,n,hl,_=>by simp at hl
 |x::args,v::vs,t,n,hl,h=>by
  obtain⟨g1,g2,g3⟩:=TP (h 0 x v rfl rfl) n;obtain⟨k1,k2,k3⟩:=Hn (args:=args) (vs:=vs) (t+1) n (by simpa using hl) (λi x v hx hv=>h (i+1) x v hx hv);have e1:(AT n x).2.1=[]:=by rw[g1]
  have e2:(AT n x).2.2=n:=by rw[g1]
  refine⟨?_,?_,λi u hu=> ?_⟩
  ·simp only[AH,e1,e2,k1,List.nil_append]
  ·cases x with
   |pm ls=>exact absurd rfl (g3 ls)
   |v l=>simp only[Al,e1,e2,k2];rfl
   |a l=>simp only[Al,e1,e2,k2];rfl
   |pi l=>simp only[Al,e1,e2,k2];rfl
   |c f l=>simp only[Al,e1,e2,k2];rfl
  ·simp only[AH,e2]
   cases i with
   |zero=>
    simp only[List.getElem?_cons_zero,Option.some.injEq]at hu;subst hu;simp only[Aw,Nat.add_zero,if_true];exact g2
   |succ i=>
    simp only[List.getElem?_cons_succ]at hu;have:=k3 i u hu;simp only[Aw];rw[if_neg (by omega),show t+(i+1)=t+1+i by omega];exact this
theorem VO {w:World} {args:List Arg} {vs:List Value} (hl:args.length=vs.length) (h: ∀ (i:Nat) x v,args[i]? =some x->vs[i]? =some v->UB w x v):I1 (lawF w) (TS w) args vs:=by
 obtain⟨k1,k2,k3⟩:=Hn 0 0 hl h;have hn: ∀o p,(TS w).node o p=none:=λo p=>rfl
 have hb: ∀l,(TS w).blk l=none:=λl=>by cases l<;>rfl
 refine⟨⟨λo cs h=>(by cases h),λo p k rows h=>(by rw[hn]at h;cases h),λl l' b h=>(by rw[hb]at h;cases h),λl b h=>(by rw[hb]at h;cases h),λx hx=>⟨hx,λh=> .inl hx⟩,λx hx=>hx,.refl _ _,rfl⟩,rfl,rfl,λ_=>rfl,λ_=>rfl,λo=>by rw[k1];rfl,hl,λi v hv=> ?_⟩;have:=k3 i v hv;rwa [Nat.zero_add]at this
def yes:Res:={out:=[.v (.sc (.bool true))],fin:=[],pfin:=[]}
theorem law_calls {P:Program} {K:Nat->List Arg->Option Res} (hK:KOk P K) {f:Nat} {args:List Arg} {vs:List Value} {w:World} (hl:args.length=vs.length) (h: ∀ (i:Nat) x v,args[i]? =some x->vs[i]? =some v->UB w x v)
  (hs:K f args=some yes):Calls P f vs.toArray w fun
   | .returned v,w'=>v= .bool true/\RowKit.Below w.heap.size w w'
   |_,_=>False:=by
 have hE:=VO hl h
 refine Calls.mono ((hK f args yes hs).2 (lawF w) (TS w) vs hE) λen w' hh=> ?_
 cases en with
 |panicked _=>exact hh.elim
 |outgrown=>exact hh.elim
 |returned v=>
  obtain⟨e',rfl,hx⟩:=hh;obtain⟨k1,k2,k3⟩:=Hn 0 0 hl h;have hv:=hx.val;have he:CN args yes=([.sc (.bool true)],[]):=by
   have k1':AH 0 0 args=((AH 0 0 args).1,[],0):=by rw[<-k1]
   simp only[CN];rw[k1'];simp[k2,yes,B9,DG,C1,DC,AT,AW]
  rw[he]at hv;have hk:=hx.mem.keeps;exact⟨hv.sc_inv.1,hk.os,hk.tape,hk.output,hk.size,λk hlt=>hk.block k hlt λhf=>hf⟩
section
variable {P:Program} {fm fm0:Fm} {M:List Nat} {e e' e0:Env} {s s':St} {a a':Act} {Q:Exit->Act->World->Prop}
def cl0 (t:TypeId):Array Oper:= #[{dst:=some 2,op:= .assign (.const (.slice none 0 0)),type:=t,pos:= "slices.go:355",after:= #[],guard:=none}]
def cl1 (t b:TypeId):Array Oper:= #[{dst:=some 3,op:= .move (.tmp 0),type:=t,pos:= "slices.go:357",after:= #[],guard:=none},
 {dst:=some 4,op:= .binOp .eql t (.tmp 3) (.const (.slice none 0 0)) t,type:=b,pos:= "slices.go:357",after:= #[{on:=0,ground:= .data}],guard:=none}]
def cl2 (t:TypeId):Array Oper:= #[{dst:=some 2,op:= .assign (.const (.slice none 0 0)),type:=t,pos:= "slices.go:358",after:= #[],guard:=none}]
def cl3 (t:TypeId):Array Oper:= #[{dst:=some 5,op:= .buildSlice t 0 #[],type:=t,pos:= "slices.go:362",after:= #[],guard:=none},
 {dst:=some 6,op:= .move (.tmp 0),type:=t,pos:= "slices.go:362",after:= #[],guard:=none},
 {dst:=some 7,op:= .call {callee:= .builtin .append,args:= #[.tmp 5,.tmp 6],argTypes:= #[t,t]},type:=t,pos:= "slices.go:362",after:= #[{on:=0,ground:= .data},{on:=1,ground:= .data}],guard:=none},
 {dst:=some 2,op:= .assign (.tmp 7),type:=t,pos:= "slices.go:362",after:= #[{on:=2,ground:= .data},{on:=2,ground:= .chain},{on:=0,ground:= .phase},{on:=1,ground:= .phase},{on:=2,ground:= .phase}],guard:=none}]
def Vq (t b:TypeId):Code:=
 (Code.region 0 (cl0 t) false).seq (((Code.region 1 (cl1 t b) false).seq (Code.cond (.tmp 4) ((Code.region 2 (cl2 t) false).seq .ret) .skip)).seq ((Code.region 3 (cl3 t) false).seq .ret))
theorem eql_nil {t el:TypeId} (ht:P.underlying t=some (.slice el)) (ad:Option Addr) (n c:Nat) (w:World):(binOp .eql t (.slice ad n c) (.slice none 0 0)).run P w= .ok (.bool ad.isNone) w:=by
 have hd: ∀d,(Op.equalIn (d+1) t (.slice ad n c) (.slice none 0 0)).run P w= .ok ad.isNone w:=by
  intro d
  cases ad with
  |none=>simp[Op.equalIn,AR ht]
  |some x=>simp[Op.equalIn,AR ht]
 have he:(Op.equal t (.slice ad n c) (.slice none 0 0)).run P w= .ok ad.isNone w:=hd 9999;simp[binOp,he]
def K0 (_:Nat) (_:List Arg):Option Res:=none
theorem Wz:KOk P K0:=λf args r h=>by cases h
theorem clone_ok {f:Nat} {fn:Func} {t b el:TypeId} {k bytes:Nat} (hfn:P.funcs[f]? =some fn) (hname:fn.name≠ "runtime.NumGoroutine") (hb:fn.body=some (Vq t b)) (hr:fn.results= #[.tmp 2]) (hn:fn.ntmps=8)
  (ht:P.underlying t=some (.slice el)) (hk:Bk P el=some k) (hby:Do P el=some bytes) (hz:(Bc P el).map List.length=some k) (hpos:0<bytes)
  {rows:List (List T)} (hflat:An rows=true) (hsz:rows.length*bytes<=35184372088832):FB P f/\KJ P f [.v (.im k rows)] {out:=[.v (.own k rows)],fin:=[],pfin:=[]}:=by
 refine⟨⟨fn,hfn,hname,by rw[hb];simp⟩,λfm e vs hE=> ?_⟩
 have hlen:=hE.len
 obtain⟨v,rfl⟩: ∃v,vs=[v]:=by
  cases vs with
  |nil=>simp at hlen
  |cons v vs=>cases vs with
   |nil=>exact⟨v,rfl⟩
   |cons _ _=>simp at hlen
 have hR:=QK hE (n:=fn.ntmps) (by simp[hn])
 refine calls_of_wp hfn hb ?_
 have hres:C0 P fn.results.toList=some [.t 2]:=by rw[hr];rfl
 have hend: ∀ {e':Env} {s:St} {a':Act} {ex:Exit},Rel fm e' s a'->s.m=0->Ma [.t 2] [.v (.im k rows)] s=some {out:=[.v (.own k rows)],fin:=[],pfin:=[]}->ex= .ret->
   bodyPost P fn (fun
    | .returned v,w'=> ∃e',e'.w=w'/\KH fm e [.v (.im k rows)] {out:=[.v (.own k rows)],fin:=[],pfin:=[]} e' v
    |_,_=>False) ex a' e'.w:=by
  intro e' s a' ex hR' hm hl hex
  subst hex
  obtain⟨v,e2,g1,g2,g3⟩:=SE hE hR' (by rw[hm];rfl) hres hl
  exact⟨hR'.defers,v,g1,e2,g2,g3⟩
 generalize hS:Om fn.ntmps [.v (.im k rows)]=s0 at hR
 have hs0:s0={n:=8,m:=0,tm:=[(0,.im k rows)],ob:=[]}:=by rw[<-hS,hn];rfl
 subst hs0
 generalize bodyPost P fn (fun
    | .returned v,w'=> ∃e',e'.w=w'/\KH fm e [.v (.im k rows)] {out:=[.v (.own k rows)],fin:=[],pfin:=[]} e' v
    |_,_=>False)=Q at hend ⊢
 refine wp_seq (Ic (K:=K0) (md:=λ_=>[]) (h:={}) (n:=8) (l:=[⟨some 2,.mov (.k (.nil k)),none⟩]) (s':={n:=8,m:=0,tm:=[(2,.nil k),(0,.im k rows)],ob:=[]}) Wz hR ?_ ?_ ?_)
 ·simp[cl0,Ca,Cn,Bu,xOf,HG,Fj,ht,hk]
 ·rfl
 intro e1 a1 hR1
 refine wp_seq (wp_seq (wp_region ?_))
 have h3:=hR1.tm 0
 have hx0:xOf P t (.tmp 0)=some (.t 0):=rfl
 have hwp:=(Qk (P:=P) (o:={dst:=some 3,op:= .move (.tmp 0),type:=t,pos:= "slices.go:357",after:= #[],guard:=none}) (s':={n:=8,m:=0,tm:=[(3,.im k rows),(2,.nil k),(0,.im k rows)],ob:=[]}) hR1 (.inl rfl) hx0 rfl).wp (M:=[]) hR1
 show wpOps P (cl1 t b) _ [0,1] a1 e1.w
 simp only[wpOps,cl1,List.getElem?_toArray,List.getElem?_cons_zero,Region.wanted,if_true]
 refine .inl (Oper.wp_mono (λa2 w2 hh=> ?_) (hwp _))
 obtain⟨e2,rfl,hR2,_⟩:=hh
 simp only[List.getElem?_cons_succ,List.getElem?_cons_zero,if_true]
 refine .inl ?_
 have hv3:=hR2.tm 3
 simp only[Aw,if_true]at hv3
 generalize hev:a2.tmps.getD 3 undef=v3 at hv3
 have hev3:a2.eval (.tmp 3)=v3:=hev
 obtain⟨ad,n',c,hv3e,hnil⟩: ∃ad n c,v3= .slice ad n c/\(ad=none->rows=[]):=by
  cases hv3 with
  |im v k rows hp=>
   cases hp with
   |nil ad c k=>exact⟨ad,0,c,rfl,λ_=>rfl⟩
   |sl b off c k rows us _ _ _ _ _=>exact⟨_,_,_,rfl,λh=>by cases h⟩
 subst hv3e
 have hrun:(execOp a2.eval {dst:=some 4,op:= .binOp .eql t (.tmp 3) (.const (.slice none 0 0)) t,type:=b,pos:= "slices.go:357",after:= #[{on:=0,ground:= .data}],guard:=none}).run P e2.w= .ok (.value (.bool ad.isNone)) e2.w:=by
  have hg:(eqGuard .eql t (.tmp 3) (.const (.slice none 0 0)) (.slice ad n' c) (.slice none 0 0)).run P e2.w= .ok () e2.w:=rfl;have hc:a2.eval (.const (.slice none 0 0))= .slice none 0 0:=rfl;simp[execOp,hev3,hc,hg,eql_nil ht]
 have hput:({n:=8,m:=0,tm:=[(3,.im k rows),(2,.nil k),(0,.im k rows)],ob:=[]}:St).put (some 4) (.sc (.bool ad.isNone))=some {n:=8,m:=0,tm:=[(4,.sc (.bool ad.isNone)),(3,.im k rows),(2,.nil k),(0,.im k rows)],ob:=[]}:=rfl
 refine Oper.wp_mono (λa3 w3 hh=> ?_) (KO (M:=[]) hR2 hrun (.sc _ rfl) hput _)
 obtain⟨e3,rfl,hR3,_⟩:=hh
 have hc4:=hR3.tm 4
 simp only[Aw,if_true]at hc4
 have hc4:a3.eval (.tmp 4)= .bool ad.isNone:=hc4.sc_inv.1
 show (Code.cond _ _ _).wp P _ a3 e3.w
 refine wp_cond hc4 ?_
 cases had:ad with
 |none=>
  have:=hnil had;subst this;simp only[Option.isNone_none,if_true];refine wp_seq (Ic (K:=K0) (md:=λ_=>[]) (h:={}) (n:=8) (l:=[⟨some 2,.mov (.k (.nil k)),none⟩]) (s':={n:=8,m:=0,tm:=[(2,.nil k),(4,.sc (.bool ad.isNone)),(3,.im k []),(2,.nil k),(0,.im k [])],ob:=[]}) Wz hR3 ?_ ?_ ?_)
  ·simp[cl2,Ca,Cn,Bu,xOf,HG,Fj,ht,hk]
  ·rfl
  intro e4 a4 hR4;refine wp_ret ?_;exact hend hR4 rfl rfl rfl
 |some x=>
  simp only[Option.isNone_some,if_false,Bool.false_eq_true];refine wp_skip ?_
  show (Code.seq _ _).wp P _ a3 e3.w
  refine wp_seq (Ic (K:=K0) (md:=λ_=>[]) (h:={}) (n:=8) (l:=[⟨some 5,.bsl 40000 k [],none⟩,⟨some 6,.mov (.t 0),none⟩,⟨some 7,.app 40200 k bytes (.t 5) (.t 6),none⟩,⟨some 2,.mov (.t 7),none⟩])
   (s':={n:=8,m:=0,tm:=[(2,.ref 40200 []),(7,.ref 40200 []),(6,.im k rows),(5,.dead),(4,.sc (.bool ad.isNone)),(3,.im k rows),(2,.nil k),(0,.im k rows)],ob:=[(40200,.arr k rows)]}) Wz hR3 ?_ ?_ ?_)
  ·simp[cl3,Ca,Cn,Bu,KZ,xOf,ht,hk,hby,hz,Nf]
  ·simp[Fv,Fw,Ad,bslA,St.new,St.putO,AN,MF,St.put,ev,Aw,appA,Aq.root,Gf,Bm,hpos,hsz,hflat,N8,St.gone,St.sub,PE,Mr,AV.sub,Kp,Obj.sub]
  intro e4 a4 hR4;refine wp_ret ?_;refine hend hR4 rfl ?_ rfl;simp[Ma,Co,Rr,Aw,BM,Aq.rootsI,Aq.rootI,Aq.root,Al,AT,AW,O6,Aq.rootBoxes,FP,Er,LM,KB,shOf,Ck,Be,Db,AN,Hp]
end
attribute [simp] Aw AN MF AI EE AM C2 JP ES ev AV.sub CL PE Obj.sub Mr St.sub St.putO St.gone St.new St.put pre Sq Xq beqA binA unA ofD Wc Li MW Cu cells Gb
 Bm PQ Hs SH Rx He GA CY toT Co oneCell Iw EV isIm Gs CH An Ow.window FN Aq.sub Aq.cut Aq.root Aq.roots A4 KF GL St.adopt St.adopts Aq.detach St.write NB IZ
 S5 F0 DD Ov Kp Gf UD N8 appA Xt GO Gz KE cpyA clrA Cf EB isImR bslA AW AT AH Om DC C1 AV.mv mvL AV.mvt Nv VD JC BW CK Bt Jb TO Obj.mv Obj.mvt tokB Ns BM Db Be Aq.rootI Aq.rootsI Dy
 EI Aq.push Aq.rootsM O2 A1 Jj QQ O5 XA P1 E2 Ck Bs VA EQ B6 Al DG B9 CN imL Qs one Fo Hp FV Cx IK JD J1 O9 G1 XC LS.merge LS.take
 Fn Aq.rootsAt RZ Ad Fw Fv St.drop tgt GP We Gc Ij IT QP OB Qu W5 Po W6 Pp UJ E0 Wd Pt objsO Su Hx UN TG mvT EL IR mvO N2 MH Aa BR
 Rr O6 Aq.rootBox Aq.rootBoxes shOf KB HI LM Er FP Ks Ma Sf
@[simp] def ki (n:Int):X:= .k (.sc (.int .i64 n))
@[simp] def kb (b:Bool):X:= .k (.sc (.bool b))
def enc {α:Type} (f:α->List T) (l:List α):List (List T):=l.map f
@[simp] theorem Bx {α:Type} (f:α->List T) (l:List α):(enc f l).length=l.length:=by simp[enc]
@[simp] theorem Is {α:Type} (f:α->List T) (l:List α) (i:Nat):(enc f l)[i]? =l[i]?.map f:=by simp[enc]
@[simp] theorem enc_at {α:Type} (f:α->List T) (l:List α) (i:Nat) (h:i<(enc f l).length):(enc f l)[i]=f (l[i]'(by simpa using h)):=by simp[enc]
theorem BT {α:Type} {l:List α} {i:Nat} {x:α} (h:l[i]? =some x): ∃hi:i<l.length,l[i]=x:=List.getElem?_eq_some_iff.1 h
@[simp] theorem BA {α:Type} (f:α->List T):enc f []=[]:=rfl
@[simp] theorem BN {α:Type} (f:α->List T) (x:α) (l:List α):enc f (x::l)=f x::enc f l:=rfl
theorem AU {α:Type} (f:α->List T) (l m:List α):enc f l++enc f m=enc f (l++m):=by simp[enc]
theorem A3 {α:Type} (f:α->List T) (l:List α) (i:Nat) (x:α):(enc f l).set i (f x)=enc f (l.set i x):=by simp[enc]
theorem Ax {α:Type} (f:α->List T) (l:List α) (n:Nat):(enc f l).take n=enc f (l.take n):=by simp[enc]
theorem CA {α:Type} (f:α->List T) (l:List α) (n:Nat):(enc f l).drop n=enc f (l.drop n):=by simp[enc]
theorem Fh {α:Type} {f:α->List T} (h: ∀x,Gs (f x)=true): ∀l:List α,An (enc f l)=true
 |[]=>rfl
 |x::l=>by show (Gs (f x)&&An (enc f l))=true;rw[h,Fh h l];rfl
@[simp] def fI (n:Int):List T:=[.sc (.int .i64 n)]
@[simp] def fU (n:Int):List T:=[.sc (.int .u8 n)]
@[simp] def fL (b:Bool):List T:=[.sc (.bool b)]
@[simp] def fS (s:ByteArray):List T:=[.sc (.string s)]
@[simp] def fII (l:List Int):List T:=[.sl 1 (enc fI l)]
@[simp] def fUU (l:List Int):List T:=[.sl 1 (enc fU l)]
@[simp] theorem OE (l:List Int):An (enc fI l)=true:=Fh (λ_=>rfl) l
@[simp] theorem OD (l:List Int):An (enc fU l)=true:=Fh (λ_=>rfl) l
@[simp] theorem flat_L (l:List Bool):An (enc fL l)=true:=Fh (λ_=>rfl) l
@[simp] theorem flat_S (l:List ByteArray):An (enc fS l)=true:=Fh (λ_=>rfl) l
def cp {α:Type} (d:α) (l:List α) (j:Nat):List α:=l.take j++List.replicate (l.length - j) d
@[simp] theorem cp_len {α:Type} (d:α) (l:List α) {j:Nat} (h:j<=l.length):(cp d l j).length=l.length:=by simp[cp];omega
theorem AC {x:Int} (h0: -9223372036854775808<=x) (h1:x<=9223372036854775807):IntKind.wrap .i64 x=x:=by
 have h1:IntKind.wrap .i64 x=(if x%18446744073709551616 ≥ 9223372036854775808 then x%18446744073709551616 - 18446744073709551616 else x%18446744073709551616):=by
  simp[IntKind.wrap,IntKind.bits,IntKind.signed]
 rw[h1];split<;>omega
section
variable {G:Nat->Option PF} {PK:Nat->List Arg->Option Res} {md:Nat->List Nat}
theorem Ih {o:Nat} {live:List Nat} {c:C} (ST:Nat->St) (n:Nat)
  (hstep: ∀j,j<n-> ∃s',BR (B3 G PK md) (A6 G PK md) md c (ST j)=some (.normal,s')/\s'.m<=o/\Aa o live s'=ST (j+1))
  (hend: ∃ex s',BR (B3 G PK md) (A6 G PK md) md c (ST n)=some (ex,s')/\ex≠ .normal):
  ∀ (s:St),s.m<=o->Aa o live s=ST 0->A6 G PK md o live c s=BR (B3 G PK md) (A6 G PK md) md c (ST n):=by
 have key: ∀ (d j:Nat),j+d=n-> ∀ (s:St),s.m<=o->Aa o live s=ST j->A6 G PK md o live c s=BR (B3 G PK md) (A6 G PK md) md c (ST n):=by
  intro d
  induction d with
  |zero=>
   intro j hj s hm hs;have:j=n:=by omega
   subst this;obtain⟨ex,s',h,hne⟩:=hend;rw[h];exact Ea hm (by rw[hs];exact h) hne
  |succ d ih=>
   intro j hj s hm hs;obtain⟨s',h1,h2,h3⟩:=hstep j (by omega);have h4:=ih (j+1) (by omega) s' h2 h3;obtain⟨ex,s2,h5,hne⟩:=hend;rw[h5]at h4 ⊢;exact GS hm (by rw[hs];exact h1) h4
 intro s hm hs
 exact key n 0 (by omega) s hm hs
theorem first (p:Nat->Prop) (n:Nat): ∃k,k<=n/\(∀j,j<k->p j)/\(k=n\/k<n/\ ¬p k):=by
 induction n with
 |zero=>exact⟨0,Nat.le_refl _,λj h=>absurd h (by omega),.inl rfl⟩
 |succ n ih=>
  obtain⟨k,h1,h2,h3⟩:=ih;rcases h3 with rfl|⟨h3,h4⟩
  ·by_cases hp:p k
   ·refine⟨k+1,Nat.le_refl _,λj hj=> ?_,.inl rfl⟩;rcases Nat.lt_or_ge j k with h|h
    ·exact h2 j h
    ·rwa [show j=k by omega]
   ·exact⟨k,by omega,h2,.inr ⟨by omega,hp⟩⟩
  ·exact⟨k,by omega,h2,.inr ⟨by omega,h4⟩⟩
theorem Ar {j n:Nat} (h:j<n) (hn:n<=1048576):IntKind.wrap .i64 ((j:Int)+1)=((j+1:Nat):Int):=by rw[AC (by omega) (by omega)];rfl
def Df:List Nat->Nat
 |[]=>0
 |a::l=>a+Df l
theorem IY (l:List Nat) {j x:Nat} (h:l[j]? =some x):Df (l.take (j+1))=Df (l.take j)+x:=by
 induction l generalizing j with
 |nil=>simp at h
 |cons a l ih=>
  cases j with
  |zero=>simp at h;subst h;simp[Df]
  |succ j=>simp at h;simp only[List.take_succ_cons,Df,ih h];omega
theorem M9 (l:List Nat) (j:Nat):Df (l.take j)<=Df l:=by
 induction l generalizing j with
 |nil=>simp[Df]
 |cons a l ih=>
  cases j with
  |zero=>simp[Df]
  |succ j=>simp only[List.take_succ_cons,Df];have:=ih j;omega
structure Ay where
 gens:List Int
 bits:List (List Int)
 fine:Bool
 old:Bool
 held:Bool
 last:Int
 deriving Inhabited,DecidableEq
structure BG where
 a:List Int
 b:List Int
 deriving Inhabited,DecidableEq
structure AE where
 id:Int
 up:Bool
 prime:Bool
 image:List Int
 mt:Ay
 sl:BG
 conn:List Bool
 sync:List (List Int)
 copies:List Bool
 wait:List Int
 deriving Inhabited,DecidableEq
structure BD where
 src:Int
 dst:Int
 bytes:List Int
 deriving Inhabited,DecidableEq
structure Dw where
 cell:Int
 up:Int
 deriving Inhabited,DecidableEq
structure AB where
 nodes:List AE
 net:List BD
 log:List Dw
 safe:List Int
 gen:Int
 deriving Inhabited,DecidableEq
structure Xx where
 last:Int
 image:List Int
 deriving Inhabited,DecidableEq
structure T7 where
 w:AB
 blocks:List (List Int)
 deriving Inhabited,DecidableEq
@[simp] def fM (n:Ay):List T:=[.sl 1 (enc fI n.gens),.sl 1 (enc fII n.bits),.sc (.bool n.fine),.sc (.bool n.old),.sc (.bool n.held),.sc (.int .i64 n.last)]
@[simp] def fSl (n:BG):List T:=[.sl 1 (enc fU n.a),.sl 1 (enc fU n.b)]
@[simp] def fN (n:AE):List T:=[.sc (.int .i64 n.id),.sc (.bool n.up),.sc (.bool n.prime),.sl 1 (enc fI n.image),.sl 1 (enc fI n.mt.gens),.sl 1 (enc fII n.mt.bits),.sc (.bool n.mt.fine),.sc (.bool n.mt.old),.sc (.bool n.mt.held),.sc (.int .i64 n.mt.last),
 .sl 1 (enc fU n.sl.a),.sl 1 (enc fU n.sl.b),.sl 1 (enc fL n.conn),.sl 1 (enc fII n.sync),.sl 1 (enc fL n.copies),.sl 1 (enc fI n.wait)]
@[simp] def fW (w:BD):List T:=[.sc (.int .i64 w.src),.sc (.int .i64 w.dst),.sl 1 (enc fU w.bytes)]
@[simp] def fR (r:Dw):List T:=[.sc (.int .i64 r.cell),.sc (.int .i64 r.up)]
@[simp] def fWo (w:AB):List T:=[.sl 16 (enc fN w.nodes),.sl 3 (enc fW w.net),.sl 2 (enc fR w.log),.sl 1 (enc fI w.safe),.sc (.int .i64 w.gen)]
def zN:AE:=⟨0,false,false,[],⟨[],[],false,false,false,0⟩,⟨[],[]⟩,[],[],[],[]⟩
def zW:BD:=⟨0,0,[]⟩
def zR:Dw:=⟨0,0⟩
@[simp] theorem zN0:zN.id=0:=rfl
@[simp] theorem zN1:zN.up=false:=rfl
@[simp] theorem zN2:zN.prime=false:=rfl
@[simp] theorem zN3:zN.image=[]:=rfl
@[simp] theorem zN4:zN.mt.gens=[]:=rfl
@[simp] theorem zN5:zN.mt.bits=[]:=rfl
@[simp] theorem zN6:zN.mt.fine=false:=rfl
@[simp] theorem zN7:zN.mt.old=false:=rfl
@[simp] theorem zN8:zN.mt.held=false:=rfl
@[simp] theorem zN9:zN.mt.last=0:=rfl
@[simp] theorem zN10:zN.sl.a=[]:=rfl
@[simp] theorem zN11:zN.sl.b=[]:=rfl
@[simp] theorem zN12:zN.conn=[]:=rfl
@[simp] theorem zN13:zN.sync=[]:=rfl
@[simp] theorem zN14:zN.copies=[]:=rfl
@[simp] theorem zN15:zN.wait=[]:=rfl
@[simp] theorem zW0:zW.src=0:=rfl
@[simp] theorem zW1:zW.dst=0:=rfl
@[simp] theorem zW2:zW.bytes=[]:=rfl
@[simp] theorem zR0:zR.cell=0:=rfl
@[simp] theorem zR1:zR.up=0:=rfl
@[simp] def lent:T->L
 | .sc v=> .sc v
 | .sl k rows=> .im k rows
 | .hole=> .sc (.bool false)
@[simp] def AJ:T->L
 | .sc v=> .sc v
 | .sl k rows=> .own k rows
 | .hole=> .sc (.bool false)
@[simp] def AD:List T->List L
 |[]=>[]
 |t::l=>lent t::AD l
@[simp] def AA:List T->List L
 |[]=>[]
 |t::l=>AJ t::AA l
def EC {α:Type} (l:List α):Prop:=l.length<=9223372036854775807
def C9 {α:Type} (p:α->Prop) (l:List α):Prop:=EC l/\ ∀x∈l,p x
def shM (n:Ay):Prop:=EC n.gens/\C9 EC n.bits
def shSl (n:BG):Prop:=EC n.a/\EC n.b
def shN (n:AE):Prop:=EC n.image/\shM n.mt/\shSl n.sl/\EC n.conn/\C9 EC n.sync/\EC n.copies/\EC n.wait
def shW (w:BD):Prop:=EC w.bytes
def shWo (w:AB):Prop:=C9 shN w.nodes/\C9 shW w.net/\EC w.log/\EC w.safe
def shSn (s:Xx):Prop:=EC s.image
def shSt (s:T7):Prop:=shWo s.w/\C9 EC s.blocks
end
section
structure RowT (tys:List Ty) (ts:List T):Prop where
 len:ts.length=tys.length
 ok: ∀ (j:Nat) ty t,tys[j]? =some ty->ts[j]? =some t->IsT ty t
theorem isT_int {k:IntKind} {t:T} (h:IsT (.int k) t): ∃n,t= .sc (.int k n)/\(Lit.int k n).wf=true:=by cases h with|int k n h=>exact⟨n,rfl,h⟩
theorem isT_sl {row:List Ty} {t:T} (h:IsT (.sl row) t): ∃rows,t= .sl row.length rows/\rows.length<=9223372036854775807/\ ∀r∈rows,RowT row r:=by
 cases h with
 |sl row rows hl hr h=>exact⟨rows,rfl,hl,λr hr'=>⟨hr r hr',h r hr'⟩⟩
theorem Rq {α:Type} {f:α->List T} {p:α->Prop}: ∀ {rows:List (List T)},(∀r∈rows,∃x,r=f x/\p x)-> ∃l,rows=enc f l/\ ∀x∈l,p x
 |[],_=>⟨[],rfl,λx h=>by cases h⟩
 |r::rows,h=>by
  obtain⟨x,rfl,hx⟩:=h r List.mem_cons_self;obtain⟨l,rfl,hl⟩:=Rq λr hr=>h r (List.mem_cons_of_mem _ hr)
  exact⟨x::l,rfl,λy hy=>by
   rcases List.mem_cons.1 hy with rfl|hy
   ·exact hx
   ·exact hl y hy⟩
def Dec {α:Type} (tys:List Ty) (f:α->List T) (p:α->Prop):Prop:= ∀ts,RowT tys ts-> ∃x,ts=f x/\p x
theorem dec_sl {α:Type} {tys:List Ty} {f:α->List T} {p:α->Prop} (h:Dec tys f p) {t:T} (ht:IsT (.sl tys) t): ∃l,t= .sl tys.length (enc f l)/\C9 p l:=by
 obtain⟨rows,rfl,hl,hr⟩:=isT_sl ht;obtain⟨l,rfl,hp⟩:=Rq λr hr'=>h r (hr r hr')
 exact⟨l,rfl,by simpa[EC]using hl,hp⟩
theorem row1 {ty:Ty} {ts:List T} (h:RowT [ty] ts): ∃t,ts=[t]/\IsT ty t:=by
 obtain⟨hl,ho⟩:=h
 match ts,hl with
 |[t],_=>exact⟨t,rfl,ho 0 ty t rfl rfl⟩
theorem dec_U:Dec [.int .u8] fU λn=>(Lit.int .u8 n).wf=true:=λts h=>by
 obtain⟨t,rfl,h1⟩:=row1 h;obtain⟨n,rfl,hn⟩:=isT_int h1;exact⟨n,rfl,hn⟩
def okI (l:List Int):Prop:=C9 (λn=>(Lit.int .i64 n).wf=true) l
def okU (l:List Int):Prop:=C9 (λn=>(Lit.int .u8 n).wf=true) l
structure okN (x:AE):Prop where
 id:(Lit.int .i64 x.id).wf=true
 image:okI x.image
 gens:okI x.mt.gens
 bits:C9 okI x.mt.bits
 last:(Lit.int .i64 x.mt.last).wf=true
 a:okU x.sl.a
 b:okU x.sl.b
 conn:EC x.conn
 sync:C9 okI x.sync
 copies:EC x.copies
 wait:okI x.wait
theorem UH {l:List (List Int)} (h:C9 okI l):C9 EC l:=⟨h.1,λx hx=>(h.2 x hx).1⟩
theorem okN.sh {x:AE} (h:okN x):shN x:=⟨h.image.1,⟨h.gens.1,UH h.bits⟩,⟨h.a.1,h.b.1⟩,h.conn,UH h.sync,h.copies,h.wait.1⟩
structure okW (x:BD):Prop where
 src:(Lit.int .i64 x.src).wf=true
 dst:(Lit.int .i64 x.dst).wf=true
 bytes:okU x.bytes
structure okR (x:Dw):Prop where
 cell:(Lit.int .i64 x.cell).wf=true
 up:(Lit.int .i64 x.up).wf=true
structure okWo (x:AB):Prop where
 nodes:C9 okN x.nodes
 net:C9 okW x.net
 log:C9 okR x.log
 safe:okI x.safe
 gen:(Lit.int .i64 x.gen).wf=true
theorem okWo.sh {x:AB} (h:okWo x):shWo x:=⟨⟨h.nodes.1,λy hy=>(h.nodes.2 y hy).sh⟩,⟨h.net.1,λy hy=>(h.net.2 y hy).bytes.1⟩,h.log.1,h.safe.1⟩
structure okSn (x:Xx):Prop where
 last:(Lit.int .i64 x.last).wf=true
 image:okI x.image
theorem okSn.sh {x:Xx} (h:okSn x):shSn x:=h.image.1
structure okSt (x:T7):Prop where
 w:okWo x.w
 blocks:C9 okU x.blocks
theorem okSt.sh {x:T7} (h:okSt x):shSt x:=⟨h.w.sh,h.blocks.1,λy hy=>(h.blocks.2 y hy).1⟩
theorem lr_row {w:World} {tys:List Ty} {cs:List Value} {ts:List T} (h:LR w tys cs ts):RowT tys ts:=
 ⟨h.len,λj ty t h1 h2=>by
  obtain⟨v,hv⟩:=AF (l:=cs) (i:=j) (by rw[h.len2];exact(List.getElem?_eq_some_iff.1 h1).1);exact(h.ok j ty v t h1 hv h2).1⟩
section
variable {H:Type} {encH:TypeId×Value->H} {P:Program} {w:World} {spare:Nat->Bool} {held:Bool}
theorem param_slice {α:Type} {tys:List Ty} {f:α->List T} {p:α->Prop} (hd:Dec tys f p) {t el:TypeId} (hu:P.underlying t=some (.slice el)) {m:Nat} (hty:S0 P m t=some [.sl tys])
  {r:Go.Reach} {b0:Nat} {v:Value} (hv:Value.okWide P w r b0 t v) {d:DataW H} {ps:List MemPlace} (h:DataW.Trod encH P w 0 spare held t v d ps): ∃l,C9 p l/\UB w (.v (.im tys.length (Ow.enc f l))) v:=by
 obtain⟨a,len,cap,rfl⟩:=WideShapes.okWide_slice hu hv
 obtain⟨n,hn⟩:=h
 obtain⟨ts,hts⟩:=trod_T n t _ _ m _ hn hty
 obtain⟨t0,rfl,h0⟩:=row1 (lr_row hts)
 obtain⟨l,rfl,hl⟩:=dec_sl hd h0
 refine⟨l,hl,?_⟩
 have:=(hts.ok 0 _ _ _ rfl rfl rfl).2
 exact .v (.sl tys.length (Ow.enc f l)) _ (by simp) this
end
end
def kindsB (P:Program) (fn:Func) (c:OpenClaim):Bool:=(c.kinds==(if c.domain.isEmpty then []else fn.params.toList.map λt=>match P.underlying t with|some (.int k)=>some k|_=>none))
theorem joined_of {P:Program} {f:FuncId} {fn:Func} {s:ChangeSpec} {c:OpenClaim} (h0:(c.wf (OpenSpec.ofChange s))=true) (h1:(laidOutB P)=true) (h2:(mapsRowed P)=true) (h3:(fn.params.all (P.readableRec ·))=true) (h4:(namedTie P c.named s.vars)=true) (h5:((c.stops==[]))=true) (h6:((P.stops==[]))=true) (h7:((c.knobs==[]))=true) (h8:((P.stopKnobs==[]))=true) (h9:((c.inPlace==P.inPlace f))=true) (h10:((c.unfollowed==P.unfollowed f))=true) (h11:((c.recurses==P.recurses f))=true) (h12:((c.named==P.varsNamed f))=true) (h13:((c.maps==(fn.params.toList++s.plain.varTypes P).any (P.mapsRec ·)))=true) (h14:((c.ifaces==(fn.params.toList++s.plain.varTypes P).any (P.ifacesRec ·)))=true) (h15:((c.mapsOut==P.mapsAmong fn.resultTypes.toList))=true) (h16:((c.loops==(fn.params.toList++s.plain.varTypes P).any (P.loopsFrom ·)))=true) (h17:((c.wideKeys==(fn.params.toList++s.plain.varTypes P++fn.resultTypes.toList).any (P.wideKeysFrom ·)))=true) (h18:(s.vars.all (P.varReadable ·))=true) (h19:(fn.resultTypes.all (λt=>P.readableRec t&&decide (t<P.types.size)))=true) (h20:((c.ifacesOut==fn.resultTypes.toList.any (P.ifacesRec ·)))=true) (h21:((c.loopsOut==fn.resultTypes.toList.any (P.loopsFrom ·)))=true) (h22:((c.plainKeys==P.plainKeys))=true) (h23:(c.shortTexts.isNone)=true) (h24:(P.stopsHeard)=true) (h25:(P.mayEnter)=true) (h26:((c.lifted==P.liftsFinal))=true) (h27:((P.make==some c.make))=true) (h28:(kindsB P fn c)=true) (h29:((c.pinned==c.pinnedBy))=true) (h30:((c.veiled==(fn.params.toList++s.plain.varTypes P++fn.resultTypes.toList).any (P.veiledRec ·)))=true) (h31:(c.veiledFits P fn.params.toList (fn.params.toList++s.plain.varTypes P++fn.resultTypes.toList))=true):joinedFacts P f fn s c=true:=by
 unfold joinedFacts;simp only[Bool.and_eq_true];exact⟨⟨⟨⟨⟨⟨⟨⟨⟨⟨⟨⟨⟨⟨⟨⟨⟨⟨⟨⟨⟨⟨⟨⟨⟨⟨⟨⟨⟨⟨⟨h0,h1⟩,h2⟩,h3⟩,h4⟩,h5⟩,h6⟩,h7⟩,h8⟩,h9⟩,h10⟩,h11⟩,h12⟩,h13⟩,h14⟩,h15⟩,h16⟩,h17⟩,h18⟩,h19⟩,h20⟩,h21⟩,h22⟩,h23⟩,h24⟩,h25⟩,h26⟩,h27⟩,h28⟩,h29⟩,h30⟩,h31⟩
end Go.Proofs.YtghgecpicnfgpaaGreat.Ow
