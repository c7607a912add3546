/- The small machine over trees, and that what it computes is what the calls of the loaded functions return: part 2. -/
import Derived.Test.YtghgecpicnfgpaaGreatBaseA
import Derived.Laws.Tables
import Derived.Deep.AppendSrc
namespace Go.Proofs.YtghgecpicnfgpaaGreat.Ow
open Go
set_option linter.unusedVariables false
set_option linter.unusedSimpArgs false
section
variable {P:Program} {fm:Fm} {M:List Nat} {e e':Env} {s s':St} {a:Act} {Q:Exit->Act->World->Prop}
variable {K:Nat->List Arg->Option Res} {md:Nat->List Nat}
structure Cs (fm:Fm) (e:Env) (h:Aq) (a:Act) (us:List Value):Prop where
 rel:Rel fm e h.s a
 len:h.l.length=us.length
 ok: ∀ (i:Nat) x u,h.l[i]? =some x->us[i]? =some u->AS e x u
theorem Cs.sub {h h':Aq} {us:List Value} {f:Nat->AQ->Option (Nat×AQ)} (hH:Cs fm e h a us) (hC:B0 e e' f) (hR:Rel fm e' h'.s a) (hl:h'.l=CL f h.l):Cs fm e' h' a us:=by
 refine⟨hR,by rw[hl,Bf,List.length_map];exact hH.len,λi x u hx hu=> ?_⟩;rw[hl,Bf,List.getElem?_map]at hx
 cases hy:h.l[i]? with
 |none=>simp[hy]at hx
 |some y=>simp[hy]at hx;subst hx;exact(hH.ok i y u hy hu).sub hC
theorem VE (hR:Rel fm e s a) {n k:Nat} {ad:Option Addr} (h0:AN s.ob n= .none) (hm:s.m<=n):
  ∃e',e'.w=e.w/\e'.Im=e.Im/\Rel fm e' (s.putO n (.arr k [])) a/\(B0 e e' λo p=>some (o,p))/\AS e' (.ref n []) (.slice ad 0 0)/\ ∀l b,e'.blk l=some b->e.blk l=some b:=by
 have hen:e.ob n= .none:=by rw[hR.ob];exact h0
 let e':Env:={w:=e.w,ob:=λo'=>if o'=n then .arr k []else e.ob o',hd:=λo' q=>if o'=n then .slice ad 0 0 else e.hd o' q,bk:=e.bk,Im:=e.Im,tk:=e.tk}
 have hob: ∀o',o'≠n->e'.ob o'=e.ob o':=λo' h=>by simp[e',h]
 have hhd: ∀o',o'≠n-> ∀q,e'.hd o' q=e.hd o' q:=λo' h q=>by simp[e',h]
 have ne: ∀ {o'},e.ob o'≠ .none->o'≠n:=λh1 h2=>h1 (h2 ▸ hen)
 have hnode: ∀o',o'≠n-> ∀q,e'.node o' q=e.node o' q:=λo' h q=>Eb (hob o' h) q
 have hC:B0 e e' λo p=>some (o,p):=by
  refine⟨λb hb=>⟨hb,rfl⟩,λo1 p k1 rows o' p' hn hf=> ?_,λo1 cs hb=> ?_,λo1 p k1 rows hn=>(hR.mem.node o1 p k1 rows hn).one,rfl⟩
  ·cases hf
   have hne:o1≠n:=ne (λh1=>by simp[Env.node,h1]at hn);exact⟨rows,by rw[hnode o1 hne];exact hn,rfl,hhd o1 hne p⟩
  ·have hne:o1≠n:=ne (λh1=>by rw[h1]at hb;cases hb);exact⟨cs,by rw[hob o1 hne];exact hb,rfl⟩
 have hreg:Mem fm e'/\ ∀l b,e'.blk l=some b->e.blk l=some b:=by
  refine And.imp_right (λh l b hb=> ?_) (ND (e':=e') hR.mem rfl rfl (λo' q=>some (o',q)) id (λo' q k1 r h1=> ?_) (λo1 q1 o2 q2 x h1 h2 _ _=> ?_) (λo' cs hb=> ?_) (λo1 o2 _ _ _ _ h=>h))
  ·obtain⟨l0,g1,g2,g3⟩:=h l b hb
   cases l with
   |nd o1 q=>
    obtain⟨x,hx,rfl⟩:=g2 o1 q rfl
    cases hx
    exact g1
   |bx o1=>
    rw[g3 o1 rfl]at g1;exact g1
  ·by_cases h:o'=n
   ·subst h;have hn:e'.node o' q=AM k [] q:=by simp[Env.node,e']
    rw[hn]at h1
    cases q with
    |nil=>
     simp only[AM,Option.some.injEq,Prod.mk.injEq]at h1;obtain⟨rfl,rfl⟩:=h1;refine⟨⟨ad,0,by simp[e'],⟨Nat.le_refl _,by omega⟩,λh=>absurd h (by omega)⟩,λb hb=> ?_⟩
     cases ad<;>simp[e',BC]at hb
    |cons b q=>obtain⟨i,j⟩:=b;simp[AM,AI]at h1
   ·rw[hnode o' h]at h1;rw[hhd o' h];exact⟨(hR.mem.node _ _ _ _ h1).subs λi j=>hhd o' h _,λb hb=>⟨(o',q),rfl,AY h1 hb⟩⟩
  ·rw[<-h2]at h1;simpa using h1
  ·have hne:o'≠n:=λh=>by simp[e',h]at hb
   rw[hob o' hne]at hb;exact⟨cs,hb,rfl,λj c hc=>⟨c,hc,λu hu=>hu.carry hC⟩⟩
 refine⟨e',rfl,rfl,⟨hreg.1,λo'=> ?_,λo' k' r' h1 h2=> ?_,λo' cs h1 h2=> ?_,hR.size,hR.defers,λt=>(hR.tm t).carry hC⟩,hC,?_,hreg.2⟩
 ·rw[BE]
  by_cases h:o'=n
  ·simp[e',h]
  ·simp[e',h,hR.ob]
 ·have h1:o'<s.m:=h1
  have hne:o'≠n:=λh=>by omega
  rw[hob o' hne]at h2
  rw[hhd o' hne]
  exact hR.pinh o' k' r' h1 h2
 ·have h1:o'<s.m:=h1
  have hne:o'≠n:=λh=>by omega
  rw[hob o' hne]at h2
  exact hR.pinb o' cs h1 h2
 ·have:=AS.ref (e:=e') n [] k [] (by simp[Env.node,e',AM])
  simpa[e']using this
theorem Hq (hM:Mem fm e) {o k:Nat} {p:AQ} {rows:List (List T)} (hn:e.node o p=some (k,rows)): ∃ad c,e.hd o p= .slice ad rows.length c/\rows.length<=c:=by
 obtain⟨ad,c,hv,hle,_⟩:=hM.node o p k rows hn;exact⟨ad,c,hv,hle.1⟩
def Ds (e0 e:Env) (A N:Nat->Prop):Prop:= ∀l b,e.blk l=some b->N l.obj-> ∃l0,e0.blk l0=some b/\A l0.obj
def HZ (n:Nat) (l l':List AV):Prop:= ∀ (i:Nat) y,l'[i]? =some y-> ∃x,l[i]? =some x/\(∀o∈A1 y,o∈A1 x\/o=n)/\ ∀b j,y= .pb b j->x=y
theorem HZ.refl (n:Nat) (l:List AV):HZ n l l:=λ_ y h=>⟨y,h,λ_ ho=> .inl ho,λ_ _ _=>rfl⟩
theorem TN {o n lo hi:Nat} {p:AQ} {full:Bool} (x:AV): ∀o2∈A1 (x.sub (FN o p n lo hi full)),o2∈A1 x\/o2=n:=by
 have key: ∀o1 q o2 q2,FN o p n lo hi full o1 q=some (o2,q2)->o2=o1\/o2=n:=by
  intro o1 q o2 q2 h;unfold FN at h;split at h
  ·split at h
   ·cases h;exact .inl rfl
   ·split at h
    ·cases h;exact .inr rfl
    ·cases h
   ·split at h
    ·cases h;exact .inr rfl
    ·split at h
     ·cases h;exact .inr rfl
     ·cases h
  ·cases h;exact .inl rfl
 intro o2 h2
 cases x with
 |ref o1 q=>
  simp only[AV.sub]at h2
  cases hf:FN o p n lo hi full o1 q with
  |none=>simp[hf,A1]at h2
  |some y=>
   simp[hf,A1]at h2;subst h2;exact(key _ _ _ _ hf).imp (λh=>by simp[A1,h]) id
 |vw o1 q l1 h1=>
  simp only[AV.sub]at h2
  cases hf:FN o p n lo hi full o1 q with
  |none=>simp[hf,A1]at h2
  |some y=>
   simp[hf,A1]at h2;subst h2;exact(key _ _ _ _ hf).imp (λh=>by simp[A1,h]) id
 |pa o1 q i j=>
  simp only[AV.sub]at h2
  cases hf:FN o p n lo hi full o1 q<;>simp[hf,A1]at h2
 |_=>simp[AV.sub,A1]at h2
theorem HZ.cut {o n lo hi:Nat} {p:AQ} {full:Bool} (l:List AV):HZ n l (CL (FN o p n lo hi full) l):=by
 intro i y hy;rw[Bf,List.getElem?_map]at hy
 cases hx:l[i]? with
 |none=>simp[hx]at hy
 |some x=>
  simp[hx]at hy;subst hy;refine⟨x,rfl,TN x,λb j hb=> ?_⟩
  cases x<;>simp only[AV.sub]at hb ⊢ <;>first|cases hb|(split at hb<;>cases hb)
def QU (n:Nat) (s s':St):Prop:= ∀b cs',AN s'.ob b= .box cs'-> ∃cs,AN s.ob b= .box cs/\HZ n cs cs'
theorem QM {h h':Aq} {n o lo hi:Nat} {p:AQ} {full:Bool} (hc:h.cut n o p lo hi full=some h'):QU n h.s h'.s:=by
 intro b cs' hb;unfold Aq.cut at hc;split at hc
 case h_2=>cases hc
 split at hc
 case h_2=>cases hc
 rename_i k0 rows0 ho;split at hc
 case h_2=>cases hc
 split at hc
 case isFalse=>cases hc
 have fin: ∀ {s1:St},(∀cs,AN s1.ob b= .box cs->AN h.s.ob b= .box cs)->AN (s1.sub (FN o p n lo hi full)).ob b= .box cs'-> ∃cs,AN h.s.ob b= .box cs/\HZ n cs cs':=by
  intro s1 h1 h2;rw[DE]at h2;obtain⟨cs0,g1,g2⟩:=Obj.sub_box.1 h2;exact⟨cs0,h1 cs0 g1,by rw[g2];exact HZ.cut cs0⟩
 split at hc
 ·simp only[Option.some.injEq]at hc;subst hc;refine fin (λcs hcs=> ?_) hb;rw[BE]at hcs;split at hcs
  ·cases hcs
  ·rw[St.gone,DF]at hcs;split at hcs
   ·cases hcs
   ·exact hcs
 ·split at hc
  case h_2=>cases hc
  simp only[Option.some.injEq]at hc;subst hc;refine fin (λcs hcs=> ?_) hb;rw[BE,BE]at hcs;split at hcs
  ·cases hcs
  ·split at hcs
   ·cases hcs
   ·exact hcs
def Pc (e e':Env):Prop:= ∀o cs,e.ob o= .box cs-> ∃cs',e'.ob o= .box cs'/\e'.bk o=e.bk o
theorem Pc.refl (e:Env):Pc e e:=λ_ cs h=>⟨cs,h,rfl⟩
theorem Lb {h h':Aq} {us:List Value} (hH:Cs fm e h a us) {i n:Nat} (hr:h.root i n=some h'):
  ∃e',e'.w=e.w/\e'.Im=e.Im/\Cs fm e' h' a us/\h'.s.n=h.s.n/\h'.s.m=h.s.m/\HZ n h.l h'.l/\QU n h.s h'.s/\Pc e e'/\
   ∀ {e0:Env} {A N:Nat->Prop},Ds e0 e A N->(∀x,h.l[i]? =some x-> ∀o∈A1 x,N o)->Ds e0 e' A N:=by
 have reflB:QU n h.s h.s:=λb cs hb=>⟨cs,hb,HZ.refl _ _⟩
 have hcut: ∀ {e':Env} {o:Nat} {x:AV},h.l[i]? =some x->o∈A1 x->(∀l b,e'.blk l=some b-> ∃l0,e.blk l0=some b/\l0.obj=if l.obj=n then o else l.obj)->
   ∀ {e0:Env} {A N:Nat->Prop},Ds e0 e A N->(∀x,h.l[i]? =some x-> ∀o∈A1 x,N o)->Ds e0 e' A N:=by
  intro e' o x hx ho hb e0 A N hI hN l b hl hNl
  obtain⟨l0,g1,g2⟩:=hb l b hl
  refine hI l0 b g1 ?_
  rw[g2]
  split
  ·exact hN x hx o ho
  ·exact hNl
 unfold Aq.root at hr
 split at hr
 ·cases hr;exact⟨e,rfl,rfl,hH,rfl,rfl,HZ.refl _ _,reflB,Pc.refl e,λhI _=>hI⟩
 ·rename_i k hi
  split at hr
  case h_2=>cases hr
  rename_i h0
  split at hr
  case isFalse=>cases hr
  rename_i hm
  cases hr
  have hlt:i<us.length:=by rw[<-hH.len];exact(List.getElem?_eq_some_iff.1 hi).1
  have hok:=hH.ok i _ us[i] hi (List.getElem?_eq_getElem hlt)
  generalize hui:us[i]=ui at hok
  cases hok with
  |nil k ad=>
   obtain⟨e',g1,g2,g3,g4,g5,g6⟩:=VE (k:=k) (ad:=ad) hH.rel h0 hm;refine⟨e',g1,g2,⟨g3,by simpa using hH.len,λj x u hx hu=> ?_⟩,rfl,rfl,λj y hy=> ?_,λb cs hb=> ?_,g4.box,λhI _ l b hl hN=>hI l b (g6 l b hl) hN⟩
   ·simp only[List.getElem?_set]at hx;by_cases hij:i=j
    ·subst hij;rw[if_pos rfl,if_pos (by rw[hH.len];exact hlt)]at hx
     cases hx
     rw[List.getElem?_eq_getElem hlt,hui]at hu
     cases hu
     exact g5
    ·rw[if_neg hij]at hx;exact(hH.ok j x u hx hu).carry g4
   ·simp only[List.getElem?_set]at hy;by_cases hij:i=j
    ·subst hij;rw[if_pos rfl,if_pos (by rw[hH.len];exact hlt)]at hy
     cases hy
     exact⟨_,hi,λo ho=> .inr (by simpa[A1]using ho),λ_ _ h=>(by cases h)⟩
    ·rw[if_neg hij]at hy;exact⟨y,hy,λo ho=> .inl ho,λ_ _ _=>rfl⟩
   ·rw[BE]at hb;split at hb
    ·cases hb
    ·exact⟨cs,hb,HZ.refl _ _⟩
 ·rename_i o p hi
  split at hr
  ·cases hr;exact⟨e,rfl,rfl,hH,rfl,rfl,HZ.refl _ _,reflB,Pc.refl e,λhI _=>hI⟩
  ·rename_i b p
   split at hr
   case h_2=>cases hr
   rename_i k rows hn
   rw[DM hH.rel]at hn
   obtain⟨e',g1,g2,g3,g4,g5,g6,g7,g8,g9⟩:=T0 hH.rel hr hn (Gt.full (Hq hH.rel.mem hn)) (λ_=>⟨rfl,rfl,rfl⟩)
   exact⟨e',g1,g2,hH.sub g4 g3 g6,g7,g8,by rw[g6];exact HZ.cut _,QM hr,g4.box,hcut hi (by simp[A1]) g9⟩
 ·rename_i o p lo hi' hi
  split at hr
  case h_2=>cases hr
  rename_i h1 hc
  cases hr
  have hlt:i<us.length:=by rw[<-hH.len];exact(List.getElem?_eq_some_iff.1 hi).1
  have hok:=hH.ok i _ us[i] hi (List.getElem?_eq_getElem hlt)
  generalize hui:us[i]=ui at hok
  cases hok with
  |vw o p lo hi' k rows v hn g1 g2 hw=>
   obtain⟨e',y1,y2,y3,y4,y5,y6,y7,y8,y9⟩:=T0 hH.rel hc hn hw (λh=>by cases h);have hH':=hH.sub (h':=h1) y4 y3 y6;refine⟨e',y1,y2,⟨y3,by simpa using hH'.len,λj x u hx hu=> ?_⟩,y7,y8,λj y hy=> ?_,(QM hc:QU n h.s h1.s),y4.box,hcut hi (by simp[A1]) y9⟩
   ·simp only[List.getElem?_set]at hx;by_cases hij:i=j
    ·subst hij;rw[if_pos rfl,if_pos (by rw[hH'.len];exact hlt)]at hx
     cases hx
     rw[List.getElem?_eq_getElem hlt,hui]at hu
     cases hu
     exact y5
    ·rw[if_neg hij]at hx;exact hH'.ok j x u hx hu
   ·simp only[List.getElem?_set]at hy;by_cases hij:i=j
    ·subst hij;rw[if_pos rfl,if_pos (by rw[hH'.len];exact hlt)]at hy
     cases hy
     exact⟨_,hi,λo ho=> .inr (by simpa[A1]using ho),λ_ _ h=>(by cases h)⟩
    ·rw[if_neg hij,y6]at hy;exact HZ.cut _ j y hy
 ·cases hr
theorem Qf {h h':Aq} {us:List Value} (hH:Cs fm e h a us) {i n:Nat} (hr:h.root i n=some h'):
  ∃e',e'.w=e.w/\e'.Im=e.Im/\Cs fm e' h' a us/\h'.s.n=h.s.n/\h'.s.m=h.s.m:=by
 obtain⟨e',g1,g2,g3,g4,g5,_⟩:=Lb hH hr
 exact⟨e',g1,g2,g3,g4,g5⟩
theorem Ng {us:List Value}: ∀ {m:Nat} {e:Env} {h h':Aq} {base i:Nat},Cs fm e h a us->h.roots base i m=some h'->
  ∃e',e'.w=e.w/\e'.Im=e.Im/\Cs fm e' h' a us/\h'.s.n=h.s.n/\h'.s.m=h.s.m
 |0,e,h,h',base,i,hH,hr=>by simp only[Aq.roots,Option.some.injEq]at hr;subst hr;exact⟨e,rfl,rfl,hH,rfl,rfl⟩
 |m+1,e,h,h',base,i,hH,hr=>by
  simp only[Aq.roots]at hr;split at hr
  ·rename_i h1 h2;obtain⟨e1,g1,g2,g3,g4,g5⟩:=Qf hH h2;obtain⟨e2,y1,y2,y3,y4,y5⟩:=Ng g3 hr;exact⟨e2,y1.trans g1,y2.trans g2,y3,y4.trans g4,y5.trans g5⟩
  ·cases hr
def PC (x:AV):Prop:=(∃v,x= .sc v)\/ ∃o,x= .ref o []
theorem PC.sub {x:AV} (h:PC x) {f:Nat->AQ->Option (Nat×AQ)} (hf: ∀o,f o []=some (o,[])):x.sub f=x:=by
 rcases h with ⟨v,rfl⟩|⟨o,rfl⟩
 ·rfl
 ·simp[AV.sub,hf]
theorem Xi {o n lo hi:Nat} {p:AQ} {b:Nat×Nat} {full:Bool} (o2:Nat):FN o (p++[b]) n lo hi full o2 []=some (o2,[]):=by
 unfold FN;split
 ·cases p<;>simp[pre]
 ·rfl
theorem Vn {o n lo hi:Nat} {p:AQ} {b:Nat×Nat} {full:Bool}:FN o (p++[b]) n lo hi full o p=some (o,p):=by
 simp[FN,I9]
theorem Gm {us:List Value} {o i:Nat} {p:AQ}: ∀ {m j:Nat} {e:Env} {h h':Aq} {base:Nat},Cs fm e h a us->h.detach base o p i j m=some h'-> ∀ {k:Nat} {rows:List (List T)},e.node o p=some (k,rows)->
  ∃e',e'.w=e.w/\e'.Im=e.Im/\Cs fm e' h' a us/\h'.s.n=h.s.n/\h'.s.m=h.s.m/\(∀x u,PC x->AS e x u->AS e' x u)/\
   (∃rows',e'.node o p=some (k,rows')/\rows'.length=rows.length)/\e'.hd o p=e.hd o p
 |0,j,e,h,h',base,hH,hr,k,rows,hn=>by
  simp only[Aq.detach,Option.some.injEq]at hr;subst hr;exact⟨e,rfl,rfl,hH,rfl,rfl,λ_ _ _ h=>h,⟨rows,hn,rfl⟩,rfl⟩
 |m+1,j,e,h,h',base,hH,hr,k,rows,hn=>by
  simp only[Aq.detach]at hr;split at hr
  ·rename_i k1 r1 h1;split at hr
   case h_2=>cases hr
   rename_i h2 hc;rw[DM hH.rel]at h1;obtain⟨e1,g1,g2,g3,g4,g5,g6,g7,g8,_⟩:=T0 hH.rel hc h1 (Gt.full (Hq hH.rel.mem h1)) (λ_=>⟨rfl,rfl,rfl⟩);obtain⟨rows1,y1,y2,y3⟩:=g4.node o p k rows o p hn Vn;obtain⟨e2,z1,z2,z3,z4,z5,z6,⟨rows2,z7,z8⟩,z9⟩:=Gm (hH.sub g4 g3 g6) hr y1;refine⟨e2,z1.trans g1,z2.trans g2,z3,z4.trans g7,z5.trans g8,λx u hx hu=>z6 x u hx ?_,⟨rows2,z7,z8.trans y2⟩,z9.trans y3⟩;have:=hu.sub g4;rwa [hx.sub Xi]at this
  ·exact Gm hH hr hn
theorem T6 {o1 o:Nat} {p:AQ} {o2:Nat} (h:o2≠o1):GL o1 o p o2 []=some (o2,[]):=by simp[GL,h]
theorem I0 {o i k b off n c:Nat} {p:AQ}: ∀ {l:List AV} {us:List Value} {j:Nat} {e:Env} {s s':St},Rel fm e s a->s.adopts o p i j l=some s'-> ∀ {rows:List (List T)},e.node o p=some (k,rows)->
  e.hd o p= .slice (some ⟨b,off,none⟩) n c->0<c->l.length=us.length->(∀ (m:Nat) x u,l[m]? =some x->us[m]? =some u->AS e x u)->
  (∀ (m:Nat) u,us[m]? =some u->e.w.cell? ⟨b,off+(i*k+(j+m)),none⟩=some u)->
  ∃e',e'.w=e.w/\e'.Im=e.Im/\Rel fm e' s' a/\s'.n=s.n/\s'.m=s.m/\(∀o2,o2≠o->(∀x∈l,x≠ .ref o2 [])-> ∀q,e'.node o2 q=e.node o2 q/\e'.hd o2 q=e.hd o2 q)/\
   (∃rows',e'.node o p=some (k,rows')/\rows'.length=rows.length)/\e'.hd o p=e.hd o p
 |[],us,j,e,s,s',hR,h,rows,hn,hh,hc,hl,hv,hcell=>by
  simp only[St.adopts,Option.some.injEq]at h;subst h;exact⟨e,rfl,rfl,hR,rfl,rfl,λ_ _ _ _=>⟨rfl,rfl⟩,⟨rows,hn,rfl⟩,rfl⟩
 |x::l,[],j,e,s,s',hR,h,rows,hn,hh,hc,hl,hv,hcell=>by simp at hl
 |x::l,u::us,j,e,s,s',hR,h,rows,hn,hh,hc,hl,hv,hcell=>by
  have hx0:=hv 0 x u rfl rfl;have htail: ∀ (m:Nat) x' u',l[m]? =some x'->us[m]? =some u'->AS e x' u':=λm x' u' h1 h2=>hv (m+1) x' u' h1 h2
  have hctail: ∀ (m:Nat) u',us[m]? =some u'->e.w.cell? ⟨b,off+(i*k+(j+1+m)),none⟩=some u':=λm u' h1=>by
   have:=hcell (m+1) u' h1;rwa [show j+(m+1)=j+1+m by omega]at this
  cases x with
  |sc v=>
   simp only[St.adopts]at h;obtain⟨e',g1,g2,g3,g4,g5,g6,g7,g8⟩:=I0 hR h hn hh hc (by simpa using hl) htail hctail;exact⟨e',g1,g2,g3,g4,g5,λo2 h1 h2=>g6 o2 h1 (λx hx=>h2 x (List.mem_cons_of_mem _ hx)),g7,g8⟩
  |ref o1 q1=>
   cases q1 with
   |cons _ _=>simp[St.adopts]at h
   |nil=>
    simp only[St.adopts]at h;split at h
    case h_2=>cases h
    rename_i s1 hs1;have hu:u=e.hd o1 []:=by cases hx0;rfl
    obtain⟨e1,g1,g2,g3,g4,g5,g6,g7,g8,g9,⟨rows1,g10,g11⟩⟩:=Ss hR hs1 hn hh hc (by have:=hcell 0 u rfl;rw[Nat.add_zero]at this;rw[<-hu];exact this);have hs1n:s1.n=s.n/\s1.m=s.m:=by
     unfold St.adopt at hs1
     repeat (split at hs1<;>try cases hs1)
     all_goals first|exact⟨rfl,rfl⟩|skip
    have hkeep: ∀ (m:Nat) x' u',l[m]? =some x'->us[m]? =some u'->AS e1 x' u'\/x'= .ref o1 []\/(∃o2 b q,x'= .ref o2 (b::q))\/((∀v,x'≠ .sc v)/\ ∀o2 q,x'≠ .ref o2 q):=by
     intro m x' u' h1 h2;have:=(htail m x' u' h1 h2)
     cases x' with
     |sc v=>exact .inl (by have:=this.sub g4;exact this)
     |ref o2 q=>
      cases q with
      |cons b q=>exact .inr (.inr (.inl ⟨o2,b,q,rfl⟩))
      |nil=>
       by_cases h3:o2=o1
       ·subst h3;exact .inr (.inl rfl)
       ·have h4:=this.sub g4;simp only[AV.sub,T6 h3]at h4;exact .inl h4
     |_=>exact .inr (.inr (.inr ⟨λv h=>(by cases h),λo2 q h=>(by cases h)⟩))
    have hfail: ∀ (l:List AV) (j:Nat) (s1 s':St),s1.adopts o p i j l=some s'->AN s1.ob o1= .none-> ∀x'∈l,(x'≠ .ref o1 []/\(∀o2 b q,x'≠ .ref o2 (b::q))/\((∃v,x'= .sc v)\/ ∃o2,x'= .ref o2 [])):=by
     intro l
     induction l with
     |nil=>intro j s1 s' _ _ x' hx';cases hx'
     |cons y l ih=>
      intro j s1 s' h h0 x' hx'
      cases y with
      |sc v=>
       simp only[St.adopts]at h;rcases List.mem_cons.1 hx' with rfl|h1
       ·exact⟨by simp,by simp,.inl ⟨v,rfl⟩⟩
       ·exact ih _ _ _ h h0 x' h1
      |ref o2 q=>
       cases q with
       |cons _ _=>simp[St.adopts]at h
       |nil=>
        simp only[St.adopts]at h;split at h
        case h_2=>cases h
        rename_i s2 hs2;have hne:o2≠o1:=by
         intro h1;subst h1;unfold St.adopt at hs2;split at hs2
         ·cases hs2
         ·rw[h0]at hs2;simp at hs2
        have h0':AN s2.ob o1= .none:=by
         unfold St.adopt at hs2;split at hs2
         ·cases hs2
         ·split at hs2
          ·rename_i k1 rows1 k0 rows0 e1 e2;split at hs2
           ·split at hs2
            ·split at hs2
             ·cases hs2
              have hoo:o1≠o:=λh1=>by rw[<-h1,h0]at e2;cases e2
              rw[DE];simp only[St.gone,DF,BE,if_neg hoo,h0];split<;>rfl
             ·cases hs2
            ·cases hs2
           ·cases hs2
          ·cases hs2
        rcases List.mem_cons.1 hx' with rfl|h1
        ·exact⟨by simpa using hne,by simp,.inr ⟨o2,rfl⟩⟩
        ·exact ih _ _ _ h h0' x' h1
      |_=>simp[St.adopts]at h
    have hgone:AN s1.ob o1= .none:=by rw[<-g3.ob o1];exact g8
    have hx':=hfail l (j+1) s1 s' h hgone;obtain⟨e2,y1,y2,y3,y4,y5,y6,⟨rows2,y7,y8⟩,y9⟩:=I0 g3 h g10 (g6.trans hh) hc (by simpa using hl) (λm x' u' h1 h2=>by
     have hm:=hx' x' (List.mem_of_getElem? h1);rcases hkeep m x' u' h1 h2 with h3|h3|⟨o2,b,q,h3⟩|⟨h3,h4⟩
     ·exact h3
     ·exact absurd h3 hm.1
     ·exact absurd h3 (hm.2.1 o2 b q)
     ·rcases hm.2.2 with ⟨v,h5⟩|⟨o2,h5⟩
      ·exact absurd h5 (h3 v)
      ·exact absurd h5 (h4 o2 [])) (λm u' h1=>by rw[g1];exact hctail m u' h1)
    refine⟨e2,y1.trans g1,y2.trans g2,y3,y4.trans hs1n.1,y5.trans hs1n.2,λo2 h1 h2 q=> ?_,⟨rows2,y7,y8.trans g11⟩,y9.trans g6⟩;have h3:=y6 o2 h1 (λx hx=>h2 x (List.mem_cons_of_mem _ hx)) q;have h4:o2≠o1:=λh=>h2 _ List.mem_cons_self (by rw[h])
    exact⟨h3.1.trans (g9 o2 h1 h4 q),h3.2.trans (congrFun (g5 o2 h1) q)⟩
  |_=>simp[St.adopts]at h
end
section
variable {P:Program} {fm:Fm} {M:List Nat} {e e':Env} {s s':St} {a:Act} {Q:Exit->Act->World->Prop}
variable {K:Nat->List Arg->Option Res} {md:Nat->List Nat}
theorem skip_ok {w':World} (he:e'.w=w') (hR:Rel fm e' s a) (hE:Evo e e' M) {o:Oper} {w:World} (hrun:(execOp a.eval o).run P w= .ok .skip w')
  (h:s.put o.dst .und=some s'):o.wp P a w (Reach fm e M s') Q:=by
 unfold Oper.wp
 rw[hrun,Oper.upon_skip]
 exact⟨e',he,hR.put .und h,hE⟩
theorem Uz {t:TypeId} {v:Value} {us:List Value} {b off:Nat} {w:World} (hc:v.cells=us.toArray) (hs:Bk P t=some us.length)
  (hw: ∀j,j<us.length->Wr w b (off+j)) (h1: ∀u∈us,u.oneCell'=true):
  ∃w',(Instr.storeAt t (.pointer (some ⟨b,off,none⟩)) v).run P w= .ok () w'/\BK w w' b off us:=by
 obtain⟨w',g1,g2⟩:=C8 (P:=P) us w b off 0 (λj hj=>by rw[Nat.add_zero];exact hw j hj) h1
 refine⟨w',?_,by rw[Nat.add_zero]at g2;exact g2⟩
 simp[Instr.storeAt,Instr.sureAddr,storeVar,C7 hs,hc,g1]
theorem QF {w':World} {b off:Nat} {us:List Value} (hst:BK e.w w' b off us) (hw:e'.w=w') {l:Pl} (hb:e.blk l=some b) (hl:l.obj∈M):Evo e e' M:=
 ⟨by rw[hw,hst.size];exact Nat.le_refl _,λx _ hx=>by rw[hw];exact hst.other x λh=>hx l (h ▸ hb) hl⟩
theorem S4 (hR:Rel fm e s a) {base o i j:Nat} {p:AQ} {vs:List AV} {us:List Value} {pv:Value} (hx:AS e (.pa o p i j) pv) (hl:vs.length=us.length) (h1:vs.all oneCell=true)
  (hv: ∀ (m:Nat) x u,vs[m]? =some x->us[m]? =some u->AS e x u) (hpos:0<vs.length) (h:NB s base o p i j vs=some s'):
  ∃b off,pv= .pointer (some ⟨b,off,none⟩)/\(∀m,m<us.length->Wr e.w b (off+m))/\
   ∀w',BK e.w w' b off us-> ∃e',e'.w=w'/\Rel fm e' s' a/\ ∀M,o∈M->Evo e e' M:=by
 cases hx with
 |pa o p i j k b off n c rows hn hh hc=>
 have hwr: ∀ {e1:Env} {s1 s2:St} {o1 i1 j1:Nat} {p1:AQ} {vs1:List AV} {k1 off1 n1 c1:Nat} {rows1:List (List T)},Rel fm e1 s1 a->e1.node o1 p1=some (k1,rows1)->e1.hd o1 p1= .slice (some ⟨b,off1,none⟩) n1 c1->0<c1->
   s1.write o1 p1 i1 j1 vs1=some s2-> ∀m,m<vs1.length->Wr e1.w b (off1+(i1*k1+j1)+m):=by
  intro e1 s1 s2 o1 i1 j1 p1 vs1 k1 off1 n1 c1 rows1 hR1 hn1 hh1 hc1 hs m hm
  obtain⟨k0,rows0,h0,hn0⟩:=FY hn1
  unfold St.write at hs
  rw[<-hR1.ob o1,h0]at hs
  simp only[hn0]at hs
  split at hs
  case h_2=>cases hs
  rename_i r hr
  split at hs
  case isFalse=>cases hs
  rename_i hle
  obtain⟨ad,c2,hv2,hle2,hx2⟩:=hR1.mem.node o1 p1 k1 rows1 hn1
  rw[hh1]at hv2
  cases hv2
  obtain⟨b2,off2,hb2,y1,y2,_⟩:=hx2 hc1
  cases hb2
  have hi:i1<rows1.length:=(List.getElem?_eq_some_iff.1 hr).1
  have hrk:r.length=k1:=y2 r (List.mem_of_getElem? hr)
  rw[show off1+(i1*k1+j1)+m=off1+(i1*k1+(j1+m))by omega]
  exact y1 _ (Cl (Nat.lt_of_lt_of_le hi hle2.1) (by omega))
 have hblk:e.blk (.nd o p)=some b:=AY hn (by rw[hh];simp[BC,hc])
 unfold NB at h
 split at h
 ·rename_i hsc
  split at h
  case h_2=>cases h
  rename_i h1' hd
  obtain⟨e1,g1,g2,g3,g4,g5,g6,⟨rows1,g7,g8⟩,g9⟩:=Gm (us:=[]) (e:=e) (h:={s,l:=[]}) ⟨hR,rfl,λi x u h=>by simp at h⟩ hd hn
  have hh1:=g9.trans hh
  have hsv: ∀ (m:Nat) x u,vs[m]? =some x->us[m]? =some u->AS e1 x u:=by
   intro m x u hx hu;refine g6 x u ?_ (hv m x u hx hu);have: ∀ (l:List AV),CH l=true-> ∀x∈l,∃v,x= .sc v:=by
    intro l
    induction l with
    |nil=>intro _ x hx;cases hx
    |cons y l ih=>
     intro hl x hx
     cases y with
     |sc v=>
      rcases List.mem_cons.1 hx with rfl|h2
      ·exact⟨v,rfl⟩
      ·exact ih (by simpa[CH]using hl) x h2
     |_=>simp[CH]at hl
   exact .inl (this vs hsc x (List.mem_of_getElem? hx))
  refine⟨b,_,rfl,λm hm=>by rw[<-g1];exact hwr g3.rel g7 hh1 hc h m (by omega),λw' hst=> ?_⟩
  obtain⟨e2,y1,y2,y3,y4,y5⟩:=Rf g3.rel g7 hh1 hc hl h1 hsv h (by rw[g1];exact hst)
  exact⟨e2,y1,y3,λM hM=>QF hst y1 hblk hM⟩
 ·split at h
  case h_2=>cases h
  rename_i h1' hroots
  split at h
  case h_2=>cases h
  rename_i l1 o' p' i' j' vs' hl1
  split at h
  case h_2=>cases h
  rename_i h2' hdet
  split at h
  case h_2=>cases h
  rename_i s3 hwrite
  have hH0:Cs fm e {s,l:= .pa o p i j::vs} a (.pointer (some ⟨b,off+(i*k+j),none⟩)::us):=by
   refine⟨hR,by simp[hl],λm x u hx hu=> ?_⟩
   cases m with
   |zero=>simp at hx hu;subst hx;subst hu;exact .pa o p i j k b off n c rows hn hh hc
   |succ m=>simp at hx hu;exact hv m x u hx hu
  obtain⟨e1,g1,g2,g3,g4,g5⟩:=Ng hH0 hroots
  have hp1:=g3.ok 0 (.pa o' p' i' j') _ (by rw[hl1];rfl) rfl
  have hlen1:vs'.length=us.length:=by have:=g3.len;rw[hl1]at this;simpa using this
  have hv1: ∀ (m:Nat) x u,vs'[m]? =some x->us[m]? =some u->AS e1 x u:=λm x u hx hu=>g3.ok (m+1) x u (by rw[hl1];exact hx) hu
  generalize hpv:Value.pointer (some (⟨b,off+(i*k+j),none⟩:Addr))=pv at hp1
  cases hp1 with
  |pa o' p' i' j' k1 b1 off1 n1 c1 rows1 hn1 hh1 hc1=>
  simp only[Value.pointer.injEq,Option.some.injEq,Addr.mk.injEq,and_true]at hpv
  obtain⟨rfl,hoff⟩:=hpv
  obtain⟨e2,y1,y2,y3,y4,y5,y6,⟨rows2,y7,y8⟩,y9⟩:=Gm (us:=[]) (e:=e1) (h:={s:=h1'.s,l:=[]}) ⟨g3.rel,rfl,λi x u h=>by simp at h⟩ hdet hn1
  have hh2:=y9.trans hh1
  have hroot: ∀ (l:List AV) (j:Nat) (s1 s2:St),s1.adopts o' p' i' j l=some s2-> ∀x∈l,PC x:=by
   intro l
   induction l with
   |nil=>intro j s1 s2 _ x hx;cases hx
   |cons y l ih=>
    intro j s1 s2 h x hx
    cases y with
    |sc v=>
     simp only[St.adopts]at h;rcases List.mem_cons.1 hx with rfl|h2
     ·exact .inl ⟨v,rfl⟩
     ·exact ih _ _ _ h x h2
    |ref o2 q=>
     cases q with
     |cons _ _=>simp[St.adopts]at h
     |nil=>
      simp only[St.adopts]at h;split at h
      ·rcases List.mem_cons.1 hx with rfl|h2
       ·exact .inr ⟨o2,rfl⟩
       ·exact ih _ _ _ h x h2
      ·cases h
    |_=>simp[St.adopts]at h
  have hrt:=hroot vs' j' s3 s' h
  have hv2: ∀ (m:Nat) x u,vs'[m]? =some x->us[m]? =some u->AS e2 x u:=λm x u hx hu=>y6 x u (hrt x (List.mem_of_getElem? hx)) (hv1 m x u hx hu)
  have h1'':vs'.all oneCell=true:=List.all_eq_true.2 λx hx=>by
   rcases hrt x hx with ⟨v,rfl⟩|⟨o2,rfl⟩<;>rfl
  have hww:e2.w=e.w:=y1.trans g1
  refine⟨b,_,rfl,λm hm=> ?_,λw' hst=> ?_⟩
  ·have:=hwr y3.rel y7 hh2 hc1 hwrite m (by omega)
   rw[hww]at this
   exact this
  ·have hst2:BK e2.w w' b (off1+(i'*k1+j')) us:=by rw[hww];exact hst
   obtain⟨e3,z1,z2,z3,z4,z5⟩:=Rf y3.rel y7 hh2 hc1 hlen1 h1'' hv2 hwrite hst2
   obtain⟨rows3,z6,z7,z8⟩:=z4.node o' p' k1 rows2 o' p' y7 rfl
   have hcells: ∀ (m:Nat) u,us[m]? =some u->e3.w.cell? ⟨b,off1+(i'*k1+(j'+m)),none⟩=some u:=by
    intro m u hu;have hm:m<us.length:=(List.getElem?_eq_some_iff.1 hu).1;have:=hst2.new hu (hwr y3.rel y7 hh2 hc1 hwrite m (by omega));rw[z1,<-this];congr 2;omega
   obtain⟨e4,q1,q2,q3,q4,q5,_⟩:=I0 z3 h z6 (z8.trans hh2) hc1 hlen1 (λm x u hx hu=>(hv2 m x u hx hu).carry z4) hcells
   exact⟨e4,q1.trans z1,q3,λM hM=>QF hst (q1.trans z1) hblk hM⟩
theorem S3 (hR:Rel fm e s a) {base:Nat} {x:AV} {vs:List AV} {us:List Value} {pv:Value} (hx:AS e x pv) (hl:vs.length=us.length) (h1:vs.all oneCell=true)
  (hv: ∀ (m:Nat) x u,vs[m]? =some x->us[m]? =some u->AS e x u) (hpos:0<vs.length) (h:IZ s base x vs=some s'):
  ∃b off,pv= .pointer (some ⟨b,off,none⟩)/\(∀m,m<us.length->Wr e.w b (off+m))/\
   ∀w',BK e.w w' b off us-> ∃e',e'.w=w'/\Rel fm e' s' a/\ ∀M,(∀y∈tgt x,y∈M)->Evo e e' M:=by
 unfold IZ at h
 split at h
 ·rename_i o j
  split at h
  case h_2=>cases h
  rename_i cs hcs
  split at h
  case isFalse=>cases h
  rename_i hle
  cases h
  cases hx with
  |pb o j cs' hb=>
  have hb0:e.ob o= .box cs:=by rw[hR.ob];exact hcs
  refine⟨_,_,rfl,λm hm=> ?_,λw' hst=> ?_⟩
  ·obtain⟨c,hc⟩:=AF (l:=cs) (i:=j+m) (by omega)
   exact(hR.mem.box o cs hb0 (j+m) c hc).1
  ·obtain⟨e',g1,g2,g3⟩:=U0 hR hb0 hle hl hv hst
   exact⟨e',g1,g2,λM hM=>g3 M (hM o (by simp[tgt]))⟩
 ·rename_i o p i j
  obtain⟨b,off,g1,g2,g3⟩:=S4 hR hx hl h1 hv hpos h
  refine⟨b,off,g1,g2,λw' hst=> ?_⟩
  obtain⟨e',y1,y2,y3⟩:=g3 w' hst
  exact⟨e',y1,y2,λM hM=>y3 M (hM o (by simp[tgt]))⟩
 ·cases h
theorem Rw (hR:Rel fm e s a) {o:Oper} {t:TypeId} {n:Option Nat} {x v:Operand} {X V:Ow.X} {base:Nat} (ho:o.op= .store t x v) (ht:nOf P t=some n)
  (hs1:n=none->Bk P t=some 1) {tx tv:TypeId} (hx:xOf P tx x=some X) (hV:xOf P tv v=some V) (hM: ∀y∈tgt (ev s.tm X),y∈M)
  (h:Ad K md s o.dst (.store base n X V)=some s'):o.wp P a e.w (Reach fm e M s') Q:=by
 simp only[Ad]at h
 split at h
 case h_2=>cases h
 rename_i s1 hst
 have h1:=At hR hx
 have h2:=At hR hV
 unfold S5 at hst
 have fin: ∀ {vs:List AV} {us:List Value},(a.eval v).cells=us.toArray->Bk P t=some us.length->vs.length=us.length->vs.all oneCell=true->0<vs.length->
   (∀ (m:Nat) x u,vs[m]? =some x->us[m]? =some u->AS e x u)->IZ s base (ev s.tm X) vs=some s1->o.wp P a e.w (Reach fm e M s') Q:=by
  intro vs us hc hsz hl hone hpos hv hto
  obtain⟨b,off,g1,g2,g3⟩:=S3 hR h1 hl hone hv hpos hto
  obtain⟨w',y1,y2⟩:=Uz (P:=P) hc hsz g2 (by
   intro u hu;obtain⟨i,hi⟩:=List.mem_iff_getElem?.1 hu;obtain⟨z,hz⟩:=AF (l:=vs) (i:=i) (by rw[hl];exact(List.getElem?_eq_some_iff.1 hi).1);exact(FS hR.mem (hv i z u hz hi) (List.all_eq_true.1 hone z (List.mem_of_getElem? hz))).2)
  obtain⟨e',z1,z2,z3⟩:=g3 w' y2
  refine skip_ok z1 z2 (z3 M hM) ?_ h
  simp[execOp,ho,g1,y1]
 cases n with
 |none=>
  simp only at hst;split at hst
  case isFalse=>cases hst
  rename_i hone;refine fin (vs:=[ev s.tm V]) (us:=[a.eval v]) (FS hR.mem h2 hone).1 (hs1 rfl) rfl (by simp[hone]) (by simp) (λm x u hx hu=> ?_) hst
  cases m with
  |zero=>simp at hx hu;subst hx;subst hu;exact h2
  |succ m=>simp at hx
 |some n=>
  simp only at hst;split at hst
  case h_2=>cases hst
  rename_i l hl;split at hst
  case isFalse=>cases hst
  rename_i hh;obtain⟨hh1,hm0,hh2⟩:=hh;rw[hl]at h2;generalize hev:a.eval v=av at h2
  cases h2 with
  |agg l vs hlen hok=>
  refine fin (vs:=l) (us:=vs) (by rw[hev];rfl) ?_ hlen hh2 (by omega) hok hst;unfold nOf at ht;have:Bk P t=some n:=by
   cases hu:P.underlying t with
   |none=>simp[hu]at ht
   |some d=>cases d<;>simp[hu]at ht<;>exact ht
  rw[this,<-hlen,hh1]
end
section
variable {P:Program} {fm:Fm} {M:List Nat} {e e':Env} {s s':St} {a:Act} {Q:Exit->Act->World->Prop}
variable {K:Nat->List Arg->Option Res} {md:Nat->List Nat}
theorem op_fld (hR:Rel fm e s a) {o:Oper} {t:TypeId} {f:Nat} {n:Option Nat} {x:Operand} {X:X} {fs:Array Field} {fd:Field} (ho:o.op= .field t x f)
  (ht:P.underlying t=some (.struct fs)) (hf:fs.toList[f]? =some fd) (hn:nOf P fd.type=some n) {tx:TypeId} (hx:xOf P tx x=some X)
  (h:Ad K md s o.dst (.fld fd.offset n X)=some s'):Yl P e s o a s':=by
 have h1:=At hR hx
 have hf':fs[f]? =some fd:=by simpa using hf
 simp only[Ad]at h
 split at h
 case h_2=>cases h
 rename_i l hl
 rw[hl]at h1
 generalize hev:a.eval x=av at h1
 cases h1 with
 |agg l vs hlen hok=>
 cases n with
 |none=>
  simp only at h;split at h
  case h_2=>cases h
  rename_i v hv;obtain⟨u,hu⟩:=AF (l:=vs) (i:=fd.offset) (by rw[<-hlen];exact(List.getElem?_eq_some_iff.1 hv).1);refine yl (v:=u) (λw=> ?_) (hok _ v u hv hu) h;simp[execOp,ho,Instr.field,AR ht,hf',hev,asAgg,part,R7 hn,hu]
 |some m=>
  simp only at h;split at h
  case h_2=>cases h
  rename_i l' hc;obtain⟨c1,c2,c3⟩:=HJ hc;refine yl (v:= .agg ((vs.drop fd.offset).take m).toArray) (λw=> ?_) (.agg l' _ (by simp;omega) λi x u hx hu=> ?_) h
  ·have:=R6 hn w;simp[execOp,ho,Instr.field,AR ht,hf',hev,asAgg,part,this.1,this.2]
  ·have hi:i<m:=by rw[<-c2];exact(List.getElem?_eq_some_iff.1 hx).1
   rw[c3 i hi]at hx;rw[List.getElem?_take,if_pos hi,List.getElem?_drop]at hu;exact hok _ x u hx hu
theorem op_cap0 (hR:Rel fm e s a) {o:Oper} {t el:TypeId} {x:Operand} {X:X} (ho:o.op= .call {callee:= .builtin .cap,args:= #[x],argTypes:= #[t]})
  (ht:P.underlying t=some (.slice el)) {tx:TypeId} (hx:xOf P tx x=some X) (h:Ad K md s o.dst (.cap0 X)=some s'):
  Yl P e s o a s':=by
 have h1:=At hR hx
 simp only[Ad]at h
 split at h
 case h_2=>cases h
 rename_i k hk
 rw[hk]at h1
 generalize hev:a.eval x=av at h1
 cases h1 with
 |nil k ad=>
 refine yl (v:= .int .i64 0) (λw=> ?_) (.sc _ rfl) h
 simp[execOp,ho,hev,resolve,invoke,builtin,Builtin.cap_,AR ht,goInt]
structure LOk (e:Env) (l:List AV) (cs:Array Value):Prop where
 len:l.length=cs.size
 ok: ∀ (i:Nat) x u,l[i]? =some x->cs[i]? =some u->AS e x u
theorem Ed: ∀ (vs:List Value) (n off:Nat) (cs:Array Value) (i:Nat),n+off+vs.length<=cs.size->
  ((vs.zipIdx n).foldl (λcs (x:Value×Nat)=>cs.setIfInBounds (off+x.2) x.1) cs)[i]? =if off+n<=i/\i<off+n+vs.length then vs[i - (off+n)]? else cs[i]?
 |[],n,off,cs,i,_=>by
  simp only[List.zipIdx_nil,List.foldl_nil,List.length_nil,Nat.add_zero];rw[if_neg (by omega)]
 |v::vs,n,off,cs,i,h=>by
  simp only[List.length_cons]at h;rw[List.zipIdx_cons,List.foldl_cons,Ed vs (n+1) off _ i (by simp;omega)];simp only[Array.getElem?_setIfInBounds,List.length_cons];by_cases c1:off+(n+1)<=i/\i<off+(n+1)+vs.length
  ·rw[if_pos c1,if_pos (show off+n<=i/\i<off+n+(vs.length+1)by omega),show i - (off+n)=(i - (off+(n+1)))+1 by omega,List.getElem?_cons_succ]
  ·rw[if_neg c1];by_cases c2:off+n=i
   ·rw[if_pos c2,if_pos (show off+n<cs.size by omega),if_pos (show off+n<=i/\i<off+n+(vs.length+1)by omega),show i - (off+n)=0 by omega];rfl
   ·rw[if_neg c2,if_neg (show ¬ (off+n<=i/\i<off+n+(vs.length+1))by omega)]
theorem EN: ∀ (vs:List Value) (n off:Nat) (cs:Array Value),((vs.zipIdx n).foldl (λcs (x:Value×Nat)=>cs.setIfInBounds (off+x.2) x.1) cs).size=cs.size
 |[],n,off,cs=>rfl
 |v::vs,n,off,cs=>by rw[List.zipIdx_cons,List.foldl_cons,EN vs (n+1) off];simp
theorem LOk.fill {l m:List AV} {cs:Array Value} {vs:List Value} (h:LOk e l cs) {off:Nat} (hm:m.length=vs.length) (hok: ∀ (i:Nat) x u,m[i]? =some x->vs[i]? =some u->AS e x u)
  (hle:off+m.length<=l.length):LOk e (A4 l off m) (vs.toArray.zipIdx.foldl (λcs (x:Value×Nat)=>cs.setIfInBounds (off+x.2) x.1) cs):=by
 have hz:vs.toArray.zipIdx.foldl (λcs (x:Value×Nat)=>cs.setIfInBounds (off+x.2) x.1) cs=(vs.zipIdx 0).foldl (λcs (x:Value×Nat)=>cs.setIfInBounds (off+x.2) x.1) cs:=by
  rw[<-Array.foldl_toList];simp
 rw[hz]
 refine⟨by rw[EZ l off m hle,EN];exact h.len,λi x u hx hu=> ?_⟩
 rw[Ed vs 0 off cs i (by have:=h.len;omega)]at hu
 rw[Dt l off m hle]at hx
 by_cases c:off<=i/\i<off+m.length
 ·rw[if_pos c]at hx
  rw[if_pos (by omega)]at hu
  exact hok _ x u hx hu
 ·rw[if_neg c]at hx
  rw[if_neg (by omega)]at hu
  exact h.ok i x u hx hu
theorem KL {t:TypeId} {cs:List AV} (h:Bc P t=some cs): ∃i z,P.info? t=some i/\i.zero=some z/\LOk e cs z.cells:=by
 obtain⟨i,z,h1,h2,h3,h4⟩:=EW h;refine⟨i,z,h1,h2,h3,λj x u hx hu=> ?_⟩;obtain⟨t',v,g1,g2⟩:=h4 j x hx;rw[hu]at g1
 cases g1
 exact Iu g2
theorem Qy (hR:Rel fm e s a) {place:Nat->Option (Nat×Nat)}: ∀ {parts:List (Nat×Operand)} {ps:List (Nat×Nat×X)} {l l':List AV} {cs:Array Value},
  parts.length=ps.length->(∀ (j:Nat) i x off sz X,parts[j]? =some (i,x)->ps[j]? =some (off,sz,X)->place i=some (off,sz)/\AS e (ev s.tm X) (a.eval x))->
  LOk e l cs->RZ s.tm ps l=some l'-> ∃cs',Instr.fill place cs (parts.map λp=>(p.1,a.eval p.2))=some cs'/\LOk e l' cs'
 |[],[],l,l',cs,_,_,hl,h=>by simp only[RZ,Option.some.injEq]at h;subst h;exact⟨cs,rfl,hl⟩
 |[],_::_,l,l',cs,hlen,_,_,_=>by simp at hlen
 |_::_,[],l,l',cs,hlen,_,_,_=>by simp at hlen
 |(i,x)::parts,(off,sz,X)::ps,l,l',cs,hlen,hpl,hl,h=>by
  obtain⟨h1,h2⟩:=hpl 0 i x off sz X rfl rfl;have hpl': ∀ (j:Nat) i x off sz X,parts[j]? =some (i,x)->ps[j]? =some (off,sz,X)->place i=some (off,sz)/\AS e (ev s.tm X) (a.eval x):=
   λj i x off sz X g1 g2=>hpl (j+1) i x off sz X g1 g2
  have key: ∀ {m:List AV} {vs:List Value},(a.eval x).cells=vs.toArray->m.length=vs.length->m.length=sz->off+m.length<=l.length->
    (∀ (i:Nat) y u,m[i]? =some y->vs[i]? =some u->AS e y u)->RZ s.tm ps (A4 l off m)=some l'->
    ∃cs',Instr.fill place cs (((i,x)::parts).map λp=>(p.1,a.eval p.2))=some cs'/\LOk e l' cs':=by
   intro m vs g1 g2 g3 g4 g5 g6
   obtain⟨cs',y1,y2⟩:=Qy hR (by simpa using hlen) hpl' (hl.fill g2 g5 g4) g6
   refine⟨cs',?_,y2⟩
   rw[List.map_cons,Instr.fill]
   simp only[h1,g1]
   rw[if_neg]
   ·exact y1
   ·have:=hl.len
    simp
    omega
  simp only[RZ]at h;split at h
  ·rename_i m hm;split at h
   case isFalse=>cases h
   rename_i hh;rw[hm]at h2;generalize hev:a.eval x=av at h2
   cases h2 with
   |agg m vs hml hok=>exact key (by rw[hev];rfl) hml hh.1 (by omega) hok h
  ·rename_i hna;split at h
   case isFalse=>cases h
   rename_i hh;refine key (m:=[ev s.tm X]) (vs:=[a.eval x]) (FS hR.mem h2 hh.1).1 rfl (by simp[hh.2.1]) (by simp;omega) (λj y u hy hu=> ?_) h
   cases j with
   |zero=>simp at hy hu;subst hy;subst hu;exact h2
   |succ j=>simp at hy
theorem MT (hR:Rel fm e s a) {fs:List Field}: ∀ {parts:List (Nat×Operand)} {ps:List (Nat×Nat×X)},Id P fs parts=some ps->parts.length=ps.length/\
  ∀ (j:Nat) i x off sz X,parts[j]? =some (i,x)->ps[j]? =some (off,sz,X)->(∃f,fs[i]? =some f/\f.offset=off/\Bk P f.type=some sz)/\AS e (ev s.tm X) (a.eval x)
 |[],ps,h=>by simp[Id]at h;subst h;exact⟨rfl,λj i x off sz X h=>by simp at h⟩
 |(i,x)::parts,ps,h=>by
  simp only[Id]at h;split at h
  case h_2=>cases h
  rename_i f hf;split at h
  case h_2=>cases h
  rename_i z y m g1 g2 g3
  cases h
  obtain⟨y1,y2⟩:=MT hR g3;refine⟨by simp[y1],λj i' x' off sz X hj hp=> ?_⟩
  cases j with
  |zero=>
   simp at hj hp;obtain⟨rfl,rfl⟩:=hj;obtain⟨rfl,rfl,rfl⟩:=hp;exact⟨⟨f,hf,rfl,g1⟩,At hR g2⟩
  |succ j=>exact y2 j i' x' off sz X hj hp
theorem Mk (hR:Rel fm e s a) {el:TypeId} {k:Nat}: ∀ {parts:List (Nat×Operand)} {ps:List (Nat×Nat×X)},It P el k parts=some ps->parts.length=ps.length/\
  ∀ (j:Nat) i x off sz X,parts[j]? =some (i,x)->ps[j]? =some (off,sz,X)->(off=i*k/\sz=k)/\AS e (ev s.tm X) (a.eval x)
 |[],ps,h=>by simp[It]at h;subst h;exact⟨rfl,λj i x off sz X h=>by simp at h⟩
 |(i,x)::parts,ps,h=>by
  simp only[It]at h;split at h
  case h_2=>cases h
  rename_i y m g2 g3
  cases h
  obtain⟨y1,y2⟩:=Mk hR g3;refine⟨by simp[y1],λj i' x' off sz X hj hp=> ?_⟩
  cases j with
  |zero=>
   simp at hj hp;obtain⟨rfl,rfl⟩:=hj;obtain⟨rfl,rfl,rfl⟩:=hp;exact⟨⟨rfl,rfl⟩,At hR g2⟩
  |succ j=>exact y2 j i' x' off sz X hj hp
theorem Sp (hR:Rel fm e s a) {o:Oper} {t:TypeId} {parts:Array (Nat×Operand)} {z:List AV} {ps:List (Nat×Nat×X)} {cs:Array Value} (ho:o.op= .build t parts)
  (hb:P.built t (parts.toList.map λp=>(p.1,a.eval p.2))=some cs) {l':List AV} (hl:LOk e l' cs) (h:Ad K md s o.dst (.bld z ps)=some s')
  (hbl:RZ s.tm ps z=some l'):Yl P e s o a s':=by
 simp only[Ad,hbl]at h
 refine yl (v:= .agg cs) (λw=> ?_) ?_ h
 ·have:=run_build w t (parts.map λx=>(x.1,a.eval x.2)) cs (by rw[Array.toList_map];exact hb)
  simp[execOp,ho,this]
 ·have:=AS.agg (e:=e) l' cs.toList (by rw[hl.len];simp) (λi x u hx hu=>hl.ok i x u hx (by simpa using hu))
  simpa using this
theorem SA {fs:List Field} (h:fs.all λf=>(Bk P f.type).isSome): ∃places,fs.mapM (λf=>(P.info? f.type).map λi=>(f.offset,i.size))=some places/\
  places.length=fs.length/\ ∀ (i:Nat) f,fs[i]? =some f-> ∃z,Bk P f.type=some z/\places[i]? =some (f.offset,z):=by
 induction fs with
 |nil=>exact⟨[],rfl,rfl,λi f h=>by simp at h⟩
 |cons f fs ih=>
  simp only[List.all_cons,Bool.and_eq_true]at h;obtain⟨places,h1,h2,h3⟩:=ih h.2;have hz:=h.1;unfold Bk at hz
  cases hi:P.info? f.type with
  |none=>simp[hi]at hz
  |some inf=>
   refine⟨(f.offset,inf.size)::places,by simp[List.mapM_cons,hi,h1],by simp[h2],λi f' hf=> ?_⟩
   cases i with
   |zero=>simp at hf;subst hf;exact⟨inf.size,by simp[Bk,hi],rfl⟩
   |succ i=>exact h3 i f' hf
theorem op_bldS (hR:Rel fm e s a) {o:Oper} {t:TypeId} {parts:Array (Nat×Operand)} {z:List AV} {ps:List (Nat×Nat×X)} {fs:Array Field} (ho:o.op= .build t parts)
  (ht:P.underlying t=some (.struct fs)) (hz:Bc P t=some z) (hall:fs.toList.all λf=>(Bk P f.type).isSome) (hp:Id P fs.toList parts.toList=some ps)
  (h:Ad K md s o.dst (.bld z ps)=some s'):Yl P e s o a s':=by
 have h0:=h
 simp only[Ad]at h
 split at h
 case h_2=>cases h
 rename_i l' hl'
 obtain⟨i,zv,g1,g2,g3⟩:=KL (e:=e) hz
 obtain⟨places,y1,y2,y3⟩:=SA hall
 obtain⟨p1,p2⟩:=MT hR hp
 obtain⟨cs,z1,z2⟩:=Qy hR (place:=λi=>places.toArray[i]?) p1 (λj i x off sz X hj hq=>by
  obtain⟨⟨f,f1,f2,f3⟩,f4⟩:=p2 j i x off sz X hj hq;obtain⟨zz,q1,q2⟩:=y3 i f f1;rw[f3]at q1
  cases q1
  exact⟨by simpa[f2]using q2,f4⟩) g3 hl'
 refine Sp hR ho ?_ z2 h0 hl'
 unfold Program.built
 simp only[g1,ht,g2,y1]
 exact z1
theorem op_bldA (hR:Rel fm e s a) {o:Oper} {t el:TypeId} {len k:Nat} {parts:Array (Nat×Operand)} {z:List AV} {ps:List (Nat×Nat×X)} (ho:o.op= .build t parts)
  (ht:P.underlying t=some (.array len el)) (hz:Bc P t=some z) (hk:Bk P el=some k) (hp:It P el k parts.toList=some ps)
  (h:Ad K md s o.dst (.bld z ps)=some s'):Yl P e s o a s':=by
 have h0:=h
 simp only[Ad]at h
 split at h
 case h_2=>cases h
 rename_i l' hl'
 obtain⟨i,zv,g1,g2,g3⟩:=KL (e:=e) hz
 obtain⟨p1,p2⟩:=Mk hR hp
 unfold Bk at hk
 cases hi:P.info? el with
 |none=>simp[hi]at hk
 |some ie=>
  simp[hi]at hk;obtain⟨cs,z1,z2⟩:=Qy hR (place:=λi=>some (i*ie.size,ie.size)) p1 (λj i x off sz X hj hq=>by
   obtain⟨⟨f1,f2⟩,f4⟩:=p2 j i x off sz X hj hq;exact⟨by rw[f1,f2,hk],f4⟩) g3 hl'
  refine Sp hR ho ?_ z2 h0 hl';unfold Program.built;simp only[g1,ht,g2,hi];exact z1
end
section
variable {P:Program} {fm:Fm} {M:List Nat} {e e':Env} {s s':St} {a:Act}
structure Asm2 (fm:Fm) (e e':Env) (src:Nat->AQ->Option (Nat×AQ)) (Fr:Nat->Prop):Prop where
 kept: ∀o' p' o p k rows',src o' p'=some (o,p)->e'.node o' p'=some (k,rows')-> ∃rows,e.node o p=some (k,rows)/\Eu rows rows'/\e'.hd o' p'=e.hd o p/\
  ∀i j k1 r1,AI rows' i j=some (.sl k1 r1)->e'.hd o' (p'++[(i,j)])=e.hd o (p++[(i,j)])
 keptw: ∀o' p' o p b,src o' p'=some (o,p)->(e'.node o' p').isSome->e.blk (.nd o p)=some b->e'.w.heap[b]? =e.w.heap[b]? /\ ¬e'.Im b/\ ¬Fr b
 inj: ∀o1 p1 o2 p2 x,src o1 p1=some x->src o2 p2=some x->(e'.node o1 p1).isSome->(e'.node o2 p2).isSome->o1=o2/\p1=p2
 new: ∀o' p' k rows',src o' p'=none->e'.node o' p'=some (k,rows')->Bq e'.w (e'.hd o' p') k rows' (λi j=>e'.hd o' (p'++[(i,j)]))
 newb: ∀o' p' b,src o' p'=none->e'.blk (.nd o' p')=some b->Fr b/\ ∀o2 p2,src o2 p2=none->e'.blk (.nd o2 p2)=some b->o2=o'/\p2=p'
 fr: ∀b,Fr b->b<e'.w.heap.size/\(fm.w0.heap.size<=b\/fm.F b)/\ ¬e'.Im b
 box: ∀o cs,e'.ob o= .box cs->(∃cs0,e.ob o= .box cs0/\e'.bk o=e.bk o/\ ¬e'.Im (e.bk o)/\ ¬Fr (e.bk o))\/
  (Fr (e'.bk o)/\(∀o' p',src o' p'=none->e'.blk (.nd o' p')≠some (e'.bk o))/\ ∀o2 cs2,e'.ob o2= .box cs2->e'.bk o2=e'.bk o->o2=o)
 boxc: ∀o cs,e'.ob o= .box cs-> ∀ (j:Nat) c,cs[j]? =some c->Wr e'.w (e'.bk o) j/\ ∃u,e'.w.cell? ⟨e'.bk o,j,none⟩=some u/\AS e' c u
 size:e.w.heap.size<=e'.w.heap.size
theorem Mem.asm2 (hM:Mem fm e) {src:Nat->AQ->Option (Nat×AQ)} {Fr:Nat->Prop} (hA:Asm2 fm e e' src Fr)
  (him: ∀x,e'.Im x->x<e'.w.heap.size/\(x<fm.w0.heap.size->fm.I x\/fm.F x)) (him0: ∀x,fm.I x->e'.Im x) (hk:D7 fm.w0 fm.F e'.w) (htk:e'.tk=e.tk:=by rfl):Mem fm e':=by
 have kb: ∀ {o' p' o p b},src o' p'=some (o,p)->e'.blk (.nd o' p')=some b->e.blk (.nd o p)=some b/\(e'.node o' p').isSome:=by
  intro o' p' o p b hs hb;obtain⟨k,rows',hn,hb'⟩:=E9 hb;obtain⟨rows,h1,_,h3,_⟩:=hA.kept o' p' o p k rows' hs hn;exact⟨AY h1 (h3 ▸ hb'),by rw[hn];rfl⟩
 refine⟨hA.boxc,λo' p' k rows' hn=> ?_,λl l' b h h'=> ?_,λl b h=> ?_,him,him0,hk,htk.trans hM.tk⟩
 ·cases hs:src o' p' with
  |none=>exact hA.new o' p' k rows' hs hn
  |some x=>
   obtain⟨o,p⟩:=x;obtain⟨rows,h1,h2,h3,h4⟩:=hA.kept o' p' o p k rows' hs hn;have hold:=hM.node o p k rows h1;rw[h3];have hone: ∀i j k1 r1,AI rows i j=some (.sl k1 r1)->(e.hd o (p++[(i,j)])).oneCell'=true:=λi j k1 r1 hc=>by
    have:e.node o (p++[(i,j)])=some (k1,r1):=by
     obtain⟨k0,rows0,g0,g1⟩:=FY h1;rw[BV g0,BI,g1];simp[AM,hc]
    exact(hM.node _ _ _ _ this).one
   have hold2:=hold.less (sub':=λi j=>e'.hd o' (p'++[(i,j)])) h2 hone (λi j k1 r1 hc=>h4 i j k1 r1 hc);exact hold2.congr (Ev.refl _) (λb hb=>(hA.keptw o' p' o p b hs (by rw[hn];rfl) (AY h1 hb)).1) (λ_ _ _ _ _=>rfl)
 ·cases l with
  |nd o1 p1=>
   cases l' with
   |nd o2 p2=>
    cases h1:src o1 p1 with
    |none=>
     cases h2:src o2 p2 with
     |none=>
      obtain⟨rfl,rfl⟩:=(hA.newb o1 p1 b h1 h).2 o2 p2 h2 h';rfl
     |some x=>
      obtain⟨hb,hn⟩:=kb h2 h';exact absurd (hA.newb o1 p1 b h1 h).1 (hA.keptw o2 p2 x.1 x.2 b h2 hn hb).2.2
    |some x=>
     obtain⟨hb,hn⟩:=kb h1 h
     cases h2:src o2 p2 with
     |none=>exact absurd (hA.newb o2 p2 b h2 h').1 (hA.keptw o1 p1 x.1 x.2 b h1 hn hb).2.2
     |some y=>
      obtain⟨hb',hn'⟩:=kb h2 h';have:=hM.inj _ _ b hb hb';have hxy:x=y:=by
       obtain⟨x1,x2⟩:=x;obtain⟨y1,y2⟩:=y;simp only[Pl.nd.injEq]at this;rw[this.1,this.2]
      subst hxy;obtain⟨rfl,rfl⟩:=hA.inj o1 p1 o2 p2 x h1 h2 hn hn';rfl
   |bx o2=>
    obtain⟨cs,hcs,rfl⟩:=Dv h';rcases hA.box o2 cs hcs with ⟨cs0,g1,g2,g3,g4⟩|⟨g1,g2,g3⟩
    ·cases h1:src o1 p1 with
     |none=>exact absurd (hA.newb o1 p1 _ h1 h).1 (by rw[g2];exact g4)
     |some x=>
      obtain⟨hb,hn⟩:=kb h1 h;have:=hM.inj _ _ _ hb (by rw[g2];exact Ag g1)
      cases this
    ·cases h1:src o1 p1 with
     |none=>exact absurd h (g2 o1 p1 h1)
     |some x=>
      obtain⟨hb,hn⟩:=kb h1 h;exact absurd g1 (hA.keptw o1 p1 x.1 x.2 _ h1 hn hb).2.2
  |bx o1=>
   obtain⟨cs,hcs,rfl⟩:=Dv h
   cases l' with
   |nd o2 p2=>
    rcases hA.box o1 cs hcs with ⟨cs0,g1,g2,g3,g4⟩|⟨g1,g2,g3⟩
    ·cases h1:src o2 p2 with
     |none=>exact absurd (hA.newb o2 p2 _ h1 h').1 (by rw[g2];exact g4)
     |some x=>
      obtain⟨hb,hn⟩:=kb h1 h';have:=hM.inj _ _ _ (by rw[g2];exact Ag g1) hb
      cases this
    ·cases h1:src o2 p2 with
     |none=>exact absurd h' (g2 o2 p2 h1)
     |some x=>
      obtain⟨hb,hn⟩:=kb h1 h';exact absurd g1 (hA.keptw o2 p2 x.1 x.2 _ h1 hn hb).2.2
   |bx o2=>
    obtain⟨cs2,hcs2,h2⟩:=Dv h';rcases hA.box o1 cs hcs with ⟨cs0,g1,g2,g3,g4⟩|⟨g1,g2,g3⟩
    ·rcases hA.box o2 cs2 hcs2 with ⟨cs0',g1',g2',g3',g4'⟩|⟨g1',g2',g3'⟩
     ·have:=hM.inj (.bx o1) (.bx o2) _ (Ag g1) (by rw[<-g2,<-h2,g2'];exact Ag g1')
      cases this;rfl
     ·rw[h2,g2]at g1';exact absurd g1' g4
    ·have:=g3 o2 cs2 hcs2 h2;rw[this]
 ·cases l with
  |nd o1 p1=>
   cases h1:src o1 p1 with
   |none=>exact hA.fr b (hA.newb o1 p1 b h1 h).1
   |some x=>
    obtain⟨hb,hn⟩:=kb h1 h;obtain⟨q1,q2,q3⟩:=hM.own _ b hb;exact⟨Nat.lt_of_lt_of_le q1 hA.size,q2,(hA.keptw o1 p1 x.1 x.2 b h1 hn hb).2.1⟩
  |bx o1=>
   obtain⟨cs,hcs,rfl⟩:=Dv h;rcases hA.box o1 cs hcs with ⟨cs0,g1,g2,g3,g4⟩|⟨g1,g2,g3⟩
   ·obtain⟨q1,q2,q3⟩:=hM.own _ _ (Ag g1);rw[g2];exact⟨Nat.lt_of_lt_of_le q1 hA.size,q2,g3⟩
   ·exact hA.fr _ g1
end
section
variable {P:Program} {fm:Fm} {M:List Nat} {e e':Env} {s s':St} {a:Act} {Q:Exit->Act->World->Prop}
variable {K:Nat->List Arg->Option Res} {md:Nat->List Nat}
theorem PO {w:World} {b off n:Nat} {us:Nat->Value} (h: ∀m,m<n->w.cell? ⟨b,off+m,none⟩=some (us m)):
  (loadCells ⟨b,off,none⟩ n).run P w= .ok ((List.range n).map us).toArray w:=
 run_loadCells (P:=P) w ⟨b,off,none⟩ n us (λj hj=>by rw[BZ];exact h j hj)
theorem CB {k n m:Nat} (h:m<n*k): ∃i j,m=i*k+j/\i<n/\j<k:=by
 have hk:0<k:=Nat.pos_of_ne_zero λh0=>by subst h0;omega
 refine⟨m / k,m%k,?_,?_,Nat.mod_lt _ hk⟩
 ·rw[Nat.mul_comm];exact(Nat.div_add_mod m k).symm
 ·exact Nat.div_lt_of_lt_mul (by rw[Nat.mul_comm];exact h)
theorem Dz {α:Type} {rows:List (List α)} {k i j:Nat} (hk: ∀r∈rows,r.length=k) (hi:i<rows.length) (hj:j<k): ∃d,AI rows i j=some d:=by
 have h1:rows[i]? =some rows[i]:=List.getElem?_eq_getElem hi;have h2:=hk _ (List.getElem_mem hi);exact⟨rows[i][j]'(by omega),by rw[B7 h1];exact List.getElem?_eq_getElem (by omega)⟩
theorem HQ {k:Nat} {c':Option Addr} {c n:Nat} (w:World):(Builtin.firstCells k 0 (.slice c' n c)).run P w= .ok #[] w:=by
 cases c' with
 |none=>simp[Builtin.firstCells]
 |some ad=>
  obtain⟨b,off,sp⟩:=ad;simp only[Builtin.firstCells,Nat.zero_mul];have:=run_loadCells (P:=P) w ⟨b,off,sp⟩ 0 (λ_=>undef) (λj hj=>by omega);simpa using this
theorem QT {w:World} {Im:Nat->Prop} {v:Value} {k n:Nat} {rows:List (List T)} (h:POk w Im v (.sl k rows)) (hn:n<=rows.length):
  ∃us:Nat->Value,(Builtin.firstCells k n v).run P w= .ok ((List.range (n*k)).map us).toArray w/\ ∀i j d,i<n->AI rows i j=some d->j<k/\POk w Im (us (i*k+j)) d:=by
 cases h with
 |nil ad c k=>
  have:n=0:=by simpa using hn
  subst this;exact⟨λ_=>undef,by rw[HQ];simp,λi j d h=>absurd h (by omega)⟩
 |sl b off c k rows us him hle hk hc hs=>
  refine⟨λm=>(w.cell? ⟨b,off+m,none⟩).getD undef,?_,λi j d hi hd=> ?_⟩
  ·simp only[Builtin.firstCells];refine PO λm hm=> ?_
   obtain⟨i,j,rfl,hi,hj⟩:=CB hm;obtain⟨d,hd⟩:=Dz hk (Nat.lt_of_lt_of_le hi hn) hj;rw[hc i j d hd];rfl
  ·obtain⟨r,hr,hd'⟩:=AZ hd;refine⟨by rw[<-hk r (List.mem_of_getElem? hr)];exact(List.getElem?_eq_some_iff.1 hd').1,?_⟩;simp only[hc i j d hd,Option.getD_some];exact hs i j d hd
theorem P2 {ad:Option Addr} {n c:Nat} (w:World):(Builtin.lenOf (.slice ad n c)).run P w= .ok n w:=by simp[Builtin.lenOf]
theorem Uu {w:World} {Im:Nat->Prop} {v:Value} {k:Nat} {rows:List (List T)} (h:POk w Im v (.sl k rows)): ∃ad c,v= .slice ad rows.length c:=by
 cases h with
 |nil ad c k=>exact⟨_,_,rfl⟩
 |sl b off c k rows us him hle hk hc hs=>exact⟨_,_,rfl⟩
theorem IU: ∀ {rows:List (List T)} {l:List UInt8},CY rows=some l->l.length=rows.length/\
  ∀ (i:Nat) c,l[i]? =some c-> ∃n:Int,AI rows i 0=some (.sc (.int .u8 n))/\c=UInt8.ofNat n.toNat
 |[],l,h=>by simp[CY]at h;subst h;exact⟨rfl,λi c h=>by simp at h⟩
 |[.sc (.int .u8 n)]::rows,l,h=>by
  simp only[CY]at h
  cases hb:CY rows with
  |none=>simp[hb]at h
  |some m=>
   simp[hb]at h;subst h;obtain⟨h1,h2⟩:=IU hb;refine⟨by simp[h1],λi c hc=> ?_⟩
   cases i with
   |zero=>simp at hc;exact⟨n,rfl,hc.symm⟩
   |succ i=>simp at hc;simpa[AI]using h2 i c hc
 |[]::rows,l,h=>by simp[CY]at h
 |(_::_::_)::rows,l,h=>by unfold CY at h;split at h<;>simp_all
 |[.hole]::rows,l,h=>by simp[CY]at h
 |[.sl _ _]::rows,l,h=>by simp[CY]at h
 |[.sc v]::rows,l,h=>by
  unfold CY at h;split at h
  ·rename_i heq;cases heq
  ·rename_i n m heq;injection heq with h1 h2;injection h1 with h3 h4;injection h3 with h5;subst h5;subst h2
   cases hb:CY rows with
   |none=>simp[hb]at h
   |some m=>
    simp[hb]at h;subst h;obtain⟨h1,h2⟩:=IU hb;refine⟨by simp[h1],λi c hc=> ?_⟩
    cases i with
    |zero=>simp at hc;exact⟨n,rfl,hc.symm⟩
    |succ i=>simp at hc;simpa[AI]using h2 i c hc
  ·cases h
theorem WP (ns:List Int): ∀s:ByteArray,ns.foldl (λr n=>r.push (UInt8.ofNat n.toNat)) s=⟨s.data++(ns.map λn=>UInt8.ofNat n.toNat).toArray⟩:=by
 induction ns with
 |nil=>intro s;simp
 |cons n ns ih=>
  intro s;rw[List.foldl_cons,ih];congr 1;simp[ByteArray.push]
theorem op_b2s (hR:Rel fm e s a) {o:Oper} {t u el:TypeId} {x:Operand} {X:X} (ho:o.op= .convert t u x) (ht:P.underlying t=some (.slice el))
  (hel:P.underlying el=some (.int .u8)) (hu:P.underlying u=some .string) {tx:TypeId} (hx:xOf P tx x=some X) (h:Ad K md s o.dst (.b2s X)=some s'):o.wp P a e.w (Reach fm e M s') Q:=by
 have h1:=At hR hx
 simp only[Ad]at h
 split at h
 case h_2=>cases h
 rename_i rows hr
 split at h
 case h_2=>cases h
 rename_i l hl
 have hp:=Ia hR h1 hr
 obtain⟨g1,g2⟩:=IU hl
 obtain⟨us,y1,y2⟩:=QT (P:=P) hp (Nat.le_refl _)
 obtain⟨ad,c,hv⟩:=Uu hp
 have hcell: ∀i,i<rows.length-> ∃n:Int,us i= .int .u8 n/\l[i]? =some (UInt8.ofNat n.toNat):=by
  intro i hi;obtain⟨c,hc⟩:=AF (l:=l) (i:=i) (by omega);obtain⟨n,z1,z2⟩:=g2 i c hc;have:=(y2 i 0 _ hi z1).2;rw[Nat.mul_one,Nat.add_zero]at this;generalize us i=ui at this
  cases this with
  |sc _ _=>exact⟨n,rfl,by rw[hc,z2]⟩
 refine KO hR (v:= .string ⟨l.toArray⟩) ?_ (.sc _ rfl) h Q
 have hrun:(Conv.bytesToString (a.eval x)).run P e.w= .ok (.string ⟨l.toArray⟩) e.w:=by
  rw[hv]at y1 ⊢
  cases ad with
  |none=>
   simp only[Builtin.firstCells,Sem.run_pure,Result.ok.injEq,and_true]at y1;have hz:rows.length=0:=by
    have:=congrArg Array.size y1;simpa using this.symm
   have:l=[]:=List.eq_nil_of_length_eq_zero (by omega);subst this;simp[Conv.bytesToString];rfl
  |some ad=>
   simp only[Builtin.firstCells,Nat.mul_one]at y1;have hns:(List.range rows.length).map us=((List.range rows.length).map λi=>match us i with
     | .int _ n=>n
     |_=>0).map (Value.int .u8):=by
    rw[List.map_map]
    refine List.map_congr_left λi hi=> ?_
    obtain⟨n,z1,_⟩:=hcell i (by simpa using hi)
    simp[z1]
   rw[hns]at y1;rw[run_bytesToString e.w ad _ c _ y1,WP];congr 2;have hl2:l=((List.range rows.length).map λi=>match us i with
     | .int _ n=>n
     |_=>0).map λn=>UInt8.ofNat n.toNat:=by
    apply List.ext_getElem?
    intro i
    by_cases hi:i<rows.length
    ·obtain⟨n,z1,z2⟩:=hcell i hi
     rw[z2]
     simp[hi,z1]
    ·rw[List.getElem?_eq_none (by omega),List.getElem?_eq_none (by simp;omega)]
   have he:ByteArray.empty.data= #[]:=rfl;rw[he,Array.empty_append,<-hl2]
 simp[execOp,ho,hv,run_convert_bytes_string e.w t u el ad _ c ht hel hu]
 rw[hv]at hrun
 simp[hrun]
theorem op_take (hR:Rel fm e s a) {o:Oper} {t:TypeId} {n:Option Nat} {x:Operand} {X:X} {base:Nat} (ho:o.op= .load t x) (ht:nOf P t=some n)
  {tx:TypeId} (hx:xOf P tx x=some X) (h:Ad K md s o.dst (.take base n X)=some s'):o.wp P a e.w (Reach fm e M s') Q:=by
 simp only[Ad]at h
 split at h
 case h_2=>cases h
 rename_i v o1 p i j hv hX
 split at h
 case h_2=>cases h
 rename_i h' hd
 have h1:=At hR hx
 obtain⟨u,g1,g2⟩:=UU hR ht h1 hv
 rw[hX]at h1
 generalize hev:a.eval x=av at h1
 cases h1 with
 |pa o1 p i j k b off n' c rows hn hh hc=>
 obtain⟨e1,y1,y2,y3,_⟩:=Gm (us:=[u]) (e:=e) (h:={s,l:=[v]}) ⟨hR,rfl,λm x' u' hx' hu'=>by
  cases m with
  |zero=>simp at hx' hu';subst hx';subst hu';exact g2
  |succ m=>simp at hx'⟩ hd hn
 have hlen:=y3.len
 obtain⟨z,hz⟩:=AF (l:=h'.l) (i:=0) (by simp[hlen])
 have hhead:h'.l.headD .dead=z:=by
  cases hl:h'.l with
  |nil=>rw[hl]at hz;simp at hz
  |cons _ _=>rw[hl]at hz;simpa using hz
 rw[hhead]at h
 refine CI y1 y3.rel ⟨by rw[y1];exact Nat.le_refl _,λb _ _=>by rw[y1]⟩ (v:=u) ?_ (y3.ok 0 z u hz rfl) h
 simp[execOp,ho,hev]at g1 ⊢
 simp[g1]
end
section
variable {P:Program} {fm:Fm} {M:List Nat} {e e':Env} {s s':St} {a:Act} {Q:Exit->Act->World->Prop}
variable {K:Nat->List Arg->Option Res} {md:Nat->List Nat}
theorem Rh (hR:Rel fm e s a) {x:AV} {v:Value} {o k lo hi:Nat} {p:AQ} {rows:List (List T)} (hx:AS e x v) (h:GO s.ob x=some (o,p,k,rows,lo,hi)):
  e.node o p=some (k,rows)/\lo<=hi/\hi<=rows.length/\ ∃ad c',v= .slice ad (hi - lo) c'/\
   (lo<hi-> ∃b off n c,e.hd o p= .slice (some ⟨b,off,none⟩) n c/\rows.length<=c/\0<c/\ad=some ⟨b,off+lo*k,none⟩):=by
 cases hx with
 |ref o' p' k' rows' hn=>
  simp only[GO,DM hR,hn,Option.some.injEq,Prod.mk.injEq]at h;obtain⟨rfl,rfl,rfl,rfl,rfl,rfl⟩:=h;obtain⟨ad,c,hv,hle,hx⟩:=hR.mem.node _ _ _ _ hn;refine⟨hn,Nat.zero_le _,Nat.le_refl _,ad,c,by simpa using hv,λh0=> ?_⟩;obtain⟨b,off,rfl,_⟩:=hx (by omega);exact⟨b,off,_,c,hv,hle.1,by omega,by simp⟩
 |vw o' p' lo' hi' k' rows' v hn h1 h2 hw=>
  simp only[GO,DM hR,hn]at h;rw[if_pos ⟨h1,h2⟩]at h;simp only[Option.some.injEq,Prod.mk.injEq]at h;obtain⟨rfl,rfl,rfl,rfl,rfl,rfl⟩:=h;obtain⟨a1,n1,c1,a2,c2,e1,rfl,e3,e4⟩:=hw;refine⟨hn,h1,h2,a2,c2,rfl,λh0=> ?_⟩;obtain⟨ad,c,hv,hle,hx⟩:=hR.mem.node _ _ _ _ hn;rw[hv]at e1
  cases e1
  obtain⟨b,off,rfl,_⟩:=hx (by omega);obtain⟨_,rfl⟩:=e4 (by omega);exact⟨b,off,_,_,hv,hle.1,by omega,by simp[BZ]⟩
 |_=>simp[GO]at h
theorem KY {o:Nat} {p:AQ} {rows':List (List T)} (h:Gz s o p rows'=some s'): ∃k0 rows0 r,AN s.ob o= .arr k0 rows0/\C2 rows' rows0 p=some r/\s'=s.putO o (.arr k0 r):=by
 unfold Gz at h;split at h
 case h_2=>cases h
 rename_i k0 rows0 h0;split at h
 case h_2=>cases h
 rename_i r hr
 cases h
 exact⟨k0,rows0,r,h0,hr,rfl⟩
def DV (d:T) (u:Value):Prop:=(∃v,d= .sc v/\u=v/\ES v=true)\/(d= .hole/\u.oneCell'=true)
theorem MQ (hR:Rel fm e s a) {o k lo b off n c:Nat} {p:AQ} {rows new:List (List T)} {us:List Value} (hn:e.node o p=some (k,rows))
  (hh:e.hd o p= .slice (some ⟨b,off,none⟩) n c) (hc:0<c) (hle:lo+new.length<=rows.length) (hus:us.length=new.length*k) (hk: ∀r∈new,r.length=k)
  (hd: ∀i j d,AI new i j=some d-> ∃u,us[i*k+j]? =some u/\DV d u) {f:Nat->AQ->Option (Nat×AQ)}
  (hF:T8 o p rows (A4 rows lo new) f) (hput:Gz s o p (A4 rows lo new)=some s') {w':World} (hst:BK e.w w' b (off+lo*k) us):
  ∃e',e'.w=w'/\Rel fm e' (s'.sub f) a/\ ∀M,o∈M->Evo e e' M:=by
 obtain⟨k0,rows0,r1,h0,hset,rfl⟩:=KY hput
 have h0':e.ob o= .arr k0 rows0:=by rw[hR.ob];exact h0
 have hn0:AM k0 rows0 p=some (k,rows):=BV h0' p ▸ hn
 obtain⟨ad,c',hv',hlc,hx⟩:=hR.mem.node o p k rows hn
 rw[hh]at hv'
 cases hv'
 obtain⟨b',off',hb',hwr,hkr,hcell⟩:=hx hc
 cases hb'
 have hget: ∀i j,AI (A4 rows lo new) i j=if lo<=i/\i<lo+new.length then AI new (i - lo) j else AI rows i j:=by
  intro i j;unfold AI;rw[Dt rows lo new hle];by_cases h:lo<=i/\i<lo+new.length
  ·rw[if_pos h,if_pos h]
  ·rw[if_neg h,if_neg h]
 have hplain: ∀i j d,AI new i j=some d-> ∀k1 r1,d≠ .sl k1 r1:=λi j d h k1 r1 h1=>by
  obtain⟨u,_,⟨v,h2,_⟩|⟨h2,_⟩⟩:=hd i j d h<;>rw[h2]at h1<;>cases h1
 have hsub: ∀i j k1 r1',AI (A4 rows lo new) i j=some (.sl k1 r1')->AI rows i j=some (.sl k1 r1'):=by
  intro i j k1 r1' h;rw[hget]at h;by_cases h2:lo<=i/\i<lo+new.length
  ·rw[if_pos h2]at h;exact absurd rfl (hplain _ _ _ h k1 r1')
  ·rw[if_neg h2]at h;exact h
 have hnew:Bq w' (e.hd o p) k (A4 rows lo new) (λi j=>e.hd o (p++[(i,j)])):=by
  refine⟨_,c,by rw[hh,EZ rows lo new hle],by rw[EZ rows lo new hle];exact hlc,λ_=>⟨b,off,rfl,λx hx=>hst.wr (hwr x hx),λr hr=> ?_,λi j d hd'=> ?_⟩⟩
  ·obtain⟨i,hi⟩:=List.mem_iff_getElem?.1 hr;rw[Dt rows lo new hle]at hi;split at hi
   ·exact hk r (List.mem_of_getElem? hi)
   ·exact hkr r (List.mem_of_getElem? hi)
  ·rw[hget]at hd';by_cases h2:lo<=i/\i<lo+new.length
   ·rw[if_pos h2]at hd';obtain⟨u,hu,hok⟩:=hd (i - lo) j d hd';have hj:j<k:=by
     obtain⟨r,hr,hj⟩:=AZ hd';rw[<-hk r (List.mem_of_getElem? hr)];exact(List.getElem?_eq_some_iff.1 hj).1
    have hidx:off+lo*k+((i - lo)*k+j)=off+(i*k+j):=by
     have:(lo+(i - lo))*k=i*k:=by rw[show lo+(i - lo)=i by omega]
     rw[Nat.add_mul]at this;omega
    refine⟨u,?_,?_⟩
    ·have:=hst.new hu (by rw[hidx];exact hwr _ (Cl (by omega) hj));rwa [hidx]at this
    ·rcases hok with ⟨v,rfl,rfl,hs⟩|⟨rfl,hs⟩
     ·exact⟨rfl,hs⟩
     ·exact hs
   ·rw[if_neg h2]at hd';obtain⟨u,hu,hok⟩:=hcell i j d hd';refine⟨u,?_,hok⟩;rw[hst.same λhin=>h2 ?_]
    ·exact hu
    ·have hj:j<k:=by
      obtain⟨r,hr,hj⟩:=AZ hd';rw[<-hkr r (List.mem_of_getElem? hr)];exact(List.getElem?_eq_some_iff.1 hj).1
     have h3:lo*k<=i*k+j:=by omega
     have h4:i*k+j<(lo+new.length)*k:=by rw[Nat.add_mul];omega
     constructor
     ·rcases Nat.lt_or_ge i lo with h5|h5
      ·have:(i+1)*k<=lo*k:=Nat.mul_le_mul_right _ h5;rw[Nat.add_mul]at this;omega
      ·exact h5
     ·rcases Nat.lt_or_ge i (lo+new.length)with h5|h5
      ·exact h5
      ·have:(lo+new.length)*k<=i*k:=Nat.mul_le_mul_right _ h5;omega
 have hbk:BC (e.hd o p)=some b:=by rw[hh];simp[BC,hc]
 obtain⟨q1,q2,q3⟩:=hR.mem.own (.nd o p) b (AY hn hbk)
 obtain⟨e',g1,g2,g3,g4,g5⟩:=Nb hR h0' hn0 hset (EZ rows lo new hle) hsub hF (λx hx=>hst.other x (λh=>hx (h ▸ hbk))) (hR.mem.keeps.stored hst q2) hst.size hnew
 exact⟨e',g1,g3,g5⟩
theorem KU (hR:Rel fm e s a) {o k:Nat} {p:AQ} {rows:List (List T)} (hn:e.node o p=some (k,rows)) {f:Nat->AQ->Option (Nat×AQ)}
  (hF:T8 o p rows rows f) (hput:Gz s o p rows=some s'): ∃e',e'.w=e.w/\Rel fm e' (s'.sub f) a/\ ∀M,o∈M->Evo e e' M:=by
 obtain⟨k0,rows0,r1,h0,hset,rfl⟩:=KY hput
 have h0':e.ob o= .arr k0 rows0:=by rw[hR.ob];exact h0
 have hn0:AM k0 rows0 p=some (k,rows):=BV h0' p ▸ hn
 obtain⟨e',g1,g2,g3,g4,g5⟩:=Nb (w':=e.w) hR h0' hn0 hset rfl (λ_ _ _ _ h=>h) hF (λ_ _=>rfl) hR.mem.keeps rfl (hR.mem.node _ _ _ _ hn)
 exact⟨e',g1,g3,g5⟩
theorem Vv (hM:Mem fm e) {o k lo n' b off n c:Nat} {p:AQ} {rows:List (List T)} (hn:e.node o p=some (k,rows)) (hh:e.hd o p= .slice (some ⟨b,off,none⟩) n c) (hc:0<c)
  (hle:lo+n'<=rows.length): ∀m,m<n'*k->Wr e.w b (off+lo*k+m):=by
 intro m hm
 obtain⟨ad,c',hv',hlc,hx⟩:=hM.node o p k rows hn
 rw[hh]at hv'
 cases hv'
 obtain⟨b',off',hb',hwr,_⟩:=hx hc
 cases hb'
 rw[show off+lo*k+m=off+(lo*k+m)by omega]
 refine hwr _ ?_
 have:(lo+n')*k<=c*k:=Nat.mul_le_mul_right _ (by omega)
 rw[Nat.add_mul]at this
 omega
theorem Dk {rows:List (List T)} (h:An rows=true) {i j:Nat} {d:T} (hd:AI rows i j=some d): ∀k r,d≠ .sl k r:=by
 obtain⟨r,hr,hj⟩:=AZ hd;have: ∀ (rows:List (List T)),An rows=true-> ∀r∈rows,Gs r=true:=by
  intro rows
  induction rows with
  |nil=>intro _ r hr;cases hr
  |cons x rows ih=>
   intro h r hr;simp only[An,Bool.and_eq_true]at h;rcases List.mem_cons.1 hr with rfl|h2
   ·exact h.1
   ·exact ih h.2 r h2
 exact MK (this rows h r (List.mem_of_getElem? hr)) (List.mem_of_getElem? hj)
theorem Nm {w:World} {Im:Nat->Prop} {d:T} {u:Value} (h:POk w Im u d) (hd: ∀k r,d≠ .sl k r):DV d u:=by
 cases h with
 |sc v hs=>exact .inl ⟨_,rfl,rfl,hs⟩
 |hole v hs=>exact .inr ⟨rfl,hs⟩
 |nil a c k=>exact absurd rfl (hd _ _)
 |sl b off c k rows us him hle hk hc hs=>exact absurd rfl (hd _ _)
theorem LU {x:AV} {ob:List (Nat×Obj)} {o k lo hi:Nat} {p:AQ} {rows:List (List T)} (h:GO ob x=some (o,p,k,rows,lo,hi)):o∈GP x:=by
 cases x with
 |ref o' p'=>
  cases hn:Cu ob o' p' with
  |none=>simp[GO,hn]at h
  |some y=>obtain⟨k1,r1⟩:=y;simp[GO,hn]at h;simp[GP,h.1]
 |vw o' p' lo' hi'=>
  cases hn:Cu ob o' p' with
  |none=>simp[GO,hn]at h
  |some y=>obtain⟨k1,r1⟩:=y;simp[GO,hn]at h;simp[GP,h.2.1]
 |_=>simp[GO]at h
theorem Sv {w:World} {Im:Nat->Prop} {v:Value} {k:Nat} {rows:List (List T)} (h:POk w Im v (.sl k rows)): ∀r∈rows,r.length=k:=by
 cases h with
 |nil ad c k=>intro r hr;cases hr
 |sl b off c k rows us him hle hk hc hs=>exact hk
theorem Eg {d:T} {u:Value} (h:DV d u):u.oneCell'=true:=by
 rcases h with ⟨v,rfl,rfl,hs⟩|⟨_,hs⟩
 ·cases u<;>first|rfl|(simp[ES]at hs)
 ·exact hs
theorem op_cpy (hR:Rel fm e s a) {o:Oper} {t t2 el:TypeId} {k:Nat} {x y:Operand} {X Y:Ow.X} (ho:o.op= .call {callee:= .builtin .copy,args:= #[x,y],argTypes:= #[t,t2]})
  (ht:P.underlying t=some (.slice el)) (hk:Bk P el=some k) {tx ty:TypeId} (hx:xOf P tx x=some X) (hy:xOf P ty y=some Y) (hM: ∀z∈GP (ev s.tm X),z∈M)
  (h:Ad K md s o.dst (.cpy k X Y)=some s'):o.wp P a e.w (Reach fm e M s') Q:=by
 simp only[Ad]at h
 split at h
 case h_2=>cases h
 rename_i v s1 hcp
 unfold cpyA at hcp
 split at hcp
 case h_2=>cases hcp
 rename_i o' p k1 rows lo hi k2 src hwin hsrc
 split at hcp
 case isFalse=>cases hcp
 rename_i hh
 obtain⟨hk1,hk2,hf1,hf2⟩:=hh
 have hk1:=hk1.symm
 have hk2:=hk2.symm
 subst hk1
 subst hk2
 split at hcp
 case h_2=>cases hcp
 rename_i s2 hput
 cases hcp
 obtain⟨hn,hlo,hhi,ad,c',hv,haddr⟩:=Rh hR (At hR hx) hwin
 have hp:=Ia hR (At hR hy) hsrc
 obtain⟨ad2,c2,hv2⟩:=Uu hp
 obtain⟨us,y1,y2⟩:=QT (P:=P) hp (Nat.min_le_left src.length (hi - lo))
 generalize hN:min src.length (hi - lo)=N at*
 have hNs:N<=src.length:=by omega
 have hNh:N<=hi - lo:=by omega
 have hlen:(src.take N).length=N:=by simp;omega
 have hrow:rows.take lo++src.take N++rows.drop (lo+N)=A4 rows lo (src.take N):=by unfold A4;rw[hlen]
 rw[hrow]at hput
 have hcellt: ∀i j d,AI (src.take N) i j=some d->i<N/\AI src i j=some d:=λi j d hd=>by
  obtain⟨r,hr,hj⟩:=AZ hd;have hi:i<N:=by have:=(List.getElem?_eq_some_iff.1 hr).1;omega
  rw[List.getElem?_take,if_pos hi]at hr;exact⟨hi,by rw[B7 hr];exact hj⟩
 have hF:T8 o' p rows (A4 rows lo (src.take N)) λo p=>some (o,p):=by
  refine .inl ⟨rfl,λi j k1 r1 hc=> ?_⟩;exact absurd rfl (Dk hf1 hc k1 r1)
 have done: ∀ {w':World} {e':Env},e'.w=w'->Rel fm e' (s1.sub λo p=>some (o,p)) a->(∀M,o'∈M->Evo e e' M)->
   ((match ad with
    |some ad=>storeCells ad ((List.range (N*k)).map us)
    |none=>pure ()).run P e.w= .ok () w')->o.wp P a e.w (Reach fm e M s') Q:=by
  intro w' e' g1 g2 g3 g4
  rw[St.sub_id]at g2
  refine CI (v:= .int .i64 N) g1 g2 (g3 M (hM _ (LU hwin))) ?_ (.sc _ rfl) h
  rw[hv2]at y1
  have hmin:Nat.min src.length (hi - lo)=N:=hN
  cases ad with
  |none=>
   simp only[Sem.run_pure,Result.ok.injEq,true_and]at g4;subst g4;simp[execOp,ho,hv,hv2,resolve,invoke,builtin,Builtin.copy_,AR ht,P2,C7 hk,hmin,y1,goInt]
  |some ad=>
   simp only at g4;simp[execOp,ho,hv,hv2,resolve,invoke,builtin,Builtin.copy_,AR ht,P2,C7 hk,hmin,y1,g4,goInt]
 by_cases hpos:lo<hi
 ·obtain⟨b,off,n,c,g1,g2,g3,rfl⟩:=haddr hpos
  have hus: ∀m,m<N*k-> ∃d u,DV d u/\us m=u:=λm hm=>by
   obtain⟨i,j,rfl,hi',hj⟩:=CB hm;obtain⟨d,hd⟩:=Dz (Sv hp) (show i<src.length by omega) hj;exact⟨d,_,Nm (y2 i j d hi' hd).2 (Dk hf2 hd),rfl⟩
  obtain⟨w',z1,z2⟩:=C8 (P:=P) ((List.range (N*k)).map us) e.w b (off+lo*k) 0 (λm hm=>by
   rw[Nat.add_zero];exact Vv hR.mem hn g1 g3 (n':=N) (by omega) m (by simpa using hm)) (λu hu=>by
   obtain⟨m,hm,rfl⟩:=List.mem_map.1 hu;obtain⟨d,u,q1,q2⟩:=hus m (by simpa using hm);rw[q2];exact Eg q1)
  obtain⟨e',q1,q2,q3⟩:=MQ (new:=src.take N) (us:=(List.range (N*k)).map us) hR hn g1 g3 (by rw[hlen];omega) (by rw[hlen];simp) (λr hr=>Sv hp r (List.mem_of_mem_take hr)) (λi j d hd=>by
   obtain⟨hi',hd'⟩:=hcellt i j d hd;obtain⟨hj,hpk⟩:=y2 i j d hi' hd';refine⟨us (i*k+j),?_,Nm hpk (Dk hf2 hd')⟩;rw[List.getElem?_map,List.getElem?_range (Cl hi' hj)];rfl) hF hput (by rw[Nat.add_zero]at z2;exact z2)
  exact done q1 q2 q3 z1
 ·have hN0:N=0:=by omega
  subst hN0
  have hsame:A4 rows lo (src.take 0)=rows:=by simp[A4]
  rw[hsame]at hput hF
  obtain⟨e',q1,q2,q3⟩:=KU hR hn hF hput
  refine done (w':=e.w) q1 q2 q3 ?_
  cases ad<;>simp[storeCells]
theorem op_clr (hR:Rel fm e s a) {o:Oper} {t el:TypeId} {k:Nat} {z:List AV} {x:Operand} {X:Ow.X} (ho:o.op= .call {callee:= .builtin .clear,args:= #[x],argTypes:= #[t]})
  (ht:P.underlying t=some (.slice el)) (hk:Bk P el=some k) (hz:Bc P el=some z) {tx:TypeId} (hx:xOf P tx x=some X) (hM: ∀y∈GP (ev s.tm X),y∈M)
  (h:Ad K md s o.dst (.clr k (Cy z) X)=some s'):o.wp P a e.w (Reach fm e M s') Q:=by
 simp only[Ad]at h
 split at h
 case h_2=>cases h
 rename_i s1 hcl
 unfold clrA at hcl
 split at hcl
 case h_2=>cases hcl
 rename_i o' p k' rows lo hi hwin
 split at hcl
 case isFalse=>cases hcl
 rename_i hh
 obtain⟨rfl,hzl⟩:=hh
 split at hcl
 case h_2=>cases hcl
 rename_i s2 hput
 simp only[Option.some.injEq]at hcl
 obtain⟨hn,hlo,hhi,ad,c',hv,haddr⟩:=Rh hR (At hR hx) hwin
 obtain⟨inf,zv,z1,z2,z3⟩:=KL (e:=e) hz
 have hlen:(List.replicate (hi - lo) (Cy z)).length=hi - lo:=by simp
 have hrow:rows.take lo++List.replicate (hi - lo) (Cy z)++rows.drop hi=A4 rows lo (List.replicate (hi - lo) (Cy z)):=by
  unfold A4;rw[hlen,show lo+(hi - lo)=hi by omega]
 rw[hrow]at hput
 have zH: ∀ (l:List AV),(Cy l).length=l.length/\ ∀ (j:Nat) d,(Cy l)[j]? =some d->(∃v,d= .sc v/\l[j]? =some (.sc v))\/d= .hole:=by
  intro l
  induction l with
  |nil=>exact⟨rfl,λj d h=>by simp[Cy]at h⟩
  |cons x l ih=>
   obtain⟨i1,i2⟩:=ih
   cases x with
   |sc v=>
    refine⟨by simp[Cy,i1],λj d h=> ?_⟩
    cases j with
    |zero=>simp[Cy]at h;exact .inl ⟨v,h.symm,rfl⟩
    |succ j=>simpa[Cy]using i2 j d (by simpa[Cy]using h)
   |_=>
    refine⟨by simp[Cy,i1],λj d h=> ?_⟩
    cases j with
    |zero=>simp[Cy]at h;exact .inr h.symm
    |succ j=>simpa[Cy]using i2 j d (by simpa[Cy]using h)
 obtain⟨zl1,zl2⟩:=zH z
 have hzs:zv.cells.size=k':=by rw[<-z3.len,<-zl1];exact hzl
 have hcellz: ∀ (j:Nat) d,(Cy z)[j]? =some d-> ∃u,zv.cells[j]? =some u/\DV d u:=by
  intro j d hd;have hj:j<zv.cells.size:=by rw[hzs,<-hzl];exact(List.getElem?_eq_some_iff.1 hd).1
  have hu:zv.cells[j]? =some zv.cells[j]:=Array.getElem?_eq_getElem hj;obtain⟨y,hy⟩:=AF (l:=z) (i:=j) (by rw[z3.len];exact hj);have hok:=z3.ok j y _ hy hu;refine⟨_,hu,?_⟩;rcases zl2 j d hd with ⟨v,rfl,hv'⟩|rfl
  ·rw[hy]at hv'
   cases hv'
   obtain⟨q1,q2⟩:=hok.sc_inv;exact .inl ⟨v,rfl,q1,q2⟩
  ·refine .inr ⟨rfl,?_⟩;obtain⟨i,zz,g1,g2,g3,g4⟩:=EW hz;rw[z1]at g1;cases g1;rw[z2]at g2;cases g2;obtain⟨t',v',f1,f2⟩:=g4 j y hy;rw[hu]at f1
   cases f1
   rcases Fi f2 with ⟨k3,_,f3⟩|⟨_,f3⟩|⟨f,f3⟩
   ·rw[f3];rfl
   ·cases hzz:zv.cells[j]<;>rw[hzz]at f3<;>first|rfl|(simp[ES]at f3)
   ·subst f3;have hclo: ∀v,AS e (.clo f []) v->v.oneCell'=true:=λv h=>by cases h;rfl
    exact hclo _ hok
 have hF:T8 o' p rows (A4 rows lo (List.replicate (hi - lo) (Cy z))) (if An rows then(λo p=>some (o,p))else KE o' p):=by
  by_cases hf:An rows=true
  ·rw[if_pos hf];refine .inl ⟨rfl,λi j k1 r1 hc=> ?_⟩;exact absurd rfl (Dk hf hc k1 r1)
  ·rw[if_neg hf];exact .inr rfl
 have hs1:s1=s2.sub (if An rows then(λo p=>some (o,p))else KE o' p):=by
  rw[<-hcl];by_cases hf:An rows=true
  ·rw[if_pos hf,if_pos hf,St.sub_id]
  ·rw[if_neg hf,if_neg hf]
 by_cases hpos:lo<hi
 ·obtain⟨b,off,n,c,g1,g2,g3,rfl⟩:=haddr hpos
  have hzc:Builtin.zeroCells zv.cells (hi - lo)=((List.range ((hi - lo)*k')).map λm=>zv.cells[m%k']!).toArray:=by
   unfold Builtin.zeroCells;rw[hzs];apply Array.ext';simp[Array.toList_range]
  have hzm: ∀i j,i<hi - lo->j<k'->zv.cells[(i*k'+j)%k']! =zv.cells[j]! :=λi j _ hj=>by
   rw[Nat.add_comm,Nat.add_mul_mod_self_right,Nat.mod_eq_of_lt hj]
  have hzu: ∀j,j<k'-> ∃d,(Cy z)[j]? =some d/\DV d zv.cells[j]! :=λj hj=>by
   obtain⟨d,hd⟩:=AF (l:=Cy z) (i:=j) (by rw[hzl];exact hj);obtain⟨u,hu,hok⟩:=hcellz j d hd;refine⟨d,hd,?_⟩;rw[getElem!_def,hu];exact hok
  obtain⟨w',q1,q2⟩:=C8 (P:=P) ((List.range ((hi - lo)*k')).map λm=>zv.cells[m%k']!) e.w b (off+lo*k') 0 (λm hm=>by
   rw[Nat.add_zero];exact Vv hR.mem hn g1 g3 (n':=hi - lo) (by omega) m (by simpa using hm)) (λu hu=>by
   obtain⟨m,hm,rfl⟩:=List.mem_map.1 hu;obtain⟨i,j,rfl,hi',hj⟩:=CB (show m<(hi - lo)*k' by simpa using hm);rw[hzm i j hi' hj];obtain⟨d,_,hok⟩:=hzu j hj;exact Eg hok)
  obtain⟨e',f1,f2,f3⟩:=MQ (new:=List.replicate (hi - lo) (Cy z)) (us:=(List.range ((hi - lo)*k')).map λm=>zv.cells[m%k']!) hR hn g1 g3 (by rw[hlen];omega) (by rw[hlen];simp) (λr hr=>by rw[(List.mem_replicate.1 hr).2];exact hzl) (λi j d hd=>by
   obtain⟨r,hr,hj⟩:=AZ hd;rw[List.getElem?_replicate]at hr;split at hr
   case isFalse=>cases hr
   rename_i hi'
   cases hr
   have hj':j<k':=by rw[<-hzl];exact(List.getElem?_eq_some_iff.1 hj).1
   obtain⟨d2,hd2,hok⟩:=hzu j hj';rw[hj]at hd2
   cases hd2
   refine⟨_,?_,hok⟩;rw[List.getElem?_map,List.getElem?_range (Cl hi' hj')];simp only[Option.map_some];rw[hzm i j hi' hj']) hF hput (by rw[Nat.add_zero]at q2;exact q2)
  rw[hs1]at h
  refine CI (w':=w') (v:= .tuple #[]) f1 f2 (f3 M (hM _ (LU hwin))) ?_ (.tup [] [] rfl (λi x u h=>by simp at h)) h
  have hne:hi - lo≠0:=by omega
  have hzc':=congrArg Array.toList hzc
  simp only at hzc'
  cases hnn:hi - lo with
  |zero=>exact absurd hnn hne
  |succ m=>
   rw[hnn]at hv hzc' q1;simp[execOp,ho,hv,resolve,invoke,builtin,Builtin.clear_,AR ht,zeroValue,typeInfo,z1,z2,hzc',q1]
 ·have hN0:hi - lo=0:=by omega
  rw[hN0]at hput hF
  have hsame:A4 rows lo (List.replicate 0 (Cy z))=rows:=by simp[A4]
  rw[hsame]at hput hF
  obtain⟨e',q1,q2,q3⟩:=KU hR hn hF hput
  rw[hs1]at h
  refine CI (w':=e.w) (v:= .tuple #[]) q1 q2 (q3 M (hM _ (LU hwin))) ?_ (.tup [] [] rfl (λi x u h=>by simp at h)) h
  rw[hN0]at hv
  cases ad<;>simp[execOp,ho,hv,resolve,invoke,builtin,Builtin.clear_,AR ht]
end
section
variable {P:Program} {fm:Fm} {M:List Nat} {e e':Env} {s s':St} {a:Act} {Q:Exit->Act->World->Prop}
variable {K:Nat->List Arg->Option Res} {md:Nat->List Nat}
mutual
theorem AV.sub_sub (f g:Nat->AQ->Option (Nat×AQ)): ∀x:AV,(x.sub f).sub g=x.sub λo p=>match f o p with
  |some (o',p')=>g o' p'
  |none=>none
 | .ref o p=>by simp only[AV.sub];cases f o p<;>simp[AV.sub]
 | .vw o p lo hi=>by simp only[AV.sub];cases f o p<;>simp[AV.sub]
 | .pa o p i j=>by simp only[AV.sub];cases f o p<;>simp[AV.sub]
 | .agg l=>by simp only[AV.sub,GR f g l]
 | .tup l=>by simp only[AV.sub,GR f g l]
 | .clo h l=>by simp only[AV.sub,GR f g l]
 | .non=>rfl
 | .dead=>rfl
 | .und=>rfl
 | .sc v=>rfl
 | .nil k=>rfl
 | .im k rows=>rfl
 | .al i k rows=>rfl
 | .pb o j=>rfl
 | .pim c=>rfl
theorem GR (f g:Nat->AQ->Option (Nat×AQ)): ∀l:List AV,CL g (CL f l)=CL (λo p=>match f o p with
  |some (o',p')=>g o' p'
  |none=>none) l
 |[]=>rfl
 |a::l=>by simp only[CL,AV.sub_sub f g a,GR f g l]
end
theorem Obj.sub_sub (f g:Nat->AQ->Option (Nat×AQ)) (x:Obj):(x.sub f).sub g=x.sub λo p=>match f o p with
  |some (o',p')=>g o' p'
  |Option.none=>Option.none:=by cases x<;>simp[Obj.sub,GR]
theorem Io: ∀ (l:List T) (j:Nat),(F0 l)[j]? =l[j]?.map λd=>match d with
  | .sl _ _=> .hole
  |d=>d
 |[],j=>rfl
 | .sl k r::l,0=>rfl
 | .sc v::l,0=>rfl
 | .hole::l,0=>rfl
 | .sl k r::l,j+1=>by simpa[F0]using Io l j
 | .sc v::l,j+1=>by simpa[F0]using Io l j
 | .hole::l,j+1=>by simpa[F0]using Io l j
theorem In: ∀l:List T,(F0 l).length=l.length
 |[]=>rfl
 | .sl k r::l=>by simp[F0,In l]
 | .sc v::l=>by simp[F0,In l]
 | .hole::l=>by simp[F0,In l]
theorem Ip (l:List (List T)):DD l=l.map F0:=by
 induction l with
 |nil=>rfl
 |cons a l ih=>simp[DD,ih]
def holeT:T->T
 | .sl _ _=> .hole
 |d=>d
theorem LO {rows2:List (List T)} {lo hi:Nat} (h1:lo<=hi) (h2:hi<=rows2.length) (i j:Nat):
  AI (A4 rows2 lo (DD (Ow.window rows2 lo hi))) i j=if lo<=i/\i<hi then(AI rows2 i j).map holeT else AI rows2 i j:=by
 have hl:(DD (Ow.window rows2 lo hi)).length=hi - lo:=by rw[Ip];simp[Ow.window];omega
 unfold AI
 rw[Dt _ _ _ (by omega),hl]
 by_cases c:lo<=i/\i<hi
 ·rw[if_pos (show lo<=i/\i<lo+(hi - lo)by omega),if_pos c,Ip,List.getElem?_map]
  have:(Ow.window rows2 lo hi)[i - lo]? =rows2[i]? :=by
   unfold Ow.window;rw[List.getElem?_drop,List.getElem?_take,if_pos (by omega),show lo+(i - lo)=i by omega]
  rw[this]
  cases rows2[i]? with
  |none=>rfl
  |some r=>
   simp only[Option.map_some];rw[Io]
   cases r[j]? with
   |none=>rfl
   |some d=>cases d<;>rfl
 ·rw[if_neg (show ¬ (lo<=i/\i<lo+(hi - lo))by omega),if_neg c]
theorem MZ {rows2:List (List T)} {lo hi:Nat} (h1:lo<=hi) (h2:hi<=rows2.length):Eu rows2 (A4 rows2 lo (DD (Ow.window rows2 lo hi))):=by
 have hl:(DD (Ow.window rows2 lo hi)).length=hi - lo:=by rw[Ip];simp[Ow.window];omega
 refine⟨EZ _ _ _ (by omega),λi x hx=> ?_,λi j=> ?_⟩
 ·rw[Dt _ _ _ (by omega),hl];by_cases c:lo<=i/\i<lo+(hi - lo)
  ·rw[if_pos c,Ip,List.getElem?_map];have:(Ow.window rows2 lo hi)[i - lo]? =rows2[i]? :=by
    unfold Ow.window;rw[List.getElem?_drop,List.getElem?_take,if_pos (by omega),show lo+(i - lo)=i by omega]
   rw[this,hx];exact⟨F0 x,rfl,In x⟩
  ·rw[if_neg c];exact⟨x,hx,rfl⟩
 ·rw[LO h1 h2];by_cases c:lo<=i/\i<hi
  ·rw[if_pos c]
   cases AI rows2 i j with
   |none=>trivial
   |some d=>cases d<;>simp[holeT,PD]
  ·rw[if_neg c];exact PD.refl _
theorem G3 {k:Nat} {rows2:List (List T)} {lo hi:Nat} (h1:lo<=hi) (h2:hi<=rows2.length) (i j:Nat) (q:AQ):
  AM k (A4 rows2 lo (DD (Ow.window rows2 lo hi))) ((i,j)::q)=if lo<=i/\i<hi then none else AM k rows2 ((i,j)::q):=by
 simp only[AM,LO h1 h2]
 by_cases c:lo<=i/\i<hi
 ·rw[if_pos c,if_pos c]
  cases AI rows2 i j with
  |none=>rfl
  |some d=>cases d<;>rfl
 ·rw[if_neg c,if_neg c]
theorem GK {α:Type} (r1 r2:List (List α)) (i j:Nat):AI (r1++r2) i j=if i<r1.length then AI r1 i j else AI r2 (i - r1.length) j:=by
 unfold AI;rw[List.getElem?_append];by_cases c:i<r1.length
 ·rw[if_pos c,if_pos c]
 ·rw[if_neg c,if_neg c]
theorem Jn {k:Nat} (r1 r2:List (List T)) (i j:Nat) (q:AQ):AM k (r1++r2) ((i,j)::q)=if i<r1.length then AM k r1 ((i,j)::q)else AM k r2 ((i - r1.length,j)::q):=by
 simp only[AM,GK];by_cases c:i<r1.length
 ·rw[if_pos c,if_pos c]
 ·rw[if_neg c,if_neg c]
def MJ (mv:Bool) (o1 o2 lo hi o len:Nat) (o':Nat) (q:AQ):Option (Nat×AQ):=
 if o'=o1 then
  match q with
  |[]=>none
  |b::r=>some (o,b::r)
 else if mv=true/\o'=o2 then
  match q with
  |(i,j)::r=>if lo<=i/\i<hi then some (o,(len+(i - lo),j)::r)else some (o',q)
  |[]=>some (o',q)
 else some (o',q)
def Ko (e:Env) (o1 o2 lo len:Nat) (v:Value):AQ->Value
 |[]=>v
 |(i,j)::r=>if i<len then e.hd o1 ((i,j)::r)else e.hd o2 ((lo+(i - len),j)::r)
theorem Uc (hR:Rel fm e s a) {o1 o k:Nat} {rows new:List (List T)} (h1:e.ob o1= .arr k rows) (hno:e.ob o= .none) (hm:s.m<=o) (mv:Bool) {o2 lo hi:Nat} {rows2:List (List T)}
  (hmv:mv=true->e.ob o2= .arr k rows2/\o2≠o1/\lo<=hi/\hi<=rows2.length/\new=Ow.window rows2 lo hi) (hflat:mv=false->An new=true) {w':World} {v:Value}
  (hnode:Bq w' v k (rows++new) (λi j=>Ko e o1 o2 lo rows.length v [(i,j)])) (hblk: ∀b,BC v=some b->BC (e.hd o1 [])=some b\/b=e.w.heap.size/\b<w'.heap.size)
  (hold: ∀x,x<e.w.heap.size->BC (e.hd o1 [])≠some x->w'.heap[x]? =e.w.heap[x]?) (hsz:e.w.heap.size<=w'.heap.size) (hk:D7 fm.w0 fm.F w')
  (hsn:s'.n=s.n) (hsm:s'.m=s.m) (htm: ∀t,Aw s'.tm t=(Aw s.tm t).sub (MJ mv o1 o2 lo hi o rows.length))
  (hob: ∀o',AN s'.ob o'=(if o'=o then .arr k (rows++new)else if o'=o1 then .none else if mv=true/\o'=o2 then .arr k (A4 rows2 lo (DD (Ow.window rows2 lo hi)))else AN s.ob o').sub (MJ mv o1 o2 lo hi o rows.length)):
  ∃e',e'.w=w'/\Rel fm e' s' a/\AS e' (.ref o []) v/\B0 e e' (MJ mv o1 o2 lo hi o rows.length):=by
 let f:=MJ mv o1 o2 lo hi o rows.length
 have hoo:o1≠o:=λh=>by rw[h,hno]at h1;cases h1
 have ho2:mv=true->o2≠o:=λh h2=>by have:=(hmv h).1;rw[h2,hno]at this;cases this
 let e':Env:={w:=w',ob:=λo'=>(if o'=o then .arr k (rows++new)else if o'=o1 then .none else if mv=true/\o'=o2 then .arr k (A4 rows2 lo (DD (Ow.window rows2 lo hi)))else e.ob o').sub f,hd:=λo' q=>if o'=o then Ko e o1 o2 lo rows.length v q else e.hd o' q,bk:=e.bk,Im:=e.Im,tk:=e.tk}
 have hn1: ∀q,e'.node o1 q=none:=λq=>by simp[Env.node,e',hoo,Obj.sub]
 have hno': ∀q,e'.node o q=AM k (rows++new) q:=λq=>by simp[Env.node,e',Obj.sub]
 have hn2:mv=true-> ∀q,e'.node o2 q=AM k (A4 rows2 lo (DD (Ow.window rows2 lo hi))) q:=λh q=>by
  simp[Env.node,e',Obj.sub,ho2 h,(hmv h).2.1,h]
 have hnx: ∀o',o'≠o->o'≠o1-> ¬ (mv=true/\o'=o2)-> ∀q,e'.node o' q=e.node o' q:=λo' c1 c2 c3 q=>by
  unfold Env.node;simp only[e',if_neg c1,if_neg c2,if_neg c3];exact Ie
 have hq1: ∀q,e.node o1 q=AM k rows q:=λq=>BV h1 q
 have hq2:mv=true-> ∀q,e.node o2 q=AM k rows2 q:=λh q=>BV (hmv h).1 q
 have hhx: ∀o',o'≠o-> ∀q,e'.hd o' q=e.hd o' q:=λo' h q=>by simp[e',h]
 have hho: ∀q,e'.hd o q=Ko e o1 o2 lo rows.length v q:=λq=>by simp[e']
 have hnew: ∀i j q x,AM k (rows++new) ((i,j)::q)=some x->(i<rows.length/\e.node o1 ((i,j)::q)=some x)\/(¬i<rows.length/\mv=true/\e.node o2 ((lo+(i - rows.length),j)::q)=some x/\lo+(i - rows.length)<hi):=by
  intro i j q x h;rw[Jn]at h;by_cases c:i<rows.length
  ·rw[if_pos c]at h;exact .inl ⟨c,by rw[hq1];exact h⟩
  ·rw[if_neg c]at h;refine .inr ⟨c,?_⟩
   cases hmvc:mv with
   |false=>
    exfalso;simp only[AM]at h;split at h
    ·rename_i k' r' hc;exact Dk (hflat hmvc) hc k' r' rfl
    ·cases h
   |true=>
    obtain⟨g1,g2,g3,g4,rfl⟩:=hmv hmvc;have:=JB h;simp only[shift]at this;refine⟨rfl,by rw[hq2 hmvc];exact this,?_⟩;have hlt:i - rows.length<(Ow.window rows2 lo hi).length:=by
     simp only[AM]at h;split at h
     ·rename_i k' r' hc;obtain⟨r,hr,_⟩:=AZ hc;exact(List.getElem?_eq_some_iff.1 hr).1
     ·cases h
    simp[Ow.window]at hlt;omega
 have hbox: ∀ {o3 cs},e'.ob o3= .box cs-> ∃cs0,e.ob o3= .box cs0/\cs=CL f cs0:=λ{o3 cs} h=>by
  simp only[e']at h;obtain⟨cs0,g1,g2⟩:=Obj.sub_box.1 h;by_cases c1:o3=o
  ·rw[if_pos c1]at g1;cases g1
  ·rw[if_neg c1]at g1;by_cases c2:o3=o1
   ·rw[if_pos c2]at g1;cases g1
   ·rw[if_neg c2]at g1;by_cases c3:mv=true/\o3=o2
    ·rw[if_pos c3]at g1;cases g1
    ·rw[if_neg c3]at g1;exact⟨cs0,g1,g2⟩
 have hC:B0 e e' f:=by
  refine⟨λb hb=>⟨hb,hold b (hR.mem.im b hb).1 λh=> ?_⟩,λo3 p k3 r3 o' p' h3 hf=> ?_,λo3 cs hb=> ?_,λo3 p k3 r3 h3=>(hR.mem.node o3 p k3 r3 h3).one,rfl⟩
  ·exact(hR.mem.own (.nd o1 []) b (AY (by rw[hq1];rfl) h)).2.2 hb
  ·by_cases c1:o3=o1
   ·subst c1;simp only[f,MJ,if_true]at hf
    cases p with
    |nil=>cases hf
    |cons b r=>
     obtain⟨i,j⟩:=b
     cases hf
     rw[hq1]at h3;have hi:i<rows.length:=by
      simp only[AM]at h3;split at h3
      ·rename_i k' r' hc;obtain⟨r,hr,_⟩:=AZ hc;exact(List.getElem?_eq_some_iff.1 hr).1
      ·cases h3
     refine⟨r3,?_,rfl,?_⟩
     ·rw[hno',Jn,if_pos hi];exact h3
     ·rw[hho];simp[Ko,hi]
   ·by_cases c2:mv=true/\o3=o2
    ·obtain⟨hmt,rfl⟩:=c2;obtain⟨g1,g2,g3,g4,rfl⟩:=hmv hmt;rw[hq2 hmt]at h3;simp only[f,MJ,if_neg c1,hmt,true_and,if_true]at hf
     cases p with
     |nil=>
      cases hf
      simp only[AM,Option.some.injEq,Prod.mk.injEq]at h3;obtain⟨rfl,rfl⟩:=h3;exact⟨_,by rw[hn2 hmt];rfl,(MZ g3 g4).len,hhx _ (ho2 hmt) _⟩
     |cons b r=>
      obtain⟨i,j⟩:=b;simp only at hf;split at hf
      ·rename_i hc
       cases hf
       refine⟨r3,?_,rfl,?_⟩
       ·rw[hno',Jn,if_neg (by omega),show rows.length+(i - lo) - rows.length=i - lo by omega,Hr hc.1 hc.2];exact h3
       ·rw[hho];simp only[Ko];rw[if_neg (by omega),show lo+(rows.length+(i - lo) - rows.length)=i by omega]
      ·rename_i hc
       cases hf
       exact⟨r3,by rw[hn2 hmt,G3 g3 g4,if_neg hc];exact h3,rfl,hhx _ (ho2 hmt) _⟩
    ·simp only[f,MJ,if_neg c1,if_neg c2]at hf
     cases hf
     have c3:o3≠o:=λh=>by rw[h]at h3;simp[Env.node,hno]at h3
     exact⟨r3,by rw[hnx o3 c3 c1 c2];exact h3,rfl,hhx o3 c3 p⟩
  ·have c1:o3≠o1:=λh=>by rw[h,h1]at hb;cases hb
   have c3:o3≠o:=λh=>by rw[h,hno]at hb;cases hb
   have c2: ¬ (mv=true/\o3=o2):=fun⟨hmt,h⟩=>by rw[h,(hmv hmt).1]at hb;cases hb
   exact⟨CL f cs,by simp only[e',if_neg c3,if_neg c1,if_neg c2,hb,Obj.sub],rfl⟩
 have hself:AS e' (.ref o []) v:=by
  have:=AS.ref (e:=e') o [] k (rows++new) (by rw[hno'];rfl);rw[hho]at this;exact this
 refine⟨e',rfl,⟨?_,λo'=> ?_,λo' k' r' g1 g2=> ?_,λo' cs g1 g2=> ?_,by rw[hsn];exact hR.size,hR.defers,λt=>by rw[htm];exact(hR.tm t).sub hC⟩,hself,hC⟩
 ·have hA:Asm2 fm e e' (λo' q=>if o'=o then(match q with
    |[]=>none
    |(i,j)::r=>if i<rows.length then some (o1,(i,j)::r)else some (o2,(lo+(i - rows.length),j)::r))else some (o',q))
    (λb=>BC (e.hd o1 [])=some b\/b=e.w.heap.size/\b<w'.heap.size):=by
   refine⟨?_,?_,?_,?_,?_,?_,?_,?_,?_⟩
   ·intro o' p' o3 p3 k3 r3 g1 g2
    by_cases c1:o'=o
    ·subst c1
     rw[if_pos rfl]at g1
     rw[hno']at g2
     cases p' with
     |nil=>cases g1
     |cons b q=>
      obtain⟨i,j⟩:=b;simp only at g1;rcases hnew i j q _ g2 with ⟨c,y1⟩|⟨c,hmt,y1,y2⟩
      ·rw[if_pos c]at g1
       cases g1
       refine⟨r3,y1,Eu.refl _,by rw[hho];simp[Ko,c],λi' j' k4 r4 _=>by rw[hho];simp[Ko,c]⟩
      ·rw[if_neg c]at g1
       cases g1
       refine⟨r3,y1,Eu.refl _,by rw[hho];simp[Ko,c],λi' j' k4 r4 _=>by rw[hho];simp[Ko,c]⟩
    ·rw[if_neg c1]at g1
     cases g1
     have c2:o'≠o1:=λh=>by rw[h,hn1]at g2;cases g2
     by_cases c3:mv=true/\o'=o2
     ·obtain⟨hmt,rfl⟩:=c3
      obtain⟨y1,y2,y3,y4,_⟩:=hmv hmt
      rw[hn2 hmt]at g2
      cases p' with
      |nil=>
       simp only[AM,Option.some.injEq,Prod.mk.injEq]at g2;obtain⟨rfl,rfl⟩:=g2;exact⟨rows2,by rw[hq2 hmt];rfl,MZ y3 y4,hhx _ c1 _,λ_ _ _ _ _=>hhx _ c1 _⟩
      |cons b q=>
       obtain⟨i,j⟩:=b;rw[G3 y3 y4]at g2;split at g2
       ·cases g2
       ·exact⟨r3,by rw[hq2 hmt];exact g2,Eu.refl _,hhx _ c1 _,λ_ _ _ _ _=>hhx _ c1 _⟩
     ·rw[hnx o' c1 c2 c3]at g2
      exact⟨r3,g2,Eu.refl _,hhx _ c1 _,λ_ _ _ _ _=>hhx _ c1 _⟩
   ·intro o' p' o3 p3 b g1 g2 hb
    have hne:BC (e.hd o1 [])≠some b:=λh=>by
     have:=hR.mem.inj _ _ _ hb (AY (by rw[hq1];rfl) h);simp only[Pl.nd.injEq]at this;obtain⟨rfl,rfl⟩:=this;by_cases c1:o'=o
     ·rw[if_pos c1]at g1
      cases p' with
      |nil=>cases g1
      |cons b q=>obtain⟨i,j⟩:=b;simp only at g1;split at g1<;>simp at g1
     ·rw[if_neg c1]at g1;simp only[Option.some.injEq,Prod.mk.injEq]at g1;obtain⟨rfl,rfl⟩:=g1;rw[hn1]at g2;cases g2
    obtain⟨y1,y2,y3⟩:=hR.mem.own _ b hb
    exact⟨hold b y1 hne,y3,λh=>by rcases h with h|h;exact hne h;omega⟩
   ·intro o3 p3 o4 p4 x g1 g2 s1 s2
    have key: ∀o3 p3,(if o3=o then(match p3 with
      |[]=>none
      |(i,j)::r=>if i<rows.length then some (o1,(i,j)::r)else some (o2,(lo+(i - rows.length),j)::r))else some (o3,p3))=some x->(e'.node o3 p3).isSome->
      (o3=o/\ ∃i j r,p3=(i,j)::r/\((i<rows.length/\x=(o1,(i,j)::r))\/(¬i<rows.length/\mv=true/\lo+(i - rows.length)<hi/\x=(o2,(lo+(i - rows.length),j)::r))))\/
      (o3≠o/\o3≠o1/\x=(o3,p3)/\(mv=true->o3=o2-> ∀i j r,p3=(i,j)::r-> ¬ (lo<=i/\i<hi))):=by
     intro o3 p3 g1 s1
     by_cases c1:o3=o
     ·subst c1
      rw[if_pos rfl]at g1
      cases p3 with
      |nil=>cases g1
      |cons b q=>
       obtain⟨i,j⟩:=b;simp only at g1;rw[hno']at s1;obtain⟨y,hy⟩:=Option.isSome_iff_exists.1 s1;refine .inl ⟨rfl,i,j,q,rfl,?_⟩;rcases hnew i j q _ hy with ⟨c,_⟩|⟨c,hmt,_,h5⟩
       ·rw[if_pos c]at g1;cases g1;exact .inl ⟨c,rfl⟩
       ·rw[if_neg c]at g1;cases g1;exact .inr ⟨c,hmt,h5,rfl⟩
     ·rw[if_neg c1]at g1
      cases g1
      refine .inr ⟨c1,λh=>(by rw[h,hn1]at s1;cases s1),rfl,λhmt ho i j r hp hc=> ?_⟩
      subst ho;subst hp
      obtain⟨y1,y2,y3,y4,_⟩:=hmv hmt
      rw[hn2 hmt,G3 y3 y4,if_pos hc]at s1
      cases s1
    rcases key o3 p3 g1 s1 with ⟨rfl,i,j,r,rfl,hx⟩|⟨c1,c2,hx,hc⟩<;>rcases key o4 p4 g2 s2 with ⟨h4,i',j',r',rfl,hx'⟩|⟨c1',c2',hx',hc'⟩
    ·refine⟨h4.symm,?_⟩
     rcases hx with ⟨y1,rfl⟩|⟨y1,hmt,y2,rfl⟩<;>rcases hx' with ⟨z1,hz⟩|⟨z1,hmt',z2,hz⟩
     ·simp only[Prod.mk.injEq,true_and]at hz;exact hz
     ·simp only[Prod.mk.injEq]at hz;exact absurd hz.1.symm (hmv hmt').2.1
     ·simp only[Prod.mk.injEq]at hz;exact absurd hz.1 (hmv hmt).2.1
     ·simp only[Prod.mk.injEq,true_and,List.cons.injEq]at hz
      obtain⟨⟨hz1,hz2⟩,hz3⟩:=hz
      simp only[List.cons.injEq,Prod.mk.injEq]
      exact⟨⟨by omega,hz2⟩,hz3⟩
    ·exfalso
     rcases hx with ⟨y1,rfl⟩|⟨y1,hmt,y2,rfl⟩
     ·simp only[Prod.mk.injEq]at hx';exact c2' hx'.1.symm
     ·simp only[Prod.mk.injEq]at hx';exact hc' hmt hx'.1.symm _ _ _ hx'.2.symm ⟨by omega,y2⟩
    ·exfalso
     rcases hx' with ⟨y1,rfl⟩|⟨y1,hmt,y2,rfl⟩
     ·simp only[Prod.mk.injEq]at hx;exact c2 hx.1.symm
     ·simp only[Prod.mk.injEq]at hx;exact hc hmt hx.1.symm _ _ _ hx.2.symm ⟨by omega,y2⟩
    ·rw[hx]at hx';simp only[Prod.mk.injEq]at hx';exact hx'
   ·intro o' p' k3 r3 g1 g2
    have hop:o'=o/\p'=[]:=by
     by_cases c1:o'=o
     ·rw[if_pos c1]at g1
      cases p' with
      |nil=>exact⟨c1,rfl⟩
      |cons b q=>obtain⟨i,j⟩:=b;simp only at g1;split at g1<;>cases g1
     ·rw[if_neg c1]at g1;cases g1
    obtain⟨rfl,rfl⟩:=hop
    rw[hno']at g2
    simp only[AM,Option.some.injEq,Prod.mk.injEq]at g2
    obtain⟨rfl,rfl⟩:=g2
    rw[hho]
    exact hnode.subs λi j=>hho _
   ·intro o' p' b g1 g2
    have hop: ∀ {o' p'},(if o'=o then(match p' with
      |[]=>none
      |(i,j)::r=>if i<rows.length then some (o1,(i,j)::r)else some (o2,(lo+(i - rows.length),j)::r))else some (o',p'))=(none:Option (Nat×AQ))->o'=o/\p'=[]:=by
     intro o' p' g1
     by_cases c1:o'=o
     ·rw[if_pos c1]at g1
      cases p' with
      |nil=>exact⟨c1,rfl⟩
      |cons b q=>obtain⟨i,j⟩:=b;simp only at g1;split at g1<;>cases g1
     ·rw[if_neg c1]at g1;cases g1
    obtain⟨rfl,rfl⟩:=hop g1
    obtain⟨k3,r3,_,hb⟩:=E9 g2
    rw[hho]at hb
    refine⟨hblk b hb,λo4 p4 y1 _=> ?_⟩
    obtain⟨rfl,rfl⟩:=hop y1
    exact⟨rfl,rfl⟩
   ·intro b hb
    rcases hb with hb|⟨rfl,hb⟩
    ·obtain⟨y1,y2,y3⟩:=hR.mem.own (.nd o1 []) b (AY (by rw[hq1];rfl) hb)
     exact⟨Nat.lt_of_lt_of_le y1 hsz,y2,y3⟩
    ·refine⟨hb,.inl hR.mem.keeps.size,λh=> ?_⟩
     have:=(hR.mem.im _ h).1
     omega
   ·intro o3 cs hb
    obtain⟨cs0,g1,rfl⟩:=hbox hb
    obtain⟨y1,y2,y3⟩:=hR.mem.own _ _ (Ag g1)
    refine .inl ⟨cs0,g1,rfl,y3,λh=> ?_⟩
    rcases h with h|h
    ·have:=hR.mem.inj _ _ _ (Ag g1) (AY (by rw[hq1];rfl) h)
     cases this
    ·omega
   ·intro o3 cs hb j c hc
    obtain⟨cs0,g1,rfl⟩:=hbox hb
    rw[Bf,List.getElem?_map]at hc
    cases hx:cs0[j]? with
    |none=>simp[hx]at hc
    |some x=>
     simp[hx]at hc;subst hc;obtain⟨q1,u,q2,q3⟩:=hR.mem.box o3 cs0 g1 j x hx;have hb2:w'.heap[e.bk o3]? =e.w.heap[e.bk o3]? :=hold _ (hR.mem.own _ _ (Ag g1)).1 λh=>by
      have:=hR.mem.inj _ _ _ (Ag g1) (AY (by rw[hq1];rfl) h)
      cases this
     exact⟨q1.congr hb2,u,by rw[<-q2];exact CC hb2,q3.sub hC⟩
   ·exact hsz
  exact hR.mem.asm2 hA (λx hx=>⟨Nat.lt_of_lt_of_le (hR.mem.im x hx).1 hsz,(hR.mem.im x hx).2⟩) hR.mem.im0 hk
 ·rw[hob]
  simp only[e']
  by_cases c1:o'=o
  ·simp[c1,f]
  ·by_cases c2:o'=o1
   ·simp[c2,hoo,f]
   ·by_cases c3:mv=true/\o'=o2
    ·simp only[if_neg c1,if_neg c2,if_pos c3,f]
    ·simp only[if_neg c1,if_neg c2,if_neg c3,hR.ob,f]
 ·rw[hsm]at g1
  have c1:o'≠o:=λh=>by omega
  rw[hhx o' c1]
  have h3:=Obj.sub_arr.1 g2
  rw[if_neg c1]at h3
  by_cases c2:o'=o1
  ·rw[if_pos c2]at h3;cases h3
  ·rw[if_neg c2]at h3
   by_cases c3:mv=true/\o'=o2
   ·obtain⟨hmt,rfl⟩:=c3
    exact hR.pinh _ _ _ g1 (hmv hmt).1
   ·rw[if_neg c3]at h3;exact hR.pinh o' k' r' g1 h3
 ·rw[hsm]at g1
  obtain⟨cs0,h3,_⟩:=hbox g2
  exact hR.pinb o' cs0 g1 h3
end
section
variable {P:Program} {fm:Fm} {M:List Nat} {e e':Env} {s s':St} {a:Act} {Q:Exit->Act->World->Prop}
variable {K:Nat->List Arg->Option Res} {md:Nat->List Nat}
structure Sw (w:World) (v:Value) (k:Nat) (new:List (List T)) (hx:Nat->Nat->Value) (us:Nat->Value):Prop where
 val: ∃ad c,v= .slice ad new.length c/\(ad=none->new.length=0)/\ ∀x,ad=some x-> ∀m,m<new.length*k->w.cell? (x.add m)=some (us m)
 row: ∀r∈new,r.length=k
 cell: ∀i j d,AI new i j=some d->CU d (us (i*k+j)) (hx i j)
 one: ∀m,m<new.length*k->(us m).oneCell'=true
theorem CU.oneCell {d:T} {u x:Value} (h:CU d u x) (hx: ∀k r,d= .sl k r->x.oneCell'=true):u.oneCell'=true:=by
 cases d with
 |sc v=>obtain⟨rfl,hs⟩:=h;cases u<;>first|rfl|(simp[ES]at hs)
 |sl k r=>simp only[CU]at h;rw[h];exact hx k r rfl
 |hole=>exact h
theorem Vp {w:World} {Im:Nat->Prop} {v:Value} {k:Nat} {new:List (List T)} (h:POk w Im v (.sl k new)) (hf:An new=true) (hx:Nat->Nat->Value): ∃us,Sw w v k new hx us:=by
 cases h with
 |nil ad c k=>exact⟨λ_=>undef,⟨ad,c,rfl,λ_=>rfl,λx _ m hm=>(by simp at hm)⟩,λr hr=>(by cases hr),λi j d hd=>(by simp[AI]at hd),λm hm=>(by simp at hm)⟩
 |sl b off c k rows us him hle hk hc hs=>
  have key: ∀i j d,AI new i j=some d->w.cell? ⟨b,off+(i*k+j),none⟩=some (us i j)/\DV d (us i j):=λi j d hd=>⟨hc i j d hd,Nm (hs i j d hd) (Dk hf hd)⟩
  refine⟨λm=>(w.cell? ⟨b,off+m,none⟩).getD undef,⟨some ⟨b,off,none⟩,c,rfl,λh=>(by cases h),λx hx m hm=> ?_⟩,hk,λi j d hd=> ?_,λm hm=> ?_⟩
  ·cases hx
   obtain⟨i,j,rfl,hi,hj⟩:=CB hm;obtain⟨d,hd⟩:=Dz hk hi hj;rw[BZ,(key i j d hd).1];rfl
  ·obtain⟨g1,g2⟩:=key i j d hd;simp only[g1,Option.getD_some];rcases g2 with ⟨v,rfl,g3,g4⟩|⟨rfl,g3⟩
   ·exact⟨g3,g4⟩
   ·exact g3
  ·obtain⟨i,j,rfl,hi,hj⟩:=CB hm;obtain⟨d,hd⟩:=Dz hk hi hj;obtain⟨g1,g2⟩:=key i j d hd;simp only[g1,Option.getD_some];exact Eg g2
theorem Xj (hM:Mem fm e) {o k lo hi:Nat} {p:AQ} {rows:List (List T)} {v:Value} (hn:e.node o p=some (k,rows)) (h1:lo<=hi) (h2:hi<=rows.length) (hw:Gt (e.hd o p) k lo hi v):
  ∃us,Sw e.w v k (Ow.window rows lo hi) (λi j=>e.hd o (p++[(lo+i,j)])) us:=by
 have hok:=(hM.node o p k rows hn).window hw h1 h2
 obtain⟨ad,c,rfl,hle,hx⟩:=hok
 by_cases hc:0<c
 ·obtain⟨b,off,rfl,g1,g2,g3⟩:=hx hc
  have hone: ∀i j d,AI (Ow.window rows lo hi) i j=some d-> ∀k1 r1,d= .sl k1 r1->(e.hd o (p++[(lo+i,j)])).oneCell'=true:=by
   intro i j d hd k1 r1 h;subst h;have hd':=Dn _ _ _ _ _ hd;have:e.node o (p++[(lo+i,j)])=some (k1,r1):=by
    obtain⟨k0,rows0,y1,y2⟩:=FY hn;rw[BV y1,BI,y2];simp[AM,hd']
   exact(hM.node _ _ _ _ this).one
  refine⟨λm=>(e.w.cell? ⟨b,off+m,none⟩).getD undef,⟨some ⟨b,off,none⟩,c,rfl,λh=>(by cases h),λx hx m hm=> ?_⟩,g2,λi j d hd=> ?_,λm hm=> ?_⟩
  ·cases hx
   obtain⟨i,j,rfl,hi,hj⟩:=CB hm
   obtain⟨d,hd⟩:=Dz g2 hi hj
   obtain⟨u,hu,_⟩:=g3 i j d hd
   rw[BZ,hu];rfl
  ·obtain⟨u,hu,hok⟩:=g3 i j d hd
   simp only[hu,Option.getD_some];exact hok
  ·obtain⟨i,j,rfl,hi,hj⟩:=CB hm
   obtain⟨d,hd⟩:=Dz g2 hi hj
   obtain⟨u,hu,hok⟩:=g3 i j d hd
   simp only[hu,Option.getD_some]
   exact hok.oneCell (hone i j d hd)
 ·have hz:(Ow.window rows lo hi)=[]:=List.eq_nil_of_length_eq_zero (by omega)
  rw[hz]at hle ⊢
  exact⟨λ_=>undef,⟨ad,c,rfl,λ_=>rfl,λx _ m hm=>(by simp at hm)⟩,λr hr=>(by cases hr),λi j d hd=>(by simp[AI]at hd),λm hm=>(by simp at hm)⟩
theorem Sw.src {w:World} {v:Value} {k:Nat} {new:List (List T)} {hx:Nat->Nat->Value} {us:Nat->Value} (h:Sw w v k new hx us) {tx el:TypeId} (hk:P.underlying tx=some (.slice el)):
  Src P k tx v new.length ((List.range (new.length*k)).map us) w:=by
 obtain⟨ad,c,rfl,h0,hc⟩:=h.val
 cases ad with
 |none=>
  have:=h0 rfl;rw[this];simpa using Src.ofNil w (size:=k) hk c
 |some x=>
  refine Src.ofSlice w hk x new.length c _ (by simp) (λj u hu=> ?_) (λu hu=> ?_)
  ·rw[List.getElem?_map]at hu;by_cases hj:j<new.length*k
   ·rw[List.getElem?_range hj]at hu;simp at hu;subst hu;exact hc x rfl j hj
   ·rw[List.getElem?_eq_none (by simp;omega)]at hu;cases hu
  ·obtain⟨m,hm,rfl⟩:=List.mem_map.1 hu;exact h.one m (by simpa using hm)
theorem Mc (w:World) (need old:Nat) (el:TypeId):need<=grownCap w need old el:=by
 simp[grownCap,Question.cut]
theorem Fk {d:T} {u x y:Value} (h:CU d u x) (hxy: ∀k r,d= .sl k r->y=x):CU d u y:=by
 cases d with
 |sc v=>exact h
 |hole=>exact h
 |sl k r=>rw[hxy k r rfl];exact h
structure KK (P:Program) (w:World) (el:TypeId) (i:TypeInfo) (z:Value) (ats:Array TypeId) (ty:TypeId) (uy:Value) (n:Nat) (news:List Value):Prop where
 room: ∀b off sLen sCap w',sLen+n<=sCap->0<n->(∀m,m<news.length->Wr w b (off+sLen*i.size+m))->(∀v∈news,v.oneCell'=true)->(storeCells ⟨b,off+sLen*i.size,none⟩ news).run P w= .ok () w'->
  (Builtin.append_ ats ty #[.slice (some ⟨b,off,none⟩) sLen sCap,uy]).run P w= .ok (.slice (some ⟨b,off,none⟩) (sLen+n) sCap) w'
 none_:n=0-> ∀base sLen sCap,sLen<=sCap->(Builtin.append_ ats ty #[.slice base sLen sCap,uy]).run P w= .ok (.slice base sLen sCap) w
 grow: ∀base sLen sCap olds,(Builtin.firstCells i.size sLen (.slice base sLen sCap)).run P w.drew= .ok olds.toArray w.drew->sCap<sLen+n->((sLen+n:Nat):Int)<=9223372036854775807->
  Builtin.nextslicecap (sLen+n) sCap*i.bytes<=281474976710656->(Builtin.append_ ats ty #[.slice base sLen sCap,uy]).run P w=
   .ok (.slice (some ⟨w.heap.size,0,none⟩) (sLen+n) (grownCap w (sLen+n) sCap el)) (w.drew.alloc (.cells ((olds++news).toArray++Builtin.zeroCells z.cells (grownCap w (sLen+n) sCap el - (sLen+n))) el))
theorem KK.ofCome {w:World} {uy:Value} {i:TypeInfo} {z:Value} {new:List (List T)} {hx:Nat->Nat->Value} {us:Nat->Value} {t t2 ty el el2:TypeId} (h:Sw w uy i.size new hx us) (ht:P.underlying t=some (.slice el))
  (ht2:P.underlying t2=some (.slice el2)) (hi:P.info? el=some i) (hz:i.zero=some z):KK P w el i z #[t,t2] ty uy new.length ((List.range (new.length*i.size)).map us):=by
 have hsrc:=h.src (P:=P) ht2
 refine⟨λb off sLen sCap w' hroom _ hwr hone hst=> ?_,λh0 base sLen sCap hle=> ?_,λbase sLen sCap olds ho hg h63 hfit=>run_append_grow_src (P:=P) w t t2 ty el i z ht hi hz base sLen sCap olds ho uy new.length _ hsrc hg h63 hfit⟩
 ·have hc1: ∀m,m<((List.range (new.length*i.size)).map us).length->(w.cell? ⟨b,off+sLen*i.size+m,none⟩).isSome=true:=λm hm=>by
   obtain⟨⟨u,hu⟩,_⟩:=hwr m hm;rw[hu];rfl
  have hf1: ∀m,m<((List.range (new.length*i.size)).map us).length->w.frozen? ⟨b,off+sLen*i.size+m,none⟩=false:=λm hm=>(hwr m hm).2 _
  have hset:=run_storeCells_cells (P:=P) b (off+sLen*i.size) ((List.range (new.length*i.size)).map us) 0 w (by simpa using hc1) (by simpa using hf1) hone
  rw[hst]at hset
  simp only[Result.ok.injEq,true_and,Nat.add_zero]at hset
  rw[hset]
  exact run_append_room_src (P:=P) w t t2 ty el i ht hi b off sLen sCap uy new.length _ hsrc hroom hc1 hf1
 ·have hcells:=hsrc.cells
  have hlenof:=hsrc.len w
  rw[h0]at hcells hlenof
  simp only[Nat.zero_mul,List.range_zero,List.map_nil]at hcells
  cases base<;>simp[Builtin.append_,run_underlying ht,run_underlying ht2,sizeOf,typeInfo,hi,hlenof,hle,hcells,storeCells]
structure Re (k:Nat) (new:List (List T)) (hx:Nat->Nat->Value) (us:Nat->Value):Prop where
 row: ∀r∈new,r.length=k
 cell: ∀i j d,AI new i j=some d->CU d (us (i*k+j)) (hx i j)
 one: ∀m,m<new.length*k->(us m).oneCell'=true
theorem Sw.inn {w:World} {v:Value} {k:Nat} {new:List (List T)} {hx:Nat->Nat->Value} {us:Nat->Value} (h:Sw w v k new hx us):Re k new hx us:=⟨h.row,h.cell,h.one⟩
theorem SF {el:TypeId} {k bytes:Nat} (hk:Bk P el=some k) (hb:Do P el=some bytes) (hz:(Bc P el).map List.length=some k):
  ∃i z,P.info? el=some i/\i.size=k/\i.bytes=bytes/\i.zero=some z/\z.cells.size=k:=by
 cases hzo:Bc P el with
 |none=>simp[hzo]at hz
 |some zs=>
  simp[hzo]at hz;obtain⟨i,z,g1,g2,g3,_⟩:=EW hzo;refine⟨i,z,g1,?_,?_,g2,by rw[<-g3];exact hz⟩
  ·unfold Bk at hk;simpa[g1]using hk
  ·unfold Do at hb;simpa[g1]using hb
theorem PA (hM:Mem fm e) {o1:Nat} {rows new:List (List T)} {hx:Nat->Nat->Value} {us:Nat->Value} {uy:Value} {ats:Array TypeId} {ty el:TypeId} {i:TypeInfo} {z:Value} (h1:e.ob o1= .arr i.size rows) (hcome:Re i.size new hx us)
  (hsrc:KK P e.w el i z ats ty uy new.length ((List.range (new.length*i.size)).map us)) (hi5:z.cells.size=i.size) (hb0:0<i.bytes) (hfit:(rows.length+new.length)*i.bytes<=35184372088832) (sub:Nat->Nat->Value)
  (hsub1: ∀i j k1 r1,AI rows i j=some (.sl k1 r1)->sub i j=e.hd o1 [(i,j)]) (hsub2: ∀i j k1 r1,AI new i j=some (.sl k1 r1)->sub (rows.length+i) j=hx i j):
  ∃v w',(Builtin.append_ ats ty #[e.hd o1 [],uy]).run P e.w= .ok v w'/\Bq w' v i.size (rows++new) sub/\(∀b,BC v=some b->BC (e.hd o1 [])=some b\/b=e.w.heap.size/\b<w'.heap.size)/\
   (∀x,x<e.w.heap.size->BC (e.hd o1 [])≠some x->w'.heap[x]? =e.w.heap[x]?)/\e.w.heap.size<=w'.heap.size/\D7 fm.w0 fm.F w':=by
 have hn:e.node o1 []=some (i.size,rows):=by rw[BV h1];rfl
 obtain⟨ad,c,hv,hle,hx0⟩:=hM.node o1 [] i.size rows hn
 have hn1:rows.length+new.length<=(rows.length+new.length)*i.bytes:=Nat.le_mul_of_pos_right _ hb0
 have hsubs: ∀i j d,AI rows i j=some d-> ∀k1 r1,d= .sl k1 r1->sub i j=e.hd o1 [(i,j)]:=λi j d hd k1 r1 h=>hsub1 i j k1 r1 (h ▸ hd)
 by_cases hroom:rows.length+new.length<=c
 ·by_cases hpos:0<new.length
  ·obtain⟨b,off,rfl,hwr,hkr,hcell⟩:=hx0 (by omega)
   have hwr2: ∀m,m<new.length*i.size->Wr e.w b (off+rows.length*i.size+m):=λm hm=>by
    rw[show off+rows.length*i.size+m=off+(rows.length*i.size+m)by omega];refine hwr _ ?_;have:(rows.length+new.length)*i.size<=c*i.size:=Nat.mul_le_mul_right _ hroom;rw[Nat.add_mul]at this;omega
   have hlen:((List.range (new.length*i.size)).map us).length=new.length*i.size:=by simp
   have hone: ∀v∈(List.range (new.length*i.size)).map us,v.oneCell'=true:=λv hv=>by
    obtain⟨m,hm,rfl⟩:=List.mem_map.1 hv;exact hcome.one m (by simpa using hm)
   obtain⟨w',y1,y2⟩:=C8 (P:=P) ((List.range (new.length*i.size)).map us) e.w b (off+rows.length*i.size) 0 (λm hm=>by rw[Nat.add_zero];exact hwr2 m (by rw[<-hlen];exact hm)) hone
   rw[Nat.add_zero]at y2
   have hrun:=hsrc.room b off rows.length c w' hroom hpos (λm hm=>hwr2 m (by rw[<-hlen];exact hm)) hone y1
   have hbk:BC (e.hd o1 [])=some b:=by rw[hv];simp[BC];omega
   refine⟨_,w',by rw[hv];exact hrun,⟨_,c,by rw[List.length_append],by rw[List.length_append];exact⟨hroom,hle.2⟩,λ_=>⟨b,off,rfl,λx hx=>y2.wr (hwr x hx),λr hr=> ?_,λi' j d hd=> ?_⟩⟩,λb' hb'=> ?_,λx _ hx=>y2.other x λh=>hx (h ▸ hbk),by rw[y2.size];exact Nat.le_refl _,hM.keeps.stored y2 (hM.own (.nd o1 []) b (AY hn hbk)).2.1⟩
   ·rcases List.mem_append.1 hr with h|h
    ·exact hkr r h
    ·exact hcome.row r h
   ·rw[GK]at hd
    by_cases ci:i'<rows.length
    ·rw[if_pos ci]at hd
     obtain⟨u,hu,hok⟩:=hcell i' j d hd
     refine⟨u,?_,Fk hok (hsubs i' j d hd)⟩
     rw[y2.same]
     ·exact hu
     ·have hj:j<i.size:=by
       obtain⟨r,hr,hj⟩:=AZ hd;rw[<-hkr r (List.mem_of_getElem? hr)];exact(List.getElem?_eq_some_iff.1 hj).1
      have:=Cl ci hj
      omega
    ·rw[if_neg ci]at hd
     have hj:j<i.size:=by
      obtain⟨r,hr,hj⟩:=AZ hd;rw[<-hcome.row r (List.mem_of_getElem? hr)];exact(List.getElem?_eq_some_iff.1 hj).1
     have hi':i' - rows.length<new.length:=by
      obtain⟨r,hr,hj⟩:=AZ hd;exact(List.getElem?_eq_some_iff.1 hr).1
     have hidx:off+rows.length*i.size+((i' - rows.length)*i.size+j)=off+(i'*i.size+j):=by
      have:(rows.length+(i' - rows.length))*i.size=i'*i.size:=by rw[show rows.length+(i' - rows.length)=i' by omega]
      rw[Nat.add_mul]at this;omega
     refine⟨us ((i' - rows.length)*i.size+j),?_,Fk (hcome.cell _ j d hd) λk1 r1 h=> ?_⟩
     ·have:=y2.new (i:=(i' - rows.length)*i.size+j) (v:=us ((i' - rows.length)*i.size+j)) (by rw[List.getElem?_map,List.getElem?_range (Cl hi' hj)];rfl) (hwr2 _ (Cl hi' hj))
      rwa [hidx]at this
     ·have:=hsub2 (i' - rows.length) j k1 r1 (h ▸ hd)
      rwa [show rows.length+(i' - rows.length)=i' by omega]at this
   ·refine .inl ?_
    rw[hbk]
    have hc0:0<c:=by omega
    simpa[BC,hc0]using hb'
  ·
   have hnew:new=[]:=List.eq_nil_of_length_eq_zero (by omega)
   subst hnew
   refine⟨e.hd o1 [],e.w,?_,?_,λb hb=> .inl hb,λ_ _ _=>rfl,Nat.le_refl _,hM.keeps⟩
   ·rw[hv];exact hsrc.none_ rfl ad rows.length c hle.1
   ·rw[List.append_nil]
    obtain⟨ad2,c2,g1,g2,g3⟩:=hM.node o1 [] i.size rows hn
    refine⟨ad2,c2,g1,g2,λhc=> ?_⟩
    obtain⟨b,off,y1,y2,y3,y4⟩:=g3 hc
    refine⟨b,off,y1,y2,y3,λi' j d hd=> ?_⟩
    obtain⟨u,z1,z2⟩:=y4 i' j d hd
    exact⟨u,z1,Fk z2 (hsubs i' j d hd)⟩
 ·
  have hold: ∃us0:Nat->Value,(Builtin.firstCells i.size rows.length (.slice ad rows.length c)).run P e.w.drew= .ok ((List.range (rows.length*i.size)).map us0).toArray e.w.drew/\
    (∀r∈rows,r.length=i.size)/\ ∀i' j d,AI rows i' j=some d->CU d (us0 (i'*i.size+j)) (e.hd o1 [(i',j)]):=by
   by_cases hc:0<c
   ·obtain⟨b,off,rfl,hwr,hkr,hcell⟩:=hx0 hc
    refine⟨λm=>(e.w.cell? ⟨b,off+m,none⟩).getD undef,?_,hkr,λi' j d hd=> ?_⟩
    ·refine run_firstCells_some e.w.drew i.size rows.length ⟨b,off,none⟩ rows.length c _ (by simp) (λm u hu=> ?_)
     rw[List.getElem?_map]at hu
     by_cases hm:m<rows.length*i.size
     ·rw[List.getElem?_range hm]at hu
      simp at hu
      obtain⟨i',j,rfl,hi',hj⟩:=CB hm
      obtain⟨d,hd⟩:=Dz hkr hi' hj
      obtain⟨u2,hu2,_⟩:=hcell i' j d hd
      rw[hu2]at hu
      simp at hu
      subst hu
      rw[BZ]
      exact hu2
     ·rw[List.getElem?_eq_none (by simp;omega)]at hu;cases hu
    ·obtain⟨u,hu,hok⟩:=hcell i' j d hd
     simp only[hu,Option.getD_some];exact hok
   ·have hr0:rows=[]:=List.eq_nil_of_length_eq_zero (by omega)
    subst hr0
    refine⟨λ_=>undef,?_,λr hr=>(by cases hr),λi' j d hd=>by simp[AI]at hd⟩
    have:=HQ (P:=P) (k:=i.size) (c':=ad) (c:=c) (n:=0) e.w.drew
    simpa using this
  obtain⟨us0,ho1,hkr,ho2⟩:=hold
  have hg:c<rows.length+new.length:=by omega
  have hfit2:Builtin.nextslicecap (rows.length+new.length) c*i.bytes<=281474976710656:=growslice_fits hg (by omega)
  have hrun:=hsrc.grow ad rows.length c _ ho1 hg (by omega) hfit2
  have hcap:=Mc e.w (rows.length+new.length) c el
  have hcap2:grownCap e.w (rows.length+new.length) c el<=9223372036854775807:=grownCap_le_maxLen e.w (rows.length+new.length) c el (by unfold maxLen;omega)
  generalize hgc:grownCap e.w (rows.length+new.length) c el=gc at hrun hcap hcap2
  generalize harr:(((List.range (rows.length*i.size)).map us0++(List.range (new.length*i.size)).map us).toArray++Builtin.zeroCells z.cells (gc - (rows.length+new.length)))=arr at hrun
  have hgrew:Gu e.w (e.w.drew.alloc (.cells arr el)) (.cells arr el (0,0)):=⟨rfl,rfl,rfl,rfl⟩
  have hsize:arr.size=gc*i.size:=by
   rw[<-harr];simp[Builtin.zeroCells,hi5];rw[<-Nat.add_mul,<-Nat.add_mul];congr 1;omega
  have hget: ∀m,m<rows.length*i.size->arr[m]? =some (us0 m):=λm hm=>by
   rw[<-harr,Array.getElem?_append,if_pos (by simp;omega),List.getElem?_toArray,List.getElem?_append,if_pos (by simpa using hm),List.getElem?_map,List.getElem?_range hm];rfl
  have hget2: ∀m,m<new.length*i.size->arr[rows.length*i.size+m]? =some (us m):=λm hm=>by
   rw[<-harr,Array.getElem?_append,if_pos (by simp;omega),List.getElem?_toArray,List.getElem?_append,if_neg (by simp),List.getElem?_map];simp only[List.length_map,List.length_range];rw[show rows.length*i.size+m - rows.length*i.size=m by omega,List.getElem?_range hm];rfl
  have hlt: ∀ {i' j},i'<rows.length+new.length->j<i.size->i'*i.size+j<arr.size:=λh1 h2=>by
   rw[hsize];exact Cl (Nat.lt_of_lt_of_le h1 hcap) h2
  refine⟨_,_,by rw[hv];exact hrun,⟨_,gc,by rw[List.length_append],by rw[List.length_append];exact⟨hcap,hcap2⟩,λ_=>⟨_,0,rfl,λx hx=> ?_,λr hr=> ?_,λi' j d hd=> ?_⟩⟩,λb hb=> ?_,λx hx _=>hgrew.old hx,by rw[hgrew.size];omega,hM.keeps.grew hgrew⟩
  ·rw[Nat.zero_add];exact(hgrew.wr (HP _) (by rw[hsize];exact hx)).1
  ·rcases List.mem_append.1 hr with h|h
   ·exact hkr r h
   ·exact hcome.row r h
  ·rw[GK]at hd
   by_cases ci:i'<rows.length
   ·rw[if_pos ci]at hd
    have hj:j<i.size:=by
     obtain⟨r,hr,hj⟩:=AZ hd;rw[<-hkr r (List.mem_of_getElem? hr)];exact(List.getElem?_eq_some_iff.1 hj).1
    refine⟨us0 (i'*i.size+j),?_,Fk (ho2 i' j d hd) (hsubs i' j d hd)⟩
    rw[Nat.zero_add,(hgrew.wr (HP _) (hlt (by omega) hj)).2]
    exact hget _ (Cl ci hj)
   ·rw[if_neg ci]at hd
    have hj:j<i.size:=by
     obtain⟨r,hr,hj⟩:=AZ hd;rw[<-hcome.row r (List.mem_of_getElem? hr)];exact(List.getElem?_eq_some_iff.1 hj).1
    have hi':i' - rows.length<new.length:=by
     obtain⟨r,hr,hj⟩:=AZ hd;exact(List.getElem?_eq_some_iff.1 hr).1
    refine⟨us ((i' - rows.length)*i.size+j),?_,Fk (hcome.cell _ j d hd) λk1 r1 h=> ?_⟩
    ·rw[Nat.zero_add,(hgrew.wr (HP _) (hlt (by omega) hj)).2]
     have:=hget2 _ (Cl hi' hj)
     rw[<-this]
     congr 1
     have:(rows.length+(i' - rows.length))*i.size=i'*i.size:=by rw[show rows.length+(i' - rows.length)=i' by omega]
     rw[Nat.add_mul]at this;omega
    ·have:=hsub2 (i' - rows.length) j k1 r1 (h ▸ hd)
     rwa [show rows.length+(i' - rows.length)=i' by omega]at this
  ·refine .inr ?_
   simp only[BC]at hb
   split at hb
   ·cases hb;exact⟨rfl,by rw[hgrew.size];omega⟩
   ·cases hb
end
section
variable {P:Program} {fm:Fm} {M:List Nat} {e e':Env} {s s':St} {a:Act} {Q:Exit->Act->World->Prop}
variable {K:Nat->List Arg->Option Res} {md:Nat->List Nat}
theorem NP (z:Value) (n k:Nat) (h:z.cells.size=k):Builtin.zeroCells z.cells n=((List.range (n*k)).map λm=>z.cells[m%k]!).toArray:=by
 unfold Builtin.zeroCells;rw[h];apply Array.ext';simp[Array.toList_range]
theorem KK.zeros {w:World} {i:TypeInfo} {z:Value} {t t2 ty el:TypeId} {k2 k3:IntKind} {n:Nat} (ht:P.underlying t=some (.slice el)) (ht2:P.underlying t2=some (.int k2)) (hi:P.info? el=some i)
  (hz:i.zero=some z) (hzs:z.cells.size=i.size) (hb:0<i.bytes) (hn:n*i.bytes<=35184372088832):
  KK P w el i z #[t,t2] ty (.int k3 n) n ((List.range (n*i.size)).map λm=>z.cells[m%i.size]!):=by
 have hn1:n<=n*i.bytes:=Nat.le_mul_of_pos_right _ hb
 have hw:IntKind.i64.wrap (n:Int)=n:=by rw[IntKind.wrap_i64];omega
 have hneg: ¬ ((n:Int)<0):=by omega
 have h48: ¬ (281474976710656<(n:Int)*(i.bytes:Int)):=by rw[<-Int.natCast_mul];omega
 have happ:n*i.size=0->(List.range (n*i.size)).map (λm=>z.cells[m%i.size]!)=[]:=λh=>by rw[h];rfl
 have hzc:=congrArg Array.toList (NP z n i.size hzs)
 simp only at hzc
 refine⟨λb off sLen sCap w' hroom h0 hwr hone hst=> ?_,λh0 base sLen sCap hle=> ?_,λbase sLen sCap olds ho hg h63 hfit=> ?_⟩
 ·by_cases hz0:n*i.size=0
  ·rw[happ hz0]at hst
   simp only[storeCells,Sem.run_pure,Result.ok.injEq,true_and]at hst
   subst hst
   simp[Builtin.append_,run_underlying ht,run_underlying ht2,sizeOf,typeInfo,hi,asInt,asIntOf,hw,hneg,h48,hroom,hz0,storeCells]
  ·have hst':(storeCells ⟨b,off+sLen*i.size,none⟩ (Builtin.zeroCells z.cells n).toList).run P w= .ok () w':=by rw[hzc];exact hst
   simp[Builtin.append_,run_underlying ht,run_underlying ht2,sizeOf,typeInfo,hi,asInt,asIntOf,hw,hneg,h48,hroom,hz0,zeroValue,hz,BZ,hst']
 ·subst h0
  have hw0:IntKind.i64.wrap 0=0:=by rw[IntKind.wrap_i64];rfl
  cases base<;>simp[Builtin.append_,run_underlying ht,run_underlying ht2,sizeOf,typeInfo,hi,asInt,asIntOf,hw0,hle,storeCells]
 ·have hg': ¬ (sLen+n<=sCap):=by omega
  have h63': ¬ (9223372036854775807<((sLen:Int)+(n:Int))):=by omega
  have h48': ¬ (281474976710656<Builtin.nextslicecap (sLen+n) sCap*i.bytes):=by omega
  by_cases hz0:n*i.size=0
  ·rw[happ hz0]
   simp[Builtin.append_,run_underlying ht,run_underlying ht2,sizeOf,typeInfo,hi,hz,asInt,asIntOf,hw,hneg,h48,hg',hz0,h63',h48',zeroValue,Question.forced,ho,newRow,grownCap]
  ·simp[Builtin.append_,run_underlying ht,run_underlying ht2,sizeOf,typeInfo,hi,hz,asInt,asIntOf,hw,hneg,h48,hg',hz0,h63',h48',zeroValue,Question.forced,ho,newRow,grownCap]
   congr 2
   apply Array.ext'
   simp[hzc]
theorem Jv {o1 o k:Nat} {rows:List (List T)} (h:N8 s o1 o k rows=some s'):(AN s.ob o= .none\/o=o1)/\s.m<=o/\s'.n=s.n/\s'.m=s.m/\(∀t,Aw s'.tm t=(Aw s.tm t).sub (Kp o1 o))/\
  ∀o',AN s'.ob o'=if o'=o then .arr k rows else(if o'=o1 then .none else AN s.ob o').sub (Kp o1 o):=by
 unfold N8 at h
 obtain⟨h0,hm,rfl⟩:=Ke h
 refine⟨?_,hm,rfl,rfl,λt=>by rw[<-Gh];rfl,λo'=> ?_⟩
 ·rw[DE]at h0
  simp only[St.gone,DF]at h0
  by_cases c:o=o1
  ·exact .inr c
  ·rw[if_neg c]at h0
   refine .inl ?_
   cases hx:AN s.ob o<;>rw[hx]at h0<;>simp[Obj.sub]at h0 ⊢
 ·rw[BE]
  by_cases c:o'=o
  ·rw[if_pos c,if_pos c]
  ·rw[if_neg c,if_neg c,DE]
   simp only[St.gone,DF]
theorem JF {k o1:Nat} {x:AV} {rows:List (List T)} (h:Gf s k x=some (o1,rows)):x= .ref o1 []/\AN s.ob o1= .arr k rows:=by
 unfold Gf at h;split at h
 ·rename_i o1';split at h
  ·rename_i k' rows' h0;split at h
   ·rename_i hk
    cases h
    exact⟨rfl,by rw[h0,hk]⟩
   ·cases h
  ·cases h
 ·cases h
theorem HL (o1 o2 lo hi o len:Nat):MJ false o1 o2 lo hi o len=Kp o1 o:=by
 funext o' q
 unfold MJ Kp;by_cases c:o'=o1
 ·rw[if_pos c,if_pos c];cases q<;>rfl
 ·rw[if_neg c,if_neg c,if_neg (by simp)]
theorem QS {o1 o2 lo hi o len:Nat} (h1:o2≠o1) (h2:o2≠o):(λo' p=>match Kp o1 o o' p with
  |some (o',p')=>Ov o2 lo hi o len o' p'
  |none=>none)=MJ true o1 o2 lo hi o len:=by
 funext o' q
 unfold MJ Kp
 by_cases c:o'=o1
 ·rw[if_pos c,if_pos c]
  cases q with
  |nil=>rfl
  |cons b r=>
   show Ov o2 lo hi o len o (b::r)=some (o,b::r)
   unfold Ov;rw[if_neg (λh=>h2 h.symm)]
 ·rw[if_neg c,if_neg c]
  simp only[Ov]
  by_cases c2:o'=o2
  ·subst c2
   simp only[if_true,and_self]
   cases q<;>rfl
  ·rw[if_neg c2,if_neg (by simp[c2])]
theorem Sz {x:AV} {o k lo hi:Nat} {rows:List (List T)} (h:UD s x=some (o,k,rows,lo,hi)):(x= .ref o []/\lo=0/\hi=rows.length\/x= .vw o [] lo hi)/\AN s.ob o= .arr k rows/\lo<=hi/\hi<=rows.length:=by
 unfold UD at h;split at h
 ·split at h
  ·rename_i h0
   cases h
   exact⟨.inl ⟨rfl,rfl,rfl⟩,h0,Nat.zero_le _,Nat.le_refl _⟩
  ·cases h
 ·split at h
  ·rename_i h0;split at h
   ·rename_i hc
    cases h
    exact⟨.inr rfl,h0,hc.1,hc.2⟩
   ·cases h
  ·cases h
 ·cases h
theorem op_app (hR:Rel fm e s a) {o:Oper} {t t2 el:TypeId} {k bytes base:Nat} {x y:Operand} {X Y:Ow.X} (ho:o.op= .call {callee:= .builtin .append,args:= #[x,y],argTypes:= #[t,t2]})
  (ht:P.underlying t=some (.slice el)) (ht2:P.underlying t2=some (.slice el)) (hk:Bk P el=some k) (hb:Do P el=some bytes) (hz:(Bc P el).map List.length=some k)
  {tx ty:TypeId} (hx:xOf P tx x=some X) (hy:xOf P ty y=some Y) (hM: ∀z∈GP (ev s.tm X),z∈M)
  (h:Ad K md s o.dst (.app base k bytes X Y)=some s'):o.wp P a e.w (Reach fm e M s') Q:=by
 simp only[Ad]at h
 split at h
 case h_2=>cases h
 rename_i v0 s1 happ
 unfold appA at happ
 split at happ
 case h_2=>cases happ
 rename_i h1 hroot
 split at happ
 case h_2=>cases happ
 rename_i x' y' hl
 split at happ
 case h_2=>cases happ
 rename_i o1 rows k' new hhead hrows
 split at happ
 case isFalse=>cases happ
 rename_i hcond
 obtain⟨rfl,hb0,hfit,hne⟩:=hcond
 have hH0:Cs fm e {s,l:=[ev s.tm X,ev s.tm Y]} a [a.eval x,a.eval y]:=by
  refine⟨hR,rfl,λm z u hz hu=> ?_⟩
  match m with
  |0=>simp at hz hu;subst hz;subst hu;exact At hR hx
  |1=>simp at hz hu;subst hz;subst hu;exact At hR hy
  |m+2=>simp at hz
 obtain⟨e1,g1,g2,g3,g4,g5⟩:=Qf hH0 hroot
 obtain⟨rfl,hob1⟩:=JF hhead
 have hob:e1.ob o1= .arr k' rows:=by rw[g3.rel.ob];exact hob1
 have hux:a.eval x=e1.hd o1 []:=by
  have:=g3.ok 0 (.ref o1 []) (a.eval x) (by rw[hl];rfl) rfl;generalize a.eval x=ax at this
  cases this;rfl
 have huy:=g3.ok 1 y' (a.eval y) (by rw[hl];rfl) rfl
 obtain⟨i,z,hi1,rfl,rfl,hi4,hi5⟩:=SF hk hb hz
 have hp:=Ia g3.rel huy hrows
 have hevo: ∀ {w':World},(∀x,x<e1.w.heap.size->BC (e1.hd o1 [])≠some x->w'.heap[x]? =e1.w.heap[x]?)->e1.w.heap.size<=w'.heap.size-> ∀ {e2:Env},e2.w=w'->Evo e e2 M:=by
  intro w' y1 y2 e2 hw;refine⟨by rw[hw,<-g1];exact y2,λb hb hl'=> ?_⟩;rw[hw,<-g1];refine y1 b (by rw[g1];exact hb) λhbb=> ?_
  have h0:=At hR hx;have hbx:BC (a.eval x)=some b:=by rw[hux];exact hbb
  generalize hevx:ev s.tm X=vx at h0 hM;generalize hav:a.eval x=ax at h0 hbx
  cases h0 with
  |ref o2 p2 k2 r2 hn2=>exact hl' (.nd o2 p2) (AY hn2 hbx) (hM o2 (by simp[GP]))
  |vw o2 p2 lo2 hi2 k2 r2 v2 hn2 c1 c2 hw2=>exact hl' (.nd o2 p2) (AY hn2 (hw2.blk hbx)) (hM o2 (by simp[GP]))
  |nil k2 ad=>cases ad<;>simp[BC]at hbx
  |_=>
   unfold Aq.root at hroot;simp[hevx]at hroot
   all_goals
    subst hroot
    simp at hl
 have finish: ∀ {mv:Bool} {o2 lo hi:Nat} {rows2:List (List T)} {hxx:Nat->Nat->Value} {us:Nat->Value} {s2:St},Sw e1.w (a.eval y) i.size new hxx us->AN h1.s.ob base= .none->h1.s.m<=base->
   (mv=true->e1.ob o2= .arr i.size rows2/\o2≠o1/\lo<=hi/\hi<=rows2.length/\new=Ow.window rows2 lo hi)->(mv=false->An new=true)->
   (∀i' j k1 r1,AI new i' j=some (.sl k1 r1)->hxx i' j=e1.hd o2 [(lo+i',j)])->s2.n=h1.s.n->s2.m=h1.s.m->(∀t,Aw s2.tm t=(Aw h1.s.tm t).sub (MJ mv o1 o2 lo hi base rows.length))->
   (∀o',AN s2.ob o'=(if o'=base then .arr i.size (rows++new)else if o'=o1 then .none else if mv=true/\o'=o2 then .arr i.size (A4 rows2 lo (DD (Ow.window rows2 lo hi)))else AN h1.s.ob o').sub (MJ mv o1 o2 lo hi base rows.length))->
   s2.put o.dst (.ref base [])=some s'->o.wp P a e.w (Reach fm e M s') Q:=by
  intro mv o2 lo hi rows2 hxx us s2 hcome hnb hmb hmv hfl hsub y1 y2 y3 y4 hput
  obtain⟨v,w',z1,z2,z3,z4,z5,z6⟩:=PA (P:=P) g3.rel.mem hob hcome.inn (KK.ofCome (ty:=o.type) hcome ht ht2 hi1 hi4) hi5 hb0 hfit (λi' j=>if i'<rows.length then e1.hd o1 [(i',j)]else e1.hd o2 [(lo+(i' - rows.length),j)])
   (λi' j k1 r1 hc=>by
    have hlt:i'<rows.length:=by
     obtain⟨r,hr,_⟩:=AZ hc;exact(List.getElem?_eq_some_iff.1 hr).1
    rw[if_pos hlt])
   (λi' j k1 r1 hc=>by
    rw[if_neg (by omega),show rows.length+i' - rows.length=i' by omega];exact(hsub i' j k1 r1 hc).symm)
  obtain⟨e2,q1,q2,q3,q4⟩:=Uc g3.rel hob (by rw[g3.rel.ob];exact hnb) hmb mv hmv hfl (z2.subs λi' j=>rfl) z3 z4 z5 z6 y1 y2 y3 y4
  refine CI q1 q2 (hevo z4 z5 q1) ?_ q3 hput
  rw[g1]at z1
  simp[execOp,ho,resolve,invoke,builtin,hux,z1]
 split at happ
 ·rename_i hfl
  split at happ
  case h_2=>cases happ
  rename_i s2 hgrow
  cases happ
  obtain⟨q1,q2,q3,q4,q5,q6⟩:=Jv hgrow
  obtain⟨us,hcome⟩:=Vp hp hfl (λ_ _=>undef)
  refine finish (mv:=false) (o2:=0) (lo:=0) (hi:=0) (rows2:=[]) hcome (q1.resolve_right (λh=>hne h.symm)) q2 (λh=>by cases h) (λ_=>hfl) (λi' j k1 r1 hc=>absurd rfl (Dk hfl hc k1 r1)) q3 q4 (λt=>by rw[q5,HL]) (λo'=> ?_) h
  rw[q6,HL]
  by_cases c:o'=base
  ·simp[c,Obj.sub]
  ·rw[if_neg c,if_neg c]
   simp
 ·rename_i hfl
  split at happ
  case h_2=>cases happ
  rename_i o2 k2 rows2 lo hi hwin
  split at happ
  case isTrue=>cases happ
  rename_i hoo
  split at happ
  case h_2=>cases happ
  rename_i s2 hgrow
  cases happ
  obtain⟨q1,q2,q3,q4,q5,q6⟩:=Jv hgrow
  obtain⟨hy',hob2,hlo,hhi⟩:=Sz hwin
  have hob2':e1.ob o2= .arr k2 rows2:=by rw[g3.rel.ob];exact hob2
  have hn2:e1.node o2 []=some (k2,rows2):=by rw[BV hob2'];rfl
  have hnodeOf:Cu h1.s.ob o2 []=some (k2,rows2):=by rw[DM g3.rel];exact hn2
  have hnew:k2=i.size/\new=Ow.window rows2 lo hi:=by
   rcases hy' with ⟨rfl,rfl,rfl⟩|rfl
   ·simp only[Bm,hnodeOf,Option.some.injEq,Prod.mk.injEq]at hrows;exact⟨hrows.1,by rw[<-hrows.2,Fu]⟩
   ·simp only[Bm,hnodeOf,Option.some.injEq,Prod.mk.injEq]at hrows;exact⟨hrows.1,hrows.2.symm⟩
  obtain⟨rfl,rfl⟩:=hnew
  have hwok:Gt (e1.hd o2 []) i.size lo hi (a.eval y):=by
   rcases hy' with ⟨rfl,rfl,rfl⟩|rfl
   ·generalize a.eval y=ay at huy
    cases huy
    exact Gt.full (Hq g3.rel.mem hn2)
   ·generalize a.eval y=ay at huy
    cases huy with
    |vw _ _ _ _ k3 r3 v3 hn3 c1 c2 hw3=>
     rw[hn2]at hn3
     cases hn3
     exact hw3
  obtain⟨us,hcome⟩:=Xj g3.rel.mem hn2 hlo hhi hwok
  have ho2b:o2≠base:=λh=>by
   rcases q1 with q1|q1
   ·rw[BE,if_pos h.symm]at q1;cases q1
   ·exact hne q1.symm
  have hnb:AN h1.s.ob base= .none:=by
   rcases q1 with q1|q1
   ·rw[BE,if_neg (λh=>ho2b h.symm)]at q1;exact q1
   ·exact absurd q1.symm hne
  refine finish (mv:=true) (o2:=o2) (lo:=lo) (hi:=hi) (rows2:=rows2) (s2:=s2.sub (Ov o2 lo hi base rows.length)) hcome hnb q2 (λ_=>⟨hob2',λh=>hoo h.symm,hlo,hhi,rfl⟩) (λh=>by cases h) (λi' j k1 r1 hc=>rfl) q3 q4 (λt=> ?_) (λo'=> ?_) h
  ·rw[Gh,q5,AV.sub_sub]
   exact congrArg (λf=>AV.sub f (Aw h1.s.tm t)) (QS (λh=>hoo h.symm) ho2b)
  ·rw[DE,q6]
   by_cases c:o'=base
   ·simp[c,Obj.sub]
   ·rw[if_neg c,if_neg c,Obj.sub_sub,BE]
    simp only[true_and]
    exact congrArg (λf=>Obj.sub f (if o'=o1 then Obj.none else if o'=o2 then Obj.arr i.size (A4 rows2 lo (DD (Ow.window rows2 lo hi)))else AN h1.s.ob o')) (QS (λh=>hoo h.symm) ho2b)
theorem op_app0 (hR:Rel fm e s a) {o:Oper} {t t2 el:TypeId} {k2:IntKind} {k bytes base:Nat} {zs:List AV} {zt:List T} {x y:Operand} {X Y:Ow.X} (ho:o.op= .call {callee:= .builtin .append,args:= #[x,y],argTypes:= #[t,t2]})
  (ht:P.underlying t=some (.slice el)) (ht2:P.underlying t2=some (.int k2)) (hk:Bk P el=some k) (hb:Do P el=some bytes) (hz:Bc P el=some zs) (hzt:Ha zs=some zt)
  {tx ty:TypeId} (hx:xOf P tx x=some X) (hy:xOf P ty y=some Y) (hM: ∀z∈GP (ev s.tm X),z∈M)
  (h:Ad K md s o.dst (.app0 base k bytes zt X Y)=some s'):o.wp P a e.w (Reach fm e M s') Q:=by
 simp only[Ad]at h
 split at h
 case h_2=>cases h
 rename_i n hn
 split at h
 case h_2=>cases h
 rename_i v0 s1 happ
 unfold Xt at happ
 split at happ
 case h_2=>cases happ
 rename_i h1 hroot
 split at happ
 case h_2=>cases happ
 rename_i x' hl
 split at happ
 case h_2=>cases happ
 rename_i o1 rows hhead
 split at happ
 case isFalse=>cases happ
 rename_i hcond
 obtain⟨hb0,hfit,hzl,hzsc,hne⟩:=hcond
 split at happ
 case h_2=>cases happ
 rename_i s2 hgrow
 cases happ
 have hH0:Cs fm e {s,l:=[ev s.tm X]} a [a.eval x]:=by
  refine⟨hR,rfl,λm z u hz hu=> ?_⟩
  match m with
  |0=>simp at hz hu;subst hz;subst hu;exact At hR hx
  |m+1=>simp at hz
 obtain⟨e1,g1,g2,g3,g4,g5⟩:=Qf hH0 hroot
 obtain⟨rfl,hob1⟩:=JF hhead
 have hob:e1.ob o1= .arr k rows:=by rw[g3.rel.ob];exact hob1
 have hux:a.eval x=e1.hd o1 []:=by
  have:=g3.ok 0 (.ref o1 []) (a.eval x) (by rw[hl];rfl) rfl;generalize a.eval x=ax at this
  cases this;rfl
 obtain⟨k3,iv,hev,hiv0,hivn⟩:=Ll (At hR hy) hn
 have hiv:iv=(n:Int):=by omega
 subst hiv
 obtain⟨zd1,zd2⟩:=LT hzt
 obtain⟨i,z,hi1,rfl,rfl,hi4,hi5⟩:=SF hk hb (by rw[hz];simp[<-zd1,hzl])
 obtain⟨i',z',c1,c2,hLO⟩:=KL (e:=e1) hz
 rw[hi1]at c1;cases c1;rw[hi4]at c2;cases c2
 have hcell: ∀ (j:Nat) (d:T),zt[j]? =some d-> ∃v,d= .sc v/\z.cells[j]! =v/\ES v=true:=by
  intro j d hd;rcases zd2 j d hd with ⟨v,rfl,hv⟩|⟨k4,rfl,_⟩
  ·have hj:j<z.cells.size:=by rw[hi5,<-hzl];exact(List.getElem?_eq_some_iff.1 hd).1
   have hu:z.cells[j]? =some z.cells[j]:=Array.getElem?_eq_getElem hj;obtain⟨q1,q2⟩:=(hLO.ok j _ _ hv hu).sc_inv;exact⟨v,rfl,by rw[getElem!_def,hu];exact q1,q2⟩
  ·exact absurd rfl (MK hzsc (List.mem_of_getElem? hd) _ _)
 have hzm: ∀i' j,j<i.size->z.cells[(i'*i.size+j)%i.size]! =z.cells[j]! :=λi' j hj=>by
  rw[Nat.add_comm,Nat.add_mul_mod_self_right,Nat.mod_eq_of_lt hj]
 have hrep: ∀i' j d,AI (List.replicate n zt) i' j=some d->i'<n/\j<i.size/\zt[j]? =some d:=by
  intro i' j d hd;obtain⟨r,hr,hj⟩:=AZ hd;rw[List.getElem?_replicate]at hr;split at hr
  case isFalse=>cases hr
  rename_i hi'
  cases hr
  exact⟨hi',by rw[<-hzl];exact(List.getElem?_eq_some_iff.1 hj).1,hj⟩
 have hin:Re i.size (List.replicate n zt) (λ_ _=>undef) (λm=>z.cells[m%i.size]!):=by
  refine⟨λr hr=>by rw[(List.mem_replicate.1 hr).2];exact hzl,λi' j d hd=> ?_,λm hm=> ?_⟩
  ·obtain⟨_,hj,hd'⟩:=hrep i' j d hd;obtain⟨v,rfl,q1,q2⟩:=hcell j d hd';simp only[CU];rw[hzm i' j hj];exact⟨q1,q2⟩
  ·obtain⟨i',j,rfl,_,hj⟩:=CB (show m<n*i.size by simpa using hm);rw[hzm i' j hj];obtain⟨d,hd⟩:=AF (l:=zt) (i:=j) (by rw[hzl];exact hj);obtain⟨v,_,q1,q2⟩:=hcell j d hd;rw[q1]
   cases v<;>first|rfl|(simp[ES]at q2)
 have hfl:An (List.replicate n zt)=true:=by
  have: ∀n,An (List.replicate n zt)=true:=by
   intro n
   induction n with
   |zero=>rfl
   |succ n ih=>simp[List.replicate_succ,An,hzsc,ih]
  exact this n
 obtain⟨q1,q2,q3,q4,q5,q6⟩:=Jv hgrow
 have hlr:(List.replicate n zt).length=n:=List.length_replicate
 obtain⟨v,w',z1,z2,z3,z4,z5,z6⟩:=PA (P:=P) (ats:= #[t,t2]) (ty:=o.type) (uy:=a.eval y) g3.rel.mem hob hin (by
   rw[hlr,hev];exact KK.zeros ht ht2 hi1 hi4 hi5 hb0 (by rw[Nat.add_mul]at hfit;omega)) hi5 hb0 (by rw[hlr];exact hfit) (λi' j=>if i'<rows.length then e1.hd o1 [(i',j)]else e1.hd 0 [(0+(i' - rows.length),j)])
   (λi' j k1 r1 hc=>by
    have hlt:i'<rows.length:=by
     obtain⟨r,hr,_⟩:=AZ hc;exact(List.getElem?_eq_some_iff.1 hr).1
    rw[if_pos hlt])
   (λi' j k1 r1 hc=>absurd rfl (Dk hfl hc k1 r1))
 obtain⟨e2,f1,f2,f3,f4⟩:=Uc (s':=s1) g3.rel hob (by rw[g3.rel.ob];exact q1.resolve_right (λh=>hne h.symm)) q2 false (o2:=0) (lo:=0) (hi:=0) (rows2:=[]) (λh=>by cases h) (λ_=>hfl) (z2.subs λi' j=>rfl) z3 z4 z5 z6 q3 q4
  (λt=>by rw[q5,HL]) (λo'=>by
   rw[q6,HL];by_cases c:o'=base
   ·simp[c,Obj.sub]
   ·rw[if_neg c,if_neg c];simp)
 refine CI f1 f2 ⟨by rw[f1,<-g1];exact z5,λb hb hl'=> ?_⟩ ?_ f3 h
 ·rw[f1,<-g1]
  refine z4 b (by rw[g1];exact hb) λhbb=> ?_
  have h0:=At hR hx
  have hbx:BC (a.eval x)=some b:=by rw[hux];exact hbb
  generalize hevx:ev s.tm X=vx at h0 hM
  generalize hav:a.eval x=ax at h0 hbx
  cases h0 with
  |ref o2 p2 k2 r2 hn2=>exact hl' (.nd o2 p2) (AY hn2 hbx) (hM o2 (by simp[GP]))
  |vw o2 p2 lo2 hi2 k2 r2 v2 hn2 c1 c2 hw2=>exact hl' (.nd o2 p2) (AY hn2 (hw2.blk hbx)) (hM o2 (by simp[GP]))
  |nil k2 ad=>cases ad<;>simp[BC]at hbx
  |_=>
   unfold Aq.root at hroot;simp[hevx]at hroot
   all_goals
    subst hroot
    simp at hl
 ·rw[g1]at z1
  simp[execOp,ho,resolve,invoke,builtin,hux,z1]
end
section
variable {P:Program} {fm:Fm} {M:List Nat} {e e':Env} {s s':St} {a:Act} {Q:Exit->Act->World->Prop}
variable {K:Nat->List Arg->Option Res} {md:Nat->List Nat}
theorem FZ {k:Nat} {rows:List (List T)} (hp: ∀i j d,AI rows i j=some d-> ∀k r,d≠ .sl k r) {b:Nat×Nat} {p:AQ}:AM k rows (b::p)=none:=by
 obtain⟨i,j⟩:=b;simp only[AM];split
 ·rename_i k' r' hc;exact absurd rfl (hp i j _ hc k' r')
 ·rfl
theorem UO (hR:Rel fm e s a) {w':World} {arr:Array Value} {t:TypeId} {fr:Nat×Nat} (hg:Gu e.w w' (.cells arr t fr)) (hf:Xy arr fr)
  {o k c:Nat} {rows:List (List T)} (hs:s.new o (.arr k rows)=some s') (hk: ∀r∈rows,r.length=k) (hle:rows.length<=c/\c<=9223372036854775807) (hc:c*k<=arr.size)
  (hv: ∀i j d,AI rows i j=some d-> ∃u,arr[i*k+j]? =some u/\DV d u):
  ∃e',e'.w=w'/\Rel fm e' s' a/\e'.hd o []= .slice (some ⟨e.w.heap.size,0,none⟩) rows.length c/\e'.node o []=some (k,rows)/\(B0 e e' λo p=>some (o,p))/\ ∀M,Evo e e' M:=by
 obtain⟨h0,hsm,rfl⟩:=Ke hs
 have h0':e.ob o= .none:=by rw[hR.ob];exact h0
 have hnosl: ∀i j d,AI rows i j=some d-> ∀k r,d≠ .sl k r:=λi j d hd k r h=>by
  obtain⟨u,_,⟨v,h2,_⟩|⟨h2,_⟩⟩:=hv i j d hd<;>rw[h2]at h<;>cases h
 let e':Env:={w:=w',ob:=λo'=>if o'=o then .arr k rows else e.ob o',hd:=λo' p=>if o'=o then .slice (some ⟨e.w.heap.size,0,none⟩) rows.length c else e.hd o' p,bk:=e.bk,Im:=e.Im,tk:=e.tk}
 have hob: ∀o',o'≠o->e'.ob o'=e.ob o':=λo' h=>by simp[e',h]
 have hhd: ∀o',o'≠o->e'.hd o'=e.hd o':=λo' h=>by funext p;simp[e',h]
 have hC:B0 e e' λo p=>some (o,p):=B0.grew hR hg rfl rfl o h0' hob hhd (λ_ _=>rfl)
 have hnode: ∀p,e'.node o p=AM k rows p:=λp=>by simp[Env.node,e']
 have hpin: ∀o',o'<s.m->o'≠o:=λo' h h2=>by omega
 refine⟨e',rfl,⟨?_,λo'=> ?_,λo' k' r' h1 h2=> ?_,λo' cs h1 h2=> ?_,hR.size,hR.defers,λt=>(hR.tm t).carry hC⟩,by simp[e'],by rw[hnode];rfl,hC,λM=>⟨by simp only[e',hg.size];omega,λb hb _=>hg.old hb⟩⟩
 ·have hA:Asm fm e e' (λo' p=>if o'=o then none else some (o',p)) (λb=>b=e.w.heap.size):=by
   refine⟨?_,?_,?_,?_,?_,?_,?_,?_,?_⟩
   ·intro o' p' o1 p1 k1 rows' h1 h2;by_cases ho:o'=o
    ·simp[ho]at h1
    ·simp[ho]at h1;obtain⟨rfl,rfl⟩:=h1;rw[Eb (hob o' ho)]at h2;exact⟨rows',h2,Ev.refl _,by rw[hhd o' ho],λi j k1 r1 _=>by rw[hhd o' ho]⟩
   ·intro o' p' o1 p1 b h1 _ hb;obtain⟨q1,q2,q3⟩:=hR.mem.own _ b hb;exact⟨hg.old q1,q3,λh=>by omega⟩
   ·intro o1 p1 o2 p2 x h1 h2 _ _;by_cases g1:o1=o<;>by_cases g2:o2=o<;>simp[g1,g2]at h1 h2;rw[<-h2]at h1;simpa using h1
   ·intro o' p' k1 rows' h1 h2;have ho:o'=o:=by
     by_cases ho:o'=o
     ·exact ho
     ·simp[ho]at h1
    subst ho;rw[hnode]at h2
    cases p' with
    |nil=>
     simp[AM]at h2;obtain⟨rfl,rfl⟩:=h2;refine⟨some ⟨e.w.heap.size,0,none⟩,c,by simp[e'],hle,λhc0=>⟨_,_,rfl,λx hx=> ?_,hk,λi j d hd=> ?_⟩⟩
     ·rw[Nat.zero_add];exact(hg.wr hf (by omega)).1
     ·obtain⟨u,harr,hok⟩:=hv i j d hd;have hlt:i*k+j<arr.size:=(Array.getElem?_eq_some_iff.1 harr).1;refine⟨u,by rw[Nat.zero_add,(hg.wr hf hlt).2];exact harr,?_⟩;rcases hok with ⟨v,rfl,rfl,hs⟩|⟨rfl,hs⟩
      ·exact⟨rfl,hs⟩
      ·exact hs
    |cons b p=>rw[FZ hnosl]at h2;cases h2
   ·intro o' p' b h1 h2;have ho: ∀ {o'} {p':AQ},(if o'=o then none else some (o',p'))=(none:Option (Nat×AQ))->o'=o:=λ{o'} {p'} h=>by
     by_cases ho:o'=o
     ·exact ho
     ·simp[ho]at h
    have hkey: ∀p' b,e'.blk (.nd o p')=some b->b=e.w.heap.size/\p'=[]:=by
     intro p' b hb;obtain⟨k1,r1,hn,hb'⟩:=E9 hb
     cases p' with
     |nil=>simp[e',BC]at hb';exact⟨hb'.2.symm,rfl⟩
     |cons _ _=>rw[hnode,FZ hnosl]at hn;cases hn
    have:=ho h1;subst this;refine⟨(hkey p' b h2).1,λo2 p2 g1 g2=> ?_⟩;have:=ho g1;subst this;exact⟨rfl,by rw[(hkey p2 b g2).2,(hkey p' b h2).2]⟩
   ·intro b hb;subst hb;refine⟨by simp[e',hg.size],.inl hR.mem.keeps.size,λh=> ?_⟩;have:=(hR.mem.im _ h).1;omega
   ·intro o1 cs hb;have hne:o1≠o:=λh=>by simp[e',h]at hb
    rw[hob o1 hne]at hb;obtain⟨q1,q2,q3⟩:=hR.mem.own _ _ (Ag hb);exact .inl ⟨cs,hb,rfl,q3,by omega⟩
   ·intro o1 cs hb j c hc;have hne:o1≠o:=λh=>by simp[e',h]at hb
    rw[hob o1 hne]at hb;obtain⟨g1,u,g2,g3⟩:=hR.mem.box o1 cs hb j c hc;obtain⟨q1,q2,q3⟩:=hR.mem.own _ _ (Ag hb);exact⟨g1.congr (hg.old q1),u,by rw[<-g2];exact CC (hg.old q1),g3.carry hC⟩
   ·simp only[e',hg.size];omega
  exact hR.mem.asm hA (λx hx=>⟨by have:=(hR.mem.im x hx).1;simp only[e',hg.size];omega,(hR.mem.im x hx).2⟩) hR.mem.im0 (hR.mem.keeps.grew hg)
 ·rw[BE]
  by_cases h:o'=o
  ·simp[e',h]
  ·simp[e',h,hR.ob]
 ·have h1:o'<s.m:=h1
  rw[hob o' (hpin o' h1)]at h2;rw[hhd o' (hpin o' h1)];exact hR.pinh o' k' r' h1 h2
 ·have h1:o'<s.m:=h1
  rw[hob o' (hpin o' h1)]at h2;exact hR.pinb o' cs h1 h2
theorem new_im (hR:Rel fm e s a) {w':World} {arr:Array Value} {t:TypeId} {fr:Nat×Nat} (hg:Gu e.w w' (.cells arr t fr))
  {k c:Nat} {rows:List (List T)} (hk: ∀r∈rows,r.length=k) (hle:rows.length<=c) (hv: ∀i j d,AI rows i j=some d-> ∃u,arr[i*k+j]? =some u/\POk e.w e.Im u d):
  ∃e',e'.w=w'/\Rel fm e' s a/\AS e' (.im k rows) (.slice (some ⟨e.w.heap.size,0,none⟩) rows.length c)/\ ∀M,Evo e e' M:=by
 let e':Env:={e with w:=w',Im:=λb=>e.Im b\/b=e.w.heap.size}
 have hnode: ∀o q,e'.node o q=e.node o q:=λ_ _=>rfl
 have hC:B0 e e' λo p=>some (o,p):=by
  refine⟨λb hb=>⟨.inl hb,hg.old (hR.mem.im b hb).1⟩,λo1 p k1 r1 o' p' hn hf=> ?_,λo1 cs hb=>⟨cs,hb,rfl⟩,λo1 p k1 r1 hn=>(hR.mem.node o1 p k1 r1 hn).one,rfl⟩
  cases hf
  exact⟨r1,hn,rfl,rfl⟩
 have hw: ∀l b,e.blk l=some b->w'.heap[b]? =e.w.heap[b]? :=λl b h=>hg.old (hR.mem.own l b h).1
 have hcell: ∀m u,arr[m]? =some u->w'.cell? ⟨e.w.heap.size,m,none⟩=some u:=λm u h=>by
  unfold World.cell?;rw[hg.at];exact h
 refine⟨e',rfl,⟨⟨λo cs hb j c hc=> ?_,λo p k1 r1 hn=> ?_,λl l' b h h'=>hR.mem.inj l l' b h h',λl b h=> ?_,λx hx=> ?_,λx hx=> .inl (hR.mem.im0 x hx),hR.mem.keeps.grew hg,hR.mem.tk⟩,hR.ob,hR.pinh,hR.pinb,hR.size,hR.defers,λt=>(hR.tm t).carry hC⟩,?_,λM=>⟨by simp only[e',hg.size];omega,λb hb _=>hg.old hb⟩⟩
 ·obtain⟨g1,u,g2,g3⟩:=hR.mem.box o cs hb j c hc
  have hb2:=hw _ _ (Ag hb)
  exact⟨g1.congr hb2,u,by rw[<-g2];exact CC hb2,g3.carry hC⟩
 ·exact(hR.mem.node o p k1 r1 hn).congr (Ev.refl _) (λb hb=>hw _ b (AY hn hb)) (λ_ _ _ _ _=>rfl)
 ·obtain⟨g1,g2,g3⟩:=hR.mem.own l b h
  exact⟨by simp only[e',hg.size];omega,g2,λh=>by rcases h with h|h;exact g3 h;omega⟩
 ·rcases hx with hx|rfl
  ·exact⟨by have:=(hR.mem.im x hx).1;simp only[e',hg.size];omega,(hR.mem.im x hx).2⟩
  ·exact⟨by simp only[e',hg.size];omega,λh=>by have:=hR.mem.keeps.size;omega⟩
 ·have hp: ∀ {v t},POk e.w e.Im v t->POk e'.w e'.Im v t:=λh=>h.mono (λb hb=> .inl hb) (λb hb=>hg.old (hR.mem.im b hb).1)
  refine .im _ _ _ (.sl _ 0 c k rows (λi j=>(arr[i*k+j]?).getD undef) (.inr rfl) hle hk (λi j t ht=> ?_) (λi j t ht=> ?_))
  ·obtain⟨u,hu,_⟩:=hv i j t ht
   rw[Nat.zero_add,hcell _ u hu,hu];rfl
  ·obtain⟨u,hu,hok⟩:=hv i j t ht
   rw[hu];exact hp hok
theorem OG {k:Nat}: ∀ (vals:List Value) (i:Nat) (cs:Array Value),(∀v∈vals,v.cells.size=k)->cs.size=(i+vals.length)*k->
  ∃cs',Instr.fill (λi=>some (i*k,k)) cs ((vals.zipIdx i).map λp=>(p.2,p.1))=some cs'/\cs'.size=cs.size/\(∀m,m<i*k->cs'[m]? =cs[m]?)/\
   ∀r j v,vals[r]? =some v->j<k->cs'[(i+r)*k+j]? =v.cells[j]?
 |[],i,cs,_,_=>⟨cs,rfl,rfl,λ_ _=>rfl,λr j v h=>by simp at h⟩
 |v::vals,i,cs,hk,hs=>by
  have hv:=hk v List.mem_cons_self;simp only[List.length_cons]at hs;have hsz:i*k+k<=cs.size:=by
   rw[hs,show i+(vals.length+1)=(i+1)+vals.length by omega,Nat.add_mul,Nat.add_mul];omega
  have hlist:v.cells=v.cells.toList.toArray:=by simp
  have hfold:v.cells.zipIdx.foldl (λcs (x:Value×Nat)=>cs.setIfInBounds (i*k+x.2) x.1) cs=(v.cells.toList.zipIdx 0).foldl (λcs (x:Value×Nat)=>cs.setIfInBounds (i*k+x.2) x.1) cs:=by
   rw[<-Array.foldl_toList];simp
  generalize hcs1:(v.cells.toList.zipIdx 0).foldl (λcs (x:Value×Nat)=>cs.setIfInBounds (i*k+x.2) x.1) cs=cs1 at hfold;have hsz1:cs1.size=cs.size:=by rw[<-hcs1];exact EN _ _ _ _
  have hget1: ∀m,cs1[m]? =if i*k<=m/\m<i*k+k then v.cells[m - i*k]? else cs[m]? :=λm=>by
   rw[<-hcs1,Ed _ 0 (i*k) cs m (by simp;omega)];simp only[Nat.add_zero,Array.length_toList,hv];by_cases c:i*k<=m/\m<i*k+k
   ·rw[if_pos c,if_pos c];simp
   ·rw[if_neg c,if_neg c]
  obtain⟨cs',g1,g2,g3,g4⟩:=OG vals (i+1) cs1 (λv hv=>hk v (List.mem_cons_of_mem _ hv)) (by rw[hsz1,hs];congr 1;omega);have hik:(i+1)*k=i*k+k:=by rw[Nat.add_mul];omega
  refine⟨cs',?_,g2.trans hsz1,λm hm=> ?_,λr j v' hr hj=> ?_⟩
  ·rw[List.zipIdx_cons,List.map_cons,Instr.fill];simp only[hv];rw[if_neg (by simp;omega),hfold];exact g1
  ·rw[g3 m (by omega),hget1,if_neg (by omega)]
  ·cases r with
   |zero=>
    simp at hr;subst hr;rw[Nat.add_zero,g3 _ (by omega),hget1,if_pos (by omega),show i*k+j - i*k=j by omega]
   |succ r=>
    have:=g4 r j v' (by simpa using hr) hj;rwa [show i+1+r=i+(r+1)by omega]at this
theorem O3 {t el:TypeId} {k:Nat} {vals:List Value} {w:World} (ht:P.underlying t=some (.slice el)) (hk:Bk P el=some k) (hz:(Bc P el).map List.length=some k)
  (hlen:vals.length*k<=16777216) (hv: ∀v∈vals,v.cells.size=k): ∃arr w',(Instr.buildSlice t vals.length ((vals.zipIdx 0).map λp=>(p.2,p.1)).toArray).run P w= .ok (.slice (some ⟨w.heap.size,0,none⟩) vals.length vals.length) w'/\
   Gu w w' (.cells arr el (0,0))/\arr.size=vals.length*k/\ ∀r j v,vals[r]? =some v->j<k->arr[r*k+j]? =v.cells[j]? :=by
 cases hzo:Bc P el with
 |none=>simp[hzo]at hz
 |some zs=>
  simp[hzo]at hz;obtain⟨i,z,g1,g2,g3,_⟩:=EW hzo;have hik:i.size=k:=by unfold Bk at hk;simpa[g1]using hk
  have hzk:z.cells.size=k:=by rw[<-g3];exact hz
  have hlim: ¬ (16777216<vals.length*k):=by omega
  by_cases h0:vals.length*k=0
  ·obtain⟨arr,y1,y2,y3,y4⟩:=OG vals 0 #[] hv (by simp[h0]);refine⟨arr,{w with heap:=w.heap.push (.cells arr el (0,0))},?_,Gg w _,by rw[y2];simp[h0],λr j v h1 h2=>by simpa using y4 r j v h1 h2⟩;have hr0:Array.range 0= #[]:=rfl;simp[Instr.buildSlice,AR ht,C7 hk,h0,hr0,y1,newRow]
  ·obtain⟨arr,y1,y2,y3,y4⟩:=OG vals 0 ((Array.range (vals.length*k)).map λm=>z.cells[m%k]!) hv (by simp);refine⟨arr,{w with heap:=w.heap.push (.cells arr el (0,0))},?_,Gg w _,by rw[y2];simp,λr j v h1 h2=>by simpa using y4 r j v h1 h2⟩;simp[Instr.buildSlice,AR ht,C7 hk,hlim,h0,zeroValue,typeInfo,g1,g2,newRow,hzk,y1]
theorem KG {o1 o i j:Nat} {p:AQ} (h:s.adopt o1 o p i j=some s'):AN s'.ob o1= .none/\(∀o2,AN s.ob o2= .none->AN s'.ob o2= .none)/\s'.n=s.n/\s'.m=s.m:=by
 unfold St.adopt at h;split at h
 ·cases h
 ·rename_i hoo;split at h
  ·rename_i k1 rows1 k0 rows0 e1 e2;split at h
   ·split at h
    ·split at h
     ·cases h
      refine⟨?_,λo2 h0=> ?_,rfl,rfl⟩
      ·rw[DE];simp[St.gone,DF,Obj.sub]
      ·rw[DE];simp only[St.gone,DF,BE];have:o2≠o:=λh=>by rw[h,e2]at h0;cases h0
       rw[if_neg this,h0];split<;>rfl
     ·cases h
    ·cases h
   ·cases h
  ·cases h
theorem Et {o i:Nat} {p:AQ}: ∀ {l:List AV} {j:Nat} {s s':St},s.adopts o p i j l=some s'->(∀o2,.ref o2 []∈l->AN s'.ob o2= .none)/\(∀o2,AN s.ob o2= .none->AN s'.ob o2= .none)/\ ∀x∈l,PC x
 |[],j,s,s',h=>by simp only[St.adopts,Option.some.injEq]at h;subst h;exact⟨λo2 h=>(by cases h),λ_ h=>h,λx hx=>(by cases hx)⟩
 |x::l,j,s,s',h=>by
  cases x with
  |sc v=>
   simp only[St.adopts]at h;obtain⟨g1,g2,g3⟩:=Et h;refine⟨λo2 h2=>g1 o2 (by simpa using h2),g2,λx hx=> ?_⟩;rcases List.mem_cons.1 hx with rfl|h3
   ·exact .inl ⟨v,rfl⟩
   ·exact g3 x h3
  |ref o1 q=>
   cases q with
   |cons _ _=>simp[St.adopts]at h
   |nil=>
    simp only[St.adopts]at h;split at h
    case h_2=>cases h
    rename_i s1 hs1;obtain⟨y1,y2,_⟩:=KG hs1;obtain⟨g1,g2,g3⟩:=Et h;refine⟨λo2 h2=> ?_,λo2 h2=>g2 o2 (y2 o2 h2),λx hx=> ?_⟩
    ·rcases List.mem_cons.1 h2 with h3|h3
     ·cases h3;exact g2 _ y1
     ·exact g1 o2 h3
    ·rcases List.mem_cons.1 hx with rfl|h3
     ·exact .inr ⟨o1,rfl⟩
     ·exact g3 x h3
  |_=>simp[St.adopts]at h
theorem LQ {o k b c n:Nat}: ∀ {vs:List (List AV)} {us:List (List Value)} {i:Nat} {e:Env} {s s':St},Rel fm e s a->Cf o i vs s=some s'-> ∀ {rows:List (List T)},e.node o []=some (k,rows)->
  e.hd o []= .slice (some ⟨b,0,none⟩) n c->0<c->vs.length=us.length->(∀ (m:Nat) x u,vs[m]? =some x->us[m]? =some u->x.length=u.length)->
  (∀ (m:Nat) x u,vs[m]? =some x->us[m]? =some u-> ∀ (j:Nat) y z,x[j]? =some y->u[j]? =some z->AS e y z/\e.w.cell? ⟨b,(i+m)*k+j,none⟩=some z)->
  ∃e',e'.w=e.w/\e'.Im=e.Im/\Rel fm e' s' a/\s'.n=s.n/\s'.m=s.m/\(∃rows',e'.node o []=some (k,rows'))/\e'.hd o []=e.hd o []
 |[],us,i,e,s,s',hR,h,rows,hn,hh,hc,hl,hlen,hv=>by
  simp only[Cf,Option.some.injEq]at h;subst h;exact⟨e,rfl,rfl,hR,rfl,rfl,⟨rows,hn⟩,rfl⟩
 |v::vs,[],i,e,s,s',hR,h,rows,hn,hh,hc,hl,hlen,hv=>by simp at hl
 |v::vs,u::us,i,e,s,s',hR,h,rows,hn,hh,hc,hl,hlen,hv=>by
  simp only[Cf]at h;split at h
  case h_2=>cases h
  rename_i s1 hs1;have h0:=hv 0 v u rfl rfl;obtain⟨e1,g1,g2,g3,g4,g5,g6,⟨rows1,g7,g8⟩,g9⟩:=I0 (b:=b) (off:=0) (i:=i) (k:=k) (n:=n) (c:=c) hR hs1 hn hh hc (hlen 0 v u rfl rfl) (λm x z hx hz=>(h0 m x z hx hz).1) (λm z hz=>by
   obtain⟨x,hx⟩:=AF (l:=v) (i:=m) (by rw[hlen 0 v u rfl rfl];exact(List.getElem?_eq_some_iff.1 hz).1);have:=(h0 m x z hx hz).2;rw[Nat.zero_add,Nat.zero_add];exact this)
  obtain⟨y1,y2,y3⟩:=Et hs1;have hrest: ∀ (vs:List (List AV)) (i:Nat) (s1 s':St),Cf o i vs s1=some s'-> ∀r∈vs,∀x∈r,PC x/\ ∀o2,x= .ref o2 []->AN s1.ob o2≠ .none:=by
   intro vs
   induction vs with
   |nil=>intro i s1 s' _ r hr;cases hr
   |cons r vs ih=>
    intro i s1 s' h r' hr' x hx;simp only[Cf]at h;split at h
    case h_2=>cases h
    rename_i s2 hs2;obtain⟨z1,z2,z3⟩:=Et hs2;rcases List.mem_cons.1 hr' with rfl|h3
    ·refine⟨z3 x hx,λo2 ho2 h0=> ?_⟩;have: ∀ (l:List AV) (j:Nat) (s1 s2:St),s1.adopts o [] i j l=some s2-> .ref o2 []∈l->AN s1.ob o2≠ .none:=by
      intro l
      induction l with
      |nil=>intro j s1 s2 _ h;cases h
      |cons y l ihl=>
       intro j s1 s2 h hm h0
       cases y with
       |sc v=>simp only[St.adopts]at h;exact ihl _ _ _ h (by simpa using hm) h0
       |ref o3 q=>
        cases q with
        |cons _ _=>simp[St.adopts]at h
        |nil=>
         simp only[St.adopts]at h;split at h
         case h_2=>cases h
         rename_i s3 hs3;rcases List.mem_cons.1 hm with h4|h4
         ·cases h4
          unfold St.adopt at hs3;split at hs3
          ·cases hs3
          ·rw[h0]at hs3;simp at hs3
         ·exact ihl _ _ _ h h4 ((KG hs3).2.1 o2 h0)
       |_=>simp[St.adopts]at h
     exact this r' 0 s1 s2 hs2 (ho2 ▸ hx) h0
    ·obtain⟨f1,f2⟩:=ih (i+1) s2 s' h r' h3 x hx;exact⟨f1,λo2 ho2 h0=>f2 o2 ho2 (z2 o2 h0)⟩
  have hrs:=hrest vs (i+1) s1 s' h;obtain⟨e2,q1,q2,q3,q4,q5,q6,q7⟩:=LQ g3 h g7 (g9.trans hh) hc (by simpa using hl) (λm x z hx hz=>hlen (m+1) x z hx hz) (λm x z hx hz j y w hy hw=>by
   obtain⟨f1,f2⟩:=hv (m+1) x z hx hz j y w hy hw;refine⟨?_,by rw[g1,show i+1+m=i+(m+1)by omega];exact f2⟩;obtain⟨r1,r2⟩:=hrs x (List.mem_of_getElem? hx) y (List.mem_of_getElem? hy);rcases r1 with ⟨v',rfl⟩|⟨o2,rfl⟩
   ·obtain⟨rfl,hs⟩:=f1.sc_inv;exact .sc _ hs
   ·have hne:=r2 o2 rfl;by_cases ho:o2=o
    ·subst ho;have hw2:w=e1.hd o2 []:=by rw[g9];cases f1;rfl
     rw[hw2];exact .ref o2 [] _ _ g7
    ·have hnl: ∀x∈v,x≠ .ref o2 []:=λx hx h=>hne (y1 o2 (h ▸ hx))
     obtain⟨t1,t2⟩:=g6 o2 ho hnl []
     cases f1 with
     |ref _ _ k2 r2 hn2=>
      rw[<-t2];exact .ref o2 [] k2 r2 (by rw[t1];exact hn2))
  exact⟨e2,q1.trans g1,q2.trans g2,q3,q4.trans g4,q5.trans g5,q6,q7.trans g9⟩
end
section
variable {P:Program} {fm:Fm} {M:List Nat} {e e':Env} {s s':St} {a:Act} {Q:Exit->Act->World->Prop}
variable {K:Nat->List Arg->Option Res} {md:Nat->List Nat}
theorem FQ {α β:Type} {f:α->Option β}: ∀ {l:List α} {m:List β},Co f l=some m->m.length=l.length/\ ∀ (i:Nat) y,m[i]? =some y-> ∃x,l[i]? =some x/\f x=some y
 |[],m,h=>by simp only[Co,Option.some.injEq]at h;subst h;exact⟨rfl,λi y h=>by simp at h⟩
 |x::l,m,h=>by
  simp only[Co]at h;split at h
  case h_2=>cases h
  rename_i b hb;split at h
  case h_2=>cases h
  rename_i m' hm
  cases h
  obtain⟨g1,g2⟩:=FQ hm;refine⟨by simp[g1],λi y hy=> ?_⟩
  cases i with
  |zero=>simp at hy;subst hy;exact⟨x,rfl,hb⟩
  |succ i=>exact g2 i y (by simpa using hy)
theorem Pq (hR:Rel fm e s a) {el:TypeId}: ∀ {l:List (Nat×Operand)} {n:Nat} {Xs:List X},Nf P el n l=some Xs->
  l=((l.map (·.2)).zipIdx n).map (λp=>(p.2,p.1))/\Xs.length=l.length/\ ∀ (i:Nat) X,Xs[i]? =some X-> ∃x,(l.map (·.2))[i]? =some x/\AS e (ev s.tm X) (a.eval x)
 |[],n,Xs,h=>by simp only[Nf,Option.some.injEq]at h;subst h;exact⟨rfl,rfl,λi X h=>by simp at h⟩
 |(i,x)::l,n,Xs,h=>by
  simp only[Nf]at h;split at h
  case isFalse=>cases h
  rename_i hin;split at h
  case h_2=>cases h
  rename_i A m hA hm
  cases h
  subst hin;obtain⟨g1,g2,g3⟩:=Pq hR hm;refine⟨?_,by simp[g2],λj X hX=> ?_⟩
  ·rw[List.map_cons,List.zipIdx_cons,List.map_cons,<-g1]
  ·cases j with
   |zero=>simp at hX;subst hX;exact⟨x,rfl,At hR hA⟩
   |succ j=>exact g3 j X (by simpa using hX)
theorem WB (hM:Mem fm e) {x:AV} {u:Value} (h:AS e x u) (hb:(EV x).all oneCell=true):u.cells.size=(EV x).length/\
  ∀ (j:Nat) y z,(EV x)[j]? =some y->u.cells.toList[j]? =some z->AS e y z:=by
 have h1: ∀ {x:AV} {u:Value},AS e x u->oneCell x=true->u.cells.size=[x].length/\ ∀ (j:Nat) y z,[x][j]? =some y->u.cells.toList[j]? =some z->AS e y z:=by
  intro x u h hb;obtain⟨g1,g2⟩:=FS hM h hb;rw[g1];refine⟨rfl,λj y z hy hz=> ?_⟩
  cases j with
  |zero=>simp at hy hz;subst hy;subst hz;exact h
  |succ j=>simp at hy
 cases h with
 |agg l vs hl hok=>exact⟨by simp[EV,Value.cells,hl],λj y z hy hz=>hok j y z (by simpa[EV]using hy) (by simpa[Value.cells]using hz)⟩
 |_=>exact h1 (by constructor<;>assumption) (by simpa[EV]using hb)
theorem PB: ∀ {l:List AV},CH l=true-> ∀ {i:Nat} {x:AV},l[i]? =some x-> ∃v,x= .sc v
 |[],_,i,x,h=>by simp at h
 | .sc v::l,h,i,x,hx=>by
  simp only[CH]at h
  cases i with
  |zero=>simp at hx;exact⟨v,hx.symm⟩
  |succ i=>exact PB h (by simpa using hx)
 | .non::_,h,_,_,_=>by simp[CH]at h
 | .dead::_,h,_,_,_=>by simp[CH]at h
 | .und::_,h,_,_,_=>by simp[CH]at h
 | .nil _::_,h,_,_,_=>by simp[CH]at h
 | .im _ _::_,h,_,_,_=>by simp[CH]at h
 | .ref _ _::_,h,_,_,_=>by simp[CH]at h
 | .vw _ _ _ _::_,h,_,_,_=>by simp[CH]at h
 | .pb _ _::_,h,_,_,_=>by simp[CH]at h
 | .pa _ _ _ _::_,h,_,_,_=>by simp[CH]at h
 | .pim _::_,h,_,_,_=>by simp[CH]at h
 | .agg _::_,h,_,_,_=>by simp[CH]at h
 | .tup _::_,h,_,_,_=>by simp[CH]at h
 | .clo _ _::_,h,_,_,_=>by simp[CH]at h
theorem HY {o:Nat}: ∀ {vs:List (List AV)} {i:Nat} {s s':St},Cf o i vs s=some s'-> ∀r∈vs,∀x∈r,PC x
 |[],i,s,s',h,r,hr=>by cases hr
 |v::vs,i,s,s',h,r,hr=>by
  simp only[Cf]at h;split at h
  case h_2=>cases h
  rename_i s1 hs1;rcases List.mem_cons.1 hr with rfl|h2
  ·exact(Et hs1).2.2
  ·exact HY h r h2
theorem NV {k:Nat}: ∀ {n:Nat} {l:List AV},l.length=n*k->(EB k n l).length=n/\(∀r∈EB k n l,r.length=k)/\ ∀ (i:Nat) r,(EB k n l)[i]? =some r-> ∀ (j:Nat) y,r[j]? =some y->j<k/\l[i*k+j]? =some y
 |0,l,h=>⟨rfl,λr h=>(by cases h),λi r h=>(by simp[EB]at h)⟩
 |n+1,l,h=>by
  rw[Nat.add_mul]at h;obtain⟨g1,g2,g3⟩:=NV (k:=k) (n:=n) (l:=l.drop k) (by simp;omega);refine⟨by simp[EB,g1],λr hr=> ?_,λi r hr j y hy=> ?_⟩
  ·simp only[EB]at hr;rcases List.mem_cons.1 hr with rfl|h2
   ·simp;omega
   ·exact g2 r h2
  ·cases i with
   |zero=>
    simp[EB]at hr;subst hr;rw[List.getElem?_take]at hy;split at hy
    ·exact⟨by assumption,by simpa using hy⟩
    ·cases hy
   |succ i=>
    obtain⟨q1,q2⟩:=g3 i r (by simpa[EB]using hr) j y hy;rw[List.getElem?_drop]at q2;exact⟨q1,by rw[<-q2,Nat.add_mul];congr 1;omega⟩
theorem Ui {α:Type} {k:Nat}: ∀ {vs:List (List α)},(∀r∈vs,r.length=k)->vs.flatten.length=vs.length*k/\ ∀ (i j:Nat),j<k->i<vs.length->vs.flatten[i*k+j]? =AI vs i j
 |[],_=>⟨by simp,λi j _ h=>by simp at h⟩
 |v::vs,h=>by
  have hv:=h v List.mem_cons_self;obtain⟨g1,g2⟩:=Ui (vs:=vs) λr hr=>h r (List.mem_cons_of_mem _ hr)
  refine⟨by simp[hv,g1,Nat.add_mul,Nat.add_comm],λi j hj hi=> ?_⟩;rw[List.flatten_cons,List.getElem?_append]
  cases i with
  |zero=>rw[if_pos (by omega)];simp[AI]
  |succ i=>
   rw[if_neg (by rw[hv,Nat.add_mul];omega),hv];have:=g2 i j hj (by simpa using hi);rw[show (i+1)*k+j - k=i*k+j by rw[Nat.add_mul];omega,this];simp[AI]
theorem op_bsl (hR:Rel fm e s a) {o:Oper} {t el:TypeId} {len k b:Nat} {parts:Array (Nat×Operand)} {Xs:List X} (ho:o.op= .buildSlice t len parts) (ht:P.underlying t=some (.slice el))
  (hk:Bk P el=some k) (hz:(Bc P el).map List.length=some k) (hsz:parts.size=len) (hlim0:len*(k+1)<=16777216) (hp:Nf P el 0 parts.toList=some Xs)
  (h:Ad K md s o.dst (.bsl b k Xs)=some s'):o.wp P a e.w (Reach fm e M s') Q:=by
 have hlim:len*k<=16777216:=by rw[Nat.mul_add]at hlim0;omega
 have hlim1:len<=16777216:=by rw[Nat.mul_add]at hlim0;omega
 simp only[Ad]at h
 split at h
 case h_2=>cases h
 rename_i v s1 hb
 obtain⟨p1,p2,p3⟩:=Pq hR hp
 generalize hxs:parts.toList.map (·.2)=xs at p1 p3
 have hlx:xs.length=parts.size:=by rw[<-hxs];simp
 have hlX:Xs.length=xs.length:=by rw[p2,hlx];simp
 generalize hvs:(Xs.map λx=>EV (ev s.tm x))=vs at hb
 have hlv:vs.length=xs.length:=by rw[<-hvs];simpa using hlX
 unfold bslA at hb
 split at hb
 case isFalse=>cases hb
 rename_i hall
 have hrow: ∀r∈vs,r.length=k/\r.all oneCell=true:=λr hr=>by
  have:=List.all_eq_true.1 hall r hr;exact of_decide_eq_true (by simpa using this)
 have hval: ∀ (i:Nat) r,vs[i]? =some r-> ∃x,xs[i]? =some x/\(a.eval x).cells.size=k/\ ∀ (j:Nat) y z,r[j]? =some y->(a.eval x).cells.toList[j]? =some z->AS e y z:=by
  intro i r hr;rw[<-hvs,List.getElem?_map]at hr
  cases hX:Xs[i]? with
  |none=>simp[hX]at hr
  |some X=>
   simp[hX]at hr;obtain⟨x,g1,g2⟩:=p3 i X hX;have hm:r∈vs:=by rw[<-hvs];exact List.mem_map.2 ⟨X,List.mem_of_getElem? hX,hr⟩
   obtain⟨g3,g4⟩:=hrow r hm;subst hr;obtain⟨g5,g6⟩:=WB hR.mem g2 g4;exact⟨x,g1,g5.trans g3,g6⟩
 have hsize: ∀u∈xs.map a.eval,u.cells.size=k:=λu hu=>by
  obtain⟨x,hx,rfl⟩:=List.mem_map.1 hu;obtain⟨i,hi⟩:=List.mem_iff_getElem?.1 hx;obtain⟨r,hr⟩:=AF (l:=vs) (i:=i) (by rw[hlv];exact(List.getElem?_eq_some_iff.1 hi).1);obtain⟨x',g1,g2,_⟩:=hval i r hr;rw[hi]at g1
  cases g1
  exact g2
 obtain⟨arr,w',r1,r2,r3,r4⟩:=O3 (w:=e.w) (vals:=xs.map a.eval) ht hk hz (by simpa[hlx,hsz]using hlim) hsize
 have hrun: ∀ {v1:Value},v1= .slice (some ⟨e.w.heap.size,0,none⟩) vs.length vs.length->(execOp a.eval o).run P e.w= .ok (.value v1) w':=by
  intro v1 hv1;have hparts:parts.map (fun(p:Nat×Operand)=>(p.1,a.eval p.2))=(((xs.map a.eval).zipIdx 0).map λp=>(p.2,p.1)).toArray:=by
   apply Array.toList_inj.1;rw[Array.toList_map,p1,List.zipIdx_map];simp
  have hlen:len=(xs.map a.eval).length:=by simp[hlx,hsz]
  subst hv1;simp only[execOp,ho];rw[hparts,hlen];simp only[List.length_map]at r1;simp[hlv,r1]
 have hcell: ∀ (i j:Nat) y,AI vs i j=some y->j<k/\ ∃z,arr[i*k+j]? =some z/\AS e y z:=by
  intro i j y hy;obtain⟨r,hr,hj⟩:=AZ hy;obtain⟨x,g1,g2,g3⟩:=hval i r hr;have hjk:j<k:=by rw[<-(hrow r (List.mem_of_getElem? hr)).1];exact(List.getElem?_eq_some_iff.1 hj).1
  obtain⟨z,hz⟩:=AF (l:=(a.eval x).cells.toList) (i:=j) (by simpa[g2]using hjk);refine⟨hjk,z,?_,g3 j y z hj hz⟩;rw[r4 i j (a.eval x) (by simp[g1]) hjk];simpa using hz
 have hsz':arr.size=vs.length*k:=by rw[r3];simp[hlv]
 have hbare: ∀ {rs:List (List AV)} {i j:Nat} {d:T},AI (rs.map λr=>r.map KF) i j=some d-> ∃y,AI rs i j=some y/\d=KF y:=by
  intro rs i j d hd;obtain⟨r,hr,hj⟩:=AZ hd;rw[List.getElem?_map]at hr
  cases hr1:rs[i]? with
  |none=>simp[hr1]at hr
  |some r1=>
   simp[hr1]at hr;subst hr;rw[List.getElem?_map]at hj
   cases hj1:r1[j]? with
   |none=>simp[hj1]at hj
   |some y=>simp[hj1]at hj;exact⟨y,by rw[B7 hr1,hj1],hj.symm⟩
 split at hb
 ·
  rename_i hsc
  cases hn:s.new b (.arr k (vs.map λr=>r.map KF))with
  |none=>simp[hn]at hb
  |some s2=>
   simp[hn]at hb;obtain⟨rfl,rfl⟩:=hb;obtain⟨e',g1,g2,g3,g4,g5,g6⟩:=UO (c:=vs.length) hR r2 (HP _) hn (λr hr=>by
     obtain⟨r',hr',rfl⟩:=List.mem_map.1 hr;simpa using (hrow r' hr').1) ⟨by simp,by omega⟩ (Nat.le_of_eq hsz'.symm) (λi j d hd=>by
     obtain⟨y,hy,rfl⟩:=hbare hd;obtain⟨hjk,z,hz,hok⟩:=hcell i j y hy;obtain⟨r,hr,hj⟩:=AZ hy;obtain⟨v,rfl⟩:=PB (List.all_eq_true.1 hsc r (List.mem_of_getElem? hr)) hj;obtain⟨rfl,hs⟩:=hok.sc_inv;exact⟨z,hz,.inl ⟨z,rfl,rfl,hs⟩⟩)
   refine CI g1 g2 (g6 M) (hrun (by rw[g3];simp)) (.ref b [] _ _ g4) h
 ·split at hb
  ·
   split at hb
   case isFalse=>cases hb
   rename_i him
   cases hm:Co (Co (toT s.ob)) vs with
   |none=>simp[hm]at hb
   |some rows=>
    simp[hm]at hb;obtain⟨rfl,rfl⟩:=hb;obtain⟨m1,m2⟩:=FQ hm;obtain⟨e',g1,g2,g3,g4⟩:=new_im (k:=k) (c:=vs.length) (rows:=rows) hR r2 (λr hr=>by
      obtain⟨i,hi⟩:=List.mem_iff_getElem?.1 hr;obtain⟨r',hr',hh⟩:=m2 i r hi;rw[(FQ hh).1];exact(hrow r' (List.mem_of_getElem? hr')).1) (by omega) (λi j d hd=>by
      obtain⟨r,hr,hj⟩:=AZ hd;obtain⟨r',hr',hh⟩:=m2 i r hr;obtain⟨y,hy,hyd⟩:=(FQ hh).2 j d hj;obtain⟨hjk,z,hz,hok⟩:=hcell i j y (by rw[B7 hr',hy]);refine⟨z,hz,?_⟩;have hi1:isIm y=true:=List.all_eq_true.1 (List.all_eq_true.1 him r' (List.mem_of_getElem? hr')) y (List.mem_of_getElem? hy)
      cases hok with
      |sc v hs=>simp[toT]at hyd;subst hyd;exact .sc _ hs
      |nil k' ad=>simp[toT,Bm]at hyd;subst hyd;exact .nil ad 0 k'
      |im v k' rr hp=>simp[toT,Bm]at hyd;subst hyd;exact hp
      |_=>simp[isIm]at hi1)
    refine CI g1 g2 (g4 M) (hrun (by rw[m1])) g3 h
  ·split at hb
   case h_2=>cases hb
   rename_i h1 hroots
   split at hb
   case h_2=>cases hb
   rename_i s2 hnew
   cases had:Cf b 0 (EB k vs.length h1.l) s2 with
   |none=>simp[had]at hb
   |some s3=>
    simp[had]at hb;obtain⟨rfl,rfl⟩:=hb;obtain⟨f1,f2⟩:=Ui (vs:=vs) λr hr=>(hrow r hr).1
    have hpos:0<vs.length:=by
     cases vs with
     |nil=>simp at*
     |cons _ _=>simp
    have hH:Cs fm e {s,l:=vs.flatten} a (arr.toList.take (vs.length*k)):=by
     refine⟨hR,by simp[f1,hsz'],λi x u hx hu=> ?_⟩;have hlt:i<vs.length*k:=by rw[<-f1];exact(List.getElem?_eq_some_iff.1 hx).1
     obtain⟨i',j',rfl,hi',hj'⟩:=CB hlt;rw[f2 i' j' hj' hi']at hx;obtain⟨_,z,hz,hok⟩:=hcell i' j' x hx;rw[List.getElem?_take,if_pos hlt]at hu;have:arr.toList[i'*k+j']? =some z:=by simpa using hz
     rw[this]at hu
     cases hu
     exact hok
    obtain⟨e1,g1,g2,g3,g4,g5⟩:=Ng hH hroots;have hl1:h1.l.length=vs.length*k:=by rw[g3.len];simp[hsz']
    obtain⟨u1,u2,u3⟩:=NV hl1;have hrt:=HY had;have hcell1: ∀ (i j:Nat) y,AI (EB k vs.length h1.l) i j=some y->j<k/\ ∃z,arr[i*k+j]? =some z/\AS e1 y z:=by
     intro i j y hy;obtain⟨r,hr,hj⟩:=AZ hy;obtain⟨q1,q2⟩:=u3 i r hr j y hj;have hlt:i*k+j<vs.length*k:=by rw[<-hl1];exact(List.getElem?_eq_some_iff.1 q2).1
     have hz:=Array.getElem?_eq_getElem (xs:=arr) (i:=i*k+j) (by omega);exact⟨q1,_,hz,g3.ok _ _ _ q2 (by rw[List.getElem?_take,if_pos hlt];simp)⟩
    have hgr:Gu e1.w w' (.cells arr el (0,0)):=by rw[g1];exact r2
    obtain⟨e2,y1,y2,y3,y4,y5,y6⟩:=UO (c:=vs.length) g3.rel hgr (HP _) hnew (λr hr=>by
      obtain⟨r',hr',rfl⟩:=List.mem_map.1 hr;simpa using u2 r' hr') ⟨by simp[u1],by omega⟩ (Nat.le_of_eq hsz'.symm) (λi j d hd=>by
      obtain⟨y,hy,rfl⟩:=hbare hd;obtain⟨hjk,z,hz,hok⟩:=hcell1 i j y hy;obtain⟨r,hr,hj⟩:=AZ hy;refine⟨z,hz,?_⟩;rcases hrt r (List.mem_of_getElem? hr) y (List.mem_of_getElem? hj)with ⟨v,rfl⟩|⟨o2,rfl⟩
      ·obtain⟨rfl,hs⟩:=hok.sc_inv;exact .inl ⟨z,rfl,rfl,hs⟩
      ·exact .inr ⟨rfl,(FS g3.rel.mem hok rfl).2⟩)
    have hh2:e2.hd b []= .slice (some ⟨e1.w.heap.size,0,none⟩) vs.length vs.length:=by rw[y3];simp[u1]
    obtain⟨e3,z1,z2,z3,z4,z5,⟨rows',z6⟩,z7⟩:=LQ (us:=(List.range vs.length).map λi=>(List.range k).map λj=>arr[i*k+j]!) y2 had y4 hh2 hpos (by simp[u1]) (λm x u hx hu=>by
      rw[List.getElem?_map]at hu
      cases hr:(List.range vs.length)[m]? with
      |none=>simp[hr]at hu
      |some m'=>simp[hr]at hu;subst hu;simpa using u2 x (List.mem_of_getElem? hx)) (λm x u hx hu j y z hy hz=>by
      rw[List.getElem?_map]at hu;have hm:m<vs.length:=by rw[<-u1];exact(List.getElem?_eq_some_iff.1 hx).1
      rw[List.getElem?_range hm]at hu;simp at hu;subst hu;obtain⟨q1,z',q2,q3⟩:=hcell1 m j y (by rw[B7 hx,hy]);rw[List.getElem?_map,List.getElem?_range q1]at hz;simp at hz;have hz':z=z':=by
       rw[<-hz,getElem!_def,q2]
      subst hz';refine⟨q3.carry y5,?_⟩;rw[y1,Nat.zero_add];unfold World.cell?;rw[hgr.at];exact q2)
    refine CI (z1.trans y1) z3 ⟨by rw[z1,<-g1];exact(y6 M).size,λx hx _=> ?_⟩ (hrun ?_) (.ref b [] _ _ z6) h
    ·rw[z1,<-g1];exact(y6 []).same x (by rw[g1];exact hx) (λ_ _=>by simp)
    ·rw[z7,hh2,g1]
end
section
variable {P:Program} {fm fm':Fm} {M:List Nat} {e e':Env} {s s':St} {a:Act} {Q:Exit->Act->World->Prop}
theorem E1 (f:Nat->Option Nat) (l:List AV):mvL f l=l.map (AV.mv f):=by
 induction l with
 |nil=>rfl
 |cons a l ih=>simp[mvL,ih]
mutual
def Jo:AV->Bool
 | .im _ _=>false
 | .al _ _ _=>true
 | .pim _=>false
 | .agg l=>DZ l
 | .tup l=>DZ l
 | .clo _ l=>DZ l
 | .ref _ _=>true
 | .vw _ _ _ _=>true
 | .pb _ _=>true
 | .pa _ _ _ _=>true
 | .non=>true
 | .dead=>true
 | .und=>true
 | .sc _=>true
 | .nil _=>true
def DZ:List AV->Bool
 |[]=>true
 |a::l=>Jo a&&DZ l
end
theorem If: ∀ {l:List AV},DZ l=true-> ∀ {i:Nat} {x:AV},l[i]? =some x->Jo x=true
 |[],_,i,x,h=>by simp at h
 |a::l,hl,i,x,h=>by
  simp only[DZ,Bool.and_eq_true]at hl
  cases i with
  |zero=>simp at h;subst h;exact hl.1
  |succ i=>exact If hl.2 (by simpa using h)
theorem GZ: ∀ {l:List AV},JC l=true-> ∀ {i:Nat} {x:AV},l[i]? =some x->VD x=true
 |[],_,i,x,h=>by simp at h
 |a::l,hl,i,x,h=>by
  simp only[JC,Bool.and_eq_true]at hl
  cases i with
  |zero=>simp at h;subst h;exact hl.1
  |succ i=>exact GZ hl.2 (by simpa using h)
structure MvC (e e':Env) (f:Nat->Option Nat):Prop where
 node: ∀o p k rows o',e.node o p=some (k,rows)->f o=some o'-> ∃rows',e'.node o' p=some (k,rows')/\rows'.length=rows.length/\e'.hd o' p=e.hd o p
 box: ∀o cs o',e.ob o= .box cs->f o=some o'-> ∃cs',e'.ob o'= .box cs'/\e'.bk o'=e.bk o
 one: ∀o p k rows,e.node o p=some (k,rows)->(e.hd o p).oneCell'=true
def ImC (e e':Env):Prop:= ∀b,e.Im b->e'.Im b/\e'.w.heap[b]? =e.w.heap[b]?
theorem AS.mv {f:Nat->Option Nat} (hC:MvC e e' f) {x:AV} {v:Value} (h:AS e x v) (him:Jo x=true\/ImC e e') (hal:VD x=true\/(e'.tk=e.tk/\ImC e e')):AS e' (x.mv f) v:=by
 have hp:ImC e e'-> ∀ {v t},POk e.w e.Im v t->POk e'.w e'.Im v t:=λh1 {v t} h=>h.mono (λb hb=>(h1 b hb).1) (λb hb=>(h1 b hb).2)
 have hq:ImC e e'-> ∀ {v cs},IV e.w e.Im v cs->IV e'.w e'.Im v cs:=λh1 {v cs} h=>h.mono (λb hb=>(h1 b hb).1) (λb hb=>(h1 b hb).2)
 have hl: ∀ {l:List AV} {vs:List Value},(DZ l=true\/ImC e e')->(JC l=true\/(e'.tk=e.tk/\ImC e e'))->(∀ (i:Nat) (a:AV) (v:Value),l[i]? =some a->vs[i]? =some v->(Jo a=true\/ImC e e')->(VD a=true\/(e'.tk=e.tk/\ImC e e'))->AS e' (a.mv f) v)->
   ∀ (i:Nat) (a:AV) (v:Value),(mvL f l)[i]? =some a->vs[i]? =some v->AS e' a v:=by
  intro l vs h0 h1 H i a v ha hv
  rw[E1,List.getElem?_map]at ha
  cases hla:l[i]? with
  |none=>simp[hla]at ha
  |some x=>
   simp[hla]at ha;subst ha;exact H i x v hla hv (h0.imp (λh=>If h hla) id) (h1.imp (λh=>GZ h hla) id)
 induction h with
 |non v=>exact .non v
 |dead v h=>exact .dead v h
 |und=>exact .und
 |sc v h=>exact .sc v h
 |nil k a=>exact .nil k a
 |im v k rows h=>
  rcases him with h1|h1
  ·cases h1
  ·exact .im v k rows (hp h1 h)
 |al v i k rows hv h=>
  rcases hal with h1|⟨h1,h2⟩
  ·cases h1
  ·exact .al v i k rows (hv.trans (congrFun h1 i).symm) (hp h2 h)
 |ref o p k rows h=>
  simp only[AV.mv]
  cases hf:f o with
  |none=>exact .dead _ (hC.one o p k rows h)
  |some o'=>
   obtain⟨rows',h1,h2,h3⟩:=hC.node o p k rows o' h hf;rw[<-h3];exact .ref o' p k rows' h1
 |vw o p lo hi k rows v h h1 h2 hw=>
  simp only[AV.mv]
  cases hf:f o with
  |none=>exact .dead _ (by obtain⟨_,_,_,_,_,_,rfl,_⟩:=hw;rfl)
  |some o'=>
   obtain⟨rows',g1,g2,g3⟩:=hC.node o p k rows o' h hf;exact .vw o' p lo hi k rows' v g1 h1 (g2 ▸ h2) (g3 ▸ hw)
 |pb o j cs h=>
  simp only[AV.mv]
  cases hf:f o with
  |none=>exact .dead _ rfl
  |some o'=>
   obtain⟨cs',h1,h2⟩:=hC.box o cs o' h hf;rw[<-h2];exact .pb o' j cs' h1
 |pa o p i j k b off n c rows h hh hc=>
  simp only[AV.mv]
  cases hf:f o with
  |none=>exact .dead _ rfl
  |some o'=>
   obtain⟨rows',g1,g2,g3⟩:=hC.node o p k rows o' h hf;exact .pa o' p i j k b off n c rows' g1 (g3.trans hh) hc
 |pim v cs h=>
  rcases him with h1|h1
  ·cases h1
  ·exact .pim v cs (hq h1 h)
 |agg l vs hl1 h ih=>exact .agg _ vs (by rw[E1,List.length_map];exact hl1) (hl him hal λi a v h1 h2 h3 h4=>ih i a v h1 h2 h3 h4)
 |tup l vs hl1 h ih=>exact .tup _ vs (by rw[E1,List.length_map];exact hl1) (hl him hal λi a v h1 h2 h3 h4=>ih i a v h1 h2 h3 h4)
 |clo g l vs hl1 h ih=>exact .clo g _ vs (by rw[E1,List.length_map];exact hl1) (hl him hal λi a v h1 h2 h3 h4=>ih i a v h1 h2 h3 h4)
theorem Kf (f:Nat->Option Nat) (g:Nat->AV) (l:List AV):Nv f g l=l.map (AV.mvt f g):=by
 induction l with
 |nil=>rfl
 |cons a l ih=>simp[Nv,ih]
theorem AS.mvt {f:Nat->Option Nat} {g:Nat->AV} (hC:MvC e e' f) (hg: ∀j,(e.tk j).oneCell'=true->AS e' (g j) (e.tk j)) {x:AV} {v:Value} (h:AS e x v) (him:Jo x=true\/ImC e e'):AS e' (x.mvt f g) v:=by
 have hp:ImC e e'-> ∀ {v t},POk e.w e.Im v t->POk e'.w e'.Im v t:=λh1 {v t} h=>h.mono (λb hb=>(h1 b hb).1) (λb hb=>(h1 b hb).2)
 have hq:ImC e e'-> ∀ {v cs},IV e.w e.Im v cs->IV e'.w e'.Im v cs:=λh1 {v cs} h=>h.mono (λb hb=>(h1 b hb).1) (λb hb=>(h1 b hb).2)
 have hl: ∀ {l:List AV} {vs:List Value},(DZ l=true\/ImC e e')->(∀ (i:Nat) (a:AV) (v:Value),l[i]? =some a->vs[i]? =some v->(Jo a=true\/ImC e e')->AS e' (a.mvt f g) v)->
   ∀ (i:Nat) (a:AV) (v:Value),(Nv f g l)[i]? =some a->vs[i]? =some v->AS e' a v:=by
  intro l vs h0 H i a v ha hv
  rw[Kf,List.getElem?_map]at ha
  cases hla:l[i]? with
  |none=>simp[hla]at ha
  |some x=>
   simp[hla]at ha;subst ha;exact H i x v hla hv (h0.imp (λh=>If h hla) id)
 induction h with
 |al v i k rows hv h=>
  have h1:v.oneCell'=true:=by cases h<;>rfl
  subst hv;exact hg i h1
 |agg l vs hl1 h ih=>exact .agg _ vs (by rw[Kf,List.length_map];exact hl1) (hl him λi a v h1 h2 h3=>ih i a v h1 h2 h3)
 |tup l vs hl1 h ih=>exact .tup _ vs (by rw[Kf,List.length_map];exact hl1) (hl him λi a v h1 h2 h3=>ih i a v h1 h2 h3)
 |clo n l vs hl1 h ih=>exact .clo n _ vs (by rw[Kf,List.length_map];exact hl1) (hl him λi a v h1 h2 h3=>ih i a v h1 h2 h3)
 |non v=>exact .non v
 |dead v h=>exact .dead v h
 |und=>exact .und
 |sc v h=>exact .sc v h
 |nil k a=>exact .nil k a
 |im v k rows h=>
  rcases him with h1|h1
  ·cases h1
  ·exact .im v k rows (hp h1 h)
 |pim v cs h=>
  rcases him with h1|h1
  ·cases h1
  ·exact .pim v cs (hq h1 h)
 |ref o p k rows h=>exact AS.mv hC (.ref o p k rows h) (.inl rfl) (.inl rfl)
 |vw o p lo hi k rows v h h1 h2 hw=>exact AS.mv hC (.vw o p lo hi k rows v h h1 h2 hw) (.inl rfl) (.inl rfl)
 |pb o j cs h=>exact AS.mv hC (.pb o j cs h) (.inl rfl) (.inl rfl)
 |pa o p i j k b off n c rows h hh hc=>exact AS.mv hC (.pa o p i j k b off n c rows h hh hc) (.inl rfl) (.inl rfl)
def Env.ren (e : Env) (f g : Nat -> Option Nat) : Env :=
  { w := e.w
    ob := λo' => match g o' with
      | some o => (e.ob o).mv f
      | none => .none
    hd := λo' p => match g o' with
      | some o => e.hd o p
      | none => undef
    bk := λo' => match g o' with
      | some o => e.bk o
      | none => 0
    Im := e.Im
    tk := e.tk }
theorem Nj {f g:Nat->Option Nat} {o o':Nat} (h:g o'=some o) (p:AQ):(e.ren f g).node o' p=e.node o p/\(e.ren f g).hd o' p=e.hd o p:=by
 simp only[Env.node,Env.ren,h,and_true]
 cases e.ob o<;>rfl
theorem Qg (hM:Mem fm e) {f g:Nat->Option Nat} (hfg: ∀o o',f o=some o'->e.ob o≠ .none->g o'=some o):MvC e (e.ren f g) f:=by
 refine⟨λo p k rows o' hn hf=> ?_,λo cs o' hb hf=> ?_,λo p k rows hn=>(hM.node o p k rows hn).one⟩
 ·have hg:=hfg o o' hf (λh=>by simp[Env.node,h]at hn);obtain⟨h1,h2⟩:=Nj (e:=e) (f:=f) hg p;exact⟨rows,h1.trans hn,rfl,h2⟩
 ·have hg:=hfg o o' hf (λh=>by rw[h]at hb;cases hb);exact⟨mvL f cs,by simp[Env.ren,hg,hb,Obj.mv],by simp[Env.ren,hg]⟩
theorem WF (hM:Mem fm e) {f g:Nat->Option Nat} (hfg: ∀o o',f o=some o'->e.ob o≠ .none->g o'=some o) (hgf: ∀o o',g o'=some o->f o=some o'):Mem fm (e.ren f g):=by
 have hC:=Qg hM hfg;have hI:ImC e (e.ren f g):=λb hb=>⟨hb,rfl⟩
 have hinj: ∀o1 o2 x,g o1=some x->g o2=some x->o1=o2:=λo1 o2 x h1 h2=>by
  have:=hgf _ _ h1;rw[hgf _ _ h2]at this
  cases this;rfl
 have hsome: ∀o' q,((e.ren f g).node o' q).isSome-> ∃o,g o'=some o:=by
  intro o' q h
  cases hg:g o' with
  |none=>simp[Env.node,Env.ren,hg]at h
  |some o=>exact⟨o,rfl⟩
 refine(ND (e':=e.ren f g) hM rfl rfl (λo' q=>(g o').map λo=>(o,q)) (λo'=>(g o').getD 0) (λo' q k1 r hn=> ?_) (λo1 q1 o2 q2 x h1 h2 h3 h4=> ?_) (λo' cs hb=> ?_) (λo1 o2 cs1 cs2 h1 h2 h3=> ?_)).1
 ·obtain⟨o,hg⟩:=hsome o' q (by rw[hn];rfl);obtain⟨h1,h2⟩:=Nj (e:=e) (f:=f) hg q;rw[h1]at hn;refine⟨?_,λb hb=>⟨(o,q),by simp[hg],?_⟩⟩
  ·rw[h2];exact(hM.node o q k1 r hn).subs λi j=>(Nj (e:=e) (f:=f) hg _).2
  ·rw[h2]at hb;exact AY hn hb
 ·obtain⟨o,g1⟩:=hsome o1 q1 h3;obtain⟨o',g2⟩:=hsome o2 q2 h4;simp[g1]at h1;simp[g2]at h2;subst h1;simp at h2;obtain⟨rfl,rfl⟩:=h2;exact⟨hinj _ _ _ g1 g2,rfl⟩
 ·cases hg:g o' with
  |none=>simp[Env.ren,hg]at hb
  |some o=>
   simp only[Env.ren,hg]at hb
   cases ho:e.ob o with
   |none=>simp[ho,Obj.mv]at hb
   |arr k r=>simp[ho,Obj.mv]at hb
   |box cs0=>
    simp[ho,Obj.mv]at hb;subst hb;refine⟨cs0,by simp[ho],by simp[Env.ren,hg],λj c hc=> ?_⟩;rw[E1,List.getElem?_map]at hc
    cases hj:cs0[j]? with
    |none=>simp[hj]at hc
    |some c0=>simp[hj]at hc;subst hc;exact⟨c0,rfl,λu hu=>hu.mv hC (.inr hI) (.inr ⟨rfl,hI⟩)⟩
 ·cases g1:g o1 with
  |none=>simp[Env.ren,g1]at h1
  |some x1=>
   cases g2:g o2 with
   |none=>simp[Env.ren,g2]at h2
   |some x2=>
    simp[g1,g2]at h3;subst h3;exact hinj _ _ _ g1 g2
end
section
variable {P:Program} {fm fm':Fm} {M:List Nat} {e e':Env} {s s':St} {a:Act} {Q:Exit->Act->World->Prop}
theorem HM: ∀ {m l:List Nat},l.Nodup->(Su l m).Nodup
 |[],l,h=>h
 |x::m,l,h=>by
  simp only[Su];split
  ·exact HM h
  ·rename_i hc;refine HM (List.nodup_append.2 ⟨h,by simp,λy hy z hz=> ?_⟩);simp at hz;subst hz;intro hyz;subst hyz;exact hc (by simpa using hy)
theorem GV {o:Nat}: ∀ {l:List Nat} {i:Nat},o∈l->i<=FV o l i/\l[FV o l i - i]? =some o
 |[],i,h=>by cases h
 |x::l,i,h=>by
  simp only[FV];by_cases hx:x=o
  ·simp[hx]
  ·rw[if_neg hx];obtain⟨g1,g2⟩:=GV (l:=l) (i:=i+1) (by
    rcases List.mem_cons.1 h with h|h
    ·exact absurd h.symm hx
    ·exact h)
   refine⟨by omega,?_⟩;rw[show FV o l (i+1) - i=(FV o l (i+1) - (i+1))+1 by omega,List.getElem?_cons_succ];exact g2
theorem Fy {o:Nat}: ∀ {l:List Nat} {i j:Nat},l.Nodup->l[j]? =some o->FV o l i=i+j
 |[],i,j,_,h=>by simp at h
 |x::l,i,j,hn,h=>by
  simp only[FV];obtain⟨h1,h2⟩:=List.nodup_cons.1 hn
  cases j with
  |zero=>simp at h;simp[h]
  |succ j=>
   simp at h;have hne: ¬x=o:=λhx=>h1 (by rw[hx];exact List.mem_of_getElem? h)
   rw[if_neg hne,Fy h2 h];omega
theorem D4 (l1 l2:List (Nat×Obj)) (o:Nat):AN (l1++l2) o=if o∈l1.map (·.1)then AN l1 o else AN l2 o:=by
 induction l1 with
 |nil=>simp
 |cons x l1 ih=>
  obtain⟨n,y⟩:=x;simp only[List.cons_append,AN];by_cases h:o=n
  ·simp[h]
  ·rw[if_neg h,if_neg h,ih];congr 1;simp[h]
theorem Fc {l:List (Nat×Obj)} {o:Nat} (h:o∉l.map (·.1)):AN l o= .none:=by
 induction l with
 |nil=>rfl
 |cons x l ih=>
  obtain⟨n,y⟩:=x;simp at h;simp only[AN];rw[if_neg h.1];exact ih (by simpa using h.2)
theorem OA (f:Nat->Option Nat) (ob:List (Nat×Obj)) (rest:List (Nat×Obj)) (o:Nat): ∀ks:List Nat,
  AN (N2 f ob ks++rest) o=if o∈ks/\EL (AN ob o)=true then(AN ob o).mv f else AN rest o
 |[]=>by simp[N2]
 |k::ks=>by
  have ih:=OA f ob rest o ks;simp only[N2];split
  ·rename_i hk;simp only[List.cons_append,AN];by_cases h:o=k
   ·subst h;simp[hk]
   ·rw[if_neg h,ih];simp[h]
  ·rename_i hk;rw[ih];by_cases h:o=k
   ·subst h;simp[hk]
   ·simp[h]
theorem Kr (f:Nat->Option Nat) (ob:List (Nat×Obj)) (o:Nat): ∀ (l:List Nat) (n:Nat),AN (mvO f ob n l) o=if n<=o then match l[o - n]? with
   |some x=>(AN ob x).mv f
   |none=> .none else .none
 |[],n=>by simp[mvO,AN]
 |x::l,n=>by
  simp only[mvO,AN];by_cases h:o=n
  ·subst h;simp
  ·rw[if_neg h,Kr f ob o l (n+1)];by_cases h2:n<=o
   ·rw[if_pos h2,if_pos (by omega),show o - n=(o - (n+1))+1 by omega,List.getElem?_cons_succ]
   ·rw[if_neg h2,if_neg (by omega)]
theorem XE (f:Nat->Option Nat) (l:List (Nat×AV)) (t:Nat):Aw (mvT f l) t=(Aw l t).mv f:=by
 induction l with
 |nil=>rfl
 |cons x l ih=>
  obtain⟨n,y⟩:=x;simp only[mvT,Aw];split
  ·rfl
  ·exact ih
theorem Jx (tm:List (Nat×AV)) (t:Nat): ∀l:List Nat,Aw (Hx tm l) t=Aw tm t\/Aw (Hx tm l) t= .non
 |[]=> .inr rfl
 |x::l=>by
  simp only[Hx,Aw];by_cases h:t=x
  ·subst h;simp
  ·rw[if_neg h];exact Jx tm t l
theorem Xl (hR:Rel fm e s a) {base:Nat} (hb:s.m<=base) (live:List Nat): ∃e',e'.w=e.w/\Rel fm e' (Aa base live s) a:=by
 generalize hl:MH live s=l;have hnd:l.Nodup:=by rw[<-hl];exact(HM (HM List.nodup_nil)).filter _
 have hm: ∀o∈l,s.m<=o:=λo ho=>by rw[<-hl]at ho;exact of_decide_eq_true (List.mem_filter.1 ho).2
 let f:=IR s.m base l
 let g:Nat->Option Nat:=λo'=>if o'<s.m then some o' else if base<=o' then l[o' - base]? else none
 have hfg: ∀o o',f o=some o'->e.ob o≠ .none->g o'=some o:=by
  intro o o' hf _;simp only[f,IR]at hf;split at hf
  ·rename_i h;cases hf;simp[g,h]
  ·split at hf
   ·rename_i h1 h2
    cases hf
    obtain⟨g1,g2⟩:=GV (i:=base) (by simpa using h2:o∈l);simp only[g];rw[if_neg (by omega),if_pos g1];exact g2
   ·cases hf
 have hgf: ∀o o',g o'=some o->f o=some o':=by
  intro o o' hg;simp only[g]at hg;split at hg
  ·rename_i h;cases hg;simp[f,IR,h]
  ·split at hg
   ·rename_i h1 h2;have hmem:=List.mem_of_getElem? hg;have:=hm o hmem;simp only[f,IR];rw[if_neg (by omega),if_pos (by simpa using hmem),Fy hnd hg];congr 1;omega
   ·cases hg
 have hC:=Qg hR.mem hfg;have hI:ImC e (e.ren f g):=λb hb=>⟨hb,rfl⟩
 have hpin: ∀ {o},o<s.m->g o=some o:=λh=>by simp[g,h]
 refine⟨e.ren f g,rfl,⟨WF hR.mem hfg hgf,λo'=> ?_,λo k rows h1 h2=> ?_,λo cs h1 h2=> ?_,hR.size,hR.defers,λt=> ?_⟩⟩
 ·simp only[Aa,hl];rw[OA,Kr];simp only[Env.ren,g,hR.ob,List.mem_range];by_cases h:o'<s.m
  ·rw[if_pos h];by_cases hi:EL (AN s.ob o')=true
   ·rw[if_pos ⟨h,hi⟩]
   ·rw[if_neg (λh=>hi h.2),if_neg (by omega)]
    cases ho:AN s.ob o' with
    |none=>simp[ho,Obj.mv]
    |box _=>simp[ho,EL]at hi
    |arr _ _=>simp[ho,EL]at hi
  ·have hne: ¬ (o'<s.m/\EL (AN s.ob o')=true):=λh'=>h h'.1
   rw[if_neg h,if_neg hne];by_cases h2:base<=o'
   ·rw[if_pos h2,if_pos h2];all_goals rfl
   ·rw[if_neg h2,if_neg h2]
 ·have h1:o<s.m:=h1;have hob:(e.ren f g).ob o=(e.ob o).mv f:=by simp[Env.ren,hpin h1]
  rw[hob]at h2;have hhd:(e.ren f g).hd o []=e.hd o []:=by simp[Env.ren,hpin h1]
  rw[hhd]
  cases ho:e.ob o with
  |none=>simp[ho,Obj.mv]at h2
  |box _=>simp[ho,Obj.mv]at h2
  |arr k' r'=>exact hR.pinh o k' r' h1 ho
 ·have h1:o<s.m:=h1;have hob:(e.ren f g).ob o=(e.ob o).mv f:=by simp[Env.ren,hpin h1]
  rw[hob]at h2;have hbk:(e.ren f g).bk o=e.bk o:=by simp[Env.ren,hpin h1]
  rw[hbk]
  cases ho:e.ob o with
  |none=>simp[ho,Obj.mv]at h2
  |box c=>exact hR.pinb o c h1 ho
  |arr _ _=>simp[ho,Obj.mv]at h2
 ·simp only[Aa,hl];rw[XE];rcases Jx s.tm t live with h|h
  ·rw[h];exact(hR.tm t).mv hC (.inr hI) (.inr ⟨rfl,hI⟩)
  ·rw[h];exact .non _
end
section
variable {P:Program} {fm fm0:Fm} {M:List Nat} {e e':Env} {s s':St} {a:Act} {Q:Exit->Act->World->Prop}
def Pl.at (l:Pl) (j:Nat):Pl:=
 match l with
 | .nd _ p=> .nd j p
 | .bx _=> .bx j
theorem J0 {ob:List (Nat×Obj)} {n base m:Nat}: ∀ {os:List (Nat×Obj)},J1 ob n base m os=true-> ∀j,j∈os.map (·.1)->n<=j->AN ob (base+(j - n))= .none/\m<=base+(j - n)
 |[],h,j,hj,_=>by cases hj
 |(i,x)::os,h,j,hj,hn=>by
  simp only[J1,Bool.and_eq_true,Bool.or_eq_true,decide_eq_true_eq]at h;rcases List.mem_cons.1 hj with h2|h2
  ·have h2:j=i:=h2;subst h2;rcases h.1 with h1|h1
   ·omega
   ·split at h1
    ·rename_i h2;exact⟨h2,by simpa using h1⟩
    ·cases h1
  ·exact J0 h.2 j h2 hn
theorem XF {l:List (Nat×Obj)} {o:Nat} (h:AN l o≠ .none):o∈l.map (·.1):=by
 by_cases hm:o∈l.map (·.1)
 ·exact hm
 ·exact absurd (Fc hm) h
theorem HA {ob:List (Nat×Obj)} {n base m:Nat} {os:List (Nat×Obj)} (h:J1 ob n base m os=true) (j:Nat) (hj:AN os j≠ .none) (hn:n<=j):AN ob (base+(j - n))= .none/\m<=base+(j - n):=
 J0 h j (XF hj) hn
theorem H4 (o:Nat): ∀ (cs:List Nat) (l:List (Nat×Obj)),AN (IK cs l) o=if o∈cs then .none else AN l o
 |[],l=>by simp[IK]
 |c::cs,l=>by
  simp only[IK];rw[H4 o cs,DF];by_cases h:o=c
  ·subst h;simp
  ·simp[h]
theorem Jz {f:Nat->Option Nat} {g:Nat->AV} {rest:List (Nat×Obj)} {o:Nat}: ∀ {os:List (Nat×Obj)},
  (∀j,j∈os.map (·.1)->f j≠some o)->AN (JD f g os++rest) o=AN rest o
 |[],_=>rfl
 |(j,x)::os,h=>by
  have ih:=Jz (f:=f) (g:=g) (rest:=rest) (o:=o) (os:=os) λi hi=>h i (List.mem_cons_of_mem _ hi)
  have hj:=h j List.mem_cons_self;simp only[JD]
  cases hf:f j with
  |none=>exact ih
  |some o1=>
   simp only[List.cons_append,AN];have hne: ¬o=o1:=λh=>hj (by rw[hf,h])
   rw[if_neg hne];exact ih
theorem H3 {f:Nat->Option Nat} {g:Nat->AV} {rest:List (Nat×Obj)} {o j:Nat} (hf:f j=some o): ∀ {os:List (Nat×Obj)},
  (∀i,i∈os.map (·.1)->f i=some o->i=j)->j∈os.map (·.1)->AN (JD f g os++rest) o=(AN os j).mvt f g
 |[],_,h=>by cases h
 |(i,x)::os,hinj,h=>by
  simp only[JD,AN];by_cases hij:j=i
  ·subst hij;simp[hf,AN]
  ·rw[if_neg hij];have ih:=H3 (g:=g) (rest:=rest) hf (os:=os) (λx hx=>hinj x (List.mem_cons_of_mem _ hx)) (by
    rcases List.mem_cons.1 h with h1|h1
    ·exact absurd h1 hij
    ·exact h1)
   cases hfi:f i with
   |none=>exact ih
   |some o1=>
    simp only[List.cons_append,AN];have hne: ¬o=o1:=λh1=>hij (hinj i List.mem_cons_self (by rw[hfi,h1])).symm
    rw[if_neg hne];exact ih
theorem QR {cs:List Nat} {base:Nat} (hnd:cs.Nodup) {i j o:Nat} (hi:Fo cs base i=some o) (hj:Fo cs base j=some o) (h1:cs.length<=i->o∉cs) (h2:cs.length<=j->o∉cs):i=j:=by
 unfold Fo at hi hj;split at hi
 ·split at hj
  ·have h3:=Fy (i:=0) hnd hi;have h4:=Fy (i:=0) hnd hj;omega
  ·exact absurd (List.mem_of_getElem? hi) (h2 (by omega))
 ·split at hj
  ·exact absurd (List.mem_of_getElem? hj) (h1 (by omega))
  ·simp only[Option.some.injEq]at hi hj;omega
theorem Wh (hR : Rel fm e s a) {cs lent : List Nat} {os : List (Nat × Obj)} {base : Nat} (hnd : cs.Nodup) (hcs : ∀ o ∈ cs, e.ob o ≠ .none) (hfr : J1 s.ob cs.length base s.m os = true)
    (hM' : Mem fm0 e') (hw0 : fm0.w0 = e.w) (hF : ∀ b, fm0.F b <-> ∃ l, e.blk l = some b /\ l.obj ∈ cs) (hI : ∀ b, fm0.I b <-> (e.Im b \/ ∃ l, e.blk l = some b /\ l.obj ∈ lent))
    (hob : ∀ j, e'.ob j = AN os j) (harr : ∀ (j : Nat) o k rows, cs[j]? = some o -> e'.ob j = .arr k rows -> e'.hd j [] = e.hd o [] /\ ∃ r0, e.ob o = .arr k r0)
    (hbox : ∀ (j : Nat) o c0, cs[j]? = some o -> e.ob o = .box c0 -> ∃ c, e'.ob j = .box c /\ e'.bk j = e.bk o) (hbx2 : ∀ (j : Nat) o c, cs[j]? = some o -> e'.ob j = .box c -> ∃ c0, e.ob o = .box c0)
    (hno : lent = [] \/ ∀ j c, e'.ob j = .box c -> DZ c = true) {tg : Nat -> AV} (htg : ∀ j, (e'.tk j).oneCell' = true -> tg j = .dead \/ ∃ x0, AS e x0 (e'.tk j) /\ tg j = x0.sub (Cx cs os)) :
    ∃ e2, e2.w = e'.w /\ Rel fm e2 { (s.sub (Cx cs os)) with ob := JD (Fo cs base) tg os ++ IK cs (Mr (Cx cs os) s.ob) } a /\ MvC e' e2 (Fo cs base) /\ (lent = [] -> ImC e' e2) /\
      B0 e e2 (Cx cs os) /\ e.w.heap.size <= e2.w.heap.size /\ ∀ b, b < e.w.heap.size -> (∀ l, e.blk l = some b -> l.obj ∉ cs) -> e2.w.heap[b]? = e.w.heap[b]? := by
  let ρ := Fo cs base
  let F := Cx cs os
  let σ : Nat -> Option Nat := λo => if o ∈ cs then some (FV o cs 0) else if base <= o /\ EL (AN os (cs.length + (o - base))) = true then some (cs.length + (o - base)) else none
  have hkey : ∀ {j}, AN os j ≠ .none -> cs.length <= j -> base + (j - cs.length) ∉ cs := λh1 h2 h3 => by
    have := (HA hfr _ h1 h2).1;rw [<-hR.ob] at this;exact hcs _ h3 this
  have hσ1 : ∀ {o}, o ∈ cs -> σ o = some (FV o cs 0) /\ cs[FV o cs 0]? = some o := λh => by
    refine ⟨by simp [σ, h], ?_⟩;have := (GV (i := 0) h).2;simpa using this
  have hσ2 : ∀ {o j}, σ o = some j -> ρ j = some o /\ (o ∈ cs /\ cs[j]? = some o \/ o ∉ cs /\ cs.length <= j /\ o = base + (j - cs.length) /\ AN os j ≠ .none) := by
    intro o j h;by_cases ho : o ∈ cs
    · obtain ⟨h1, h2⟩ := hσ1 ho
      rw [h1] at h
      cases h
      refine ⟨?_, .inl ⟨ho, h2⟩⟩
      simp only [ρ, Fo]
      rw [if_pos (List.getElem?_eq_some_iff.1 h2).1]
      exact h2
    · simp only [σ, if_neg ho] at h
      split at h
      · rename_i hc
        cases h
        refine ⟨?_, .inr ⟨ho, by omega, by omega, λh => by rw [h] at hc; simp [EL] at hc⟩⟩
        simp only [ρ, Fo]
        rw [if_neg (by omega)]
        congr 1; omega
      · cases h
  have hρσ : ∀ {j o}, ρ j = some o -> e'.ob j ≠ .none -> σ o = some j := by
    intro j o h1 h2;rw [hob] at h2;simp only [ρ, Fo] at h1;split at h1
    · have ho := List.mem_of_getElem? h1
      obtain ⟨h3, h4⟩ := hσ1 ho
      rw [h3]
      congr 1
      have := Fy (i := 0) hnd h1
      omega
    · rename_i hj
      cases h1
      have hno := hkey h2 (by omega)
      simp only [σ, if_neg hno]
      rw [show cs.length + (base + (j - cs.length) - base) = j by omega, if_pos ⟨by omega, by
        cases hx : AN os j with
        | none => exact absurd hx h2
        | box _ => rfl
        | arr _ _ => rfl⟩]
  have hσn : ∀ {o}, σ o = none -> o ∉ cs := λh h1 => by rw [(hσ1 h1).1] at h; cases h
  have hσold : ∀ {o}, e.ob o ≠ .none -> o ∉ cs -> σ o = none := by
    intro o h1 h2
    cases h : σ o with
    | none => rfl
    | some j =>
      obtain ⟨_, ⟨h3, _⟩ | ⟨_, h3, h4, h5⟩⟩ := hσ2 h
      · exact absurd h3 h2
      · have := (HA hfr j h5 h3).1
        rw [<-h4, <-hR.ob] at this
        exact absurd this h1
  let e2 : Env := { w := e'.w, ob := λo => match σ o with
                      | some j => (e'.ob j).mvt ρ tg
                      | none => (e.ob o).sub F,
                    hd := λo p => match σ o with
                      | some j => e'.hd j p
                      | none => e.hd o p,
                    bk := λo => match σ o with
                      | some j => e'.bk j
                      | none => e.bk o,
                    Im := λb => (lent = [] /\ e'.Im b) \/ e.Im b, tk := e.tk }
  have hImI : ∀ b, e.Im b -> e'.Im b := λb hb => hM'.im0 b ((hI b).2 (.inl hb))
  have hsame : ∀ b, b < e.w.heap.size -> ¬ fm0.F b -> e'.w.heap[b]? = e.w.heap[b]? := λb h1 h2 => by
    have := hM'.keeps.block b (by rw [hw0]; exact h1) h2;rw [hw0] at this;exact this
  have hrest : ∀ l b, e.blk l = some b -> l.obj ∉ cs -> b < e.w.heap.size /\ ¬ fm0.F b /\ e'.w.heap[b]? = e.w.heap[b]? := by
    intro l b h1 h2;have hlt := (hR.mem.own l b h1).1;have hnf : ¬ fm0.F b := λh => by
      obtain ⟨l', h3, h4⟩ := (hF b).1 h;rw [hR.mem.inj l' l b h3 h1] at h4;exact h2 h4
    exact ⟨hlt, hnf, hsame b hlt hnf⟩
  have hImsame : ∀ b, e.Im b -> e'.w.heap[b]? = e.w.heap[b]? := λb hb => hsame b (hR.mem.im b hb).1 λh => by
    obtain ⟨l, h3, _⟩ := (hF b).1 h;exact (hR.mem.own l b h3).2.2 hb
  have n1 : ∀ {o j}, σ o = some j -> ∀ p, e2.node o p = e'.node j p /\ e2.hd o p = e'.hd j p := by
    intro o j h p;simp only [Env.node, e2, h, and_true]
    cases e'.ob j <;> rfl
  have n2 : ∀ {o}, σ o = none -> ∀ p, e2.node o p = e.node o p /\ e2.hd o p = e.hd o p := by
    intro o h p;simp only [Env.node, e2, h, and_true]
    cases e.ob o <;> rfl
  have hnone : ∀ {e : Env} {o p x}, e.node o p = some x -> e.ob o ≠ .none := λh h1 => by simp [Env.node, h1] at h
  have hlen : ∀ {j o k rows k0 r0}, cs[j]? = some o -> e'.ob j = .arr k rows -> e.ob o = .arr k0 r0 -> k = k0 /\ rows.length = r0.length := by
    intro j o k rows k0 r0 h1 h2 h3;obtain ⟨g1, r1, g2⟩ := harr j o k rows h1 h2;rw [h3] at g2
    cases g2
    obtain ⟨ad, c, y1, _⟩ := Hq hM' (o := j) (p := []) (k := k) (rows := rows) (by simp [Env.node, h2, AM]);obtain ⟨ad2, c2, y3, _⟩ := Hq hR.mem (o := o) (p := []) (k := k) (rows := r0) (by simp [Env.node, h3, AM]);rw [g1, y3] at y1;simp at y1;exact ⟨rfl, y1.2.1.symm⟩
  have hC : B0 e e2 F := by
    refine ⟨λb hb => ⟨.inr hb, hImsame b hb⟩, λo p k rows o' p' hn hf => ?_, λo c hb => ?_, λo p k rows hn => (hR.mem.node o p k rows hn).one, rfl⟩
    · simp only [F, Cx] at hf
      split at hf
      · rename_i hc
        have hc : o ∈ cs := by simpa using hc
        split at hf
        · rename_i k' rows' hos
          cases hf
          obtain ⟨h1, h2⟩ := hσ1 hc
          obtain ⟨g1, g2⟩ := n1 h1 []
          have hob' : e'.ob (FV o cs 0) = .arr k' rows' := by rw [hob]; exact hos
          obtain ⟨y1, r0, y2⟩ := harr _ o k' rows' h2 hob'
          have hr0 : k' = k /\ r0 = rows := by simpa [Env.node, y2, AM] using hn
          obtain ⟨rfl, rfl⟩ := hr0
          obtain ⟨_, y3⟩ := hlen h2 hob' y2
          exact ⟨rows', by rw [g1]; simp [Env.node, hob', AM], y3, by rw [g2, y1]⟩
        · cases hf
      · rename_i hc
        cases hf
        obtain ⟨g1, g2⟩ := n2 (hσold (hnone hn) (by simpa using hc)) p
        exact ⟨rows, g1.trans hn, rfl, g2⟩
    · by_cases ho : o ∈ cs
      · obtain ⟨h1, h2⟩ := hσ1 ho
        obtain ⟨c', y1, y2⟩ := hbox _ o c h2 hb
        exact ⟨Nv ρ tg c', by simp [e2, h1, y1, Obj.mvt], by simp [e2, h1, y2]⟩
      · have h1 := hσold (by rw [hb]; simp) ho
        exact ⟨CL F c, by simp [e2, h1, hb, Obj.sub], by simp [e2, h1]⟩
  have hMv : MvC e' e2 ρ := by
    refine ⟨λj p k rows o hn hf => ?_, λj c o hb hf => ?_, λo p k rows hn => (hM'.node o p k rows hn).one⟩
    · obtain ⟨g1, g2⟩ := n1 (hρσ hf (hnone hn)) p
      exact ⟨rows, g1.trans hn, rfl, g2⟩
    · have h1 := hρσ hf (by rw [hb]; simp)
      exact ⟨Nv ρ tg c, by simp [e2, h1, hb, Obj.mvt], by simp [e2, h1]⟩
  have hImC : lent = [] -> ImC e' e2 := λh b hb => ⟨.inl ⟨h, hb⟩, rfl⟩
  have hTg : ∀ j, (e'.tk j).oneCell' = true -> AS e2 (tg j) (e'.tk j) := λj hj => by
    rcases htg j hj with h | ⟨x0, h1, h2⟩
    · rw [h]; exact .dead _ hj
    · rw [h2]; exact h1.sub hC
  have hblk : ∀ l b, e2.blk l = some b -> (∃ j, σ l.obj = some j /\ e'.blk (l.at j) = some b) \/ (σ l.obj = none /\ e.blk l = some b) := by
    intro l b h
    cases l with
    | nd o p =>
      obtain ⟨k, rows, h1, h2⟩ := E9 h
      cases hs : σ o with
      | some j =>
        obtain ⟨g1, g2⟩ := n1 hs p;exact .inl ⟨j, hs, AY (g1 ▸ h1) (g2 ▸ h2)⟩
      | none =>
        obtain ⟨g1, g2⟩ := n2 hs p;exact .inr ⟨hs, AY (g1 ▸ h1) (g2 ▸ h2)⟩
    | bx o =>
      obtain ⟨c, h1, h2⟩ := Dv h
      cases hs : σ o with
      | some j =>
        simp only [e2, hs] at h1 h2
        cases hx : e'.ob j with
        | none => simp [hx, Obj.mvt] at h1
        | arr _ _ => simp [hx, Obj.mvt] at h1
        | box c' => exact .inl ⟨j, hs, by rw [<-h2]; exact Ag hx⟩
      | none =>
        simp only [e2, hs] at h1 h2
        cases hx : e.ob o with
        | none => simp [hx, Obj.sub] at h1
        | arr _ _ => simp [hx, Obj.sub] at h1
        | box c' => exact .inr ⟨hs, by rw [<-h2]; exact Ag hx⟩
  have hnew : ∀ {l b}, e'.blk l = some b -> fm0.F b \/ e.w.heap.size <= b := λh => by
    rcases (hM'.own _ _ h).2.1 with h1 | h1
    · exact .inr (by rw [<-hw0]; exact h1)
    · exact .inl h1
  have hMem : Mem fm e2 := by
    refine ⟨λo c hb j x hx => ?_, λo p k rows hn => ?_, λl l' b h h' => ?_, λl b h => ?_, λx hx => ?_, λx hx => .inr (hR.mem.im0 x hx), ?_, hR.mem.tk⟩
    · cases hs : σ o with
      | some i =>
        simp only [e2, hs] at hb ⊢
        cases hx' : e'.ob i with
        | none => simp [hx', Obj.mvt] at hb
        | arr _ _ => simp [hx', Obj.mvt] at hb
        | box c' =>
          simp [hx', Obj.mvt] at hb;subst hb;rw [Kf, List.getElem?_map] at hx
          cases hj : c'[j]? with
          | none => simp [hj] at hx
          | some x' =>
            simp [hj] at hx;subst hx;obtain ⟨g1, u, g2, g3⟩ := hM'.box i c' hx' j x' hj;refine ⟨g1, u, g2, g3.mvt hMv hTg ?_⟩;rcases hno with h | h
            · exact .inr (hImC h)
            · exact .inl (If (h i c' hx') hj)
      | none =>
        simp only [e2, hs] at hb ⊢
        cases hx' : e.ob o with
        | none => simp [hx', Obj.sub] at hb
        | arr _ _ => simp [hx', Obj.sub] at hb
        | box c' =>
          simp [hx', Obj.sub] at hb;subst hb;rw [Bf, List.getElem?_map] at hx
          cases hj : c'[j]? with
          | none => simp [hj] at hx
          | some x' =>
            simp [hj] at hx;subst hx;obtain ⟨g1, u, g2, g3⟩ := hR.mem.box o c' hx' j x' hj;obtain ⟨_, _, q3⟩ := hrest _ _ (Ag hx') (hσn hs);exact ⟨g1.congr q3, u, by rw [<-g2]; exact CC q3, g3.sub hC⟩
    · cases hs : σ o with
      | some j =>
        obtain ⟨g1, g2⟩ := n1 hs p;rw [g1] at hn;rw [g2];exact (hM'.node j p k rows hn).subs λi j' => (n1 hs _).2
      | none =>
        obtain ⟨g1, g2⟩ := n2 hs p;rw [g1] at hn;rw [g2];exact (hR.mem.node o p k rows hn).congr (Ev.refl _) (λb hb => (hrest _ b (AY hn hb) (hσn hs)).2.2) (λi j _ _ _ => (n2 hs _).2)
    · rcases hblk l b h with ⟨j, h1, h2⟩ | ⟨h1, h2⟩
      · rcases hblk l' b h' with ⟨j', h1', h2'⟩ | ⟨h1', h2'⟩
        · have := hM'.inj _ _ b h2 h2'
          have hobj : ∀ {o o' i}, σ o = some i -> σ o' = some i -> o = o' := λq1 q2 => by
            have q3 := (hσ2 q1).1;rw [(hσ2 q2).1] at q3
            cases q3; rfl
          cases l <;> cases l' <;> simp only [Pl.at, Pl.nd.injEq, Pl.bx.injEq, reduceCtorEq] at this
          · obtain ⟨rfl, rfl⟩ := this
            have := hobj h1 h1'
            simp only [Pl.obj] at this
            rw [this]
          · subst this
            have := hobj h1 h1'
            simp only [Pl.obj] at this
            rw [this]
        · obtain ⟨q1, q2, _⟩ := hrest l' b h2' (hσn h1')
          rcases hnew h2 with q3 | q3
          · exact absurd q3 q2
          · omega
      · rcases hblk l' b h' with ⟨j', h1', h2'⟩ | ⟨h1', h2'⟩
        · obtain ⟨q1, q2, _⟩ := hrest l b h2 (hσn h1)
          rcases hnew h2' with q3 | q3
          · exact absurd q3 q2
          · omega
        · exact hR.mem.inj l l' b h2 h2'
    · rcases hblk l b h with ⟨j, h1, h2⟩ | ⟨h1, h2⟩
      · obtain ⟨q1, q2, q3⟩ := hM'.own _ b h2
        refine ⟨q1, ?_, λh => ?_⟩
        · rcases hnew h2 with q4 | q4
          · obtain ⟨l0, q5, _⟩ := (hF b).1 q4
            exact (hR.mem.own l0 b q5).2.1
          · exact .inl (Nat.le_trans hR.mem.keeps.size q4)
        · rcases h with ⟨_, h⟩ | h
          · exact q3 h
          · exact q3 (hImI b h)
      · obtain ⟨q1, q2, q3⟩ := hR.mem.own l b h2
        obtain ⟨y1, y2, _⟩ := hrest l b h2 (hσn h1)
        refine ⟨?_, q2, λh => ?_⟩
        · have := hM'.keeps.size
          rw [hw0] at this
          exact Nat.lt_of_lt_of_le q1 this
        · rcases h with ⟨hl, h⟩ | h
          · rcases (hM'.im b h).2 (by rw [hw0]; exact q1) with h3 | h3
            · rcases (hI b).1 h3 with h4 | ⟨l0, _, h4⟩
              · exact q3 h4
              · rw [hl] at h4; cases h4
            · exact y2 h3
          · exact q3 h
    · have hsz := hM'.keeps.size
      rw [hw0] at hsz
      rcases hx with ⟨hl, hx⟩ | hx
      · refine ⟨(hM'.im x hx).1, λhlt => ?_⟩
        rcases (hM'.im x hx).2 (by rw [hw0]; exact Nat.lt_of_lt_of_le hlt hR.mem.keeps.size) with h3 | h3
        · rcases (hI x).1 h3 with h4 | ⟨l0, _, h4⟩
          · exact (hR.mem.im x h4).2 hlt
          · rw [hl] at h4; cases h4
        · obtain ⟨l0, q5, _⟩ := (hF x).1 h3
          rcases (hR.mem.own l0 x q5).2.1 with h4 | h4
          · omega
          · exact .inr h4
      · exact ⟨Nat.lt_of_lt_of_le (hR.mem.im x hx).1 hsz, (hR.mem.im x hx).2⟩
    · have hk := hM'.keeps
      have hk1 := hR.mem.keeps
      refine ⟨by rw [show e2.w = e'.w from rfl, hk.os, hw0, hk1.os], by rw [show e2.w = e'.w from rfl, hk.tape, hw0, hk1.tape], by rw [show e2.w = e'.w from rfl, hk.output, hw0, hk1.output], ?_, λb hb hf => ?_⟩
      · have := hk.size
        rw [hw0] at this
        exact Nat.le_trans hk1.size this
      · rw [<-hk1.block b hb hf]
        refine hsame b (Nat.lt_of_lt_of_le hb hk1.size) λh => ?_
        obtain ⟨l0, q5, _⟩ := (hF b).1 h
        rcases (hR.mem.own l0 b q5).2.1 with h4 | h4
        · omega
        · exact hf h4
  have hgetO : ∀ o, e2.ob o = AN (JD ρ tg os ++ IK cs (Mr F s.ob)) o := by
    intro o;have keyNe : ∀ {j}, j ∈ os.map (·.1) -> ρ j = some o -> cs.length <= j -> o ∉ cs /\ e.ob o = .none := λ{j} h1 h2 h3 => by
      have h4 := (J0 hfr j h1 h3).1;simp only [ρ, Fo] at h2;rw [if_neg (by omega)] at h2
      cases h2
      rw [<-hR.ob] at h4;exact ⟨λh5 => hcs _ h5 h4, h4⟩
    cases hs : σ o with
    | some j =>
      obtain ⟨h1, h2⟩ := hσ2 hs;have hinj : ∀ i, i ∈ os.map (·.1) -> ρ i = some o -> i = j := λi h3 h4 => by
        refine QR hnd h4 h1 (λh5 => (keyNe h3 h4 h5).1) (λh5 => ?_);rcases h2 with ⟨_, h6⟩ | ⟨h6, _⟩
        · have := (List.getElem?_eq_some_iff.1 h6).1
          omega
        · exact h6
      simp only [e2, hs];by_cases hm : j ∈ os.map (·.1)
      · rw [H3 h1 hinj hm, hob]
      · rw [Jz (λi h3 h4 => hm (hinj i h3 h4 ▸ h3)), H4, hob, Fc hm]
        rcases h2 with ⟨h6, _⟩ | ⟨_, _, _, h6⟩
        · rw [if_pos h6]; rfl
        · exact absurd (Fc hm) h6
    | none =>
      simp only [e2, hs];by_cases hx : ∃ i, i ∈ os.map (·.1) /\ ρ i = some o
      · obtain ⟨i, h3, h4⟩ := hx
        have h5 : cs.length <= i := by
          rcases Nat.lt_or_ge i cs.length with h | h
          · simp only [ρ, Fo, if_pos h] at h4
            exact absurd (List.mem_of_getElem? h4) (hσn hs)
          · exact h
        have hn : AN os i = .none := by
          cases hg : AN os i with
          | none => rfl
          | _ =>
            have := hρσ h4 (by rw [hob, hg]; simp);rw [hs] at this
            cases this
        rw [H3 (j := i) h4 (λx h6 h7 => QR hnd h7 h4 (λh8 => (keyNe h6 h7 h8).1) (λh8 => (keyNe h3 h4 h8).1)) h3, hn, (keyNe h3 h4 h5).2]
        rfl
      · rw [Jz (λi h3 h4 => hx ⟨i, h3, h4⟩), H4, if_neg (hσn hs), QA, hR.ob]
  refine ⟨e2, rfl, ⟨hMem, hgetO, λo k rows h1 h2 => ?_, λo c h1 h2 => ?_, hR.size, hR.defers, λt => ?_⟩, hMv, hImC, hC, ?_, λb hb hl => ?_⟩
  · have h1 : o < s.m := h1
    cases hs : σ o with
    | some j =>
      rcases (hσ2 hs).2 with ⟨h3, h4⟩ | ⟨_, h3, h4, h5⟩
      · have hob' : e'.ob j = .arr k rows := by
          simp only [e2, hs] at h2
          cases hx : e'.ob j <;> simp [hx, Obj.mvt] at h2
          simp [h2]
        obtain ⟨y1, r0, y2⟩ := harr j o k rows h4 hob'
        rw [(n1 hs []).2, y1]
        exact hR.pinh o k r0 h1 y2
      · have := (HA hfr j h5 h3).2
        omega
    | none =>
      rw [(n2 hs []).2];simp only [e2, hs] at h2
      cases hx : e.ob o <;> simp [hx, Obj.sub] at h2
      exact hR.pinh o _ _ h1 hx
  · have h1 : o < s.m := h1
    cases hs : σ o with
    | some j =>
      rcases (hσ2 hs).2 with ⟨h3, h4⟩ | ⟨_, h3, h4, h5⟩
      · simp only [e2, hs] at h2 ⊢
        cases hx : e'.ob j <;> simp [hx, Obj.mvt] at h2
        obtain ⟨c0, y1⟩ := hbx2 j o _ h4 hx
        obtain ⟨c', _, y3⟩ := hbox j o c0 h4 y1
        rw [y3]
        exact hR.pinb o c0 h1 y1
      · have := (HA hfr j h5 h3).2
        omega
    | none =>
      simp only [e2, hs] at h2 ⊢
      cases hx : e.ob o <;> simp [hx, Obj.sub] at h2
      exact hR.pinb o _ h1 hx
  · show AS e2 (Aw (PE F s.tm) t) _
    rw [P8]
    exact (hR.tm t).sub hC
  · have := hM'.keeps.size
    rw [hw0] at this
    exact this
  · exact hsame b hb λh => by
      obtain ⟨l, h3, h4⟩ := (hF b).1 h;exact hl l h3 h4
end
section
variable {ob:List (Nat×Obj)} {f:Nat->Option Nat}
theorem Du (f:Nat->Option Nat) (ob:List (Nat×Obj)): ∀ (l l':List Nat) (n:Nat),mvO f ob n (l++l')=mvO f ob n l++mvO f ob (n+l.length) l'
 |[],l',n=>rfl
 |o::l,l',n=>by
  simp only[List.cons_append,mvO,Du f ob l l' (n+1),List.length_cons];rw[show n+1+l.length=n+(l.length+1)by omega]
theorem Iy {l l':List Nat} {n:Nat} (h: ∀ (i:Nat) o,(l++l')[i]? =some o->f o=some (n+i)): ∀ (i:Nat) o,l[i]? =some o->f o=some (n+i):=λi o hi=>
 h i o (by rw[List.getElem?_append_left (List.getElem?_eq_some_iff.1 hi).1];exact hi)
theorem Gr {l l':List Nat} {n:Nat} (h: ∀ (i:Nat) o,(l++l')[i]? =some o->f o=some (n+i)): ∀ (i:Nat) o,l'[i]? =some o->f o=some (n+l.length+i):=λi o hi=>by
 rw[Nat.add_assoc];exact h (l.length+i) o (by rw[List.getElem?_append_right (by omega),show l.length+i - l.length=i by omega];exact hi)
theorem GB {n:Nat} {x:AV} {l:L} {ids:List Nat} (h:Ck ob x=some (l,ids)) (hf: ∀ (i:Nat) o,ids[i]? =some o->f o=some (n+i)) (rest:List L):
  AW n (l::rest)=(x.mv f::(AW (n+ids.length) rest).1,mvO f ob n ids++(AW (n+ids.length) rest).2.1,(AW (n+ids.length) rest).2.2):=by
 cases x with
 |sc v=>simp only[Ck,Option.some.injEq,Prod.mk.injEq]at h;obtain⟨rfl,rfl⟩:=h;rfl
 |nil k=>simp only[Ck,Option.some.injEq,Prod.mk.injEq]at h;obtain⟨rfl,rfl⟩:=h;rfl
 |im k r=>simp only[Ck,Option.some.injEq,Prod.mk.injEq]at h;obtain⟨rfl,rfl⟩:=h;rfl
 |al i k r=>simp only[Ck,Option.some.injEq,Prod.mk.injEq]at h;obtain⟨rfl,rfl⟩:=h;rfl
 |ref o p=>
  cases p with
  |cons b p=>simp[Ck]at h
  |nil=>
   simp only[Ck]at h;split at h
   ·rename_i k rows hob;simp only[Option.some.injEq,Prod.mk.injEq]at h;obtain⟨rfl,rfl⟩:=h;have:=hf 0 o rfl;simp[AW,AV.mv,this,mvO,hob,Obj.mv]
   ·cases h
 |_=>simp[Ck]at h
theorem FJ: ∀ {xs:List AV} {n:Nat} {ls:List L} {ids:List Nat},Bs ob xs=some (ls,ids)->(∀ (i:Nat) o,ids[i]? =some o->f o=some (n+i))->
  AW n ls=(mvL f xs,mvO f ob n ids,n+ids.length)
 |[],n,ls,ids,h,hf=>by
  simp only[Bs,Option.some.injEq,Prod.mk.injEq]at h;obtain⟨rfl,rfl⟩:=h;rfl
 |x::xs,n,ls,ids,h,hf=>by
  simp only[Bs]at h;split at h
  case h_2=>cases h
  rename_i a os m qs h1 h2;simp only[Option.some.injEq,Prod.mk.injEq]at h;obtain⟨rfl,rfl⟩:=h;rw[GB h1 (Iy hf),FJ (n:=n+os.length) h2 (Gr hf),Du];simp[mvL,Nat.add_assoc]
theorem Rv: ∀ {caps:List AV} {cs:List (List T)},Co VA caps=some cs->cs.map AV.pim=caps/\mvL f caps=caps
 |[],cs,h=>by simp only[Co,Option.some.injEq]at h;subst h;exact⟨rfl,rfl⟩
 |x::caps,cs,h=>by
  simp only[Co]at h;split at h
  case h_2=>cases h
  rename_i b hb;split at h
  case h_2=>cases h
  rename_i m hm
  cases h
  cases x<;>simp only[VA,reduceCtorEq,Option.some.injEq]at hb
  subst hb;obtain⟨g1,g2⟩:=Rv hm;exact⟨by simp[g1],by simp[mvL,AV.mv,g2]⟩
theorem JA {n:Nat} {x:AV} {a:Arg} {ids:List Nat} (h:EQ ob x=some (a,ids)) (hf: ∀ (i:Nat) o,ids[i]? =some o->f o=some (n+i)):
  AT n a=(x.mv f,mvO f ob n ids,n+ids.length):=by
 have one: ∀ {x:AV},(Ck ob x).map (fun(p:L×List Nat)=>(Arg.v p.1,p.2))=some (a,ids)->AT n a=(x.mv f,mvO f ob n ids,n+ids.length):=by
  intro x h
  cases hc:Ck ob x with
  |none=>simp[hc]at h
  |some y=>
   obtain⟨l,os⟩:=y;simp[hc]at h;obtain⟨rfl,rfl⟩:=h;simp only[AT];rw[GB hc hf []];simp[AW]
 unfold EQ at h
 split at h
 ·rename_i l
  cases hc:Bs ob l with
  |none=>simp[hc]at h
  |some y=>
   obtain⟨ls,os⟩:=y;simp[hc]at h;obtain⟨rfl,rfl⟩:=h;simp only[AT];rw[FJ (n:=n) hc hf];simp[AV.mv]
 ·rename_i o
  split at h
  ·rename_i cs hob
   cases hc:Bs ob cs with
   |none=>simp[hc]at h
   |some y=>
    obtain⟨ls,os⟩:=y;simp[hc]at h;obtain⟨rfl,rfl⟩:=h;simp only[AT];have h0:=hf 0 o rfl;rw[FJ (n:=n+1) hc (λi o hi=>by rw[show n+1+i=n+(i+1)by omega];exact hf (i+1) o (by simpa using hi))];simp at h0;simp[AV.mv,h0,mvO,hob,Obj.mv,Nat.add_assoc,Nat.add_comm 1]
  ·cases h
 ·simp only[Option.some.injEq,Prod.mk.injEq]at h
  obtain⟨rfl,rfl⟩:=h
  rfl
 ·rename_i g caps
  cases hc:Co VA caps with
  |none=>simp[hc]at h
  |some cs=>
   simp[hc]at h;obtain⟨rfl,rfl⟩:=h;obtain⟨g1,g2⟩:=Rv (f:=f) hc;simp[AT,AV.mv,g1,g2,mvO]
 ·exact one h
theorem Ho: ∀ {xs:List AV} {t n:Nat} {args:List Arg} {ids:List Nat},B6 ob xs=some (args,ids)->(∀ (i:Nat) o,ids[i]? =some o->f o=some (n+i))->
  args.length=xs.length/\(AH t n args).2=(mvO f ob n ids,n+ids.length)/\ ∀ (i:Nat),Aw (AH t n args).1 (t+i)=match xs[i]? with
   |some x=>x.mv f
   |none=> .non
 |[],t,n,args,ids,h,hf=>by
  simp only[B6,Option.some.injEq,Prod.mk.injEq]at h;obtain⟨rfl,rfl⟩:=h;exact⟨rfl,rfl,λi=>by simp[AH,Aw]⟩
 |x::xs,t,n,args,ids,h,hf=>by
  simp only[B6]at h;split at h
  case h_2=>cases h
  rename_i a os m qs h1 h2;simp only[Option.some.injEq,Prod.mk.injEq]at h;obtain⟨rfl,rfl⟩:=h;obtain⟨g1,g2,g3⟩:=Ho (t:=t+1) (n:=n+os.length) h2 (Gr hf);have hx:AH t n (a::m)=((t,x.mv f)::(AH (t+1) (n+os.length) m).1,mvO f ob n os++(AH (t+1) (n+os.length) m).2.1,(AH (t+1) (n+os.length) m).2.2):=by
   simp only[AH];rw[JA h1 (Iy hf)]
  refine⟨by simp[g1],?_,λi=> ?_⟩
  ·rw[hx,g2,Du];simp[Nat.add_assoc]
  ·rw[hx]
   cases i with
   |zero=>simp[Aw]
   |succ i=>
    simp only[Aw];rw[if_neg (by omega),show t+(i+1)=t+1+i by omega,g3];simp
theorem MU {acc:List Nat} {m:Nat} {x:AV} {l:L} {ids:List Nat} (h:KB ob acc x=some (l,ids)) (ha: ∀ (i:Nat) o,acc[i]? =some o->f o=some (m+i)) (hf: ∀ (i:Nat) o,ids[i]? =some o->f o=some (m+acc.length+i)) (rest:List L):
  AW (m+acc.length) (l::rest)=(x.mv f::(AW (m+acc.length+ids.length) rest).1,mvO f ob (m+acc.length) ids++(AW (m+acc.length+ids.length) rest).2.1,(AW (m+acc.length+ids.length) rest).2.2):=by
 unfold KB at h
 split at h
 ·rename_i d hd
  simp only[Option.some.injEq,Prod.mk.injEq]at h
  obtain⟨rfl,rfl⟩:=h
  unfold shOf at hd
  split at hd
  ·rename_i o
   split at hd
   ·rename_i hc
    simp only[Option.some.injEq]at hd
    subst hd
    obtain⟨_,g2⟩:=GV (i:=0) (List.contains_iff_mem.1 hc)
    rw[Nat.sub_zero]at g2
    have g3:=(List.getElem?_eq_some_iff.1 g2).1
    have g4:=ha _ _ g2
    simp only[AW,AV.mv,g4,mvO,List.nil_append,List.length_nil,Nat.add_zero]
    rw[show m+acc.length - 1 - (acc.length - 1 - FV o acc 0)=m+FV o acc 0 by omega]
   ·cases hd
  ·cases hd
 ·exact GB h hf rest
theorem Xr {acc os:List Nat} {m:Nat} (ha: ∀ (i:Nat) o,acc[i]? =some o->f o=some (m+i)) (hf: ∀ (i:Nat) o,os[i]? =some o->f o=some (m+acc.length+i)): ∀ (i:Nat) o,(acc++os)[i]? =some o->f o=some (m+i):=λi o hi=>by
 rcases Nat.lt_or_ge i acc.length with h|h
 ·rw[List.getElem?_append_left h]at hi;exact ha i o hi
 ·rw[List.getElem?_append_right h]at hi;rw[hf _ o hi];congr 1;omega
theorem Ka: ∀ {xs:List AV} {acc:List Nat} {m:Nat} {ls:List L} {ids:List Nat},HI ob acc xs=some (ls,ids)->(∀ (i:Nat) o,acc[i]? =some o->f o=some (m+i))->(∀ (i:Nat) o,ids[i]? =some o->f o=some (m+acc.length+i))->
  AW (m+acc.length) ls=(mvL f xs,mvO f ob (m+acc.length) ids,m+acc.length+ids.length)
 |[],acc,m,ls,ids,h,ha,hf=>by
  simp only[HI,Option.some.injEq,Prod.mk.injEq]at h;obtain⟨rfl,rfl⟩:=h;rfl
 |x::xs,acc,m,ls,ids,h,ha,hf=>by
  simp only[HI]at h;split at h
  case h_2=>cases h
  rename_i a os h1;split at h
  case h_2=>cases h
  rename_i m' qs h2;simp only[Option.some.injEq,Prod.mk.injEq]at h;obtain⟨rfl,rfl⟩:=h;have hl:=Iy hf;have hr:=Gr hf;have:=Ka (m:=m) h2 (Xr ha hl) (by simpa[Nat.add_assoc]using hr);rw[MU h1 ha hl,Du];simp only[List.length_append,<-Nat.add_assoc]at this;rw[this];simp[mvL,Nat.add_assoc]
theorem Qj {acc:List Nat} {m:Nat} {x:AV} {a:RV} {ids:List Nat} (h:LM ob acc x=some (a,ids)) (ha: ∀ (i:Nat) o,acc[i]? =some o->f o=some (m+i)) (hf: ∀ (i:Nat) o,ids[i]? =some o->f o=some (m+acc.length+i)):
  DC (m+acc.length) a=(x.mv f,mvO f ob (m+acc.length) ids,m+acc.length+ids.length):=by
 unfold LM at h
 split at h
 ·rename_i l
  cases hc:HI ob acc l with
  |none=>simp[hc]at h
  |some y=>
   obtain⟨ls,os⟩:=y;simp[hc]at h;obtain⟨rfl,rfl⟩:=h;simp only[DC,AT];rw[Ka hc ha hf];simp[AV.mv]
 ·rename_i o
  split at h
  ·rename_i cs hob
   cases hc:Bs ob cs with
   |none=>simp[hc]at h
   |some y=>
    obtain⟨ls,os⟩:=y;simp[hc]at h;obtain⟨rfl,rfl⟩:=h;exact JA (a:= .pm ls) (by simp[EQ,hob,hc]) hf
  ·cases h
 ·cases hc:KB ob acc x with
  |none=>simp[hc]at h
  |some y=>
   obtain⟨l,os⟩:=y;simp[hc]at h;obtain⟨rfl,rfl⟩:=h;simp only[DC,AT];rw[MU hc ha hf []];simp[AW]
theorem Hm: ∀ {xs:List AV} {acc:List Nat} {m:Nat} {rs:List RV} {ids:List Nat},Er ob acc xs=some (rs,ids)->(∀ (i:Nat) o,acc[i]? =some o->f o=some (m+i))->(∀ (i:Nat) o,ids[i]? =some o->f o=some (m+acc.length+i))->
  C1 (m+acc.length) rs=(mvL f xs,mvO f ob (m+acc.length) ids,m+acc.length+ids.length)
 |[],acc,m,rs,ids,h,ha,hf=>by
  simp only[Er,Option.some.injEq,Prod.mk.injEq]at h;obtain⟨rfl,rfl⟩:=h;rfl
 |x::xs,acc,m,rs,ids,h,ha,hf=>by
  simp only[Er]at h;split at h
  case h_2=>cases h
  rename_i a os h1;split at h
  case h_2=>cases h
  rename_i m' qs h2;simp only[Option.some.injEq,Prod.mk.injEq]at h;obtain⟨rfl,rfl⟩:=h;have hl:=Iy hf;have hr:=Gr hf;have:=Hm (m:=m) h2 (Xr ha hl) (by simpa[Nat.add_assoc]using hr);simp only[C1];rw[Qj h1 ha hl,Du];simp only[List.length_append,<-Nat.add_assoc]at this;simp only[];rw[this];simp[mvL,Nat.add_assoc]
theorem PI {xs:List AV} {n:Nat} {rs:List RV} {ids:List Nat} (h:Er ob [] xs=some (rs,ids)) (hf: ∀ (i:Nat) o,ids[i]? =some o->f o=some (n+i)):C1 n rs=(mvL f xs,mvO f ob n ids,n+ids.length):=
 Hm (acc:=[]) (m:=n) h (λi o hi=>by simp at hi) hf
end
section
variable {P:Program} {fm fm0:Fm} {M:List Nat} {e e' e0:Env} {s s':St} {a:Act} {Q:Exit->Act->World->Prop} {f:Nat->Option Nat} {lent:List Nat}
structure I1 (fm:Fm) (e:Env) (args:List Arg) (vs:List Value):Prop where
 mem:Mem fm e
 w0:fm.w0=e.w
 im:fm.I=e.Im
 H: ∀o,fm.H o=e.hd o []
 B: ∀o,fm.B o=e.bk o
 ob: ∀o,e.ob o=AN (AH 0 0 args).2.1 o
 len:args.length=vs.length
 val: ∀ (i:Nat) v,vs[i]? =some v->AS e (Aw (AH 0 0 args).1 i) v
structure KH (fm:Fm) (e:Env) (args:List Arg) (r:Res) (e':Env) (v:Value):Prop where
 mem:Mem fm e'
 ob: ∀o,e'.ob o=AN (CN args r).2 o
 hd: ∀o k rows,o<(AH 0 0 args).2.2->e'.ob o= .arr k rows->e'.hd o []=e.hd o []/\ ∃r0,e.ob o= .arr k r0
 bk: ∀o c0,o<(AH 0 0 args).2.2->e.ob o= .box c0-> ∃c,e'.ob o= .box c/\e'.bk o=e.bk o
 bx: ∀o c,o<(AH 0 0 args).2.2->e'.ob o= .box c-> ∃c0,e.ob o= .box c0
 val:AS e' (one (CN args r).1) v
def KJ (P:Program) (f:Nat) (args:List Arg) (r:Res):Prop:= ∀fm e vs,I1 fm e args vs->Calls P f vs.toArray e.w fun
  | .returned v,w'=> ∃e',e'.w=w'/\KH fm e args r e' v
  |_,_=>False
def D5:List AV->List Value->List Value
 | .agg _::r,v::vs=>v.cells.toList++D5 r vs
 |_::r,v::vs=>v::D5 r vs
 |_,_=>[]
theorem VU {x:AV} {r:List AV} (h: ∀l,x≠ .agg l):BM (x::r)=x::BM r:=by
 cases x<;>first|rfl|exact absurd rfl (h _)
theorem QD {x:AV} {r:List AV} {v:Value} {vs:List Value} (h: ∀l,x≠ .agg l):D5 (x::r) (v::vs)=v::D5 r vs:=by
 cases x<;>first|rfl|exact absurd rfl (h _)
theorem S7 {x:AV} {r:List AV} (h: ∀l,x≠ .agg l):Db (x::r)=none::Db r:=by
 cases x<;>first|rfl|exact absurd rfl (h _)
theorem Qx: ∀ {xs:List AV} {vs:List Value},xs.length=vs.length->(∀ (i:Nat) x v,xs[i]? =some x->vs[i]? =some v->AS e x v)->
  (BM xs).length=(D5 xs vs).length/\ ∀ (i:Nat) x v,(BM xs)[i]? =some x->(D5 xs vs)[i]? =some v->AS e x v
 |[],[],_,_=>⟨rfl,λi x v h=>by simp[BM]at h⟩
 |[],v::vs,h,_=>by simp at h
 |x::xs,[],h,_=>by simp at h
 |x::xs,v::vs,hl,h=>by
  obtain⟨g1,g2⟩:=Qx (xs:=xs) (vs:=vs) (by simpa using hl) λi x v h1 h2=>h (i+1) x v (by simpa using h1) (by simpa using h2)
  have h0:=h 0 x v rfl rfl;by_cases hx: ∃l,x= .agg l
  ·obtain⟨l,rfl⟩:=hx
   cases h0 with
   |agg l us hlen hok=>
   simp only[BM,D5,Value.cells,List.length_append];refine⟨by rw[g1,hlen],λi y u hy hu=> ?_⟩;rw[List.getElem?_append]at hy hu;rw[hlen]at hy;split at hy
   ·rename_i hi;rw[if_pos hi]at hu;exact hok i y u hy hu
   ·rename_i hi;rw[if_neg hi]at hu;exact g2 _ y u hy hu
  ·have hx: ∀l,x≠ .agg l:=λl hl=>hx ⟨l,hl⟩
   rw[VU hx,QD hx];refine⟨by simp[g1],λi y u hy hu=> ?_⟩
   cases i with
   |zero=>simp at hy hu;subst hy;subst hu;exact h0
   |succ i=>exact g2 i y u (by simpa using hy) (by simpa using hu)
theorem IX: ∀ {xs:List AV} {vs:List Value} {ys:List AV},xs.length=vs.length->(∀ (i:Nat) x v,xs[i]? =some x->vs[i]? =some v->AS e x v)->ys.length=(D5 xs vs).length->
  (∀ (i:Nat) y u,ys[i]? =some y->(D5 xs vs)[i]? =some u->AS e0 y u)->(Be (Db xs) ys).length=xs.length/\ ∀ (i:Nat) z v,(Be (Db xs) ys)[i]? =some z->vs[i]? =some v->AS e0 z v
 |[],[],ys,_,_,_,_=>⟨rfl,λi z v h=>by simp[Db,Be]at h⟩
 |[],v::vs,ys,h,_,_,_=>by simp at h
 |x::xs,[],ys,h,_,_,_=>by simp at h
 |x::xs,v::vs,ys,hl,h,hly,hy=>by
  have h0:=h 0 x v rfl rfl;have ht: ∀ (i:Nat) x v,xs[i]? =some x->vs[i]? =some v->AS e x v:=λi x v h1 h2=>h (i+1) x v (by simpa using h1) (by simpa using h2)
  by_cases hx: ∃l,x= .agg l
  ·obtain⟨l,rfl⟩:=hx
   cases h0 with
   |agg l us hlen hok=>
   simp only[D5,Value.cells,List.length_append]at hly hy;simp only[Db,Be];obtain⟨g1,g2⟩:=IX (xs:=xs) (vs:=vs) (ys:=ys.drop l.length) (by simpa using hl) ht (by simp[hly,hlen]) λi y u h1 h2=>by
    rw[List.getElem?_drop]at h1;exact hy (l.length+i) y u h1 (by rw[List.getElem?_append_right (by simp[hlen])];simpa[hlen]using h2)
   refine⟨by simp[g1],λi z u hz hu=> ?_⟩
   cases i with
   |zero=>
    simp at hz hu;subst hz;subst hu;refine .agg _ us (by simp[hly,hlen]) λi y u h1 h2=> ?_
    have hi:=(List.getElem?_eq_some_iff.1 h2).1;rw[List.getElem?_take,if_pos (by omega)]at h1;exact hy i y u h1 (by rw[List.getElem?_append_left (by simpa using hi)];simpa using h2)
   |succ i=>exact g2 i z u (by simpa using hz) (by simpa using hu)
  ·have hx: ∀l,x≠ .agg l:=λl hl=>hx ⟨l,hl⟩
   rw[QD hx]at hly hy;rw[S7 hx];simp only[Be]
   cases ys with
   |nil=>simp at hly
   |cons y ys=>
    obtain⟨g1,g2⟩:=IX (xs:=xs) (vs:=vs) (ys:=ys) (by simpa using hl) ht (by simpa using hly) λi y u h1 h2=>hy (i+1) y u (by simpa using h1) (by simpa using h2)
    refine⟨by simp[g1],λi z u hz hu=> ?_⟩
    cases i with
    |zero=>simp at hz hu;subst hz;subst hu;exact hy 0 y v rfl rfl
    |succ i=>exact g2 i z u (by simpa using hz) (by simpa using hu)
theorem Jq (f:Nat->Option Nat): ∀ (sh:List (Option Nat)) (ys:List AV),mvL f (Be sh ys)=Be sh (mvL f ys)
 |[],ys=>rfl
 |some n::sh,ys=>by
  simp only[Be,mvL,AV.mv,Jq f sh];simp only[E1,List.map_take,List.map_drop]
 |none::sh,ys=>by
  simp only[Be,mvL,Jq f sh]
  cases ys<;>simp[mvL,AV.mv]
structure IW (e e0:Env) (lent:List Nat):Prop where
 w:e0.w=e.w
 im: ∀b,e.Im b->e0.Im b
 lent: ∀l b,e.blk l=some b->l.obj∈lent->e0.Im b
theorem U8 {x:AV} {o:Nat} {p:AQ} (h:x.place=some (o,p)):o∈A1 x:=by
 cases x<;>simp[AV.place]at h<;>simp[A1,h]
theorem Ii (hR:Rel fm e s a) (hz:IW e e0 lent) {x:AV} {u:Value} (hx:AS e x u) {k:Nat} {r:List (List T)} (h:Bm s.ob x=some (k,r)) (hl: ∀o∈A1 x,o∈lent):POk e0.w e0.Im u (.sl k r):=by
 rw[hz.w];refine(Ia hR hx h).mono (λb hb=> ?_) (λ_ _=>rfl);rcases hb with hb|⟨o,p,q,h1,h2⟩
 ·exact hz.im b hb
 ·exact hz.lent _ b h2 (hl o (U8 h1))
theorem lent_T (hR:Rel fm e s a) (hz:IW e e0 lent) {x:AV} {u:Value} (hx:AS e x u) {t:T} (h:toT s.ob x=some t) (hl: ∀o∈A1 x,o∈lent):POk e0.w e0.Im u t:=by
 have hd: ∀ {x:AV},AS e x u->(∀o∈A1 x,o∈lent)->(Bm s.ob x).map (fun(p:Nat×List (List T))=>T.sl p.1 p.2)=some t->POk e0.w e0.Im u t:=by
  intro x hx hl h
  cases hr:Bm s.ob x with
  |none=>simp[hr]at h
  |some y=>
   obtain⟨k,r⟩:=y;simp[hr]at h;subst h;exact Ii hR hz hx hr hl
 unfold toT at h;split at h
 ·cases h;obtain⟨rfl,hs⟩:=hx.sc_inv;exact .sc _ hs
 ·cases h;cases hx with
  |dead _ h1=>exact .hole _ h1
 ·exact hd hx hl h
theorem Ji: ∀ {cs:List AV} {i:Nat} {c:AV},cs[i]? =some c-> ∀o∈A1 c,o∈Jj cs
 |[],i,c,h,_,_=>by simp at h
 |x::cs,i,c,h,o,ho=>by
  simp only[Jj,List.mem_append]
  cases i with
  |zero=>simp at h;subst h;exact .inl ho
  |succ i=>exact .inr (Ji (by simpa using h) o ho)
theorem SC (hR:Rel fm e s a) (hz:IW e e0 lent) {x:AV} {u:Value} (hx:AS e x u) {ts:List T} (h:O2 s.ob x=some ts) (hl: ∀o∈QQ s.ob x,o∈lent):IV e0.w e0.Im u ts:=by
 unfold O2 at h;split at h
 ·rename_i o;split at h
  case h_2=>cases h
  rename_i cs hcs;simp only[QQ,hcs,List.mem_cons]at hl;obtain⟨m1,m2⟩:=FQ h;have hb:e.ob o= .box cs:=by rw[hR.ob];exact hcs
  cases hx with
  |pb _ _ cs' hb'=>
  refine⟨e.bk o,0,rfl,hz.lent (.bx o) _ (Ag hb) (hl o (.inl rfl)),λj t ht=> ?_⟩;obtain⟨c,hc,hct⟩:=m2 j t ht;obtain⟨_,u,g2,g3⟩:=hR.mem.box o cs hb j c hc;exact⟨u,by rw[hz.w,Nat.zero_add];exact g2,lent_T hR hz g3 hct λo1 h1=>hl o1 (.inr (Ji hc o1 h1))⟩
 ·cases h
  cases hx with
  |pim _ _ h1=>exact h1.mono (λb hb=>hz.im b hb) (λb _=>by rw[hz.w])
 ·cases h
theorem O4: ∀ {cs:List AV} {i:Nat} {c:AV},cs[i]? =some c-> ∀o∈QQ s.ob c,o∈O5 s.ob cs
 |[],i,c,h,_,_=>by simp at h
 |x::cs,i,c,h,o,ho=>by
  simp only[O5,List.mem_append]
  cases i with
  |zero=>simp at h;subst h;exact .inl ho
  |succ i=>exact .inr (O4 (by simpa using h) o ho)
theorem Wv (hR:Rel fm e s a) (hz:IW e e0 lent) (hC:MvC e e0 f) {m:Nat} {x y:AV} {os:List Nat} {u:Value} (hx:AS e x u) (h:P1 s.ob m x=some (y,os)) (hl: ∀o∈os,o∈lent) (ht: ∀j k r,y= .al j k r->u=e0.tk j):AS e0 (y.mv f) u:=by
 have hI:ImC e e0:=λb hb=>⟨hz.im b hb,by rw[hz.w]⟩
 have hd: ∀ {x:AV},AS e x u->(Bm s.ob x).map (fun(p:Nat×List (List T))=>(AV.im p.1 p.2,A1 x))=some (y,os)->AS e0 (y.mv f) u:=by
  intro x hx h
  cases hr:Bm s.ob x with
  |none=>simp[hr]at h
  |some z=>
   obtain⟨k,r⟩:=z;simp[hr]at h;obtain⟨rfl,rfl⟩:=h;exact .im _ _ _ (Ii hR hz hx hr hl)
 unfold P1 at h;split at h
 ·split at h
  ·cases h;obtain⟨rfl,hs⟩:=hx.sc_inv;exact .sc _ hs
  ·cases h;exact hx.mv hC (.inr hI) (.inl rfl)
  ·rename_i o j
   cases hc:O2 s.ob (.pb o j)with
   |none=>simp[hc]at h
   |some ts=>
    simp[hc]at h;obtain⟨rfl,rfl⟩:=h;exact .pim _ _ (SC hR hz hx hc hl)
  ·rename_i g caps
   cases hc:Co (O2 s.ob) caps with
   |none=>simp[hc]at h
   |some cs=>
    simp[hc]at h;obtain⟨rfl,rfl⟩:=h;obtain⟨m1,m2⟩:=FQ hc
    cases hx with
    |clo _ _ vs hlen hok=>
    refine .clo _ _ vs (by rw[E1];simp[m1,hlen]) λi x v h1 h2=> ?_
    rw[E1,List.getElem?_map,List.getElem?_map]at h1
    cases hi:cs[i]? with
    |none=>simp[hi]at h1
    |some ts=>
     simp[hi]at h1;subst h1;obtain⟨c,hc1,hc2⟩:=m2 i ts hi;exact .pim _ _ (SC hR hz (hok i c v hc1 h2) hc2 λo ho=>hl o (O4 hc1 o ho))
  ·exact hd hx h
 ·unfold TO at h;split at h
  case isFalse=>cases h
  rename_i h1
  cases h
  exact hx.mv hC (.inr hI) (.inl h1)
 ·unfold TO at h;split at h
  case isFalse=>cases h
  rename_i h1
  cases h
  exact hx.mv hC (.inr hI) (.inl h1)
 ·cases hr:Bm s.ob x with
  |none=>simp[hr]at h
  |some z=>
   obtain⟨k,r⟩:=z;simp[hr]at h;obtain⟨rfl,rfl⟩:=h;exact .al _ _ _ _ (ht _ _ _ rfl) (Ii hR hz hx hr hl)
theorem P0 (hR:Rel fm e s a) (hz:IW e e0 lent) (hC:MvC e e0 f): ∀ {ms:List Nat} {xs ys:List AV} {os:List Nat} {us:List Value},(∀ (i:Nat) x u,xs[i]? =some x->us[i]? =some u->AS e x u)->
  E2 s.ob ms xs=some (ys,os)->(∀o∈os,o∈lent)->(∀ (i:Nat) j k r u,ys[i]? =some (.al j k r)->us[i]? =some u->u=e0.tk j)->ys.length=xs.length/\ ∀ (i:Nat) y u,ys[i]? =some y->us[i]? =some u->AS e0 (y.mv f) u
 |ms,[],ys,os,us,hx,h,hl,ht=>by
  simp only[E2,Option.some.injEq,Prod.mk.injEq]at h;obtain⟨rfl,rfl⟩:=h;exact⟨rfl,λi y u h=>by simp at h⟩
 |ms,x::xs,ys,os,us,hx,h,hl,ht=>by
  simp only[E2]at h;split at h
  case h_2=>cases h
  rename_i y os1 m qs h1 h2;simp only[Option.some.injEq,Prod.mk.injEq]at h;obtain⟨rfl,rfl⟩:=h;obtain⟨g1,g2⟩:=P0 hR hz hC (us:=us.tail) (λi x u h3 h4=>hx (i+1) x u (by simpa using h3) (by cases us with
   |nil=>simp at h4
   |cons _ _=>simpa using h4)) h2 (λo ho=>hl o (List.mem_append_right _ ho)) (λi j k r u h3 h4=>ht (i+1) j k r u (by simpa using h3) (by cases us with
   |nil=>simp at h4
   |cons _ _=>simpa using h4))
  refine⟨by simp[g1],λi z u hz1 hu=> ?_⟩
  cases i with
  |zero=>
   simp at hz1;subst hz1;exact Wv hR hz hC (hx 0 x u rfl hu) h1 (λo ho=>hl o (List.mem_append_left _ ho)) (λj k r hy=>ht 0 j k r u (by simp[hy]) hu)
  |succ i=>exact g2 i z u (by simpa using hz1) (by cases us with
   |nil=>simp at hu
   |cons _ _=>simpa using hu)
end
section
variable {P:Program} {fm fm0:Fm} {M:List Nat} {e e' e0:Env} {s s':St} {a:Act} {Q:Exit->Act->World->Prop} {lent:List Nat}
theorem Oy {ob:List (Nat×Obj)} {x:AV} {l:L} {ids:List Nat} (h:Ck ob x=some (l,ids)): ∀o∈ids,AN ob o≠ .none:=by
 unfold Ck at h;split at h
 ·cases h;simp
 ·cases h;simp
 ·cases h;simp
 ·cases h;simp
 ·split at h
  ·rename_i hb;cases h;simp[hb]
  ·cases h
 ·cases h
theorem IP {ob:List (Nat×Obj)}: ∀ {xs:List AV} {ls:List L} {ids:List Nat},Bs ob xs=some (ls,ids)-> ∀o∈ids,AN ob o≠ .none
 |[],ls,ids,h=>by simp only[Bs,Option.some.injEq,Prod.mk.injEq]at h;obtain⟨rfl,rfl⟩:=h;simp
 |x::xs,ls,ids,h=>by
  simp only[Bs]at h;split at h
  case h_2=>cases h
  rename_i h1 h2;simp only[Option.some.injEq,Prod.mk.injEq]at h;obtain⟨rfl,rfl⟩:=h;intro o ho;rcases List.mem_append.1 ho with h3|h3
  ·exact Oy h1 o h3
  ·exact IP h2 o h3
theorem RW {ob:List (Nat×Obj)} {x:AV} {r:Arg} {ids:List Nat} (h:EQ ob x=some (r,ids)): ∀o∈ids,AN ob o≠ .none:=by
 unfold EQ at h;split at h
 ·rename_i l
  cases hc:Bs ob l with
  |none=>simp[hc]at h
  |some y=>obtain⟨ls,os⟩:=y;simp[hc]at h;obtain⟨rfl,rfl⟩:=h;exact IP hc
 ·split at h
  ·rename_i o cs hob
   cases hc:Bs ob cs with
   |none=>simp[hc]at h
   |some y=>
    obtain⟨ls,os⟩:=y;simp[hc]at h;obtain⟨rfl,rfl⟩:=h;intro o' ho';rcases List.mem_cons.1 ho' with rfl|h3
    ·simp[hob]
    ·exact IP hc o' h3
  ·cases h
 ·cases h;simp
 ·rename_i g caps
  cases hc:Co VA caps with
  |none=>simp[hc]at h
  |some y=>simp[hc]at h;obtain⟨rfl,rfl⟩:=h;simp
 ·obtain⟨⟨l,os⟩,h1,h2⟩:=Option.map_eq_some_iff.1 h
  cases h2
  exact Oy h1
theorem JR {ob:List (Nat×Obj)}: ∀ {xs:List AV} {ls:List Arg} {ids:List Nat},B6 ob xs=some (ls,ids)-> ∀o∈ids,AN ob o≠ .none
 |[],ls,ids,h=>by simp only[B6,Option.some.injEq,Prod.mk.injEq]at h;obtain⟨rfl,rfl⟩:=h;simp
 |x::xs,ls,ids,h=>by
  simp only[B6]at h;split at h
  case h_2=>cases h
  rename_i h1 h2;simp only[Option.some.injEq,Prod.mk.injEq]at h;obtain⟨rfl,rfl⟩:=h;intro o ho;rcases List.mem_append.1 ho with h3|h3
  ·exact RW h1 o h3
  ·exact JR h2 o h3
theorem G2: ∀ {l:List Nat},Hp l=true->l.Nodup
 |[],_=>List.nodup_nil
 |x::l,h=>by
  simp only[Hp,Bool.and_eq_true,Bool.not_eq_true',List.contains_eq_mem,decide_eq_false_iff_not]at h;exact List.nodup_cons.2 ⟨h.1,G2 h.2⟩
structure Ut (e:Env) (obT:List (Nat×Obj)) (lent:List Nat) (T:Nat->Value) (cs:List Nat):Prop where
 arr: ∀o,(∀c,e.ob o≠ .box c)->AN obT o=e.ob o
 bx: ∀o c,e.ob o= .box c-> ∃c',AN obT o= .box c'
 box: ∀o∈cs,∀c,AN obT o= .box c-> ∀ (j:Nat) x,c[j]? =some x->Wr e.w (e.bk o) j/\ ∃u,e.w.cell? ⟨e.bk o,j,none⟩=some u/\
  ∀ {e0:Env} {f:Nat->Option Nat},IW e e0 lent->e0.tk=T->MvC e e0 f->ImC e e0->AS e0 (x.mv f) u
theorem Xe (hR : Rel fm e s a) (T : Nat -> Value) {zs : List AV} {vs : List Value} {args : List Arg} {cs : List Nat} {obT : List (Nat × Obj)} (hc : B6 obT zs = some (args, cs)) (hnd : cs.Nodup) (hap : ∀ o ∈ lent, o ∉ cs) (hlen : zs.length = vs.length)
    (hT : Ut e obT lent T cs) (hv : ∀ {e0 : Env} {f : Nat -> Option Nat}, IW e e0 lent -> e0.tk = T -> MvC e e0 f -> ∀ (i : Nat) z v, zs[i]? = some z -> vs[i]? = some v -> AS e0 (z.mv f) v) :
    ∃ fm0 e0, I1 fm0 e0 args vs /\ fm0.T = T /\ fm0.w0 = e.w /\ e0.w = e.w /\ (∀ b, fm0.F b <-> ∃ l, e.blk l = some b /\ l.obj ∈ cs) /\ (∀ b, fm0.I b <-> (e.Im b \/ ∃ l, e.blk l = some b /\ l.obj ∈ lent)) /\
      (AH 0 0 args).2.2 = cs.length /\ ∀ (j : Nat) o, cs[j]? = some o -> e0.hd j [] = e.hd o [] /\ e0.bk j = e.bk o /\ (∀ k r, e0.ob j = .arr k r -> e.ob o = .arr k r) /\ (∀ c, e.ob o = .box c -> ∃ c', e0.ob j = .box c') /\ ∀ c, e0.ob j = .box c -> ∃ c', e.ob o = .box c' := by
  let f : Nat -> Option Nat := λo => if o ∈ cs then some (FV o cs 0) else none
  let e0 : Env := { w := e.w, ob := λj => match cs[j]? with
                      | some o => (AN obT o).mv f
                      | none => .none,
                    hd := λj p => match cs[j]? with
                      | some o => e.hd o p
                      | none => undef,
                    bk := λj => match cs[j]? with
                      | some o => e.bk o
                      | none => 0,
                    Im := λb => e.Im b \/ ∃ l, e.blk l = some b /\ l.obj ∈ lent, tk := T }
  let fm0 : Fm := { w0 := e.w, F := λb => ∃ l, e.blk l = some b /\ l.obj ∈ cs, I := e0.Im, H := λo => e0.hd o [], B := e0.bk, T := T }
  have hz : IW e e0 lent := ⟨rfl, λb hb => .inl hb, λl b h1 h2 => .inr ⟨l, h1, h2⟩⟩
  have hI : ImC e e0 := λb hb => ⟨.inl hb, rfl⟩
  have hf1 : ∀ {o j}, f o = some j -> cs[j]? = some o := by
    intro o j h;simp only [f] at h;split at h
    · rename_i ho
      cases h
      simpa using (GV (i := 0) ho).2
    · cases h
  have hf2 : ∀ (j : Nat) o, cs[j]? = some o -> f o = some (0 + j) := λj o h => by
    simp only [f];rw [if_pos (List.mem_of_getElem? h), Fy hnd h]
  have hnd' : ∀ {j j' o : Nat}, cs[j]? = some o -> cs[j']? = some o -> j = j' := λh1 h2 => by
    have := hf2 _ _ h1;rw [hf2 _ _ h2] at this;simpa using this.symm
  have n1 : ∀ {j o}, cs[j]? = some o -> ∀ p, e0.node j p = e.node o p /\ e0.hd j p = e.hd o p := by
    intro j o h p;simp only [Env.node, e0, h, and_true]
    cases hx : e.ob o with
    | box c => obtain ⟨c', h1⟩ := hT.bx o c hx; rw [h1]; rfl
    | none => rw [hT.arr o (λc => by rw [hx]; simp), hx]; rfl
    | arr _ _ => rw [hT.arr o (λc => by rw [hx]; simp), hx]; rfl
  have hC : MvC e e0 f := by
    refine ⟨λo p k rows j hn hf => ?_, λo c j hb hf => ?_, λo p k rows hn => (hR.mem.node o p k rows hn).one⟩
    · obtain ⟨g1, g2⟩ := n1 (hf1 hf) p
      exact ⟨rows, g1.trans hn, rfl, g2⟩
    · obtain ⟨c', h1⟩ := hT.bx o c hb
      exact ⟨mvL f c', by simp [e0, hf1 hf, h1, Obj.mv], by simp [e0, hf1 hf]⟩
  have hbox : ∀ {j o c}, cs[j]? = some o -> e0.ob j = .box c -> ∃ c' c0, AN obT o = .box c' /\ c = mvL f c' /\ e.ob o = .box c0 := by
    intro j o c ho hb;simp only [e0, ho] at hb
    cases hx : e.ob o with
    | box c0 =>
      obtain ⟨c', h1⟩ := hT.bx o c0 hx;rw [h1] at hb;simp only [Obj.mv, Obj.box.injEq] at hb;exact ⟨c', c0, h1, hb.symm, rfl⟩
    | none => rw [hT.arr o (λc => by rw [hx]; simp), hx] at hb; cases hb
    | arr _ _ => rw [hT.arr o (λc => by rw [hx]; simp), hx] at hb; cases hb
  have hsome : ∀ {j}, e0.ob j ≠ .none -> ∃ o, cs[j]? = some o := λ{j} h => by
    cases hj : cs[j]? with
    | none => simp [e0, hj] at h
    | some o => exact ⟨o, rfl⟩
  have hblk : ∀ l b, e0.blk l = some b -> ∃ o, cs[l.obj]? = some o /\ e.blk (l.at o) = some b := by
    intro l b h
    cases l with
    | nd j p =>
      obtain ⟨k, rows, h1, h2⟩ := E9 h;obtain ⟨o, ho⟩ := hsome (j := j) (λh => by simp [Env.node, h] at h1);obtain ⟨g1, g2⟩ := n1 ho p;exact ⟨o, ho, AY (g1 ▸ h1) (g2 ▸ h2)⟩
    | bx j =>
      obtain ⟨c, h1, h2⟩ := Dv h;obtain ⟨o, ho⟩ := hsome (j := j) (λh => by rw [h] at h1; cases h1);refine ⟨o, ho, ?_⟩;obtain ⟨_, c0, _, _, hx⟩ := hbox ho h1;simp only [e0, ho] at h2;rw [<-h2]; exact Ag hx
  have hobj : ∀ (l : Pl) o, (l.at o).obj = o := λl o => by cases l <;> rfl
  have hF : ∀ l b, e0.blk l = some b -> fm0.F b /\ b < e.w.heap.size /\ ¬ e0.Im b := by
    intro l b h;obtain ⟨o, h1, h2⟩ := hblk l b h;obtain ⟨q1, q2, q3⟩ := hR.mem.own _ b h2;refine ⟨⟨_, h2, by rw [hobj]; exact List.mem_of_getElem? h1⟩, q1, λh3 => ?_⟩;rcases h3 with h3 | ⟨l', h3, h4⟩
    · exact q3 h3
    · rw [hR.mem.inj l' _ b h3 h2, hobj] at h4
      exact hap o h4 (List.mem_of_getElem? h1)
  have hMem : Mem fm0 e0 := by
    refine ⟨λj c hb i x hx => ?_, λj p k rows hn => ?_, λl l' b h h' => ?_, λl b h => ?_, λx hx => ?_, λx hx => hx, D7.refl _ _, rfl⟩
    · obtain ⟨o, ho⟩ := hsome (j := j) (λh => by rw [h] at hb; cases hb)
      obtain ⟨c', c0, h1, rfl, hx'⟩ := hbox ho hb
      rw [E1, List.getElem?_map] at hx
      cases hi : c'[i]? with
      | none => simp [hi] at hx
      | some x' =>
        simp [hi] at hx;subst hx;obtain ⟨g1, u, g2, g3⟩ := hT.box o (List.mem_of_getElem? ho) c' h1 i x' hi;simp only [e0, ho];exact ⟨g1, u, g2, g3 hz rfl hC hI⟩
    · obtain ⟨o, ho⟩ := hsome (j := j) (λh => by simp [Env.node, h] at hn)
      obtain ⟨g1, g2⟩ := n1 ho p
      rw [g1] at hn
      rw [g2]
      exact (hR.mem.node o p k rows hn).subs λi j => (n1 ho _).2
    · obtain ⟨o, h1, h2⟩ := hblk l b h
      obtain ⟨o', h1', h2'⟩ := hblk l' b h'
      have := hR.mem.inj _ _ b h2 h2'
      cases l <;> cases l' <;> simp only [Pl.at, Pl.nd.injEq, Pl.bx.injEq, reduceCtorEq] at this
      · obtain ⟨rfl, rfl⟩ := this
        have := hnd' h1 h1'
        simp only [Pl.obj] at this
        rw [this]
      · subst this
        have := hnd' h1 h1'
        simp only [Pl.obj] at this
        rw [this]
    · obtain ⟨q1, q2, q3⟩ := hF l b h
      exact ⟨q2, .inr q1, q3⟩
    · refine ⟨?_, λ_ => .inl hx⟩
      rcases hx with hx | ⟨l, hx, _⟩
      · exact (hR.mem.im x hx).1
      · exact (hR.mem.own l x hx).1
  obtain ⟨o1, o2, o3⟩ := Ho (t := 0) (n := 0) hc hf2
  refine ⟨fm0, e0, ⟨hMem, rfl, rfl, λ_ => rfl, λ_ => rfl, λj => ?_, by rw [o1]; exact hlen, λi v hi => ?_⟩, rfl, rfl, rfl, λb => Iff.rfl, λb => Iff.rfl, by rw [o2]; simp, λj o h => ⟨(n1 h []).2, by simp [e0, h], λk r h1 => ?_, λc h1 => ?_, λc h1 => ?_⟩⟩
  · rw [o2, Kr]
    simp only [Nat.zero_le, if_true, Nat.sub_zero, e0]
    all_goals
      cases cs[j]? with
      | none => rfl
      | some o => rfl
  · have := o3 i
    rw [Nat.zero_add] at this
    rw [this]
    have hi' : i < zs.length := by rw [hlen]; exact (List.getElem?_eq_some_iff.1 hi).1
    rw [List.getElem?_eq_getElem hi']
    exact hv hz rfl hC i _ v (List.getElem?_eq_getElem hi') hi
  · cases hx : e.ob o with
    | box c0 => obtain ⟨c', h2⟩ := hT.bx o c0 hx; simp [e0, h, h2, Obj.mv] at h1
    | none => simp [e0, h, hT.arr o (λc => by rw [hx]; simp), hx, Obj.mv] at h1
    | arr _ _ => simpa [e0, h, hT.arr o (λc => by rw [hx]; simp), hx, Obj.mv] using h1
  · obtain ⟨c', h2⟩ := hT.bx o c h1
    exact ⟨_, by simp only [e0, h, h2, Obj.mv]; rfl⟩
  · obtain ⟨_, c0, _, _, h2⟩ := hbox h h1
    exact ⟨c0, h2⟩
end
section
variable {P:Program} {fm fm0:Fm} {M:List Nat} {e e' e0:Env} {s s':St} {a:Act} {Q:Exit->Act->World->Prop} {lent:List Nat}
theorem Hd: ∀ {p q:AQ} {i j:Nat},Dy p=some (q,i,j)->p=q++[(i,j)]
 |[],q,i,j,h=>by simp[Dy]at h
 |(a,b)::p,q,i,j,h=>by
  simp only[Dy]at h;split at h
  ·rename_i q' i' j' hs
   cases h
   rw[Hd hs];rfl
  ·rename_i hs
   cases h
   cases p with
   |nil=>rfl
   |cons c p=>
    obtain⟨c1,c2⟩:=c;simp only[Dy]at hs;split at hs<;>cases hs
def Ch (w:World):List AV->List Value->Prop
 |[],[]=>True
 |p::_::l,u::v::us=>((∀o q i j,p= .pa o q i j-> ∃ad,u= .pointer (some ad)/\w.cell? ad=some v))/\Ch w l us
 |_,_=>False
theorem Ch.append {w:World}: ∀ {l l':List AV} {us us':List Value},Ch w l us->Ch w l' us'->Ch w (l++l') (us++us')
 |[],l',[],us',_,h=>h
 |p::x::l,l',u::v::us,us',h,h'=>⟨h.1,Ch.append h.2 h'⟩
 |[],_,_::_,_,h,_=>by cases h
 |[_],_,_,_,h,_=>by simp[Ch]at h
 |_::_::_,_,[],_,h,_=>by simp[Ch]at h
 |_::_::_,_,[_],_,h,_=>by simp[Ch]at h
theorem Ch.sub {w w':World} {f:Nat->AQ->Option (Nat×AQ)}: ∀ {l:List AV} {us:List Value},Ch w l us->(∀ (n:Nat) o q i j u,l[n]? =some (.pa o q i j)->us[n]? =some u->f o q≠none-> ∀ad,u= .pointer (some ad)->w'.cell? ad=w.cell? ad)->Ch w' (CL f l) us
 |[],[],_,_=>trivial
 |p::x::l,u::v::us,h,hw=>by
  refine⟨λo q i j hp=> ?_,Ch.sub h.2 λn o q i j u h1 h2=>hw (n+2) o q i j u (by simpa using h1) (by simpa using h2)⟩
  cases p<;>simp only[AV.sub]at hp
  case pa o1 q1 i1 j1=>
   cases hf:f o1 q1 with
   |none=>simp[hf]at hp
   |some y=>
    obtain⟨ad,g1,g2⟩:=h.1 o1 q1 i1 j1 rfl;exact⟨ad,g1,by rw[hw 0 o1 q1 i1 j1 u rfl rfl (by simp[hf]) ad g1];exact g2⟩
  all_goals (first|cases hp|(split at hp<;>cases hp))
 |[],_::_,h,_=>by cases h
 |[_],_,h,_=>by simp[Ch]at h
 |_::_::_,[],h,_=>by simp[Ch]at h
 |_::_::_,[_],h,_=>by simp[Ch]at h
theorem VB (hM:Mem fm e) {x:AV} {u:Value} (h:AS e x u): ∃us,(EI x).length=us.length/\Ch e.w (EI x) us/\ ∀ (i:Nat) y v,(EI x)[i]? =some y->us[i]? =some v->AS e y v:=by
 have hno:EI x=[]-> ∃us,(EI x).length=us.length/\Ch e.w (EI x) us/\ ∀ (i:Nat) y v,(EI x)[i]? =some y->us[i]? =some v->AS e y v:=λh=>by
  rw[h];exact⟨[],rfl,trivial,λi y v h=>by simp at h⟩
 cases h with
 |ref o p k rows hn=>
  cases hs:Dy p with
  |none=>exact hno (by simp[EI,hs])
  |some y=>
   obtain⟨q,i,j⟩:=y;have hp:=Hd hs;subst hp;obtain⟨k0,rows0,h0,h1⟩:=FY hn;rw[BI]at h1
   cases hq:AM k0 rows0 q with
   |none=>simp[hq]at h1
   |some z=>
    obtain⟨kq,rq⟩:=z;simp[hq]at h1;have hnq:e.node o q=some (kq,rq):=by rw[BV h0];exact hq
    simp only[AM]at h1;split at h1
    case h_2=>cases h1
    rename_i k' r' hc;simp only[Option.some.injEq,Prod.mk.injEq]at h1;obtain⟨rfl,rfl⟩:=h1;obtain⟨ad,c,hh,hle,hx⟩:=hM.node o q kq rq hnq;obtain⟨r0,hr0,_⟩:=AZ hc;have hpos:0<c:=by have:=(List.getElem?_eq_some_iff.1 hr0).1;omega
    obtain⟨b,off,rfl,_,_,h3⟩:=hx hpos;obtain⟨u,g1,g2⟩:=h3 i j _ hc;simp only[CU]at g2;subst g2;refine⟨[.pointer (some ⟨b,off+(i*kq+j),none⟩),e.hd o (q++[(i,j)])],by simp[EI,hs],?_,λn y v hy hv=> ?_⟩
    ·simp only[EI,hs];exact⟨λ_ _ _ _ _=>⟨_,rfl,g1⟩,trivial⟩
    ·simp only[EI,hs]at hy
     match n with
     |0=>simp at hy hv;subst hy;subst hv;exact .pa o q i j kq b off _ c rq hnq hh hpos
     |1=>simp at hy hv;subst hy;subst hv;exact .ref o _ k' r' hn
     |n+2=>simp at hy
 |_=>exact hno rfl
theorem Ni {h h':Aq} {us:List Value} (hH:Cs fm e h a us) {i n:Nat} (hr:h.rootI i n=some h'):
  ∃e',e'.w=e.w/\e'.Im=e.Im/\Cs fm e' h' a us/\h'.s.n=h.s.n/\h'.s.m=h.s.m/\HZ n h.l h'.l/\QU n h.s h'.s/\Pc e e'/\
   ∀ {e0:Env} {A N:Nat->Prop},Ds e0 e A N->(∀x,h.l[i]? =some x-> ∀o∈A1 x,N o)->Ds e0 e' A N:=by
 have same: ∀ {h':Aq},some h=some h'-> ∃e',e'.w=e.w/\e'.Im=e.Im/\Cs fm e' h' a us/\h'.s.n=h.s.n/\h'.s.m=h.s.m/\HZ n h.l h'.l/\QU n h.s h'.s/\Pc e e'/\
   ∀ {e0:Env} {A N:Nat->Prop},Ds e0 e A N->(∀x,h.l[i]? =some x-> ∀o∈A1 x,N o)->Ds e0 e' A N:=λh=>by
  cases h
  exact⟨e,rfl,rfl,hH,rfl,rfl,HZ.refl _ _,λb cs hb=>⟨cs,hb,HZ.refl _ _⟩,Pc.refl e,λhI _=>hI⟩
 unfold Aq.rootI at hr
 split at hr
 ·exact same hr
 ·exact same hr
 ·exact same hr
 ·exact same hr
 ·exact same hr
 ·exact Lb hH hr
theorem push_ok {h:Aq} {us:List Value} (hH:Cs fm e h a us) (i:Nat): ∃vs,Cs fm e (h.push i) a (us++vs)/\ ∃ps,(h.push i).l=h.l++ps/\Ch e.w ps vs/\ps.length=vs.length:=by
 have key: ∃vs ps,(h.push i).l=h.l++ps/\Ch e.w ps vs/\ps.length=vs.length/\ ∀ (j:Nat) y v,ps[j]? =some y->vs[j]? =some v->AS e y v:=by
  unfold Aq.push
  cases hi:h.l[i]? with
  |none=>exact⟨[],[],rfl,trivial,rfl,λj y v h=>by simp at h⟩
  |some x=>
   have hlt:i<us.length:=by rw[<-hH.len];exact(List.getElem?_eq_some_iff.1 hi).1
   obtain⟨vs,g1,g2,g3⟩:=VB hH.rel.mem (hH.ok i x us[i] hi (List.getElem?_eq_getElem hlt));exact⟨vs,EI x,rfl,g2,g1,g3⟩
 obtain⟨vs,ps,g1,g2,g3,g4⟩:=key;refine⟨vs,⟨hH.rel,by rw[g1];simp[hH.len,g3],λj y v hy hv=> ?_⟩,ps,g1,g2,g3⟩;rw[g1,List.getElem?_append]at hy;rw[List.getElem?_append,<-hH.len]at hv;split at hy
 ·rename_i hj;rw[if_pos hj]at hv;exact hH.ok j y v hy hv
 ·rename_i hj;rw[if_neg hj]at hv;exact g4 _ y v hy hv
end
end Go.Proofs.YtghgecpicnfgpaaGreat.Ow
