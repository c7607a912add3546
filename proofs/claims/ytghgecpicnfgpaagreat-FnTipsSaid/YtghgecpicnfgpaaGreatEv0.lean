/- Functions evaluated on the small machine: Loops that go on while something holds, by what a round makes of a value, Loops that get on by a measure, Cells, chains, moments: evaluated, Lists alike, a list backwards: evaluated. -/
import Derived.Test.YtghgecpicnfgpaaGreatPF
namespace Go.Proofs.YtghgecpicnfgpaaGreat.Ow
open Go
set_option linter.unusedVariables false
set_option linter.unusedSimpArgs false
set_option maxHeartbeats 4000000
section
variable {G:Nat->Option PF} {PK:Nat->List Arg->Option Res} {md:Nat->List Nat}
def wh {α:Type} (g:α->Bool) (f:α->α):Nat->α->α
 |0,a=>a
 |n+1,a=>if g a then wh g f n (f a)else a
theorem Qr {o:Nat} {live:List Nat} {c:C} {α:Type} (ST:α->St) (g:α->Bool) (f:α->α) (Inv:α->Prop) (mu:α->Nat)
  (h: ∀a,Inv a->g a=true->Inv (f a)/\mu (f a)<mu a/\ ∃s',BR (B3 G PK md) (A6 G PK md) md c (ST a)=some (.normal,s')/\s'.m<=o/\Aa o live s'=ST (f a))
  (hend: ∀a,Inv a->g a=false-> ∃ex s',BR (B3 G PK md) (A6 G PK md) md c (ST a)=some (ex,s')/\ex≠ .normal):
  ∀ (n:Nat) a,Inv a->mu a<=n->(Inv (wh g f n a)/\g (wh g f n a)=false)/\ ∀ (s:St),s.m<=o->Aa o live s=ST a->A6 G PK md o live c s=BR (B3 G PK md) (A6 G PK md) md c (ST (wh g f n a)):=by
 intro n
 induction n with
 |zero=>
  intro a hi hm;have hg:g a=false:=by
   cases hg:g a
   ·rfl
   ·have:=(h a hi hg).2.1;omega
  refine⟨⟨hi,hg⟩,λs hs hc=> ?_⟩;obtain⟨ex,s',h1,hne⟩:=hend a hi hg
  show A6 G PK md o live c s=BR _ _ _ _ (ST a)
  rw[h1];exact Ea hs (by rw[hc];exact h1) hne
 |succ n ih=>
  intro a hi hm
  cases hg:g a
  ·simp only[wh,hg];refine⟨⟨hi,hg⟩,λs hs hc=> ?_⟩;obtain⟨ex,s',h1,hne⟩:=hend a hi hg;simp only[Bool.false_eq_true,if_false];rw[h1];exact Ea hs (by rw[hc];exact h1) hne
  ·simp only[wh,hg,if_true];obtain⟨h1,h2,s',h3,h4,h5⟩:=h a hi hg;obtain⟨k1,k2⟩:=ih (f a) h1 (by omega);refine⟨k1,λs hs hc=> ?_⟩;have h6:=k2 s' h4 h5;obtain⟨ex,s2,h7,hne⟩:=hend _ k1.1 k1.2;rw[h7]at h6 ⊢;exact GS hs (by rw[hc];exact h3) h6
def wo {α:Type} (g:α->Bool) (f:α->Option α):Nat->α->Option α
 |0,a=>some a
 |n+1,a=>if g a then(match f a with
  |some a'=>wo g f n a'
  |none=>none)else some a
theorem Qq {o:Nat} {live:List Nat} {c:C} {α:Type} (ST:α->St) (g:α->Bool) (f:α->Option α) (Inv:α->Prop) (mu:α->Nat) (Bad:St->Prop)
  (h: ∀a a',Inv a->g a=true->f a=some a'->Inv a'/\mu a'<mu a/\ ∃s',BR (B3 G PK md) (A6 G PK md) md c (ST a)=some (.normal,s')/\s'.m<=o/\Aa o live s'=ST a')
  (hbad: ∀a,Inv a->g a=true->f a=none->0<mu a/\ ∃s',BR (B3 G PK md) (A6 G PK md) md c (ST a)=some (.ret,s')/\Bad s')
  (hend: ∀a,Inv a->g a=false-> ∃ex s',BR (B3 G PK md) (A6 G PK md) md c (ST a)=some (ex,s')/\ex≠ .normal):
  ∀ (n:Nat) a,Inv a->mu a<=n->(∀r,wo g f n a=some r->Inv r/\g r=false/\ ∀ (s:St),s.m<=o->Aa o live s=ST a->A6 G PK md o live c s=BR (B3 G PK md) (A6 G PK md) md c (ST r))/\
   (wo g f n a=none-> ∃bad,Bad bad/\ ∀ (s:St),s.m<=o->Aa o live s=ST a->A6 G PK md o live c s=some (.ret,bad)):=by
 intro n
 induction n with
 |zero=>
  intro a hi hm;have hg:g a=false:=by
   cases hg:g a
   ·rfl
   ·cases hf:f a with
    |none=>have:=(hbad a hi hg hf).1;omega
    |some a'=>have:=(h a a' hi hg hf).2.1;omega
  refine⟨λr hr=> ?_,λhr=> ?_⟩
  ·simp only[wo,Option.some.injEq]at hr;subst hr;refine⟨hi,hg,λs hs hc=> ?_⟩;obtain⟨ex,s',h1,hne⟩:=hend a hi hg;rw[h1];exact Ea hs (by rw[hc];exact h1) hne
  ·simp[wo]at hr
 |succ n ih=>
  intro a hi hm
  cases hg:g a
  ·refine⟨λr hr=> ?_,λhr=> ?_⟩
   ·simp only[wo,hg,Bool.false_eq_true,if_false,Option.some.injEq]at hr;subst hr;refine⟨hi,hg,λs hs hc=> ?_⟩;obtain⟨ex,s',h1,hne⟩:=hend a hi hg;rw[h1];exact Ea hs (by rw[hc];exact h1) hne
   ·simp[wo,hg]at hr
  ·cases hf:f a with
   |none=>
    obtain⟨_,s',h1,hb⟩:=hbad a hi hg hf;refine⟨λr hr=> ?_,λhr=> ?_⟩
    ·simp[wo,hg,hf]at hr
    ·exact⟨s',hb,λs hs hc=>Ea hs (by rw[hc];exact h1) (by simp)⟩
   |some a'=>
    obtain⟨h1,h2,s',h3,h4,h5⟩:=h a a' hi hg hf;obtain⟨k1,k2⟩:=ih a' h1 (by omega);simp only[wo,hg,if_true,hf];refine⟨λr hr=> ?_,λhr=> ?_⟩
    ·obtain⟨q1,q2,q3⟩:=k1 r hr;refine⟨q1,q2,λs hs hc=> ?_⟩;have h6:=q3 s' h4 h5;obtain⟨ex,s2,h7,hne⟩:=hend _ q1 q2;rw[h7]at h6 ⊢;exact GS hs (by rw[hc];exact h3) h6
    ·obtain⟨bad,hb,q⟩:=k2 hr;exact⟨bad,hb,λs hs hc=>GS hs (by rw[hc];exact h3) (q s' h4 h5)⟩
def J2 (p:Nat->Bool):Nat->Nat->Nat
 |0,k=>k
 |f+1,k=>if p k then J2 p f (k+1)else k
theorem FR (p:Nat->Bool) (n:Nat): ∃k,J2 p n 0=k/\k<=n/\(∀j,j<k->p j=true)/\(k=n\/k<n/\p k=false):=by
 have key: ∀ (f i:Nat),(∀j,j<i->p j=true)-> ∃k,J2 p f i=k/\k<=i+f/\(∀j,j<k->p j=true)/\(k=i+f\/k<i+f/\p k=false):=by
  intro f
  induction f with
  |zero=>intro i hi;exact⟨i,rfl,by omega,hi,.inl rfl⟩
  |succ f ih=>
   intro i hi
   cases hp:p i
   ·exact⟨i,by simp[J2,hp],by omega,hi,.inr ⟨by omega,hp⟩⟩
   ·obtain⟨k,h1,h2,h3,h4⟩:=ih (i+1) (λj hj=>by
     rcases Nat.lt_or_ge j i with h|h
     ·exact hi j h
     ·rwa [show j=i by omega])
    exact⟨k,by simp[J2,hp,h1],by omega,h3,h4.elim (λh=> .inl (by omega)) λh=> .inr ⟨by omega,h.2⟩⟩
 obtain⟨k,h1,h2,h3,h4⟩:=key n 0 (λj hj=>by omega);exact⟨k,h1,by omega,h3,h4.elim (λh=> .inl (by omega)) λh=> .inr ⟨by omega,h.2⟩⟩
end
section
variable {G:Nat->Option PF} {PK:Nat->List Arg->Option Res} {md:Nat->List Nat}
theorem EJ {o:Nat} {live:List Nat} {c:C} {α:Type} (ST:α->St) (mu:α->Nat) (Inv:α->Prop) (Post:Ex×St->Prop)
  (h: ∀a,Inv a->(∃a',Inv a'/\mu a'<mu a/\ ∃s',BR (B3 G PK md) (A6 G PK md) md c (ST a)=some (.normal,s')/\s'.m<=o/\Aa o live s'=ST a')\/
   ∃r,BR (B3 G PK md) (A6 G PK md) md c (ST a)=some r/\r.1≠ .normal/\Post r):
  ∀a,Inv a-> ∃r,Post r/\ ∀ (s:St),s.m<=o->Aa o live s=ST a->A6 G PK md o live c s=some r:=by
 have key: ∀ (n:Nat) a,mu a<n->Inv a-> ∃r,Post r/\ ∀ (s:St),s.m<=o->Aa o live s=ST a->A6 G PK md o live c s=some r:=by
  intro n
  induction n with
  |zero=>intro a ha;omega
  |succ n ih=>
   intro a ha hi;rcases h a hi with ⟨a',hi',hlt,s',h1,h2,h3⟩|⟨r,h1,h2,h3⟩
   ·obtain⟨r,hp,hr⟩:=ih a' (by omega) hi';exact⟨r,hp,λs hm hs=>GS hm (by rw[hs];exact h1) (hr s' h2 h3)⟩
   ·exact⟨r,h3,λs hm hs=>Ea hm (by rw[hs];exact h1) h2⟩
 exact λa hi=>key (mu a+1) a (Nat.lt_succ_self _) hi
end
@[simp] def Ey (w:AB):Obj:= .box [.im 16 (enc fN w.nodes),.im 3 (enc fW w.net),.im 2 (enc fR w.log),.im 1 (enc fI w.safe),.sc (I6 w.gen)]
def inB (x lo hi:Int):Bool:=decide (x ≥ lo)&&decide (x<=hi)
theorem Ao [PKI] (x lo hi:Int):sG 78 [.v (.sc (I6 x)),.v (.sc (I6 lo)),.v (.sc (I6 hi))]=some ⟨[.v (.sc (.bool (inB x lo hi)))],[],[]⟩:=by
 refine sK p78 ?_;unfold inB;by_cases h1:x ≥ lo
 ·by_cases h2:x<=hi<;>simp[p78,h1,h2]
 ·simp[p78,h1]
theorem BF [PKI] (x lo hi:Int):sG 53 [.v (.sc (I6 x)),.v (.sc (I6 lo)),.v (.sc (I6 hi))]=some ⟨[.v (.sc (.bool (inB x lo hi)))],[],[]⟩:=by
 refine sK p53 ?_;unfold inB;by_cases h1:x ≥ lo
 ·by_cases h2:x<=hi<;>simp[p53,h1,h2]
 ·simp[p53,h1]
theorem Gk [PKI]:sG 171 []=some ⟨[.v (.own 1 (enc fI (List.replicate 8 0)))],[],[]⟩:=by
 refine sK p171 ?_;simp[p171,enc]
theorem MA [PKI]:sG 65 []=some ⟨[.v (.own 1 (enc fI (List.replicate 8 0)))],[],[]⟩:=by
 refine sK p65 ?_;simp[p65,enc]
def FC (m:LI) (at_ n:Int):LI:=if 0<=at_/\at_<m.length then m.set at_.toNat n else m
theorem Mh [PKI] (m:LI) (at_ n:Int) (hm:m.length<=1048576):sG 91 [.v (.im 1 (enc fI m)),.v (.sc (I6 at_)),.v (.sc (I6 n))]=some ⟨[.v (.own 1 (enc fI (FC m at_ n)))],[],[]⟩:=by
 refine sK p91 ?_;have hw:IntKind.wrap .i64 ((m.length:Int) - 1)=m.length - 1:=AC (by omega) (by omega);have e1:=Ao at_ 0 (m.length - 1);have hb:m.length*8<=35184372088832:=by omega
 by_cases h:0<=at_/\at_<m.length
 ·have h1:inB at_ 0 (m.length - 1)=true:=by unfold inB;simp;omega
  rw[h1]at e1;obtain⟨i,hi⟩:=Int.eq_ofNat_of_zero_le h.1;subst hi;have hlt:i<m.length:=by omega
  have hs:=A3 fI m i n;simp only[fI]at hs;have hp:FC m (i:Int) n=m.set i n:=by unfold FC;rw[if_pos h];rfl
  rw[hp];simp[p91,  hw,e1,hb,hlt,hs]
 ·have h1:inB at_ 0 (m.length - 1)=false:=by unfold inB;simp;omega
  rw[h1]at e1;have hp:FC m at_ n=m:=by unfold FC;rw[if_neg h]
  rw[hp];simp[p91,  hw,e1,hb]
theorem Se [PKI] (hC: ∀l:LI,l.length<=1048576->sG 56 [.v (.im 1 (enc fI l))]=some ⟨[.v (.own 1 (enc fI l))],[],[]⟩) (m:LI) (at_ n:Int) (hm:m.length<=1048576):
  sG 264 [.v (.im 1 (enc fI m)),.v (.sc (I6 at_)),.v (.sc (I6 n))]=some ⟨[.v (.own 1 (enc fI (FC m at_ n)))],[],[]⟩:=by
 refine sK p264 ?_
 have hw:IntKind.wrap .i64 ((m.length:Int) - 1)=m.length - 1:=AC (by omega) (by omega)
 have e1:=BF at_ 0 (m.length - 1)
 have e2:=hC m hm
 by_cases h:0<=at_/\at_<m.length
 ·have h1:inB at_ 0 (m.length - 1)=true:=by unfold inB;simp;omega
  rw[h1]at e1
  obtain⟨i,hi⟩:=Int.eq_ofNat_of_zero_le h.1
  subst hi
  have hlt:i<m.length:=by omega
  have hs:=A3 fI m i n
  simp only[fI]at hs
  have hp:FC m (i:Int) n=m.set i n:=by unfold FC;rw[if_pos h];rfl
  rw[hp]
  simp[p264,  hw,e1,e2,hlt,hs]
 ·have h1:inB at_ 0 (m.length - 1)=false:=by unfold inB;simp;omega
  rw[h1]at e1
  have hp:FC m at_ n=m:=by unfold FC;rw[if_neg h]
  rw[hp]
  simp[p264,  hw,e1,e2]
theorem Le (m:LI) (at_ n:Int):(FC m at_ n).length=m.length:=by unfold FC;split<;>simp
@[simp] def st130 (l m:LI) (j:Nat):St:={n:=32,m:=0,tm:=[(0,.im 1 (enc fI l)),(1,.im 1 (enc fI m)),(5,.sc (I6 j))],ob:=[]}
theorem L5 [PKI] (l m:LI) (hl:l.length<=1048576):sG 130 [.v (.im 1 (enc fI l)),.v (.im 1 (enc fI m))]=some ⟨[.v (.sc (.bool (decide (l=m))))],[],[]⟩:=by
 refine sK p130 ?_;obtain⟨k,hk,hp,hkn⟩:=first (λj=>l[j]? =m[j]?) (min l.length m.length);have hstep: ∀j,j<k-> ∃s',xG b130_0 (st130 l m j)=some (.normal,s')/\s'.m<=10000000/\Aa 10000000 [0,1,5] s'=st130 l m (j+1):=λj hj=>by
  have hlt:j<l.length:=by omega
  have hlt2:j<m.length:=by omega
  obtain⟨x,hx1⟩:=AF hlt;have hy1:m[j]? =some x:=(hp j hj).symm.trans hx1;obtain⟨_,hx'⟩:=BT hx1;obtain⟨_,hy'⟩:=BT hy1;simp[b130_0,hlt,hlt2,hx',hy',Ar hlt hl]
 rcases hkn with rfl|⟨hlt,hn⟩
 ·have hsz:= @lok _ 10000000 [0,1,5] b130_0 (st130 l m) (min l.length m.length) hstep (by
   by_cases h1:l.length<=m.length
   ·simp[b130_0,Nat.min_eq_left h1]
   ·have h2:m.length<=l.length:=by omega
    have h3:m.length<l.length:=by omega
    simp[b130_0,Nat.min_eq_right h2,h3])
  have hd:decide (l=m)=decide (l.length=m.length):=by
   by_cases hlen:l.length=m.length
   ·have:l=m:=List.ext_getElem? λi=>by
     rcases Nat.lt_or_ge i l.length with h|h
     ·exact hp i (by omega)
     ·rw[List.getElem?_eq_none h,List.getElem?_eq_none (by omega)]
    simp[this]
   ·have: ¬l=m:=λh=>hlen (by rw[h])
    simp[this,hlen]
  rw[hd];simp[p130];rw[hsz]
  ·by_cases h1:l.length<=m.length
   ·by_cases h2:l.length=m.length
    ·simp[b130_0,Nat.min_eq_left h1,h2]
    ·have h5: ¬ (l.length:Int)=m.length:=by omega
     simp[b130_0,Nat.min_eq_left h1,h2,h5]
   ·have h2:m.length<=l.length:=by omega
    have h3:m.length<l.length:=by omega
    have h4: ¬l.length=m.length:=by omega
    have h5: ¬ (l.length:Int)=m.length:=by omega
    simp[b130_0,Nat.min_eq_right h2,h3,h4,h5]
  ·simp
  ·simp
 ·have hlt1:k<l.length:=by omega
  have hlt2:k<m.length:=by omega
  obtain⟨x,hx1⟩:=AF hlt1;obtain⟨y,hy1⟩:=AF hlt2;obtain⟨_,hx'⟩:=BT hx1;obtain⟨_,hy'⟩:=BT hy1;have hxy: ¬x=y:=λh=>hn (by rw[hx1,hy1,h])
  have hsz:= @lok _ 10000000 [0,1,5] b130_0 (st130 l m) k hstep (by simp[b130_0,hlt1,hlt2,hx',hy',hxy]);have hlm: ¬l=m:=λh=>hn (by rw[h])
  simp only[hlm,decide_false];simp[p130];rw[hsz]
  ·simp[b130_0,hlt1,hlt2,hx',hy',hxy]
  ·simp
  ·simp
@[simp] def st124 (l m:LI) (j:Nat):St:={n:=26,m:=0,tm:=[(0,.im 1 (enc fI l)),(1,.im 1 (enc fI m)),(12,.sc (I6 l.length)),(13,.sc (I6 j))],ob:=[]}
theorem Oj [PKI] (l m:LI) (hl:l.length<=1048576):sG 124 [.v (.im 1 (enc fI l)),.v (.im 1 (enc fI m))]=some ⟨[.v (.sc (.bool (decide (l=m))))],[],[]⟩:=by
 refine sK p124 ?_;by_cases hlen:l.length=m.length
 ·have hlen':(l.length:Int)=m.length:=by omega
  obtain⟨k,hk,hp,hkn⟩:=first (λj=>l[j]? =m[j]?) l.length;have hstep: ∀j,j<k-> ∃s',xG b124_0 (st124 l m j)=some (.normal,s')/\s'.m<=10000000/\Aa 10000000 [0,1,12,13] s'=st124 l m (j+1):=λj hj=>by
   have hlt:j<l.length:=by omega
   have hlt2:j<m.length:=by omega
   obtain⟨x,hx1⟩:=AF hlt;have hy1:m[j]? =some x:=(hp j hj).symm.trans hx1;obtain⟨_,hx'⟩:=BT hx1;obtain⟨_,hy'⟩:=BT hy1;simp[b124_0,hlt,hlt2,hx',hy',Ar hlt hl]
  rcases hkn with rfl|⟨hlt,hn⟩
  ·have hsz:= @lok _ 10000000 [0,1,12,13] b124_0 (st124 l m) l.length hstep (by simp[b124_0]);have hlm:l=m:=List.ext_getElem? λi=>by
    rcases Nat.lt_or_ge i l.length with h|h
    ·exact hp i h
    ·rw[List.getElem?_eq_none h,List.getElem?_eq_none (by omega)]
   subst hlm;simp only[decide_true];simp[p124];rw[hsz]
   ·simp[b124_0]
   ·simp
   ·simp
  ·have hlt2:k<m.length:=by omega
   obtain⟨x,hx1⟩:=AF hlt;obtain⟨y,hy1⟩:=AF hlt2;obtain⟨_,hx'⟩:=BT hx1;obtain⟨_,hy'⟩:=BT hy1;have hxy: ¬x=y:=λh=>hn (by rw[hx1,hy1,h])
   have hsz:= @lok _ 10000000 [0,1,12,13] b124_0 (st124 l m) k hstep (by simp[b124_0,hlt,hlt2,hx',hy',hxy]);have hlm: ¬l=m:=λh=>hn (by rw[h])
   simp only[hlm,decide_false];simp[p124,hlen'];rw[hsz]
   ·simp[b124_0,hlt,hlt2,hx',hy',hxy]
   ·simp
   ·simp[hlen']
 ·have hlen': ¬ (l.length:Int)=m.length:=by omega
  have hlm: ¬l=m:=λh=>hlen (by rw[h])
  simp only[hlm,decide_false];simp[p124,hlen,hlen']
end Go.Proofs.YtghgecpicnfgpaaGreat.Ow
