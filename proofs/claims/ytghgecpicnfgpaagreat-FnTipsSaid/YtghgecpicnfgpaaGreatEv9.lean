/- Functions evaluated on the small machine: Slots put: D8, Marks, generations: what the reference makes of them, Copies of metas and nodes, lists of generations: what the reference makes. -/
import Derived.Test.YtghgecpicnfgpaaGreatEv8
import Derived.Test.YtghgecpicnfgpaaGreatEv6
namespace Go.Proofs.YtghgecpicnfgpaaGreat.Ow
open Go
set_option linter.unusedVariables false
set_option linter.unusedSimpArgs false
set_option maxHeartbeats 4000000
theorem Cp [PKI] (s:BG) (m:Ay) (hs:slS s) (hm:mtS m):sG 92 [.a (AD (fSl s)),.a (AD (fM m))]=some ⟨[.a (AA (fSl (Br s m)))],[],[]⟩:=by
 refine sK p92 ?_;have e1:=L4 s hs.1.1 hs.2.1;have e2:=Dr s hs;have e3:=DH m hm;have e4:=J7 s hs;have e5:=QH m ((Af s).2.1+1) hm (GF m);have hb:=Je s;have hw:IntKind.wrap .i64 ((Af s).2.1+1)=(Af s).2.1+1:=AC (by omega) (by omega);have hA:=P5 s;have hl:=En s m;unfold G4 at hl;simp only[AD,lent,fM,fSl,List.map]at e1 e2 e3 e4 e5;unfold Br Jr G4;generalize hq:(Af s)=q at*;obtain⟨q1,q2,q3⟩:=q;generalize Em (Az m) (q2+1)=nb at*;simp only at hb hw hl
 cases hk:BU m
 ·simp[p92,  e1,e2,e3,hk]
 by_cases hc:q2=1000000
 ·simp[p92,  e1,e2,e3,hk,hc]
 have hc2: ¬ (1000000:Int)<=q2:=by omega
 by_cases hw0:I5 s=0
 ·simp[p92,  e1,e2,e3,e4,e5,hk,hc,hc2,hw,hA,hw0,hl]
 ·simp[p92,  e1,e2,e3,e4,e5,hk,hc,hc2,hw,hA,hw0,hl]
theorem LA [PKI] (hCU: ∀l:LI,l.length<=1048576->sG 58 [.v (.im 1 (enc fU l))]=some ⟨[.v (.own 1 (enc fU l))],[],[]⟩) (s:BG) (m:Ay) (n:Int) (k:Nat) (hkn:max 0 (min n 160)=(k:Int)) (hs:slS s) (hm:mtS m):sG 112 [.a (AD (fSl s)),.a (AD (fM m)),.v (.sc (I6 n))]=some ⟨[.a (AA (fSl (I2 s m k)))],[],[]⟩:=by
 refine sK p112 ?_;have e1:=LF hCU s hs.1.1 hs.2.1;have e2:=L3 s hs;have e3:=Ce m hm;have e5:=Kx m ((Af s).2.1+1) hm (GF m);have hb:=Je s;have hw:IntKind.wrap .i64 ((Af s).2.1+1)=(Af s).2.1+1:=AC (by omega) (by omega);have hl:=En s m;unfold G4 at hl;simp only[AD,lent,fM,fSl,List.map]at e1 e2 e3 e5;unfold I2 Jr G4;generalize hq:(Af s)=q at*;obtain⟨q1,q2,q3⟩:=q;generalize Em (Az m) (q2+1)=nb at*;simp only at hb hw hl
 cases hk:BU m
 ·simp[p112,  e1,e2,e3,hk]
 by_cases hc:q2=1000000
 ·simp[p112,  e1,e2,e3,hk,hc]
 have hkn2:(if(0:Int)<(if 160<n then 160 else n)then(if 160<n then 160 else n)else 0)=(k:Int):=by
  rw[Int.max_def,Int.min_def]at hkn;split<;>split<;>split at hkn<;>split at hkn<;>omega
 have hk160:k<=160:=by omega
 have hkd: ∀was:LI,was.length<=1048576->sG 168 [.v (.im 1 (enc fUU [nb.take k,was.drop (min k was.length)]))]=some ⟨[.v (.own 1 (enc fU (EU was nb k)))],[],[]⟩:=λwas hwas=>by
  have h1:(nb.take k).length=k:=by rw[List.length_take];omega
  have h2:(was.drop (min k was.length)).length=was.length - min k was.length:=List.length_drop;have e:=Vj [nb.take k,was.drop (min k was.length)] (by simp) (by
   simp only[List.map,Df,h1,h2];omega)
  have hf:[nb.take k,was.drop (min k was.length)].flatten=EU was nb k:=by
   unfold EU;simp only[List.flatten_cons,List.flatten_nil,List.append_nil];rcases Nat.lt_or_ge was.length k with h|h
   ·rw[Nat.min_eq_right (by omega),List.drop_eq_nil_of_le (Nat.le_refl _),List.drop_eq_nil_of_le (by omega)]
   ·rw[Nat.min_eq_left h]
  rw[hf]at e;exact e
 have hkA: ∀was:LI,was.length<=1048576->was.length<k->sG 168 [.v (.im 1 [[.sl 1 ((enc fU nb).take k)],[.sl 1 []]])]=some ⟨[.v (.own 1 (enc fU (EU was nb k)))],[],[]⟩:=λwas h1 h2=>by
  have e:=hkd was h1;rw[Nat.min_eq_right (by omega),List.drop_eq_nil_of_le (Nat.le_refl _)]at e;simpa only[enc,fUU,List.map_cons,List.map_nil,List.map_take]using e
 have hkB: ∀was:LI,was.length<=1048576->k<=was.length->sG 168 [.v (.im 1 [[.sl 1 ((enc fU nb).take k)],[.sl 1 ((enc fU was).drop k)]])]=some ⟨[.v (.own 1 (enc fU (EU was nb k)))],[],[]⟩:=λwas h1 h2=>by
  have e:=hkd was h1;rw[Nat.min_eq_left h2]at e;simpa only[enc,fUU,List.map_cons,List.map_nil,List.map_take,List.map_drop]using e
 have hk3:k<=nb.length:=by omega
 cases hA:isA s
 ·have g6:=hs.1.1;rcases Nat.lt_or_ge s.a.length k with h|h
  ·have e6:=hkA s.a g6 h;simp[p112,  e1,e2,e3,e5,hk,hc,hw,hA,hl,hkn2,h,e6,hk160]
  ·have e6:=hkB s.a g6 h;have hT:(enc fU s.a).take s.a.length=enc fU s.a:=List.take_of_length_le (by simp);have h': ¬s.a.length<k:=by omega
   simp[p112,  e1,e2,e3,e5,hk,hc,hw,hA,hl,hkn2,h,h',e6,hk160,hT]
 ·have g6:=hs.2.1;rcases Nat.lt_or_ge s.b.length k with h|h
  ·have e6:=hkA s.b g6 h;simp[p112,  e1,e2,e3,e5,hk,hc,hw,hA,hl,hkn2,h,e6,hk160]
  ·have e6:=hkB s.b g6 h;have hT:(enc fU s.b).take s.b.length=enc fU s.b:=List.take_of_length_le (by simp);have h': ¬s.b.length<k:=by omega
   simp[p112,  e1,e2,e3,e5,hk,hc,hw,hA,hl,hkn2,h,h',e6,hk160,hT]
theorem Pe {was now:LI} (h:now.length=160):(EU was now 160).take 160=now:=by
 unfold EU;rw[List.take_of_length_le (l:=now) (by omega),List.take_append_of_le_length (by omega),List.take_of_length_le (by omega)]
theorem HW [PKI] (hCU: ∀l:LI,l.length<=1048576->sG 58 [.v (.im 1 (enc fU l))]=some ⟨[.v (.own 1 (enc fU l))],[],[]⟩) (s:BG) (m:Ay) (hs:slS s) (hm:mtS m):sG 66 [.a (AD (fSl s)),.a (AD (fM m))]=some ⟨[.a (AA (fSl (Br s m)))],[],[]⟩:=by
 refine sK p66 ?_;have e1:=LA hCU s m 160 160 (by decide) hs hm;have e2:=L3 s hs;have e3:=Ce m hm;have hn:=En s m;simp only[AD,lent,fM,fSl,List.map]at e1 e2 e3;unfold Br;unfold I2 at e1;have hmp:Jr s m=(BU m&& !decide ((Af s).2.1=1000000)):=rfl;generalize Jr s m=mp at*;generalize (Af s)=q at*;obtain⟨q1,q2,q3⟩:=q;simp only at hmp
 cases hk:BU m
 ·simp only[hk,Bool.false_and]at hmp;subst hmp;simp only[Bool.false_eq_true,if_false]at e1 ⊢;simp[p66,  e1,e2,e3,hk]
 by_cases hc:q2=1000000
 ·simp only[hk,hc,decide_true,Bool.not_true,Bool.and_false]at hmp;subst hmp;simp only[Bool.false_eq_true,if_false]at e1 ⊢;simp[p66,  e1,e2,e3,hk,hc]
 simp only[hk,hc,decide_false,Bool.not_false,Bool.and_true]at hmp;subst hmp;simp only[if_true]at e1 ⊢;have hT: ∀was:LI,(enc fU (EU was (G4 s m) 160)).take 160=enc fU (G4 s m):=λwas=>by
  have:=Pe (was:=was) hn;simpa only[enc,List.map_take]using congrArg (List.map fU) this
 have hL: ∀was:LI,160<=(EU was (G4 s m) 160).length:=λwas=>by
  have:=congrArg List.length (Pe (was:=was) hn);rw[List.length_take,hn]at this;omega
 generalize G4 s m=nb at*
 cases hA:isA s
 ·have h1:=hT s.a;have h2:=hL s.a;simp only[hA,Bool.false_eq_true,if_false]at e1 ⊢;generalize EU s.a nb 160=tb at*;simp[p66,  e1,e2,e3,hk,hc,hA,h1,h2]
 ·have h1:=hT s.b;have h2:=hL s.b;simp only[hA,if_true]at e1 ⊢;generalize EU s.b nb 160=tb at*;simp[p66,  e1,e2,e3,hk,hc,hA,h1,h2]
structure A2 where
 kind:Int
 cell:Int
 val:Int
 who:Int
 gens:LI
 deriving Inhabited,DecidableEq
structure Bz where
 src:Int
 dst:Int
 msg:A2
 deriving Inhabited,DecidableEq
structure CD where
 kind:Int
 a:Int
 b:Int
 deriving Inhabited,DecidableEq
@[simp] def fMs (m:A2):List T:=[.sc (I6 m.kind),.sc (I6 m.cell),.sc (I6 m.val),.sc (I6 m.who),.sl 1 (enc fI m.gens)]
@[simp] def fP (p:Bz):List T:=[.sc (I6 p.src),.sc (I6 p.dst),.sc (I6 p.msg.kind),.sc (I6 p.msg.cell),.sc (I6 p.msg.val),.sc (I6 p.msg.who),.sl 1 (enc fI p.msg.gens)]
@[simp] def fD (d:CD):List T:=[.sc (I6 d.kind),.sc (I6 d.a),.sc (I6 d.b)]
def ins (l:LI) (a:Int):LI:=l.takeWhile (λx=>decide (x<a))++a::l.dropWhile (λx=>decide (x<a))
def C5 (l:LI) (a:Int):LI:=if decide (a∈l)|| !inB a 0 7 then l else ins l a
theorem TW {l:LI} {a:Int} {k:Nat} (hk:k<=l.length) (hp: ∀j,j<k->l.getD j 0<a) (hkn:k=l.length\/k<l.length/\ ¬l.getD k 0<a):l.take k++[a]++l.drop k=ins l a:=by
 unfold ins
 induction l generalizing k with
 |nil=>simp
 |cons x l ih=>
  cases k with
  |zero=>
   have h: ¬x<a:=by
    rcases hkn with h|h
    ·simp at h
    ·simpa using h.2
   simp[List.takeWhile,List.dropWhile,h]
  |succ k=>
   have h:x<a:=by simpa using hp 0 (by omega)
   have:=ih (k:=k) (by simpa using hk) (λj hj=>by simpa using hp (j+1) (by omega)) (by
    rcases hkn with h|h
    ·left;simpa using h
    ·right;simpa using h)
   simp only[List.takeWhile,List.dropWhile,h,decide_true,List.take_succ_cons,List.drop_succ_cons,List.cons_append]at this ⊢;rw[this]
theorem UY (l:LI) (a:Int):(ins l a).length=l.length+1:=by
 unfold ins;have h:=congrArg List.length (List.takeWhile_append_dropWhile (p:=λx=>decide (x<a)) (l:=l));rw[List.length_append]at h;simp only[List.length_append,List.length_cons];omega
theorem Ki (l:LI) (a:Int):(C5 l a).length<=l.length+1:=by
 unfold C5;split
 ·omega
 ·rw[UY];omega
theorem Gi {α:Type} {f:α->List T} {l:List α} {k:Nat} (h:An (enc f (l.take k))=true):An (List.take k (enc f l))=true:=by simpa only[enc,List.map_take]using h
theorem Iq {α:Type} {f:α->List T} {l:List α} {k:Nat} (h:An (enc f (l.drop k))=true):An (List.drop k (enc f l))=true:=by simpa only[enc,List.map_drop]using h
@[simp] def st184 (l:LI) (a:Int) (j:Nat):St:={n:=46,m:=0,tm:=[(0,.im 1 (enc fI l)),(1,.sc (I6 a)),(5,.sc (I6 j))],ob:=[]}
theorem LH [PKI] (l:LI) (a:Int) (hl:l.length<=1048575):sG 184 [.v (.im 1 (enc fI l)),.v (.sc (I6 a))]=some ⟨[.v (.own 1 (enc fI (C5 l a)))],[],[]⟩:=by
 have e1:=Cq l a (by omega);have e2:=Ao a 0 7;have g0:l.length<=4398046511104:=by omega
 have g1:l.length*8<=35184372088832:=by omega
 refine sK p184 ?_;unfold C5;by_cases hm:a∈l
 ·simp[p184,  e1,hm,g0,g1]
 cases hi:inB a 0 7
 ·simp[p184,  e1,e2,hm,hi,g0,g1]
 obtain⟨k,hk,hp,hkn⟩:=first (λj=>l.getD j 0<a) l.length;have g3:k<=4398046511104:=by omega
 have g4:k*8<=35184372088832:=by omega
 have g5:(k+1)*8<=35184372088832:=by omega
 have g6:(k+1+(l.length - k))*8<=35184372088832:=by omega
 have hft:An (List.take k (enc fI l))=true:=Gi (OE _);have hfd:An (List.drop k (enc fI l))=true:=Iq (OE _);have hend:k<l.length-> ¬l.getD k 0<a:=λh=>by
  rcases hkn with rfl|⟨_,h2⟩
  ·omega
  ·exact h2
 rw[<-TW hk hp hkn];have hsz:= @lok _ 10000000 [0,1,5] b184_0 (λj=>st184 l a j) k (λj hj=>by
  have hj2:j<l.length:=by omega
  have hinc:=Ar hj2 (by omega);have hlt:=hp j hj;rw[List.getD_eq_getElem?_getD,List.getElem?_eq_getElem hj2]at hlt;simp only[Option.getD_some]at hlt;simp[b184_0,  hj2,hinc,hlt]) (by
  by_cases hkl:k<l.length
  ·have h2:=hend hkl;rw[List.getD_eq_getElem?_getD,List.getElem?_eq_getElem hkl]at h2;simp only[Option.getD_some]at h2;simp[b184_0,  hkl,h2]
  ·simp[b184_0,  hkl])
 simp[p184,  e1,e2,hm,hi];rw[hsz]
 ·by_cases hkl:k<l.length
  ·have h2:=hend hkl;rw[List.getD_eq_getElem?_getD,List.getElem?_eq_getElem hkl]at h2;simp only[Option.getD_some]at h2;simp[b184_0,  hkl,h2,hk,g3,g4,g5,g6,hft,hfd];simp[enc,List.map_take,List.map_drop]
  ·simp[b184_0,  hkl,hk,g3,g4,g5,g6,hft,hfd];simp[enc,List.map_take,List.map_drop]
 ·simp
 ·simp
def clr (l:LI) (a:Int):LI:=l.filter λx=> !decide (x=a)
theorem Xk (l:LI) (a:Int) {j:Nat} (hj:j<l.length):clr (l.take (j+1)) a=if l[j]=a then clr (l.take j) a else clr (l.take j) a++[l[j]]:=by
 have e:l.take (j+1)=l.take j++[l[j]]:=by rw[List.take_add_one,List.getElem?_eq_getElem hj];rfl
 unfold clr;rw[e,List.filter_append];by_cases h:l[j]=a
 ·rw[if_pos h];simp[h]
 ·rw[if_neg h];congr 1;simp[h]
theorem F6 (l:LI) (a:Int):(clr l a).length<=l.length:=List.length_filter_le _ _
@[simp] def st253 (l:LI) (a:Int) (out:LI) (j:Nat):St:={n:=28,m:=0,tm:=[(0,.im 1 (enc fI l)),(1,.sc (I6 a)),(5,.ref 10000000 []),(6,.sc (I6 j))],ob:=[(10000000,.arr 1 (enc fI out))]}
theorem II [PKI] (l:LI) (a:Int) (hl:l.length<=1048576):sG 253 [.v (.im 1 (enc fI l)),.v (.sc (I6 a))]=some ⟨[.v (.own 1 (enc fI (clr l a)))],[],[]⟩:=by
 refine sK p253 ?_;have hsz:= @lok _ 10000000 [0,1,5,6] b253_0 (λj=>st253 l a (clr (l.take j) a) j) l.length (λj hj=>by
  have hinc:=Ar hj hl;have hlen:=F6 (l.take j) a;rw[List.length_take]at hlen;have hsuc:=Xk l a hj;simp only[hsuc];generalize clr (l.take j) a=out at hlen ⊢;have g:out.length+1<=4398046511104:=by omega
  have g2:(out.length+1)*8<=35184372088832:=by omega
  by_cases hx:l[j]=a
  ·simp[b253_0,  hj,hinc,hx]
  ·simp[b253_0,  hj,hinc,hx,g,g2];exact AU fI out [l[j]]) (by simp[b253_0])
 have hfull:l.take l.length=l:=List.take_length;simp[p253];rw[hsz]
 ·simp[b253_0,hfull]
 ·simp
 ·simp[clr]
def uni (a b:LI):LI:=(a++b).foldl C5 []
theorem Ga (l:LI): ∀o:LI,(l.foldl C5 o).length<=o.length+l.length:=by
 induction l with
 |nil=>intro o;simp
 |cons x l ih=>
  intro o;have:=ih (C5 o x);have:=Ki o x;simp only[List.foldl_cons,List.length_cons];omega
theorem Bi {α β:Type} (f:β->α->β) (o:β) (l:List α) {j:Nat} {x:α} (h:l[j]? =some x):(l.take (j+1)).foldl f o=f ((l.take j).foldl f o) x:=by rw[List.take_add_one,h,List.foldl_append];rfl
@[simp] def st289_1 (a b:LI) (out:LI) (j:Nat):St:={n:=34,m:=0,tm:=[(0,.im 1 (enc fI a)),(1,.im 1 (enc fI b)),(5,.ref 10000000 []),(6,.sc (I6 j))],ob:=[(10000000,.arr 1 (enc fI out))]}
@[simp] def st289_0 (b:LI) (out:LI) (j:Nat):St:={n:=34,m:=0,tm:=[(1,.im 1 (enc fI b)),(5,.ref 10000200 []),(7,.sc (I6 j))],ob:=[(10000200,.arr 1 (enc fI out))]}
theorem XY [PKI] (a b:LI) (ha:a.length<=500000) (hb:b.length<=500000):sG 289 [.v (.im 1 (enc fI a)),.v (.im 1 (enc fI b))]=some ⟨[.v (.own 1 (enc fI (uni a b)))],[],[]⟩:=by
 refine sK p289 ?_;have h1:= @lok _ 10000000 [0,1,5,6] b289_1 (λj=>st289_1 a b ((a.take j).foldl C5 []) j) a.length (λj hj=>by
  obtain⟨x,hx⟩:=AF hj;obtain⟨_,hx'⟩:=BT hx;have hinc:=Ar hj (by omega);have hl:=Ga (a.take j) [];simp only[List.length_take,List.length_nil]at hl;simp only[Bi C5 [] a hx];generalize (a.take j).foldl C5 []=o at hl ⊢;have e:=LH o x (by omega);simp[b289_1,  hj,hx',hinc,e]) (by simp[b289_1])
 have h0:= @lok _ 10000200 [1,5,7] b289_0 (λj=>st289_0 b ((b.take j).foldl C5 (a.foldl C5 [])) j) b.length (λj hj=>by
  obtain⟨x,hx⟩:=AF hj;obtain⟨_,hx'⟩:=BT hx;have hinc:=Ar hj (by omega);have hl0:=Ga a [];have hl:=Ga (b.take j) (a.foldl C5 []);simp only[List.length_take,List.length_nil]at hl hl0;simp only[Bi C5 _ b hx];generalize (b.take j).foldl C5 (a.foldl C5 [])=o at hl ⊢;have e:=LH o x (by omega);simp[b289_0,  hj,hx',hinc,e]) (by simp[b289_0])
 have hu:uni a b=(b.foldl C5 (a.foldl C5 [])):=by unfold uni;rw[List.foldl_append]
 rw[hu];simp[p289];rw[h1]
 ·simp[b289_1];rw[h0]
  ·simp[b289_0]
  ·simp
  ·simp
 ·simp
 ·simp
theorem DJ {α:Type} {l:List α} {j:Nat} {x:α} (h:l[j]? =some x):l.take (j+1)=l.take j++[x]:=by rw[List.take_add_one,h];rfl
@[simp] def st222 (m:Ay) (j:Nat):St:=
 if j=0 then {n:=32,m:=0,tm:=[(1,.pb 10000000 0),(2,.pb 10000001 0),(3,.pb 10000002 0),(4,.sc (I6 j))],ob:=[(10000000,Qp m),(10000001,.box [.nil 1,.nil 1,.sc (.bool false),.sc (.bool false),.sc (.bool false),.sc (I6 0)]),(10000002,.box [.ref 10000003 [],.nil 1,.sc (.bool m.fine),.sc (.bool m.old),.sc (.bool m.held),.sc (I6 m.last)]),(10000003,.arr 1 (enc fI m.gens))]}
 else {n:=32,m:=0,tm:=[(1,.pb 10000000 0),(2,.pb 10000001 0),(3,.pb 10000002 0),(4,.sc (I6 j))],ob:=[(10000000,Qp m),(10000001,.box [.nil 1,.nil 1,.sc (.bool false),.sc (.bool false),.sc (.bool false),.sc (I6 0)]),(10000002,.box [.ref 10000003 [],.ref 10000004 [],.sc (.bool m.fine),.sc (.bool m.old),.sc (.bool m.held),.sc (I6 m.last)]),(10000003,.arr 1 (enc fI m.gens)),(10000004,.arr 1 (enc fII (m.bits.take j)))]}
theorem Cc [PKI] (m:Ay) (hm:mtS m):sG 222 [.a (AD (fM m))]=some ⟨[.a (AA (fM m))],[],[]⟩:=by
 refine sK p222 ?_;obtain⟨hg,hb,hbb⟩:=hm;have g1:m.gens.length<=4398046511104:=by omega
 have g2:m.gens.length*8<=35184372088832:=by omega
 have hs:= @lok _ 10000000 [1,2,3,4] b222_0 (st222 m) m.bits.length (λj hj=>by
  obtain⟨x,y1,hx,hx',_,hxm⟩:=Ah m.bits hj;have hinc:=Ar hj hb;have hxl:=hbb x hxm;have g3:x.length<=4398046511104:=by omega
  have g4:x.length*8<=35184372088832:=by omega
  have g5:(j+1)*24<=35184372088832:=by omega
  have hmin:min j m.bits.length=j:=by omega
  have hsn:=DJ hx;have hen:enc fII (List.take (j+1) m.bits)=enc fII (List.take j m.bits)++[[T.sl 1 (enc fI x)]]:=by rw[hsn];simp[enc]
  by_cases h0:j=0
  ·subst h0;simp at hx' hinc;simp[b222_0,  hj,hx',g3,g4,hinc];simpa using hen.symm
  ·simp[b222_0,  hj,hx',g3,g4,g5,hmin,hinc,h0,hen]) (by
  by_cases h0:m.bits.length=0
  ·simp[b222_0,h0]
  ·simp[b222_0,h0])
 simp[p222,  g1,g2];rw[hs]
 ·by_cases h0:m.bits.length=0
  ·have:m.bits=[]:=List.eq_nil_of_length_eq_zero h0;simp[b222_0,this]
  ·simp[b222_0,h0]
 ·simp
 ·simp
def Dd (i:Int):Int:=if inB i 0 1 then 1 - i else -1
theorem DQ [PKI] (i:Int):sG 218 [.v (.sc (I6 i))]=some ⟨[.v (.sc (I6 (Dd i)))],[],[]⟩:=by
 refine sK p218 ?_;have e:=Ao i 0 1;unfold Dd
 cases h:inB i 0 1
 ·simp[p218,  e,h]
 ·have h1:=AP.1 h;have hw:IntKind.wrap .i64 (1 - i)=1 - i:=AC (by omega) (by omega);simp[p218,  e,h,hw]
def CE (g:LI) (n:Int):LI:=if Dj ((n::g).take 12)then(n::g).take 12 else g
theorem HU [PKI] (g:LI) (n:Int) (hg:g.length<=1000000):sG 185 [.v (.im 1 (enc fI g)),.v (.sc (I6 n))]=some ⟨[.v (.own 1 (enc fI (CE g n)))],[],[]⟩:=by
 refine sK p185 ?_;have g1:g.length<=4398046511104:=by omega
 have g2:g.length*8<=35184372088832:=by omega
 have g3:(1+g.length)*8<=35184372088832:=by omega
 have e:=Fe ((n::g).take 12) (by rw[List.length_take];omega);unfold CE;have hen:enc fI ((n::g).take 12)=([.sc (I6 n)]::enc fI g).take 12:=by rw[<-Ax];rfl
 have hf:An (List.take 12 ([.sc (I6 n)]::enc fI g))=true:=by rw[<-hen];exact OE _
 rw[hen]at e;by_cases hl:11<g.length
 ·have h1: ¬ (g.length:Int)+1<=12:=by omega
  have h2:(12:Int)<(g.length:Int)+1:=by omega
  have h3:min 12 (g.length+1)=12:=by omega
  have h4:min 11 g.length=11:=by omega
  have h5:11<=g.length:=by omega
  simp at e hf
  cases hk:Dj ((n::g).take 12)<;>simp at hk<;>simp[p185,  g1,g2,g3,h2,h3,h4,h5,e,hk,hf]
  rw[Ax]
 ·have h2: ¬ (12:Int)<(g.length:Int)+1:=by omega
  have h5:g.take 11=g:=List.take_of_length_le (by omega);have h6:(enc fI g).take 11=enc fI g:=List.take_of_length_le (by rw[Bx];omega);simp[h5,h6]at e hf
  cases hk:Dj ((n::g).take 12)<;>simp[h5]at hk<;>simp[p185,  g1,g2,g3,h2,e,hk,hf,h5]
def Fz (a b:LI):Int:=if a.getD 0 0=b.getD 0 0 then 0 else if b.getD 0 0∈a then 1 else if a.getD 0 0∈b then 2 else 3
theorem PT [PKI] (a b:LI) (ha:0<a.length) (hb:0<b.length) (la:a.length<=1048576) (lb:b.length<=1048576):sG 288 [.v (.im 1 (enc fI a)),.v (.im 1 (enc fI b))]=some ⟨[.v (.sc (I6 (Fz a b)))],[],[]⟩:=by
 refine sK p288 ?_;obtain⟨x,y1,hx,hx',hxd⟩:=AK a ha;obtain⟨y,y2,hy,hy',hyd⟩:=AK b hb;have e1:=Cq a y la;have e2:=Cq b x lb;have n1: ¬ (a.length=0):=by omega
 have n2: ¬ (b.length=0):=by omega
 have n3:a≠[]:=List.length_pos_iff.1 ha;have n4:b≠[]:=List.length_pos_iff.1 hb;unfold Fz;rw[hxd,hyd];by_cases h1:x=y
 ·simp[p288,  ha,hb,n1,n2,n3,n4,hx',hy',h1]
 by_cases h2:y∈a
 ·simp[p288,  ha,hb,n1,n2,n3,n4,hx',hy',h1,e1,h2]
 by_cases h3:x∈b<;>simp[p288,  ha,hb,n1,n2,n3,n4,hx',hy',h1,e1,e2,h2,h3]
@[simp] def zbox:Obj:= .box [.sc (I6 0),.sc (.bool false),.sc (.bool false),.nil 1,.nil 1,.nil 1,.sc (.bool false),.sc (.bool false),.sc (.bool false),.sc (I6 0),.nil 1,.nil 1,.nil 1,.nil 1,.nil 1,.nil 1]
@[simp] def st178 (n:AE) (j:Nat):St:=
 if j=0 then {n:=55,m:=0,tm:=[(1,.pb 10000000 0),(2,.pb 10000001 0),(3,.pb 10000002 0),(4,.sc (I6 j))],ob:=[(10000000,PJ n),(10000001,zbox),(10000002,.box [.sc (I6 n.id),.sc (.bool n.up),.sc (.bool n.prime),.ref 10000003 [],.ref 10000004 [],.ref 10000005 [],.sc (.bool n.mt.fine),.sc (.bool n.mt.old),.sc (.bool n.mt.held),.sc (I6 n.mt.last),.ref 10000006 [],.ref 10000007 [],.ref 10000008 [],.nil 1,.ref 10000009 [],.ref 10000010 []]),(10000003,.arr 1 (enc fI n.image)),(10000004,.arr 1 (enc fI n.mt.gens)),(10000005,.arr 1 (enc fII n.mt.bits)),(10000006,.arr 1 (enc fU n.sl.a)),(10000007,.arr 1 (enc fU n.sl.b)),(10000008,.arr 1 (enc fL n.conn)),(10000009,.arr 1 (enc fL n.copies)),(10000010,.arr 1 (enc fI n.wait))]}
 else {n:=55,m:=0,tm:=[(1,.pb 10000000 0),(2,.pb 10000001 0),(3,.pb 10000002 0),(4,.sc (I6 j))],ob:=[(10000000,PJ n),(10000001,zbox),(10000002,.box [.sc (I6 n.id),.sc (.bool n.up),.sc (.bool n.prime),.ref 10000003 [],.ref 10000004 [],.ref 10000005 [],.sc (.bool n.mt.fine),.sc (.bool n.mt.old),.sc (.bool n.mt.held),.sc (I6 n.mt.last),.ref 10000006 [],.ref 10000007 [],.ref 10000008 [],.ref 10000009 [],.ref 10000010 [],.ref 10000011 []]),(10000003,.arr 1 (enc fI n.image)),(10000004,.arr 1 (enc fI n.mt.gens)),(10000005,.arr 1 (enc fII n.mt.bits)),(10000006,.arr 1 (enc fU n.sl.a)),(10000007,.arr 1 (enc fU n.sl.b)),(10000008,.arr 1 (enc fL n.conn)),(10000009,.arr 1 (enc fII (n.sync.take j))),(10000010,.arr 1 (enc fL n.copies)),(10000011,.arr 1 (enc fI n.wait))]}
theorem B5 [PKI] (n:AE) (hn:nS n):sG 178 [.a (AD (fN n))]=some ⟨[.a (AA (fN n))],[],[]⟩:=by
 refine sK p178 ?_;have e1:=Cc n.mt hn.mt;have e2:=L4 n.sl hn.sl.1.1 hn.sl.2.1;simp only[AD,lent,fM,fSl,AA,AJ]at e1 e2;obtain⟨hb,hbb⟩:=hn.sync;have a1:=hn.image;have a2:=hn.conn;have a3:=hn.copies;have a4:=hn.wait;have g1:n.image.length<=4398046511104:=by omega
 have g2:n.image.length*8<=35184372088832:=by omega
 have g3:n.conn.length<=35184372088832:=by omega
 have g4:n.copies.length<=35184372088832:=by omega
 have g5:n.wait.length<=4398046511104:=by omega
 have g6:n.wait.length*8<=35184372088832:=by omega
 have hs:= @lok _ 10000000 [1,2,3,4] b178_0 (st178 n) n.sync.length (λj hj=>by
  obtain⟨x,y1,hx,hx',_,hxm⟩:=Ah n.sync hj;have hinc:=Ar hj hb;have hxl:=hbb x hxm;have g3:x.length<=4398046511104:=by omega
  have g4:x.length*8<=35184372088832:=by omega
  have g5:(j+1)*24<=35184372088832:=by omega
  have hmin:min j n.sync.length=j:=by omega
  have hsn:=DJ hx;have hen:enc fII (List.take (j+1) n.sync)=enc fII (List.take j n.sync)++[[T.sl 1 (enc fI x)]]:=by rw[hsn];simp[enc]
  by_cases h0:j=0
  ·subst h0;simp at hx' hinc;simp[b178_0,  hj,hx',g3,g4,hinc];simpa using hen.symm
  ·simp[b178_0,  hj,hx',g3,g4,g5,hmin,hinc,h0,hen]) (by
  by_cases h0:n.sync.length=0
  ·simp[b178_0,h0]
  ·simp[b178_0,h0])
 simp[p178,  g1,g2,g3,g4,g5,g6,e1,e2];rw[hs]
 ·by_cases h0:n.sync.length=0
  ·have:n.sync=[]:=List.eq_nil_of_length_eq_zero h0;simp[b178_0,this]
  ·simp[b178_0,h0]
 ·simp
 ·simp
end Go.Proofs.YtghgecpicnfgpaaGreat.Ow
