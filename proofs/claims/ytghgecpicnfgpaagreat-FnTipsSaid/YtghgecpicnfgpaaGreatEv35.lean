/- Functions evaluated on the small machine: A list backwards; the cells that a list of writes leaves: evaluated, The cells that a list of writes leaves: evaluated, The writes behind a write: evaluated, Rows drawn to be played, and what is played, Lines of writes: depths, what lies within. -/
import Derived.Test.YtghgecpicnfgpaaGreatEv8
import Derived.Test.YtghgecpicnfgpaaGreatEv29
import Derived.Test.YtghgecpicnfgpaaGreatEv32
import Derived.Test.YtghgecpicnfgpaaGreatEv30
import Derived.Test.YtghgecpicnfgpaaGreatEv34
import Derived.Test.YtghgecpicnfgpaaGreatEv33
import Derived.Test.YtghgecpicnfgpaaGreatEv11
namespace Go.Proofs.YtghgecpicnfgpaaGreat.Ow
open Go
set_option linter.unusedVariables false
set_option linter.unusedSimpArgs false
set_option maxHeartbeats 16000000
def rv (l:LI):Nat->LI
 |0=>l
 |i+1=>((rv l i).set i (l.getD (l.length - 1 - i) 0)).set (l.length - 1 - i) (l.getD i 0)
theorem Qd (l:LI): ∀i,(rv l i).length=l.length
 |0=>rfl
 |i+1=>by simp[rv,Qd l i]
theorem Qe (l:LI): ∀i,2*i<=l.length-> ∀p,p<l.length->(rv l i)[p]? =if p<i\/l.length - i<=p then l[l.length - 1 - p]? else l[p]?
 |0,_,p,hp=>by simp[rv];omega
 |i+1,hi,p,hp=>by
  have ih:=Qe l i (by omega) p hp;simp only[rv,List.getElem?_set,List.length_set,Qd];by_cases h1:l.length - 1 - i=p
  ·subst h1;rw[if_pos rfl,if_pos (by omega),if_pos (by omega),show l.length - 1 - (l.length - 1 - i)=i by omega,List.getD_eq_getElem?_getD,List.getElem?_eq_getElem (by omega)];rfl
  ·rw[if_neg h1];by_cases h2:i=p
   ·subst h2;rw[if_pos rfl,if_pos (by omega),if_pos (by omega),List.getD_eq_getElem?_getD,List.getElem?_eq_getElem (by omega)];rfl
   ·rw[if_neg h2,ih];by_cases h3:p<i\/l.length - i<=p
    ·rw[if_pos h3,if_pos (by omega)]
    ·rw[if_neg h3,if_neg (by omega)]
theorem rv_end (l:LI):rv l (l.length / 2)=l.reverse:=by
 apply List.ext_getElem?;intro p;rcases Nat.lt_or_ge p l.length with hp|hp
 ·rw[Qe l _ (by omega) p hp,List.getElem?_reverse hp];split
  ·rfl
  ·have:l.length - 1 - p=p:=by omega
   rw[this]
 ·rw[List.getElem?_eq_none (by rw[Qd];exact hp),List.getElem?_eq_none (by simpa using hp)]
@[simp] def st54 (l:LI) (j:Nat):St:={n:=28,m:=1,tm:=[(0,.ref 0 []),(2,.sc (I6 j)),(3,.sc (I6 ((l.length:Int) - 1 - j)))],ob:=[(0,.arr 1 (enc fI (rv l j)))]}
theorem Tu [PKI] (l:LI) (hl:l.length<=1048576):sG 54 [.v (.own 1 (enc fI l))]=some ⟨[],[some (enc fI l.reverse)],[]⟩:=by
 refine sK p54 ?_;have hw:IntKind.wrap .i64 ((l.length:Int) - 1)=l.length - 1:=AC (by omega) (by omega);have hstep: ∀j,j<l.length / 2-> ∃s',xG b54_0 (st54 l j)=some (.normal,s')/\s'.m<=10000000/\Aa 10000000 [0,2,3] s'=st54 l (j+1):=λj hj=>by
  have h1:(j:Int)<(l.length:Int) - 1 - j:=by omega
  have h2:(l.length:Int) - 1 - j=((l.length - 1 - j:Nat):Int):=by omega
  have hw1:IntKind.wrap .i64 (((l.length - 1 - j:Nat):Int) - 1)=(l.length:Int) - 1 - ((j:Int)+1):=by rw[AC (by omega) (by omega)];omega
  have h3:(j:Int)<((l.length - 1 - j:Nat):Int):=by omega
  have h3':j<l.length - 1 - j:=by omega
  have g1:(rv l j)[j]? =l[j]? :=by rw[Qe l j (by omega) j (by omega),if_neg (by omega)]
  have g2:(rv l j)[l.length - 1 - j]? =l[l.length - 1 - j]? :=by rw[Qe l j (by omega) _ (by omega),if_neg (by omega)]
  obtain⟨x,hx⟩:=AF (l:=l) (i:=j) (by omega);obtain⟨y,hy⟩:=AF (l:=l) (i:=l.length - 1 - j) (by omega);obtain⟨a1,a2⟩:=BT (g1.trans hx);obtain⟨b1,b2⟩:=BT (g2.trans hy);have e1:=A3 fI (rv l j) j y;have e2:=A3 fI ((rv l j).set j y) (l.length - 1 - j) x;simp only[fI]at e1 e2;have hlen:=Qd l j;have hrv:((rv l j).set j y).set (l.length - 1 - j) x=rv l (j+1):=by
   simp only[rv,List.getD_eq_getElem?_getD,hx,hy,Option.getD_some]
  have hj1:j<l.length:=by omega
  have hj2:l.length - 1 - j<l.length:=by omega
  have hne: ¬j=l.length - 1 - j:=by omega
  have bb3:((rv l j).set j y)[l.length - 1 - j]'(by simp;omega)=y:=by rw[List.getElem_set,if_neg hne];exact b2
  simp only[st54,h2];simp[b54_0,h1,h3,h3',hw1,a2,b2,bb3,e1,e2,hrv,hlen,hj1,hj2,Ar hj1 hl]
 have hend: ¬ ((l.length / 2:Nat):Int)<(l.length:Int) - 1 - (l.length / 2:Nat):=by omega
 have hsz:= @lok _ 10000000 [0,2,3] b54_0 (st54 l) (l.length / 2) hstep (by
  simp only[st54];generalize ((l.length / 2:Nat):Int)=z at hend;simp[b54_0,hend])
 simp[p54,hw];rw[hsz]
 ·simp only[st54];rw[rv_end];generalize ((l.length / 2:Nat):Int)=z at hend;simp[b54_0,hend]
 ·simp
 ·simp[rv]
def CF (log:List Dw) (n:Int):Int:=(log.getD (n - 1).toNat zR).up
def CS (log:List Dw):Nat->Int->LI
 |0,_=>[]
 |f+1,n=>n::(if 1<=CF log n/\CF log n<n then CS log f (CF log n)else [])
def chain (log:List Dw) (n:Int):LI:=if 1<=n/\n<=log.length then(CS log n.toNat n).reverse else []
theorem Es (log:List Dw): ∀ (f:Nat) (n:Int),1<=n->n.toNat<=f->(CS log f n)[0]? =some n/\(CS log f n).length<=n.toNat/\
  ∀ (j:Nat) x,(CS log f n)[j]? =some x->1<=x/\x<=n/\((1<=CF log x/\CF log x<x/\(CS log f n)[j+1]? =some (CF log x))\/(¬ (1<=CF log x/\CF log x<x)/\j+1=(CS log f n).length))
 |0,n,h1,h2=>by omega
 |f+1,n,h1,h2=>by
  by_cases hu:1<=CF log n/\CF log n<n
  ·obtain⟨g1,g2,g3⟩:=Es log f (CF log n) hu.1 (by omega);have hc:CS log (f+1) n=n::CS log f (CF log n):=by simp only[CS];rw[if_pos hu]
   rw[hc];refine⟨rfl,by simp only[List.length_cons];omega,λj x hx=> ?_⟩
   cases j with
   |zero=>
    simp only[List.getElem?_cons_zero,Option.some.injEq]at hx;subst hx;exact⟨h1,Int.le_refl _,.inl ⟨hu.1,hu.2,by simpa using g1⟩⟩
   |succ j=>
    simp only[List.getElem?_cons_succ]at hx;obtain⟨k1,k2,k3⟩:=g3 j x hx;refine⟨k1,by omega,?_⟩;rcases k3 with ⟨k3,k4,k5⟩|⟨k3,k4⟩
    ·exact .inl ⟨k3,k4,by simpa using k5⟩
    ·exact .inr ⟨k3,by simp only[List.length_cons];omega⟩
  ·have hc:CS log (f+1) n=[n]:=by simp only[CS];rw[if_neg hu]
   rw[hc];refine⟨rfl,by simp;omega,λj x hx=> ?_⟩
   cases j with
   |zero=>
    simp only[List.getElem?_cons_zero,Option.some.injEq]at hx;subst hx;exact⟨h1,Int.le_refl _,.inr ⟨hu,rfl⟩⟩
   |succ j=>simp at hx
theorem D6 (log:List Dw) (n:Int):(chain log n).length<=log.length:=by
 unfold chain;split
 ·rename_i h;obtain⟨_,h2,_⟩:=Es log n.toNat n h.1 (Nat.le_refl _);simp only[List.length_reverse];omega
 ·simp
theorem up_at (log:List Dw) {x:Int} (h1:1<=x) (h2:x<=log.length): ∃ (i:Nat) (hi:i<log.length),x - 1=i/\(log[i]).up=CF log x:=by
 refine⟨(x - 1).toNat,by omega,by omega,?_⟩;unfold CF;rw[List.getD_eq_getElem?_getD,List.getElem?_eq_getElem (by omega)];rfl
@[simp] def st33 (w:AB) (c:LI) (j:Nat):St:={n:=35,m:=0,tm:=[(1,.sc (I6 (c.getD j 0))),(2,.pb 10000000 0),(5,.ref 10000001 [])],ob:=[(10000000,Ey w),(10000001,.arr 1 (enc fI (c.take j)))]}
theorem Ct [PKI] (w:AB) (n:Int) (hlog:w.log.length<=1048576):sG 33 [.a (AD (fWo w)),.v (.sc (I6 n))]=some ⟨[.v (.own 1 (enc fI (chain w.log n)))],[],[]⟩:=by
 refine sK p33 ?_;have e1:=BF n 1 w.log.length;by_cases h:1<=n/\n<=w.log.length
 ·have h1:inB n 1 w.log.length=true:=by unfold inB;simp;omega
  rw[h1]at e1;obtain⟨g1,g2,g3⟩:=Es w.log n.toNat n h.1 (Nat.le_refl _);have hch:chain w.log n=(CS w.log n.toNat n).reverse:=by unfold chain;rw[if_pos h]
  rw[hch];generalize CS w.log n.toNat n=c at g1 g2 g3 ⊢;have hcl:0<c.length:=by cases c with|nil=>simp at g1|cons a l=>simp
  have hget: ∀j,j<c.length-> ∃x,c[j]? =some x/\c.getD j 0=x:=λj hj=>⟨c[j],List.getElem?_eq_getElem hj,by simp[List.getD_eq_getElem?_getD,hj]⟩
  have hround: ∀j x,c[j]? =some x-> ∃ (i:Nat) (r:Dw) (hi:i<w.log.length),IntKind.wrap .i64 (x - 1)=i/\w.log[i]=r/\r.up=CF w.log x:=λj x hx=>by
   obtain⟨k1,k2,_⟩:=g3 j x hx;obtain⟨i,hi,h1,h2⟩:=up_at w.log k1 (by omega);exact⟨i,w.log[i],hi,by rw[h1];exact AC (by omega) (by omega),rfl,h2⟩
  have hbd: ∀j,j<c.length->(j+1)*8<=35184372088832:=λj hj=>by omega
  have hstep: ∀j,j<c.length - 1-> ∃s',xG b33_0 (st33 w c j)=some (.normal,s')/\s'.m<=10000000/\Aa 10000000 [1,2,5] s'=st33 w c (j+1):=λj hj=>by
   obtain⟨x,hx,hxd⟩:=hget j (by omega);obtain⟨i,r,hi,hw,hr,hu⟩:=hround j x hx;obtain⟨k1,k2,k3⟩:=g3 j x hx;rcases k3 with ⟨k3,k4,k5⟩|⟨k3,k4⟩
   case inr=>omega
   have hd1:c.getD (j+1) 0=CF w.log x:=by simp[List.getD_eq_getElem?_getD,k5]
   have e2:=BF (CF w.log x) 1 (x - 1);have h2:inB (CF w.log x) 1 (x - 1)=true:=by unfold inB;simp;omega
   rw[h2]at e2;have hw2:IntKind.wrap .i64 (x - 1)=x - 1:=AC (by omega) (by omega);have hix:(i:Int)=x - 1:=by rw[<-hw,hw2]
   rw[<-hix]at e2;have htk:enc fI (c.take j)++[[T.sc (I6 x)]]=enc fI (c.take (j+1)):=by rw[List.take_add_one,hx];simp[enc]
   have hlt:(c.take j).length=j:=by simp;omega
   have hb:=hbd j (by omega);simp only[st33,hxd,hd1];simp[b33_0,  hw,hi,hr,hu,e2,htk,hlt,hb]
  obtain⟨x,hx,hxd⟩:=hget (c.length - 1) (by omega);obtain⟨i,r,hi,hw,hr,hu⟩:=hround _ x hx;obtain⟨k1,k2,k3⟩:=g3 _ x hx;have k3: ¬ (1<=CF w.log x/\CF w.log x<x):=by
   rcases k3 with ⟨k3,k4,k5⟩|⟨k3,k4⟩
   ·have:=(List.getElem?_eq_some_iff.1 k5).1;omega
   ·exact k3
  have e2:=BF (CF w.log x) 1 (x - 1);have h2:inB (CF w.log x) 1 (x - 1)=false:=by unfold inB;simp;omega
  rw[h2]at e2;have hw2:IntKind.wrap .i64 (x - 1)=x - 1:=AC (by omega) (by omega);have hix:(i:Int)=x - 1:=by rw[<-hw,hw2]
  rw[<-hix]at e2;have htk:enc fI (c.take (c.length - 1))++[[T.sc (I6 x)]]=enc fI c:=by
   have h3:c.take (c.length - 1+1)=c:=by rw[show c.length - 1+1=c.length by omega];exact List.take_length
   rw[List.take_add_one,hx]at h3
   conv=>rhs;rw[<-h3]
   simp[enc]
  have hlt:(c.take (c.length - 1)).length=c.length - 1:=by simp
  have hb:=hbd (c.length - 1) (by omega);have hn0:c.getD 0 0=n:=by simp[List.getD_eq_getElem?_getD,g1]
  have hbody: ∃s',xG b33_0 (st33 w c (c.length - 1))=some (.exit 0,s'):=by
   simp only[st33,hxd];simp[b33_0,  hw,hi,hr,hu,e2,htk,hlt,hb]
  have hsz:= @lok _ 10000000 [1,2,5] b33_0 (st33 w c) (c.length - 1) hstep (by
   obtain⟨s',hs'⟩:=hbody;exact⟨_,s',hs',by simp⟩)
  have e3:=Tu c (by omega);simp[p33,  e1];rw[hsz]
  ·simp only[st33,hxd];simp[b33_0,  hw,hi,hr,hu,e2,htk,hlt,hb,e3]
  ·simp
  ·simp[g1]
 ·have h1:inB n 1 w.log.length=false:=by unfold inB;simp;omega
  rw[h1]at e1;have hch:chain w.log n=[]:=by unfold chain;rw[if_neg h]
  rw[hch];simp[p33,  e1]
def nx (log:List Dw) (c:LI) (j:Nat):Int:=if j<c.length then c.getD j 0 else CF log (c.getD (c.length - 1) 0)
@[simp] def st44 (w:AB) (c:LI) (j:Nat):St:={n:=37,m:=0,tm:=[(1,.sc (I6 (nx w.log c j))),(2,.pb 10000000 0),(5,.ref 10000001 [])],ob:=[(10000000,Ey w),(10000001,.arr 1 (enc fI (c.take j).reverse))]}
theorem Ei [PKI] (w:AB) (n:Int) (hlog:w.log.length<=1048576):sG 44 [.a (AD (fWo w)),.v (.sc (I6 n))]=some ⟨[.v (.own 1 (enc fI (chain w.log n)))],[],[]⟩:=by
 refine sK p44 ?_;by_cases h:1<=n/\n<=w.log.length
 ·obtain⟨g1,g2,g3⟩:=Es w.log n.toNat n h.1 (Nat.le_refl _);have hch:chain w.log n=(CS w.log n.toNat n).reverse:=by unfold chain;rw[if_pos h]
  rw[hch];generalize CS w.log n.toNat n=c at g1 g2 g3 ⊢;have hcl:0<c.length:=by cases c with|nil=>simp at g1|cons a l=>simp
  have hget: ∀j,j<c.length-> ∃x,c[j]? =some x/\nx w.log c j=x:=λj hj=>⟨c[j],List.getElem?_eq_getElem hj,by unfold nx;rw[if_pos hj];simp[List.getD_eq_getElem?_getD,hj]⟩
  have hround: ∀j x,c[j]? =some x-> ∃ (i:Nat) (r:Dw) (hi:i<w.log.length),IntKind.wrap .i64 (x - 1)=i/\w.log[i]=r/\r.up=CF w.log x/\0<x/\x<=w.log.length:=λj x hx=>by
   obtain⟨k1,k2,_⟩:=g3 j x hx;obtain⟨i,hi,h1,h2⟩:=up_at w.log k1 (by omega);exact⟨i,w.log[i],hi,by rw[h1];exact AC (by omega) (by omega),rfl,h2,by omega,by omega⟩
  have hbd: ∀j,j<c.length->(1+j)*8<=35184372088832:=λj hj=>by omega
  have htk: ∀j x,c[j]? =some x->[T.sc (I6 x)]::enc fI (c.take j).reverse=enc fI (c.take (j+1)).reverse:=λj x hx=>by rw[List.take_add_one,hx];simp
  have hlt: ∀j,j<c.length->(c.take j).length=j:=λj hj=>by simp;omega
  have hone: ∀j x,c[j]? =some x->CF w.log x<x->nx w.log c (j+1)=CF w.log x-> ∃s',xG b44_0 (st44 w c j)=some (.normal,s')/\s'.m<=10000000/\Aa 10000000 [1,2,5] s'=st44 w c (j+1):=λj x hx hlo hnx=>by
   have hj:j<c.length:=(List.getElem?_eq_some_iff.1 hx).1;obtain⟨x',hx2,hxd⟩:=hget j hj;have:x'=x:=by rw[hx]at hx2;exact(Option.some.inj hx2).symm
   subst this;obtain⟨i,r,hi,hw,hr,hu,hp,hp2⟩:=hround j x' hx;have hb:=hbd j hj;have ht:=htk j x' hx;have hl:=hlt j hj;have hge: ¬CF w.log x' ≥ x':=by omega
   simp only[st44,hxd,hnx];simp[b44_0,  hp,hp2,hw,hi,hr,hu,hge,ht,hl,hb,Nat.min_eq_left (Nat.le_of_lt hj)]
  obtain⟨x,hx,hxd⟩:=hget (c.length - 1) (by omega);obtain⟨k1,k2,k3⟩:=g3 _ x hx;have k3: ¬ (1<=CF w.log x/\CF w.log x<x):=by
   rcases k3 with ⟨k3,k4,k5⟩|⟨k3,k4⟩
   ·have:=(List.getElem?_eq_some_iff.1 k5).1;omega
   ·exact k3
  have hn0:nx w.log c 0=n:=by unfold nx;rw[if_pos hcl];simp[List.getD_eq_getElem?_getD,g1]
  have hmid: ∀j,j<c.length - 1-> ∃s',xG b44_0 (st44 w c j)=some (.normal,s')/\s'.m<=10000000/\Aa 10000000 [1,2,5] s'=st44 w c (j+1):=λj hj=>by
   obtain⟨y,hy,hyd⟩:=hget j (by omega);obtain⟨q1,q2,q3⟩:=g3 j y hy;rcases q3 with ⟨q3,q4,q5⟩|⟨q3,q4⟩
   ·refine hone j y hy q4 ?_;unfold nx;rw[if_pos (by omega)];simp[List.getD_eq_getElem?_getD,q5]
   ·omega
  have hall:c.take c.length=c:=List.take_length;by_cases hge:CF w.log x ≥ x
  ·obtain⟨i,r,hi,hw,hr,hu,hp,hp2⟩:=hround _ x hx;have hb:=hbd (c.length - 1) (by omega);have ht:=htk _ x hx;rw[show c.length - 1+1=c.length by omega,hall]at ht;have hl:=hlt (c.length - 1) (by omega);have hbody: ∃s',xG b44_0 (st44 w c (c.length - 1))=some (.exit 0,s'):=by
    simp only[st44,hxd];simp[b44_0,  hp,hp2,hw,hi,hr,hu,hge,ht,hl,hb]
   have hsz:= @lok _ 10000000 [1,2,5] b44_0 (st44 w c) (c.length - 1) hmid (by
    obtain⟨s',hs'⟩:=hbody;exact⟨_,s',hs',by simp⟩)
   simp[p44];rw[hsz]
   ·simp only[st44,hxd];simp[b44_0,  hp,hp2,hw,hi,hr,hu,hge,ht,hl,hb]
   ·simp
   ·simp[hn0]
  ·have hnl:nx w.log c c.length=CF w.log x:=by
    have h1:c.getD (c.length - 1) 0=x:=by rw[List.getD_eq_getElem?_getD,hx];rfl
    unfold nx;rw[if_neg (by omega),h1]
   have hle: ¬ 0<CF w.log x:=by omega
   have hsz:= @lok _ 10000000 [1,2,5] b44_0 (st44 w c) c.length (λj hj=>by
    by_cases h2:j<c.length - 1
    ·exact hmid j h2
    ·have:j=c.length - 1:=by omega
     subst this;refine hone _ x hx (by omega) ?_;rw[show c.length - 1+1=c.length by omega];exact hnl) (by
    simp only[st44,hnl];simp[b44_0,hle])
   simp[p44];rw[hsz]
   ·simp only[st44,hnl,hall];simp[b44_0,hle]
   ·simp
   ·simp[hn0]
 ·have hch:chain w.log n=[]:=by unfold chain;rw[if_neg h]
  rw[hch];have hend: ∃s',xG b44_0 {n:=37,m:=0,tm:=[(1,.sc (I6 n)),(2,.pb 10000000 0),(5,.ref 10000001 [])],ob:=[(10000000,Ey w),(10000001,.arr 1 [])]}=some (.exit 0,s'):=by
   by_cases h0:0<n
   ·have h2: ¬n<=w.log.length:=by omega
    simp[b44_0,h0,h2]
   ·simp[b44_0,h0]
  have hsz:= @lok _ 10000000 [1,2,5] b44_0 (λ_=>{n:=37,m:=0,tm:=[(1,.sc (I6 n)),(2,.pb 10000000 0),(5,.ref 10000001 [])],ob:=[(10000000,Ey w),(10000001,.arr 1 [])]}) 0 (λj hj=>absurd hj (by omega)) (by
   obtain⟨s',hs'⟩:=hend;exact⟨_,s',hs',by simp⟩)
  simp[p44];rw[hsz]
  ·by_cases h0:0<n
   ·have h2: ¬n<=w.log.length:=by omega
    simp[b44_0,h0,h2]
   ·simp[b44_0,h0]
  ·simp
  ·simp
theorem Vd [PKI] (x:LI) (a b:Nat) (hx:x.length<=1048576) (ha:a<=1000) (hb:b<=1000): ∃n:Nat,n<=b/\sG 40 [.v (.im 1 (enc fU x)),.v (.sc (I6 a)),.v (.sc (I6 b))]=some ⟨[.v (.sc (I6 n))],[],[]⟩:=by
 obtain⟨q,hq⟩: ∃q:Nat,q=x.length / 4:=⟨_,rfl⟩;have h4:((x.length:Int)).tdiv 4=(q:Int):=by rw[hq];rfl
 have w1:IntKind.wrap .i64 (q:Int)=(q:Int):=AC (by omega) (by omega);obtain⟨s,hs⟩: ∃s:Nat,s=a+q:=⟨_,rfl⟩;have w2:IntKind.wrap .i64 ((a:Int)+q)=(s:Int):=by rw[AC (by omega) (by omega)];omega
 by_cases h:b<s
 ·have h':(b:Int)<s:=by omega
  refine⟨b,Nat.le_refl _,sK p40 ?_⟩;simp[p40,  h4,w1,w2,h,h']
 ·have h': ¬ (b:Int)<s:=by omega
  refine⟨s,by omega,sK p40 ?_⟩;simp[p40,  h4,w1,w2,h,h']
theorem ev_DrawPlayed [PKI] (x:LI) (hb:byt x): ∃l:List CD,l.length<=1000/\sG 10 [.v (.im 1 (enc fU x))]=some ⟨[.v (.own 3 (enc fD l))],[],[]⟩:=by
 obtain⟨c,hc,e1⟩:=SX x hb;obtain⟨n,hn,e2⟩:=Vd x 110 200 hb.1 (by omega) (by omega);obtain⟨l,w,c',hl,hw,hc',e3⟩:=JK x c n hb hc (by omega);rw[show ((110:Nat):Int)=110 from rfl,show ((200:Nat):Int)=200 from rfl]at e2;refine⟨l,hl,sK p10 ?_⟩;simp only[cur,AA,AJ,fWo]at e1 e2 e3;simp[p10,  e1,e2,e3]
theorem doAllW_ok {w:AB} {l:List CD} (h1:Ap w=true) (h2:wS w):Ap (ME w l).1=true/\wS (ME w l).1:=by
 unfold ME;split
 ·exact⟨h1,h2⟩
 ·obtain⟨a1,a2,_⟩:=daF_I (l:=l) (s:=(w,[])) h1 h2;exact⟨a1,a2⟩
theorem bit1 (f:Bool):bit f 1=0\/bit f 1=1:=by cases f<;>simp[bit]
theorem HE [PKI] (b:LI) (hb:byt b): ∃w a n,DW w/\(-1<=a/\a<=3000)/\sG 43 [.v (.im 1 (enc fU b))]=some ⟨[.a (AA (fWo w)),.v (.sc (I6 a)),.v (.sc (I6 n))],[],[]⟩:=by
 obtain⟨c,hc,e0⟩:=SX b hb;obtain⟨w,c1,hw,k1,e1⟩:=To b c hb hc;have hl:=hw.log;have hwl:IntKind.wrap .i64 ((w.log.length:Int)+2)=w.log.length+2:=AC (by omega) (by omega);obtain⟨x,c2,hx,_,k2,e2⟩:=AO b c1 (w.log.length+2) hb k1 (by omega);have hx:=hx (by omega);obtain⟨f,c3,k3,e3⟩:=DT b c2 2 hb k2 (by omega);have e4:=Dm f;have hf:=bit1 f;obtain⟨y,c4,_,_,k4,e5⟩:=AO b c3 (w.log.length+2) hb k3 (by omega);simp only[cur,AA,AJ,fWo]at e0 e1 e2 e3 e5;generalize bit f 1=q at*;have w1:IntKind.wrap .i64 (x - 1)=x - 1:=AC (by omega) (by omega);have w2:IntKind.wrap .i64 (x - 1+q)=x - 1+q:=AC (by omega) (by omega);refine⟨w,x - 1+q,y,hw,by omega,sK p43 ?_⟩;simp (maxSteps:=9999999) [p43,  e0,e1,e2,e3,e4,e5,hwl,w1,w2]
theorem ev_DrawDepth [PKI] (b:LI) (hb:byt b): ∃w n,DW w/\sG 13 [.v (.im 1 (enc fU b))]=some ⟨[.a (AA (fWo w)),.v (.sc (I6 n))],[],[]⟩:=by
 obtain⟨w,a,n,hw,ha,e⟩:=HE b hb;simp only[AA,AJ,fWo]at e;refine⟨w,a,hw,sK p13 ?_⟩;simp (maxSteps:=9999999) [p13,  e]
theorem ev_DrawWithin [PKI] (b:LI) (hb:byt b): ∃w n m,DW w/\sG 14 [.v (.im 1 (enc fU b))]=some ⟨[.a (AA (fWo w)),.v (.sc (I6 n)),.v (.sc (I6 m))],[],[]⟩:=by
 obtain⟨w,a,n,hw,ha,e⟩:=HE b hb;simp only[AA,AJ,fWo]at e;refine⟨w,a,n,hw,sK p14 ?_⟩;simp (maxSteps:=9999999) [p14,  e]
theorem ev_impl_Depth [PKI] (w:AB) (n:Int) (hl:w.log.length<=1048576):sG 15 [.a (AD (fWo w)),.v (.sc (I6 n))]=some ⟨[.v (.sc (I6 (chain w.log n).length))],[],[]⟩:=by
 refine sK p15 ?_;have e:=Ct w n hl;simp only[AD,lent,fWo]at e;simp[p15,  e]
theorem ev_spec_Depth [PKI] (w:AB) (n:Int) (hl:w.log.length<=1048576):sG 16 [.a (AD (fWo w)),.v (.sc (I6 n))]=some ⟨[.v (.sc (I6 (chain w.log n).length))],[],[]⟩:=by
 refine sK p16 ?_;have e:=Ei w n hl;simp only[AD,lent,fWo]at e;simp[p16,  e]
theorem XT [PKI] (w:AB) (n m:Int) (hl:w.log.length<=1048576):sG 17 [.a (AD (fWo w)),.v (.sc (I6 n)),.v (.sc (I6 m))]=some ⟨[.v (.sc (.bool (decide (n∈chain w.log m))))],[],[]⟩:=by
 refine sK p17 ?_;have e:=Ct w m hl;have e2:=BQ (chain w.log m) n (by have:=D6 w.log m;omega);simp only[AD,lent,fWo]at e;generalize chain w.log m=c at*;simp[p17,  e,e2]
theorem H7 [PKI] (w:AB) (n m:Int) (hl:w.log.length<=1048576):sG 18 [.a (AD (fWo w)),.v (.sc (I6 n)),.v (.sc (I6 m))]=some ⟨[.v (.sc (.bool (decide (n∈chain w.log m))))],[],[]⟩:=by
 refine sK p18 ?_;have e:=Ei w m hl;have e2:=Cq (chain w.log m) n (by have:=D6 w.log m;omega);simp only[AD,lent,fWo]at e;generalize chain w.log m=c at*;simp[p18,  e,e2]
theorem Sn (log:List Dw): ∀ (f:Nat) (n:Int),1<=n->n.toNat<=f->CS log f n=CS log n.toNat n:=by
 intro f
 induction f using Nat.strongRecOn with
 |ind f ih=>
  intro n h1 h2;obtain⟨m,hm⟩: ∃m,n.toNat=m+1:=⟨n.toNat - 1,by omega⟩;obtain⟨k,rfl⟩: ∃k,f=k+1:=⟨f - 1,by omega⟩;rw[hm];simp only[CS];by_cases hu:1<=CF log n/\CF log n<n
  ·rw[if_pos hu,if_pos hu];exact congrArg (n:: ·) ((ih k (by omega) (CF log n) hu.1 (by omega)).trans (ih m (by omega) (CF log n) hu.1 (by omega)).symm)
  ·rw[if_neg hu,if_neg hu]
theorem Gn {log:List Dw} {n:Int} (h: ¬ (1<=n/\n<=log.length)):chain log n=[]:=by unfold chain;rw[if_neg h]
theorem Oz {log:List Dw} {n:Int} (h1:1<=n) (h2:n<=log.length) (h3:0<=CF log n) (h4:CF log n<n):chain log n=chain log (CF log n)++[n]:=by
 obtain⟨m,hm⟩: ∃m,n.toNat=m+1:=⟨n.toNat - 1,by omega⟩;have hc:chain log n=(CS log (m+1) n).reverse:=by unfold chain;rw[if_pos ⟨h1,h2⟩,hm]
 rw[hc];simp only[CS,List.reverse_cons];by_cases hu:1<=CF log n
 ·rw[if_pos ⟨hu,h4⟩];unfold chain;rw[if_pos ⟨hu,by omega⟩,Sn log m _ hu (by omega)]
 ·rw[if_neg (λh=>hu h.1),Gn (λh=>hu h.1)];rfl
theorem Iv {log:List Dw} {n x:Int} (h:x∈chain log n):1<=x/\x<=n:=by
 unfold chain at h;split at h
 ·rename_i hn;obtain⟨_,_,h3⟩:=Es log n.toNat n hn.1 (Nat.le_refl _);obtain⟨j,hj⟩:=List.getElem?_of_mem (List.mem_reverse.1 h);obtain⟨a,b,_⟩:=h3 j x hj;exact⟨a,b⟩
 ·cases h
theorem Sy {w:AB} (h:Ap w=true) {j:Nat} (hj:j<w.log.length): ∃r:Dw,w.log[j]? =some r/\w.log[j]? =some (w.log.getD j zR)/\CF w.log ((j:Int)+1)=r.up/\0<=r.up/\r.up<(j:Int)+1:=by
 unfold Ap at h;simp only[Bool.and_eq_true]at h;have h1:=Am h.1.1.2 hj;unfold Lc at h1;simp only[Bool.and_eq_true]at h1;have r:=AP.1 h1.2;obtain⟨x,_,hx,hx',hd,_⟩:=AX w.log zR hj;rw[hd]at r;refine⟨x,hx,by rw[hd];exact hx,?_,r.1,by omega⟩;unfold CF;rw[show ((j:Int)+1 - 1).toNat=j by omega,hd]
end Go.Proofs.YtghgecpicnfgpaaGreat.Ow
