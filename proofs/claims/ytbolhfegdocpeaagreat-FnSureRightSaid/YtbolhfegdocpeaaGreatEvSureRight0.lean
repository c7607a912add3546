/- Functions evaluated on the small machine: A list backwards; the cells that a list of writes leaves: evaluated, The cells that a list of writes leaves: evaluated, The writes behind a write: evaluated. -/
import Derived.Test.YtbolhfegdocpeaaGreatEv8
namespace Go.Proofs.YtbolhfegdocpeaaGreat.Ow
open Go
set_option linter.unusedVariables false
set_option linter.unusedSimpArgs false
variable {PK:Nat->List Arg->Option Res}
def rv (l:List Int):Nat->List Int
 |0=>l
 |i+1=>((rv l i).set i (l.getD (l.length - 1 - i) 0)).set (l.length - 1 - i) (l.getD i 0)
theorem rv_len (l:List Int): ∀i,(rv l i).length=l.length
 |0=>rfl
 |i+1=>by simp[rv,rv_len l i]
theorem rv_get (l:List Int): ∀i,2*i<=l.length-> ∀p,p<l.length->(rv l i)[p]? =if p<i\/l.length - i<=p then l[l.length - 1 - p]? else l[p]?
 |0,_,p,hp=>by simp[rv];omega
 |i+1,hi,p,hp=>by
  have ih:=rv_get l i (by omega) p hp
  simp only[rv,List.getElem?_set,List.length_set,rv_len]
  by_cases h1:l.length - 1 - i=p
  ·subst h1
   rw[if_pos rfl,if_pos (by omega),if_pos (by omega),show l.length - 1 - (l.length - 1 - i)=i by omega,List.getD_eq_getElem?_getD,List.getElem?_eq_getElem (by omega)]
   rfl
  ·rw[if_neg h1]
   by_cases h2:i=p
   ·subst h2
    rw[if_pos rfl,if_pos (by omega),if_pos (by omega),List.getD_eq_getElem?_getD,List.getElem?_eq_getElem (by omega)]
    rfl
   ·rw[if_neg h2,ih]
    by_cases h3:p<i\/l.length - i<=p
    ·rw[if_pos h3,if_pos (by omega)]
    ·rw[if_neg h3,if_neg (by omega)]
theorem rv_end (l:List Int):rv l (l.length / 2)=l.reverse:=by
 apply List.ext_getElem?
 intro p
 rcases Nat.lt_or_ge p l.length with hp|hp
 ·rw[rv_get l _ (by omega) p hp,List.getElem?_reverse hp]
  split
  ·rfl
  ·have:l.length - 1 - p=p:=by omega
   rw[this]
 ·rw[List.getElem?_eq_none (by rw[rv_len];exact hp),List.getElem?_eq_none (by simpa using hp)]
@[simp] def st93 (l:List Int) (j:Nat):St:={n:=28,m:=1,tm:=[(0,.ref 0 []),(2,.sc (.int .i64 j)),(3,.sc (.int .i64 ((l.length:Int) - 1 - j)))],ob:=[(0,.arr 1 (enc fI (rv l j)))]}
theorem ev_Reverse (l:List Int) (hl:l.length<=1048576):semK G PK md 93 [.v (.own 1 (enc fI l))]=some ⟨[],[some (enc fI l.reverse)],[]⟩:=by
 refine semK_of (pf:=p93) rfl (by simp[p93]) ?_
 have hw:IntKind.wrap .i64 ((l.length:Int) - 1)=l.length - 1:=wrap_id (by omega) (by omega)
 have hstep: ∀j,j<l.length / 2-> ∃s',exec (semK G PK md) (semL G PK md) md b93_0 (st93 l j)=some (.normal,s')/\s'.m<=10000000/\canon 10000000 [0,2,3] s'=st93 l (j+1):=fun j hj=>by
  have h1:(j:Int)<(l.length:Int) - 1 - j:=by omega
  have h2:(l.length:Int) - 1 - j=((l.length - 1 - j:Nat):Int):=by omega
  have hw1:IntKind.wrap .i64 (((l.length - 1 - j:Nat):Int) - 1)=(l.length:Int) - 1 - ((j:Int)+1):=by rw[wrap_id (by omega) (by omega)];omega
  have h3:(j:Int)<((l.length - 1 - j:Nat):Int):=by omega
  have h3':j<l.length - 1 - j:=by omega
  have g1:(rv l j)[j]? =l[j]? :=by rw[rv_get l j (by omega) j (by omega),if_neg (by omega)]
  have g2:(rv l j)[l.length - 1 - j]? =l[l.length - 1 - j]? :=by rw[rv_get l j (by omega) _ (by omega),if_neg (by omega)]
  obtain⟨x,hx⟩:=getElem?_of_lt (l:=l) (i:=j) (by omega)
  obtain⟨y,hy⟩:=getElem?_of_lt (l:=l) (i:=l.length - 1 - j) (by omega)
  obtain⟨a1,a2⟩:=at_of (g1.trans hx)
  obtain⟨b1,b2⟩:=at_of (g2.trans hy)
  have e1:=enc_set fI (rv l j) j y
  have e2:=enc_set fI ((rv l j).set j y) (l.length - 1 - j) x
  simp only[fI]at e1 e2
  have hlen:=rv_len l j
  have hrv:((rv l j).set j y).set (l.length - 1 - j) x=rv l (j+1):=by
   simp only[rv,List.getD_eq_getElem?_getD,hx,hy,Option.getD_some]
  have hj1:j<l.length:=by omega
  have hj2:l.length - 1 - j<l.length:=by omega
  have hne: ¬j=l.length - 1 - j:=by omega
  have bb3:((rv l j).set j y)[l.length - 1 - j]'(by simp;omega)=y:=by rw[List.getElem_set,if_neg hne];exact b2
  simp only[st93,h2]
  simp[b93_0,h1,h3,h3',hw1,a2,b2,bb3,e1,e2,hrv,hlen,hj1,hj2,incr hj1 hl]
 have hend: ¬ ((l.length / 2:Nat):Int)<(l.length:Int) - 1 - (l.length / 2:Nat):=by omega
 have hsz:=loop_ok (G:=G) (PK:=PK) (md:=md) (o:=10000000) (live:=[0,2,3]) (c:=b93_0) (st93 l) (l.length / 2) hstep (by
  simp only[st93]
  generalize ((l.length / 2:Nat):Int)=z at hend
  simp[b93_0,hend])
 simp[p93,hw]
 rw[hsz]
 ·simp only[st93]
  rw[rv_end]
  generalize ((l.length / 2:Nat):Int)=z at hend
  simp[b93_0,hend]
 ·simp
 ·simp[rv]
end Go.Proofs.YtbolhfegdocpeaaGreat.Ow
namespace Go.Proofs.YtbolhfegdocpeaaGreat.Ow
open Go
set_option linter.unusedVariables false
set_option linter.unusedSimpArgs false
variable {PK:Nat->List Arg->Option Res}
def rstep (log:List RecD) (m:List Int) (n:Int):List Int:=if 1<=n/\n<=log.length then putAt m (log.getD (n - 1).toNat zR).cell n else m
def replay (log:List RecD) (list:List Int):List Int:=list.foldl (rstep log) (List.replicate 8 0)
theorem rstep_len (log:List RecD) (m:List Int) (n:Int):(rstep log m n).length=m.length:=by unfold rstep;split<;>simp[putAt_len]
theorem fold_len (log:List RecD): ∀ (list:List Int) (m:List Int),(list.foldl (rstep log) m).length=m.length
 |[],m=>rfl
 |n::l,m=>by simp only[List.foldl_cons];rw[fold_len log l,rstep_len]
theorem replay_len (log:List RecD) (list:List Int):(replay log list).length=8:=by unfold replay;rw[fold_len];simp
theorem replay_take (log:List RecD) (list:List Int) {j:Nat} {x:Int} (h:list[j]? =some x):replay log (list.take (j+1))=rstep log (replay log (list.take j)) x:=by
 unfold replay
 rw[List.take_add_one,h]
 simp
@[simp] def st54 (w:WorldD) (l:List Int) (j:Nat):St:={n:=39,m:=0,tm:=[(1,.im 1 (enc fI l)),(2,.pb 10000000 0),(5,.ref 10000001 []),(6,.sc (.int .i64 j))],ob:=[(10000000,wbox w),(10000001,.arr 1 (enc fI (replay w.log (l.take j))))]}
theorem ev_spec_Replay (w:WorldD) (l:List Int) (hl:l.length<=1048576) (hlog:w.log.length<=1048576):semK G PK md 54 [.a (lents (fWo w)),.v (.im 1 (enc fI l))]=some ⟨[.v (.own 1 (enc fI (replay w.log l)))],[],[]⟩:=by
 refine semK_of (pf:=p54) rfl (by simp[p54]) ?_
 have e0:=ev_spec_ImageNew (PK:=PK)
 have hstep: ∀j,j<l.length-> ∃s',exec (semK G PK md) (semL G PK md) md b54_0 (st54 w l j)=some (.normal,s')/\s'.m<=10000000/\canon 10000000 [1,2,5,6] s'=st54 w l (j+1):=fun j hlt=>by
  obtain⟨x,hx⟩:=getElem?_of_lt hlt
  obtain⟨_,hx'⟩:=at_of hx
  have ht:=replay_take w.log l hx
  have e1:=ev_l1In (PK:=PK) x 1 w.log.length
  by_cases h:1<=x/\x<=w.log.length
  ·have h1:inB x 1 w.log.length=true:=by unfold inB;simp;omega
   rw[h1]at e1
   obtain⟨i,hi⟩: ∃i:Nat,x - 1=i:=⟨(x - 1).toNat,by omega⟩
   have hw:IntKind.wrap .i64 (x - 1)=i:=by rw[hi];exact wrap_id (by omega) (by omega)
   have hil:i<w.log.length:=by omega
   obtain⟨r,hr⟩:=getElem?_of_lt hil
   obtain⟨_,hr'⟩:=at_of hr
   have hrs:rstep w.log (replay w.log (l.take j)) x=putAt (replay w.log (l.take j)) r.cell x:=by
    unfold rstep
    rw[if_pos h,hi]
    simp[List.getD_eq_getElem?_getD,hr]
   have e2:=ev_spec_Put (PK:=PK) (replay w.log (l.take j)) r.cell x (by rw[replay_len];omega)
   rw[←hrs,←ht]at e2
   simp[b54_0,md,hlt,hx',incr hlt hl,e1,hw,hil,hr',e2]
  ·have h1:inB x 1 w.log.length=false:=by unfold inB;simp;omega
   rw[h1]at e1
   have hrs:rstep w.log (replay w.log (l.take j)) x=replay w.log (l.take j):=by unfold rstep;rw[if_neg h]
   rw[hrs]at ht
   simp[b54_0,md,hlt,hx',incr hlt hl,e1,ht]
 have hsz:=loop_ok (G:=G) (PK:=PK) (md:=md) (o:=10000000) (live:=[1,2,5,6]) (c:=b54_0) (st54 w l) l.length hstep (by simp[b54_0])
 have h0:replay w.log []=List.replicate 8 0:=rfl
 simp[p54,md,e0]
 rw[hsz]
 ·simp[b54_0]
 ·simp
 ·simp[h0]
@[simp] def st51 (w:WorldD) (l:List Int) (j:Nat):St:={n:=32,m:=0,tm:=[(2,.pb 10000000 0),(5,.ref 10000001 []),(9,.im 1 (enc fI l)),(10,.sc (.int .i64 l.length)),(11,.sc (.int .i64 j))],ob:=[(10000000,wbox w),(10000001,.arr 1 (enc fI (replay w.log (l.take j))))]}
theorem ev_impl_Replay (hC: ∀l:List Int,l.length<=1048576->semK G PK md 135 [.v (.im 1 (enc fI l))]=some ⟨[.v (.own 1 (enc fI l))],[],[]⟩) (w:WorldD) (l:List Int) (hl:l.length<=1048576) (hlog:w.log.length<=1048576):
  semK G PK md 51 [.a (lents (fWo w)),.v (.im 1 (enc fI l))]=some ⟨[.v (.own 1 (enc fI (replay w.log l)))],[],[]⟩:=by
 refine semK_of (pf:=p51) rfl (by simp[p51]) ?_
 have e0:=ev_impl_ImageNew (PK:=PK)
 have hstep: ∀j,j<l.length-> ∃s',exec (semK G PK md) (semL G PK md) md b51_0 (st51 w l j)=some (.normal,s')/\s'.m<=10000000/\canon 10000000 [2,5,9,10,11] s'=st51 w l (j+1):=fun j hlt=>by
  obtain⟨x,hx⟩:=getElem?_of_lt hlt
  obtain⟨_,hx'⟩:=at_of hx
  have ht:=replay_take w.log l hx
  have e1:=ev_from (PK:=PK) x 1 w.log.length
  by_cases h:1<=x/\x<=w.log.length
  ·have h1:inB x 1 w.log.length=true:=by unfold inB;simp;omega
   rw[h1]at e1
   obtain⟨i,hi⟩: ∃i:Nat,x - 1=i:=⟨(x - 1).toNat,by omega⟩
   have hw:IntKind.wrap .i64 (x - 1)=i:=by rw[hi];exact wrap_id (by omega) (by omega)
   have hil:i<w.log.length:=by omega
   obtain⟨r,hr⟩:=getElem?_of_lt hil
   obtain⟨_,hr'⟩:=at_of hr
   have hrs:rstep w.log (replay w.log (l.take j)) x=putAt (replay w.log (l.take j)) r.cell x:=by
    unfold rstep
    rw[if_pos h,hi]
    simp[List.getD_eq_getElem?_getD,hr]
   have e2:=ev_impl_Put (PK:=PK) hC (replay w.log (l.take j)) r.cell x (by rw[replay_len];omega)
   rw[←hrs,←ht]at e2
   simp[b51_0,md,hlt,hx',incr hlt hl,e1,hw,hil,hr',e2]
  ·have h1:inB x 1 w.log.length=false:=by unfold inB;simp;omega
   rw[h1]at e1
   have hrs:rstep w.log (replay w.log (l.take j)) x=replay w.log (l.take j):=by unfold rstep;rw[if_neg h]
   rw[hrs]at ht
   simp[b51_0,md,hlt,hx',incr hlt hl,e1,ht]
 have hsz:=loop_ok (G:=G) (PK:=PK) (md:=md) (o:=10000000) (live:=[2,5,9,10,11]) (c:=b51_0) (st51 w l) l.length hstep (by simp[b51_0])
 have h0:replay w.log []=List.replicate 8 0:=rfl
 simp[p51,md,e0]
 rw[hsz]
 ·simp[b51_0]
 ·simp
 ·simp[h0]
end Go.Proofs.YtbolhfegdocpeaaGreat.Ow
namespace Go.Proofs.YtbolhfegdocpeaaGreat.Ow
open Go
set_option linter.unusedVariables false
set_option linter.unusedSimpArgs false
variable {PK:Nat->List Arg->Option Res}
def upOf (log:List RecD) (n:Int):Int:=(log.getD (n - 1).toNat zR).up
def chainR (log:List RecD):Nat->Int->List Int
 |0,_=>[]
 |f+1,n=>n::(if 1<=upOf log n/\upOf log n<n then chainR log f (upOf log n)else [])
def chain (log:List RecD) (n:Int):List Int:=if 1<=n/\n<=log.length then(chainR log n.toNat n).reverse else []
theorem chainR_spec (log:List RecD): ∀ (f:Nat) (n:Int),1<=n->n.toNat<=f->(chainR log f n)[0]? =some n/\(chainR log f n).length<=n.toNat/\
  ∀ (j:Nat) x,(chainR log f n)[j]? =some x->1<=x/\x<=n/\((1<=upOf log x/\upOf log x<x/\(chainR log f n)[j+1]? =some (upOf log x))\/(¬ (1<=upOf log x/\upOf log x<x)/\j+1=(chainR log f n).length))
 |0,n,h1,h2=>by omega
 |f+1,n,h1,h2=>by
  by_cases hu:1<=upOf log n/\upOf log n<n
  ·obtain⟨g1,g2,g3⟩:=chainR_spec log f (upOf log n) hu.1 (by omega)
   have hc:chainR log (f+1) n=n::chainR log f (upOf log n):=by simp only[chainR];rw[if_pos hu]
   rw[hc]
   refine⟨rfl,by simp only[List.length_cons];omega,fun j x hx=> ?_⟩
   cases j with
   |zero=>
    simp only[List.getElem?_cons_zero,Option.some.injEq]at hx
    subst hx
    exact⟨h1,Int.le_refl _,.inl ⟨hu.1,hu.2,by simpa using g1⟩⟩
   |succ j=>
    simp only[List.getElem?_cons_succ]at hx
    obtain⟨k1,k2,k3⟩:=g3 j x hx
    refine⟨k1,by omega,?_⟩
    rcases k3 with ⟨k3,k4,k5⟩|⟨k3,k4⟩
    ·exact .inl ⟨k3,k4,by simpa using k5⟩
    ·exact .inr ⟨k3,by simp only[List.length_cons];omega⟩
  ·have hc:chainR log (f+1) n=[n]:=by simp only[chainR];rw[if_neg hu]
   rw[hc]
   refine⟨rfl,by simp;omega,fun j x hx=> ?_⟩
   cases j with
   |zero=>
    simp only[List.getElem?_cons_zero,Option.some.injEq]at hx
    subst hx
    exact⟨h1,Int.le_refl _,.inr ⟨hu,rfl⟩⟩
   |succ j=>simp at hx
theorem chain_len (log:List RecD) (n:Int):(chain log n).length<=log.length:=by
 unfold chain
 split
 ·rename_i h
  obtain⟨_,h2,_⟩:=chainR_spec log n.toNat n h.1 (Nat.le_refl _)
  simp only[List.length_reverse]
  omega
 ·simp
theorem up_at (log:List RecD) {x:Int} (h1:1<=x) (h2:x<=log.length): ∃ (i:Nat) (hi:i<log.length),x - 1=i/\(log[i]).up=upOf log x:=by
 refine⟨(x - 1).toNat,by omega,by omega,?_⟩
 unfold upOf
 rw[List.getD_eq_getElem?_getD,List.getElem?_eq_getElem (by omega)]
 rfl
@[simp] def st52 (w:WorldD) (c:List Int) (j:Nat):St:={n:=35,m:=0,tm:=[(1,.sc (.int .i64 (c.getD j 0))),(2,.pb 10000000 0),(5,.ref 10000001 [])],ob:=[(10000000,wbox w),(10000001,.arr 1 (enc fI (c.take j)))]}
theorem ev_impl_Chain (w:WorldD) (n:Int) (hlog:w.log.length<=1048576):semK G PK md 52 [.a (lents (fWo w)),.v (.sc (.int .i64 n))]=some ⟨[.v (.own 1 (enc fI (chain w.log n)))],[],[]⟩:=by
 refine semK_of (pf:=p52) rfl (by simp[p52]) ?_
 have e1:=ev_from (PK:=PK) n 1 w.log.length
 by_cases h:1<=n/\n<=w.log.length
 ·have h1:inB n 1 w.log.length=true:=by unfold inB;simp;omega
  rw[h1]at e1
  obtain⟨g1,g2,g3⟩:=chainR_spec w.log n.toNat n h.1 (Nat.le_refl _)
  have hch:chain w.log n=(chainR w.log n.toNat n).reverse:=by unfold chain;rw[if_pos h]
  rw[hch]
  generalize chainR w.log n.toNat n=c at g1 g2 g3 ⊢
  have hcl:0<c.length:=by cases c with|nil=>simp at g1|cons a l=>simp
  have hget: ∀j,j<c.length-> ∃x,c[j]? =some x/\c.getD j 0=x:=fun j hj=>⟨c[j],List.getElem?_eq_getElem hj,by simp[List.getD_eq_getElem?_getD,hj]⟩
  have hround: ∀j x,c[j]? =some x-> ∃ (i:Nat) (r:RecD) (hi:i<w.log.length),IntKind.wrap .i64 (x - 1)=i/\w.log[i]=r/\r.up=upOf w.log x:=fun j x hx=>by
   obtain⟨k1,k2,_⟩:=g3 j x hx
   obtain⟨i,hi,h1,h2⟩:=up_at w.log k1 (by omega)
   exact⟨i,w.log[i],hi,by rw[h1];exact wrap_id (by omega) (by omega),rfl,h2⟩
  have hbd: ∀j,j<c.length->(j+1)*8<=35184372088832:=fun j hj=>by omega
  have hstep: ∀j,j<c.length - 1-> ∃s',exec (semK G PK md) (semL G PK md) md b52_0 (st52 w c j)=some (.normal,s')/\s'.m<=10000000/\canon 10000000 [1,2,5] s'=st52 w c (j+1):=fun j hj=>by
   obtain⟨x,hx,hxd⟩:=hget j (by omega)
   obtain⟨i,r,hi,hw,hr,hu⟩:=hround j x hx
   obtain⟨k1,k2,k3⟩:=g3 j x hx
   rcases k3 with ⟨k3,k4,k5⟩|⟨k3,k4⟩
   case inr=>omega
   have hd1:c.getD (j+1) 0=upOf w.log x:=by simp[List.getD_eq_getElem?_getD,k5]
   have e2:=ev_from (PK:=PK) (upOf w.log x) 1 (x - 1)
   have h2:inB (upOf w.log x) 1 (x - 1)=true:=by unfold inB;simp;omega
   rw[h2]at e2
   have hw2:IntKind.wrap .i64 (x - 1)=x - 1:=wrap_id (by omega) (by omega)
   have hix:(i:Int)=x - 1:=by rw[←hw,hw2]
   rw[←hix]at e2
   have htk:enc fI (c.take j)++[[T.sc (.int .i64 x)]]=enc fI (c.take (j+1)):=by rw[List.take_add_one,hx];simp[enc]
   have hlt:(c.take j).length=j:=by simp;omega
   have hb:=hbd j (by omega)
   simp only[st52,hxd,hd1]
   simp[b52_0,md,hw,hi,hr,hu,e2,htk,hlt,hb]
  obtain⟨x,hx,hxd⟩:=hget (c.length - 1) (by omega)
  obtain⟨i,r,hi,hw,hr,hu⟩:=hround _ x hx
  obtain⟨k1,k2,k3⟩:=g3 _ x hx
  have k3: ¬ (1<=upOf w.log x/\upOf w.log x<x):=by
   rcases k3 with ⟨k3,k4,k5⟩|⟨k3,k4⟩
   ·have:=(List.getElem?_eq_some_iff.1 k5).1
    omega
   ·exact k3
  have e2:=ev_from (PK:=PK) (upOf w.log x) 1 (x - 1)
  have h2:inB (upOf w.log x) 1 (x - 1)=false:=by unfold inB;simp;omega
  rw[h2]at e2
  have hw2:IntKind.wrap .i64 (x - 1)=x - 1:=wrap_id (by omega) (by omega)
  have hix:(i:Int)=x - 1:=by rw[←hw,hw2]
  rw[←hix]at e2
  have htk:enc fI (c.take (c.length - 1))++[[T.sc (.int .i64 x)]]=enc fI c:=by
   have h3:c.take (c.length - 1+1)=c:=by rw[show c.length - 1+1=c.length by omega];exact List.take_length
   rw[List.take_add_one,hx]at h3
   conv=>rhs;rw[←h3]
   simp[enc]
  have hlt:(c.take (c.length - 1)).length=c.length - 1:=by simp
  have hb:=hbd (c.length - 1) (by omega)
  have hn0:c.getD 0 0=n:=by simp[List.getD_eq_getElem?_getD,g1]
  have hbody: ∃s',exec (semK G PK md) (semL G PK md) md b52_0 (st52 w c (c.length - 1))=some (.exit 0,s'):=by
   simp only[st52,hxd]
   simp[b52_0,md,hw,hi,hr,hu,e2,htk,hlt,hb]
  have hsz:=loop_ok (G:=G) (PK:=PK) (md:=md) (o:=10000000) (live:=[1,2,5]) (c:=b52_0) (st52 w c) (c.length - 1) hstep (by
   obtain⟨s',hs'⟩:=hbody
   exact⟨_,s',hs',by simp⟩)
  have e3:=ev_Reverse (PK:=PK) c (by omega)
  simp[p52,md,e1]
  rw[hsz]
  ·simp only[st52,hxd]
   simp[b52_0,md,hw,hi,hr,hu,e2,htk,hlt,hb,e3]
  ·simp
  ·simp[g1]
 ·have h1:inB n 1 w.log.length=false:=by unfold inB;simp;omega
  rw[h1]at e1
  have hch:chain w.log n=[]:=by unfold chain;rw[if_neg h]
  rw[hch]
  simp[p52,md,e1]
def nx (log:List RecD) (c:List Int) (j:Nat):Int:=if j<c.length then c.getD j 0 else upOf log (c.getD (c.length - 1) 0)
@[simp] def st55 (w:WorldD) (c:List Int) (j:Nat):St:={n:=37,m:=0,tm:=[(1,.sc (.int .i64 (nx w.log c j))),(2,.pb 10000000 0),(5,.ref 10000001 [])],ob:=[(10000000,wbox w),(10000001,.arr 1 (enc fI (c.take j).reverse))]}
theorem ev_spec_Chain (w:WorldD) (n:Int) (hlog:w.log.length<=1048576):semK G PK md 55 [.a (lents (fWo w)),.v (.sc (.int .i64 n))]=some ⟨[.v (.own 1 (enc fI (chain w.log n)))],[],[]⟩:=by
 refine semK_of (pf:=p55) rfl (by simp[p55]) ?_
 by_cases h:1<=n/\n<=w.log.length
 ·obtain⟨g1,g2,g3⟩:=chainR_spec w.log n.toNat n h.1 (Nat.le_refl _)
  have hch:chain w.log n=(chainR w.log n.toNat n).reverse:=by unfold chain;rw[if_pos h]
  rw[hch]
  generalize chainR w.log n.toNat n=c at g1 g2 g3 ⊢
  have hcl:0<c.length:=by cases c with|nil=>simp at g1|cons a l=>simp
  have hget: ∀j,j<c.length-> ∃x,c[j]? =some x/\nx w.log c j=x:=fun j hj=>⟨c[j],List.getElem?_eq_getElem hj,by unfold nx;rw[if_pos hj];simp[List.getD_eq_getElem?_getD,hj]⟩
  have hround: ∀j x,c[j]? =some x-> ∃ (i:Nat) (r:RecD) (hi:i<w.log.length),IntKind.wrap .i64 (x - 1)=i/\w.log[i]=r/\r.up=upOf w.log x/\0<x/\x<=w.log.length:=fun j x hx=>by
   obtain⟨k1,k2,_⟩:=g3 j x hx
   obtain⟨i,hi,h1,h2⟩:=up_at w.log k1 (by omega)
   exact⟨i,w.log[i],hi,by rw[h1];exact wrap_id (by omega) (by omega),rfl,h2,by omega,by omega⟩
  have hbd: ∀j,j<c.length->(1+j)*8<=35184372088832:=fun j hj=>by omega
  have htk: ∀j x,c[j]? =some x->[T.sc (.int .i64 x)]::enc fI (c.take j).reverse=enc fI (c.take (j+1)).reverse:=fun j x hx=>by rw[List.take_add_one,hx];simp
  have hlt: ∀j,j<c.length->(c.take j).length=j:=fun j hj=>by simp;omega
  have hone: ∀j x,c[j]? =some x->upOf w.log x<x->nx w.log c (j+1)=upOf w.log x-> ∃s',exec (semK G PK md) (semL G PK md) md b55_0 (st55 w c j)=some (.normal,s')/\s'.m<=10000000/\canon 10000000 [1,2,5] s'=st55 w c (j+1):=fun j x hx hlo hnx=>by
   have hj:j<c.length:=(List.getElem?_eq_some_iff.1 hx).1
   obtain⟨x',hx2,hxd⟩:=hget j hj
   have:x'=x:=by rw[hx]at hx2;exact(Option.some.inj hx2).symm
   subst this
   obtain⟨i,r,hi,hw,hr,hu,hp,hp2⟩:=hround j x' hx
   have hb:=hbd j hj
   have ht:=htk j x' hx
   have hl:=hlt j hj
   have hge: ¬upOf w.log x' ≥ x':=by omega
   simp only[st55,hxd,hnx]
   simp[b55_0,md,hp,hp2,hw,hi,hr,hu,hge,ht,hl,hb,Nat.min_eq_left (Nat.le_of_lt hj)]
  obtain⟨x,hx,hxd⟩:=hget (c.length - 1) (by omega)
  obtain⟨k1,k2,k3⟩:=g3 _ x hx
  have k3: ¬ (1<=upOf w.log x/\upOf w.log x<x):=by
   rcases k3 with ⟨k3,k4,k5⟩|⟨k3,k4⟩
   ·have:=(List.getElem?_eq_some_iff.1 k5).1
    omega
   ·exact k3
  have hn0:nx w.log c 0=n:=by unfold nx;rw[if_pos hcl];simp[List.getD_eq_getElem?_getD,g1]
  have hmid: ∀j,j<c.length - 1-> ∃s',exec (semK G PK md) (semL G PK md) md b55_0 (st55 w c j)=some (.normal,s')/\s'.m<=10000000/\canon 10000000 [1,2,5] s'=st55 w c (j+1):=fun j hj=>by
   obtain⟨y,hy,hyd⟩:=hget j (by omega)
   obtain⟨q1,q2,q3⟩:=g3 j y hy
   rcases q3 with ⟨q3,q4,q5⟩|⟨q3,q4⟩
   ·refine hone j y hy q4 ?_
    unfold nx
    rw[if_pos (by omega)]
    simp[List.getD_eq_getElem?_getD,q5]
   ·omega
  have hall:c.take c.length=c:=List.take_length
  by_cases hge:upOf w.log x ≥ x
  ·obtain⟨i,r,hi,hw,hr,hu,hp,hp2⟩:=hround _ x hx
   have hb:=hbd (c.length - 1) (by omega)
   have ht:=htk _ x hx
   rw[show c.length - 1+1=c.length by omega,hall]at ht
   have hl:=hlt (c.length - 1) (by omega)
   have hbody: ∃s',exec (semK G PK md) (semL G PK md) md b55_0 (st55 w c (c.length - 1))=some (.exit 0,s'):=by
    simp only[st55,hxd]
    simp[b55_0,md,hp,hp2,hw,hi,hr,hu,hge,ht,hl,hb]
   have hsz:=loop_ok (G:=G) (PK:=PK) (md:=md) (o:=10000000) (live:=[1,2,5]) (c:=b55_0) (st55 w c) (c.length - 1) hmid (by
    obtain⟨s',hs'⟩:=hbody
    exact⟨_,s',hs',by simp⟩)
   simp[p55,md]
   rw[hsz]
   ·simp only[st55,hxd]
    simp[b55_0,md,hp,hp2,hw,hi,hr,hu,hge,ht,hl,hb]
   ·simp
   ·simp[hn0]
  ·have hnl:nx w.log c c.length=upOf w.log x:=by
    have h1:c.getD (c.length - 1) 0=x:=by rw[List.getD_eq_getElem?_getD,hx];rfl
    unfold nx
    rw[if_neg (by omega),h1]
   have hle: ¬ 0<upOf w.log x:=by omega
   have hsz:=loop_ok (G:=G) (PK:=PK) (md:=md) (o:=10000000) (live:=[1,2,5]) (c:=b55_0) (st55 w c) c.length (fun j hj=>by
    by_cases h2:j<c.length - 1
    ·exact hmid j h2
    ·have:j=c.length - 1:=by omega
     subst this
     refine hone _ x hx (by omega) ?_
     rw[show c.length - 1+1=c.length by omega]
     exact hnl) (by
    simp only[st55,hnl]
    simp[b55_0,hle])
   simp[p55,md]
   rw[hsz]
   ·simp only[st55,hnl,hall]
    simp[b55_0,hle]
   ·simp
   ·simp[hn0]
 ·have hch:chain w.log n=[]:=by unfold chain;rw[if_neg h]
  rw[hch]
  have hend: ∃s',exec (semK G PK md) (semL G PK md) md b55_0 {n:=37,m:=0,tm:=[(1,.sc (.int .i64 n)),(2,.pb 10000000 0),(5,.ref 10000001 [])],ob:=[(10000000,wbox w),(10000001,.arr 1 [])]}=some (.exit 0,s'):=by
   by_cases h0:0<n
   ·have h2: ¬n<=w.log.length:=by omega
    simp[b55_0,h0,h2]
   ·simp[b55_0,h0]
  have hsz:=loop_ok (G:=G) (PK:=PK) (md:=md) (o:=10000000) (live:=[1,2,5]) (c:=b55_0) (fun _=>{n:=37,m:=0,tm:=[(1,.sc (.int .i64 n)),(2,.pb 10000000 0),(5,.ref 10000001 [])],ob:=[(10000000,wbox w),(10000001,.arr 1 [])]}) 0 (fun j hj=>absurd hj (by omega)) (by
   obtain⟨s',hs'⟩:=hend
   exact⟨_,s',hs',by simp⟩)
  simp[p55,md]
  rw[hsz]
  ·by_cases h0:0<n
   ·have h2: ¬n<=w.log.length:=by omega
    simp[b55_0,h0,h2]
   ·simp[b55_0,h0]
  ·simp
  ·simp
end Go.Proofs.YtbolhfegdocpeaaGreat.Ow
