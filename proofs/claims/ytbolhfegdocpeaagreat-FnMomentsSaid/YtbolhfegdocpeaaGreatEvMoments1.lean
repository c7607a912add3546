/- Functions evaluated on the small machine: Moments: evaluated, Moments that are found, plain, Whole numbers as digits: both. -/
import Derived.Test.YtbolhfegdocpeaaGreatEvMoments0
import Derived.Test.YtbolhfegdocpeaaGreatEv0
import Derived.Test.YtbolhfegdocpeaaGreatEv3
namespace Go.Proofs.YtbolhfegdocpeaaGreat.Ow
open Go
set_option linter.unusedVariables false
set_option linter.unusedSimpArgs false
set_option maxHeartbeats 4000000
variable {PK:Nat->List Arg->Option Res}
def momP (w:WorldD) (m:List Int) (j:Nat):Bool:= !decide ((snapAt w ((w.log.length:Int) - j)).1.image=m)
def momentOf (w:WorldD) (m:List Int):Int×Bool:=
 if worldOk w then
  if allB (momP w m) (w.log.length+1)then(0,false)else((w.log.length:Int) - fidx (momP w m) (w.log.length+1),true)
 else(0,false)
@[simp] def st14 (w:WorldD) (m:List Int) (n:Int):St:={n:=33,m:=0,tm:=[(1,.im 1 (enc fI m)),(2,.pb 10000000 0),(6,.sc (.int .i64 n))],ob:=[(10000000,wbox w)]}
@[simp] def st13 (w:WorldD) (m:List Int) (n:Int):St:={n:=30,m:=0,tm:=[(1,.im 1 (enc fI m)),(2,.pb 10000000 0),(6,.sc (.int .i64 n))],ob:=[(10000000,wbox w)]}
theorem snapAt_ok (w:WorldD) {n:Int} (h0:0<=n) (h1:n<=w.log.length):(snapAt w n).2=true/\(snapAt w n).1.last=n:=by unfold snapAt;rw[if_pos ⟨h0,h1⟩];exact⟨rfl,rfl⟩
theorem ev_spec_MomentOf (w:WorldD) (m:List Int) (hw:wS w) (hm:m.length<=1048576):semK G PK md 14 [.a (lents (fWo w)),.v (.im 1 (enc fI m))]=some ⟨[.v (.sc (.int .i64 (momentOf w m).1)),.v (.sc (.bool (momentOf w m).2))],[],[]⟩:=by
 refine semK_of (pf:=p14) rfl (by simp[p14]) ?_
 have e:=ev_spec_WorldOk (PK:=PK) w hw
 simp only[lents,lent,fWo]at e
 unfold momentOf
 cases hok:worldOk w
 ·rw[hok]at e
  simp[p14,md,e]
 rw[hok]at e
 have hlog:=hw.log
 obtain⟨f,hf⟩: ∃f:Nat->Int,∀j:Nat,f j=(w.log.length:Int) - j:=⟨_,fun _=>rfl⟩
 have hf0:f 0=w.log.length:=by rw[hf];simp
 have hneg: ¬ (0:Int)<=f (w.log.length+1):=by rw[hf];omega
 obtain⟨bad,hb,hsz⟩:=loop_find (G:=G) (PK:=PK) (md:=md) (o:=10000000) (live:=[1,2,6]) (c:=b14_0) (fun j=>st14 w m (f j)) (momP w m) (w.log.length+1) (fun k s=>s.m=0/\getT s.tm 4= .sc (.int .i64 (f k))/\getT s.tm 5= .sc (.bool true)) (fun j hj=>by
  have hdec:IntKind.wrap .i64 (f j - 1)=f (j+1):=by rw[hf,hf,wrap_id (by omega) (by omega)];omega
  have hn:=hf j
  generalize f j=n at hn hdec ⊢
  generalize f (j+1)=n1 at hdec ⊢
  have h0:0<=n:=by omega
  obtain⟨so,sl⟩:=snapAt_ok w h0 (by omega)
  have e2:=ev_spec_SnapAt (PK:=PK) w n hw.log
  rw[so]at e2
  have e3:=ev_l5Same (PK:=PK) (snapAt w n).1.image m (by have:=snapAt_len w n;omega)
  unfold momP
  rw[←hn]
  simp only[lents,lent,fWo,fSn,owneds,owned]at e2
  generalize (snapAt w n).1.image=img at e2 e3 ⊢
  cases hd:decide (img=m)
  ·rw[hd]at e3
   simp[b14_0,md,h0,e2,e3,hdec]
  ·rw[hd]at e3
   simp[b14_0,md,h0,e2,e3]) (by simp[b14_0,hneg])
 cases hp:allB (momP w m) (w.log.length+1)
 ·obtain⟨k,hk,h1,h2,hm2,ht1,ht2⟩:=hb hp
  rw[fidx_false hk h1 h2,←hf k]
  simp only[hp]at hsz
  simp[p14,md,e]
  rw[hsz]
  ·simp[hm2,ht1,ht2]
  ·simp
  ·simp[hf0]
 ·simp only[hp]at hsz
  simp[p14,md,e]
  rw[hsz]
  ·simp[b14_0,hneg]
  ·simp
  ·simp[hf0]
theorem ev_impl_MomentOf (hC: ∀l:List Int,l.length<=1048576->semK G PK md 135 [.v (.im 1 (enc fI l))]=some ⟨[.v (.own 1 (enc fI l))],[],[]⟩) (w:WorldD) (m:List Int) (hw:wS w) (hm:m.length<=1048576):semK G PK md 13 [.a (lents (fWo w)),.v (.im 1 (enc fI m))]=some ⟨[.v (.sc (.int .i64 (momentOf w m).1)),.v (.sc (.bool (momentOf w m).2))],[],[]⟩:=by
 refine semK_of (pf:=p13) rfl (by simp[p13]) ?_
 have e:=ev_impl_WorldOk (PK:=PK) w hw
 simp only[lents,lent,fWo]at e
 unfold momentOf
 cases hok:worldOk w
 ·rw[hok]at e
  simp[p13,md,e]
 rw[hok]at e
 have hlog:=hw.log
 obtain⟨f,hf⟩: ∃f:Nat->Int,∀j:Nat,f j=(w.log.length:Int) - j:=⟨_,fun _=>rfl⟩
 have hf0:f 0=w.log.length:=by rw[hf];simp
 have hneg: ¬ (0:Int)<=f (w.log.length+1):=by rw[hf];omega
 obtain⟨bad,hb,hsz⟩:=loop_find (G:=G) (PK:=PK) (md:=md) (o:=10000000) (live:=[1,2,6]) (c:=b13_0) (fun j=>st13 w m (f j)) (momP w m) (w.log.length+1) (fun k s=>s.m=0/\getT s.tm 4= .sc (.int .i64 (f k))/\getT s.tm 5= .sc (.bool true)) (fun j hj=>by
  have hdec:IntKind.wrap .i64 (f j - 1)=f (j+1):=by rw[hf,hf,wrap_id (by omega) (by omega)];omega
  have hn:=hf j
  generalize f j=n at hn hdec ⊢
  generalize f (j+1)=n1 at hdec ⊢
  have h0:0<=n:=by omega
  obtain⟨so,sl⟩:=snapAt_ok w h0 (by omega)
  have e2:=ev_impl_SnapAt (PK:=PK) hC w n hw.log
  rw[so]at e2
  have e3:=ev_Equal (PK:=PK) (snapAt w n).1.image m (by have:=snapAt_len w n;omega)
  unfold momP
  rw[←hn]
  simp only[lents,lent,fWo,fSn,owneds,owned]at e2
  generalize (snapAt w n).1.image=img at e2 e3 ⊢
  cases hd:decide (img=m)
  ·rw[hd]at e3
   simp[b13_0,md,h0,e2,e3,hdec]
  ·rw[hd]at e3
   simp[b13_0,md,h0,e2,e3]) (by simp[b13_0,hneg])
 cases hp:allB (momP w m) (w.log.length+1)
 ·obtain⟨k,hk,h1,h2,hm2,ht1,ht2⟩:=hb hp
  rw[fidx_false hk h1 h2,←hf k]
  simp only[hp]at hsz
  simp[p13,md,e]
  rw[hsz]
  ·simp[hm2,ht1,ht2]
  ·simp
  ·simp[hf0]
 ·simp only[hp]at hsz
  simp[p13,md,e]
  rw[hsz]
  ·simp[b13_0,hneg]
  ·simp
  ·simp[hf0]
end Go.Proofs.YtbolhfegdocpeaaGreat.Ow
namespace Go.Proofs.YtbolhfegdocpeaaGreat.Ow
open Go
set_option linter.unusedVariables false
set_option linter.unusedSimpArgs false
set_option maxHeartbeats 4000000
theorem mom_hit {w:WorldD} {m:List Int} (h:(momentOf w m).2=true): ∃k:Nat,k<=w.log.length/\(momentOf w m).1=(w.log.length:Int) - k/\momP w m k=false:=by
 unfold momentOf at h ⊢
 split at h
 ·rename_i hw
  split at h
  ·cases h
  ·rename_i ha
   obtain⟨k,hk,hp,hkn⟩:=first (fun j=>momP w m j=true) (w.log.length+1)
   rcases hkn with rfl|⟨hlt,hn⟩
   ·exact absurd (allB_true hp) ha
   ·have hn':momP w m k=false:=by simpa using hn
    rw[if_pos hw,if_neg ha]
    exact⟨k,by omega,by rw[fidx_false hlt hp hn'],hn'⟩
 ·cases h
theorem mom_snap {w:WorldD} {m:List Int} (h:(momentOf w m).2=true):(snapAt w (momentOf w m).1).2=true/\(snapAt w (momentOf w m).1).1.image=m:=by
 obtain⟨k,hk,he,hp⟩:=mom_hit h
 rw[he]
 refine⟨(snapAt_ok w (by omega) (by omega)).1,?_⟩
 unfold momP at hp
 simpa using hp
theorem mom_found {w:WorldD} {n:Int} (hw:worldOk w=true) (hs:(snapAt w n).2=true):(momentOf w (snapAt w n).1.image).2=true/\n<=(momentOf w (snapAt w n).1.image).1:=by
 have hn:0<=n/\n<=w.log.length:=by
  unfold snapAt at hs
  split at hs
  ·assumption
  ·cases hs
 obtain⟨d,hd⟩: ∃d:Nat,(w.log.length:Int) - d=n/\d<=w.log.length:=⟨((w.log.length:Int) - n).toNat,by omega,by omega⟩
 have h0:momP w (snapAt w n).1.image d=false:=by
  unfold momP
  rw[hd.1]
  simp
 obtain⟨k,hk,hp,hkn⟩:=first (fun j=>momP w (snapAt w n).1.image j=true) (w.log.length+1)
 rcases hkn with rfl|⟨hlt,hn'⟩
 ·have:=hp d (by omega)
  rw[h0]at this
  cases this
 ·have hkd:k<=d:=by
   rcases Nat.lt_or_ge d k with h|h
   ·have:=hp d h
    rw[h0]at this
    cases this
   ·exact h
  have hf:momP w (snapAt w n).1.image k=false:=by simpa using hn'
  unfold momentOf
  rw[if_pos hw,if_neg (by rw[allB_false hlt hf];simp),fidx_false hlt hp hf]
  exact⟨rfl,by show n<=(w.log.length:Int) - k;omega⟩
end Go.Proofs.YtbolhfegdocpeaaGreat.Ow
namespace Go.Proofs.YtbolhfegdocpeaaGreat.Ow
open Go
set_option linter.unusedVariables false
set_option linter.unusedSimpArgs false
set_option maxHeartbeats 4000000
set_option maxRecDepth 100000
variable {PK:Nat->List Arg->Option Res}
def dg (d:Nat):ByteArray:=⟨#[UInt8.ofNat (48+d)]⟩
theorem ba_ext {a b:ByteArray} (h:a.data.toList=b.data.toList):a=b:=by
 rcases a with ⟨⟨a⟩⟩
 rcases b with ⟨⟨b⟩⟩
 exact congrArg (fun l=>(⟨⟨l⟩⟩:ByteArray)) h
theorem ba_app (a b:ByteArray):(a++b).data.toList=a.data.toList++b.data.toList:=by
 simp[ByteArray.data_append]
theorem ba_nil (a:ByteArray):a++(⟨#[]⟩:ByteArray)=a:=ba_ext (by rw[ba_app];simp)
theorem ba_nil2 (a:ByteArray):(⟨#[]⟩:ByteArray)++a=a:=ba_ext (by rw[ba_app];simp)
theorem ba_assoc (a b c:ByteArray):a++b++c=a++(b++c):=ba_ext (by simp only[ba_app,List.append_assoc])
theorem utf8_digit: ∀d:Nat,d<=9->Utf8.encode (48+d:Nat)=dg d
 |0,_=>rfl
 |1,_=>rfl
 |2,_=>rfl
 |3,_=>rfl
 |4,_=>rfl
 |5,_=>rfl
 |6,_=>rfl
 |7,_=>rfl
 |8,_=>rfl
 |9,_=>rfl
 |n+10,h=>absurd h (by omega)
def dn (n:Nat):ByteArray:=if n<10 then dg n else dn (n / 10)++dg (n%10)
theorem dn_lt {n:Nat} (h:n<10):dn n=dg n:=by rw[dn,if_pos h]
theorem dn_ge {n:Nat} (h: ¬n<10):dn n=dn (n / 10)++dg (n%10):=by rw[dn,if_neg h]
theorem dg_size (d:Nat):(dg d).size=1:=rfl
theorem dn_size: ∀ (k n:Nat),n<10 ^ (k+1)->(dn n).size<=k+1
 |0,n,h=>by rw[dn_lt (by simpa using h),dg_size];omega
 |k+1,n,h=>by
  by_cases hn:n<10
  ·rw[dn_lt hn,dg_size];omega
  ·rw[dn_ge hn,ByteArray.size_append,dg_size]
   have:=dn_size k (n / 10) (by rw[Nat.pow_succ]at h;omega)
   omega
def di (n:Int):ByteArray:=if n<0 then⟨#[45]⟩++dn n.natAbs else dn n.natAbs
theorem di_nat (n:Nat):di (n:Int)=dn n:=by unfold di;rw[if_neg (by omega)];rfl
theorem dn64 {n:Nat} (h:(n:Int)<=9223372036854775808):(dn n).size<=19:=dn_size 18 n (by omega)
theorem di_size {n:Int} (h0: -9223372036854775808<=n) (h1:n<=9223372036854775807):(di n).size<=20:=by
 have:=dn64 (n:=n.natAbs) (by omega)
 unfold di
 split
 ·rw[ByteArray.size_append]
  have:(⟨#[45]⟩:ByteArray).size=1:=rfl
  omega
 ·omega
theorem rune_w {d:Nat} (hd:d<=9):IntKind.wrap .i32 ((48+d:Nat):Int)=((48+d:Nat):Int):=by
 have h1:IntKind.wrap .i32 ((48+d:Nat):Int)=(if((48+d:Nat):Int)%4294967296 ≥ 2147483648 then((48+d:Nat):Int)%4294967296 - 4294967296 else((48+d:Nat):Int)%4294967296):=by
  simp[IntKind.wrap,IntKind.bits,IntKind.signed]
 rw[h1]
 split<;>omega
theorem td10 (n:Nat):(n:Int).tdiv 10=((n / 10:Nat):Int):=by rw[Int.tdiv_eq_ediv_of_nonneg (by omega)];omega
theorem tm10 (n:Nat):(n:Int).tmod 10=((n%10:Nat):Int):=by rw[Int.tmod_eq_emod_of_nonneg (by omega)];omega
theorem ev_DigN (k:Nat): ∀n:Nat,n<k->(n:Int)<=9223372036854775807->semK G PK md 61 [.v (.sc (.int .i64 n))]=some ⟨[.v (.sc (.string (dn n)))],[],[]⟩:=by
 induction k with
 |zero=>intro n h;omega
 |succ k ih=>
  intro n h hn
  refine semK_of (pf:=p61) rfl (by simp[p61]) ?_
  have h1: ¬ (n:Int)<0:=by omega
  by_cases h2:n<10
  ·have h2':(n:Int)<10:=by omega
   have h3:IntKind.wrap .i64 (48+(n:Int))=((48+n:Nat):Int):=by rw[wrap_id (by omega) (by omega)];omega
   have h4:=rune_w (d:=n) (by omega)
   have h5:=utf8_digit n (by omega)
   rw[dn_lt h2]
   generalize ((48+n:Nat):Int)=N at h3 h4 h5
   simp[p61,md,h1,h2',h3,h4,h5]
  ·have h2': ¬ (n:Int)<10:=by omega
   have e:=ih (n / 10) (by omega) (by omega)
   have q1:=td10 n
   have q2:=tm10 n
   have w1:IntKind.wrap .i64 ((n / 10:Nat):Int)=((n / 10:Nat):Int):=wrap_id (by omega) (by omega)
   have w2:IntKind.wrap .i64 ((n%10:Nat):Int)=((n%10:Nat):Int):=wrap_id (by omega) (by omega)
   have h3:IntKind.wrap .i64 (48+((n%10:Nat):Int))=((48+n%10:Nat):Int):=by rw[wrap_id (by omega) (by omega)];omega
   have h4:=rune_w (d:=n%10) (by omega)
   have h5:=utf8_digit (n%10) (by omega)
   have hs:=dn64 (n:=n / 10) (by omega)
   have hs2:=dg_size (n%10)
   rw[dn_ge h2]
   generalize ((48+n%10:Nat):Int)=N at h3 h4 h5
   generalize dn (n / 10)=A at*
   generalize dg (n%10)=B at*
   generalize ((n / 10:Nat):Int)=x at*
   generalize ((n%10:Nat):Int)=y at*
   have g:A.size+B.size<=9223372036854775807:=by omega
   simp[p61,md,h1,h2',q1,q2,w1,w2,e,h3,h4,h5,g]
theorem ev_DigM (k:Nat): ∀n:Nat,n<k->0<n->(n:Int)<=9223372036854775808->semK G PK md 61 [.v (.sc (.int .i64 (-(n:Int))))]=some ⟨[.v (.sc (.string (⟨#[45]⟩++dn n)))],[],[]⟩:=by
 induction k with
 |zero=>intro n h;omega
 |succ k ih=>
  intro n h h0 hn
  refine semK_of (pf:=p61) rfl (by simp[p61]) ?_
  have h1: -(n:Int)<0:=by omega
  by_cases h2:n<10
  ·have h2': -10< -(n:Int):=by omega
   have e:=ev_DigN (PK:=PK) (n+1) n (by omega) (by omega)
   have w0:IntKind.wrap .i64 (-(-(n:Int)))=n:=by rw[wrap_id (by omega) (by omega)];omega
   have w0':IntKind.wrap .i64 (n:Int)=n:=wrap_id (by omega) (by omega)
   have hs:=dn64 (n:=n) (by omega)
   generalize dn n=A at*
   obtain⟨M,hM⟩: ∃M:ByteArray,(⟨#[45]⟩:ByteArray)=M:=⟨_,rfl⟩
   have g0:M.size+A.size<=9223372036854775807:=by
    have:M.size=1:=by rw[←hM];rfl
    omega
   simp[p61,md,h0,h2,h1,h2',w0,w0',e,hM,g0]
  ·have h2': ¬ -10< -(n:Int):=by omega
   have e:=ih (n / 10) (by omega) (by omega) (by omega)
   have e2:=ev_DigN (PK:=PK) (n%10+1) (n%10) (by omega) (by omega)
   have q1:(-(n:Int)).tdiv 10= -((n / 10:Nat):Int):=by rw[Int.neg_tdiv,td10]
   have q2:(-(n:Int)).tmod 10= -((n%10:Nat):Int):=by rw[Int.neg_tmod,tm10]
   have w1:IntKind.wrap .i64 (-((n / 10:Nat):Int))= -((n / 10:Nat):Int):=wrap_id (by omega) (by omega)
   have w2:IntKind.wrap .i64 (-((n%10:Nat):Int))= -((n%10:Nat):Int):=wrap_id (by omega) (by omega)
   have w3:IntKind.wrap .i64 ((n%10:Nat):Int)=((n%10:Nat):Int):=wrap_id (by omega) (by omega)
   have hs:=dn64 (n:=n / 10) (by omega)
   have hs2:(dn (n%10)).size=1:=by rw[dn_lt (by omega)];rfl
   rw[dn_ge h2,←dn_lt (n:=n%10) (by omega),←ba_assoc]
   have hs3:((⟨#[45]⟩:ByteArray)++dn (n / 10)).size<=20:=by
    rw[ByteArray.size_append]
    have:(⟨#[45]⟩:ByteArray).size=1:=rfl
    omega
   generalize (⟨#[45]⟩:ByteArray)++dn (n / 10)=A at*
   generalize dn (n%10)=B at*
   have h2n: ¬n<10:=h2
   have g:A.size+B.size<=9223372036854775807:=by omega
   generalize hx:((n / 10:Nat):Int)=x at*
   generalize hy:((n%10:Nat):Int)=y at*
   simp[p61,md,h0,h2n,h1,h2',q1,q2,w1,w2,w3,e,e2,g]
theorem ev_impl_Digits (n:Int) (h0: -9223372036854775808<=n) (h1:n<=9223372036854775807):semK G PK md 61 [.v (.sc (.int .i64 n))]=some ⟨[.v (.sc (.string (di n)))],[],[]⟩:=by
 unfold di
 by_cases h:n<0
 ·rw[if_pos h]
  obtain⟨m,rfl⟩: ∃m:Nat,n= -(m:Int):=⟨n.natAbs,by omega⟩
  have:=ev_DigM (PK:=PK) (m+1) m (by omega) (by omega) (by omega)
  simpa using this
 ·rw[if_neg h]
  obtain⟨m,rfl⟩: ∃m:Nat,n=(m:Int):=⟨n.natAbs,by omega⟩
  exact ev_DigN (PK:=PK) (m+1) m (by omega) (by omega)
@[simp] def st62 (z:Bool) (a:Int×ByteArray):St:={n:=31,m:=0,tm:=[(0,.sc (.int .i64 a.1)),(3,.sc (.bool z)),(4,.sc (.string a.2))],ob:=[]}
theorem u8dg: ∀d:Nat,d<=9->(⟨[UInt8.ofNat (IntKind.wrap .u8 ((48+d:Nat):Int)).toNat].toArray⟩:ByteArray)=dg d:=fun d hd=>by
 have:IntKind.wrap .u8 ((48+d:Nat):Int)=((48+d:Nat):Int):=by rw[wrap_u8];omega
 rw[this]
 rfl
theorem ev_spec_Digits (n:Int) (h0: -9223372036854775808<=n) (h1:n<=9223372036854775807):semK G PK md 62 [.v (.sc (.int .i64 n))]=some ⟨[.v (.sc (.string (di n)))],[],[]⟩:=by
 refine semK_of (pf:=p62) rfl (by simp[p62]) ?_
 by_cases hz:n=0
 ·subst hz
  have:di 0=⟨#[48]⟩:=by unfold di;rw[if_neg (by omega)];exact dn_lt (by decide)
  simp[p62,md,this]
 obtain⟨R,hR⟩: ∃R,R=dn n.natAbs:=⟨_,rfl⟩
 have hRs:R.size<=19:=by rw[hR];exact dn64 (by omega)
 obtain⟨r,hr,hlp⟩:=loop_ex (G:=G) (PK:=PK) (md:=md) (o:=10000000) (live:=[0,3,4]) (c:=b62_0) (st62 (decide (n<0))) (fun a=>a.1.natAbs) (fun a=> -9223372036854775808<=a.1/\a.1<=9223372036854775807/\(if a.1=0 then a.2 else dn a.1.natAbs++a.2)=R) (fun r=>r=(.exit 0,{st62 (decide (n<0)) (0,R)with tm:=(st62 (decide (n<0)) (0,R)).tm++[(11,.sc (.bool false))]})) (fun a ha=>by
  obtain⟨x,out⟩:=a
  obtain⟨a0,a1,a2⟩:=ha
  simp only at a0 a1 a2
  by_cases hx:x=0
  ·subst hx
   rw[if_pos rfl]at a2
   subst a2
   exact .inr ⟨_,by simp[b62_0,md];rfl,by simp,by simp⟩
  ·rw[if_neg hx]at a2
   have hos:out.size<=19:=by
    have:=congrArg ByteArray.size a2
    rw[ByteArray.size_append]at this
    omega
   obtain⟨m,hm⟩: ∃m:Nat,x.natAbs=m:=⟨_,rfl⟩
   rw[hm]at a2
   have hm0:0<m:=by omega
   have hnew:(if x.tdiv 10=0 then dg (m%10)++out else dn (x.tdiv 10).natAbs++(dg (m%10)++out))=R:=by
    have h3:(x.tdiv 10).natAbs=m / 10:=by
     rcases Int.natAbs_eq x with h|h<;>rw[h,hm]
     ·rw[td10];omega
     ·rw[Int.neg_tdiv,td10];omega
    rw[h3]
    by_cases h10:m<10
    ·rw[if_pos (by omega),←a2,dn_lt h10,Nat.mod_eq_of_lt h10]
    ·rw[if_neg (by omega),←a2,dn_ge h10,ba_assoc]
   have hd:x.tmod 10<0/\IntKind.wrap .i64 (-x.tmod 10)=((m%10:Nat):Int)\/ ¬x.tmod 10<0/\x.tmod 10=((m%10:Nat):Int):=by
    rcases Int.natAbs_eq x with h|h<;>rw[h,hm]
    ·rw[tm10];exact .inr ⟨by omega,rfl⟩
    ·rw[Int.neg_tmod,tm10]
     by_cases hz:m%10=0
     ·exact .inr ⟨by omega,by omega⟩
     ·refine .inl ⟨by omega,?_⟩
      rw[wrap_id (by omega) (by omega)]
      omega
   have hb1: -10<x.tmod 10/\x.tmod 10<10:=by
    rcases Int.natAbs_eq x with h|h<;>rw[h,hm]
    ·rw[tm10];omega
    ·rw[Int.neg_tmod,tm10];omega
   have hq: -9223372036854775808<=x.tdiv 10/\x.tdiv 10<=9223372036854775807/\(x.tdiv 10).natAbs<x.natAbs:=by
    rcases Int.natAbs_eq x with h|h<;>rw[h,hm]
    ·rw[td10];omega
    ·rw[Int.neg_tdiv,td10];omega
   refine .inl ⟨(x.tdiv 10,dg (m%10)++out),⟨hq.1,hq.2.1,hnew⟩,hq.2.2,?_⟩
   have w1:IntKind.wrap .i64 (x.tdiv 10)=x.tdiv 10:=wrap_id hq.1 hq.2.1
   have w2:IntKind.wrap .i64 (x.tmod 10)=x.tmod 10:=wrap_id (by omega) (by omega)
   have h3:IntKind.wrap .i64 (48+((m%10:Nat):Int))=((48+m%10:Nat):Int):=by rw[wrap_id (by omega) (by omega)];omega
   have h4:=u8dg (m%10) (by omega)
   have hs2:=dg_size (m%10)
   generalize ((48+m%10:Nat):Int)=N at h3 h4
   generalize dg (m%10)=B at*
   have g:B.size+out.size<=9223372036854775807:=by omega
   generalize ((m%10:Nat):Int)=y at*
   rcases hd with ⟨k1,k2⟩|⟨k1,k2⟩
   ·simp[b62_0,md,hx,w1,w2,k1,k2,h3,h4,bytesOf,g]
   ·rw[k2]at w2 k1
    simp[b62_0,md,hx,w1,w2,k1,k2,h3,h4,bytesOf,g]) (n,⟨#[]⟩) ⟨h0,h1,by simp only[if_neg hz];rw[hR,ba_nil]⟩
 unfold di
 rw[←hR]
 by_cases hn:n<0
 ·have g: ∀M:ByteArray,M.size=1->M.size+R.size<=9223372036854775807:=fun M h=>by omega
  have g1:=g ⟨#[45]⟩ rfl
  obtain⟨M,hM⟩: ∃M:ByteArray,(⟨#[45]⟩:ByteArray)=M:=⟨_,rfl⟩
  rw[hM]at g1
  simp[p62,md,hz,hn]
  rw[hlp]
  ·simp[hr,hn,hM,g1]
  ·simp
  ·simp[hn]
 ·simp[p62,md,hz,hn]
  rw[hlp]
  ·simp[hr,hn]
  ·simp
  ·simp[hn]
def sp:ByteArray:=⟨#[32]⟩
def snT (o:ByteArray) (n:Int):ByteArray:=o++sp++di n
def snapT (s:SnapD):ByteArray:=s.image.foldl snT (di s.last++⟨#[58]⟩)
def i64 (n:Int):Prop:= -9223372036854775808<=n/\n<=9223372036854775807
theorem snT_size: ∀ (l:List Int) (o:ByteArray),(∀x∈l,i64 x)->(l.foldl snT o).size<=o.size+21*l.length
 |[],o,_=>by simp
 |x::l,o,h=>by
  have h1:=snT_size l (snT o x) fun y hy=>h y (List.mem_cons_of_mem _ hy)
  have hx:=h x List.mem_cons_self
  have h2:=di_size hx.1 hx.2
  have h3:(snT o x).size=o.size+1+(di x).size:=by unfold snT;rw[ByteArray.size_append,ByteArray.size_append];rfl
  simp only[List.foldl_cons,List.length_cons]
  omega
theorem snT_take (l:List Int) (o:ByteArray) {j:Nat} {x:Int} (h:l[j]? =some x):(l.take (j+1)).foldl snT o=snT ((l.take j).foldl snT o) x:=by
 rw[List.take_add_one,h,List.foldl_append]
 rfl
@[simp] def st20 (s:SnapD) (out:ByteArray) (j:Nat):St:={n:=26,m:=0,tm:=[(1,.pb 10000000 0),(3,.sc (.string out)),(4,.sc (.int .i64 j))],ob:=[(10000000,.box [.sc (.int .i64 s.last),.im 1 (enc fI s.image)])]}
@[simp] def st19 (s:SnapD) (out:ByteArray) (j:Nat):St:={n:=24,m:=0,tm:=[(3,.sc (.string out)),(11,.im 1 (enc fI s.image)),(12,.sc (.int .i64 s.image.length)),(13,.sc (.int .i64 j))],ob:=[]}
theorem snap_steps (s:SnapD) (hs:s.image.length<=1048576) (hi: ∀x∈s.image,i64 x) (hl:i64 s.last) (j:Nat):((s.image.take j).foldl snT (di s.last++⟨#[58]⟩)).size<=30000000:=by
 have h1:=snT_size (s.image.take j) (di s.last++⟨#[58]⟩) fun x hx=>hi x (List.mem_of_mem_take hx)
 have h2:=di_size hl.1 hl.2
 have h3:(s.image.take j).length<=s.image.length:=by rw[List.length_take];omega
 have h4:(di s.last++(⟨#[58]⟩:ByteArray)).size=(di s.last).size+1:=by rw[ByteArray.size_append];rfl
 omega
theorem ev_spec_SnapText (s:SnapD) (hs:s.image.length<=1048576) (hi: ∀x∈s.image,i64 x) (hl:i64 s.last):semK G PK md 20 [.a (lents (fSn s))]=some ⟨[.v (.sc (.string (snapT s)))],[],[]⟩:=by
 refine semK_of (pf:=p20) rfl (by simp[p20]) ?_
 have e0:=ev_spec_Digits (PK:=PK) s.last hl.1 hl.2
 have hz:=snap_steps s hs hi hl
 have hsz:=loop_ok (G:=G) (PK:=PK) (md:=md) (o:=10000000) (live:=[1,3,4]) (c:=b20_0) (fun j=>st20 s ((s.image.take j).foldl snT (di s.last++⟨#[58]⟩)) j) s.image.length (fun j hj=>by
  obtain⟨x,hx⟩:=getElem?_of_lt hj
  obtain⟨_,hx'⟩:=at_of hx
  have hxi:=hi x (List.mem_of_getElem? hx)
  have e:=ev_spec_Digits (PK:=PK) x hxi.1 hxi.2
  have hd:=di_size hxi.1 hxi.2
  have hj0:=hz j
  have hinc:=incr hj hs
  rw[snT_take _ _ hx]
  generalize (s.image.take j).foldl snT (di s.last++⟨#[58]⟩)=o at*
  unfold snT
  obtain⟨S,hS⟩: ∃S:ByteArray,sp=S:=⟨_,rfl⟩
  have hS':(⟨#[32]⟩:ByteArray)=S:=hS
  have hSs:S.size=1:=by rw[←hS];rfl
  generalize di x=d at*
  have g1:o.size+S.size<=9223372036854775807:=by omega
  have g2:o.size+S.size+d.size<=9223372036854775807:=by omega
  simp[b20_0,md,hj,hx',e,hS,hS',g1,g2,hinc]) (by simp[b20_0])
 have hd:=di_size hl.1 hl.2
 have ht:s.image.take s.image.length=s.image:=List.take_length
 rw[ht]at hsz
 unfold snapT
 obtain⟨C,hC⟩: ∃C:ByteArray,(⟨#[58]⟩:ByteArray)=C:=⟨_,rfl⟩
 have hCs:C.size=1:=by rw[←hC];rfl
 rw[hC]at hsz ⊢
 generalize di s.last=d at*
 have g1:d.size+C.size<=9223372036854775807:=by omega
 simp[p20,md,e0,hC,g1]
 rw[hsz]
 ·simp[b20_0]
 ·simp
 ·simp
theorem ev_impl_SnapText (s:SnapD) (hs:s.image.length<=1048576) (hi: ∀x∈s.image,i64 x) (hl:i64 s.last):semK G PK md 19 [.a (lents (fSn s))]=some ⟨[.v (.sc (.string (snapT s)))],[],[]⟩:=by
 refine semK_of (pf:=p19) rfl (by simp[p19]) ?_
 have e0:=ev_impl_Digits (PK:=PK) s.last hl.1 hl.2
 have hz:=snap_steps s hs hi hl
 have hsz:=loop_ok (G:=G) (PK:=PK) (md:=md) (o:=10000000) (live:=[3,11,12,13]) (c:=b19_0) (fun j=>st19 s ((s.image.take j).foldl snT (di s.last++⟨#[58]⟩)) j) s.image.length (fun j hj=>by
  obtain⟨x,hx⟩:=getElem?_of_lt hj
  obtain⟨_,hx'⟩:=at_of hx
  have hxi:=hi x (List.mem_of_getElem? hx)
  have e:=ev_impl_Digits (PK:=PK) x hxi.1 hxi.2
  have hd:=di_size hxi.1 hxi.2
  have hj0:=hz j
  have hinc:=incr hj hs
  rw[snT_take _ _ hx]
  generalize (s.image.take j).foldl snT (di s.last++⟨#[58]⟩)=o at*
  unfold snT
  rw[ba_assoc]
  obtain⟨S,hS⟩: ∃S:ByteArray,sp=S:=⟨_,rfl⟩
  have hS':(⟨#[32]⟩:ByteArray)=S:=hS
  have hSs:S.size=1:=by rw[←hS];rfl
  generalize di x=d at*
  have g1:S.size+d.size<=9223372036854775807:=by omega
  have g2:o.size+(S.size+d.size)<=9223372036854775807:=by omega
  simp[b19_0,md,hj,hx',e,hS,hS',g1,g2,hinc]) (by simp[b19_0])
 have hd:=di_size hl.1 hl.2
 have ht:s.image.take s.image.length=s.image:=List.take_length
 rw[ht]at hsz
 unfold snapT
 obtain⟨C,hC⟩: ∃C:ByteArray,(⟨#[58]⟩:ByteArray)=C:=⟨_,rfl⟩
 have hCs:C.size=1:=by rw[←hC];rfl
 rw[hC]at hsz ⊢
 generalize di s.last=d at*
 have g1:d.size+C.size<=9223372036854775807:=by omega
 simp[p19,md,e0,hC,g1]
 rw[hsz]
 ·simp[b19_0]
 ·simp
 ·simp
end Go.Proofs.YtbolhfegdocpeaaGreat.Ow
