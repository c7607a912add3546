/- The small machine over trees, and that what it computes is what the calls of the loaded functions return: part 1. -/
import Derived.Calls
import Derived.Orders
import Derived.Below
import Derived.Laws.Entries
import Derived.Laws.Sem
import Derived.Laws.Cells
import Derived.Laws.BytesString
import Derived.Laws.Strings
namespace Go.Proofs.YtghgecpicnfgpaaGreat.Ow
open Go
set_option linter.unusedVariables false
set_option linter.unusedSimpArgs false
inductive T where
 |sc (v:Value)
 |sl (k:Nat) (rows:List (List T))
 |hole
abbrev AQ:=List (Nat×Nat)
inductive AV where
 |non
 |dead
 |und
 |sc (v:Value)
 |nil (k:Nat)
 |im (k:Nat) (rows:List (List T))
 |al (i k:Nat) (rows:List (List T))
 |ref (o:Nat) (p:AQ)
 |vw (o:Nat) (p:AQ) (lo hi:Nat)
 |pb (o:Nat) (j:Nat)
 |pa (o:Nat) (p:AQ) (i j:Nat)
 |pim (cells:List T)
 |agg (l:List AV)
 |tup (l:List AV)
 |clo (f:Nat) (caps:List AV)
inductive Obj where
 |none
 |box (cells:List AV)
 |arr (k:Nat) (rows:List (List T))
structure St where
 n:Nat
 m:Nat
 tm:List (Nat×AV)
 ob:List (Nat×Obj)
def Aw:List (Nat×AV)->Nat->AV
 |[],_=> .non
 |(m,a)::l,t=>if t=m then a else Aw l t
def AN:List (Nat×Obj)->Nat->Obj
 |[],_=> .none
 |(m,a)::l,t=>if t=m then a else AN l t
def MF:List (Nat×Obj)->Nat->List (Nat×Obj)
 |[],_=>[]
 |(m,a)::l,t=>if t=m then MF l t else(m,a)::MF l t
def AI {α:Type} (rows:List (List α)) (i j:Nat):Option α:=
 match rows[i]? with
 |some r=>r[j]?
 |none=>none
def EE {α:Type} (rows:List (List α)) (i j:Nat) (d:α):List (List α):=
 match rows[i]? with
 |some r=>rows.set i (r.set j d)
 |none=>rows
def AM:Nat->List (List T)->AQ->Option (Nat×List (List T))
 |k,rows,[]=>some (k,rows)
 |_,rows,(i,j)::p=>
  match AI rows i j with
  |some (.sl k' rows')=>AM k' rows' p
  |_=>none
def C2 (new:List (List T)):List (List T)->AQ->Option (List (List T))
 |_,[]=>some new
 |rows,(i,j)::p=>
  match AI rows i j with
  |some (.sl k' rows')=>
   match C2 new rows' p with
   |some r=>some (EE rows i j (.sl k' r))
   |none=>none
  |_=>none
def JP:List (List T)->AQ->Option (List (List T))
 |_,[]=>none
 |rows,(i,j)::p=>
  match AI rows i j with
  |some (.sl k' rows')=>
   match p with
   |[]=>some (EE rows i j .hole)
   |b::p'=>
    match JP rows' (b::p')with
    |some r=>some (EE rows i j (.sl k' r))
    |none=>none
  |_=>none
inductive L where
 |sc (v:Value)
 |nil (k:Nat)
 |im (k:Nat) (rows:List (List T))
 |al (i k:Nat) (rows:List (List T))
 |own (k:Nat) (rows:List (List T))
 |sh (d:Nat)
inductive Arg where
 |v (l:L)
 |a (ls:List L)
 |pm (ls:List L)
 |pi (ts:List T)
 |c (f:Nat) (caps:List (List T))
inductive RV where
 |v (l:L)
 |a (ls:List L)
 |p (ls:List L)
structure Res where
 out:List RV
 fin:List (Option (List (List T)))
 pfin:List (List L)
inductive X where
 |t (n:Nat)
 |k (a:AV)
inductive I where
 |mov (x:X)
 |pick (c a b:X)
 |bin (op:BinOp) (x y:X)
 |beq (op:BinOp) (x y:X)
 |un (op:UnOp) (x:X)
 |toInt (k:IntKind) (x:X)
 |toStr (x:X)
 |b2s (x:X)
 |load (n:Option Nat) (x:X)
 |take (o:Nat) (n:Option Nat) (x:X)
 |store (o:Nat) (n:Option Nat) (x v:X)
 |fa (off:Nat) (x:X)
 |fld (off:Nat) (n:Option Nat) (x:X)
 |ia (k:Nat) (x i:X)
 |iaa (len k:Nat) (x i:X)
 |ixs (x i:X)
 |len (x:X)
 |slen (x:X)
 |mm (max:Bool) (x y:X)
 |sls (x:X) (lo hi:Option X)
 |sl (k:Nat) (x:X) (lo hi:Option X)
 |sl0 (k:Nat) (x:X)
 |bld (zero:List AV) (parts:List (Nat×Nat×X))
 |box (o:Nat) (x:X)
 |new (o:Nat) (zero:List AV)
 |bsl (o:Nat) (k:Nat) (parts:List X)
 |mk (o:Nat) (k:Nat) (zero:List T) (bytes:Nat) (x:X)
 |app (o:Nat) (k:Nat) (bytes:Nat) (x y:X)
 |app0 (o:Nat) (k:Nat) (bytes:Nat) (zero:List T) (x y:X)
 |cpy (k:Nat) (d s:X)
 |clr (k:Nat) (zero:List T) (x:X)
 |ext (j:Nat) (x:X)
 |nchk (x:X)
 |fn (f:Nat) (caps:List X)
 |cap0 (x:X)
 |bad
 |call (o:Nat) (f:Nat) (xs:List X)
 |callc (o:Nat) (f:Nat) (xs:List X) (cs:List Nat)
 |callv (o:Nat) (x:X) (xs:List X)
structure Ins where
 d:Option Nat
 op:I
 g:Option (Nat×Bool)
inductive D where
 |fin
 |one (i:Ins) (t:D)
 |loud (i:Ins) (hang:List Ins) (t:D)
 |alt (a b:D)
inductive C where
 |skip
 |reg (l:List Ins) (drop:List Nat)
 |dreg (t:D) (drop:List Nat)
 |seq (a b:C)
 |cond (x:X) (a b:C)
 |blk (id:Nat) (a:C)
 |loop (o:Nat) (live:List Nat) (a:C)
 |exit (id:Nat)
 |ret
inductive Ex where
 |normal
 |exit (id:Nat)
 |ret
inductive RP where
 |t (t:Nat)
 |cell (t:Nat) (n:Option Nat)
structure PF where
 n:Nat
 modes:List Nat
 body:C
 res:List RP
def ES:Value->Bool
 | .bool _=>true
 | .int _ _=>true
 | .string _=>true
 | .pointer none=>true
 | .nilFunc=>true
 |_=>false
def ev (tm:List (Nat×AV)):X->AV
 | .t n=>Aw tm n
 | .k a=>a
mutual
def AV.sub (f:Nat->AQ->Option (Nat×AQ)):AV->AV
 | .ref o p=>match f o p with
  |some (o',p')=> .ref o' p'
  |none=> .dead
 | .vw o p lo hi=>match f o p with
  |some (o',p')=> .vw o' p' lo hi
  |none=> .dead
 | .pa o p i j=>match f o p with
  |some (o',p')=> .pa o' p' i j
  |none=> .dead
 | .agg l=> .agg (CL f l)
 | .tup l=> .tup (CL f l)
 | .clo g l=> .clo g (CL f l)
 | .non=> .non
 | .dead=> .dead
 | .und=> .und
 | .sc v=> .sc v
 | .nil k=> .nil k
 | .im k rows=> .im k rows
 | .al i k rows=> .al i k rows
 | .pb o j=> .pb o j
 | .pim c=> .pim c
def CL (f:Nat->AQ->Option (Nat×AQ)):List AV->List AV
 |[]=>[]
 |a::l=>a.sub f::CL f l
end
def PE (f:Nat->AQ->Option (Nat×AQ)):List (Nat×AV)->List (Nat×AV)
 |[]=>[]
 |(t,a)::l=>(t,a.sub f)::PE f l
def Obj.sub (f:Nat->AQ->Option (Nat×AQ)):Obj->Obj
 | .box cells=> .box (CL f cells)
 | .arr k rows=> .arr k rows
 | .none=> .none
def Mr (f:Nat->AQ->Option (Nat×AQ)):List (Nat×Obj)->List (Nat×Obj)
 |[]=>[]
 |(o,x)::l=>(o,x.sub f)::Mr f l
def St.sub (s:St) (f:Nat->AQ->Option (Nat×AQ)):St:={s with tm:=PE f s.tm,ob:=Mr f s.ob}
def St.putO (s:St) (o:Nat) (x:Obj):St:={s with ob:=(o,x)::MF s.ob o}
def St.gone (s:St) (o:Nat):St:={s with ob:=MF s.ob o}
def St.new (s:St) (o:Nat) (x:Obj):Option St:=
 match AN s.ob o with
 | .none=>if s.m<=o then some (s.putO o x)else none
 |_=>none
def St.put (s:St) (d:Option Nat) (a:AV):Option St:=
 match d with
 |none=>some s
 |some t=>if t<s.n then some {s with tm:=(t,a)::s.tm} else none
def pre:AQ->AQ->Option AQ
 |[],p=>some p
 |_::_,[]=>none
 |a::q,b::p=>if a=b then pre q p else none
def Sq (op:BinOp):Value->Value->Option Value
 | .int k a,.int k' b=>
  match op with
  | .shl=>if b<0 then none else some (.int k (k.wrap (a*2 ^ (min b.toNat k.bits))))
  | .shr=>if b<0 then none else some (.int k (a.fdiv (2 ^ (min b.toNat k.bits))))
  |_=>
   if k=k' then
    match op with
    | .add=>some (.int k (k.wrap (a+b)))
    | .sub=>some (.int k (k.wrap (a - b)))
    | .mul=>some (.int k (k.wrap (a*b)))
    | .quo=>if b=0 then none else some (.int k (k.wrap (a.tdiv b)))
    | .rem=>if b=0 then none else some (.int k (a.tmod b))
    | .and=>some (.int k (bits .and k a b))
    | .or=>some (.int k (bits .or k a b))
    | .xor=>some (.int k (bits .xor k a b))
    | .andNot=>some (.int k (bits .andNot k a b))
    | .eql=>some (.bool (a==b))
    | .neq=>some (.bool (a != b))
    | .lss=>some (.bool (decide (a<b)))
    | .leq=>some (.bool (decide (a<=b)))
    | .gtr=>some (.bool (decide (a>b)))
    | .geq=>some (.bool (decide (a ≥ b)))
    |_=>none
   else none
 | .string x,.string y=>
  match op with
  | .add=>if x.size+y.size<=9223372036854775807 then some (.string (x++y))else none
  | .eql=>some (.bool (x.toList==y.toList))
  | .neq=>some (.bool (!(x.toList==y.toList)))
  |_=>none
 |_,_=>none
def Xq (op:BinOp) (x y:Bool):Option Value:=
 match op with
 | .eql=>some (.bool (x==y))
 | .neq=>some (.bool (!(x==y)))
 |_=>none
def beqA (op:BinOp):AV->AV->Option AV
 | .sc (.bool x),.sc (.bool y)=>(Xq op x y).map .sc
 |_,_=>none
def binA (op:BinOp):AV->AV->Option AV
 | .sc x,.sc y=>(Sq op x y).map .sc
 |_,_=>none
def unA (op:UnOp):AV->Option AV
 | .sc (.int k n)=>
  match op with
  | .neg=>some (.sc (.int k (k.wrap (0 - n))))
  |_=>none
 | .sc (.bool b)=>
  match op with
  | .not=>some (.sc (.bool (!b)))
  |_=>none
 |_=>none
def ofD (o:Nat) (p:AQ) (i j:Nat):T->AV
 | .sc v=> .sc v
 | .sl _ _=> .ref o (p++[(i,j)])
 | .hole=> .dead
def Wc:T->AV
 | .sc v=> .sc v
 | .sl k rows=> .im k rows
 | .hole=> .dead
def Li (o:Nat) (p:AQ) (i:Nat):Nat->List T->List AV
 |_,[]=>[]
 |j,d::l=>ofD o p i j d::Li o p i (j+1) l
def MW:List T->List AV
 |[]=>[]
 |d::l=>Wc d::MW l
def Cu (ob:List (Nat×Obj)) (o:Nat) (p:AQ):Option (Nat×List (List T)):=
 match AN ob o with
 | .arr k rows=>AM k rows p
 |_=>none
def cells {α:Type} (l:List α) (j n:Nat):Option (List α):=if j+n<=l.length then some ((l.drop j).take n)else none
def Gb (ob:List (Nat×Obj)) (n:Option Nat):AV->Option AV
 | .pb o j=>
  match AN ob o with
  | .box cs=>
   match n with
   |none=>cs[j]?
   |some n=>(cells cs j n).map .agg
  |_=>none
 | .pa o p i j=>
  match Cu ob o p with
  |some (_,rows)=>
   match rows[i]? with
   |some r=>
    match n with
    |none=>r[j]?.map (ofD o p i j)
    |some n=>(cells r j n).map λl=> .agg (Li o p i j l)
   |none=>none
  |none=>none
 | .pim cs=>
  match n with
  |none=>cs[0]?.map Wc
  |some n=>(cells cs 0 n).map λl=> .agg (MW l)
 |_=>none
def Bm (ob:List (Nat×Obj)):AV->Option (Nat×List (List T))
 | .nil k=>some (k,[])
 | .im k rows=>some (k,rows)
 | .al _ k rows=>some (k,rows)
 | .ref o p=>Cu ob o p
 | .vw o p lo hi=>
  match Cu ob o p with
  |some (k,rows)=>some (k,(rows.take hi).drop lo)
  |none=>none
 |_=>none
def PQ (ob:List (Nat×Obj)):AV->Option Nat
 | .nil _=>some 0
 | .im _ rows=>some rows.length
 | .al _ _ rows=>some rows.length
 | .ref o p=>
  match Cu ob o p with
  |some (_,rows)=>some rows.length
  |none=>none
 | .vw _ _ lo hi=>some (hi - lo)
 |_=>none
def Hs:AV->Option Nat
 | .sc (.int _ i)=>if 0<=i then some i.toNat else none
 |_=>none
def SH (ob:List (Nat×Obj)) (k:Nat) (x:AV) (i:Nat):Option AV:=
 match x with
 | .im k' rows=>if k'=k then(rows[i]?).map .pim else none
 | .al _ k' rows=>if k'=k then(rows[i]?).map .pim else none
 | .ref o p=>
  match Cu ob o p with
  |some (k',rows)=>if k'=k/\i<rows.length then some (.pa o p i 0)else none
  |none=>none
 | .vw o p lo hi=>
  match Cu ob o p with
  |some (k',rows)=>if k'=k/\lo+i<hi/\hi<=rows.length then some (.pa o p (lo+i) 0)else none
  |none=>none
 |_=>none
def Rx (x:AV) (n:Nat):Option AV:=
 match x with
 | .pb o j=>some (.pb o (j+n))
 | .pa o p i j=>some (.pa o p i (j+n))
 | .pim cs=>some (.pim (cs.drop n))
 |_=>none
def He (ob:List (Nat×Obj)) (k:Nat) (x:AV) (lo:Nat) (hi:Option Nat):Option AV:=
 match x with
 | .nil k'=>if k'=k/\lo=0/\(hi=none\/hi=some 0)then some (.nil k)else none
 | .im k' rows=>
  if k'=k then
   match hi with
   |none=>if lo<=rows.length then some (.im k (rows.drop lo))else none
   |some h=>if lo<=h/\h<=rows.length then some (.im k ((rows.take h).drop lo))else none
  else none
 | .ref o p=>
  match Cu ob o p with
  |some (k',rows)=>
   if k'=k then
    match hi with
    |none=>if lo<=rows.length then some (.vw o p lo rows.length)else none
    |some h=>if lo<=h/\h<=rows.length then some (.vw o p lo h)else none
   else none
  |none=>none
 | .vw o p l0 h0=>
  match Cu ob o p with
  |some (k',_)=>
   if k'=k then
    match hi with
    |none=>if l0+lo<=h0 then some (.vw o p (l0+lo) h0)else none
    |some h=>if lo<=h/\l0+h<=h0 then some (.vw o p (l0+lo) (l0+h))else none
   else none
  |none=>none
 |_=>none
def GA (tm:List (Nat×AV)):Option X->Option (Option Nat)
 |none=>some none
 |some x=>(Hs (ev tm x)).map some
def CY:List (List T)->Option (List UInt8)
 |[]=>some []
 |[.sc (.int .u8 n)]::l=>(CY l).map λm=>UInt8.ofNat n.toNat::m
 |_::_=>none
def toT (ob:List (Nat×Obj)) (x:AV):Option T:=
 match x with
 | .sc v=>some (.sc v)
 | .dead=>some .hole
 |x=>(Bm ob x).map fun(k,r)=> .sl k r
def Co {α β:Type} (f:α->Option β):List α->Option (List β)
 |[]=>some []
 |a::l=>match f a with
  |some b=>match Co f l with
   |some m=>some (b::m)
   |none=>none
  |none=>none
def oneCell:AV->Bool
 | .non=>false
 | .und=>false
 | .tup _=>false
 | .agg _=>false
 |_=>true
def Iw:AV->Bool
 | .non=>false
 | .und=>false
 | .tup _=>false
 | .agg l=>l.all oneCell
 |_=>true
def EV:AV->List AV
 | .agg l=>l
 |a=>[a]
def isIm:AV->Bool
 | .sc _=>true
 | .nil _=>true
 | .im _ _=>true
 |_=>false
def Gs:List T->Bool
 |[]=>true
 | .sc _::l=>Gs l
 | .hole::l=>Gs l
 | .sl _ _::_=>false
def CH:List AV->Bool
 |[]=>true
 | .sc _::l=>CH l
 |_::_=>false
def An:List (List T)->Bool
 |[]=>true
 |r::l=>Gs r&&An l
def window {α:Type} (l:List α) (lo hi:Nat):List α:=(l.take hi).drop lo
def FN (o:Nat) (p:AQ) (n lo hi:Nat) (full:Bool) (o2:Nat) (q:AQ):Option (Nat×AQ):=
 if o2=o then
  match pre p q with
  |none=>some (o2,q)
  |some []=>if full then some (n,[])else none
  |some ((i,j)::r)=>if full then some (n,(i,j)::r)else if lo<=i/\i<hi then some (n,(i - lo,j)::r)else none
 else some (o2,q)
structure Aq where
 s:St
 l:List AV
def Aq.sub (h:Aq) (f:Nat->AQ->Option (Nat×AQ)):Aq:={s:=h.s.sub f,l:=CL f h.l}
def Aq.cut (h:Aq) (n o:Nat) (p:AQ) (lo hi:Nat) (full:Bool):Option Aq:=
 match AN h.s.ob n with
 | .none=>
  match AN h.s.ob o with
  | .arr k0 rows0=>
   match AM k0 rows0 p with
   |some (k,rows)=>
    if lo<=hi/\hi<=rows.length/\h.s.m<=n then
     match p with
     |[]=>some (({h with s:=(h.s.gone o).putO n (.arr k (if full then rows else window rows lo hi))}:Aq).sub (FN o p n lo hi full))
     |_::_=>
      match JP rows0 p with
      |some r0=>some (({h with s:=(h.s.putO o (.arr k0 r0)).putO n (.arr k (if full then rows else window rows lo hi))}:Aq).sub (FN o p n lo hi full))
      |none=>none
    else none
   |none=>none
  |_=>none
 |_=>none
def Aq.root (h:Aq) (i n:Nat):Option Aq:=
 match h.l[i]? with
 |some (.sc _)=>some h
 |some (.nil k)=>
  match AN h.s.ob n with
  | .none=>if h.s.m<=n then some {s:=h.s.putO n (.arr k []),l:=h.l.set i (.ref n [])} else none
  |_=>none
 |some (.ref o p)=>
  match p with
  |[]=>some h
  |_::_=>
   match Cu h.s.ob o p with
   |some (_,rows)=>h.cut n o p 0 rows.length true
   |none=>none
 |some (.vw o p lo hi)=>
  match h.cut n o p lo hi false with
  |some h'=>some {h' with l:=h'.l.set i (.ref n [])}
  |none=>none
 |_=>none
def Aq.roots (h:Aq) (base i:Nat):Nat->Option Aq
 |0=>some h
 |m+1=>
  match h.root i base with
  |some h'=>h'.roots (base+1) (i+1) m
  |none=>none
def A4 {α:Type} (r:List α) (j:Nat) (ds:List α):List α:=r.take j++ds++r.drop (j+ds.length)
def KF:AV->T
 | .sc v=> .sc v
 |_=> .hole
def GL (o1 o:Nat) (p:AQ) (o2:Nat) (q:AQ):Option (Nat×AQ):=if o2=o1 then some (o,p++q)else some (o2,q)
def St.adopt (s:St) (o1 o:Nat) (p:AQ) (i j:Nat):Option St:=
 if o1=o then none else
 match AN s.ob o1,AN s.ob o with
 | .arr k1 rows1,.arr k0 rows0=>
  match AM k0 rows0 p with
  |some (_,rows)=>
   match AI rows i j with
   |some .hole=>
    match C2 (EE rows i j (.sl k1 rows1)) rows0 p with
    |some r=>some (((s.putO o (.arr k0 r)).gone o1).sub (GL o1 o (p++[(i,j)])))
    |none=>none
   |_=>none
  |none=>none
 |_,_=>none
def St.adopts (s:St) (o:Nat) (p:AQ) (i:Nat):Nat->List AV->Option St
 |_,[]=>some s
 |j,.sc _::l=>s.adopts o p i (j+1) l
 |j,.ref o1 []::l=>
  match s.adopt o1 o p i j with
  |some s'=>s'.adopts o p i (j+1) l
  |none=>none
 |_,_::_=>none
def Aq.detach (h:Aq) (base o:Nat) (p:AQ) (i:Nat):Nat->Nat->Option Aq
 |_,0=>some h
 |j,m+1=>
  match Cu h.s.ob o (p++[(i,j)])with
  |some (_,rows)=>
   match h.cut base o (p++[(i,j)]) 0 rows.length true with
   |some h'=>h'.detach (base+1) o p i (j+1) m
   |none=>none
  |none=>h.detach (base+1) o p i (j+1) m
def St.write (s:St) (o:Nat) (p:AQ) (i j:Nat) (vs:List AV):Option St:=
 match AN s.ob o with
 | .arr k0 rows0=>
  match AM k0 rows0 p with
  |some (_,rows)=>
   match rows[i]? with
   |some r=>
    if j+vs.length<=r.length/\Gs ((r.drop j).take vs.length)=true then
     match C2 (rows.set i (A4 r j (vs.map KF))) rows0 p with
     |some r1=>some (s.putO o (.arr k0 r1))
     |none=>none
    else none
   |none=>none
  |none=>none
 |_=>none
def NB (s:St) (base o:Nat) (p:AQ) (i j:Nat) (vs:List AV):Option St:=
 if CH vs then
  match ({s,l:=[]}:Aq).detach (base+50) o p i j vs.length with
  |some h=>h.s.write o p i j vs
  |none=>none
 else
  match ({s,l:= .pa o p i j::vs}:Aq).roots base 1 vs.length with
  |some h=>
   match h.l with
   | .pa o' p' i' j'::vs'=>
    match ({s:=h.s,l:=[]}:Aq).detach (base+50) o' p' i' j' vs'.length with
    |some h'=>
     match h'.s.write o' p' i' j' vs' with
     |some s'=>s'.adopts o' p' i' j' vs'
     |none=>none
    |none=>none
   |_=>none
  |none=>none
def IZ (s:St) (base:Nat) (x:AV) (vs:List AV):Option St:=
 match x with
 | .pb o j=>
  match AN s.ob o with
  | .box cs=>if j+vs.length<=cs.length then some (s.putO o (.box (A4 cs j vs)))else none
  |_=>none
 | .pa o p i j=>NB s base o p i j vs
 |_=>none
def S5 (s:St) (base:Nat) (n:Option Nat) (x v:AV):Option St:=
 match n with
 |none=>if oneCell v then IZ s base x [v]else none
 |some m=>match v with
  | .agg l=>if l.length=m/\0<m/\l.all oneCell then IZ s base x l else none
  |_=>none
def F0:List T->List T
 |[]=>[]
 | .sl _ _::l=> .hole::F0 l
 |d::l=>d::F0 l
def DD:List (List T)->List (List T)
 |[]=>[]
 |r::l=>F0 r::DD l
def Ov (o2 lo hi o at_:Nat) (o':Nat) (q:AQ):Option (Nat×AQ):=
 if o'=o2 then
  match q with
  |(i,j)::r=>if lo<=i/\i<hi then some (o,(at_+(i - lo),j)::r)else some (o',q)
  |[]=>some (o',q)
 else some (o',q)
def Kp (o1 o:Nat) (o':Nat) (q:AQ):Option (Nat×AQ):=
 if o'=o1 then
  match q with
  |[]=>none
  |b::r=>some (o,b::r)
 else some (o',q)
def Gf (s:St) (k:Nat):AV->Option (Nat×List (List T))
 | .ref o1 []=>match AN s.ob o1 with
  | .arr k' rows=>if k'=k then some (o1,rows)else none
  |_=>none
 |_=>none
def UD (s:St):AV->Option (Nat×Nat×List (List T)×Nat×Nat)
 | .ref o []=>match AN s.ob o with
  | .arr k rows=>some (o,k,rows,0,rows.length)
  |_=>none
 | .vw o [] lo hi=>match AN s.ob o with
  | .arr k rows=>if lo<=hi/\hi<=rows.length then some (o,k,rows,lo,hi)else none
  |_=>none
 |_=>none
def N8 (s:St) (o1 o k:Nat) (rows:List (List T)):Option St:=((s.gone o1).sub (Kp o1 o)).new o (.arr k rows)
def appA (s:St) (o k bytes:Nat) (x y:AV):Option (AV×St):=
 match ({s,l:=[x,y]}:Aq).root 0 (o+1)with
 |some h=>
  match h.l with
  |[x',y']=>
   match Gf h.s k x',Bm h.s.ob y' with
   |some (o1,rows),some (k',new)=>
    if k'=k/\0<bytes/\(rows.length+new.length)*bytes<=35184372088832/\o1≠o then
     if An new then
      match N8 h.s o1 o k (rows++new)with
      |some s'=>some (.ref o [],s')
      |none=>none
     else
      match UD h.s y' with
      |some (o2,_,rows2,lo,hi)=>
       if o1=o2 then none else
       match N8 (h.s.putO o2 (.arr k (A4 rows2 lo (DD (window rows2 lo hi))))) o1 o k (rows++new)with
       |some s'=>some (.ref o [],s'.sub (Ov o2 lo hi o rows.length))
       |none=>none
      |none=>none
    else none
   |_,_=>none
  |_=>none
 |none=>none
def Xt (s:St) (o k bytes:Nat) (zero:List T) (x:AV) (n:Nat):Option (AV×St):=
 match ({s,l:=[x]}:Aq).root 0 (o+1)with
 |some h=>
  match h.l with
  |[x']=>
   match Gf h.s k x' with
   |some (o1,rows)=>
    if 0<bytes/\(rows.length+n)*bytes<=35184372088832/\zero.length=k/\Gs zero=true/\o1≠o then
     match N8 h.s o1 o k (rows++List.replicate n zero)with
     |some s'=>some (.ref o [],s')
     |none=>none
    else none
   |none=>none
  |_=>none
 |none=>none
def GO (ob:List (Nat×Obj)):AV->Option (Nat×AQ×Nat×List (List T)×Nat×Nat)
 | .ref o p=>match Cu ob o p with
  |some (k,rows)=>some (o,p,k,rows,0,rows.length)
  |none=>none
 | .vw o p lo hi=>match Cu ob o p with
  |some (k,rows)=>if lo<=hi/\hi<=rows.length then some (o,p,k,rows,lo,hi)else none
  |none=>none
 |_=>none
def Gz (s:St) (o:Nat) (p:AQ) (rows:List (List T)):Option St:=
 match AN s.ob o with
 | .arr k0 rows0=>
  match C2 rows rows0 p with
  |some r=>some (s.putO o (.arr k0 r))
  |none=>none
 |_=>none
def KE (o:Nat) (p:AQ) (o2:Nat) (q:AQ):Option (Nat×AQ):=
 if o2=o then
  match pre p q with
  |some (_::_)=>none
  |_=>some (o2,q)
 else some (o2,q)
def cpyA (s:St) (k:Nat) (d y:AV):Option (AV×St):=
 match GO s.ob d,Bm s.ob y with
 |some (o,p,k',rows,lo,hi),some (k2,src)=>
  if k'=k/\k2=k/\An rows=true/\An src=true then
   match Gz s o p (rows.take lo++src.take (min src.length (hi - lo))++rows.drop (lo+min src.length (hi - lo)))with
   |some s'=>some (.sc (.int .i64 (min src.length (hi - lo):Nat)),s')
   |none=>none
  else none
 |_,_=>none
def clrA (s:St) (k:Nat) (zero:List T) (x:AV):Option St:=
 match GO s.ob x with
 |some (o,p,k',rows,lo,hi)=>
  if k'=k/\zero.length=k then
   match Gz s o p (rows.take lo++List.replicate (hi - lo) zero++rows.drop hi)with
   |some s'=>some (if An rows then s' else s'.sub (KE o p))
   |none=>none
  else none
 |none=>none
def Cf (o:Nat):Nat->List (List AV)->St->Option St
 |_,[],s=>some s
 |i,r::l,s=>match s.adopts o [] i 0 r with
  |some s'=>Cf o (i+1) l s'
  |none=>none
def EB (k:Nat):Nat->List AV->List (List AV)
 |0,_=>[]
 |n+1,l=>l.take k::EB k n (l.drop k)
def isImR:AV->Bool
 | .im _ _=>true
 |_=>false
def bslA (s:St) (o k:Nat) (vs:List (List AV)):Option (AV×St):=
 if vs.all λr=>r.length=k/\r.all oneCell then
  if vs.all λr=>CH r then(s.new o (.arr k (vs.map λr=>r.map KF))).map λs'=>(.ref o [],s')
  else if vs.any λr=>r.any isImR then
   if vs.all λr=>r.all isIm then(Co (Co (toT s.ob)) vs).map λrows=>(.im k rows,s)else none
  else
   match ({s,l:=vs.flatten}:Aq).roots (o+1) 0 vs.flatten.length with
   |some h=>
    match h.s.new o (.arr k ((EB k vs.length h.l).map λr=>r.map KF))with
    |some s'=>(Cf o 0 (EB k vs.length h.l) s').map λs2=>(.ref o [],s2)
    |none=>none
   |none=>none
 else none
def AW:Nat->List L->List AV×List (Nat×Obj)×Nat
 |o,[]=>([],[],o)
 |o,.sc v::ls=>match AW o ls with
  |(as,os,m)=>(.sc v::as,os,m)
 |o,.nil k::ls=>match AW o ls with
  |(as,os,m)=>(.nil k::as,os,m)
 |o,.im k rows::ls=>match AW o ls with
  |(as,os,m)=>(.im k rows::as,os,m)
 |o,.al i k rows::ls=>match AW o ls with
  |(as,os,m)=>(.al i k rows::as,os,m)
 |o,.own k rows::ls=>match AW (o+1) ls with
  |(as,os,m)=>(.ref o []::as,(o,.arr k rows)::os,m)
 |o,.sh d::ls=>match AW o ls with
  |(as,os,m)=>(.ref (o - 1 - d) []::as,os,m)
def AT (o:Nat):Arg->AV×List (Nat×Obj)×Nat
 | .v l=>match AW o [l]with
  |(as,os,m)=>(as.headD .dead,os,m)
 | .a ls=>match AW o ls with
  |(as,os,m)=>(.agg as,os,m)
 | .pm ls=>match AW (o+1) ls with
  |(as,os,m)=>(.pb o 0,(o,.box as)::os,m)
 | .pi ts=>(.pim ts,[],o)
 | .c f caps=>(.clo f (caps.map .pim),[],o)
def AH:Nat->Nat->List Arg->List (Nat×AV)×List (Nat×Obj)×Nat
 |_,o,[]=>([],[],o)
 |t,o,a::l=>
  match AT o a with
  |(v,os,m)=>match AH (t+1) m l with
   |(tm,os',m')=>((t,v)::tm,os++os',m')
def Om (n:Nat) (args:List Arg):St:=
 match AH 0 0 args with
 |(tm,os,m)=>{n,m,tm,ob:=os}
def DC (o:Nat):RV->AV×List (Nat×Obj)×Nat
 | .v l=>AT o (.v l)
 | .a ls=>AT o (.a ls)
 | .p ls=>AT o (.pm ls)
def C1:Nat->List RV->List AV×List (Nat×Obj)×Nat
 |o,[]=>([],[],o)
 |o,r::l=>match DC o r with
  |(a,os,m)=>match C1 m l with
   |(as,os',m')=>(a::as,os++os',m')
mutual
def AV.mv (f:Nat->Option Nat):AV->AV
 | .ref o p=>match f o with
  |some o'=> .ref o' p
  |none=> .dead
 | .vw o p lo hi=>match f o with
  |some o'=> .vw o' p lo hi
  |none=> .dead
 | .pb o j=>match f o with
  |some o'=> .pb o' j
  |none=> .dead
 | .pa o p i j=>match f o with
  |some o'=> .pa o' p i j
  |none=> .dead
 | .agg l=> .agg (mvL f l)
 | .tup l=> .tup (mvL f l)
 | .clo g l=> .clo g (mvL f l)
 | .non=> .non
 | .dead=> .dead
 | .und=> .und
 | .sc v=> .sc v
 | .nil k=> .nil k
 | .im k rows=> .im k rows
 | .al i k rows=> .al i k rows
 | .pim c=> .pim c
def mvL (f:Nat->Option Nat):List AV->List AV
 |[]=>[]
 |a::l=>a.mv f::mvL f l
end
mutual
def VD:AV->Bool
 | .al _ _ _=>false
 | .agg l=>JC l
 | .tup l=>JC l
 | .clo _ l=>JC l
 | .im _ _=>true
 | .pim _=>true
 | .ref _ _=>true
 | .vw _ _ _ _=>true
 | .pb _ _=>true
 | .pa _ _ _ _=>true
 | .non=>true
 | .dead=>true
 | .und=>true
 | .sc _=>true
 | .nil _=>true
def JC:List AV->Bool
 |[]=>true
 |a::l=>VD a&&JC l
end
mutual
def AV.mvt (f:Nat->Option Nat) (g:Nat->AV):AV->AV
 | .al j _ _=>g j
 | .agg l=> .agg (Nv f g l)
 | .tup l=> .tup (Nv f g l)
 | .clo n l=> .clo n (Nv f g l)
 | .im k rows=> .im k rows
 | .pim c=> .pim c
 | .ref o p=>AV.mv f (.ref o p)
 | .vw o p lo hi=>AV.mv f (.vw o p lo hi)
 | .pb o j=>AV.mv f (.pb o j)
 | .pa o p i j=>AV.mv f (.pa o p i j)
 | .non=> .non
 | .dead=> .dead
 | .und=> .und
 | .sc v=> .sc v
 | .nil k=> .nil k
def Nv (f:Nat->Option Nat) (g:Nat->AV):List AV->List AV
 |[]=>[]
 |a::l=>a.mvt f g::Nv f g l
end
def BW {α:Type}:List AV->List α->List (Nat×α)
 |[],_=>[]
 |_::_,[]=>[]
 | .al i _ _::ys,x::xs=>(i,x)::BW ys xs
 |_::ys,_::xs=>BW ys xs
def CK {α:Type}:List (Nat×α)->Nat->Option α
 |[],_=>none
 |(i,x)::l,j=>if i=j then some x else CK l j
def Bt {α:Type}:List (Nat×α)->List Nat
 |[]=>[]
 |(i,_)::l=>i::Bt l
def Jb (f:Nat->AQ->Option (Nat×AQ)) (l:List (Nat×AV)) (j:Nat):AV:=
 match CK l j with
 |some x=>x.sub f
 |none=> .dead
def TO (x:AV):Option (AV×List Nat):=if VD x then some (x,[])else none
def Obj.mv (f:Nat->Option Nat):Obj->Obj
 | .box cells=> .box (mvL f cells)
 | .arr k rows=> .arr k rows
 | .none=> .none
def Obj.mvt (f:Nat->Option Nat) (g:Nat->AV):Obj->Obj
 | .box cells=> .box (Nv f g cells)
 | .arr k rows=> .arr k rows
 | .none=> .none
def BM:List AV->List AV
 |[]=>[]
 | .agg l::r=>l++BM r
 |x::r=>x::BM r
def Db:List AV->List (Option Nat)
 |[]=>[]
 | .agg l::r=>some l.length::Db r
 |_::r=>none::Db r
def Be:List (Option Nat)->List AV->List AV
 |[],_=>[]
 |some n::r,l=> .agg (l.take n)::Be r (l.drop n)
 |none::r,l=>l.headD .dead::Be r l.tail
def Aq.rootI (h:Aq) (i n:Nat):Option Aq:=
 match h.l[i]? with
 |some (.im _ _)=>some h
 |some (.al _ _ _)=>some h
 |some (.pb _ _)=>some h
 |some (.pim _)=>some h
 |some (.clo _ _)=>some h
 |_=>h.root i n
def Aq.rootsI (h:Aq) (base i:Nat):Nat->Option Aq
 |0=>some h
 |m+1=>
  match h.rootI i base with
  |some h'=>h'.rootsI (base+1) (i+1) m
  |none=>none
def Dy:AQ->Option (AQ×Nat×Nat)
 |[]=>none
 |(i,j)::p=>match Dy p with
  |some (q,i',j')=>some ((i,j)::q,i',j')
  |none=>some ([],i,j)
def EI:AV->List AV
 | .ref o p=>match Dy p with
  |some (q,i,j)=>[.pa o q i j,.ref o p]
  |none=>[]
 |_=>[]
def Aq.push (h : Aq) (i : Nat) : Aq := { h with l := h.l ++ (match h.l[i]? with
  | some x => EI x
  | none => []) }
def Aq.rootsM (h:Aq) (base i:Nat):List Nat->Option Aq
 |[]=>some h
 |m::ms=>
  if m=1 then
   match (h.push i).rootI i base with
   |some h'=>h'.rootsM (base+1) (i+1) ms
   |none=>none
  else h.rootsM (base+1) (i+1) ms
def O2 (ob:List (Nat×Obj)):AV->Option (List T)
 | .pb o 0=>match AN ob o with
  | .box cs=>Co (toT ob) cs
  |_=>none
 | .pim cs=>some cs
 |_=>none
def A1:AV->List Nat
 | .ref o _=>[o]
 | .vw o _ _ _=>[o]
 |_=>[]
def Jj:List AV->List Nat
 |[]=>[]
 |a::l=>A1 a++Jj l
def QQ (ob:List (Nat×Obj)):AV->List Nat
 | .pb o 0=>match AN ob o with
  | .box cs=>o::Jj cs
  |_=>[]
 |_=>[]
def O5 (ob:List (Nat×Obj)):List AV->List Nat
 |[]=>[]
 |a::l=>QQ ob a++O5 ob l
def XA:List Nat->Nat
 |[]=>0
 |m::_=>m
def P1 (ob:List (Nat×Obj)) (m:Nat) (x:AV):Option (AV×List Nat):=
 match m with
 |0=>match x with
  | .sc v=>some (.sc v,[])
  | .pim cs=>some (.pim cs,[])
  | .pb o j=>(O2 ob (.pb o j)).map λts=>(.pim ts,QQ ob (.pb o j))
  | .clo f caps=>(Co (O2 ob) caps).map λcs=>(.clo f (cs.map .pim),O5 ob caps)
  |x=>(Bm ob x).map fun(k,r)=>(.im k r,A1 x)
 |1=>TO x
 |2=>TO x
 |j+3=>(Bm ob x).map fun(k,r)=>(.al j k r,A1 x)
def E2 (ob:List (Nat×Obj)):List Nat->List AV->Option (List AV×List Nat)
 |_,[]=>some ([],[])
 |ms,x::l=>match P1 ob (XA ms) x,E2 ob ms.tail l with
  |some (y,os),some (m,qs)=>some (y::m,os++qs)
  |_,_=>none
def Ck (ob:List (Nat×Obj)):AV->Option (L×List Nat)
 | .sc v=>some (.sc v,[])
 | .nil k=>some (.nil k,[])
 | .im k rows=>some (.im k rows,[])
 | .al i k rows=>some (.al i k rows,[])
 | .ref o []=>match AN ob o with
  | .arr k rows=>some (.own k rows,[o])
  |_=>none
 |_=>none
def Bs (ob:List (Nat×Obj)):List AV->Option (List L×List Nat)
 |[]=>some ([],[])
 |x::l=>match Ck ob x,Bs ob l with
  |some (a,os),some (m,qs)=>some (a::m,os++qs)
  |_,_=>none
def tokB (ob:List (Nat×Obj)) (ms:List Nat) (ys:List AV):Option (List (Nat×Obj)×List Nat×List (Nat×AV)):=
 match ys with
 | .pb b 0::_=>if XA ms=2 then
   match AN ob b with
   | .box (x::l)=>(Bm ob x).map fun(k,r)=>((b,.box (.al 99 k r::l))::MF ob b,A1 x,[(99,x)])
   |_=>none
  else some (ob,[],[])
 |_=>some (ob,[],[])
def Ns (ob:List (Nat×Obj)):List Nat->Bool
 |[]=>true
 |o::l=>(match AN ob o with
  | .box cs=>JC cs
  |_=>true)&&Ns ob l
def VA:AV->Option (List T)
 | .pim ts=>some ts
 |_=>none
def EQ (ob:List (Nat×Obj)):AV->Option (Arg×List Nat)
 | .agg l=>(Bs ob l).map fun(ls,os)=>(.a ls,os)
 | .pb o 0=>match AN ob o with
  | .box cs=>(Bs ob cs).map fun(ls,os)=>(.pm ls,o::os)
  |_=>none
 | .pim ts=>some (.pi ts,[])
 | .clo f caps=>(Co VA caps).map λcs=>(.c f cs,[])
 |x=>(Ck ob x).map fun(l,os)=>(.v l,os)
def B6 (ob:List (Nat×Obj)):List AV->Option (List Arg×List Nat)
 |[]=>some ([],[])
 |x::l=>match EQ ob x,B6 ob l with
  |some (a,os),some (m,qs)=>some (a::m,os++qs)
  |_,_=>none
def Al:Nat->List Arg->List Nat×List Nat
 |_,[]=>([],[])
 |o,a::l=>
  match AT o a with
  |(_,os,m)=>match Al m l with
   |(is,bs)=>match a with
    | .pm _=>(is,o::bs)
    |_=>(os.map (·.1)++is,bs)
def DG (os:List (Nat×Obj)):List Nat->List (Option (List (List T)))->List (Nat×Obj)
 |i::is,some rows::fs=>match AN os i with
  | .arr k _=>(i,.arr k rows)::DG os is fs
  |_=>DG os is fs
 |_::is,none::fs=>DG os is fs
 |_,_=>[]
def B9:Nat->List Nat->List (List L)->List (Nat×Obj)×Nat
 |n,b::bs,ls::lss=>match AW n ls with
  |(as,os,m)=>match B9 m bs lss with
   |(os2,m2)=>((b,.box as)::(os++os2),m2)
 |n,_,_=>([],n)
def CN (args:List Arg) (r:Res):List AV×List (Nat×Obj):=
 match AH 0 0 args with
 |(_,os,m)=>match B9 m (Al 0 args).2 r.pfin with
  |(ob,m1)=>match C1 m1 r.out with
   |(as,on,_)=>(as,DG os (Al 0 args).1 r.fin++ob++on)
def imL:L->Bool
 | .im _ _=>true
 |_=>false
def Qs:RV->Bool
 | .v l=>imL l
 | .a ls=>ls.any imL
 | .p ls=>ls.any imL
def one:List AV->AV
 |[a]=>a
 |l=> .tup l
def Fo (cs:List Nat) (base j:Nat):Option Nat:=if j<cs.length then cs[j]? else some (base+(j - cs.length))
def Hp:List Nat->Bool
 |[]=>true
 |a::l=> !l.contains a&&Hp l
def FV (o:Nat):List Nat->Nat->Nat
 |[],i=>i
 |a::l,i=>if a=o then i else FV o l (i+1)
def Cx (cs:List Nat) (os:List (Nat×Obj)) (o:Nat) (p:AQ):Option (Nat×AQ):=
 if cs.contains o then
  match p,AN os (FV o cs 0)with
  |[],.arr _ _=>some (o,[])
  |_,_=>none
 else some (o,p)
def IK:List Nat->List (Nat×Obj)->List (Nat×Obj)
 |[],l=>l
 |o::os,l=>IK os (MF l o)
def JD (f:Nat->Option Nat) (g:Nat->AV):List (Nat×Obj)->List (Nat×Obj)
 |[]=>[]
 |(j,x)::l=>match f j with
  |some o=>(o,x.mvt f g)::JD f g l
  |none=>JD f g l
def J1 (ob:List (Nat×Obj)) (n base m:Nat):List (Nat×Obj)->Bool
 |[]=>true
 |(j,_)::l=>(j<n||(match AN ob (base+(j - n))with
  | .none=>m<=base+(j - n)
  |_=>false))&&J1 ob n base m l
def O9:Nat->Aq->Option (AV×St)
 |0,h=>match h.l with
  |r::_=>some (r,h.s)
  |[]=>none
 |n+1,h=>
  match h.l with
  |r:: .pa o q i j:: .ref x []::l=>match h.s.adopt x o q i j with
   |some s1=>O9 n {s:=s1,l:=CL (GL x o (q++[(i,j)])) (r::l)}
   |none=>none
  |r::_:: .dead::l=>O9 n {h with l:=r::l}
  |_=>none
def G1:List AV->List Nat
 |[]=>[]
 | .pa o _ _ _::l=>o::G1 l
 |_::l=>G1 l
structure LS where
 s:St
 bk:List AV
 lent:List Nat
 args:List Arg
 cs:List Nat
 tks:List (Nat×AV)
def XC (ms:List Nat) (s:St) (o:Nat) (xs:List AV):Option LS:=
 match ({s,l:=BM xs}:Aq).rootsM o 0 (ms.take (BM xs).length)with
 |some h=>
  match E2 h.s.ob ms (h.l.take (BM xs).length)with
  |some (ys,lent)=>
   match tokB h.s.ob ms ys with
   |some (obT,lentT,tkT)=>
    match B6 obT (Be (Db xs) ys)with
    |some (args,cs)=>if ys.all oneCell&&(Hp (Bt (tkT++BW ys (h.l.take (BM xs).length)))&&Ns h.s.ob cs)&&Hp cs&&((lentT++lent).all λx=> !cs.contains x)&&((G1 (h.l.drop (BM xs).length)).all λx=> !cs.contains x)then some {s:=h.s,bk:=h.l.drop (BM xs).length,lent:=lentT++lent,args,cs,tks:=tkT++BW ys (h.l.take (BM xs).length)} else none
    |none=>none
   |none=>none
  |none=>none
 |none=>none
def LS.merge (g:LS) (base:Nat) (os:List (Nat×Obj)):St:=
 {(g.s.sub (Cx g.cs os))with ob:=JD (Fo g.cs base) (Jb (Cx g.cs os) g.tks) os++IK g.cs (Mr (Cx g.cs os) g.s.ob)}
def LS.take (g:LS) (base:Nat) (r:Res):Option (AV×St):=
 if(g.lent.isEmpty|| !(r.out.any Qs||r.pfin.any λls=>ls.any imL))&&r.fin.length=(Al 0 g.args).1.length&&r.pfin.length=(Al 0 g.args).2.length&&
   J1 g.s.ob g.cs.length base g.s.m (CN g.args r).2 then
  O9 (g.bk.length / 2) {s:=g.merge base (CN g.args r).2,l:=(one (CN g.args r).1).mvt (Fo g.cs base) (Jb (Cx g.cs (CN g.args r).2) g.tks)::CL (Cx g.cs (CN g.args r).2) g.bk}
 else none
def Fn (K:Nat->List Arg->Option Res) (md:Nat->List Nat) (s:St) (d:Option Nat) (o f:Nat) (xs:List AV):Option St:=
 match XC (md f) s o xs with
 |some g=>
  match K f g.args with
  |some r=>match g.take (o+40) r with
   |some (v,s2)=>s2.put d v
   |none=>none
  |none=>none
 |none=>none
def Aq.rootsAt (h:Aq) (base:Nat):List Nat->Option Aq
 |[]=>some h
 |i::l=>match h.root i base with
  |some h'=>h'.rootsAt (base+1) l
  |none=>none
def RZ (tm:List (Nat×AV)):List (Nat×Nat×X)->List AV->Option (List AV)
 |[],l=>some l
 |(off,sz,x)::ps,l=>
  match ev tm x with
  | .agg m=>if m.length=sz/\off+sz<=l.length then RZ tm ps (A4 l off m)else none
  |a=>if oneCell a/\sz=1/\off<l.length then RZ tm ps (A4 l off [a])else none
def Ad (K:Nat->List Arg->Option Res) (md:Nat->List Nat) (s:St) (d:Option Nat):I->Option St
 | .mov x=>s.put d (ev s.tm x)
 | .pick c a b=>match ev s.tm c with
  | .sc (.bool b1)=>if b1 then s.put d (ev s.tm a)else s.put d (ev s.tm b)
  |_=>none
 | .bin op x y=>match binA op (ev s.tm x) (ev s.tm y)with
  |some v=>s.put d v
  |none=>none
 | .beq op x y=>match beqA op (ev s.tm x) (ev s.tm y)with
  |some v=>s.put d v
  |none=>none
 | .un op x=>match unA op (ev s.tm x)with
  |some v=>s.put d v
  |none=>none
 | .toInt k x=>match ev s.tm x with
  | .sc (.int _ n)=>s.put d (.sc (.int k (k.wrap n)))
  |_=>none
 | .toStr x=>match ev s.tm x with
  | .sc (.int _ n)=>s.put d (.sc (.string (Utf8.encode n)))
  |_=>none
 | .b2s x=>match Bm s.ob (ev s.tm x)with
  |some (1,rows)=>match CY rows with
   |some l=>s.put d (.sc (.string ⟨l.toArray⟩))
   |none=>none
  |_=>none
 | .load n x=>match Gb s.ob n (ev s.tm x)with
  |some v=>s.put d v
  |none=>none
 | .take o n x=>match Gb s.ob n (ev s.tm x),ev s.tm x with
  |some v,.pa o1 p i j=>match ({s,l:=[v]}:Aq).detach o o1 p i j (n.getD 1)with
   |some h=>h.s.put d (h.l.headD .dead)
   |none=>none
  |_,_=>none
 | .store o n x v=>match S5 s o n (ev s.tm x) (ev s.tm v)with
  |some s1=>s1.put d .und
  |none=>none
 | .fa off x=>match Rx (ev s.tm x) off with
  |some v=>s.put d v
  |none=>none
 | .fld off n x=>match ev s.tm x with
  | .agg l=>match n with
   |none=>match l[off]? with
    |some v=>s.put d v
    |none=>none
   |some n=>match cells l off n with
    |some m=>s.put d (.agg m)
    |none=>none
  |_=>none
 | .ia k x i=>match Hs (ev s.tm i)with
  |some n=>match SH s.ob k (ev s.tm x) n with
   |some v=>s.put d v
   |none=>none
  |none=>none
 | .iaa len k x i=>match Hs (ev s.tm i)with
  |some n=>if n<len then match Rx (ev s.tm x) (n*k)with
   |some v=>s.put d v
   |none=>none
   else none
  |none=>none
 | .ixs x i=>match ev s.tm x,Hs (ev s.tm i)with
  | .sc (.string b),some n=>match b.toList[n]? with
   |some c=>s.put d (.sc (.int .u8 c.toNat))
   |none=>none
  |_,_=>none
 | .len x=>match PQ s.ob (ev s.tm x)with
  |some n=>s.put d (.sc (.int .i64 n))
  |none=>none
 | .slen x=>match ev s.tm x with
  | .sc (.string b)=>s.put d (.sc (.int .i64 b.size))
  |_=>none
 | .mm mx x y=>match ev s.tm x,ev s.tm y with
  | .sc (.int k a),.sc (.int _ b)=>s.put d (.sc (.int k (if mx then(if a<b then b else a)else(if b<a then b else a))))
  |_,_=>none
 | .sls x lo hi=>match ev s.tm x,GA s.tm lo,GA s.tm hi with
  | .sc (.string b),some l,some h=>
   if l.getD 0<=h.getD b.size/\h.getD b.size<=b.size then s.put d (.sc (.string (b.extract (l.getD 0) (h.getD b.size))))else none
  |_,_,_=>none
 | .sl k x lo hi=>match GA s.tm lo,GA s.tm hi with
  |some l,some h=>match He s.ob k (ev s.tm x) (l.getD 0) h with
   |some v=>s.put d v
   |none=>none
  |_,_=>none
 | .sl0 k x=>match PQ s.ob (ev s.tm x)with
  |some _=>s.put d (.nil k)
  |none=>none
 | .bld zero parts=>match RZ s.tm parts zero with
  |some l=>s.put d (.agg l)
  |none=>none
 | .box o x=>if Iw (ev s.tm x)then match s.new o (.box (EV (ev s.tm x)))with
  |some s1=>s1.put d (.pb o 0)
  |none=>none
  else none
 | .new o zero=>match s.new o (.box zero)with
  |some s1=>s1.put d (.pb o 0)
  |none=>none
 | .bsl o k parts=>match bslA s o k (parts.map λx=>EV (ev s.tm x))with
  |some (v,s1)=>s1.put d v
  |none=>none
 | .mk o k zero bytes x=>match Hs (ev s.tm x)with
  |some n=>if n*bytes<=35184372088832/\0<bytes/\zero.length=k then match s.new o (.arr k (List.replicate n zero))with
   |some s1=>s1.put d (.ref o [])
   |none=>none
   else none
  |none=>none
 | .app o k bytes x y=>match appA s o k bytes (ev s.tm x) (ev s.tm y)with
  |some (v,s1)=>s1.put d v
  |none=>none
 | .app0 o k bytes zero x y=>match Hs (ev s.tm y)with
  |some n=>match Xt s o k bytes zero (ev s.tm x) n with
   |some (v,s1)=>s1.put d v
   |none=>none
  |none=>none
 | .cpy k a b=>match cpyA s k (ev s.tm a) (ev s.tm b)with
  |some (v,s1)=>s1.put d v
  |none=>none
 | .clr k zero x=>match clrA s k zero (ev s.tm x)with
  |some s1=>s1.put d (.tup [])
  |none=>none
 | .ext j x=>match ev s.tm x with
  | .tup l=>match l[j]? with
   |some v=>s.put d v
   |none=>none
  |_=>none
 | .nchk x=>match ev s.tm x with
  | .pb o j=>s.put d (.pb o j)
  | .pa o p i j=>s.put d (.pa o p i j)
  | .pim c=>s.put d (.pim c)
  |_=>none
 | .fn f caps=>s.put d (.clo f (caps.map (ev s.tm)))
 | .cap0 x=>match ev s.tm x with
  | .nil _=>s.put d (.sc (.int .i64 0))
  |_=>none
 | .bad=>none
 | .call o f xs=>Fn K md s d o f (xs.map (ev s.tm))
 | .callc o f xs cs=>match ({s,l:=xs.map (ev s.tm)}:Aq).rootsAt (o+90) cs with
  |some h=>Fn K md h.s d o f h.l
  |none=>none
 | .callv o x xs=>match ev s.tm x with
  | .clo f caps=>Fn K md s d o f (xs.map (ev s.tm)++caps)
  |_=>none
def Fw (K:Nat->List Arg->Option Res) (md:Nat->List Nat) (i:Ins) (s:St):Option St:=
 match i.g with
 |none=>Ad K md s i.d i.op
 |some (t,b)=>if t<s.n then match Aw s.tm t with
  | .sc (.bool b1)=>if b1=b then Ad K md s i.d i.op else s.put i.d .und
  | .und=>s.put i.d .und
  |_=>none
  else none
def Fv (K:Nat->List Arg->Option Res) (md:Nat->List Nat):List Ins->St->Option St
 |[],s=>some s
 |i::l,s=>match Fw K md i s with
  |some s1=>Fv K md l s1
  |none=>none
def Hx (tm:List (Nat×AV)):List Nat->List (Nat×AV)
 |[]=>[]
 |t::l=>(t,Aw tm t)::Hx tm l
def St.drop (s:St) (l:List Nat):St:={s with tm:=Hx s.tm l}
def tgt:AV->List Nat
 | .pb o _=>[o]
 | .pa o _ _ _=>[o]
 |_=>[]
def GP:AV->List Nat
 | .ref o _=>[o]
 | .vw o _ _ _=>[o]
 |_=>[]
def Rs:I->Bool
 | .mov _=>true
 | .pick _ _ _=>true
 | .bin _ _ _=>true
 | .beq _ _ _=>true
 | .un _ _=>true
 | .toInt _ _=>true
 | .toStr _=>true
 | .ixs _ _=>true
 | .len _=>true
 | .slen _=>true
 | .mm _ _ _=>true
 | .sls _ _ _=>true
 | .sl _ _ _ _=>true
 | .sl0 _ _=>true
 | .bld _ _=>true
 | .fa _ _=>true
 | .fld _ _ _=>true
 | .ia _ _ _=>true
 | .iaa _ _ _ _=>true
 | .ext _ _=>true
 | .nchk _=>true
 | .fn _ _=>true
 | .cap0 _=>true
 |_=>false
def Kj:I->Bool
 | .load _ _=>true
 |_=>false
def Gc (ob:List (Nat×Obj)) (m:Nat) (x:AV):List Nat:=
 if m=0 then []else A1 x++match x with
  | .pb b _=>b::(match AN ob b with
   | .box cells=>Jj cells
   |_=>[])
  |_=>[]
def Ij (ob:List (Nat×Obj)):List Nat->List AV->List Nat
 |m::ms,x::xs=>Gc ob m x++Ij ob ms xs
 |_,_=>[]
def We (b:Nat):Nat->List Nat
 |0=>[]
 |n+1=>b::We (b+1) n
def IT (ob:List (Nat×Obj)) (ms:List Nat) (xs:List AV) (base:Nat):List Nat:=
 We base (BM xs).length++Ij ob ms (BM xs)
def QP (s:St) (ms:List Nat) (xs:List AV) (base:Nat) (cs:List Nat):List Nat:=
 We (base+90) cs.length++((cs.flatMap λi=>match xs[i]? with
  |some x=>A1 x
  |none=>[])++match ({s,l:=xs}:Aq).rootsAt (base+90) cs with
   |some h=>IT h.s.ob ms h.l base
   |none=>[])
def OB (md:Nat->List Nat) (s:St):I->List Nat
 | .store _ _ x _=>tgt (ev s.tm x)
 | .app _ _ _ x _=>GP (ev s.tm x)
 | .app0 _ _ _ _ x _=>GP (ev s.tm x)
 | .cpy _ x _=>GP (ev s.tm x)
 | .clr _ _ x=>GP (ev s.tm x)
 | .call o f xs=>IT s.ob (md f) (xs.map (ev s.tm)) o
 | .callc o f xs cs=>QP s (md f) (xs.map (ev s.tm)) o cs
 | .callv o x xs=>match ev s.tm x with
  | .clo f caps=>IT s.ob (md f) (xs.map (ev s.tm)++caps) o
  |_=>[]
 |_=>[]
def Qu (md:Nat->List Nat) (s:St) (i p:Ins):Bool:=
 (match p.g with
 |none=>false
 |some (t,b)=>match Aw s.tm t with
  | .sc (.bool b1)=>b1 != b
  | .und=>true
  |_=>false)||
 match p.op with
 | .load _ x=>match ev s.tm x with
  | .pim _=>true
  | .pa o _ _ _=> !(OB md s i.op).contains o
  | .pb o _=> !(OB md s i.op).contains o
  |_=>false
 |_=>false
def W5 (x:Nat×AV):List (Nat×AV)->List (Nat×AV)
 |[]=>[x]
 |y::l=>if x.1<=y.1 then x::y::l else y::W5 x l
def Po:List (Nat×AV)->List (Nat×AV)
 |[]=>[]
 |x::l=>W5 x (Po l)
def W6 (x:Nat×Obj):List (Nat×Obj)->List (Nat×Obj)
 |[]=>[x]
 |y::l=>if x.1<=y.1 then x::y::l else y::W6 x l
def Pp:List (Nat×Obj)->List (Nat×Obj)
 |[]=>[]
 |x::l=>W6 x (Pp l)
def CV (x y:St):Prop:=x.n=y.n/\x.m=y.m/\Po x.tm=Po y.tm/\Pp x.ob=Pp y.ob
open Classical in
noncomputable def UJ (x y:Option St):Option St:=
 match x,y with
 |some s,some s'=>if CV s s' then some s else none
 |_,_=>none
noncomputable def E0 (K:Nat->List Arg->Option Res) (md:Nat->List Nat):D->St->Option St
 | .fin,s=>some s
 | .one i t,s=>match Fw K md i s with
  |some s1=>E0 K md t s1
  |none=>none
 | .loud i hang t,s=>if hang.all (Qu md s i)then match Fw K md i s with
  |some s1=>E0 K md t s1
  |none=>none
  else none
 | .alt a b,s=>UJ (E0 K md a s) (E0 K md b s)
mutual
def Wd:AV->List Nat
 | .ref o _=>[o]
 | .vw o _ _ _=>[o]
 | .pb o _=>[o]
 | .pa o _ _ _=>[o]
 | .agg l=>Pt l
 | .tup l=>Pt l
 | .clo _ l=>Pt l
 | .non=>[]
 | .dead=>[]
 | .und=>[]
 | .sc _=>[]
 | .nil _=>[]
 | .im _ _=>[]
 | .al _ _ _=>[]
 | .pim _=>[]
def Pt:List AV->List Nat
 |[]=>[]
 |a::l=>Wd a++Pt l
end
def objsO:Obj->List Nat
 | .box cs=>Pt cs
 |_=>[]
def Su (l:List Nat):List Nat->List Nat
 |[]=>l
 |a::m=>if l.contains a then Su l m else Su (l++[a]) m
def UN:List (Nat×AV)->List Nat
 |[]=>[]
 |(_,a)::l=>Wd a++UN l
def TG (ob:List (Nat×Obj)):List Nat->List Nat
 |[]=>[]
 |o::l=>objsO (AN ob o)++TG ob l
def mvT (f:Nat->Option Nat):List (Nat×AV)->List (Nat×AV)
 |[]=>[]
 |(t,a)::l=>(t,a.mv f)::mvT f l
def EL:Obj->Bool
 | .none=>false
 |_=>true
def IR (m base:Nat) (l:List Nat) (o:Nat):Option Nat:=if o<m then some o else if l.contains o then some (FV o l base)else none
def mvO (f:Nat->Option Nat) (ob:List (Nat×Obj)):Nat->List Nat->List (Nat×Obj)
 |_,[]=>[]
 |n,o::l=>(n,(AN ob o).mv f)::mvO f ob (n+1) l
def N2 (f:Nat->Option Nat) (ob:List (Nat×Obj)):List Nat->List (Nat×Obj)
 |[]=>[]
 |o::l=>if EL (AN ob o)then(o,(AN ob o).mv f)::N2 f ob l else N2 f ob l
def MH (live:List Nat) (s:St):List Nat:=
 (Su (Su [] (UN (Hx s.tm live))) (TG s.ob (List.range s.m++Su [] (UN (Hx s.tm live))))).filter λo=>s.m<=o
def Aa (base : Nat) (live : List Nat) (s : St) : St :=
  { n := s.n, m := s.m, tm := mvT (IR s.m base (MH live s)) (Hx s.tm live),
    ob := N2 (IR s.m base (MH live s)) s.ob (List.range s.m) ++ mvO (IR s.m base (MH live s)) s.ob base (MH live s) }
noncomputable def BR (K:Nat->List Arg->Option Res) (Lp:Nat->List Nat->C->St->Option (Ex×St)) (md:Nat->List Nat):C->St->Option (Ex×St)
 | .skip,s=>some (.normal,s)
 | .reg l dr,s=>match Fv K md l s with
  |some s1=>some (.normal,s1.drop dr)
  |none=>none
 | .dreg l dr,s=>match E0 K md l s with
  |some s1=>some (.normal,s1.drop dr)
  |none=>none
 | .seq a b,s=>match BR K Lp md a s with
  |some (.normal,s1)=>BR K Lp md b s1
  |r=>r
 | .cond x a b,s=>match ev s.tm x with
  | .sc (.bool c)=>if c then BR K Lp md a s else BR K Lp md b s
  |_=>none
 | .blk id a,s=>match BR K Lp md a s with
  |some (.exit j,s1)=>if j=id then some (.normal,s1)else some (.exit j,s1)
  |r=>r
 | .loop o live a,s=>Lp o live a s
 | .exit id,s=>some (.exit id,s)
 | .ret,s=>some (.ret,s)
def Rr (s:St):RP->Option AV
 | .t t=>some (Aw s.tm t)
 | .cell t n=>Gb s.ob n (Aw s.tm t)
def O6:List AV->List Nat
 |[]=>[]
 | .pb o _::l=>o::O6 l
 |_::l=>O6 l
def Aq.rootBox (h:Aq) (base b:Nat):Option Aq:=
 match AN h.s.ob b with
 | .box cs=>match ({s:=h.s,l:=cs++h.l}:Aq).rootsI base 0 cs.length with
  |some h'=>some {s:=h'.s.putO b (.box (h'.l.take cs.length)),l:=h'.l.drop cs.length}
  |none=>none
 |_=>none
def Aq.rootBoxes (h:Aq) (base:Nat):List Nat->Option Aq
 |[]=>some h
 |b::bs=>match h.rootBox base b with
  |some h'=>h'.rootBoxes (base+100) bs
  |none=>none
def shOf (acc:List Nat):AV->Option Nat
 | .ref o []=>if acc.contains o then some (acc.length - 1 - FV o acc 0)else none
 |_=>none
def KB (ob:List (Nat×Obj)) (acc:List Nat) (x:AV):Option (L×List Nat):=
 match shOf acc x with
 |some d=>some (.sh d,[])
 |none=>Ck ob x
def HI (ob:List (Nat×Obj)):List Nat->List AV->Option (List L×List Nat)
 |_,[]=>some ([],[])
 |acc,x::l=>match KB ob acc x with
  |some (a,os)=>match HI ob (acc++os) l with
   |some (m,qs)=>some (a::m,os++qs)
   |none=>none
  |none=>none
def LM (ob:List (Nat×Obj)) (acc:List Nat):AV->Option (RV×List Nat)
 | .agg l=>(HI ob acc l).map fun(ls,os)=>(.a ls,os)
 | .pb o 0=>match AN ob o with
  | .box cs=>(Bs ob cs).map fun(ls,os)=>(.p ls,o::os)
  |_=>none
 |x=>(KB ob acc x).map fun(l,os)=>(.v l,os)
def Er (ob:List (Nat×Obj)):List Nat->List AV->Option (List RV×List Nat)
 |_,[]=>some ([],[])
 |acc,x::l=>match LM ob acc x with
  |some (a,os)=>match Er ob (acc++os) l with
   |some (m,qs)=>some (a::m,os++qs)
   |none=>none
  |none=>none
def FP (ob:List (Nat×Obj)):List Nat->Option (List (List L)×List Nat)
 |[]=>some ([],[])
 |b::bs=>match AN ob b with
  | .box cs=>match Bs ob cs,FP ob bs with
   |some (ls,os),some (m,qs)=>some (ls::m,os++qs)
   |_,_=>none
  |_=>none
def Ks (ob os:List (Nat×Obj)) (gone:List Nat) (o:Nat):Option (List (List T)):=
 if gone.contains o then none else match AN ob o,AN os o with
 | .arr k rows,.arr k' _=>if k=k' then some rows else none
 |_,_=>none
def Ma (res:List RP) (args:List Arg) (s:St):Option Res:=
 match Co (Rr s) res with
 |some xs=>
  match ({s,l:=BM xs}:Aq).rootsI 90000000 0 (BM xs).length with
  |some h=>
   match h.rootBoxes 91000000 ((Al 0 args).2++O6 h.l)with
   |some h1=>
    match FP h1.s.ob (Al 0 args).2,Er h1.s.ob [] (Be (Db xs) h1.l)with
    |some (pfin,is),some (out,js)=>
     if Hp (is++js)&&((Al 0 args).2.all λb=> !(is++js).contains b)then
      some {out,pfin,fin:=(Al 0 args).1.map (Ks h1.s.ob (AH 0 0 args).2.1 (is++js))}
     else none
    |_,_=>none
   |none=>none
  |none=>none
 |none=>none
def Sf (res:List RP) (args:List Arg):Option (Ex×St)->Option Res
 |some (.normal,s)=>if s.m=(AH 0 0 args).2.2 then Ma res args s else none
 |some (.ret,s)=>if s.m=(AH 0 0 args).2.2 then Ma res args s else none
 |_=>none
noncomputable def sem (G : Nat -> Option PF) (PK : Nat -> List Arg -> Option Res) (md : Nat -> List Nat) : Nat -> (Nat -> List Arg -> Option Res) × (Nat -> List Nat -> C -> St -> Option (Ex × St))
  | 0 => (λ_ _ => none, λ_ _ _ _ => none)
  | n + 1 =>
    (λf args => match G f with
      | some pf => if args.length <= pf.n then Sf pf.res args (BR (sem G PK md n).1 (sem G PK md n).2 md pf.body (Om pf.n args)) else none
      | none => PK f args,
     λo live a s => if s.m <= o then match BR (sem G PK md n).1 (sem G PK md n).2 md a (Aa o live s) with
      | some (.normal, s1) => (sem G PK md n).2 o live a s1
      | r => r
      else none)
structure AG where
 modes:List Nat:=[]
 live:List (Nat×List Nat):=[]
 drop:List (Nat×List Nat):=[]
 take:List Nat:=[]
 cut:List (Nat×List Nat):=[]
def SB (l:List (Nat×List Nat)) (n:Nat):List Nat:=
 match l with
 |[]=>[]
 |(m,x)::r=>if m=n then x else SB r n
def Bk (P:Program) (t:TypeId):Option Nat:=(P.info? t).map (·.size)
def Do (P:Program) (t:TypeId):Option Nat:=(P.info? t).map (·.bytes)
def nOf (P:Program) (t:TypeId):Option (Option Nat):=
 match P.underlying t with
 |some (.struct _)=>(Bk P t).map some
 |some (.array _ _)=>(Bk P t).map some
 |some _=>some none
 |none=>none
def Wx (P:Program):Nat->TypeId->Option (List TypeId)
 |0,_=>none
 |n+1,t=>
  match P.underlying t with
  |some (.struct fs)=>(Co (fun(f:Field)=>Wx P n f.type) fs.toList).map List.flatten
  |some (.array m e)=>(Wx P n e).map λl=>(List.replicate m l).flatten
  |some _=>some [t]
  |none=>none
def Fj (P:Program) (t:TypeId) (v:Value):Option AV:=
 match v with
 | .slice none 0 0=>match P.underlying t with
  |some (.slice e)=>(Bk P e).map .nil
  |_=>none
 | .func (.func f) fi ca=>if fi.size=0/\ca.size=0 then some (.clo f [])else none
 |v=>if ES v then some (.sc v)else none
def C4 (P:Program):List TypeId->List Value->Option (List AV)
 |[],[]=>some []
 |t::ts,v::vs=>match Fj P t v,C4 P ts vs with
  |some a,some l=>some (a::l)
  |_,_=>none
 |_,_=>none
def HG (P:Program) (t:TypeId) (v:Value):Option AV:=
 match v with
 | .agg cs=>match Wx P 6 t with
  |some ts=>(C4 P ts cs.toList).map .agg
  |none=>none
 |v=>Fj P t v
def xOf (P:Program) (t:TypeId):Operand->Option X
 | .tmp n=>some (.t n)
 | .const v=>(HG P t v).map .k
 | .func f=>some (.k (.clo f []))
 | .global _=>none
def Hb (P:Program):List TypeId->List Operand->Option (List X)
 |[],[]=>some []
 |t::ts,x::xs=>match xOf P t x,Hb P ts xs with
  |some a,some l=>some (a::l)
  |_,_=>none
 |_,_=>none
def Bc (P:Program) (t:TypeId):Option (List AV):=
 match (P.info? t).bind (·.zero)with
 |some z=>(HG P t z).map EV
 |none=>none
def Ha:List AV->Option (List T)
 |[]=>some []
 | .sc v::l=>(Ha l).map λm=> .sc v::m
 | .nil k::l=>(Ha l).map λm=> .sl k []::m
 |_=>none
def Cy:List AV->List T
 |[]=>[]
 | .sc v::l=> .sc v::Cy l
 |_::l=> .hole::Cy l
def ox (P:Program) (t:TypeId):Option Operand->Option (Option X)
 |none=>some none
 |some x=>(xOf P t x).map some
def UI:Operand->Operand->Bool
 | .tmp a,.tmp b=>a=b
 | .const (.int _ a),.const (.int _ b)=>a=b
 |_,_=>false
def Lt:Operand->Bool
 | .const (.int _ 0)=>true
 |_=>false
def Id (P:Program) (fs:List Field):List (Nat×Operand)->Option (List (Nat×Nat×X))
 |[]=>some []
 |(i,x)::l=>match fs[i]? with
  |some f=>match Bk P f.type,xOf P f.type x,Id P fs l with
   |some z,some a,some m=>some ((f.offset,z,a)::m)
   |_,_,_=>none
  |none=>none
def It (P:Program) (e:TypeId) (k:Nat):List (Nat×Operand)->Option (List (Nat×Nat×X))
 |[]=>some []
 |(i,x)::l=>match xOf P e x,It P e k l with
  |some a,some m=>some ((i*k,k,a)::m)
  |_,_=>none
def Nf (P:Program) (e:TypeId):Nat->List (Nat×Operand)->Option (List X)
 |_,[]=>some []
 |n,(i,x)::l=>if i=n then match xOf P e x,Nf P e (n+1) l with
  |some a,some m=>some (a::m)
  |_,_=>none
  else none
def KZ (P:Program) (h:AG) (o:Nat) (c:Call):Option I:=
 match c.callee with
 | .value (.func f)=>match SB h.cut o with
  |[]=>(Hb P c.argTypes.toList c.args.toList).map (.call o f)
  |cs=>(Hb P c.argTypes.toList c.args.toList).map λxs=> .callc o f xs cs
 | .value (.tmp t)=>(Hb P c.argTypes.toList c.args.toList).map (.callv o (.t t))
 | .builtin .len=>match c.argTypes.toList,c.args.toList with
  |[t],[x]=>match P.underlying t with
   |some .string=>(xOf P t x).map .slen
   |some (.slice _)=>(xOf P t x).map .len
   |_=>none
  |_,_=>none
 | .builtin .append=>match c.argTypes.toList,c.args.toList with
  |[t,t2],[x,y]=>match P.underlying t,P.underlying t2 with
   |some (.slice e),some (.slice e2)=>if e2=e then match Bk P e,Do P e,xOf P t x,xOf P t2 y with
    |some k,some b,some a,some c=>if(Bc P e).map List.length=some k then some (.app o k b a c)else none
    |_,_,_,_=>none
    else none
   |some (.slice e),some (.int _)=>match Bk P e,Do P e,(Bc P e).bind Ha,xOf P t x,xOf P t2 y with
    |some k,some b,some z,some a,some c=>some (.app0 o k b z a c)
    |_,_,_,_,_=>none
   |_,_=>none
  |_,_=>none
 | .builtin .cap=>match c.argTypes.toList,c.args.toList with
  |[t],[x]=>match P.underlying t with
   |some (.slice _)=>(xOf P t x).map .cap0
   |_=>none
  |_,_=>none
 | .builtin .copy=>match c.argTypes.toList,c.args.toList with
  |[t,t2],[x,y]=>match P.underlying t,P.underlying t2 with
   |some (.slice e),some (.slice e2)=>if e2=e then match Bk P e,xOf P t x,xOf P t2 y with
    |some k,some a,some c=>some (.cpy k a c)
    |_,_,_=>none
    else none
   |_,_=>none
  |_,_=>none
 | .builtin .clear=>match c.argTypes.toList,c.args.toList with
  |[t],[x]=>match P.underlying t with
   |some (.slice e)=>match Bk P e,Bc P e,xOf P t x with
    |some k,some z,some a=>some (.clr k (Cy z) a)
    |_,_,_=>none
   |_=>none
  |_,_=>none
 | .builtin .max=>match c.argTypes.toList,c.args.toList with
  |[t,t2],[x,y]=>match P.underlying t,xOf P t x,xOf P t2 y with
   |some (.int _),some a,some b=>some (.mm true a b)
   |_,_,_=>none
  |_,_=>none
 | .builtin .min=>match c.argTypes.toList,c.args.toList with
  |[t,t2],[x,y]=>match P.underlying t,xOf P t x,xOf P t2 y with
   |some (.int _),some a,some b=>some (.mm false a b)
   |_,_,_=>none
  |_,_=>none
 |_=>none
def Bu (P:Program) (h:AG) (o:Nat) (ty:TypeId):Op->Option I
 | .move x=>(xOf P ty x).map .mov
 | .assign x=>(xOf P ty x).map .mov
 | .pick c a b=>match xOf P ty c,xOf P ty a,xOf P ty b with
  |some c,some a,some b=>some (.pick c a b)
  |_,_,_=>none
 | .alloc e=>(Bc P e).map (.new o)
 | .box e x=>(xOf P e x).map (.box o)
 | .build t parts=>match P.underlying t,Bc P t with
  |some (.struct fs),some z=>if fs.toList.all λf=>(Bk P f.type).isSome then(Id P fs.toList parts.toList).map (.bld z)else none
  |some (.array _ e),some z=>match Bk P e with
   |some k=>(It P e k parts.toList).map (.bld z)
   |none=>none
  |_,_=>none
 | .buildSlice t len parts=>match P.underlying t with
  |some (.slice e)=>match Bk P e with
   |some k=>if parts.size=len/\len*(k+1)<=16777216/\(Bc P e).map List.length=some k then(Nf P e 0 parts.toList).map (.bsl o k)else none
   |none=>none
  |_=>none
 | .load t x=>match nOf P t,xOf P ty x with
  |some n,some a=>some (if h.take.contains o then .take o n a else .load n a)
  |_,_=>none
 | .store t x v=>match nOf P t,xOf P ty x,xOf P t v with
  |some none,some a,some b=>if Bk P t=some 1 then some (.store o none a b)else none
  |some (some n),some a,some b=>some (.store o (some n) a b)
  |_,_,_=>none
 | .nilCheck x=>(xOf P ty x).map .nchk
 | .binOp op t x y t2=>match P.underlying t with
  |some .bool=>match op,xOf P t x,xOf P t y with
   | .eql,some a,some b=>some (.beq .eql a b)
   | .neq,some a,some b=>some (.beq .neq a b)
   |_,_,_=>none
  |some (.int _)=>match xOf P t x,xOf P t2 y with
   |some a,some b=>some (.bin op a b)
   |_,_=>none
  |some .string=>match xOf P t x,xOf P t y with
   |some a,some b=>some (.bin op a b)
   |_,_=>none
  |_=>none
 | .unOp op t x=>match xOf P t x with
  |some a=>some (.un op a)
  |none=>none
 | .convert src dst x=>match P.underlying src,P.underlying dst,xOf P src x with
  |some (.int _),some (.int k),some a=>some (.toInt k a)
  |some (.int _),some .string,some a=>some (.toStr a)
  |some (.slice e),some .string,some a=>match P.underlying e with
   |some (.int .u8)=>some (.b2s a)
   |_=>none
  |_,_,_=>none
 | .makeFunc (.func f) first caps=>if first.size=0 then(Hb P (caps.toList.map λ_=>ty) caps.toList).map (.fn f)else none
 | .makeSlice t len cap=>match P.underlying t with
  |some (.slice e)=>match Bk P e,(Bc P e).bind Ha,Do P e,xOf P ty len with
   |some k,some z,some b,some x=>if UI len cap then some (.mk o k z b x)else none
   |_,_,_,_=>none
  |_=>none
 | .slice t x lo hi mx=>match P.underlying t,xOf P t x,ox P ty lo,ox P ty hi,mx with
  |some .string,some a,some l,some h,none=>some (.sls a l h)
  |some (.slice e),some a,some l,some h,none=>(Bk P e).map λk=> .sl k a l h
  |some (.slice e),some a,some none,_,some m=>match hi with
   |some h=>if Lt h&&Lt m then(Bk P e).map λk=> .sl0 k a else none
   |none=>none
  |_,_,_,_,_=>none
 | .fieldAddr t x f=>match P.underlying t with
  |some (.struct fs)=>match fs[f]?,xOf P ty x with
   |some fd,some a=>match Bk P fd.type with
    |some (_+1)=>some (.fa fd.offset a)
    |_=>none
   |_,_=>none
  |_=>none
 | .field t x f=>match P.underlying t with
  |some (.struct fs)=>match fs[f]?,xOf P t x with
   |some fd,some a=>(nOf P fd.type).map λn=> .fld fd.offset n a
   |_,_=>none
  |_=>none
 | .indexAddr t x i=>match P.underlying t,xOf P t x,xOf P ty i with
  |some (.slice e),some a,some b=>(Bk P e).map λk=> .ia k a b
  |some (.array len e),some a,some b=>(Bk P e).map λk=> .iaa len k a b
  |_,_,_=>none
 | .index t x i=>match P.underlying t,xOf P t x,xOf P ty i with
  |some .string,some a,some b=>some (.ixs a b)
  |_,_,_=>none
 | .extract x j=>(xOf P ty x).map (.ext j)
 | .call c=>KZ P h o c
 | .makeInterface _ _=>some .bad
 | .panic _=>some .bad
 |_=>none
def Cn (P:Program) (h:AG) (n r:Nat) (ops:Array Oper) (i:Nat) (o:Oper):Option Ins:=
 match Bu P h ((r+1)*10000+i*100) o.type o.op with
 |none=>none
 |some op=>
  if(match o.dst with
   |some d=>d<n
   |none=>true)=true then
   match o.guard with
   |none=>some {d:=o.dst,op,g:=none}
   |some (j,b)=>match (ops[j]?).bind (·.dst)with
    |some t=>if t<n then some {d:=o.dst,op,g:=some (t,b)} else none
    |none=>none
  else none
def Ca (P:Program) (h:AG) (n r:Nat) (ops:Array Oper):Nat->List Oper->Option (List Ins)
 |_,[]=>some []
 |i,o::l=>match Cn P h n r ops i o,Ca P h n r ops (i+1) l with
  |some a,some m=>some (a::m)
  |_,_=>none
def Sr (ops:Array Oper):Nat->Nat->Nat->Bool
 |0,_,_=>false
 |n+1,i,j=>match ops[j]? with
  |some o=>o.after.toList.any λe=>Region.binds .any e&&(e.on==i||Sr ops n i e.on)
  |none=>false
def OF (ops:Array Oper) (l:List Ins) (listed:Array Bool):List Nat->Option (Nat×Ins)
 |[]=>none
 |j::r=>match l[j]? with
  |some x=>if(Rs x.op||Kj x.op)&&Region.free .any ops listed j then some (j,x)else OF ops l listed r
  |none=>OF ops l listed r
def altD (f:Nat->Option D):Nat->List Nat->Option D
 |r,[]=>f r
 |r,r'::rs=>match f r,altD f r' rs with
  |some a,some b=>some (.alt a b)
  |_,_=>none
def SK (ops:Array Oper) (held:List Nat) (j:Nat):List Nat:=held.filter λi=> !Sr ops ops.size i j
def Wy (ops:Array Oper) (held:List Nat) (x:Ins):Bool:=held.all λi=>match ops[i]?,x.d with
 |some o,some d=> !(o.looksAt ops).contains d
 |_,_=>true
def MR (ops:Array Oper) (l:List Ins):Nat->Array Bool->List Nat->Option D
 |0,listed,_=>match Region.ready .any ops listed with
  |[]=>some .fin
  |_::_=>none
 |n+1,listed,held=>match Region.ready .any ops listed with
  |[]=>some .fin
  |r::rs=>match OF ops l listed (r::rs)with
   |some (j,x)=>if Wy ops (if Kj x.op then j::held else held) x then(MR ops l n (listed.setIfInBounds j true) (if Kj x.op then j::held else held)).map (.one x)else none
   |none=>altD (λj=>match l[j]? with
    |some x=>if Wy ops (SK ops held j) x then(MR ops l n (listed.setIfInBounds j true) (SK ops held j)).map (.loud x ((SK ops held j).filterMap λi=>l[i]?))else none
    |none=>none) r rs
def BL (P:Program) (h:AG) (n:Nat):Nat->Code->Option C
 |_,.skip=>some .skip
 |_,.region id ops draw=>match Ca P h n id ops 0 ops.toList with
  |some l=>if draw then(if Region.noSelect ops then(MR ops l ops.size (Array.replicate ops.size false) []).map (.dreg · (SB h.drop id))else none)else some (.reg l (SB h.drop id))
  |none=>none
 |b,.seq x y=>match BL P h n b x,BL P h n b y with
  |some c,some d=>some (.seq c d)
  |_,_=>none
 |b,.cond c x y=>match xOf P 0 c,BL P h n b x,BL P h n b y with
  |some (.t t),some c,some d=>some (.cond (.t t) c d)
  |_,_,_=>none
 |_,.block id x=>(BL P h n id x).map (.blk id)
 |b,.loop x=>(BL P h n b x).map (.loop (10000000+b*100) (SB h.live b))
 |_,.exit id=>some (.exit id)
 |_,.ret=>some .ret
 |_,_=>none
def C0 (P:Program):List ResultVar->Option (List RP)
 |[]=>some []
 | .tmp t::l=>(C0 P l).map λm=> .t t::m
 | .cell t ty::l=>match nOf P ty,C0 P l with
  |some n,some m=>some (.cell t n::m)
  |_,_=>none
def WQ (P:Program) (h:AG) (f:Func):Option PF:=
 if f.name= "runtime.NumGoroutine" then none else
 match f.body with
 |some c=>match BL P h f.ntmps 0 c,C0 P f.results.toList with
  |some b,some r=>if f.params.size<=f.ntmps then some {n:=f.ntmps,modes:=h.modes,body:=b,res:=r} else none
  |_,_=>none
 |none=>none
def prep (P:Program) (H:Nat->AG) (f:Nat):Option PF:=
 match P.funcs[f]? with
 |some fn=>WQ P (H f) fn
 |none=>none
theorem AZ {α:Type} {rows:List (List α)} {i j:Nat} {d:α} (h:AI rows i j=some d):
  ∃r,rows[i]? =some r/\r[j]? =some d:=by
 unfold AI at h
 cases hr:rows[i]? with
 |none=>simp[hr]at h
 |some r=>exact⟨r,rfl,by simpa[hr]using h⟩
theorem B7 {α:Type} {rows:List (List α)} {i j:Nat} {r:List α} (h:rows[i]? =some r):AI rows i j=r[j]? :=by
 unfold AI;rw[h]
theorem O1 {α:Type} {rows:List (List α)} {i:Nat} {r r':List α} (h:rows[i]? =some r) (i' j':Nat):
  AI (rows.set i r') i' j'=if i'=i then r'[j']? else AI rows i' j':=by
 have hi:i<rows.length:=(List.getElem?_eq_some_iff.1 h).1
 unfold AI
 by_cases e:i'=i
 ·subst e;simp[hi]
 ·rw[if_neg e,List.getElem?_set_ne (λh=>e h.symm)]
theorem BS {α:Type} {rows:List (List α)} {i j:Nat} {d d':α} (h:AI rows i j=some d) (i' j':Nat):
  AI (EE rows i j d') i' j'=if i'=i/\j'=j then some d' else AI rows i' j':=by
 obtain⟨r,hr,hd⟩:=AZ h
 have hj:j<r.length:=(List.getElem?_eq_some_iff.1 hd).1
 unfold EE
 rw[hr]
 simp only[]
 rw[O1 hr]
 by_cases e:i'=i
 ·subst e
  by_cases e2:j'=j
  ·subst e2;simp[hj]
  ·rw[if_pos rfl,if_neg (by simp[e2]),List.getElem?_set_ne (λh=>e2 h.symm),B7 hr]
 ·rw[if_neg e,if_neg (by simp[e])]
def Kin:Option T->Option T->Prop
 |none,none=>True
 |some (.sc v),some (.sc u)=>v=u
 |some .hole,some .hole=>True
 |some (.sl _ _),some (.sl _ _)=>True
 |_,_=>False
theorem Kin.refl (d:Option T):Kin d d:=by
 cases d with
 |none=>trivial
 |some d=>cases d<;>simp[Kin]
structure Ev (r r':List (List T)):Prop where
 len:r'.length=r.length
 row: ∀ (i:Nat) (x:List T),r[i]? =some x-> ∃y:List T,r'[i]? =some y/\y.length=x.length
 cell: ∀i j,Kin (AI r i j) (AI r' i j)
theorem Ev.refl (r:List (List T)):Ev r r:=⟨rfl,λ_ x h=>⟨x,h,rfl⟩,λ_ _=>Kin.refl _⟩
theorem Ev.setAt_own {rows:List (List T)} {i j k k':Nat} {a b:List (List T)} (h:AI rows i j=some (.sl k a)):
  Ev rows (EE rows i j (.sl k' b)):=by
 obtain⟨r,hr,hd⟩:=AZ h
 have hi:i<rows.length:=(List.getElem?_eq_some_iff.1 hr).1
 refine⟨by unfold EE;rw[hr];simp,λi' x hx=> ?_,λi' j'=> ?_⟩
 ·unfold EE
  rw[hr]
  by_cases e:i'=i
  ·subst e
   rw[hr]at hx
   cases hx
   exact⟨r.set j (.sl k' b),by simp[hi],by simp⟩
  ·exact⟨x,by simp only[];rw[List.getElem?_set_ne (λh=>e h.symm)];exact hx,rfl⟩
 ·rw[BS h]
  by_cases e:i'=i/\j'=j
  ·obtain⟨rfl,rfl⟩:=e
   rw[if_pos ⟨rfl,rfl⟩,h];trivial
  ·rw[if_neg e];exact Kin.refl _
theorem BI {k:Nat} {rows:List (List T)} (p q:AQ):
  AM k rows (p++q)=(match AM k rows p with
   |some (k',r)=>AM k' r q
   |none=>none):=by
 induction p generalizing k rows with
 |nil=>rfl
 |cons a p ih=>
  obtain⟨i,j⟩:=a;simp only[List.cons_append,AM];split
  ·exact ih
  ·rfl
theorem Kc {k0:Nat} {rows0 rows new:List (List T)} {k:Nat} {p:AQ} (h:AM k0 rows0 p=some (k,rows)):
  ∃rows1,C2 new rows0 p=some rows1:=by
 induction p generalizing k0 rows0 with
 |nil=>exact⟨new,rfl⟩
 |cons a p ih=>
  obtain⟨i,j⟩:=a;simp only[AM]at h;split at h
  ·rename_i k' rows' hc;obtain⟨r1,h1⟩:=ih h;exact⟨_,by simp only[C2,hc,h1];rfl⟩
  ·cases h
theorem Cb {k0:Nat} {rows0 rows1 new rows:List (List T)} {k:Nat} {p:AQ} (h:AM k0 rows0 p=some (k,rows))
  (hs:C2 new rows0 p=some rows1) (q:AQ):AM k0 rows1 (p++q)=AM k new q:=by
 induction p generalizing k0 rows0 rows1 with
 |nil=>
  simp only[AM,Option.some.injEq,Prod.mk.injEq]at h;simp only[C2,Option.some.injEq]at hs;obtain⟨rfl,rfl⟩:=h;subst hs;rfl
 |cons a p ih=>
  obtain⟨i,j⟩:=a;simp only[AM]at h;split at h
  ·rename_i k' rows' hc;obtain⟨r1,h1⟩:=Kc (new:=new) h;simp only[C2,hc,h1,Option.some.injEq]at hs;subst hs;simp only[List.cons_append,AM,BS hc,and_self,if_true];exact ih h h1
  ·cases h
def JS:Option (Nat×List (List T))->Option (Nat×List (List T))->Prop
 |none,none=>True
 |some (k,r),some (k',r')=>k=k'/\Ev r r'
 |_,_=>False
theorem JS.refl (x:Option (Nat×List (List T))):JS x x:=by
 cases x with
 |none=>trivial
 |some x=>exact⟨rfl,Ev.refl _⟩
theorem GD {k0:Nat} {rows0 rows1 new rows:List (List T)} {k:Nat} {p:AQ} (h:AM k0 rows0 p=some (k,rows))
  (hs:C2 new rows0 p=some rows1) (q:AQ) (hq:pre p q=none):JS (AM k0 rows0 q) (AM k0 rows1 q):=by
 induction p generalizing k0 rows0 rows1 q with
 |nil=>simp[pre]at hq
 |cons a p ih=>
  obtain⟨i,j⟩:=a;simp only[AM]at h;split at h
  ·rename_i k' rows' hc;obtain⟨r1,h1⟩:=Kc (new:=new) h;simp only[C2,hc,h1,Option.some.injEq]at hs;subst hs
   cases q with
   |nil=>exact⟨rfl,Ev.setAt_own hc⟩
   |cons b q=>
    obtain⟨i',j'⟩:=b;simp only[AM,BS hc];by_cases e:i'=i/\j'=j
    ·obtain⟨rfl,rfl⟩:=e;simp only[pre,if_true]at hq;simp only[and_self,if_true,hc];exact ih h h1 q hq
    ·rw[if_neg e];exact JS.refl _
  ·cases h
theorem EG {p q r:AQ}:pre p q=some r<->q=p++r:=by
 induction p generalizing q with
 |nil=>simp[pre,eq_comm]
 |cons a p ih=>
  cases q with
  |nil=>simp[pre]
  |cons b q=>
   simp only[pre];by_cases e:a=b
   ·subst e;simp[ih]
   ·rw[if_neg e];simp;intro h;exact absurd h.symm e
theorem Ci (p q:AQ):pre p (p++q)=some q:=EG.2 rfl
theorem T.cells_ind {M:T->Prop} (sc: ∀v,M (.sc v)) (hole:M .hole)
  (own: ∀k rows,(∀i j d,AI rows i j=some d->M d)->M (.sl k rows)): ∀d,M d:=by
 have key: ∀ (n:Nat) (d:T),SizeOf.sizeOf d<n->M d:=by
  intro n
  induction n with
  |zero=>intro d h;omega
  |succ n ih=>
   intro d h
   cases d with
   |sc v=>exact sc v
   |hole=>exact hole
   |sl k rows=>
    refine own k rows λi j d hd=>ih d ?_
    obtain⟨r,hr,hx⟩:=AZ hd;have h1:=List.sizeOf_lt_of_mem (List.mem_of_getElem? hr);have h2:=List.sizeOf_lt_of_mem (List.mem_of_getElem? hx);simp at h;omega
 exact λd=>key _ d (Nat.lt_succ_self _)
theorem XD (l:List (Nat×AV)) (t u:Nat) (a:AV):Aw ((t,a)::l) u=if u=t then a else Aw l u:=rfl
theorem DF (l:List (Nat×Obj)) (t u:Nat):AN (MF l t) u=if u=t then .none else AN l u:=by
 induction l with
 |nil=>simp[MF,AN]
 |cons a l ih=>
  obtain⟨m,a⟩:=a;simp only[MF];by_cases e:t=m
  ·subst e;rw[if_pos rfl,ih];by_cases e2:u=t
   ·simp[e2]
   ·simp[AN,e2]
  ·rw[if_neg e];simp only[AN,ih];by_cases e2:u=m
   ·subst e2;rw[if_pos rfl,if_pos rfl,if_neg (λh=>e h.symm)]
   ·rw[if_neg e2,if_neg e2]
theorem BE (s:St) (o u:Nat) (x:Obj):AN (s.putO o x).ob u=if u=o then x else AN s.ob u:=by
 simp only[St.putO,AN,DF];by_cases e:u=o<;>simp[e]
theorem P8 (f:Nat->AQ->Option (Nat×AQ)) (l:List (Nat×AV)) (t:Nat):Aw (PE f l) t=(Aw l t).sub f:=by
 induction l with
 |nil=>simp[PE,Aw,AV.sub]
 |cons a l ih=>
  obtain⟨m,a⟩:=a;simp only[PE,Aw];by_cases e:t=m<;>simp[e,ih]
theorem QA (f:Nat->AQ->Option (Nat×AQ)) (l:List (Nat×Obj)) (t:Nat):AN (Mr f l) t=(AN l t).sub f:=by
 induction l with
 |nil=>simp[Mr,AN,Obj.sub]
 |cons a l ih=>
  obtain⟨m,a⟩:=a;simp only[Mr,AN];by_cases e:t=m<;>simp[e,ih]
theorem Bf (f:Nat->AQ->Option (Nat×AQ)) (l:List AV):CL f l=l.map (AV.sub f):=by
 induction l with
 |nil=>rfl
 |cons a l ih=>simp[CL,ih]
def Wr (w:World) (b j:Nat):Prop:=(∃u,w.cell? ⟨b,j,none⟩=some u)/\ ∀x,w.frozen? ⟨b,x,none⟩=false
inductive POk (w:World) (Im:Nat->Prop):Value->T->Prop
 |sc (v:Value) (h:ES v=true):POk w Im v (.sc v)
 |hole (v:Value) (h:v.oneCell'=true):POk w Im v .hole
 |nil (a:Option Addr) (c k:Nat):POk w Im (.slice a 0 c) (.sl k [])
 |sl (b off c k:Nat) (rows:List (List T)) (us:Nat->Nat->Value) (him:Im b) (hle:rows.length<=c) (hk: ∀r∈rows,r.length=k)
   (hc: ∀i j t,AI rows i j=some t->w.cell? ⟨b,off+(i*k+j),none⟩=some (us i j))
   (hs: ∀i j t,AI rows i j=some t->POk w Im (us i j) t):POk w Im (.slice (some ⟨b,off,none⟩) rows.length c) (.sl k rows)
theorem POk.mono {w w':World} {Im Im':Nat->Prop} (h1: ∀b,Im b->Im' b) (h2: ∀b,Im b->w'.heap[b]? =w.heap[b]?) {v:Value} {t:T}
  (h:POk w Im v t):POk w' Im' v t:=by
 induction h with
 |sc v h=>exact .sc v h
 |hole v h=>exact .hole v h
 |nil a c k=>exact .nil a c k
 |sl b off c k rows us him hle hk hc hs ih=>
  refine .sl b off c k rows us (h1 b him) hle hk (λi j t ht=> ?_) ih;have:=hc i j t ht;unfold World.cell? at*;rw[h2 b him];exact this
def CU:T->Value->Value->Prop
 | .sc s,u,_=>u=s/\ES s=true
 | .sl _ _,u,x=>u=x
 | .hole,u,_=>u.oneCell'=true
def Bq (w:World) (v:Value) (k:Nat) (rows:List (List T)) (sub:Nat->Nat->Value):Prop:=
 ∃a c,v= .slice a rows.length c/\(rows.length<=c/\c<=9223372036854775807)/\(0<c-> ∃b off,a=some ⟨b,off,none⟩/\(∀x,x<c*k->Wr w b (off+x))/\
  (∀r∈rows,r.length=k)/\ ∀i j d,AI rows i j=some d-> ∃u,w.cell? ⟨b,off+(i*k+j),none⟩=some u/\CU d u (sub i j))
def BC:Value->Option Nat
 | .slice (some a) _ c=>if 0<c then some a.block else none
 |_=>none
structure Env where
 w:World
 ob:Nat->Obj
 hd:Nat->AQ->Value
 bk:Nat->Nat
 Im:Nat->Prop
 tk:Nat->Value
def Env.node (e:Env) (o:Nat) (p:AQ):Option (Nat×List (List T)):=
 match e.ob o with
 | .arr k rows=>AM k rows p
 |_=>none
inductive Pl where
 |nd (o:Nat) (p:AQ)
 |bx (o:Nat)
def Env.blk (e:Env):Pl->Option Nat
 | .nd o p=>match e.node o p with
  |some _=>BC (e.hd o p)
  |none=>none
 | .bx o=>match e.ob o with
  | .box _=>some (e.bk o)
  |_=>none
def Gt (hv:Value) (k lo hi:Nat) (v:Value):Prop:=
 ∃a n c a' c',hv= .slice a n c/\v= .slice a' (hi - lo) c'/\hi - lo<=c'/\(0<c'->lo+c'<=c/\a'=a.map (·.add (lo*k)))
def IV (w:World) (Im:Nat->Prop) (v:Value) (cs:List T):Prop:=
 ∃b off,v= .pointer (some ⟨b,off,none⟩)/\Im b/\ ∀j t,cs[j]? =some t-> ∃u,w.cell? ⟨b,off+j,none⟩=some u/\POk w Im u t
inductive AS (e:Env):AV->Value->Prop
 |non (v:Value):AS e .non v
 |dead (v:Value) (h:v.oneCell'=true):AS e .dead v
 |und:AS e .und undef
 |sc (v:Value) (h:ES v=true):AS e (.sc v) v
 |nil (k:Nat) (a:Option Addr):AS e (.nil k) (.slice a 0 0)
 |im (v:Value) (k:Nat) (rows:List (List T)) (h:POk e.w e.Im v (.sl k rows)):AS e (.im k rows) v
 |al (v:Value) (i k:Nat) (rows:List (List T)) (hv:v=e.tk i) (h:POk e.w e.Im v (.sl k rows)):AS e (.al i k rows) v
 |ref (o:Nat) (p:AQ) (k:Nat) (rows:List (List T)) (h:e.node o p=some (k,rows)):AS e (.ref o p) (e.hd o p)
 |vw (o:Nat) (p:AQ) (lo hi k:Nat) (rows:List (List T)) (v:Value) (h:e.node o p=some (k,rows)) (h1:lo<=hi) (h2:hi<=rows.length)
   (hw:Gt (e.hd o p) k lo hi v):AS e (.vw o p lo hi) v
 |pb (o j:Nat) (cs:List AV) (h:e.ob o= .box cs):AS e (.pb o j) (.pointer (some ⟨e.bk o,j,none⟩))
 |pa (o:Nat) (p:AQ) (i j k b off n c:Nat) (rows:List (List T)) (h:e.node o p=some (k,rows)) (hh:e.hd o p= .slice (some ⟨b,off,none⟩) n c) (hc:0<c):
   AS e (.pa o p i j) (.pointer (some ⟨b,off+(i*k+j),none⟩))
 |pim (v:Value) (cs:List T) (h:IV e.w e.Im v cs):AS e (.pim cs) v
 |agg (l:List AV) (vs:List Value) (hl:l.length=vs.length) (h: ∀ (i:Nat) (a:AV) (v:Value),l[i]? =some a->vs[i]? =some v->AS e a v):AS e (.agg l) (.agg vs.toArray)
 |tup (l:List AV) (vs:List Value) (hl:l.length=vs.length) (h: ∀ (i:Nat) (a:AV) (v:Value),l[i]? =some a->vs[i]? =some v->AS e a v):AS e (.tup l) (.tuple vs.toArray)
 |clo (f:Nat) (l:List AV) (vs:List Value) (hl:l.length=vs.length) (h: ∀ (i:Nat) (a:AV) (v:Value),l[i]? =some a->vs[i]? =some v->AS e a v):
   AS e (.clo f l) (.func (.func f) #[] vs.toArray)
structure D7 (w0:World) (F:Nat->Prop) (w:World):Prop where
 os:w.os=w0.os
 tape:w.tape=w0.tape
 output:w.output=w0.output
 size:w0.heap.size<=w.heap.size
 block: ∀k,k<w0.heap.size-> ¬F k->w.heap[k]? =w0.heap[k]?
theorem D7.refl (w:World) (F:Nat->Prop):D7 w F w:=⟨rfl,rfl,rfl,Nat.le_refl _,λ_ _ _=>rfl⟩
theorem Bq.one {w:World} {v:Value} {k:Nat} {rows:List (List T)} {sub:Nat->Nat->Value} (h:Bq w v k rows sub):v.oneCell'=true:=by
 obtain⟨_,_,rfl,_⟩:=h;rfl
structure Fm where
 w0:World
 F:Nat->Prop
 I:Nat->Prop
 H:Nat->Value
 B:Nat->Nat
 T:Nat->Value
structure Mem (fm:Fm) (e:Env):Prop where
 box: ∀o cs,e.ob o= .box cs-> ∀ (j:Nat) c,cs[j]? =some c->Wr e.w (e.bk o) j/\ ∃u,e.w.cell? ⟨e.bk o,j,none⟩=some u/\AS e c u
 node: ∀o p k rows,e.node o p=some (k,rows)->Bq e.w (e.hd o p) k rows (λi j=>e.hd o (p++[(i,j)]))
 inj: ∀l l' b,e.blk l=some b->e.blk l'=some b->l=l'
 own: ∀l b,e.blk l=some b->b<e.w.heap.size/\(fm.w0.heap.size<=b\/fm.F b)/\ ¬e.Im b
 im: ∀x,e.Im x->x<e.w.heap.size/\(x<fm.w0.heap.size->fm.I x\/fm.F x)
 im0: ∀x,fm.I x->e.Im x
 keeps:D7 fm.w0 fm.F e.w
 tk:e.tk=fm.T
structure Rel (fm:Fm) (e:Env) (s:St) (a:Act):Prop where
 mem:Mem fm e
 ob: ∀o,e.ob o=AN s.ob o
 pinh: ∀o k rows,o<s.m->e.ob o= .arr k rows->e.hd o []=fm.H o
 pinb: ∀o cs,o<s.m->e.ob o= .box cs->e.bk o=fm.B o
 size:a.tmps.size=s.n
 defers:a.defers=[]
 tm: ∀t,AS e (Aw s.tm t) (a.tmps.getD t undef)
def Pl.obj:Pl->Nat
 | .nd o _=>o
 | .bx o=>o
structure Evo (e e':Env) (M:List Nat):Prop where
 size:e.w.heap.size<=e'.w.heap.size
 same: ∀b,b<e.w.heap.size->(∀l,e.blk l=some b->l.obj∉M)->e'.w.heap[b]? =e.w.heap[b]?
theorem Evo.refl (e:Env) (M:List Nat):Evo e e M:=⟨Nat.le_refl _,λ_ _ _=>rfl⟩
def Reach (fm:Fm) (e:Env) (M:List Nat) (s:St) (a:Act) (w:World):Prop:= ∃e',e'.w=w/\Rel fm e' s a/\Evo e e' M
structure B0 (e e':Env) (f:Nat->AQ->Option (Nat×AQ)):Prop where
 im: ∀b,e.Im b->e'.Im b/\e'.w.heap[b]? =e.w.heap[b]?
 node: ∀o p k rows o' p',e.node o p=some (k,rows)->f o p=some (o',p')-> ∃rows',e'.node o' p'=some (k,rows')/\rows'.length=rows.length/\e'.hd o' p'=e.hd o p
 box: ∀o cs,e.ob o= .box cs-> ∃cs',e'.ob o= .box cs'/\e'.bk o=e.bk o
 one: ∀o p k rows,e.node o p=some (k,rows)->(e.hd o p).oneCell'=true
 tk:e'.tk=e.tk
theorem IV.mono {w w':World} {Im Im':Nat->Prop} (h1: ∀b,Im b->Im' b) (h2: ∀b,Im b->w'.heap[b]? =w.heap[b]?) {v:Value} {cs:List T}
  (h:IV w Im v cs):IV w' Im' v cs:=by
 obtain⟨b,off,rfl,him,hc⟩:=h
 refine⟨b,off,rfl,h1 b him,λj t ht=> ?_⟩
 obtain⟨u,hu,hp⟩:=hc j t ht
 refine⟨u,?_,hp.mono h1 h2⟩
 unfold World.cell? at*
 rw[h2 b him];exact hu
theorem AS.sub {e e':Env} {f:Nat->AQ->Option (Nat×AQ)} (hC:B0 e e' f) {a:AV} {v:Value} (h:AS e a v):AS e' (a.sub f) v:=by
 have hs: ∀o p k rows,e.node o p=some (k,rows)->(e.hd o p).oneCell'=true:=hC.one;have hp: ∀ {v t},POk e.w e.Im v t->POk e'.w e'.Im v t:=λh=>h.mono (λb hb=>(hC.im b hb).1) (λb hb=>(hC.im b hb).2)
 have hq: ∀ {v cs},IV e.w e.Im v cs->IV e'.w e'.Im v cs:=λh=>h.mono (λb hb=>(hC.im b hb).1) (λb hb=>(hC.im b hb).2)
 have hl: ∀ {l:List AV} {vs:List Value},(∀ (i:Nat) (a:AV) (v:Value),l[i]? =some a->vs[i]? =some v->AS e' (a.sub f) v)->
   ∀ (i:Nat) (a:AV) (v:Value),(CL f l)[i]? =some a->vs[i]? =some v->AS e' a v:=by
  intro l vs H i a v ha hv
  rw[Bf,List.getElem?_map]at ha
  cases hla:l[i]? with
  |none=>simp[hla]at ha
  |some x=>simp[hla]at ha;subst ha;exact H i x v hla hv
 induction h with
 |non v=>exact .non v
 |dead v h=>exact .dead v h
 |und=>exact .und
 |sc v h=>exact .sc v h
 |nil k a=>exact .nil k a
 |im v k rows h=>exact .im v k rows (hp h)
 |al v i k rows hv h=>exact .al v i k rows (hv.trans (congrFun hC.tk i).symm) (hp h)
 |ref o p k rows h=>
  simp only[AV.sub]
  cases hf:f o p with
  |none=>exact .dead _ (hs o p k rows h)
  |some x=>
   obtain⟨o',p'⟩:=x;obtain⟨rows',h1,h2,h3⟩:=hC.node o p k rows o' p' h hf;rw[<-h3];exact .ref o' p' k rows' h1
 |vw o p lo hi k rows v h h1 h2 hw=>
  simp only[AV.sub]
  cases hf:f o p with
  |none=>exact .dead _ (by obtain⟨_,_,_,_,_,_,rfl,_⟩:=hw;rfl)
  |some x=>
   obtain⟨o',p'⟩:=x;obtain⟨rows',g1,g2,g3⟩:=hC.node o p k rows o' p' h hf;exact .vw o' p' lo hi k rows' v g1 h1 (g2 ▸ h2) (g3 ▸ hw)
 |pb o j cs h=>
  obtain⟨cs',h1,h2⟩:=hC.box o cs h;simp only[AV.sub];rw[<-h2];exact .pb o j cs' h1
 |pa o p i j k b off n c rows h hh hc=>
  simp only[AV.sub]
  cases hf:f o p with
  |none=>exact .dead _ rfl
  |some x=>
   obtain⟨o',p'⟩:=x;obtain⟨rows',g1,g2,g3⟩:=hC.node o p k rows o' p' h hf;exact .pa o' p' i j k b off n c rows' g1 (g3.trans hh) hc
 |pim v cs h=>exact .pim v cs (hq h)
 |agg l vs hl1 h ih=>exact .agg _ vs (by rw[Bf,List.length_map];exact hl1) (hl ih)
 |tup l vs hl1 h ih=>exact .tup _ vs (by rw[Bf,List.length_map];exact hl1) (hl ih)
 |clo g l vs hl1 h ih=>exact .clo g _ vs (by rw[Bf,List.length_map];exact hl1) (hl ih)
theorem AV.sub_id (f:Nat->AQ->Option (Nat×AQ)) (hf: ∀o p,f o p=some (o,p)): ∀a:AV,a.sub f=a:=by
 have key: ∀ (n:Nat) (a:AV),SizeOf.sizeOf a<n->a.sub f=a:=by
  intro n
  induction n with
  |zero=>intro a h;omega
  |succ n ih=>
   intro a h;have hl: ∀l:List AV,SizeOf.sizeOf l<n->CL f l=l:=by
    intro l
    induction l with
    |nil=>intro _;rfl
    |cons a l ihl=>
     intro h;simp at h;simp only[CL];rw[ih a (by omega),ihl (by omega)]
   cases a with
   |ref o p=>simp[AV.sub,hf]
   |vw o p lo hi=>simp[AV.sub,hf]
   |pa o p i j=>simp[AV.sub,hf]
   |agg l=>simp at h;simp only[AV.sub];rw[hl l (by omega)]
   |tup l=>simp at h;simp only[AV.sub];rw[hl l (by omega)]
   |clo g l=>simp at h;simp only[AV.sub];rw[hl l (by omega)]
   |_=>rfl
 exact λa=>key _ a (Nat.lt_succ_self _)
theorem AS.carry {e e':Env} (hC:B0 e e' λo p=>some (o,p)) {a:AV} {v:Value} (h:AS e a v):AS e' a v:=by
 have:=h.sub hC;rwa [AV.sub_id _ (λ_ _=>rfl)]at this
section
variable {P:Program} {fm:Fm} {M:List Nat} {e:Env} {s s':St} {a:Act}
theorem Iu {t:TypeId} {v:Value} {x:AV} (h:Fj P t v=some x):AS e x v:=by
 unfold Fj at h;split at h
 ·split at h
  ·rename_i el _
   cases hk:Bk P el with
   |none=>simp[hk]at h
   |some k=>simp[hk]at h;subst h;exact .nil _ _
  ·cases h
 ·rename_i f fi ca;split at h
  ·rename_i hz
   cases h
   have h1:fi= #[]:=Array.eq_empty_of_size_eq_zero hz.1;have h2:ca= #[]:=Array.eq_empty_of_size_eq_zero hz.2;subst h1;subst h2;exact .clo f [] [] rfl (λi a v h=>by simp at h)
  ·cases h
 ·split at h
  ·cases h;exact .sc _ (by assumption)
  ·cases h
theorem Ou: ∀ {ts:List TypeId} {vs:List Value} {l:List AV},C4 P ts vs=some l->
  l.length=vs.length/\ ∀ (i:Nat) (a:AV) (v:Value),l[i]? =some a->vs[i]? =some v->AS e a v
 |[],[],l,h=>by simp[C4]at h;subst h;exact⟨rfl,λi a v h=>by simp at h⟩
 |t::ts,v::vs,l,h=>by
  simp only[C4]at h;split at h
  ·rename_i x m hx hm;simp at h;subst h;obtain⟨h1,h2⟩:=Ou hm;refine⟨by simp[h1],λi a u ha hu=> ?_⟩
   cases i with
   |zero=>simp at ha hu;subst ha;subst hu;exact Iu hx
   |succ i=>simp at ha hu;exact h2 i a u ha hu
  ·cases h
 |[],_::_,l,h=>by simp[C4]at h
 |_::_,[],l,h=>by simp[C4]at h
theorem Vo {t:TypeId} {v:Value} {x:AV} (h:HG P t v=some x):AS e x v:=by
 unfold HG at h;split at h
 ·rename_i cs;split at h
  ·rename_i ts _
   cases hm:C4 P ts cs.toList with
   |none=>simp[hm]at h
   |some l=>
    simp[hm]at h;subst h;obtain⟨h1,h2⟩:=Ou (e:=e) hm;have:=AS.agg (e:=e) l cs.toList h1 h2;simpa using this
  ·cases h
 ·exact Iu h
theorem At (hR:Rel fm e s a) {t:TypeId} {x:Operand} {X:X} (h:xOf P t x=some X):AS e (ev s.tm X) (a.eval x):=by
 cases x with
 |tmp n=>simp[xOf]at h;subst h;exact hR.tm n
 |const v=>
  simp only[xOf]at h
  cases hc:HG P t v with
  |none=>simp[hc]at h
  |some y=>simp[hc]at h;subst h;exact Vo hc
 |func f=>simp[xOf]at h;subst h;exact .clo f [] [] rfl (λi a v h=>by simp at h)
 |global g=>simp[xOf]at h
theorem KM (hR:Rel fm e s a): ∀ {ts:List TypeId} {xs:List Operand} {Xs:List X},Hb P ts xs=some Xs->
  (Xs.map (ev s.tm)).length=(xs.map a.eval).length/\ ∀ (i:Nat) (x:AV) (v:Value),(Xs.map (ev s.tm))[i]? =some x->(xs.map a.eval)[i]? =some v->AS e x v
 |[],[],l,h=>by simp[Hb]at h;subst h;exact⟨rfl,λi a v h=>by simp at h⟩
 |t::ts,x::xs,l,h=>by
  simp only[Hb]at h;split at h
  ·rename_i y m hx hm;simp at h;subst h;obtain⟨h1,h2⟩:=KM hR hm;refine⟨by simpa using h1,λi z u ha hu=> ?_⟩
   cases i with
   |zero=>simp at ha hu;subst ha;subst hu;exact At hR hx
   |succ i=>simp at ha hu;exact h2 i z u (by simpa using ha) (by simpa using hu)
  ·cases h
 |[],_::_,l,h=>by simp[Hb]at h
 |_::_,[],l,h=>by simp[Hb]at h
theorem WM {d:Option Nat} {x:AV} (h:s.put d x=some s'):s'.ob=s.ob/\s'.n=s.n/\s'.m=s.m/\(∀t,d=some t->t<s.n)/\
  ∀u,Aw s'.tm u=if d=some u then x else Aw s.tm u:=by
 unfold St.put at h
 cases d with
 |none=>
  simp at h;subst h;refine⟨rfl,rfl,rfl,?_,?_⟩
  ·intro t h;cases h
  ·intro u;simp
 |some t=>
  simp only at h;by_cases hlt:t<s.n
  ·rw[if_pos hlt]at h
   cases h
   refine⟨rfl,rfl,rfl,λu h=>by cases h;exact hlt,λu=> ?_⟩;simp only[XD];by_cases e:u=t
   ·subst e;simp
   ·rw[if_neg e,if_neg (by simp;exact λh=>e h.symm)]
  ·rw[if_neg hlt]at h;cases h
theorem XG (a:Act) (d:Option Nat) (v:Value) (hd: ∀t,d=some t->t<a.tmps.size) (u:Nat):
  (a.put d v).tmps.getD u undef=if d=some u then v else a.tmps.getD u undef:=by
 cases d with
 |none=>simp[Act.put]
 |some t=>
  have:=hd t rfl;simp only[Act.put,Array.getD_eq_getD_getElem?,Array.getElem?_setIfInBounds,Option.some.injEq];by_cases e:t=u
  ·subst e;simp[this]
  ·simp[e]
theorem WN (a:Act) (d:Option Nat) (v:Value):(a.put d v).tmps.size=a.tmps.size:=by cases d<;>simp[Act.put]
theorem TI (a:Act) (d:Option Nat) (v:Value):(a.put d v).defers=a.defers:=by cases d<;>simp[Act.put]
theorem Rel.put (hR:Rel fm e s a) {d:Option Nat} {x:AV} {v:Value} (hv:AS e x v) (h:s.put d x=some s'):
  Rel fm e s' (a.put d v):=by
 obtain⟨h1,h2,hm,h3,h4⟩:=WM h
 refine⟨hR.mem,λo=>by rw[h1];exact hR.ob o,by rw[hm];exact hR.pinh,by rw[hm];exact hR.pinb,by rw[WN,hR.size,h2],by rw[TI];exact hR.defers,λt=> ?_⟩
 rw[h4,XG a d v (λt ht=>by rw[hR.size];exact h3 t ht)]
 split
 ·exact hv
 ·exact hR.tm t
theorem KO (hR:Rel fm e s a) {o:Oper} {x:AV} {v:Value} (hrun:(execOp a.eval o).run P e.w= .ok (.value v) e.w)
  (hv:AS e x v) (h:s.put o.dst x=some s') (Q:Exit->Act->World->Prop):o.wp P a e.w (Reach fm e M s') Q:=by
 unfold Oper.wp
 rw[hrun,Oper.upon_value]
 exact⟨e,rfl,hR.put hv h,Evo.refl e M⟩
def Yl (P:Program) (e:Env) (s:St) (o:Oper) (a:Act) (s':St):Prop:=
 ∃ (v:Value) (x:AV),(∀w:World,(execOp a.eval o).run P w= .ok (.value v) w)/\AS e x v/\s.put o.dst x=some s'
theorem yl {o:Oper} {x:AV} {v:Value} (hrun: ∀w:World,(execOp a.eval o).run P w= .ok (.value v) w) (hv:AS e x v) (h:s.put o.dst x=some s'):Yl P e s o a s':=
 ⟨v,x,hrun,hv,h⟩
theorem Yl.wp {o:Oper} (h:Yl P e s o a s') (hR:Rel fm e s a) (Q:Exit->Act->World->Prop):o.wp P a e.w (Reach fm e M s') Q:=by
 obtain⟨v,x,h1,h2,h3⟩:=h;exact KO hR (h1 e.w) h2 h3 Q
theorem bin_int (op : BinOp) (t : TypeId) (k k' : IntKind) (x y : Int) (r : Value) (w : World) (h : Sq op (.int k x) (.int k' y) = some r) :
    (binOp op t (.int k x) (.int k' y)).run P w = .ok r w /\ ES r = true := by
  cases op <;> simp only [Sq] at h <;>
    first
      | (split at h
         · cases h
         · cases h; rename_i hb; constructor
           · simp [binOp, Op.shift, hb]
           · rfl)
      | (split at h
         · rename_i hk; subst hk
           first
             | (cases h; constructor
                · simp [binOp, Op.intArith, Op.intBits, Op.intCmp, bits]
                · rfl)
             | (split at h
                · cases h
                · cases h; rename_i hb; constructor
                  · simp [binOp, Op.intDiv, hb]
                  · rfl)
             | (cases h)
         · cases h)
      | cases h
theorem T4 (op : BinOp) (t : TypeId) (x y : ByteArray) (r : Value) (w : World) (h : Sq op (.string x) (.string y) = some r) :
    (binOp op t (.string x) (.string y)).run P w = .ok r w /\ ES r = true := by
  cases op <;> simp only [Sq] at h <;> first
    | (cases h; done)
    | (cases h; exact ⟨by simp [binOp, Op.stringOp], rfl⟩)
    | (split at h
       · cases h; rename_i hb
         refine ⟨?_, rfl⟩
         have hi : IntKind.i64.max = 9223372036854775807 := by decide
         simp only [binOp, Op.stringOp, hi]
         rw [if_neg (by omega)]; rfl
       · cases h)
theorem AR {t:TypeId} {d:TypeDesc} (h:P.underlying t=some d) (w:World):(underlying t).run P w= .ok d w:=by
 simp[underlying,h]
theorem Xp (op:BinOp) (t:TypeId) (ht:P.underlying t=some .bool) (x y:Bool) (r:Value) (w:World) (h:Xq op x y=some r):
  (binOp op t (.bool x) (.bool y)).run P w= .ok r w/\ES r=true:=by
 have hd: ∀d,(Op.equalIn (d+1) t (.bool x) (.bool y)).run P w= .ok (x==y) w:=by
  intro d;simp[Op.equalIn,AR ht]
 have he:(Op.equal t (.bool x) (.bool y)).run P w= .ok (x==y) w:=hd 9999
 cases op<;>simp only[Xq]at h<;>first
  |(cases h;done)
  |(cases h;exact⟨by simp[binOp,he],rfl⟩)
theorem Ol (op:BinOp) (t:TypeId) (x y:Operand) (u v:Value) (hu:ES u=true) (w:World):(eqGuard op t x y u v).run P w= .ok () w:=by
 cases op<;>first
  |rfl
  |(cases u<;>first
    |rfl
    |(simp[ES]at hu;done))
theorem AS.sc_inv {v u:Value} (h:AS e (.sc v) u):u=v/\ES v=true:=by cases h;exact⟨rfl,by assumption⟩
end
section
def AV.place:AV->Option (Nat×AQ)
 | .ref o p=>some (o,p)
 | .vw o p _ _=>some (o,p)
 |_=>none
variable {P:Program} {fm:Fm} {M:List Nat} {e:Env} {s s':St} {a:Act}
theorem BZ (b off n:Nat):Addr.add ⟨b,off,none⟩ n=⟨b,off+n,none⟩:=by
 unfold Addr.add;split
 ·rename_i h;subst h;rfl
 ·rfl
theorem Dn {α:Type} (rows:List (List α)) (lo hi i j:Nat) {d:α} (h:AI ((rows.take hi).drop lo) i j=some d):AI rows (lo+i) j=some d:=by
 obtain⟨r,hr,hd⟩:=AZ h;rw[List.getElem?_drop]at hr;have h2:rows[lo+i]? =some r:=by
  rw[List.getElem?_take]at hr;split at hr
  ·exact hr
  ·cases hr
 rw[B7 h2];exact hd
theorem Ny {α:Type} {rows:List α} {lo hi:Nat} {r:α} (h:r∈(rows.take hi).drop lo):r∈rows:=
 List.mem_of_mem_take (List.mem_of_mem_drop h)
theorem POk.window {w:World} {Im:Nat->Prop} {hv v:Value} {k lo hi:Nat} {rows:List (List T)} (h:POk w Im hv (.sl k rows)) (hw:Gt hv k lo hi v)
  (h1:lo<=hi) (h2:hi<=rows.length):POk w Im v (.sl k ((rows.take hi).drop lo)):=by
 obtain⟨a,n,c,a',c',rfl,rfl,hc',hx⟩:=hw
 have hlen:((rows.take hi).drop lo).length=hi - lo:=by simp;omega
 by_cases hz:hi - lo=0
 ·have:(rows.take hi).drop lo=[]:=List.eq_nil_of_length_eq_zero (by omega)
  rw[this,hz]
  exact .nil _ _ _
 ·obtain⟨hcc,rfl⟩:=hx (by omega)
  generalize hv':(Value.slice a n c)=hv at h
  cases h with
  |nil=>simp at h2;omega
  |sl b off c2 k rows us him hle hk hc hs=>
   cases hv'
   rw[<-hlen];simp only[Option.map_some,BZ];refine .sl b (off+lo*k) c' k _ (λi j=>us (lo+i) j) him (by omega) (λr hr=>hk r (Ny hr)) (λi j t ht=> ?_) (λi j t ht=>hs (lo+i) j t (Dn _ _ _ _ _ ht));have:=hc (lo+i) j t (Dn _ _ _ _ _ ht);rw[<-this];congr 2;rw[Nat.add_mul];omega
theorem R0 (hM:Mem fm e): ∀ (d:T) (o:Nat) (p:AQ) (k:Nat) (rows:List (List T)),d= .sl k rows->e.node o p=some (k,rows)->
  POk e.w (λb=> ∃q,e.blk (.nd o (p++q))=some b) (e.hd o p) (.sl k rows):=by
 intro d
 induction d using T.cells_ind with
 |sc v=>intro o p k rows h;cases h
 |hole=>intro o p k rows h;cases h
 |own k rows ih=>
  intro o p k2 rows2 h hn
  cases h
  obtain⟨ad,c,hv,hle,hc⟩:=hM.node o p k rows hn;rw[hv];by_cases hz:rows.length=0
  ·have:rows=[]:=List.eq_nil_of_length_eq_zero hz;subst this;exact .nil _ _ _
  ·obtain⟨b,off,rfl,_,hk,hcell⟩:=hc (by omega);have hblk:e.blk (.nd o p)=some b:=by
    simp only[Env.blk,hn,hv,BC];rw[if_pos (by omega)]
   refine .sl b off c k _ (λi j=>(e.w.cell? ⟨b,off+(i*k+j),none⟩).getD undef) ⟨[],by simpa using hblk⟩ hle.1 hk (λi j t ht=> ?_) (λi j t ht=> ?_)
   ·obtain⟨u,hu,_⟩:=hcell i j t ht;rw[hu];rfl
   ·obtain⟨u,hu,hok⟩:=hcell i j t ht;rw[hu]
    cases t with
    |sc s=>obtain⟨rfl,hs⟩:=hok;exact .sc _ hs
    |hole=>exact .hole _ hok
    |sl k' rows'=>
     simp only[CU]at hok;have hn':e.node o (p++[(i,j)])=some (k',rows'):=by
      unfold Env.node at hn ⊢;split at hn
      ·rename_i k0 rows0 he;rw[BI,hn];simp[AM,ht]
      ·cases hn
     have:=ih i j _ ht o (p++[(i,j)]) k' rows' rfl hn';simp only[Option.getD_some,hok];exact this.mono (λb ⟨q,hq⟩=>⟨(i,j)::q,by simpa using hq⟩) (λ_ _=>rfl)
theorem DM (hR:Rel fm e s a) (o:Nat) (p:AQ):Cu s.ob o p=e.node o p:=by
 unfold Cu Env.node;rw[hR.ob o]
 all_goals (generalize AN s.ob o=x;cases x<;>rfl)
theorem Ia (hR:Rel fm e s a) {x:AV} {v:Value} {k:Nat} {rows:List (List T)} (hx:AS e x v) (h:Bm s.ob x=some (k,rows)):
  POk e.w (λb=>e.Im b\/ ∃o p q,x.place=some (o,p)/\e.blk (.nd o (p++q))=some b) v (.sl k rows):=by
 cases hx with
 |nil k' ad=>simp[Bm]at h;obtain⟨rfl,rfl⟩:=h;exact .nil _ _ _
 |im v k' rows' hp=>simp[Bm]at h;obtain⟨rfl,rfl⟩:=h;exact hp.mono (λ_ h=> .inl h) (λ_ _=>rfl)
 |al v j k' rows' hv hp=>simp[Bm]at h;obtain⟨rfl,rfl⟩:=h;exact hp.mono (λ_ h=> .inl h) (λ_ _=>rfl)
 |ref o p k' rows' hn=>
  simp[Bm,DM hR,hn]at h;obtain⟨rfl,rfl⟩:=h;exact(R0 hR.mem _ o p k' rows' rfl hn).mono (λb ⟨q,hq⟩=> .inr ⟨o,p,q,rfl,hq⟩) (λ_ _=>rfl)
 |vw o p lo hi k' rows' v hn h1 h2 hw=>
  simp[Bm,DM hR,hn]at h;obtain⟨rfl,rfl⟩:=h;have:=((R0 hR.mem _ o p k' rows' rfl hn).mono (Im':=λb=>e.Im b\/ ∃o' p' q,(AV.vw o p lo hi).place=some (o',p')/\e.blk (.nd o' (p'++q))=some b) (λb ⟨q,hq⟩=> .inr ⟨o,p,q,rfl,hq⟩) (λ_ _=>rfl)).window hw h1 h2;exact this
 |_=>simp[Bm]at h
end
section
variable {P:Program} {fm:Fm} {M:List Nat} {e:Env} {s s':St} {a:Act} {Q:Exit->Act->World->Prop}
variable {K:Nat->List Arg->Option Res} {md:Nat->List Nat}
theorem C7 {t:TypeId} {n:Nat} (h:Bk P t=some n) (w:World):(sizeOf t).run P w= .ok n w:=by
 unfold Bk at h
 cases hi:P.info? t with
 |none=>simp[hi]at h
 |some i=>simp[hi]at h;simp[sizeOf,typeInfo,hi,h]
theorem R7 {t:TypeId} (h:nOf P t=some none) (w:World):(isAgg t).run P w= .ok false w:=by
 unfold nOf at h;unfold isAgg
 cases hu:P.underlying t with
 |none=>simp[hu]at h
 |some d=>cases d<;>simp[hu]at h<;>simp[AR hu]
theorem R6 {t:TypeId} {n:Nat} (h:nOf P t=some (some n)) (w:World):(isAgg t).run P w= .ok true w/\(sizeOf t).run P w= .ok n w:=by
 unfold nOf at h;unfold isAgg
 cases hu:P.underlying t with
 |none=>simp[hu]at h
 |some d=>cases d<;>simp[hu]at h<;>exact⟨by simp[AR hu],C7 h w⟩
theorem Qk (hR:Rel fm e s a) {o:Oper} {x:Operand} {X:X} (ho:o.op= .move x\/o.op= .assign x) (hx:xOf P o.type x=some X)
  (h:s.put o.dst (ev s.tm X)=some s'):Yl P e s o a s':=
 yl (v:=a.eval x) (λw=>by rcases ho with ho|ho<;>simp[execOp,ho]) (At hR hx) h
theorem op_pick (hR:Rel fm e s a) {o:Oper} {c x y:Operand} {C X Y:Ow.X} (ho:o.op= .pick c x y) (hc:xOf P o.type c=some C) (hx:xOf P o.type x=some X)
  (hy:xOf P o.type y=some Y) (h:Ad K md s o.dst (.pick C X Y)=some s'):Yl P e s o a s':=by
 have h1:=At hR hc
 simp only[Ad]at h
 split at h
 ·rename_i b hb
  rw[hb]at h1
  obtain⟨h1,_⟩:=h1.sc_inv
  cases b
  ·simp at h
   exact yl (v:=a.eval y) (λw=>by simp[execOp,ho,asBool,h1]) (At hR hy) h
  ·simp at h
   exact yl (v:=a.eval x) (λw=>by simp[execOp,ho,asBool,h1]) (At hR hx) h
 ·cases h
theorem WY (hR:Rel fm e s a) {o:Oper} {op:BinOp} {t t2:TypeId} {x y:Operand} {X Y:Ow.X} (ho:o.op= .binOp op t x y t2)
  {tx ty:TypeId} (hx:xOf P tx x=some X) (hy:xOf P ty y=some Y)
  (h:Ad K md s o.dst (.bin op X Y)=some s'):Yl P e s o a s':=by
 have h1:=At hR hx
 have h2:=At hR hy
 simp only[Ad]at h
 split at h
 ·rename_i v hv
  unfold binA at hv
  split at hv
  ·rename_i u1 u2 e1 e2
   rw[e1]at h1
   rw[e2]at h2
   obtain⟨g1,sc1⟩:=h1.sc_inv
   obtain⟨g2,sc2⟩:=h2.sc_inv
   cases hr:Sq op u1 u2 with
   |none=>simp[hr]at hv
   |some r=>
    simp[hr]at hv;subst hv;have key: ∀w:World,(binOp op t (a.eval x) (a.eval y)).run P w= .ok r w/\ES r=true:=by
     intro w;rw[g1,g2]
     cases u1<;>cases u2<;>first
      |(simp[Sq]at hr;done)
      |exact bin_int op t _ _ _ _ r w hr
      |exact T4 op t _ _ r w hr
    refine yl (v:=r) (λw=> ?_) (.sc r (key e.w).2) h;simp[execOp,ho,Ol op t x y (a.eval x) (a.eval y) (by rw[g1];exact sc1),(key w).1]
  ·cases hv
 ·cases h
theorem WZ (hR:Rel fm e s a) {o:Oper} {op:BinOp} {t t2:TypeId} {x y:Operand} {X Y:Ow.X} (ho:o.op= .binOp op t x y t2)
  {tx ty:TypeId} (hx:xOf P tx x=some X) (hy:xOf P ty y=some Y) (hb:P.underlying t=some .bool)
  (h:Ad K md s o.dst (.beq op X Y)=some s'):Yl P e s o a s':=by
 have h1:=At hR hx
 have h2:=At hR hy
 simp only[Ad]at h
 split at h
 ·rename_i v hv
  unfold beqA at hv
  split at hv
  ·rename_i u1 u2 e1 e2
   rw[e1]at h1
   rw[e2]at h2
   obtain⟨g1,sc1⟩:=h1.sc_inv
   obtain⟨g2,sc2⟩:=h2.sc_inv
   cases hr:Xq op u1 u2 with
   |none=>simp[hr]at hv
   |some r=>
    simp[hr]at hv;subst hv;have key: ∀w:World,(binOp op t (a.eval x) (a.eval y)).run P w= .ok r w/\ES r=true:=by
     intro w;rw[g1,g2];exact Xp op t hb _ _ r w hr
    refine yl (v:=r) (λw=> ?_) (.sc r (key e.w).2) h;simp[execOp,ho,Ol op t x y (a.eval x) (a.eval y) (by rw[g1];exact sc1),(key w).1]
  ·cases hv
 ·cases h
theorem op_un (hR:Rel fm e s a) {o:Oper} {op:UnOp} {t:TypeId} {x:Operand} {X:X} (ho:o.op= .unOp op t x) {tx:TypeId} (hx:xOf P tx x=some X)
  (h:Ad K md s o.dst (.un op X)=some s'):Yl P e s o a s':=by
 have h1:=At hR hx
 simp only[Ad]at h
 split at h
 ·rename_i v hv
  unfold unA at hv
  split at hv
  ·rename_i k n e1
   rw[e1]at h1
   obtain⟨g1,_⟩:=h1.sc_inv
   split at hv
   ·cases hv
    exact yl (v:= .int k (k.wrap (0 - n))) (λw=>by simp[execOp,ho,g1,Op.unary,Op.intArith]) (.sc _ rfl) h
   ·cases hv
  ·rename_i b e1
   rw[e1]at h1
   obtain⟨g1,_⟩:=h1.sc_inv
   split at hv
   ·cases hv
    exact yl (v:= .bool (!b)) (λw=>by simp[execOp,ho,g1,Op.unary]) (.sc _ rfl) h
   ·cases hv
  ·cases hv
 ·cases h
theorem WV (hR:Rel fm e s a) {o:Oper} {t u:TypeId} {k0 k:IntKind} {x:Operand} {X:X} (ho:o.op= .convert t u x) (ht:P.underlying t=some (.int k0))
  (hu:P.underlying u=some (.int k)) {tx:TypeId} (hx:xOf P tx x=some X) (h:Ad K md s o.dst (.toInt k X)=some s'):Yl P e s o a s':=by
 have h1:=At hR hx
 simp only[Ad]at h
 split at h
 ·rename_i k' n e1
  rw[e1]at h1
  obtain⟨g1,_⟩:=h1.sc_inv
  exact yl (v:= .int k (k.wrap n)) (λw=>by simp[execOp,ho,g1,convert,AR ht,AR hu,Conv.intToInt]) (.sc _ rfl) h
 ·cases h
theorem WU (hR:Rel fm e s a) {o:Oper} {t u:TypeId} {k0:IntKind} {x:Operand} {X:X} (ho:o.op= .convert t u x) (ht:P.underlying t=some (.int k0))
  (hu:P.underlying u=some .string) {tx:TypeId} (hx:xOf P tx x=some X) (h:Ad K md s o.dst (.toStr X)=some s'):Yl P e s o a s':=by
 have h1:=At hR hx
 simp only[Ad]at h
 split at h
 ·rename_i k' n e1
  rw[e1]at h1
  obtain⟨g1,_⟩:=h1.sc_inv
  exact yl (v:= .string (Utf8.encode n)) (λw=>by simp[execOp,ho,g1,convert,AR ht,AR hu,Conv.intToString]) (.sc _ rfl) h
 ·cases h
theorem op_ext (hR:Rel fm e s a) {o:Oper} {x:Operand} {j:Nat} {X:X} (ho:o.op= .extract x j) {tx:TypeId} (hx:xOf P tx x=some X)
  (h:Ad K md s o.dst (.ext j X)=some s'):Yl P e s o a s':=by
 have h1:=At hR hx
 simp only[Ad]at h
 split at h
 ·rename_i l e1
  rw[e1]at h1
  split at h
  ·rename_i v hv
   generalize hev:a.eval x=ax at h1
   cases h1 with
   |tup l vs hl hh=>
    have hj:j<vs.length:=by rw[<-hl];exact(List.getElem?_eq_some_iff.1 hv).1
    have hu:vs[j]? =some vs[j]:=List.getElem?_eq_getElem hj;exact yl (v:=vs[j]) (λw=>by simp[execOp,ho,hev,Instr.extract,hu]) (hh j v _ hv hu) h
  ·cases h
 ·cases h
theorem op_nchk (hR:Rel fm e s a) {o:Oper} {x:Operand} {X:X} (ho:o.op= .nilCheck x) {tx:TypeId} (hx:xOf P tx x=some X)
  (h:Ad K md s o.dst (.nchk X)=some s'):Yl P e s o a s':=by
 have h1:=At hR hx
 simp only[Ad]at h
 generalize hev:a.eval x=ax at h1
 split at h
 ·rename_i o' j e1
  rw[e1]at h1
  have h2:=h1
  cases h1
  exact yl (v:= .pointer (some _)) (λw=>by simp[execOp,ho,hev]) h2 h
 ·rename_i o' p i j e1
  rw[e1]at h1
  have h2:=h1
  cases h1
  exact yl (v:= .pointer (some _)) (λw=>by simp[execOp,ho,hev]) h2 h
 ·rename_i c e1
  rw[e1]at h1
  have h2:=h1
  cases h1 with
  |pim v cs hp=>
   obtain⟨b,off,rfl,_⟩:=hp;exact yl (v:= .pointer (some _)) (λw=>by simp[execOp,ho,hev]) h2 h
 ·cases h
theorem op_fn (hR:Rel fm e s a) {o:Oper} {f:Nat} {caps:Array Operand} {ts:List TypeId} {Xs:List X} (ho:o.op= .makeFunc (.func f) #[] caps)
  (hx:Hb P ts caps.toList=some Xs) (h:Ad K md s o.dst (.fn f Xs)=some s'):Yl P e s o a s':=by
 obtain⟨h1,h2⟩:=KM hR hx
 simp only[Ad]at h
 refine yl (v:= .func (.func f) #[] (caps.map a.eval)) (λw=>by simp[execOp,ho,Instr.makeFunc]) ?_ h
 have:=AS.clo (e:=e) f _ _ h1 h2
 have he:caps.map a.eval=(caps.toList.map a.eval).toArray:=by
  apply Array.ext';simp
 rw[he];exact this
theorem Ww (hR:Rel fm e s a) {x:AV} {v:Value} {n:Nat} (h1:AS e x v) (hn:PQ s.ob x=some n): ∃ad c,v= .slice ad n c:=by
 cases h1 with
 |nil k ad=>simp[PQ]at hn;subst hn;exact⟨_,_,rfl⟩
 |im v k rows hp=>
  simp[PQ]at hn;subst hn
  cases hp with
  |nil ad c k=>exact⟨_,_,rfl⟩
  |sl b off c k rows us _ _ _ _ _=>exact⟨_,_,rfl⟩
 |al v i0 k rows hv0 hp=>
  simp[PQ]at hn;subst hn
  cases hp with
  |nil ad c k=>exact⟨_,_,rfl⟩
  |sl b off c k rows us _ _ _ _ _=>exact⟨_,_,rfl⟩
 |ref o' p k rows hno=>
  simp[PQ,DM hR,hno]at hn;subst hn;obtain⟨ad,c,hv,_⟩:=hR.mem.node o' p k rows hno;exact⟨_,_,hv⟩
 |vw o' p lo hi k rows v _ _ _ hw=>
  simp[PQ]at hn;subst hn;obtain⟨_,_,_,a',c',_,rfl,_⟩:=hw;exact⟨_,_,rfl⟩
 |_=>simp[PQ]at hn
theorem op_len (hR:Rel fm e s a) {o:Oper} {t el:TypeId} {x:Operand} {X:X} (ho:o.op= .call {callee:= .builtin .len,args:= #[x],argTypes:= #[t]})
  (ht:P.underlying t=some (.slice el)) {tx:TypeId} (hx:xOf P tx x=some X) (h:Ad K md s o.dst (.len X)=some s'):
  Yl P e s o a s':=by
 have h1:=At hR hx
 simp only[Ad]at h
 split at h
 ·rename_i n hn
  obtain⟨ad,c,hb⟩:=Ww hR h1 hn
  refine yl (v:= .int .i64 n) (λw=> ?_) (.sc _ rfl) h
  simp[execOp,ho,hb,resolve,invoke,builtin,Builtin.len_,AR ht,goInt]
 ·cases h
theorem op_slen (hR:Rel fm e s a) {o:Oper} {t:TypeId} {x:Operand} {X:X} (ho:o.op= .call {callee:= .builtin .len,args:= #[x],argTypes:= #[t]})
  (ht:P.underlying t=some .string) {tx:TypeId} (hx:xOf P tx x=some X) (h:Ad K md s o.dst (.slen X)=some s'):
  Yl P e s o a s':=by
 have h1:=At hR hx
 simp only[Ad]at h
 split at h
 ·rename_i b e1
  rw[e1]at h1
  obtain⟨g1,_⟩:=h1.sc_inv
  refine yl (v:= .int .i64 b.size) (λw=> ?_) (.sc _ rfl) h
  simp[execOp,ho,g1,resolve,invoke,builtin,Builtin.len_,AR ht,goInt]
 ·cases h
theorem op_mm (hR:Rel fm e s a) {o:Oper} {mx:Bool} {t t2:TypeId} {x y:Operand} {X Y:Ow.X}
  (ho:o.op= .call {callee:= .builtin (if mx then .max else .min),args:= #[x,y],argTypes:= #[t,t2]})
  {tx ty:TypeId} (hx:xOf P tx x=some X) (hy:xOf P ty y=some Y) (h:Ad K md s o.dst (.mm mx X Y)=some s'):
  Yl P e s o a s':=by
 have h1:=At hR hx
 have h2:=At hR hy
 simp only[Ad]at h
 split at h
 ·rename_i k m k' n e1 e2
  rw[e1]at h1
  rw[e2]at h2
  obtain⟨g1,_⟩:=h1.sc_inv
  obtain⟨g2,_⟩:=h2.sc_inv
  cases mx
  ·exact yl (v:= .int k (if n<m then n else m)) (λw=>by simp[execOp,ho,g1,g2,resolve,invoke,builtin,Builtin.min_,Builtin.min2]) (.sc _ rfl) h
  ·exact yl (v:= .int k (if m<n then n else m)) (λw=>by simp[execOp,ho,g1,g2,resolve,invoke,builtin,Builtin.max_,Builtin.max2]) (.sc _ rfl) h
 ·cases h
end
section
variable {P:Program} {fm:Fm} {M:List Nat} {e:Env} {s s':St} {a:Act} {Q:Exit->Act->World->Prop}
variable {K:Nat->List Arg->Option Res} {md:Nat->List Nat}
theorem HJ {α:Type} {l m:List α} {j n:Nat} (h:cells l j n=some m):j+n<=l.length/\m.length=n/\ ∀i,i<n->m[i]? =l[j+i]? :=by
 unfold cells at h;split at h
 ·rename_i hle
  cases h
  refine⟨hle,by simp;omega,λi hi=> ?_⟩;rw[List.getElem?_take,if_pos hi,List.getElem?_drop]
 ·cases h
theorem Nz {w:World} {t:TypeId} {n:Nat} (ht:nOf P t=some (some n)) (b off:Nat) (us:Nat->Value) (h: ∀i,i<n->w.cell? ⟨b,off+i,none⟩=some (us i)):
  (Instr.loadAt t (.pointer (some ⟨b,off,none⟩))).run P w= .ok (.agg ((List.range n).map us).toArray) w:=by
 obtain⟨h1,h2⟩:=R6 ht w
 have:=run_loadCells (P:=P) w ⟨b,off,none⟩ n us (λj hj=>by rw[BZ];exact h j hj)
 simp[Instr.loadAt,Instr.sureAddr,loadVar,h1,h2,this]
theorem N0 {w:World} {t:TypeId} (ht:nOf P t=some none) (b off:Nat) (u:Value) (h:w.cell? ⟨b,off,none⟩=some u):
  (Instr.loadAt t (.pointer (some ⟨b,off,none⟩))).run P w= .ok u w:=by
 have h1:=R7 ht w
 simp[Instr.loadAt,Instr.sureAddr,loadVar,h1,h]
theorem ML {e:Env} (l:List AV) (us:Nat->Value) (h: ∀i x,l[i]? =some x->AS e x (us i)):AS e (.agg l) (.agg ((List.range l.length).map us).toArray):=by
 refine .agg l _ (by simp) (λi x v hx hv=> ?_);have hi:i<l.length:=(List.getElem?_eq_some_iff.1 hx).1;rw[List.getElem?_map,List.getElem?_range hi]at hv;simp at hv;subst hv;exact h i x hx
theorem Rz (o:Nat) (p:AQ) (i:Nat): ∀ (l:List T) (j m:Nat),(Li o p i j l)[m]? =l[m]?.map (ofD o p i (j+m))
 |[],j,m=>by simp[Li]
 |d::l,j,0=>by simp[Li]
 |d::l,j,m+1=>by
  simp only[Li,List.getElem?_cons_succ];rw[Rz o p i l (j+1) m];congr 2;omega
theorem Nq (o:Nat) (p:AQ) (i:Nat): ∀ (l:List T) (j:Nat),(Li o p i j l).length=l.length
 |[],j=>rfl
 |d::l,j=>by simp[Li,Nq o p i l]
theorem Ry (l:List T):MW l=l.map Wc:=by
 induction l with
 |nil=>rfl
 |cons a l ih=>simp[MW,ih]
theorem UM {u:Value} {t:T} (h:POk e.w e.Im u t):AS e (Wc t) u:=by
 cases h with
 |sc _ h=>exact .sc _ h
 |hole _ h=>exact .dead _ h
 |nil a c k=>exact .im _ _ _ (.nil a c k)
 |sl b off c k rows us him hle hk hc hs=>exact .im _ _ _ (.sl b off c k rows us him hle hk hc hs)
theorem Pv (hM:Mem fm e) {o:Nat} {p:AQ} {k b off n c:Nat} {rows:List (List T)} (hn:e.node o p=some (k,rows))
  (hh:e.hd o p= .slice (some ⟨b,off,none⟩) n c) (hc:0<c) {i j:Nat} {d:T} (hd:AI rows i j=some d):
  ∃u,e.w.cell? ⟨b,off+(i*k+j),none⟩=some u/\AS e (ofD o p i j d) u:=by
 obtain⟨ad,c',hv,_,hx⟩:=hM.node o p k rows hn
 rw[hh]at hv
 cases hv
 obtain⟨b',off',hb,_,_,hcell⟩:=hx hc
 cases hb
 obtain⟨u,hu,hok⟩:=hcell i j d hd
 refine⟨u,hu,?_⟩
 cases d with
 |sc v=>obtain⟨rfl,hs⟩:=hok;exact .sc _ hs
 |hole=>exact .dead _ hok
 |sl k' rows'=>
  simp only[CU]at hok;subst hok;refine .ref o (p++[(i,j)]) k' rows' ?_;unfold Env.node at hn ⊢;split at hn
  ·rename_i k0 rows0 he;rw[BI,hn];simp[AM,hd]
  ·cases hn
theorem O0 {w w':World} {b j:Nat} (h:w'.heap[b]? =w.heap[b]?):w'.cell? ⟨b,j,none⟩=w.cell? ⟨b,j,none⟩:=by
 unfold World.cell?;rw[h]
theorem UT (hR:Rel fm e s a) {t:TypeId} {n:Option Nat} (ht:nOf P t=some n) {x y:AV} {v:Value} (hx:AS e x v) (h:Gb s.ob n x=some y):
  ∃u b off,v= .pointer (some ⟨b,off,none⟩)/\(∀w:World,w.heap[b]? =e.w.heap[b]? ->(Instr.loadAt t v).run P w= .ok u w)/\AS e y u:=by
 cases hx with
 |pb o j cs hb=>
  simp only[Gb,<-hR.ob o,hb]at h
  cases n with
  |none=>
   simp only at h;obtain⟨_,u,hu,hok⟩:=hR.mem.box o cs hb j y h;exact⟨u,_,_,rfl,λw hw=>N0 ht _ _ u (by rw[O0 hw];exact hu),hok⟩
  |some n=>
   simp only at h
   cases hc:cells cs j n with
   |none=>simp[hc]at h
   |some l=>
    simp[hc]at h;subst h;obtain⟨_,h2,h3⟩:=HJ hc;have key: ∀i x,l[i]? =some x-> ∃u,e.w.cell? ⟨e.bk o,j+i,none⟩=some u/\AS e x u:=λi x hx=>by
     have hi:i<n:=h2 ▸ (List.getElem?_eq_some_iff.1 hx).1;obtain⟨_,u,hu,hok⟩:=hR.mem.box o cs hb (j+i) x (by rw[<-h3 i hi];exact hx);exact⟨u,hu,hok⟩
    refine⟨_,_,_,rfl,λw hw=>Nz ht (e.bk o) j (λi=>(e.w.cell? ⟨e.bk o,j+i,none⟩).getD undef) (λi hi=> ?_),?_⟩
    ·obtain⟨u,hu,_⟩:=key i l[i] (List.getElem?_eq_getElem (by omega));rw[O0 hw,hu];rfl
    ·rw[<-h2];refine ML l _ (λi x hx=> ?_);obtain⟨u,hu,hok⟩:=key i x hx;simp only[hu];exact hok
 |pa o p i j k b off n' c rows hn hh hc=>
  simp only[Gb,DM hR,hn]at h;split at h
  ·rename_i r hr
   cases n with
   |none=>
    simp only at h
    cases hd:r[j]? with
    |none=>simp[hd]at h
    |some d=>
     simp[hd]at h;subst h;obtain⟨u,hu,hok⟩:=Pv hR.mem hn hh hc (i:=i) (j:=j) (d:=d) (by rw[B7 hr];exact hd);exact⟨u,_,_,rfl,λw hw=>N0 ht _ _ u (by rw[O0 hw];exact hu),hok⟩
   |some n=>
    simp only at h
    cases hcl:cells r j n with
    |none=>simp[hcl]at h
    |some l=>
     simp[hcl]at h;subst h;obtain⟨_,h2,h3⟩:=HJ hcl;have key: ∀m x,(Li o p i j l)[m]? =some x-> ∃u,e.w.cell? ⟨b,off+(i*k+j)+m,none⟩=some u/\AS e x u:=λm x hx=>by
      rw[Rz]at hx
      cases hm:l[m]? with
      |none=>simp[hm]at hx
      |some d=>
       simp[hm]at hx;subst hx;have hi:m<n:=h2 ▸ (List.getElem?_eq_some_iff.1 hm).1;obtain⟨u,hu,hok⟩:=Pv hR.mem hn hh hc (i:=i) (j:=j+m) (d:=d) (by rw[B7 hr,<-h3 m hi];exact hm);exact⟨u,by rw[<-hu];congr 2;omega,hok⟩
     refine⟨_,_,_,rfl,λw hw=>Nz ht b (off+(i*k+j)) (λm=>(e.w.cell? ⟨b,off+(i*k+j)+m,none⟩).getD undef) (λm hm=> ?_),?_⟩
     ·have hlt:m<(Li o p i j l).length:=by rw[Nq];omega
      obtain⟨u,hu,_⟩:=key m (Li o p i j l)[m] (List.getElem?_eq_getElem hlt);rw[O0 hw,hu];rfl
     ·have hl:(Li o p i j l).length=n:=by rw[Nq];exact h2
      rw[<-hl];refine ML _ _ (λm x hx=> ?_);obtain⟨u,hu,hok⟩:=key m x hx;simp only[hu];exact hok
  ·cases h
 |pim v cs hp=>
  obtain⟨b,off,rfl,_,hc⟩:=hp
  cases n with
  |none=>
   simp only[Gb]at h
   cases hd:cs[0]? with
   |none=>simp[hd]at h
   |some t0=>
    simp[hd]at h;subst h;obtain⟨u,hu,hok⟩:=hc 0 t0 hd;exact⟨u,_,_,rfl,λw hw=>N0 ht b off u (by rw[O0 hw];simpa using hu),UM hok⟩
  |some n=>
   simp only[Gb]at h
   cases hcl:cells cs 0 n with
   |none=>simp[hcl]at h
   |some l=>
    simp[hcl]at h;subst h;obtain⟨_,h2,h3⟩:=HJ hcl;have key: ∀m x,(MW l)[m]? =some x-> ∃u,e.w.cell? ⟨b,off+m,none⟩=some u/\AS e x u:=λm x hx=>by
     rw[Ry,List.getElem?_map]at hx
     cases hm:l[m]? with
     |none=>simp[hm]at hx
     |some d=>
      simp[hm]at hx;subst hx;have hi:m<n:=h2 ▸ (List.getElem?_eq_some_iff.1 hm).1;have:=h3 m hi;rw[Nat.zero_add]at this;obtain⟨u,hu,hok⟩:=hc m d (by rw[<-this];exact hm);exact⟨u,hu,UM hok⟩
    have hl:(MW l).length=n:=by rw[Ry];simpa using h2
    refine⟨_,_,_,rfl,λw hw=>Nz ht b off (λm=>(e.w.cell? ⟨b,off+m,none⟩).getD undef) (λm hm=> ?_),?_⟩
    ·obtain⟨u,hu,_⟩:=key m (MW l)[m] (List.getElem?_eq_getElem (by omega));rw[O0 hw,hu];rfl
    ·rw[<-hl];refine ML _ _ (λm x hx=> ?_);obtain⟨u,hu,hok⟩:=key m x hx;simp only[hu];exact hok
 |_=>simp[Gb]at h
theorem UU (hR:Rel fm e s a) {t:TypeId} {n:Option Nat} (ht:nOf P t=some n) {x y:AV} {v:Value} (hx:AS e x v) (h:Gb s.ob n x=some y):
  ∃u,(Instr.loadAt t v).run P e.w= .ok u e.w/\AS e y u:=by
 obtain⟨u,b,off,_,h2,h3⟩:=UT (P:=P) hR ht hx h
 exact⟨u,h2 e.w rfl,h3⟩
def Ldl (P:Program) (e:Env) (s:St) (o:Oper) (a:Act) (s':St) (i:I):Prop:=
 ∃ (t:TypeId) (y:Operand) (n:Option Nat) (X:X) (v:Value) (x:AV) (b off:Nat),o.op= .load t y/\i= .load n X/\(∃tx,xOf P tx y=some X)/\a.eval y= .pointer (some ⟨b,off,none⟩)/\
  (∀w:World,w.heap[b]? =e.w.heap[b]? ->(execOp a.eval o).run P w= .ok (.value v) w)/\AS e x v/\s.put o.dst x=some s'
theorem Ldl.wp {o:Oper} {i:I} (h:Ldl P e s o a s' i) (hR:Rel fm e s a) (Q:Exit->Act->World->Prop):o.wp P a e.w (Reach fm e M s') Q:=by
 obtain⟨t,y,n,X,v,x,b,off,_,_,_,_,h1,h2,h3⟩:=h;exact KO hR (h1 e.w rfl) h2 h3 Q
theorem op_load (hR:Rel fm e s a) {o:Oper} {t:TypeId} {n:Option Nat} {x:Operand} {X:X} (ho:o.op= .load t x) (ht:nOf P t=some n)
  {tx:TypeId} (hx:xOf P tx x=some X) (h:Ad K md s o.dst (.load n X)=some s'):Ldl P e s o a s' (.load n X):=by
 simp only[Ad]at h
 split at h
 ·rename_i v hv
  obtain⟨u,b,off,h0,h1,h2⟩:=UT (P:=P) hR ht (At hR hx) hv
  exact⟨t,x,n,X,u,v,b,off,ho,rfl,⟨tx,hx⟩,h0,λw hw=>by simp[execOp,ho,h1 w hw],h2,h⟩
 ·cases h
theorem Wb {x y:AV} {v:Value} {n:Nat} (hx:AS e x v) (h:Rx x n=some y): ∃b off,v= .pointer (some ⟨b,off,none⟩)/\AS e y (.pointer (some ⟨b,off+n,none⟩)):=by
 cases hx with
 |pb o j cs hb=>simp[Rx]at h;subst h;exact⟨_,_,rfl,.pb o (j+n) cs hb⟩
 |pa o p i j k b off n' c rows hn hh hc=>
  simp[Rx]at h;subst h;refine⟨_,_,rfl,?_⟩;rw[show off+(i*k+j)+n=off+(i*k+(j+n))by omega];exact .pa o p i (j+n) k b off n' c rows hn hh hc
 |pim v cs hp=>
  simp[Rx]at h;subst h;obtain⟨b,off,rfl,hb,hc⟩:=hp;refine⟨b,off,rfl,.pim _ _ ⟨b,off+n,rfl,hb,λj t ht=> ?_⟩⟩;rw[List.getElem?_drop]at ht;obtain⟨u,hu,hok⟩:=hc (n+j) t ht;exact⟨u,by rw[<-hu];congr 2;omega,hok⟩
 |_=>simp[Rx]at h
theorem op_fa (hR:Rel fm e s a) {o:Oper} {t:TypeId} {f m:Nat} {x:Operand} {X:X} {fs:Array Field} {fd:Field} (ho:o.op= .fieldAddr t x f)
  (ht:P.underlying t=some (.struct fs)) (hf:fs.toList[f]? =some fd) (hm:Bk P fd.type=some (m+1)) {tx:TypeId} (hx:xOf P tx x=some X)
  (h:Ad K md s o.dst (.fa fd.offset X)=some s'):Yl P e s o a s':=by
 simp only[Ad]at h
 split at h
 ·rename_i v hv
  obtain⟨b,off,h1,h2⟩:=Wb (At hR hx) hv
  have hf':fs[f]? =some fd:=by simpa using hf
  refine yl (v:= .pointer (some ⟨b,off+fd.offset,none⟩)) (λw=> ?_) h2 h
  simp[execOp,ho,Instr.fieldAt,AR ht,hf',h1,Instr.sureAddr,fieldPlace,C7 hm,BZ]
 ·cases h
theorem Ll {x:AV} {v:Value} {n:Nat} (hx:AS e x v) (h:Hs x=some n): ∃k i,v= .int k i/\0<=i/\i.toNat=n:=by
 cases hx with
 |sc v hs=>
  cases v<;>simp[Hs]at h
  rename_i k i;obtain⟨h1,h2⟩:=h;exact⟨k,i,rfl,h1,h2⟩
 |_=>simp[Hs]at h
theorem idx_ok (hR:Rel fm e s a) {x y:AV} {v:Value} {k n:Nat} (hx:AS e x v) (h:SH s.ob k x n=some y):
  ∃b off len c,v= .slice (some ⟨b,off,none⟩) len c/\n<len/\AS e y (.pointer (some ⟨b,off+n*k,none⟩)):=by
 cases hx with
 |im v k' rows hp=>
  simp only[SH]at h;split at h
  ·rename_i hk;subst hk
   cases hr:rows[n]? with
   |none=>simp[hr]at h
   |some r=>
    simp[hr]at h;subst h;have hn:n<rows.length:=(List.getElem?_eq_some_iff.1 hr).1
    cases hp with
    |nil a c k=>simp at hr
    |sl b off c k rows us him hle hk hc hs=>
     refine⟨b,off,_,c,rfl,hn,.pim _ _ ⟨b,off+n*k',rfl,him,λj t ht=> ?_⟩⟩;have hcell:AI rows n j=some t:=by rw[B7 hr];exact ht
     exact⟨_,by rw[<-hc n j t hcell];congr 2;omega,hs n j t hcell⟩
  ·cases h
 |al v i0 k' rows hv0 hp=>
  simp only[SH]at h;split at h
  ·rename_i hk;subst hk
   cases hr:rows[n]? with
   |none=>simp[hr]at h
   |some r=>
    simp[hr]at h;subst h;have hn:n<rows.length:=(List.getElem?_eq_some_iff.1 hr).1
    cases hp with
    |nil a c k=>simp at hr
    |sl b off c k rows us him hle hk hc hs=>
     refine⟨b,off,_,c,rfl,hn,.pim _ _ ⟨b,off+n*k',rfl,him,λj t ht=> ?_⟩⟩;have hcell:AI rows n j=some t:=by rw[B7 hr];exact ht
     exact⟨_,by rw[<-hc n j t hcell];congr 2;omega,hs n j t hcell⟩
  ·cases h
 |ref o p k' rows hn=>
  simp only[SH,DM hR,hn]at h;split at h
  ·rename_i hk;obtain⟨rfl,hlt⟩:=hk
   cases h
   obtain⟨ad,c,hv,hle,hx⟩:=hR.mem.node o p k' rows hn;obtain⟨b,off,rfl,_⟩:=hx (by omega);refine⟨b,off,_,c,hv,hlt,?_⟩;have:=AS.pa (e:=e) o p n 0 k' b off _ c rows hn hv (by omega);simpa using this
  ·cases h
 |vw o p lo hi k' rows v hn h1 h2 hw=>
  simp only[SH,DM hR,hn]at h;split at h
  ·rename_i hk;obtain⟨rfl,hlt,_⟩:=hk
   cases h
   obtain⟨ad,c,hv,hle,hx⟩:=hR.mem.node o p k' rows hn;obtain⟨b,off,rfl,_⟩:=hx (by omega);obtain⟨a2,n2,c2,a',c',e1,rfl,e3,e4⟩:=hw;rw[hv]at e1
   cases e1
   obtain⟨_,rfl⟩:=e4 (by omega);refine⟨b,off+lo*k',hi - lo,c',by simp[BZ],by omega,?_⟩;have:=AS.pa (e:=e) o p (lo+n) 0 k' b off _ c rows hn hv (by omega);rw[show off+lo*k'+n*k'=off+((lo+n)*k'+0)by rw[Nat.add_mul];omega];exact this
  ·cases h
 |_=>simp[SH]at h
theorem op_ia (hR:Rel fm e s a) {o:Oper} {t el:TypeId} {k:Nat} {x i:Operand} {X Y:Ow.X} (ho:o.op= .indexAddr t x i)
  (ht:P.underlying t=some (.slice el)) (hk:Bk P el=some k) {tx ti:TypeId} (hx:xOf P tx x=some X) (hi:xOf P ti i=some Y)
  (h:Ad K md s o.dst (.ia k X Y)=some s'):Yl P e s o a s':=by
 simp only[Ad]at h
 split at h
 ·rename_i n hn
  split at h
  ·rename_i v hv
   obtain⟨ki,iv,g1,g2,g3⟩:=Ll (At hR hi) hn
   obtain⟨b,off,len,c,h1,h2,h3⟩:=idx_ok hR (At hR hx) hv
   refine yl (v:= .pointer (some ⟨b,off+n*k,none⟩)) (λw=> ?_) h3 h
   have hlt:iv<(len:Int):=by omega
   simp[execOp,ho,Instr.indexAt,AR ht,h1,g1,asIntOf,g2,hlt,C7 hk,BZ,g3]
  ·cases h
 ·cases h
theorem op_iaa (hR:Rel fm e s a) {o:Oper} {t el:TypeId} {len k:Nat} {x i:Operand} {X Y:Ow.X} (ho:o.op= .indexAddr t x i)
  (ht:P.underlying t=some (.array len el)) (hk:Bk P el=some k) {tx ti:TypeId} (hx:xOf P tx x=some X) (hi:xOf P ti i=some Y)
  (h:Ad K md s o.dst (.iaa len k X Y)=some s'):Yl P e s o a s':=by
 simp only[Ad]at h
 split at h
 ·rename_i n hn
  split at h
  ·rename_i hlt
   split at h
   ·rename_i v hv
    obtain⟨ki,iv,g1,g2,g3⟩:=Ll (At hR hi) hn
    obtain⟨b,off,h1,h2⟩:=Wb (At hR hx) hv
    refine yl (v:= .pointer (some ⟨b,off+n*k,none⟩)) (λw=> ?_) h2 h
    have hlt':iv<(len:Int):=by omega
    simp[execOp,ho,Instr.indexAt,AR ht,h1,g1,asIntOf,g2,hlt',C7 hk,BZ,g3,Instr.sureAddr]
   ·cases h
  ·cases h
 ·cases h
theorem op_ixs (hR:Rel fm e s a) {o:Oper} {t:TypeId} {x i:Operand} {X Y:Ow.X} (ho:o.op= .index t x i)
  (ht:P.underlying t=some .string) {tx ti:TypeId} (hx:xOf P tx x=some X) (hi:xOf P ti i=some Y)
  (h:Ad K md s o.dst (.ixs X Y)=some s'):Yl P e s o a s':=by
 have h1:=At hR hx
 simp only[Ad]at h
 split at h
 ·rename_i b n e1 hn
  rw[e1]at h1
  obtain⟨q1,_⟩:=h1.sc_inv
  obtain⟨ki,iv,g1,g2,g3⟩:=Ll (At hR hi) hn
  split at h
  ·rename_i c hc
   refine yl (v:= .int .u8 c.toNat) (λw=> ?_) (.sc _ rfl) h
   have hb:b[n]? =some c:=by
    rw[ByteArray.toList_eq]at hc;have hlt:n<b.data.toList.length:=(List.getElem?_eq_some_iff.1 hc).1;have hlt':n<b.size:=by simpa using hlt
    rw[getElem?_pos b n hlt'];rw[List.getElem?_eq_getElem hlt]at hc;rw[<-hc];rfl
   simp[execOp,ho,Instr.index,AR ht,q1,g1,asIntOf,g2,g3,hb]
  ·cases h
 ·cases h
end
section
variable {P:Program} {fm:Fm} {M:List Nat} {e:Env} {s s':St} {a:Act} {Q:Exit->Act->World->Prop}
variable {K:Nat->List Arg->Option Res} {md:Nat->List Nat}
theorem Rc (a:Addr) (m n:Nat):(a.add m).add n=a.add (m+n):=by
 unfold Addr.add;by_cases h1:m=0
 ·subst h1;simp
 ·by_cases h2:n=0
  ·subst h2;simp[h1]
  ·have h3: ¬ (m+n=0):=by omega
   rw[if_neg h2,if_neg h1,if_neg h3];simp[Nat.add_assoc]
theorem Ps (hR:Rel fm e s a) {t:TypeId} {x:Option Operand} {X:Option X} {n:Option Nat} (hx:ox P t x=some X) (h:GA s.tm X=some n):
  (x=none/\n=none)\/ ∃op k i m,x=some op/\a.eval op= .int k i/\0<=i/\i.toNat=m/\n=some m:=by
 cases x with
 |none=>simp[ox]at hx;subst hx;simp[GA]at h;exact .inl ⟨rfl,h.symm⟩
 |some op=>
  simp only[ox]at hx
  cases hxo:xOf P t op with
  |none=>simp[hxo]at hx
  |some Y=>
   simp[hxo]at hx;subst hx;simp only[GA]at h
   cases hn:Hs (ev s.tm Y)with
   |none=>simp[hn]at h
   |some m=>
    simp[hn]at h;obtain⟨k,i,h1,h2,h3⟩:=Ll (At hR hxo) hn;exact .inr ⟨op,k,i,m,rfl,h1,h2,h3,h.symm⟩
theorem Gp {k:IntKind} {i:Int} {y:Nat} {code:BoundsCode} (h0:0<=i) (h:i.toNat<=y) (w:World):
  (Instr.sliceBound (.int k i) y code).run P w= .ok i.toNat w:=by
 have:i<=(y:Int):=by omega
 simp[Instr.sliceBound,asIntOf,h0,this]
theorem O7 (hR:Rel fm e s a) {t t':TypeId} {lo hi:Option Operand} {L H:Option X} {l h:Option Nat} (hl:ox P t lo=some L) (hh:ox P t' hi=some H)
  (el:GA s.tm L=some l) (eh:GA s.tm H=some h) (isS:Bool) (len cap:Nat) (h1:l.getD 0<=h.getD len) (h2:h.getD len<=cap) (w:World):
  (Instr.sliceBounds isS len cap (lo.map a.eval) (hi.map a.eval) none).run P w= .ok (l.getD 0,h.getD len,cap) w:=by
 rcases Ps hR hl el with ⟨rfl,rfl⟩|⟨op,k,i,m,rfl,g1,g2,g3,rfl⟩<;>rcases Ps hR hh eh with ⟨rfl,rfl⟩|⟨op',k',i',m',rfl,g1',g2',g3',rfl⟩
 ·simp[Instr.sliceBounds]
 ·simp only[Option.getD_some]at h1 h2
  simp[Instr.sliceBounds,g1',Gp g2' (g3' ▸ h2),g3']
 ·simp only[Option.getD_some,Option.getD_none]at h1 h2
  simp[Instr.sliceBounds,g1,Gp g2 (g3 ▸ h1),g3]
 ·simp only[Option.getD_some]at h1 h2
  simp[Instr.sliceBounds,g1,g1',Gp g2' (g3' ▸ h2),g3',Gp g2 (g3 ▸ h1),g3]
theorem V4 (hR:Rel fm e s a) {x y:AV} {v:Value} {k l:Nat} {h:Option Nat} (hx:AS e x v) (hs:He s.ob k x l h=some y):
  ∃ad len cap,v= .slice ad len cap/\l<=h.getD len/\h.getD len<=len/\len<=cap/\
   AS e y (.slice (if cap=l then ad else ad.map (·.add (l*k))) (h.getD len - l) (cap - l)):=by
 cases hx with
 |nil k' ad=>
  simp only[He]at hs;split at hs
  ·rename_i hk;obtain⟨rfl,rfl,hh⟩:=hk
   cases hs
   refine⟨ad,0,0,rfl,by simp,?_,Nat.le_refl _,?_⟩
   ·rcases hh with rfl|rfl<;>simp
   ·rcases hh with rfl|rfl<;>simp<;>exact .nil _ _
  ·cases hs
 |im v k' rows hp=>
  simp only[He]at hs;split at hs
  ·rename_i hk;subst hk;have hv: ∃ad cap,v= .slice ad rows.length cap/\rows.length<=cap:=by
    cases hp with
    |nil ad c k=>exact⟨_,_,rfl,Nat.zero_le _⟩
    |sl b off c k rows us _ hle _ _ _=>exact⟨_,_,rfl,hle⟩
   obtain⟨ad,cap,rfl,hle⟩:=hv;have key: ∀ (h':Nat),l<=h'->h'<=rows.length->AS e (.im k' ((rows.take h').drop l)) (.slice (if cap=l then ad else ad.map (·.add (l*k'))) (h' - l) (cap - l)):=by
    intro h' h1 h2;exact .im _ _ _ (hp.window ⟨ad,_,cap,_,cap - l,rfl,rfl,by omega,λh0=>⟨by omega,by rw[if_neg (by omega)]⟩⟩ h1 h2)
   refine⟨ad,rows.length,cap,rfl,?_⟩
   cases h with
   |none=>
    simp only at hs;split at hs
    ·rename_i h1
     cases hs
     have:=key rows.length h1 (Nat.le_refl _);rw[List.take_length]at this;exact⟨h1,Nat.le_refl _,hle,this⟩
    ·cases hs
   |some h'=>
    simp only at hs;split at hs
    ·rename_i h1
     cases hs
     exact⟨h1.1,h1.2,hle,key _ h1.1 h1.2⟩
    ·cases hs
  ·cases hs
 |ref o p k' rows hn=>
  simp only[He,DM hR,hn]at hs;split at hs
  ·rename_i hk;subst hk;obtain⟨ad,c,hv,hle,hc⟩:=hR.mem.node o p k' rows hn;have key: ∀ (h':Nat),l<=h'->h'<=rows.length->AS e (.vw o p l h') (.slice (if c=l then ad else ad.map (·.add (l*k'))) (h' - l) (c - l)):=by
    intro h' h1 h2;refine .vw o p l h' k' rows _ hn h1 h2 ⟨ad,_,c,_,c - l,hv,rfl,by omega,λh0=>⟨by omega,by rw[if_neg (by omega)]⟩⟩
   refine⟨ad,rows.length,c,hv,?_⟩
   cases h with
   |none=>
    simp only at hs;split at hs
    ·rename_i h1
     cases hs
     exact⟨h1,Nat.le_refl _,hle.1,key _ h1 (Nat.le_refl _)⟩
    ·cases hs
   |some h'=>
    simp only at hs;split at hs
    ·rename_i h1
     cases hs
     exact⟨h1.1,h1.2,hle.1,key _ h1.1 h1.2⟩
    ·cases hs
  ·cases hs
 |vw o p lo hi k' rows v hn h1 h2 hw=>
  simp only[He,DM hR,hn]at hs;split at hs
  ·rename_i hk;subst hk;obtain⟨a2,n2,c2,a',c',e1,rfl,e3,e4⟩:=hw;have key: ∀ (h':Nat),l<=h'->lo+h'<=hi->AS e (.vw o p (lo+l) (lo+h')) (.slice (if c'=l then a' else a'.map (·.add (l*k'))) (h' - l) (c' - l)):=by
    intro h' g1 g2;refine .vw o p (lo+l) (lo+h') k' rows _ hn (by omega) (by omega) ⟨a2,n2,c2,_,c' - l,e1,by rw[show lo+h' - (lo+l)=h' - l by omega],by omega,λh0=> ?_⟩;obtain⟨g3,rfl⟩:=e4 (by omega);refine⟨by omega,?_⟩;rw[if_neg (by omega)]
    cases a2 with
    |none=>rfl
    |some ad=>
     simp only[Option.map_some];rw[Rc,Nat.add_mul]
   refine⟨a',hi - lo,c',rfl,?_⟩
   cases h with
   |none=>
    simp only at hs;split at hs
    ·rename_i g1
     cases hs
     refine⟨by simp;omega,Nat.le_refl _,e3,?_⟩;have:=key (hi - lo) (by omega) (by omega);rwa [show lo+(hi - lo)=hi by omega]at this
    ·cases hs
   |some h'=>
    simp only at hs;split at hs
    ·rename_i g1
     cases hs
     exact⟨g1.1,by simp;omega,e3,key _ g1.1 g1.2⟩
    ·cases hs
  ·cases hs
 |_=>simp[He]at hs
theorem op_sl (hR:Rel fm e s a) {o:Oper} {t el:TypeId} {k:Nat} {x:Operand} {lo hi:Option Operand} {X:Ow.X} {L H:Option Ow.X} (ho:o.op= .slice t x lo hi none)
  (ht:P.underlying t=some (.slice el)) (hk:Bk P el=some k) {tx tl th:TypeId} (hx:xOf P tx x=some X) (hl:ox P tl lo=some L) (hh:ox P th hi=some H)
  (h:Ad K md s o.dst (.sl k X L H)=some s'):Yl P e s o a s':=by
 simp only[Ad]at h
 split at h
 ·rename_i l hn el' eh'
  split at h
  ·rename_i v hv
   obtain⟨ad,len,cap,g1,g2,g3,g4,g5⟩:=V4 hR (At hR hx) hv
   have hb:=λw=>O7 hR hl hh el' eh' true len cap g2 (by omega) w
   refine yl (λw=> ?_) g5 h
   simp[execOp,ho,Instr.sliceAt,AR ht,g1,Instr.slice,hb,C7 hk]
  ·cases h
 ·cases h
theorem op_sl0 (hR:Rel fm e s a) {o:Oper} {t el:TypeId} {k:Nat} {x:Operand} {lo:Option Operand} {hi mx:Operand} {X:Ow.X} (ho:o.op= .slice t x lo (some hi) (some mx))
  (ht:P.underlying t=some (.slice el)) (hk:Bk P el=some k) (hlo:lo=none) (h1:Lt hi=true) (h2:Lt mx=true) {tx:TypeId} (hx:xOf P tx x=some X)
  (h:Ad K md s o.dst (.sl0 k X)=some s'):Yl P e s o a s':=by
 subst hlo
 simp only[Ad]at h
 split at h
 ·rename_i n hn
  obtain⟨ad,c,hb⟩:=Ww hR (At hR hx) hn
  have hz: ∀ {z:Operand},Lt z=true-> ∃k,a.eval z= .int k 0:=by
   intro z hz;unfold Lt at hz;split at hz
   ·exact⟨_,rfl⟩
   ·cases hz
  obtain⟨k1,e1⟩:=hz h1
  obtain⟨k2,e2⟩:=hz h2
  have b1: ∀ (w:World) (k:IntKind) (y:Nat) (code:BoundsCode),(Instr.sliceBound (.int k 0) y code).run P w= .ok 0 w:=λw k y code=>by
   have:=Gp (P:=P) (k:=k) (i:=0) (y:=y) (code:=code) (Int.le_refl _) (Nat.zero_le _) w;simpa using this
  refine yl (v:= .slice ad 0 0) (λw=> ?_) (.nil _ _) h
  simp[execOp,ho,Instr.sliceAt,AR ht,hb,Instr.slice,Instr.sliceBounds,e1,e2,b1,C7 hk]
 ·cases h
theorem op_sls (hR:Rel fm e s a) {o:Oper} {t:TypeId} {x:Operand} {lo hi:Option Operand} {X:Ow.X} {L H:Option Ow.X} (ho:o.op= .slice t x lo hi none)
  (ht:P.underlying t=some .string) {tx tl th:TypeId} (hx:xOf P tx x=some X) (hl:ox P tl lo=some L) (hh:ox P th hi=some H)
  (h:Ad K md s o.dst (.sls X L H)=some s'):Yl P e s o a s':=by
 have h1:=At hR hx
 simp only[Ad]at h
 split at h
 ·rename_i b l hn e1 el' eh'
  rw[e1]at h1
  obtain⟨q1,_⟩:=h1.sc_inv
  split at h
  ·rename_i hc
   have hb:=λw=>O7 hR hl hh el' eh' false b.size b.size hc.1 hc.2 w
   refine yl (v:= .string (b.extract (l.getD 0) (hn.getD b.size))) (λw=> ?_) (.sc _ rfl) h
   simp[execOp,ho,Instr.sliceAt,AR ht,q1,Instr.slice,hb]
  ·cases h
 ·cases h
end
section
variable {P:Program} {fm:Fm} {M:List Nat} {e e':Env} {s s':St} {a:Act}
theorem CC {w w':World} {b j:Nat} (h:w'.heap[b]? =w.heap[b]?):w'.cell? ⟨b,j,none⟩=w.cell? ⟨b,j,none⟩:=by
 unfold World.cell?;rw[h]
theorem Qv {w w':World} {b j:Nat} (h:w'.heap[b]? =w.heap[b]?):w'.frozen? ⟨b,j,none⟩=w.frozen? ⟨b,j,none⟩:=by
 unfold World.frozen?;rw[h]
theorem Wr.congr {w w':World} {b j:Nat} (h:w'.heap[b]? =w.heap[b]?) (hw:Wr w b j):Wr w' b j:=by
 obtain⟨⟨u,h1⟩,h2⟩:=hw;exact⟨⟨u,by rw[CC h];exact h1⟩,λx=>by rw[Qv h];exact h2 x⟩
theorem Bq.congr {w w':World} {v:Value} {k:Nat} {rows rows':List (List T)} {sub sub':Nat->Nat->Value} (h:Bq w v k rows sub) (hk:Ev rows rows')
  (hb: ∀b,BC v=some b->w'.heap[b]? =w.heap[b]?) (hs: ∀i j k1 r1,AI rows' i j=some (.sl k1 r1)->sub' i j=sub i j):Bq w' v k rows' sub':=by
 obtain⟨ad,c,rfl,hle,hx⟩:=h
 refine⟨ad,c,by rw[hk.len],by rw[hk.len];exact hle,λhc=> ?_⟩
 obtain⟨b,off,rfl,h1,h2,h3⟩:=hx hc
 have hbb:=hb b (by simp[BC,hc])
 refine⟨b,off,rfl,λx hx=>(h1 x hx).congr hbb,λr hr=> ?_,λi j d hd=> ?_⟩
 ·obtain⟨i,hi⟩:=List.mem_iff_getElem?.1 hr
  have hlt:i<rows.length:=by rw[<-hk.len];exact(List.getElem?_eq_some_iff.1 hi).1
  obtain⟨y,hy,hl⟩:=hk.row i rows[i] (List.getElem?_eq_getElem hlt)
  rw[hi]at hy
  cases hy
  rw[hl]
  exact h2 _ (List.getElem_mem hlt)
 ·have hkin:=hk.cell i j
  rw[hd]at hkin
  cases hd0:AI rows i j with
  |none=>rw[hd0]at hkin;exact hkin.elim
  |some d0=>
   rw[hd0]at hkin;obtain⟨u,hu,hok⟩:=h3 i j d0 hd0;refine⟨u,by rw[CC hbb];exact hu,?_⟩
   cases d0<;>cases d<;>simp only[Kin]at hkin
   ·subst hkin;exact hok
   ·simp only[CU]at hok ⊢;rw[hs i j _ _ hd];exact hok
   ·exact hok
structure Asm (fm:Fm) (e e':Env) (src:Nat->AQ->Option (Nat×AQ)) (Fr:Nat->Prop):Prop where
 kept: ∀o' p' o p k rows',src o' p'=some (o,p)->e'.node o' p'=some (k,rows')-> ∃rows,e.node o p=some (k,rows)/\Ev rows rows'/\e'.hd o' p'=e.hd o p/\
  ∀i j k1 r1,AI rows' i j=some (.sl k1 r1)->e'.hd o' (p'++[(i,j)])=e.hd o (p++[(i,j)])
 keptw: ∀o' p' o p b,src o' p'=some (o,p)->(e'.node o' p').isSome->e.blk (.nd o p)=some b->e'.w.heap[b]? =e.w.heap[b]? /\ ¬e'.Im b/\ ¬Fr b
 inj: ∀o1 p1 o2 p2 x,src o1 p1=some x->src o2 p2=some x->(e'.node o1 p1).isSome->(e'.node o2 p2).isSome->o1=o2/\p1=p2
 new: ∀o' p' k rows',src o' p'=none->e'.node o' p'=some (k,rows')->Bq e'.w (e'.hd o' p') k rows' (λi j=>e'.hd o' (p'++[(i,j)]))
 newb: ∀o' p' b,src o' p'=none->e'.blk (.nd o' p')=some b->Fr b/\ ∀o2 p2,src o2 p2=none->e'.blk (.nd o2 p2)=some b->o2=o'/\p2=p'
 fr: ∀b,Fr b->b<e'.w.heap.size/\(fm.w0.heap.size<=b\/fm.F b)/\ ¬e'.Im b
 box: ∀o cs,e'.ob o= .box cs->(∃cs0,e.ob o= .box cs0/\e'.bk o=e.bk o/\ ¬e'.Im (e.bk o)/\ ¬Fr (e.bk o))\/
  (Fr (e'.bk o)/\(∀o' p',src o' p'=none->e'.blk (.nd o' p')≠some (e'.bk o))/\ ∀o2 cs2,e'.ob o2= .box cs2->e'.bk o2=e'.bk o->o2=o)
 boxc: ∀o cs,e'.ob o= .box cs-> ∀ (j:Nat) c,cs[j]? =some c->Wr e'.w (e'.bk o) j/\ ∃u,e'.w.cell? ⟨e'.bk o,j,none⟩=some u/\AS e' c u
 size:e.w.heap.size<=e'.w.heap.size
theorem E9 {e:Env} {o:Nat} {p:AQ} {b:Nat} (h:e.blk (.nd o p)=some b): ∃k rows,e.node o p=some (k,rows)/\BC (e.hd o p)=some b:=by
 simp only[Env.blk]at h;split at h
 ·rename_i x hx;obtain⟨k,rows⟩:=x;exact⟨k,rows,hx,h⟩
 ·cases h
theorem AY {e:Env} {o:Nat} {p:AQ} {b k:Nat} {rows:List (List T)} (h:e.node o p=some (k,rows)) (hb:BC (e.hd o p)=some b):e.blk (.nd o p)=some b:=by
 simp only[Env.blk,h];exact hb
theorem Dv {e:Env} {o b:Nat} (h:e.blk (.bx o)=some b): ∃cs,e.ob o= .box cs/\e.bk o=b:=by
 simp only[Env.blk]at h;split at h
 ·rename_i cs hcs
  cases h
  exact⟨cs,hcs,rfl⟩
 ·cases h
theorem Ag {e:Env} {o:Nat} {cs:List AV} (h:e.ob o= .box cs):e.blk (.bx o)=some (e.bk o):=by simp only[Env.blk,h]
theorem Mem.asm (hM:Mem fm e) {src:Nat->AQ->Option (Nat×AQ)} {Fr:Nat->Prop} (hA:Asm fm e e' src Fr)
  (him: ∀x,e'.Im x->x<e'.w.heap.size/\(x<fm.w0.heap.size->fm.I x\/fm.F x)) (him0: ∀x,fm.I x->e'.Im x) (hk:D7 fm.w0 fm.F e'.w) (htk:e'.tk=e.tk:=by rfl):Mem fm e':=by
 have kb: ∀ {o' p' o p b},src o' p'=some (o,p)->e'.blk (.nd o' p')=some b->e.blk (.nd o p)=some b/\(e'.node o' p').isSome:=by
  intro o' p' o p b hs hb;obtain⟨k,rows',hn,hb'⟩:=E9 hb;obtain⟨rows,h1,_,h3,_⟩:=hA.kept o' p' o p k rows' hs hn;exact⟨AY h1 (h3 ▸ hb'),by rw[hn];rfl⟩
 refine⟨hA.boxc,λo' p' k rows' hn=> ?_,λl l' b h h'=> ?_,λl b h=> ?_,him,him0,hk,htk.trans hM.tk⟩
 ·cases hs:src o' p' with
  |none=>exact hA.new o' p' k rows' hs hn
  |some x=>
   obtain⟨o,p⟩:=x;obtain⟨rows,h1,h2,h3,h4⟩:=hA.kept o' p' o p k rows' hs hn;have hold:=hM.node o p k rows h1;rw[h3];refine hold.congr h2 (λb hb=>(hA.keptw o' p' o p b hs (by rw[hn];rfl) (AY h1 hb)).1) (λi j k1 r1 hc=>h4 i j k1 r1 hc)
 ·cases l with
  |nd o1 p1=>
   cases l' with
   |nd o2 p2=>
    cases h1:src o1 p1 with
    |none=>
     cases h2:src o2 p2 with
     |none=>
      obtain⟨rfl,rfl⟩:=(hA.newb o1 p1 b h1 h).2 o2 p2 h2 h';rfl
     |some x=>
      obtain⟨hb,hn⟩:=kb h2 h';exact absurd (hA.newb o1 p1 b h1 h).1 (hA.keptw o2 p2 x.1 x.2 b h2 hn hb).2.2
    |some x=>
     obtain⟨hb,hn⟩:=kb h1 h
     cases h2:src o2 p2 with
     |none=>exact absurd (hA.newb o2 p2 b h2 h').1 (hA.keptw o1 p1 x.1 x.2 b h1 hn hb).2.2
     |some y=>
      obtain⟨hb',hn'⟩:=kb h2 h';have:=hM.inj _ _ b hb hb';have hxy:x=y:=by
       obtain⟨x1,x2⟩:=x;obtain⟨y1,y2⟩:=y;simp only[Pl.nd.injEq]at this;rw[this.1,this.2]
      subst hxy;obtain⟨rfl,rfl⟩:=hA.inj o1 p1 o2 p2 x h1 h2 hn hn';rfl
   |bx o2=>
    obtain⟨cs,hcs,rfl⟩:=Dv h';rcases hA.box o2 cs hcs with ⟨cs0,g1,g2,g3,g4⟩|⟨g1,g2,g3⟩
    ·cases h1:src o1 p1 with
     |none=>exact absurd (hA.newb o1 p1 _ h1 h).1 (by rw[g2];exact g4)
     |some x=>
      obtain⟨hb,hn⟩:=kb h1 h;have:=hM.inj _ _ _ hb (by rw[g2];exact Ag g1)
      cases this
    ·cases h1:src o1 p1 with
     |none=>exact absurd h (g2 o1 p1 h1)
     |some x=>
      obtain⟨hb,hn⟩:=kb h1 h;exact absurd g1 (hA.keptw o1 p1 x.1 x.2 _ h1 hn hb).2.2
  |bx o1=>
   obtain⟨cs,hcs,rfl⟩:=Dv h
   cases l' with
   |nd o2 p2=>
    rcases hA.box o1 cs hcs with ⟨cs0,g1,g2,g3,g4⟩|⟨g1,g2,g3⟩
    ·cases h1:src o2 p2 with
     |none=>exact absurd (hA.newb o2 p2 _ h1 h').1 (by rw[g2];exact g4)
     |some x=>
      obtain⟨hb,hn⟩:=kb h1 h';have:=hM.inj _ _ _ (by rw[g2];exact Ag g1) hb
      cases this
    ·cases h1:src o2 p2 with
     |none=>exact absurd h' (g2 o2 p2 h1)
     |some x=>
      obtain⟨hb,hn⟩:=kb h1 h';exact absurd g1 (hA.keptw o2 p2 x.1 x.2 _ h1 hn hb).2.2
   |bx o2=>
    obtain⟨cs2,hcs2,h2⟩:=Dv h';rcases hA.box o1 cs hcs with ⟨cs0,g1,g2,g3,g4⟩|⟨g1,g2,g3⟩
    ·rcases hA.box o2 cs2 hcs2 with ⟨cs0',g1',g2',g3',g4'⟩|⟨g1',g2',g3'⟩
     ·have:=hM.inj (.bx o1) (.bx o2) _ (Ag g1) (by rw[<-g2,<-h2,g2'];exact Ag g1')
      cases this;rfl
     ·rw[h2,g2]at g1';exact absurd g1' g4
    ·have:=g3 o2 cs2 hcs2 h2;rw[this]
 ·cases l with
  |nd o1 p1=>
   cases h1:src o1 p1 with
   |none=>exact hA.fr b (hA.newb o1 p1 b h1 h).1
   |some x=>
    obtain⟨hb,hn⟩:=kb h1 h;obtain⟨q1,q2,q3⟩:=hM.own _ b hb;exact⟨Nat.lt_of_lt_of_le q1 hA.size,q2,(hA.keptw o1 p1 x.1 x.2 b h1 hn hb).2.1⟩
  |bx o1=>
   obtain⟨cs,hcs,rfl⟩:=Dv h;rcases hA.box o1 cs hcs with ⟨cs0,g1,g2,g3,g4⟩|⟨g1,g2,g3⟩
   ·obtain⟨q1,q2,q3⟩:=hM.own _ _ (Ag g1);rw[g2];exact⟨Nat.lt_of_lt_of_le q1 hA.size,q2,g3⟩
   ·exact hA.fr _ g1
end
section
variable {P:Program} {fm:Fm} {M:List Nat} {e e':Env} {s s':St} {a:Act} {Q:Exit->Act->World->Prop}
variable {K:Nat->List Arg->Option Res} {md:Nat->List Nat}
structure Gu (w w':World) (x:Go.Obj):Prop where
 heap:w'.heap=w.heap.push x
 os:w'.os=w.os
 tape:w'.tape=w.tape
 output:w'.output=w.output
theorem Gu.old {w w':World} {x:Go.Obj} (h:Gu w w' x) {b:Nat} (hb:b<w.heap.size):w'.heap[b]? =w.heap[b]? :=by
 rw[h.heap,Array.getElem?_push,if_neg (by omega)]
theorem Gu.at {w w':World} {x:Go.Obj} (h:Gu w w' x):w'.heap[w.heap.size]? =some x:=by
 rw[h.heap,Array.getElem?_push,if_pos rfl]
theorem Gu.size {w w':World} {x:Go.Obj} (h:Gu w w' x):w'.heap.size=w.heap.size+1:=by rw[h.heap];simp
theorem D7.grew {w w':World} {x:Go.Obj} (hk:D7 fm.w0 fm.F w) (h:Gu w w' x):D7 fm.w0 fm.F w':=
 ⟨h.os.trans hk.os,h.tape.trans hk.tape,h.output.trans hk.output,by rw[h.size];have:=hk.size;omega,
  λk hk1 hk2=>(h.old (Nat.lt_of_lt_of_le hk1 hk.size)).trans (hk.block k hk1 hk2)⟩
def Xy (arr:Array Value) (fr:Nat×Nat):Prop:= ∀j,¬ (fr.1<=j/\j<fr.2)
theorem Gu.wr {w w':World} {arr:Array Value} {t:TypeId} {fr:Nat×Nat} (h:Gu w w' (.cells arr t fr)) (hf:Xy arr fr) {j:Nat} (hj:j<arr.size):
  Wr w' w.heap.size j/\w'.cell? ⟨w.heap.size,j,none⟩=arr[j]? :=by
 have hc:w'.cell? ⟨w.heap.size,j,none⟩=arr[j]? :=by unfold World.cell?;rw[h.at];rfl
 refine⟨⟨⟨arr[j],by rw[hc];exact Array.getElem?_eq_getElem hj⟩,λx=> ?_⟩,hc⟩
 have:=hf x
 unfold World.frozen?
 rw[h.at]
 simp only[Bool.and_eq_false_iff,decide_eq_false_iff_not]
 omega
def val:T->Value
 | .sc v=>v
 | .sl _ _=> .slice none 0 0
 | .hole=>undef
def Plain (rows:List (List T)):Prop:= ∀i j d,AI rows i j=some d->(∃v,d= .sc v/\ES v=true)\/ ∃k,d= .sl k []
theorem Ke {o:Nat} {x:Obj} (h:s.new o x=some s'):AN s.ob o= .none/\s.m<=o/\s'=s.putO o x:=by
 unfold St.new at h;split at h
 ·rename_i h0;split at h
  ·rename_i hm;cases h;exact⟨h0,hm,rfl⟩
  ·cases h
 ·cases h
theorem Eb {o:Nat} (h:e'.ob o=e.ob o) (p:AQ):e'.node o p=e.node o p:=by
 unfold Env.node;rw[h]
theorem Qm {k:Nat} {rows:List (List T)} (hp:Plain rows) {i j:Nat} {p:AQ} {k':Nat} {r:List (List T)} (h:AM k rows ((i,j)::p)=some (k',r)):
  p=[]/\r=[]:=by
 simp only[AM]at h
 split at h
 ·rename_i k1 r1 hc
  rcases hp i j _ hc with ⟨v,hv,_⟩|⟨k2,hk⟩
  ·cases hv
  ·cases hk
   cases p with
   |nil=>simp[AM]at h;exact⟨rfl,h.2⟩
   |cons b p=>obtain⟨i',j'⟩:=b;simp[AM,AI]at h
 ·cases h
theorem B0.grew {w':World} {x:Go.Obj} (hR:Rel fm e s a) (h:Gu e.w w' x) (hw:e'.w=w') (him:e'.Im=e.Im) (o:Nat) (h0:e.ob o= .none)
  (hob: ∀o',o'≠o->e'.ob o'=e.ob o') (hhd: ∀o',o'≠o->e'.hd o'=e.hd o') (hbk: ∀o',o'≠o->e'.bk o'=e.bk o') (htk:e'.tk=e.tk:=by rfl):B0 e e' λo p=>some (o,p):=by
 have ne: ∀ {o'},e.ob o'≠ .none->o'≠o:=λh1 h2=>h1 (h2 ▸ h0)
 refine⟨λb hb=>⟨him ▸ hb,by rw[hw];exact h.old (hR.mem.im b hb).1⟩,λo1 p k rows o' p' hn hf=> ?_,λo1 cs hb=> ?_,λo1 p k rows hn=>(hR.mem.node o1 p k rows hn).one,htk⟩
 ·cases hf
  have hne:o1≠o:=ne (λh1=>by simp[Env.node,h1]at hn)
  exact⟨rows,by rw[Eb (hob o1 hne)];exact hn,rfl,by rw[hhd o1 hne]⟩
 ·have hne:o1≠o:=ne (λh1=>by rw[h1]at hb;cases hb)
  exact⟨cs,by rw[hob o1 hne];exact hb,hbk o1 hne⟩
def N7 (v:Value):AQ->Value
 |[]=>v
 |_::_=> .slice none 0 0
theorem new_arr (hR:Rel fm e s a) {w':World} {arr:Array Value} {t:TypeId} {fr:Nat×Nat} (hg:Gu e.w w' (.cells arr t fr)) (hf:Xy arr fr)
  {o k c:Nat} {rows:List (List T)} (hs:s.new o (.arr k rows)=some s') (hp:Plain rows) (hk: ∀r∈rows,r.length=k) (hle:rows.length<=c/\c<=9223372036854775807) (hc:c*k<=arr.size)
  (hv: ∀i j d,AI rows i j=some d->arr[i*k+j]? =some (val d)):
  ∃e',e'.w=w'/\Rel fm e' s' a/\AS e' (.ref o []) (.slice (some ⟨e.w.heap.size,0,none⟩) rows.length c)/\(B0 e e' λo p=>some (o,p))/\ ∀M,Evo e e' M:=by
 obtain⟨h0,hsm,rfl⟩:=Ke hs
 have h0':e.ob o= .none:=by rw[hR.ob];exact h0
 let e':Env:={w:=w',ob:=λo'=>if o'=o then .arr k rows else e.ob o',hd:=λo' p=>if o'=o then N7 (.slice (some ⟨e.w.heap.size,0,none⟩) rows.length c) p else e.hd o' p,bk:=e.bk,Im:=e.Im,tk:=e.tk}
 have hob: ∀o',o'≠o->e'.ob o'=e.ob o':=λo' h=>by simp[e',h]
 have hhd: ∀o',o'≠o->e'.hd o'=e.hd o':=λo' h=>by funext p;simp[e',h]
 have hC:B0 e e' λo p=>some (o,p):=B0.grew hR hg rfl rfl o h0' hob hhd (λ_ _=>rfl)
 have hnode: ∀p,e'.node o p=AM k rows p:=λp=>by simp[Env.node,e']
 have hself:AS e' (.ref o []) (.slice (some ⟨e.w.heap.size,0,none⟩) rows.length c):=by
  have:=AS.ref (e:=e') o [] k rows (by rw[hnode];rfl);simpa[e',N7]using this
 have hpin: ∀o',o'<s.m->o'≠o:=λo' h h2=>by omega
 refine⟨e',rfl,⟨?_,λo'=> ?_,λo' k' r' h1 h2=> ?_,λo' cs h1 h2=> ?_,hR.size,hR.defers,λt=>(hR.tm t).carry hC⟩,hself,hC,λM=>⟨by simp only[e',hg.size];omega,λb hb _=>hg.old hb⟩⟩
 case refine_3=>rw[hob o' (hpin o' h1)]at h2;rw[hhd o' (hpin o' h1)];exact hR.pinh o' k' r' h1 h2
 case refine_4=>rw[hob o' (hpin o' h1)]at h2;exact hR.pinb o' cs h1 h2
 ·have hA:Asm fm e e' (λo' p=>if o'=o then none else some (o',p)) (λb=>b=e.w.heap.size):=by
   refine⟨?_,?_,?_,?_,?_,?_,?_,?_,?_⟩
   ·intro o' p' o1 p1 k1 rows' h1 h2;by_cases ho:o'=o
    ·simp[ho]at h1
    ·simp[ho]at h1;obtain⟨rfl,rfl⟩:=h1;rw[Eb (hob o' ho)]at h2;exact⟨rows',h2,Ev.refl _,by rw[hhd o' ho],λi j k1 r1 _=>by rw[hhd o' ho]⟩
   ·intro o' p' o1 p1 b h1 _ hb;obtain⟨q1,q2,q3⟩:=hR.mem.own _ b hb;exact⟨hg.old q1,q3,λh=>by omega⟩
   ·intro o1 p1 o2 p2 x h1 h2 _ _;by_cases g1:o1=o<;>by_cases g2:o2=o<;>simp[g1,g2]at h1 h2;rw[<-h2]at h1;simpa using h1
   ·intro o' p' k1 rows' h1 h2;have ho:o'=o:=by
     by_cases ho:o'=o
     ·exact ho
     ·simp[ho]at h1
    subst ho;rw[hnode]at h2
    cases p' with
    |nil=>
     simp[AM]at h2;obtain⟨rfl,rfl⟩:=h2;refine⟨some ⟨e.w.heap.size,0,none⟩,c,by simp[e',N7],hle,λhc0=>⟨_,_,rfl,λx hx=> ?_,hk,λi j d hd=> ?_⟩⟩
     ·rw[Nat.zero_add];exact(hg.wr hf (by omega)).1
     ·have harr:=hv i j d hd;have hlt:i*k+j<arr.size:=(Array.getElem?_eq_some_iff.1 harr).1;refine⟨val d,by rw[Nat.zero_add,(hg.wr hf hlt).2];exact harr,?_⟩;rcases hp i j d hd with ⟨v,rfl,hs⟩|⟨k2,rfl⟩
      ·exact⟨rfl,hs⟩
      ·simp[CU,val,e',N7]
    |cons b p=>
     obtain⟨i,j⟩:=b;obtain⟨rfl,rfl⟩:=Qm hp h2;exact⟨none,0,by simp[e',N7],⟨Nat.le_refl _,by omega⟩,λh=>absurd h (by omega)⟩
   ·intro o' p' b h1 h2;have ho:o'=o:=by
     by_cases ho:o'=o
     ·exact ho
     ·simp[ho]at h1
    subst ho;have key: ∀p' b,e'.blk (.nd o' p')=some b->b=e.w.heap.size/\p'=[]:=by
     intro p' b hb;obtain⟨k1,r1,hn,hb'⟩:=E9 hb
     cases p' with
     |nil=>simp[e',BC,N7]at hb';exact⟨hb'.2.symm,rfl⟩
     |cons _ _=>simp[e',BC,N7]at hb'
    refine⟨(key p' b h2).1,λo2 p2 g1 g2=> ?_⟩;have ho2:o2=o':=by
     by_cases ho:o2=o'
     ·exact ho
     ·simp[ho]at g1
    subst ho2;exact⟨rfl,by rw[(key p2 b g2).2,(key p' b h2).2]⟩
   ·intro b hb;subst hb;refine⟨by simp[e',hg.size],.inl hR.mem.keeps.size,λh=> ?_⟩;have:=(hR.mem.im _ h).1;omega
   ·intro o1 cs hb;have hne:o1≠o:=λh=>by simp[e',h]at hb
    rw[hob o1 hne]at hb;obtain⟨q1,q2,q3⟩:=hR.mem.own _ _ (Ag hb);exact .inl ⟨cs,hb,rfl,q3,by omega⟩
   ·intro o1 cs hb j c hc;have hne:o1≠o:=λh=>by simp[e',h]at hb
    rw[hob o1 hne]at hb;obtain⟨g1,u,g2,g3⟩:=hR.mem.box o1 cs hb j c hc;obtain⟨q1,q2,q3⟩:=hR.mem.own _ _ (Ag hb);exact⟨g1.congr (hg.old q1),u,by rw[<-g2];exact CC (hg.old q1),g3.carry hC⟩
   ·simp only[e',hg.size];omega
  exact hR.mem.asm hA (λx hx=>⟨by have:=(hR.mem.im x hx).1;simp only[e',hg.size];omega,(hR.mem.im x hx).2⟩) hR.mem.im0 (hR.mem.keeps.grew hg)
 ·rw[BE]
  by_cases h:o'=o
  ·simp[e',h]
  ·simp[e',h,hR.ob]
theorem UP (hR:Rel fm e s a) {w':World} {arr:Array Value} {t:TypeId} {fr:Nat×Nat} (hg:Gu e.w w' (.cells arr t fr)) (hf:Xy arr fr)
  {o:Nat} {cs:List AV} (hs:s.new o (.box cs)=some s') (hc:cs.length=arr.size) (hv: ∀ (j:Nat) c u,cs[j]? =some c->arr[j]? =some u->AS e c u):
  ∃e',e'.w=w'/\Rel fm e' s' a/\AS e' (.pb o 0) (.pointer (some ⟨e.w.heap.size,0,none⟩))/\(B0 e e' λo p=>some (o,p))/\ ∀M,Evo e e' M:=by
 obtain⟨h0,hsm,rfl⟩:=Ke hs
 have h0':e.ob o= .none:=by rw[hR.ob];exact h0
 let e':Env:={w:=w',ob:=λo'=>if o'=o then .box cs else e.ob o',bk:=λo'=>if o'=o then e.w.heap.size else e.bk o',Im:=e.Im,hd:=e.hd,tk:=e.tk}
 have hob: ∀o',o'≠o->e'.ob o'=e.ob o':=λo' h=>by simp[e',h]
 have hbk: ∀o',o'≠o->e'.bk o'=e.bk o':=λo' h=>by simp[e',h]
 have hC:B0 e e' λo p=>some (o,p):=B0.grew hR hg rfl rfl o h0' hob (λ_ _=>rfl) hbk
 have hnode: ∀p,e'.node o p=none:=λp=>by simp[Env.node,e']
 have hpin: ∀o',o'<s.m->o'≠o:=λo' h h2=>by omega
 refine⟨e',rfl,⟨?_,λo'=> ?_,λo' k' r' h1 h2=> ?_,λo' cs h1 h2=> ?_,hR.size,hR.defers,λt=>(hR.tm t).carry hC⟩,?_,hC,λM=>⟨by simp only[e',hg.size];omega,λb hb _=>hg.old hb⟩⟩
 case refine_3=>rw[hob o' (hpin o' h1)]at h2;exact hR.pinh o' k' r' h1 h2
 case refine_4=>rw[hob o' (hpin o' h1)]at h2;rw[hbk o' (hpin o' h1)];exact hR.pinb o' cs h1 h2
 ·have hA:Asm fm e e' (λo' p=>some (o',p)) (λb=>b=e.w.heap.size):=by
   refine⟨?_,?_,?_,?_,?_,?_,?_,?_,?_⟩
   ·intro o' p' o1 p1 k1 rows' h1 h2
    cases h1
    have ho:o'≠o:=λh=>by rw[h,hnode]at h2;cases h2
    rw[Eb (hob o' ho)]at h2;exact⟨rows',h2,Ev.refl _,rfl,λ_ _ _ _ _=>rfl⟩
   ·intro o' p' o1 p1 b h1 _ hb;obtain⟨q1,q2,q3⟩:=hR.mem.own _ b hb;exact⟨hg.old q1,q3,λh=>by omega⟩
   ·intro o1 p1 o2 p2 x h1 h2 _ _;rw[<-h2]at h1;simpa using h1
   ·intro o' p' k1 rows' h1 h2;cases h1
   ·intro o' p' b h1;cases h1
   ·intro b hb;subst hb;refine⟨by simp[e',hg.size],.inl hR.mem.keeps.size,λh=> ?_⟩;have:=(hR.mem.im _ h).1;omega
   ·intro o1 cs1 hb;by_cases hne:o1=o
    ·subst hne;refine .inr ⟨by simp[e'],λo' p' h=>(by cases h),λo2 cs2 hb2 h2=> ?_⟩;by_cases g:o2=o1
     ·exact g
     ·rw[hob o2 g]at hb2;rw[hbk o2 g]at h2;have:=(hR.mem.own _ _ (Ag hb2)).1;simp[e']at h2;omega
    ·rw[hob o1 hne]at hb;obtain⟨q1,q2,q3⟩:=hR.mem.own _ _ (Ag hb);exact .inl ⟨cs1,hb,hbk o1 hne,q3,by omega⟩
   ·intro o1 cs1 hb j c hcj;by_cases hne:o1=o
    ·subst hne;simp[e']at hb;subst hb;have hj:j<arr.size:=by rw[<-hc];exact(List.getElem?_eq_some_iff.1 hcj).1
     obtain⟨g1,g2⟩:=hg.wr hf hj;refine⟨by simpa[e']using g1,arr[j],?_,(hv j c _ hcj (Array.getElem?_eq_getElem hj)).carry hC⟩;simp only[e',if_true];rw[g2];exact Array.getElem?_eq_getElem hj
    ·rw[hob o1 hne]at hb;obtain⟨g1,u,g2,g3⟩:=hR.mem.box o1 cs1 hb j c hcj;obtain⟨q1,q2,q3⟩:=hR.mem.own _ _ (Ag hb);rw[hbk o1 hne];exact⟨g1.congr (hg.old q1),u,by rw[<-g2];exact CC (hg.old q1),g3.carry hC⟩
   ·simp only[e',hg.size];omega
  exact hR.mem.asm hA (λx hx=>⟨by have:=(hR.mem.im x hx).1;simp only[e',hg.size];omega,(hR.mem.im x hx).2⟩) hR.mem.im0 (hR.mem.keeps.grew hg)
 ·rw[BE]
  by_cases h:o'=o
  ·simp[e',h]
  ·simp[e',h,hR.ob]
 ·have:=AS.pb (e:=e') o 0 cs (by simp[e'])
  simpa[e']using this
end
section
variable {P:Program} {fm:Fm} {M:List Nat} {e e':Env} {s s':St} {a:Act} {Q:Exit->Act->World->Prop}
variable {K:Nat->List Arg->Option Res} {md:Nat->List Nat}
theorem HP (arr:Array Value):Xy arr (0,0):=λj h=>by have:=h.2;simp at this
theorem CI {e:Env} {w':World} (he:e'.w=w') (hR:Rel fm e' s a) (hE:Evo e e' M) {o:Oper} {w:World} {x:AV} {v:Value} (hrun:(execOp a.eval o).run P w= .ok (.value v) w')
  (hv:AS e' x v) (h:s.put o.dst x=some s'):o.wp P a w (Reach fm e M s') Q:=by
 unfold Oper.wp
 rw[hrun,Oper.upon_value]
 exact⟨e',he,hR.put hv h,hE⟩
theorem Rp {v:Value} (h:ES v=true):v.cells= #[v]:=by
 cases v<;>first|rfl|(simp[ES]at h)
theorem Pa (hM:Mem fm e) {x:AV} {v:Value} (h:AS e x v) (hb:Iw x=true):
  ∃vs:List Value,v.cells=vs.toArray/\(EV x).length=vs.length/\ ∀ (j:Nat) c u,(EV x)[j]? =some c->vs[j]? =some u->AS e c u:=by
 have one: ∀ {x:AV} {v:Value},AS e x v->v.cells= #[v]->EV x=[x]->
   ∃vs:List Value,v.cells=vs.toArray/\(EV x).length=vs.length/\ ∀ (j:Nat) c u,(EV x)[j]? =some c->vs[j]? =some u->AS e c u:=by
  intro x v hx h1 h2
  refine⟨[v],h1,by rw[h2];rfl,λj c u hc hu=> ?_⟩
  rw[h2]at hc
  cases j with
  |zero=>simp at hc hu;subst hc;subst hu;exact hx
  |succ j=>simp at hc
 have h':=h
 cases h with
 |non v=>simp[Iw]at hb
 |dead v hd=>refine one h' ?_ rfl;cases v<;>first|rfl|(simp[Value.oneCell']at hd)
 |und=>simp[Iw]at hb
 |sc v hs=>exact one h' (Rp hs) rfl
 |nil k ad=>exact one h' rfl rfl
 |im v k rows hp=>refine one h' ?_ rfl;cases hp<;>rfl
 |al v i k rows hv0 hp=>refine one h' ?_ rfl;cases hp<;>rfl
 |ref o p k rows hn=>
  refine one h' ?_ rfl;obtain⟨ad,c,hv,_⟩:=hM.node o p k rows hn;rw[hv];rfl
 |vw o p lo hi k rows v hn h1 h2 hw=>refine one h' ?_ rfl;obtain⟨_,_,_,_,_,_,rfl,_⟩:=hw;rfl
 |pb o j cs hb=>exact one h' rfl rfl
 |pa o p i j k b off n c rows hn hh hc=>exact one h' rfl rfl
 |pim v cs hp=>refine one h' ?_ rfl;obtain⟨_,_,rfl,_⟩:=hp;rfl
 |agg l vs hl hh=>exact⟨vs,rfl,hl,λj c u hc hu=>hh j c u hc hu⟩
 |tup l vs hl hh=>simp[Iw]at hb
 |clo f l vs hl hh=>exact one h' rfl rfl
theorem Gy (t:TypeId) (cs:Array Value) (w:World):(newRow t cs).run P w= .ok ⟨w.heap.size,0,none⟩ {w with heap:=w.heap.push (.cells cs t (0,0))}:=by
 simp[newRow]
theorem Gg (w:World) (x:Go.Obj):Gu w {w with heap:=w.heap.push x} x:=⟨rfl,rfl,rfl,rfl⟩
theorem op_box (hR:Rel fm e s a) {o:Oper} {t:TypeId} {b:Nat} {x:Operand} {X:Ow.X} (ho:o.op= .box t x) {tx:TypeId} (hx:xOf P tx x=some X)
  (h:Ad K md s o.dst (.box b X)=some s'):o.wp P a e.w (Reach fm e M s') Q:=by
 simp only[Ad]at h
 split at h
 ·rename_i hb
  split at h
  ·rename_i s1 hs
   obtain⟨vs,g1,g2,g3⟩:=Pa hR.mem (At hR hx) hb
   obtain⟨e',r1,r2,r3,_,r5⟩:=UP hR (Gg e.w (.cells vs.toArray t (0,0))) (HP _) hs (by simpa using g2) (λj c u hc hu=>g3 j c u hc (by simpa using hu))
   refine CI r1 r2 (r5 M) ?_ r3 h
   simp[execOp,ho,Instr.box,newVar,Gy,g1]
  ·cases h
 ·cases h
theorem Fi {t:TypeId} {v:Value} {x:AV} (h:Fj P t v=some x):(∃k,x= .nil k/\v= .slice none 0 0)\/(x= .sc v/\ES v=true)\/ ∃f,x= .clo f []:=by
 unfold Fj at h;split at h
 ·split at h
  ·rename_i el _
   cases hk:Bk P el with
   |none=>simp[hk]at h
   |some k=>simp[hk]at h;exact .inl ⟨k,h.symm,rfl⟩
  ·cases h
 ·split at h
  ·cases h;exact .inr (.inr ⟨_,rfl⟩)
  ·cases h
 ·split at h
  ·cases h;exact .inr (.inl ⟨rfl,by assumption⟩)
  ·cases h
theorem Mn: ∀ {ts:List TypeId} {vs:List Value} {l:List AV},C4 P ts vs=some l->l.length=vs.length/\
  ∀ (j:Nat) c,l[j]? =some c-> ∃t v,vs[j]? =some v/\Fj P t v=some c
 |[],[],l,h=>by simp[C4]at h;subst h;exact⟨rfl,λj c h=>by simp at h⟩
 |t::ts,v::vs,l,h=>by
  simp only[C4]at h;split at h
  ·rename_i x m hx hm;simp at h;subst h;obtain⟨h1,h2⟩:=Mn hm;refine⟨by simp[h1],λj c hc=> ?_⟩
   cases j with
   |zero=>simp at hc;subst hc;exact⟨t,v,rfl,hx⟩
   |succ j=>simp at hc;simpa using h2 j c hc
  ·cases h
 |[],_::_,l,h=>by simp[C4]at h
 |_::_,[],l,h=>by simp[C4]at h
theorem EW {t:TypeId} {cs:List AV} (h:Bc P t=some cs): ∃i z,P.info? t=some i/\i.zero=some z/\cs.length=z.cells.size/\
  ∀ (j:Nat) c,cs[j]? =some c-> ∃u v,z.cells[j]? =some v/\Fj P u v=some c:=by
 unfold Bc at h
 cases hi:P.info? t with
 |none=>simp[hi]at h
 |some i=>
  cases hz:i.zero with
  |none=>simp[hi,hz]at h
  |some z=>
   simp only[hi,Option.bind_some,hz]at h;refine⟨i,z,rfl,hz,?_⟩
   cases hc:HG P t z with
   |none=>simp[hc]at h
   |some x=>
    simp[hc]at h;subst h;unfold HG at hc;split at hc
    ·rename_i cs;split at hc
     ·rename_i ts _
      cases hm:C4 P ts cs.toList with
      |none=>simp[hm]at hc
      |some l=>
       simp[hm]at hc;subst hc;obtain⟨h1,h2⟩:=Mn hm;refine⟨by simpa[EV,Value.cells]using h1,λj c hj=> ?_⟩;obtain⟨u,v,g1,g2⟩:=h2 j c hj;exact⟨u,v,by simpa[Value.cells]using g1,g2⟩
     ·cases hc
    ·rename_i hna;have hcell:z.cells= #[z]/\EV x=[x]:=by
      rcases Fi hc with ⟨k,rfl,rfl⟩|⟨rfl,hs⟩|⟨f,rfl⟩
      ·exact⟨rfl,rfl⟩
      ·exact⟨Rp hs,rfl⟩
      ·refine⟨?_,rfl⟩
       cases z<;>first
        |rfl
        |(exact absurd rfl (hna _))
        |(simp[Fj,ES]at hc)
     rw[hcell.1,hcell.2];refine⟨rfl,λj c hj=> ?_⟩
     cases j with
     |zero=>simp at hj;subst hj;exact⟨t,z,rfl,hc⟩
     |succ j=>simp at hj
theorem LT : ∀ {cs : List AV} {ds : List T}, Ha cs = some ds -> ds.length = cs.length /\
    ∀ (j : Nat) d, ds[j]? = some d -> (∃ v, d = .sc v /\ cs[j]? = some (.sc v)) \/ ∃ k, d = .sl k [] /\ cs[j]? = some (.nil k)
  | [], ds, h => by simp [Ha] at h; subst h; exact ⟨rfl, λj d h => by simp at h⟩
  | c :: cs, ds, h => by
    unfold Ha at h
    cases c <;> simp only at h <;> first
      | (cases h; done)
      | (rename_i v
         cases hm : Ha cs with
         | none => simp [hm] at h
         | some m =>
           simp [hm] at h;subst h;obtain ⟨h1, h2⟩ := LT hm;refine ⟨by simp [h1], λj d hd => ?_⟩
           cases j with
           | zero => simp at hd; subst hd; simp
           | succ j => simp at hd; simpa using h2 j d hd)
theorem op_new (hR:Rel fm e s a) {o:Oper} {t:TypeId} {b:Nat} {zs:List AV} (ho:o.op= .alloc t) (hz:Bc P t=some zs)
  (h:Ad K md s o.dst (.new b zs)=some s'):o.wp P a e.w (Reach fm e M s') Q:=by
 simp only[Ad]at h
 split at h
 ·rename_i s1 hs
  obtain⟨i,z,g1,g2,g3,g4⟩:=EW hz
  obtain⟨e',r1,r2,r3,_,r5⟩:=UP hR (Gg e.w (.cells z.cells t (0,0))) (HP _) hs g3 (λj c u hc hu=>by
   obtain⟨u',v,q1,q2⟩:=g4 j c hc;rw[hu]at q1
   cases q1
   exact Iu q2)
  refine CI r1 r2 (r5 M) ?_ r3 h
  simp[execOp,ho,Instr.alloc,zeroValue,typeInfo,g1,g2,newVar,Gy]
 ·cases h
theorem Sx {t:TypeId} {ds:List T} (h:(Bc P t).bind Ha=some ds): ∃i z,P.info? t=some i/\i.zero=some z/\ds.length=z.cells.size/\
  ∀ (j:Nat) d,ds[j]? =some d->z.cells[j]? =some (val d)/\((∃v,d= .sc v/\ES v=true)\/ ∃k,d= .sl k []):=by
 cases hz:Bc P t with
 |none=>simp[hz]at h
 |some cs=>
  simp only[hz,Option.bind_some]at h;obtain⟨i,z,g1,g2,g3,g4⟩:=EW hz;obtain⟨h1,h2⟩:=LT h;refine⟨i,z,g1,g2,h1.trans g3,λj d hd=> ?_⟩;rcases h2 j d hd with ⟨v,rfl,hc⟩|⟨k,rfl,hc⟩
  ·obtain⟨u,v',q1,q2⟩:=g4 j _ hc;rcases Fi q2 with ⟨k,hk,_⟩|⟨hv,hs⟩|⟨f,hf⟩
   ·cases hk
   ·cases hv;exact⟨q1,.inl ⟨v,rfl,hs⟩⟩
   ·cases hf
  ·obtain⟨u,v',q1,q2⟩:=g4 j _ hc;rcases Fi q2 with ⟨k',hk,rfl⟩|⟨hv,hs⟩|⟨f,hf⟩
   ·cases hk;exact⟨q1,.inr ⟨k,rfl⟩⟩
   ·cases hv
   ·cases hf
theorem V9 {x y:Operand} (h:UI x y=true) {k:IntKind} {i:Int} (hx:a.eval x= .int k i): ∃k',a.eval y= .int k' i:=by
 unfold UI at h;split at h
 ·simp at h;subst h;exact⟨k,hx⟩
 ·simp at h;subst h;simp[Act.eval]at hx;exact⟨_,by simp[Act.eval,hx.2];rfl⟩
 ·cases h
theorem op_mk (hR:Rel fm e s a) {o:Oper} {t el:TypeId} {b k bytes:Nat} {zs:List T} {x y:Operand} {X:Ow.X} (ho:o.op= .makeSlice t x y)
  (ht:P.underlying t=some (.slice el)) (hk:Bk P el=some k) (hz:(Bc P el).bind Ha=some zs) (hb:Do P el=some bytes) (hxy:UI x y=true)
  {tx:TypeId} (hx:xOf P tx x=some X) (h:Ad K md s o.dst (.mk b k zs bytes X)=some s'):o.wp P a e.w (Reach fm e M s') Q:=by
 simp only[Ad]at h
 split at h
 ·rename_i n hn
  split at h
  ·rename_i hc
   obtain⟨hc1,hc2,hc3⟩:=hc
   split at h
   ·rename_i s1 hs
    obtain⟨ki,iv,g1,g2,g3⟩:=Ll (At hR hx) hn
    obtain⟨ki',g1'⟩:=V9 hxy g1
    obtain⟨i,z,z1,z2,z3,z4⟩:=Sx hz
    have hbt:i.bytes=bytes:=by unfold Do at hb;simpa[z1]using hb
    have hst:i.size=k:=by unfold Bk at hk;simpa[z1]using hk
    have hzs:z.cells.size=k:=by rw[<-z3];exact hc3
    have hn1:n<=n*bytes:=Nat.le_mul_of_pos_right n hc2
    have hiv:iv=(n:Int):=by omega
    have hw:IntKind.i64.wrap iv=iv:=by rw[IntKind.wrap_i64];omega
    have harr: ∀m,m<n*k->((Array.range (n*k)).map (λm=>z.cells[m%z.cells.size]!))[m]? =some (z.cells[m%z.cells.size]!):=λm hm=>by
     simp[hm]
    have hcell: ∀i' j d,AI (List.replicate n zs) i' j=some d->i'<n/\j<k/\zs[j]? =some d:=by
     intro i' j d hd;obtain⟨r,hr,hj⟩:=AZ hd;rw[List.getElem?_replicate]at hr;split at hr
     ·rename_i hlt
      cases hr
      exact⟨hlt,by rw[<-hc3];exact(List.getElem?_eq_some_iff.1 hj).1,hj⟩
     ·cases hr
    obtain⟨e',r1,r2,r3,_,r5⟩:=new_arr (c:=n) hR (Gg e.w (.cells ((Array.range (n*k)).map (λm=>z.cells[m%z.cells.size]!)) el (0,0))) (HP _) hs
     (λi' j d hd=>(z4 j d (hcell i' j d hd).2.2).2) (λr hr=>by rw[(List.mem_replicate.1 hr).2];exact hc3) ⟨Nat.le_of_eq List.length_replicate,by have:n*1<=n*bytes:=Nat.mul_le_mul_left _ (by omega);omega⟩ (Nat.le_of_eq (by rw[Array.size_map,Array.size_range]))
     (λi' j d hd=>by
      obtain⟨q1,q2,q3⟩:=hcell i' j d hd;have hlt:i'*k+j<n*k:=by
       have:(i'+1)*k<=n*k:=Nat.mul_le_mul_right _ q1;rw[Nat.add_mul]at this;omega
      rw[harr _ hlt,hzs];have hm:(i'*k+j)%k=j:=by
       rw[Nat.add_comm,Nat.add_mul_mod_self_right];exact Nat.mod_eq_of_lt q2
      rw[hm];have:=(z4 j d q3).1;rw[getElem!_def];rw[this])
    simp only[List.length_replicate]at r3
    refine CI r1 r2 (r5 M) ?_ r3 h
    have hle: ¬ (281474976710656<(bytes:Int)*(n:Int)):=by
     have:((n*bytes:Nat):Int)<=((35184372088832:Nat):Int):=Int.ofNat_le.2 hc1;rw[Int.natCast_mul,Int.mul_comm]at this;omega
    have h0: ¬ ((n:Int)<0):=by omega
    subst hiv
    simp only[Int.toNat_natCast]at g3
    have hr0:Array.range 0= #[]:=rfl
    by_cases hnk:n*k=0
    ·rw[hnk]
     simp[execOp,ho,hr0,Instr.makeSlice,AR ht,g1,g1',asInt,asIntOf,typeInfo,z1,hbt,hw,hle,h0,sizeOf,hst,hnk,Gy]
    ·simp[execOp,ho,Instr.makeSlice,AR ht,g1,g1',asInt,asIntOf,typeInfo,z1,hbt,hw,hle,h0,sizeOf,hst,hnk,zeroValue,z2,Gy]
   ·cases h
  ·cases h
 ·cases h
end
section
variable {P:Program} {fm:Fm} {M:List Nat} {e e':Env} {s s':St} {a:Act} {Q:Exit->Act->World->Prop}
variable {K:Nat->List Arg->Option Res} {md:Nat->List Nat}
structure BK (w w':World) (b off:Nat) (vs:List Value):Prop where
 os:w'.os=w.os
 tape:w'.tape=w.tape
 output:w'.output=w.output
 size:w'.heap.size=w.heap.size
 other: ∀x,x≠b->w'.heap[x]? =w.heap[x]?
 cell: ∀j,w'.cell? ⟨b,j,none⟩=if off<=j/\j<off+vs.length then(if(w.cell? ⟨b,j,none⟩).isSome then vs[j - off]? else none)else w.cell? ⟨b,j,none⟩
 frozen: ∀j,w'.frozen? ⟨b,j,none⟩=w.frozen? ⟨b,j,none⟩
theorem BK.wr {w w':World} {b off:Nat} {vs:List Value} (h:BK w w' b off vs) {j:Nat} (hw:Wr w b j):Wr w' b j:=by
 obtain⟨⟨u,h1⟩,h2⟩:=hw;refine⟨?_,λx=>by rw[h.frozen];exact h2 x⟩;rw[h.cell j,h1];by_cases hc:off<=j/\j<off+vs.length
 ·rw[if_pos hc];simp only[Option.isSome_some,if_true];exact⟨vs[j - off]'(by omega),List.getElem?_eq_getElem (by omega)⟩
 ·rw[if_neg hc];exact⟨u,rfl⟩
theorem BK.new {w w':World} {b off:Nat} {vs:List Value} (h:BK w w' b off vs) {i:Nat} {v:Value} (hi:vs[i]? =some v) (hw:Wr w b (off+i)):
  w'.cell? ⟨b,off+i,none⟩=some v:=by
 obtain⟨⟨u,h1⟩,h2⟩:=hw
 have hlt:i<vs.length:=(List.getElem?_eq_some_iff.1 hi).1
 rw[h.cell,h1,if_pos (by omega)]
 simp[hi]
theorem BK.same {w w':World} {b off:Nat} {vs:List Value} (h:BK w w' b off vs) {j:Nat} (hj: ¬ (off<=j/\j<off+vs.length)):
  w'.cell? ⟨b,j,none⟩=w.cell? ⟨b,j,none⟩:=by rw[h.cell,if_neg hj]
theorem D7.stored {w w':World} {b off:Nat} {vs:List Value} (hk:D7 fm.w0 fm.F w) (h:BK w w' b off vs) (hb:fm.w0.heap.size<=b\/fm.F b):D7 fm.w0 fm.F w':=
 ⟨h.os.trans hk.os,h.tape.trans hk.tape,h.output.trans hk.output,by rw[h.size];exact hk.size,λk hk1 hk2=>by
  have:k≠b:=λe=>by subst e;rcases hb with hb|hb;omega;exact hk2 hb
  rw[h.other k this];exact hk.block k hk1 hk2⟩
theorem Hf {w:World} {b j:Nat} {v:Value} (hw:Wr w b j):BK w (w.setCell ⟨b,j,none⟩ v) b j [v]:=by
 obtain⟨⟨u,h1⟩,h2⟩:=hw;have hcells: ∃c t fr,w.heap[b]? =some (.cells c t fr)/\j<c.size:=by
  unfold World.cell? at h1;split at h1
  ·rename_i c t fr hh;simp only[Option.isSome_none,Bool.false_eq_true,if_false]at h1;exact⟨c,t,fr,hh,(Array.getElem?_eq_some_iff.1 h1).1⟩
  ·cases h1
 obtain⟨c,t,fr,hh,hj⟩:=hcells;have hnew:(w.setCell ⟨b,j,none⟩ v).heap[b]? =some (.cells (c.setIfInBounds j v) t fr):=by
  simp[World.setCell,Array.getElem?_modify,hh]
 refine⟨rfl,rfl,rfl,by simp[World.setCell],λx hx=> ?_,λi=> ?_,λi=> ?_⟩
 ·simp only[World.setCell,Array.getElem?_modify];rw[if_neg (λe=>hx e.symm)]
 ·unfold World.cell?;simp only[hnew,hh,Option.isSome_none,Bool.false_eq_true,if_false,List.length_singleton];by_cases hi:j<=i/\i<j+1
  ·have:i=j:=by omega
   subst this;simp[hj]
  ·rw[if_neg hi,Array.getElem?_setIfInBounds_ne (by omega)]
 ·unfold World.frozen?;rw[hnew,hh]
theorem BK.nil (w:World) (b off:Nat):BK w w b off []:=
 ⟨rfl,rfl,rfl,rfl,λ_ _=>rfl,λj=>by rw[if_neg (by simp)],λ_=>rfl⟩
theorem BK.cons {w w1 w2:World} {b off:Nat} {v:Value} {vs:List Value} (h1:BK w w1 b off [v]) (h2:BK w1 w2 b (off+1) vs):BK w w2 b off (v::vs):=by
 refine⟨h2.os.trans h1.os,h2.tape.trans h1.tape,h2.output.trans h1.output,h2.size.trans h1.size,λx hx=>(h2.other x hx).trans (h1.other x hx),λj=> ?_,λj=>(h2.frozen j).trans (h1.frozen j)⟩;rw[h2.cell,h1.cell];simp only[List.length_cons,List.length_nil,Nat.zero_add];by_cases c1:off+1<=j/\j<off+1+vs.length
 ·rw[if_pos c1,if_neg (show ¬ (off<=j/\j<off+1)by omega),if_pos (show off<=j/\j<off+(vs.length+1)by omega)];rw[show j - off=(j - (off+1))+1 by omega,List.getElem?_cons_succ]
 ·rw[if_neg c1];by_cases c2:off<=j/\j<off+1
  ·rw[if_pos c2,if_pos (show off<=j/\j<off+(vs.length+1)by omega),show j - off=0 by omega];simp
  ·rw[if_neg c2,if_neg (show ¬ (off<=j/\j<off+(vs.length+1))by omega)]
theorem C8: ∀ (vs:List Value) (w:World) (b off i:Nat),(∀j,j<vs.length->Wr w b (off+i+j))->(∀v∈vs,v.oneCell'=true)->
  ∃w',(storeCells ⟨b,off,none⟩ vs i).run P w= .ok () w'/\BK w w' b (off+i) vs
 |[],w,b,off,i,_,_=>⟨w,rfl,BK.nil w b _⟩
 |v::vs,w,b,off,i,hw,hv=>by
  have h0:=hw 0 (by simp);rw[Nat.add_zero]at h0;have hst:=Hf (v:=v) h0;obtain⟨w',h1,h2⟩:=C8 vs (w.setCell ⟨b,off+i,none⟩ v) b off (i+1) (λj hj=>by
   have:=hst.wr (hw (j+1) (by simp;omega));rwa [show off+i+(j+1)=off+(i+1)+j by omega]at this) (λx hx=>hv x (List.mem_cons_of_mem _ hx))
  refine⟨w',?_,hst.cons (by rw[show off+i+1=off+(i+1)by omega];exact h2)⟩;obtain⟨⟨u,hu⟩,hf⟩:=h0;simp only[storeCells,Sem.run_bind,run_store P w _ v _ (hv v (List.mem_cons_self)),BZ,hu,hf,Bool.false_eq_true,if_false,Result.andThen_ok,h1]
theorem FS (hM:Mem fm e) {x:AV} {v:Value} (h:AS e x v) (hb:oneCell x=true):v.cells= #[v]/\v.oneCell'=true:=by
 have key: ∀ {v:Value},v.oneCell'=true->v.cells= #[v]:=λ{v} h=>by cases v<;>first|rfl|(simp[Value.oneCell']at h)
 have:v.oneCell'=true:=by
  cases h with
  |non v=>simp[oneCell]at hb
  |dead v h=>exact h
  |und=>simp[oneCell]at hb
  |sc v hs=>cases v<;>first|rfl|(simp[ES]at hs)
  |nil k ad=>rfl
  |im v k rows hp=>cases hp<;>rfl
  |al v i k rows hv0 hp=>cases hp<;>rfl
  |ref o p k rows hn=>exact(hM.node o p k rows hn).one
  |vw o p lo hi k rows v hn h1 h2 hw=>obtain⟨_,_,_,_,_,_,rfl,_⟩:=hw;rfl
  |pb o j cs hb=>rfl
  |pa o p i j k b off n c rows hn hh hc=>rfl
  |pim v cs hp=>obtain⟨_,_,rfl,_⟩:=hp;rfl
  |agg l vs hl hh=>simp[oneCell]at hb
  |tup l vs hl hh=>simp[oneCell]at hb
  |clo f l vs hl hh=>rfl
 exact⟨key this,this⟩
theorem Dt {α:Type} (r:List α) (j:Nat) (ds:List α) (hj:j+ds.length<=r.length) (i:Nat):
  (A4 r j ds)[i]? =if j<=i/\i<j+ds.length then ds[i - j]? else r[i]? :=by
 unfold A4
 rw[List.getElem?_append,List.getElem?_append,List.length_append,List.length_take]
 have hm:min j r.length=j:=by omega
 rw[hm,List.getElem?_take,List.getElem?_drop]
 by_cases c1:i<j
 ·rw[if_pos (show i<j+ds.length by omega),if_pos c1,if_pos c1,if_neg (show ¬ (j<=i/\i<j+ds.length)by omega)]
 ·by_cases c2:i<j+ds.length
  ·rw[if_pos c2,if_neg c1,if_pos (show j<=i/\i<j+ds.length by omega)]
  ·rw[if_neg c2,if_neg (show ¬ (j<=i/\i<j+ds.length)by omega)]
   congr 1
   omega
theorem EZ {α:Type} (r:List α) (j:Nat) (ds:List α) (hj:j+ds.length<=r.length):(A4 r j ds).length=r.length:=by
 unfold A4;simp;omega
theorem U0 (hR:Rel fm e s a) {o j:Nat} {cs l:List AV} {vs:List Value} (ho:e.ob o= .box cs) (hj:j+l.length<=cs.length) (hl:l.length=vs.length)
  (hh: ∀ (i:Nat) (a:AV) (v:Value),l[i]? =some a->vs[i]? =some v->AS e a v) {w':World} (hst:BK e.w w' (e.bk o) j vs):
  ∃e',e'.w=w'/\Rel fm e' (s.putO o (.box (A4 cs j l))) a/\ ∀M,o∈M->Evo e e' M:=by
 let e':Env:={w:=w',ob:=λo'=>if o'=o then .box (A4 cs j l)else e.ob o',hd:=e.hd,bk:=e.bk,Im:=e.Im,tk:=e.tk}
 have hob: ∀o',o'≠o->e'.ob o'=e.ob o':=λo' h=>by simp[e',h]
 obtain⟨q1,q2,q3⟩:=hR.mem.own _ _ (Ag ho)
 have hnb: ∀ {b},e.Im b->b≠e.bk o:=λh1 h2=>q3 (h2 ▸ h1)
 have hnode: ∀o' p,e'.node o' p=e.node o' p:=λo' p=>by
  by_cases h:o'=o
  ·subst h;simp[Env.node,e',ho]
  ·exact Eb (hob o' h) p
 have hC:B0 e e' λo p=>some (o,p):=by
  refine⟨λb hb=>⟨hb,hst.other b (hnb hb)⟩,λo1 p k rows o' p' hn hf=> ?_,λo1 cs1 hb=> ?_,λo1 p k rows hn=>(hR.mem.node o1 p k rows hn).one,rfl⟩
  ·cases hf;exact⟨rows,by rw[hnode];exact hn,rfl,rfl⟩
  ·by_cases h:o1=o
   ·subst h;exact⟨A4 cs j l,by simp[e'],rfl⟩
   ·exact⟨cs1,by rw[hob o1 h];exact hb,rfl⟩
 refine⟨e',rfl,⟨?_,λo'=> ?_,λo' k' r' h1 h2=> ?_,λo' cs' h1 h2=> ?_,hR.size,hR.defers,λt=>(hR.tm t).carry hC⟩,λM hM=>⟨by simp only[e',hst.size];omega,λb hb hl=>hst.other b (λh=>hl (.bx o) (h ▸ Ag ho) hM)⟩⟩
 case refine_3=>
  by_cases h:o'=o
  ·subst h;simp[e']at h2
  ·rw[hob o' h]at h2;exact hR.pinh o' k' r' h1 h2
 case refine_4=>
  by_cases h:o'=o
  ·subst h;exact hR.pinb o' cs h1 ho
  ·rw[hob o' h]at h2;exact hR.pinb o' cs' h1 h2
 ·have hA:Asm fm e e' (λo' p=>some (o',p)) (λ_=>False):=by
   refine⟨?_,?_,?_,?_,?_,?_,?_,?_,?_⟩
   ·intro o' p' o1 p1 k1 rows' h1 h2
    cases h1
    rw[hnode]at h2;exact⟨rows',h2,Ev.refl _,rfl,λ_ _ _ _ _=>rfl⟩
   ·intro o' p' o1 p1 b h1 _ hb;obtain⟨_,_,g3⟩:=hR.mem.own _ b hb;refine⟨hst.other b (λh=> ?_),g3,λh=>h⟩;have:=hR.mem.inj _ _ _ hb (h ▸ Ag ho)
    cases this
   ·intro o1 p1 o2 p2 x h1 h2 _ _;rw[<-h2]at h1;simpa using h1
   ·intro o' p' k1 rows' h1 h2;cases h1
   ·intro o' p' b h1;cases h1
   ·intro b hb;cases hb
   ·intro o1 cs1 hb;by_cases h:o1=o
    ·subst h;exact .inl ⟨cs,ho,rfl,q3,λh=>h⟩
    ·rw[hob o1 h]at hb;exact .inl ⟨cs1,hb,rfl,(hR.mem.own _ _ (Ag hb)).2.2,λh=>h⟩
   ·intro o1 cs1 hb i c hc;by_cases h:o1=o
    ·subst h;simp[e']at hb;subst hb;rw[Dt cs j l hj]at hc;by_cases hi:j<=i/\i<j+l.length
     ·rw[if_pos hi]at hc;have hlt:i - j<vs.length:=by omega
      have hv:vs[i - j]? =some vs[i - j]:=List.getElem?_eq_getElem hlt;have hlt2:i<cs.length:=by omega
      obtain⟨g1,u,g2,g3⟩:=hR.mem.box o1 cs ho i cs[i] (List.getElem?_eq_getElem hlt2);refine⟨hst.wr g1,vs[i - j],?_,(hh (i - j) c _ hc hv).carry hC⟩;have:=hst.new hv (by rw[show j+(i - j)=i by omega];exact g1);rwa [show j+(i - j)=i by omega]at this
     ·rw[if_neg hi]at hc;obtain⟨g1,u,g2,g3⟩:=hR.mem.box o1 cs ho i c hc;exact⟨hst.wr g1,u,by simp only[e'];rw[hst.same (by omega)];exact g2,g3.carry hC⟩
    ·rw[hob o1 h]at hb;obtain⟨g1,u,g2,g3⟩:=hR.mem.box o1 cs1 hb i c hc;have hne:e.bk o1≠e.bk o:=λh2=>h (by
      have:=hR.mem.inj (.bx o1) (.bx o) _ (Ag hb) (h2 ▸ Ag ho)
      cases this;rfl)
     exact⟨g1.congr (hst.other _ hne),u,by rw[<-g2];exact CC (hst.other _ hne),g3.carry hC⟩
   ·simp only[e',hst.size];exact Nat.le_refl _
  exact hR.mem.asm hA (λx hx=>⟨by have:=(hR.mem.im x hx).1;simp only[e',hst.size];exact this,(hR.mem.im x hx).2⟩) hR.mem.im0 (hR.mem.keeps.stored hst q2)
 ·rw[BE]
  by_cases h:o'=o
  ·simp[e',h]
  ·simp[e',h,hR.ob]
end
section
variable {P:Program} {fm:Fm} {M:List Nat} {e e':Env} {s s':St} {a:Act} {Q:Exit->Act->World->Prop}
theorem NA (l:List AV):CL (λo p=>some (o,p)) l=l:=by
 induction l with
 |nil=>rfl
 |cons a l ih=>simp only[CL,ih,AV.sub_id _ (λ_ _=>rfl)]
theorem subT_id (l:List (Nat×AV)):PE (λo p=>some (o,p)) l=l:=by
 induction l with
 |nil=>rfl
 |cons a l ih=>obtain⟨t,a⟩:=a;simp only[PE,ih,AV.sub_id _ (λ_ _=>rfl)]
theorem Obj.sub_id (x:Obj):x.sub (λo p=>some (o,p))=x:=by
 cases x<;>simp only[Obj.sub,NA]
theorem subO_id (l:List (Nat×Obj)):Mr (λo p=>some (o,p)) l=l:=by
 induction l with
 |nil=>rfl
 |cons a l ih=>obtain⟨t,a⟩:=a;simp only[Mr,ih,Obj.sub_id]
theorem St.sub_id (s:St):s.sub (λo p=>some (o,p))=s:=by
 unfold St.sub;rw[subT_id,subO_id]
theorem DE (s:St) (f:Nat->AQ->Option (Nat×AQ)) (o:Nat):AN (s.sub f).ob o=(AN s.ob o).sub f:=QA f s.ob o
theorem Gh (s:St) (f:Nat->AQ->Option (Nat×AQ)) (t:Nat):Aw (s.sub f).tm t=(Aw s.tm t).sub f:=P8 f s.tm t
theorem Obj.sub_arr {x:Obj} {f:Nat->AQ->Option (Nat×AQ)} {k:Nat} {rows:List (List T)}:x.sub f= .arr k rows<->x= .arr k rows:=by
 cases x<;>simp[Obj.sub]
theorem Obj.sub_box {x:Obj} {f:Nat->AQ->Option (Nat×AQ)} {cs:List AV}:x.sub f= .box cs<-> ∃cs0,x= .box cs0/\cs=CL f cs0:=by
 cases x<;>simp[Obj.sub,eq_comm]
theorem Ie {ob:Nat->Obj} {f:Nat->AQ->Option (Nat×AQ)} {o:Nat} {p:AQ}:
  (match (ob o).sub f with
   | .arr k rows=>AM k rows p
   |_=>none)=(match ob o with
   | .arr k rows=>AM k rows p
   |_=>none):=by
 cases h:ob o<;>simp[Obj.sub]
theorem BV {e:Env} {o k0:Nat} {rows0:List (List T)} (h:e.ob o= .arr k0 rows0) (p:AQ):e.node o p=AM k0 rows0 p:=by
 unfold Env.node;rw[h]
theorem FY {e:Env} {o k:Nat} {p:AQ} {rows:List (List T)} (h:e.node o p=some (k,rows)): ∃k0 rows0,e.ob o= .arr k0 rows0/\AM k0 rows0 p=some (k,rows):=by
 unfold Env.node at h;split at h
 ·rename_i k0 rows0 he;exact⟨k0,rows0,he,h⟩
 ·cases h
theorem Kd {k:Nat} {rows rows':List (List T)} (hsub: ∀i j k1 r1,AI rows' i j=some (.sl k1 r1)->AI rows i j=some (.sl k1 r1))
  {b:Nat×Nat} {q:AQ} {x:Nat×List (List T)} (h:AM k rows' (b::q)=some x):AM k rows (b::q)=some x:=by
 obtain⟨i,j⟩:=b
 simp only[AM]at h ⊢
 split at h
 ·rename_i k' r' hc
  rw[hsub i j k' r' hc];exact h
 ·cases h
theorem JS.some_r {x:Option (Nat×List (List T))} {k:Nat} {r:List (List T)} (h:JS x (some (k,r))): ∃r0,x=some (k,r0)/\Ev r0 r:=by
 cases x with
 |none=>exact h.elim
 |some y=>obtain⟨k',r'⟩:=y;obtain⟨rfl,h2⟩:=h;exact⟨r',rfl,h2⟩
theorem JS.some_l {y:Option (Nat×List (List T))} {k:Nat} {r:List (List T)} (h:JS (some (k,r)) y): ∃r1,y=some (k,r1)/\Ev r r1:=by
 cases y with
 |none=>exact h.elim
 |some y=>obtain⟨k',r'⟩:=y;obtain⟨rfl,h2⟩:=h;exact⟨r',rfl,h2⟩
def T8 (o:Nat) (p:AQ) (rows rows':List (List T)) (f:Nat->AQ->Option (Nat×AQ)):Prop:=
 ((f=λo p=>some (o,p))/\ ∀i j k1 r1,AI rows i j=some (.sl k1 r1)->AI rows' i j=some (.sl k1 r1))\/f=KE o p
theorem T8.fix {o:Nat} {p:AQ} {rows rows':List (List T)} {f:Nat->AQ->Option (Nat×AQ)} (h:T8 o p rows rows' f) {o1 o':Nat} {p1 p':AQ} (hf:f o1 p1=some (o',p')):
  o'=o1/\p'=p1:=by
 rcases h with ⟨rfl,_⟩|rfl
 ·cases hf;exact⟨rfl,rfl⟩
 ·unfold KE at hf
  split at hf
  ·split at hf
   ·cases hf
   ·cases hf;exact⟨rfl,rfl⟩
  ·cases hf;exact⟨rfl,rfl⟩
theorem Nb (hR:Rel fm e s a) {o k k0:Nat} {p:AQ} {rows rows0 rows' rows1:List (List T)} (h0:e.ob o= .arr k0 rows0) (hn:AM k0 rows0 p=some (k,rows))
  (hset:C2 rows' rows0 p=some rows1) (hlen:rows'.length=rows.length)
  (hsub: ∀i j k1 r1,AI rows' i j=some (.sl k1 r1)->AI rows i j=some (.sl k1 r1)) {f:Nat->AQ->Option (Nat×AQ)} (hF:T8 o p rows rows' f)
  {w':World} (hw: ∀x,BC (e.hd o p)≠some x->w'.heap[x]? =e.w.heap[x]?) (hk:D7 fm.w0 fm.F w') (hsz:w'.heap.size=e.w.heap.size)
  (hnew:Bq w' (e.hd o p) k rows' (λi j=>e.hd o (p++[(i,j)]))):
  ∃e',e'.w=w'/\e'.hd=e.hd/\Rel fm e' ((s.putO o (.arr k0 rows1)).sub f) a/\B0 e e' f/\ ∀M,o∈M->Evo e e' M:=by
 let e':Env:={w:=w',ob:=λo'=>if o'=o then .arr k0 rows1 else(e.ob o').sub f,hd:=e.hd,bk:=e.bk,Im:=e.Im,tk:=e.tk}
 have hbn: ∀ {x l},e.blk l=some x->BC (e.hd o p)=some x->l= .nd o p:=λhx h1=>hR.mem.inj _ _ _ hx (AY (BV h0 p ▸ hn) h1)
 have hne: ∀o',o'≠o-> ∀q,e'.node o' q=e.node o' q:=λo' h q=>by
  unfold Env.node;simp only[e',if_neg h];exact Ie
 have heq: ∀q,e'.node o q=AM k0 rows1 q:=λq=>by simp[Env.node,e']
 have heq0: ∀q,e.node o q=AM k0 rows0 q:=λq=>BV h0 q
 have back: ∀o' q k1 r1,e'.node o' q=some (k1,r1)->(o',q)≠(o,p)-> ∃r0,e.node o' q=some (k1,r0)/\Ev r0 r1:=by
  intro o' q k1 r1 h hne2;by_cases ho:o'=o
  ·subst ho;rw[heq]at h;rw[heq0]
   cases hp:pre p q with
   |none=>
    have:=GD hn hset q hp;rw[h]at this;exact this.some_r
   |some r=>
    rw[EG]at hp;subst hp;rw[Cb hn hset]at h
    cases r with
    |nil=>exact absurd (by simp) hne2
    |cons b r=>
     refine⟨r1,?_,Ev.refl _⟩;rw[BI,hn];exact Kd hsub h
  ·rw[hne o' ho]at h;exact⟨r1,h,Ev.refl _⟩
 have hC:B0 e e' f:=by
  refine⟨λb hb=>⟨hb,hw b λh=> ?_⟩,λo1 p1 k1 r1 o' p' h1 hf=> ?_,λo1 cs hb=> ?_,λo1 p1 k1 r1 h1=>(hR.mem.node o1 p1 k1 r1 h1).one,rfl⟩
  ·exact(hR.mem.own (.nd o p) b (AY (BV h0 p ▸ hn) h)).2.2 hb
  ·obtain⟨rfl,rfl⟩:=hF.fix hf;by_cases ho:o'=o
   ·subst ho;rw[heq0]at h1;rw[heq]
    cases hp:pre p p' with
    |none=>
     have:=GD hn hset p' hp;rw[h1]at this;obtain⟨r2,g1,g2⟩:=this.some_l;exact⟨r2,g1,g2.len,rfl⟩
    |some r=>
     have hpp:=EG.1 hp;subst hpp;rw[BI,hn]at h1;rw[Cb hn hset]
     cases r with
     |nil=>
      simp only[AM,Option.some.injEq,Prod.mk.injEq]at h1;obtain⟨rfl,rfl⟩:=h1;exact⟨rows',rfl,hlen,rfl⟩
     |cons b r=>
      rcases hF with ⟨_,h2⟩|rfl
      ·exact⟨r1,Kd h2 h1,rfl,rfl⟩
      ·simp[KE,hp]at hf
   ·exact⟨r1,by rw[hne o' ho];exact h1,rfl,rfl⟩
  ·have ho:o1≠o:=λh=>by rw[h,h0]at hb;cases hb
   exact⟨CL f cs,by simp[e',ho,hb,Obj.sub],rfl⟩
 have hbox: ∀ {o1 cs},e'.ob o1= .box cs->o1≠o/\ ∃cs0,e.ob o1= .box cs0/\cs=CL f cs0:=λ{o1 cs} h=>by
  by_cases ho:o1=o
  ·simp[e',ho]at h
  ·simp only[e',if_neg ho]at h;exact⟨ho,Obj.sub_box.1 h⟩
 refine⟨e',rfl,rfl,⟨?_,λo'=> ?_,λo' k' r' h1 h2=> ?_,λo' cs h1 h2=> ?_,hR.size,hR.defers,λt=> ?_⟩,hC,λM hM=>⟨by simp only[e',hsz];omega,λb hb hl=>hw b λh=>hl (.nd o p) (AY (BV h0 p ▸ hn) h) hM⟩⟩
 ·have hA:Asm fm e e' (λo' p'=>if(o',p')=(o,p)then none else some (o',p')) (λb=>BC (e.hd o p)=some b):=by
   refine⟨?_,?_,?_,?_,?_,?_,?_,?_,?_⟩
   ·intro o' p' o1 p1 k1 r1 h1 h2;by_cases hop:(o',p')=(o,p)
    ·simp[hop]at h1
    ·rw[if_neg hop]at h1
     cases h1
     obtain⟨r0,g1,g2⟩:=back o' p' k1 r1 h2 hop;exact⟨r0,g1,g2,rfl,λ_ _ _ _ _=>rfl⟩
   ·intro o' p' o1 p1 b h1 _ hb;by_cases hop:(o',p')=(o,p)
    ·simp[hop]at h1
    ·rw[if_neg hop]at h1
     cases h1
     have hnb:BC (e.hd o p)≠some b:=λh=>by
      have:=hbn hb h
      cases this
      exact hop rfl
     exact⟨hw b hnb,(hR.mem.own _ b hb).2.2,hnb⟩
   ·intro o1 p1 o2 p2 x h1 h2 _ _;by_cases g1:(o1,p1)=(o,p)
    ·simp[g1]at h1
    ·by_cases g2:(o2,p2)=(o,p)
     ·simp[g2]at h2
     ·rw[if_neg g1]at h1;rw[if_neg g2]at h2;rw[<-h2]at h1;simpa using h1
   ·intro o' p' k1 r1 h1 h2;have hop:(o',p')=(o,p):=by
     by_cases hop:(o',p')=(o,p)
     ·exact hop
     ·rw[if_neg hop]at h1;cases h1
    cases hop
    rw[heq]at h2;have:=Cb hn hset [];rw[List.append_nil,h2]at this;simp only[AM,Option.some.injEq,Prod.mk.injEq]at this;obtain⟨rfl,rfl⟩:=this;exact hnew
   ·intro o' p' b h1 h2;have hop: ∀ {o' p'},(if(o',p')=(o,p)then none else some (o',p'))=(none:Option (Nat×AQ))->o'=o/\p'=p:=λ{o' p'} h1=>by
     by_cases hop:(o',p')=(o,p)
     ·cases hop;exact⟨rfl,rfl⟩
     ·rw[if_neg hop]at h1;cases h1
    obtain⟨rfl,rfl⟩:=hop h1;obtain⟨k1,r1,_,hb⟩:=E9 h2;refine⟨hb,λo2 p2 g1 _=> ?_⟩;obtain⟨rfl,rfl⟩:=hop g1;exact⟨rfl,rfl⟩
   ·intro b hb;have:=hR.mem.own (.nd o p) b (AY (BV h0 p ▸ hn) hb);exact⟨by simp only[e',hsz];exact this.1,this.2⟩
   ·intro o1 cs hb;obtain⟨ho,cs0,g1,g2⟩:=hbox hb;refine .inl ⟨cs0,g1,rfl,(hR.mem.own _ _ (Ag g1)).2.2,λh=> ?_⟩;have:=hbn (Ag g1) h
    cases this
   ·intro o1 cs hb j c hc;obtain⟨ho,cs0,g1,g2⟩:=hbox hb;subst g2;rw[Bf,List.getElem?_map]at hc
    cases hx:cs0[j]? with
    |none=>simp[hx]at hc
    |some x=>
     simp[hx]at hc;subst hc;obtain⟨q1,u,q2,q3⟩:=hR.mem.box o1 cs0 g1 j x hx;have hb2:w'.heap[e.bk o1]? =e.w.heap[e.bk o1]? :=hw _ λh=>by
      have:=hbn (Ag g1) h
      cases this
     exact⟨q1.congr hb2,u,by rw[<-q2];exact CC hb2,q3.sub hC⟩
   ·simp only[e',hsz];exact Nat.le_refl _
  exact hR.mem.asm hA (λx hx=>⟨by have:=(hR.mem.im x hx).1;simp only[e',hsz];exact this,(hR.mem.im x hx).2⟩) hR.mem.im0 hk
 ·rw[DE,BE]
  by_cases h:o'=o
  ·simp[e',h,Obj.sub]
  ·simp[e',h,hR.ob]
 ·by_cases h:o'=o
  ·subst h;exact hR.pinh o' k0 rows0 h1 h0
  ·simp only[e',if_neg h]at h2
   exact hR.pinh o' k' r' h1 (Obj.sub_arr.1 h2)
 ·obtain⟨ho,cs0,g1,g2⟩:=hbox h2
  exact hR.pinb o' cs0 h1 g1
 ·rw[Gh]
  exact(hR.tm t).sub hC
end
section
variable {P:Program} {fm:Fm} {M:List Nat} {e e':Env} {s s':St} {a:Act} {Q:Exit->Act->World->Prop}
theorem cell_lt {k i j i' j' n:Nat} (hj':j'<k) (hj:j+n<=k) (h1:i*k+j<=i'*k+j') (h2:i'*k+j'<i*k+j+n):i'=i/\j<=j'/\j'<j+n:=by
 have hi:i'=i:=by
  rcases Nat.lt_trichotomy i' i with h|h|h
  ·have:(i'+1)*k<=i*k:=Nat.mul_le_mul_right _ h;rw[Nat.add_mul]at this;omega
  ·exact h
  ·have:(i+1)*k<=i'*k:=Nat.mul_le_mul_right _ h;rw[Nat.add_mul]at this;omega
 subst hi;exact⟨rfl,by omega,by omega⟩
theorem Cl {c k i j:Nat} (hi:i<c) (hj:j<k):i*k+j<c*k:=by
 have:(i+1)*k<=c*k:=Nat.mul_le_mul_right _ hi;rw[Nat.add_mul]at this;omega
theorem bare_ok (hM:Mem fm e) {x:AV} {u:Value} (hx:AS e x u) (h1:oneCell x=true) (y:Value):CU (KF x) u y:=by
 have:=(FS hM hx h1).2
 cases hx with
 |sc v hs=>exact⟨rfl,hs⟩
 |_=>exact this
theorem MK {l:List T} (h:Gs l=true) {d:T} (hd:d∈l): ∀k r,d≠ .sl k r:=by
 induction l with
 |nil=>cases hd
 |cons x l ih=>
  cases x with
  |sc v=>
   simp only[Gs]at h;rcases List.mem_cons.1 hd with rfl|h2
   ·intro k r;simp
   ·exact ih h h2
  |hole=>
   simp only[Gs]at h;rcases List.mem_cons.1 hd with rfl|h2
   ·intro k r;simp
   ·exact ih h h2
  |sl k r=>simp[Gs]at h
theorem bare_sl (x:AV) (k:Nat) (r:List (List T)):KF x≠ .sl k r:=by cases x<;>simp[KF]
theorem AF {α:Type} {l:List α} {i:Nat} (h:i<l.length): ∃x,l[i]? =some x:=⟨l[i],List.getElem?_eq_getElem h⟩
theorem Rf (hR:Rel fm e s a) {o i j k b off n c:Nat} {p:AQ} {rows:List (List T)} {vs:List AV} {us:List Value} (hn:e.node o p=some (k,rows))
  (hh:e.hd o p= .slice (some ⟨b,off,none⟩) n c) (hc:0<c) (hl:vs.length=us.length) (h1:vs.all oneCell=true)
  (hv: ∀ (m:Nat) x u,vs[m]? =some x->us[m]? =some u->AS e x u) (h:s.write o p i j vs=some s') {w':World} (hst:BK e.w w' b (off+(i*k+j)) us):
  ∃e',e'.w=w'/\e'.hd=e.hd/\Rel fm e' s' a/\(B0 e e' λo p=>some (o,p))/\ ∀M,o∈M->Evo e e' M:=by
 obtain⟨k0,rows0,h0,hn0⟩:=FY hn
 unfold St.write at h
 rw[<-hR.ob o,h0]at h
 simp only[hn0]at h
 split at h
 ·rename_i r hr
  split at h
  ·rename_i hle
   obtain⟨hle,hsc⟩:=hle
   split at h
   ·rename_i r1 hset
    cases h
    obtain⟨ad,c',hv',hlc,hx⟩:=hR.mem.node o p k rows hn
    rw[hh]at hv'
    cases hv'
    obtain⟨b',off',hb',hwr,hk,hcell⟩:=hx hc
    cases hb'
    have hrk:r.length=k:=hk r (List.mem_of_getElem? hr)
    have hi:i<rows.length:=(List.getElem?_eq_some_iff.1 hr).1
    have hml:(vs.map KF).length=vs.length:=List.length_map _
    have hrange: ∀i' j',AI (rows.set i (A4 r j (vs.map KF))) i' j'=if i'=i/\j<=j'/\j'<j+vs.length then(vs.map KF)[j' - j]? else AI rows i' j':=by
     intro i' j';rw[O1 hr];by_cases e1:i'=i
     ·subst e1;rw[if_pos rfl,Dt r j _ (by rw[hml];exact hle),hml,B7 hr];by_cases e2:j<=j'/\j'<j+vs.length
      ·rw[if_pos e2,if_pos ⟨rfl,e2.1,e2.2⟩]
      ·rw[if_neg e2,if_neg (λh=>e2 h.2)]
     ·rw[if_neg e1,if_neg (λh=>e1 h.1)]
    have hold: ∀j' d,j<=j'->j'<j+vs.length->r[j']? =some d-> ∀k1 r1,d≠ .sl k1 r1:=by
     intro j' d g1 g2 g3;refine MK hsc (List.mem_of_getElem? (i:=j' - j) ?_);rw[List.getElem?_take,if_pos (by omega),List.getElem?_drop,show j+(j' - j)=j' by omega];exact g3
    have hiff: ∀i' j' k1 r1',AI (rows.set i (A4 r j (vs.map KF))) i' j'=some (.sl k1 r1')<->AI rows i' j'=some (.sl k1 r1'):=by
     intro i' j' k1 r1';rw[hrange];by_cases e1:i'=i/\j<=j'/\j'<j+vs.length
     ·rw[if_pos e1];obtain⟨rfl,g1,g2⟩:=e1;constructor
      ·intro h;rw[List.getElem?_map]at h;obtain⟨x,hx⟩:=AF (l:=vs) (i:=j' - j) (by omega);rw[hx]at h;simp at h;exact absurd h (bare_sl x k1 r1')
      ·intro h;rw[B7 hr]at h;exact absurd rfl (hold j' _ g1 g2 h k1 r1')
     ·rw[if_neg e1]
    have hnew:Bq w' (e.hd o p) k (rows.set i (A4 r j (vs.map KF))) (λi j=>e.hd o (p++[(i,j)])):=by
     refine⟨_,c,by rw[hh,List.length_set],by rw[List.length_set];exact hlc,λ_=>⟨b,off,rfl,λx hx=>hst.wr (hwr x hx),λr' hr'=> ?_,λi' j' d hd=> ?_⟩⟩
     ·rcases List.mem_or_eq_of_mem_set hr' with h|rfl
      ·exact hk r' h
      ·rw[EZ r j _ (by rw[hml];exact hle)];exact hrk
     ·rw[hrange]at hd;by_cases e1:i'=i/\j<=j'/\j'<j+vs.length
      ·rw[if_pos e1]at hd;obtain⟨rfl,g1,g2⟩:=e1;obtain⟨x,hx⟩:=AF (l:=vs) (i:=j' - j) (by omega);obtain⟨u,hu⟩:=AF (l:=us) (i:=j' - j) (by omega);rw[List.getElem?_map,hx]at hd;simp at hd;subst hd;refine⟨u,?_,bare_ok hR.mem (hv _ x u hx hu) (List.all_eq_true.1 h1 x (List.mem_of_getElem? hx)) _⟩;have:=hst.new hu (by
        rw[show off+(i'*k+j)+(j' - j)=off+(i'*k+j')by omega];exact hwr _ (Cl (Nat.lt_of_lt_of_le hi hlc.1) (by omega)))
       rwa [show off+(i'*k+j)+(j' - j)=off+(i'*k+j')by omega]at this
      ·rw[if_neg e1]at hd;obtain⟨u,hu,hok⟩:=hcell i' j' d hd;refine⟨u,?_,hok⟩;rw[hst.same λhin=>e1 (cell_lt (k:=k) (i:=i) (j:=j) (i':=i') (j':=j') (n:=vs.length) ?_ (by omega) (by omega) (by omega))]
       ·exact hu
       ·obtain⟨r2,hr2,hd2⟩:=AZ hd;have:=hk r2 (List.mem_of_getElem? hr2);have:=(List.getElem?_eq_some_iff.1 hd2).1;omega
    have hbk:BC (e.hd o p)=some b:=by rw[hh];simp[BC,hc]
    obtain⟨q1,q2,q3⟩:=hR.mem.own (.nd o p) b (AY hn hbk)
    obtain⟨e',g1,g2,g3,g4,g5⟩:=Nb (f:=λo p=>some (o,p)) hR h0 hn0 hset (by simp) (λi' j' k1 r1' h=>(hiff i' j' k1 r1').1 h) (.inl ⟨rfl,λi' j' k1 r1' h=>(hiff i' j' k1 r1').2 h⟩)
     (λx hx=>hst.other x (λh=>hx (h ▸ hbk))) (hR.mem.keeps.stored hst q2) hst.size hnew
    rw[St.sub_id]at g3
    exact⟨e',g1,g2,g3,g4,g5⟩
   ·cases h
  ·cases h
 ·cases h
end
section
variable {P:Program} {fm:Fm} {M:List Nat} {e e':Env} {s s':St} {a:Act} {Q:Exit->Act->World->Prop}
theorem ND (hM:Mem fm e) (hw:e'.w=e.w) (hI:e'.Im=e.Im) (src:Nat->AQ->Option (Nat×AQ)) (bsrc:Nat->Nat)
  (nodes: ∀o' q k r,e'.node o' q=some (k,r)->Bq e.w (e'.hd o' q) k r (λi j=>e'.hd o' (q++[(i,j)]))/\
   ∀b,BC (e'.hd o' q)=some b-> ∃x:Nat×AQ,src o' q=some x/\e.blk (.nd x.1 x.2)=some b)
  (inj: ∀o1 q1 o2 q2 x,src o1 q1=some x->src o2 q2=some x->(e'.node o1 q1).isSome->(e'.node o2 q2).isSome->o1=o2/\q1=q2)
  (boxes: ∀o' cs,e'.ob o'= .box cs-> ∃cs0,e.ob (bsrc o')= .box cs0/\e'.bk o'=e.bk (bsrc o')/\
   ∀ (j:Nat) c,cs[j]? =some c-> ∃c0,cs0[j]? =some c0/\ ∀u,AS e c0 u->AS e' c u)
  (binj: ∀o1 o2 cs1 cs2,e'.ob o1= .box cs1->e'.ob o2= .box cs2->bsrc o1=bsrc o2->o1=o2) (htk:e'.tk=e.tk:=by rfl):Mem fm e'/\
   ∀l b,e'.blk l=some b-> ∃l0,e.blk l0=some b/\(∀o q,l= .nd o q-> ∃x,src o q=some x/\l0= .nd x.1 x.2)/\ ∀o,l= .bx o->l0= .bx (bsrc o):=by
 have blk: ∀l b,e'.blk l=some b-> ∃l0,e.blk l0=some b/\(∀o q,l= .nd o q-> ∃x,src o q=some x/\l0= .nd x.1 x.2/\(e'.node o q).isSome)/\
   ∀o,l= .bx o->l0= .bx (bsrc o)/\ ∃cs,e'.ob o= .box cs:=by
  intro l b hb
  cases l with
  |nd o q=>
   obtain⟨k,r,hn,hb'⟩:=E9 hb;obtain⟨x,hx,hxb⟩:=(nodes o q k r hn).2 b hb';exact⟨.nd x.1 x.2,hxb,λo1 q1 h=>(by cases h;exact⟨x,hx,rfl,by rw[hn];rfl⟩),λo1 h=>(by cases h)⟩
  |bx o=>
   obtain⟨cs,hcs,rfl⟩:=Dv hb;obtain⟨cs0,h1,h2,_⟩:=boxes o cs hcs;exact⟨.bx (bsrc o),by rw[h2];exact Ag h1,λo1 q1 h=>(by cases h),λo1 h=>(by cases h;exact⟨rfl,cs,hcs⟩)⟩
 refine⟨⟨λo cs hb j c hc=> ?_,λo q k r hn=> ?_,λl l' b h h'=> ?_,λl b h=> ?_,?_,?_,?_,htk.trans hM.tk⟩,λl b h=>(blk l b h).imp λl0 h=>⟨h.1,λo q hl=>(h.2.1 o q hl).imp λx hx=>⟨hx.1,hx.2.1⟩,λo hl=>(h.2.2 o hl).1⟩⟩
 ·obtain⟨cs0,h1,h2,h3⟩:=boxes o cs hb
  obtain⟨c0,h4,h5⟩:=h3 j c hc
  obtain⟨g1,u,g2,g3⟩:=hM.box _ cs0 h1 j c0 h4
  rw[hw,h2]
  exact⟨g1,u,g2,h5 u g3⟩
 ·rw[hw];exact(nodes o q k r hn).1
 ·obtain⟨l0,g1,g2,g3⟩:=blk l b h
  obtain⟨l0',g1',g2',g3'⟩:=blk l' b h'
  have heq:=hM.inj _ _ _ g1 g1'
  cases l with
  |nd o q=>
   obtain⟨x,hx,rfl,hs⟩:=g2 o q rfl
   cases l' with
   |nd o' q'=>
    obtain⟨x',hx',rfl,hs'⟩:=g2' o' q' rfl;have:x=x':=by
     obtain⟨x1,x2⟩:=x;obtain⟨y1,y2⟩:=x';simp only[Pl.nd.injEq]at heq;rw[heq.1,heq.2]
    subst this;obtain⟨rfl,rfl⟩:=inj o q o' q' x hx hx' hs hs';rfl
   |bx o'=>
    obtain⟨rfl,_⟩:=g3' o' rfl
    cases heq
  |bx o=>
   obtain⟨rfl,cs,hcs⟩:=g3 o rfl
   cases l' with
   |nd o' q'=>
    obtain⟨x',hx',rfl,hs'⟩:=g2' o' q' rfl
    cases heq
   |bx o'=>
    obtain⟨rfl,cs',hcs'⟩:=g3' o' rfl;simp only[Pl.bx.injEq]at heq;rw[binj o o' cs cs' hcs hcs' heq]
 ·obtain⟨l0,g1,_⟩:=blk l b h
  rw[hw,hI]
  exact hM.own _ b g1
 ·rw[hw,hI];exact hM.im
 ·rw[hI];exact hM.im0
 ·rw[hw];exact hM.keeps
theorem Bq.subs {w:World} {v:Value} {k:Nat} {rows:List (List T)} {sub sub':Nat->Nat->Value} (h:Bq w v k rows sub) (hs: ∀i j,sub' i j=sub i j):Bq w v k rows sub':=by
 have:sub'=sub:=by funext i j;exact hs i j
 rw[this];exact h
def PD:Option T->Option T->Prop
 |none,none=>True
 |some (.sc v),some (.sc u)=>v=u
 |some (.sl _ _),some (.sl _ _)=>True
 |some _,some .hole=>True
 |_,_=>False
theorem PD.refl (d:Option T):PD d d:=by
 cases d with
 |none=>trivial
 |some d=>cases d<;>simp[PD]
structure Eu (r r':List (List T)):Prop where
 len:r'.length=r.length
 row: ∀ (i:Nat) (x:List T),r[i]? =some x-> ∃y:List T,r'[i]? =some y/\y.length=x.length
 cell: ∀i j,PD (AI r i j) (AI r' i j)
theorem Eu.refl (r:List (List T)):Eu r r:=⟨rfl,λ_ x h=>⟨x,h,rfl⟩,λ_ _=>PD.refl _⟩
theorem Ev.less {r r':List (List T)} (h:Ev r r'):Eu r r':=by
 refine⟨h.len,h.row,λi j=> ?_⟩;have:=h.cell i j
 cases hx:AI r i j with
 |none=>
  cases hy:AI r' i j with
  |none=>trivial
  |some y=>rw[hx,hy]at this;exact this.elim
 |some x=>
  cases hy:AI r' i j with
  |none=>rw[hx,hy]at this;cases x<;>exact this.elim
  |some y=>rw[hx,hy]at this;cases x<;>cases y<;>simp_all[Kin,PD]
theorem Eu.setAt_hole {rows:List (List T)} {i j:Nat} {d:T} (h:AI rows i j=some d):Eu rows (EE rows i j .hole):=by
 obtain⟨r,hr,hd⟩:=AZ h;have hi:i<rows.length:=(List.getElem?_eq_some_iff.1 hr).1;refine⟨by unfold EE;rw[hr];simp,λi' x hx=> ?_,λi' j'=> ?_⟩
 ·unfold EE;rw[hr];by_cases e:i'=i
  ·subst e;rw[hr]at hx
   cases hx
   exact⟨r.set j .hole,by simp[hi],by simp⟩
  ·exact⟨x,by simp only[];rw[List.getElem?_set_ne (λh=>e h.symm)];exact hx,rfl⟩
 ·rw[BS h];by_cases e:i'=i/\j'=j
  ·obtain⟨rfl,rfl⟩:=e;rw[if_pos ⟨rfl,rfl⟩,h];cases d<;>simp[PD]
  ·rw[if_neg e];exact PD.refl _
theorem Bq.less {w:World} {v:Value} {k:Nat} {rows rows':List (List T)} {sub sub':Nat->Nat->Value} (h:Bq w v k rows sub) (hk:Eu rows rows')
  (hone: ∀i j k1 r1,AI rows i j=some (.sl k1 r1)->(sub i j).oneCell'=true)
  (hs: ∀i j k1 r1,AI rows' i j=some (.sl k1 r1)->sub' i j=sub i j):Bq w v k rows' sub':=by
 obtain⟨ad,c,rfl,hle,hx⟩:=h
 refine⟨ad,c,by rw[hk.len],by rw[hk.len];exact hle,λhc=> ?_⟩
 obtain⟨b,off,rfl,h1,h2,h3⟩:=hx hc
 refine⟨b,off,rfl,h1,λr hr=> ?_,λi j d hd=> ?_⟩
 ·obtain⟨i,hi⟩:=List.mem_iff_getElem?.1 hr
  have hlt:i<rows.length:=by rw[<-hk.len];exact(List.getElem?_eq_some_iff.1 hi).1
  obtain⟨y,hy,hl⟩:=hk.row i rows[i] (List.getElem?_eq_getElem hlt)
  rw[hi]at hy
  cases hy
  rw[hl]
  exact h2 _ (List.getElem_mem hlt)
 ·have hkin:=hk.cell i j
  rw[hd]at hkin
  cases hd0:AI rows i j with
  |none=>rw[hd0]at hkin;exact hkin.elim
  |some d0=>
   rw[hd0]at hkin;obtain⟨u,hu,hok⟩:=h3 i j d0 hd0;refine⟨u,hu,?_⟩
   cases d with
   |sc v=>
    cases d0 with
    |sc v0=>simp only[PD]at hkin;subst hkin;exact hok
    |sl k0 r0=>exact hkin.elim
    |hole=>exact hkin.elim
   |sl k1 r1=>
    cases d0 with
    |sc v0=>exact hkin.elim
    |sl k0 r0=>simp only[CU]at hok ⊢;rw[hs i j _ _ hd];exact hok
    |hole=>exact hkin.elim
   |hole=>
    cases d0 with
    |sc v0=>
     obtain⟨rfl,hv⟩:=hok
     cases u<;>first|rfl|(simp[ES]at hv)
    |sl k0 r0=>simp only[CU]at hok;rw[hok];exact hone i j k0 r0 hd0
    |hole=>exact hok
theorem Bq.window {w:World} {hv v:Value} {k lo hi:Nat} {rows:List (List T)} {sub:Nat->Nat->Value} (h:Bq w hv k rows sub) (hw:Gt hv k lo hi v)
  (h1:lo<=hi) (h2:hi<=rows.length):Bq w v k (Ow.window rows lo hi) (λi j=>sub (lo+i) j):=by
 obtain⟨a,n,c,a',c',rfl,rfl,hc',hx⟩:=hw
 obtain⟨ad,c2,hv,hle,hy⟩:=h
 cases hv
 have hlen:(Ow.window rows lo hi).length=hi - lo:=by unfold Ow.window;simp;omega
 refine⟨a',c',by rw[hlen],by rw[hlen];exact⟨hc',Nat.le_of_not_lt λh=>by have:=(hx (by omega)).1;omega⟩,λh0=> ?_⟩
 obtain⟨hcc,rfl⟩:=hx h0
 obtain⟨b,off,rfl,g1,g2,g3⟩:=hy (by omega)
 refine⟨b,off+lo*k,by simp[BZ],λx hx=> ?_,λr hr=>g2 r (Ny hr),λi j d hd=> ?_⟩
 ·rw[show off+lo*k+x=off+(lo*k+x)by omega]
  refine g1 _ ?_
  have:(lo+c')*k<=c*k:=Nat.mul_le_mul_right _ hcc
  rw[Nat.add_mul]at this
  omega
 ·obtain⟨u,hu,hok⟩:=g3 (lo+i) j d (Dn _ _ _ _ _ hd)
  refine⟨u,?_,hok⟩
  rw[<-hu]
  congr 2
  rw[Nat.add_mul];omega
theorem Gt.blk {hv v:Value} {k lo hi:Nat} (hw:Gt hv k lo hi v) {b:Nat} (h:BC v=some b):BC hv=some b:=by
 obtain⟨a,n,c,a',c',rfl,rfl,hc',hx⟩:=hw;unfold BC at h;split at h
 ·rename_i ad n2 c2 heq
  cases heq
  split at h
  ·rename_i h0
   cases h
   obtain⟨hcc,ha⟩:=hx h0
   cases a with
   |none=>cases ha
   |some a=>
    simp only[Option.map_some,Option.some.injEq]at ha;subst ha;have:(a.add (lo*k)).block=a.block:=by unfold Addr.add;split<;>rfl
    simp only[BC];rw[if_pos (by omega),this]
  ·cases h
 ·cases h
theorem Gt.full {v:Value} {k n:Nat} (h: ∃a c,v= .slice a n c/\n<=c):Gt v k 0 n v:=by
 obtain⟨a,c,rfl,hle⟩:=h;refine⟨a,n,c,a,c,rfl,by simp,by simpa using hle,λ_=>⟨by omega,?_⟩⟩;rw[Nat.zero_mul]
 cases a with
 |none=>rfl
 |some a=>simp[Addr.add]
end
section
variable {P:Program} {fm:Fm} {M:List Nat} {e e':Env} {s s':St} {a:Act} {Q:Exit->Act->World->Prop}
def GM:Option (Nat×List (List T))->Option (Nat×List (List T))->Prop
 |none,none=>True
 |some (k,r),some (k',r')=>k=k'/\Eu r r'
 |_,_=>False
theorem GM.refl (x:Option (Nat×List (List T))):GM x x:=by
 cases x with
 |none=>trivial
 |some x=>exact⟨rfl,Eu.refl _⟩
theorem GM.some_r {x:Option (Nat×List (List T))} {k:Nat} {r:List (List T)} (h:GM x (some (k,r))): ∃r0,x=some (k,r0)/\Eu r0 r:=by
 cases x with
 |none=>exact h.elim
 |some y=>obtain⟨k',r'⟩:=y;obtain⟨rfl,h2⟩:=h;exact⟨r',rfl,h2⟩
theorem GM.some_l {y:Option (Nat×List (List T))} {k:Nat} {r:List (List T)} (h:GM (some (k,r)) y): ∃r1,y=some (k,r1)/\Eu r r1:=by
 cases y with
 |none=>exact h.elim
 |some y=>obtain⟨k',r'⟩:=y;obtain⟨rfl,h2⟩:=h;exact⟨r',rfl,h2⟩
theorem Oq {rows0 r0:List (List T)} {i j:Nat} {p:AQ} (h:JP rows0 ((i,j)::p)=some r0):
  ∃k' rows',AI rows0 i j=some (.sl k' rows')/\((p=[]/\r0=EE rows0 i j .hole)\/ ∃r,p≠[]/\JP rows' p=some r/\r0=EE rows0 i j (.sl k' r)):=by
 unfold JP at h
 split at h
 ·rename_i k' rows' hc
  refine⟨k',rows',hc,?_⟩
  cases p with
  |nil=>simp at h;exact .inl ⟨rfl,h.symm⟩
  |cons b p=>
   simp only at h;split at h
   ·rename_i r hr;cases h;exact .inr ⟨r,by simp,hr,rfl⟩
   ·cases h
 ·cases h
theorem Sk {k0:Nat} {rows0 r0:List (List T)} {p:AQ} (h:JP rows0 p=some r0) (q:AQ):AM k0 r0 (p++q)=none:=by
 induction p generalizing k0 rows0 r0 with
 |nil=>simp[JP]at h
 |cons b p ih=>
  obtain⟨i,j⟩:=b;obtain⟨k',rows',hc,⟨rfl,rfl⟩|⟨r,hp,hr,rfl⟩⟩:=Oq h
  ·simp only[List.cons_append,AM,BS hc,and_self,if_true]
  ·simp only[List.cons_append,AM,BS hc,and_self,if_true];exact ih hr
theorem Sl {k0:Nat} {rows0 r0:List (List T)} {p:AQ} (h:JP rows0 p=some r0) (q:AQ) (hq:pre p q=none):GM (AM k0 rows0 q) (AM k0 r0 q):=by
 induction p generalizing k0 rows0 r0 q with
 |nil=>simp[pre]at hq
 |cons b p ih=>
  obtain⟨i,j⟩:=b;obtain⟨k',rows',hc,hcase⟩:=Oq h
  cases q with
  |nil=>
   rcases hcase with ⟨rfl,rfl⟩|⟨r,hp,hr,rfl⟩
   ·exact⟨rfl,Eu.setAt_hole hc⟩
   ·exact⟨rfl,(Ev.setAt_own hc).less⟩
  |cons c q=>
   obtain⟨i',j'⟩:=c;rcases hcase with ⟨rfl,rfl⟩|⟨r,hp,hr,rfl⟩
   ·simp only[AM,BS hc];by_cases e:i'=i/\j'=j
    ·obtain⟨rfl,rfl⟩:=e;simp[pre]at hq
    ·rw[if_neg e];exact GM.refl _
   ·simp only[AM,BS hc];by_cases e:i'=i/\j'=j
    ·obtain⟨rfl,rfl⟩:=e;simp only[pre,if_true]at hq;simp only[and_self,if_true,hc];exact ih hr q hq
    ·rw[if_neg e];exact GM.refl _
def shift (lo:Nat):AQ->AQ
 |[]=>[]
 |(i,j)::r=>(lo+i,j)::r
theorem U5 {lo:Nat} {q q':AQ} (h:shift lo q=shift lo q'):q=q':=by
 cases q with
 |nil=>cases q' with
  |nil=>rfl
  |cons b q'=>simp[shift]at h
 |cons b q=>cases q' with
  |nil=>simp[shift]at h
  |cons b' q'=>
   obtain⟨i,j⟩:=b;obtain⟨i',j'⟩:=b';simp[shift]at h ⊢;omega
theorem Qb (lo:Nat) {q:AQ} (b:Nat×Nat) (r:AQ):shift lo (b::q++r)=shift lo (b::q)++r:=by simp[shift]
theorem JB {k:Nat} {rows:List (List T)} {lo hi:Nat} {b:Nat×Nat} {q:AQ} {x:Nat×List (List T)} (h:AM k (Ow.window rows lo hi) (b::q)=some x):
  AM k rows (shift lo (b::q))=some x:=by
 obtain⟨i,j⟩:=b
 simp only[AM,shift]at h ⊢
 split at h
 ·rename_i k' r' hc
  rw[Dn _ _ _ _ _ hc];exact h
 ·cases h
theorem Hr {k:Nat} {rows:List (List T)} {lo hi i j:Nat} {q:AQ} (h1:lo<=i) (h2:i<hi):
  AM k (Ow.window rows lo hi) ((i - lo,j)::q)=AM k rows ((i,j)::q):=by
 have:AI (Ow.window rows lo hi) (i - lo) j=AI rows i j:=by
  unfold AI Ow.window;rw[List.getElem?_drop,List.getElem?_take,if_pos (by omega),show lo+(i - lo)=i by omega]
 simp only[AM,this]
theorem Fu {α:Type} (l:List α):Ow.window l 0 l.length=l:=by simp[Ow.window]
theorem G9 (h:Aq) (f:Nat->AQ->Option (Nat×AQ)):(h.sub f).s=h.s.sub f:=rfl
def Ua (e:Env) (o:Nat) (p:AQ) (lo:Nat) (v:Value):AQ->Value
 |[]=>v
 |b::r=>e.hd o (p++shift lo (b::r))
theorem T0 {h h':Aq} (hR:Rel fm e h.s a) {n o k lo hi:Nat} {p:AQ} {full:Bool} {rows:List (List T)} (hc:h.cut n o p lo hi full=some h') (hn:e.node o p=some (k,rows))
  {v:Value} (hw:Gt (e.hd o p) k lo hi v) (hfull:full=true->lo=0/\hi=rows.length/\v=e.hd o p):
  ∃e',e'.w=e.w/\e'.Im=e.Im/\Rel fm e' h'.s a/\B0 e e' (FN o p n lo hi full)/\AS e' (.ref n []) v/\h'.l=CL (FN o p n lo hi full) h.l/\h'.s.n=h.s.n/\h'.s.m=h.s.m/\
   ∀l b,e'.blk l=some b-> ∃l0,e.blk l0=some b/\l0.obj=if l.obj=n then o else l.obj:=by
 unfold Aq.cut at hc
 split at hc
 case h_2=>cases hc
 rename_i hnn
 obtain⟨k0,rows0,h0,hn0⟩:=FY hn
 rw[<-hR.ob o,h0]at hc
 simp only[hn0]at hc
 split at hc
 case isFalse=>cases hc
 rename_i hle
 obtain⟨hle1,hle2,hnm⟩:=hle
 have hwin:(if full then rows else Ow.window rows lo hi)=Ow.window rows lo hi:=by
  cases full with
  |false=>rfl
  |true=>obtain⟨rfl,rfl,_⟩:=hfull rfl;simp[Fu]
 rw[hwin]at hc
 have hon:o≠n:=λh1=>by rw[<-h1,<-hR.ob o,h0]at hnn;cases hnn
 have hen:e.ob n= .none:=by rw[hR.ob];exact hnn
 obtain⟨X,hX,hXs⟩: ∃X:Obj,((p=[]/\X= .none)\/ ∃r0,p≠[]/\JP rows0 p=some r0/\X= .arr k0 r0)/\
   h'.s.n=h.s.n/\h'.s.m=h.s.m/\h'.l=CL (FN o p n lo hi full) h.l/\(∀t,Aw h'.s.tm t=(Aw h.s.tm t).sub (FN o p n lo hi full))/\
   ∀o',AN h'.s.ob o'=(if o'=n then .arr k (Ow.window rows lo hi)else if o'=o then X else AN h.s.ob o').sub (FN o p n lo hi full):=by
  cases p with
  |nil=>
   simp only[Option.some.injEq]at hc;subst hc;refine⟨.none,.inl ⟨rfl,rfl⟩,rfl,rfl,rfl,λt=>by rw[G9,Gh];rfl,λo'=> ?_⟩;rw[G9,DE,BE];congr 1;by_cases e1:o'=n
   ·simp[e1]
   ·rw[if_neg e1,if_neg e1,St.gone,DF]
  |cons b p=>
   simp only at hc;split at hc
   case h_2=>cases hc
   rename_i r0 hr0;simp only[Option.some.injEq]at hc;subst hc;refine⟨.arr k0 r0,.inr ⟨r0,by simp,hr0,rfl⟩,rfl,rfl,rfl,λt=>by rw[G9,Gh];rfl,λo'=> ?_⟩;rw[G9,DE,BE,BE]
 obtain⟨hsn,hsm,hl,htm,hobs⟩:=hXs
 let f:=FN o p n lo hi full
 let e':Env:={w:=e.w,ob:=λo'=>(if o'=n then .arr k (Ow.window rows lo hi)else if o'=o then X else e.ob o').sub f,hd:=λo' q=>if o'=n then Ua e o p lo v q else e.hd o' q,bk:=e.bk,Im:=e.Im,tk:=e.tk}
 have hnode_n: ∀q,e'.node n q=AM k (Ow.window rows lo hi) q:=λq=>by simp[Env.node,e',Obj.sub]
 have hnode_o: ∀q,e'.node o q=(match X with
   | .arr k1 r1=>AM k1 r1 q
   |_=>none):=λq=>by
  unfold Env.node
  simp only[e',if_neg hon,if_true]
  cases X<;>rfl
 have hnode_x: ∀o',o'≠n->o'≠o-> ∀q,e'.node o' q=e.node o' q:=λo' h1 h2 q=>by
  unfold Env.node;simp only[e',if_neg h1,if_neg h2];exact Ie
 have heq0: ∀q,e.node o q=AM k0 rows0 q:=λq=>BV h0 q
 have hunder: ∀q,e'.node o (p++q)=none:=λq=>by
  rw[hnode_o];rcases hX with ⟨_,rfl⟩|⟨r0,hp,hr0,rfl⟩
  ·rfl
  ·exact Sk hr0 q
 have hbeside: ∀q,pre p q=none->GM (e.node o q) (e'.node o q):=λq hq=>by
  rcases hX with ⟨rfl,_⟩|⟨r0,hp,hr0,rfl⟩
  ·simp[pre]at hq
  ·rw[hnode_o,heq0];exact Sl hr0 q hq
 have hbox: ∀ {o1 cs},e'.ob o1= .box cs-> ∃cs0,e.ob o1= .box cs0/\cs=CL f cs0:=λ{o1 cs} h=>by
  simp only[e']at h;obtain⟨cs0,g1,g2⟩:=Obj.sub_box.1 h;by_cases h1:o1=n
  ·simp[h1]at g1
  ·rw[if_neg h1]at g1;by_cases h2:o1=o
   ·rw[if_pos h2]at g1;rcases hX with ⟨_,rfl⟩|⟨r0,_,_,rfl⟩<;>cases g1
   ·rw[if_neg h2]at g1;exact⟨cs0,g1,g2⟩
 have hhn: ∀b r,e'.hd n (b::r)=e.hd o (p++shift lo (b::r)):=λb r=>by simp[e',Ua]
 have hhn0:e'.hd n []=v:=by simp[e',Ua]
 have hhx: ∀o',o'≠n-> ∀q,e'.hd o' q=e.hd o' q:=λo' h q=>by simp[e',h]
 have hC:B0 e e' f:=by
  refine⟨λb hb=>⟨hb,rfl⟩,λo1 p1 k1 r1 o' p' h1 hf=> ?_,λo1 cs hb=> ?_,λo1 p1 k1 r1 h1=>(hR.mem.node o1 p1 k1 r1 h1).one,rfl⟩
  ·by_cases ho:o1=o
   ·subst ho;simp only[f,FN,if_true]at hf
    cases hp:pre p p1 with
    |none=>
     simp only[hp]at hf
     cases hf
     have:=hbeside p1 hp;rw[h1]at this;obtain⟨r2,g1,g2⟩:=this.some_l;exact⟨r2,g1,g2.len,hhx _ hon _⟩
    |some r=>
     have hpp:=EG.1 hp;subst hpp;simp only[hp]at hf;rw[heq0,BI,hn0]at h1
     cases r with
     |nil=>
      simp only[AM,Option.some.injEq,Prod.mk.injEq]at h1;obtain⟨rfl,rfl⟩:=h1;simp only at hf;split at hf
      ·rename_i hfl
       cases hf
       obtain⟨rfl,rfl,hv⟩:=hfull hfl;refine⟨rows,?_,rfl,?_⟩
       ·rw[hnode_n,Fu];rfl
       ·rw[hhn0,hv,List.append_nil]
      ·cases hf
     |cons b r=>
      obtain⟨i,j⟩:=b;simp only at hf;split at hf
      ·rename_i hfl
       cases hf
       obtain⟨rfl,rfl,hv⟩:=hfull hfl;refine⟨r1,?_,rfl,?_⟩
       ·rw[hnode_n,Fu];exact h1
       ·rw[hhn];simp[shift]
      ·split at hf
       ·rename_i hlo
        cases hf
        refine⟨r1,?_,rfl,?_⟩
        ·rw[hnode_n,Hr hlo.1 hlo.2];exact h1
        ·rw[hhn];simp only[shift];rw[show lo+(i - lo)=i by omega]
       ·cases hf
   ·simp only[f,FN,if_neg ho]at hf
    cases hf
    have hne:o1≠n:=λh2=>by rw[h2]at h1;simp[Env.node,hen]at h1
    exact⟨r1,by rw[hnode_x o1 hne ho];exact h1,rfl,hhx _ hne _⟩
  ·have hne:o1≠n:=λh2=>by rw[h2,hen]at hb;cases hb
   have ho:o1≠o:=λh2=>by rw[h2,h0]at hb;cases hb
   exact⟨CL f cs,by simp[e',hne,ho,hb,Obj.sub],rfl⟩
 have hself:AS e' (.ref n []) v:=by
  have:=AS.ref (e:=e') n [] k (Ow.window rows lo hi) (by rw[hnode_n];rfl);rwa [hhn0]at this
 have hreg:Mem fm e'/\ ∀l b,e'.blk l=some b-> ∃l0,e.blk l0=some b/\l0.obj=if l.obj=n then o else l.obj:=by
  refine And.imp_right (λh l b hb=> ?_) (ND (e':=e') hR.mem rfl rfl (λo' q=>if o'=n then some (o,p++shift lo q)else some (o',q)) id (λo' q k1 r1 h1=> ?_) (λo1 q1 o2 q2 x h1 h2 g1 g2=> ?_) (λo1 cs hb=> ?_) (λo1 o2 _ _ _ _ h=>h))
  ·obtain⟨l0,g1,g2,g3⟩:=h l b hb;refine⟨l0,g1,?_⟩
   cases l with
   |nd o1 q=>
    obtain⟨x,hx,rfl⟩:=g2 o1 q rfl;by_cases h1:o1=n
    ·simp[h1]at hx;simp[Pl.obj,h1,<-hx]
    ·simp[h1]at hx;simp[Pl.obj,h1,<-hx]
   |bx o1=>
    rw[g3 o1 rfl];have hne:o1≠n:=λh1=>by
     obtain⟨cs,hcs,_⟩:=Dv hb;simp[e',h1,Obj.sub]at hcs
    simp[Pl.obj,hne]
  ·by_cases hon':o'=n
   ·subst hon';rw[hnode_n]at h1
    cases q with
    |nil=>
     simp only[AM,Option.some.injEq,Prod.mk.injEq]at h1;obtain⟨rfl,rfl⟩:=h1;rw[hhn0];refine⟨?_,λb hb=>⟨(o,p),by simp[shift],AY hn (hw.blk hb)⟩⟩;have:=(hR.mem.node o p k rows hn).window hw hle1 hle2;refine this.subs λi j=> ?_
     simp[e',shift,Ua]
    |cons b q=>
     have h2:=JB h1;have hno:e.node o (p++shift lo (b::q))=some (k1,r1):=by rw[heq0,BI,hn0];exact h2
     rw[hhn];refine⟨?_,λb' hb=>⟨(o,p++shift lo (b::q)),by simp,AY hno hb⟩⟩;have:=hR.mem.node _ _ _ _ hno;refine this.subs λi j=> ?_
     rw[show b::q++[(i,j)]=b::(q++[(i,j)])from rfl,hhn,<-List.cons_append,Qb,List.append_assoc]
   ·rw[hhx o' hon'];by_cases ho:o'=o
    ·subst ho;have hp:pre p q=none:=by
      cases hp:pre p q with
      |none=>rfl
      |some r=>rw[EG.1 hp,hunder]at h1;cases h1
     have:=hbeside q hp;rw[h1]at this;obtain⟨r0,g1,g2⟩:=this.some_r;refine⟨?_,λb hb=>⟨(o',q),by simp[hon'],AY g1 hb⟩⟩;refine(hR.mem.node _ _ _ _ g1).less g2 (λi j k2 r2 hc2=> ?_) (λi j k2 r2 _=>hhx o' hon' _);have:e.node o' (q++[(i,j)])=some (k2,r2):=by
      rw[heq0]at g1 ⊢;rw[BI,g1];simp[AM,hc2]
     exact(hR.mem.node _ _ _ _ this).one
    ·rw[hnode_x o' hon' ho]at h1;refine⟨?_,λb hb=>⟨(o',q),by simp[hon'],AY h1 hb⟩⟩;have:=hR.mem.node _ _ _ _ h1;refine this.subs λi j=> ?_
     rw[hhx o' hon']
  ·by_cases c1:o1=n<;>by_cases c2:o2=n
   ·subst c1;subst c2;simp only[if_true,Option.some.injEq]at h1 h2;rw[<-h2]at h1;simp only[Prod.mk.injEq,true_and]at h1;exact⟨rfl,U5 (List.append_cancel_left h1)⟩
   ·subst c1;simp only[if_true,if_neg c2,Option.some.injEq]at h1 h2;rw[<-h2]at h1;simp only[Prod.mk.injEq]at h1;obtain⟨rfl,rfl⟩:=h1;rw[hunder]at g2
    cases g2
   ·subst c2;simp only[if_true,if_neg c1,Option.some.injEq]at h1 h2;rw[<-h1]at h2;simp only[Prod.mk.injEq]at h2;obtain⟨rfl,rfl⟩:=h2;rw[hunder]at g1
    cases g1
   ·simp only[if_neg c1,if_neg c2,Option.some.injEq]at h1 h2;rw[<-h2]at h1;simpa using h1
  ·obtain⟨cs0,g1,rfl⟩:=hbox hb;refine⟨cs0,g1,rfl,λj c hj=> ?_⟩;rw[Bf,List.getElem?_map]at hj
   cases hx:cs0[j]? with
   |none=>simp[hx]at hj
   |some x=>simp[hx]at hj;subst hj;exact⟨x,rfl,λu hu=>hu.sub hC⟩
 refine⟨e',rfl,rfl,⟨hreg.1,λo'=> ?_,λo' k' r' h1 h2=> ?_,λo' cs h1 h2=> ?_,by rw[hsn];exact hR.size,hR.defers,λt=>by rw[htm];exact(hR.tm t).sub hC⟩,hC,hself,hl,hsn,hsm,hreg.2⟩
 ·rw[hobs]
  simp only[e']
  by_cases h1:o'=n
  ·simp[h1,f]
  ·by_cases h2:o'=o
   ·simp[h2,f]
   ·simp[h1,h2,hR.ob,f]
 ·rw[hsm]at h1
  have hne:o'≠n:=λh=>by omega
  rw[hhx o' hne]
  have h3:=Obj.sub_arr.1 h2
  rw[if_neg hne]at h3
  by_cases ho:o'=o
  ·subst ho;exact hR.pinh _ k0 rows0 h1 h0
  ·rw[if_neg ho]at h3;exact hR.pinh o' k' r' h1 h3
 ·rw[hsm]at h1
  obtain⟨cs0,g1,_⟩:=hbox h2
  exact hR.pinb o' cs0 h1 g1
end
section
variable {P:Program} {fm:Fm} {M:List Nat} {e e':Env} {s s':St} {a:Act} {Q:Exit->Act->World->Prop}
def Qt (e:Env) (o1 o:Nat) (P q:AQ):Value:=
 match pre P q with
 |some r=>e.hd o1 r
 |none=>e.hd o q
theorem S9 {rows:List (List T)} {i j:Nat} {d d':T} (h:AI rows i j=some d):
  (EE rows i j d').length=rows.length/\ ∀r∈EE rows i j d',∃r0∈rows,r.length=r0.length:=by
 obtain⟨r,hr,hd⟩:=AZ h
 unfold EE
 rw[hr]
 refine⟨by simp,λr' hr'=> ?_⟩
 rcases List.mem_or_eq_of_mem_set hr' with h1|rfl
 ·exact⟨r',h1,rfl⟩
 ·exact⟨r,List.mem_of_getElem? hr,by simp⟩
theorem I9 {p:AQ} {b:Nat×Nat}:pre (p++[b]) p=none:=by
 cases hp:pre (p++[b]) p with
 |none=>rfl
 |some r=>
  have:=congrArg List.length (EG.1 hp);simp at this
theorem Ss (hR:Rel fm e s a) {o1 o i j k b off n c:Nat} {p:AQ} {rows:List (List T)} (h:s.adopt o1 o p i j=some s') (hn:e.node o p=some (k,rows))
  (hh:e.hd o p= .slice (some ⟨b,off,none⟩) n c) (hc:0<c) (hcell:e.w.cell? ⟨b,off+(i*k+j),none⟩=some (e.hd o1 [])):
  ∃e',e'.w=e.w/\e'.Im=e.Im/\Rel fm e' s' a/\B0 e e' (GL o1 o (p++[(i,j)]))/\(∀o2,o2≠o->e'.hd o2=e.hd o2)/\e'.hd o p=e.hd o p/\
   o1≠o/\e'.ob o1= .none/\(∀o2,o2≠o->o2≠o1-> ∀q,e'.node o2 q=e.node o2 q)/\(∃rows',e'.node o p=some (k,rows')/\rows'.length=rows.length):=by
 unfold St.adopt at h
 split at h
 case isTrue=>cases h
 rename_i hoo
 obtain⟨k0,rows0,h0,hn0⟩:=FY hn
 rw[<-hR.ob o1,<-hR.ob o,h0]at h
 split at h
 case h_2=>cases h
 rename_i k1 rows1 k0' rows0' h1 h0'
 cases h0'
 simp only[hn0]at h
 split at h
 case h_2=>cases h
 rename_i hhole
 split at h
 case h_2=>cases h
 rename_i r0 hset
 cases h
 let PP:AQ:=p++[(i,j)]
 let f:=GL o1 o PP
 let e':Env:={w:=e.w,ob:=λo'=>(if o'=o1 then .none else if o'=o then .arr k0 r0 else e.ob o').sub f,hd:=λo' q=>if o'=o then Qt e o1 o PP q else e.hd o' q,bk:=e.bk,Im:=e.Im,tk:=e.tk}
 have heq0: ∀q,e.node o q=AM k0 rows0 q:=λq=>BV h0 q
 have heq1: ∀q,e.node o1 q=AM k1 rows1 q:=λq=>BV h1 q
 have hne1: ∀q,e'.node o1 q=none:=λq=>by simp[Env.node,e',Obj.sub]
 have hneo: ∀q,e'.node o q=AM k0 r0 q:=λq=>by
  unfold Env.node;simp only[e',if_neg (λh:o=o1=>hoo h.symm),if_true,Obj.sub]
 have hnex: ∀o',o'≠o->o'≠o1-> ∀q,e'.node o' q=e.node o' q:=λo' h1 h2 q=>by
  unfold Env.node;simp only[e',if_neg h1,if_neg h2];exact Ie
 have hunder: ∀r,e'.node o (PP++r)=e.node o1 r:=λr=>by
  rw[hneo,heq1];simp only[PP,List.append_assoc];rw[Cb hn0 hset];simp only[List.singleton_append,AM,BS hhole,and_self,if_true]
 have hhdo: ∀r,e'.hd o (PP++r)=e.hd o1 r:=λr=>by simp[e',Qt,Ci]
 have hhdn: ∀q,pre PP q=none->e'.hd o q=e.hd o q:=λq hq=>by simp[e',Qt,hq]
 have hhdx: ∀o',o'≠o-> ∀q,e'.hd o' q=e.hd o' q:=λo' h q=>by simp[e',h]
 have hpp:pre PP p=none:=I9
 have hbeside: ∀q,pre PP q=none->(q≠p/\JS (e.node o q) (e'.node o q))\/(q=p/\e'.node o q=some (k,EE rows i j (.sl k1 rows1))):=by
  intro q hq;by_cases hqp:q=p
  ·subst hqp;refine .inr ⟨rfl,?_⟩;have:=Cb hn0 hset [];rw[List.append_nil]at this;rw[hneo,this];rfl
  ·refine .inl ⟨hqp,?_⟩;rw[hneo,heq0]
   cases hp:pre p q with
   |none=>exact GD hn0 hset q hp
   |some r=>
    have:=EG.1 hp;subst this;rw[Cb hn0 hset,BI,hn0]
    cases r with
    |nil=>exact absurd (List.append_nil p) hqp
    |cons c r=>
     obtain⟨i',j'⟩:=c;have hij: ¬ (i'=i/\j'=j):=fun⟨h1,h2⟩=>by
      subst h1;subst h2;rw[show p++(i',j')::r=PP++r by simp[PP],Ci]at hq
      cases hq
     simp only[AM,BS hhole,if_neg hij];exact JS.refl _
 have hsplit: ∀q,(∃r,q=PP++r)\/pre PP q=none:=λq=>by
  cases hp:pre PP q with
  |none=>exact .inr rfl
  |some r=>exact .inl ⟨r,EG.1 hp⟩
 have hlen:=S9 (d':= .sl k1 rows1) hhole
 have hbox: ∀ {o2 cs},e'.ob o2= .box cs-> ∃cs0,e.ob o2= .box cs0/\cs=CL f cs0:=λ{o2 cs} h=>by
  simp only[e']at h;obtain⟨cs0,g1,g2⟩:=Obj.sub_box.1 h;by_cases c1:o2=o1
  ·rw[if_pos c1]at g1;cases g1
  ·rw[if_neg c1]at g1;by_cases c2:o2=o
   ·rw[if_pos c2]at g1;cases g1
   ·rw[if_neg c2]at g1;exact⟨cs0,g1,g2⟩
 have hC:B0 e e' f:=by
  refine⟨λb hb=>⟨hb,rfl⟩,λo2 p2 k2 r2 o' p' h2 hf=> ?_,λo2 cs hb=> ?_,λo2 p2 k2 r2 h2=>(hR.mem.node o2 p2 k2 r2 h2).one,rfl⟩
  ·by_cases c1:o2=o1
   ·subst c1;simp only[f,GL,if_true]at hf
    cases hf
    exact⟨r2,by rw[hunder];exact h2,rfl,hhdo p2⟩
   ·simp only[f,GL,if_neg c1]at hf
    cases hf
    by_cases c2:o2=o
    ·subst c2;rcases hsplit p2 with ⟨r,rfl⟩|hq
     ·rw[heq0]at h2;simp only[PP,List.append_assoc]at h2;rw[BI,hn0]at h2;simp[AM,hhole]at h2
     ·rcases hbeside p2 hq with ⟨_,hA⟩|⟨rfl,hA⟩
      ·rw[h2]at hA;obtain⟨r3,g1,g2⟩:=hA.some_l;exact⟨r3,g1,g2.len,hhdn p2 hq⟩
      ·rw[hn]at h2
       cases h2
       exact⟨_,hA,hlen.1,hhdn _ hq⟩
    ·exact⟨r2,by rw[hnex o2 c2 c1];exact h2,rfl,hhdx o2 c2 p2⟩
  ·have c1:o2≠o1:=λh=>by rw[h,h1]at hb;cases hb
   have c2:o2≠o:=λh=>by rw[h,h0]at hb;cases hb
   exact⟨CL f cs,by simp[e',c1,c2,hb,Obj.sub],rfl⟩
 refine⟨e',rfl,rfl,⟨?_,λo'=> ?_,λo' k' r' g1 g2=> ?_,λo' cs g1 g2=> ?_,hR.size,hR.defers,λt=>by rw[Gh];exact(hR.tm t).sub hC⟩,hC,λo2 h2=>funext λq=>hhdx o2 h2 q,hhdn p hpp,hoo,by simp[e',Obj.sub],hnex,?_⟩
 ·refine(ND (e':=e') hR.mem rfl rfl (λo' q=>if o'=o then(match pre PP q with|some r=>some (o1,r)|none=>some (o,q))else some (o',q)) id (λo' q k2 r2 g1=> ?_) (λo2 q2 o3 q3 x g1 g2 s1 s2=> ?_) (λo2 cs hb=> ?_) (λo1 o2 _ _ _ _ h=>h)).1
  ·by_cases c2:o'=o
   ·subst c2
    rcases hsplit q with ⟨r,rfl⟩|hq
    ·rw[hunder]at g1
     rw[hhdo]
     refine⟨(hR.mem.node _ _ _ _ g1).subs λi' j'=>by rw[List.append_assoc,hhdo],λb' hb'=>⟨(o1,r),by simp[Ci],AY g1 hb'⟩⟩
    ·rw[hhdn q hq]
     have hsub: ∀i' j' k3 r3,AI r2 i' j'=some (.sl k3 r3)->(q≠p\/ ¬ (i'=i/\j'=j))->e'.hd o' (q++[(i',j')])=e.hd o' (q++[(i',j')]):=by
      intro i' j' k3 r3 _ hor;refine hhdn _ ?_
      cases hp:pre PP (q++[(i',j')])with
      |none=>rfl
      |some r=>
       have h3:=EG.1 hp;rcases List.eq_nil_or_concat r with rfl|⟨r',b',rfl⟩
       ·rw[List.append_nil]at h3;have:=List.append_inj' h3 rfl;simp only[List.cons.injEq,Prod.mk.injEq,and_true]at this;rcases hor with h4|h4
        ·exact absurd this.1 h4
        ·exact absurd this.2 h4
       ·rw[List.concat_eq_append,<-List.append_assoc]at h3;have:=(List.append_inj' h3 rfl).1;rw[this,Ci]at hq
        cases hq
     rcases hbeside q hq with ⟨hqp,hA⟩|⟨rfl,hA⟩
     ·rw[g1]at hA
      obtain⟨r3,g3,g4⟩:=hA.some_r
      refine⟨(hR.mem.node _ _ _ _ g3).congr g4 (λ_ _=>rfl) (λi' j' k3 r4 h4=>hsub i' j' k3 r4 h4 (.inl hqp)),λb' hb'=>⟨(o',q),by simp[hq],AY g3 hb'⟩⟩
     ·rw[hA]at g1
      cases g1
      refine⟨?_,λb' hb'=>⟨(o',q),by simp[hq],AY hn hb'⟩⟩
      obtain⟨ad,c',hv,hle,hx⟩:=hR.mem.node o' q _ rows hn
      rw[hh]at hv
      cases hv
      obtain⟨b2,off2,hb2,y1,y2,y3⟩:=hx hc
      cases hb2
      refine⟨_,c,by rw[hh,hlen.1],by rw[hlen.1];exact hle,λ_=>⟨b,off,rfl,y1,λr hr=> ?_,λi' j' d hd=> ?_⟩⟩
      ·obtain⟨r3,z1,z2⟩:=hlen.2 r hr
       rw[z2];exact y2 r3 z1
      ·rw[BS hhole]at hd
       by_cases e1:i'=i/\j'=j
       ·obtain⟨rfl,rfl⟩:=e1
        rw[if_pos ⟨rfl,rfl⟩]at hd
        cases hd
        refine⟨_,hcell,?_⟩
        simp only[CU]
        have:=hhdo []
        rw[List.append_nil]at this
        exact this.symm
       ·rw[if_neg e1]at hd
        obtain⟨u,z1,z2⟩:=y3 i' j' d hd
        refine⟨u,z1,?_⟩
        cases d with
        |sc v=>exact z2
        |hole=>exact z2
        |sl k3 r3=>
         simp only[CU]at z2 ⊢;rw[hsub i' j' k3 r3 (by rw[BS hhole,if_neg e1];exact hd) (.inr e1)];exact z2
   ·rw[hhdx o' c2]
    have c1:o'≠o1:=λh=>by rw[h,hne1]at g1;cases g1
    rw[hnex o' c2 c1]at g1
    exact⟨(hR.mem.node _ _ _ _ g1).subs λi' j'=>hhdx o' c2 _,λb' hb'=>⟨(o',q),by simp[c2],AY g1 hb'⟩⟩
  ·by_cases c2:o2=o<;>by_cases c3:o3=o
   ·subst c2;subst c3
    rcases hsplit q2 with ⟨r2,rfl⟩|hq2<;>rcases hsplit q3 with ⟨r3,rfl⟩|hq3
    ·simp only[if_true,Ci]at g1 g2
     rw[<-g2]at g1
     simp only[Option.some.injEq,Prod.mk.injEq,true_and]at g1
     rw[g1];exact⟨rfl,rfl⟩
    ·simp only[if_true,Ci,hq3]at g1 g2
     rw[<-g2]at g1
     simp only[Option.some.injEq,Prod.mk.injEq]at g1
     exact absurd g1.1 hoo
    ·simp only[if_true,Ci,hq2]at g1 g2
     rw[<-g2]at g1
     simp only[Option.some.injEq,Prod.mk.injEq]at g1
     exact absurd g1.1.symm hoo
    ·simp only[if_true,hq2,hq3]at g1 g2
     rw[<-g2]at g1
     simpa using g1
   ·subst c2
    simp only[if_true,if_neg c3]at g1 g2
    rcases hsplit q2 with ⟨r2,rfl⟩|hq2
    ·simp only[Ci]at g1
     rw[<-g2]at g1
     simp only[Option.some.injEq,Prod.mk.injEq]at g1
     rw[<-g1.1,hne1]at s2
     cases s2
    ·simp only[hq2]at g1
     rw[<-g2]at g1
     simp only[Option.some.injEq,Prod.mk.injEq]at g1
     exact absurd g1.1.symm c3
   ·subst c3
    simp only[if_true,if_neg c2]at g1 g2
    rcases hsplit q3 with ⟨r3,rfl⟩|hq3
    ·simp only[Ci]at g2
     rw[<-g1]at g2
     simp only[Option.some.injEq,Prod.mk.injEq]at g2
     rw[<-g2.1,hne1]at s1
     cases s1
    ·simp only[hq3]at g2
     rw[<-g1]at g2
     simp only[Option.some.injEq,Prod.mk.injEq]at g2
     exact absurd g2.1.symm c2
   ·simp only[if_neg c2,if_neg c3]at g1 g2
    rw[<-g2]at g1
    simpa using g1
  ·obtain⟨cs0,g1,rfl⟩:=hbox hb
   refine⟨cs0,g1,rfl,λj c hj=> ?_⟩
   rw[Bf,List.getElem?_map]at hj
   cases hx:cs0[j]? with
   |none=>simp[hx]at hj
   |some x=>simp[hx]at hj;subst hj;exact⟨x,rfl,λu hu=>hu.sub hC⟩
 ·rw[DE]
  simp only[St.gone,DF,BE,e']
  by_cases c1:o'=o1
  ·simp[c1,f,PP]
  ·by_cases c2:o'=o
   ·simp[c2,f,PP]
   ·simp[c1,c2,hR.ob,f,PP]
 ·have h3:=Obj.sub_arr.1 g2
  by_cases c1:o'=o1
  ·rw[if_pos c1]at h3;cases h3
  ·rw[if_neg c1]at h3
   by_cases c2:o'=o
   ·subst c2
    rw[hhdn [] (by simp[PP];cases p<;>rfl)]
    exact hR.pinh _ k0 rows0 g1 h0
   ·rw[if_neg c2]at h3
    rw[hhdx o' c2];exact hR.pinh o' k' r' g1 h3
 ·obtain⟨cs0,h3,_⟩:=hbox g2
  exact hR.pinb o' cs0 g1 h3
 ·rcases hbeside p hpp with ⟨h3,_⟩|⟨_,h3⟩
  ·exact absurd rfl h3
  ·exact⟨_,h3,hlen.1⟩
end
end Go.Proofs.YtghgecpicnfgpaaGreat.Ow
