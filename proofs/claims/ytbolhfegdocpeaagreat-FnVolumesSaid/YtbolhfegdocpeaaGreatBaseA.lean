/- The small machine over trees, and that what it computes is what the calls of the loaded functions return: part 1. -/
import Derived.Calls
import Derived.Orders
import Derived.Below
import Derived.Laws.Entries
import Derived.Laws.Sem
import Derived.Laws.Cells
import Derived.Laws.BytesString
import Derived.Laws.Strings
set_option linter.unusedVariables false
set_option linter.unusedSimpArgs false
namespace Go.Proofs.YtbolhfegdocpeaaGreat.Ow
open Go
inductive T where
 |sc (v:Value)
 |sl (k:Nat) (rows:List (List T))
 |hole
abbrev Path:=List (Nat×Nat)
inductive AV where
 |non
 |dead
 |und
 |sc (v:Value)
 |nil (k:Nat)
 |im (k:Nat) (rows:List (List T))
 |al (i k:Nat) (rows:List (List T))
 |ref (o:Nat) (p:Path)
 |vw (o:Nat) (p:Path) (lo hi:Nat)
 |pb (o:Nat) (j:Nat)
 |pa (o:Nat) (p:Path) (i j:Nat)
 |pim (cells:List T)
 |agg (l:List AV)
 |tup (l:List AV)
 |clo (f:Nat) (caps:List AV)
inductive Obj where
 |none
 |box (cells:List AV)
 |arr (k:Nat) (rows:List (List T))
structure St where
 n:Nat
 m:Nat
 tm:List (Nat×AV)
 ob:List (Nat×Obj)
def getT:List (Nat×AV)->Nat->AV
 |[],_=> .non
 |(m,a)::l,t=>if t=m then a else getT l t
def getO:List (Nat×Obj)->Nat->Obj
 |[],_=> .none
 |(m,a)::l,t=>if t=m then a else getO l t
def delO:List (Nat×Obj)->Nat->List (Nat×Obj)
 |[],_=>[]
 |(m,a)::l,t=>if t=m then delO l t else(m,a)::delO l t
def cellAt {α:Type} (rows:List (List α)) (i j:Nat):Option α:=
 match rows[i]? with
 |some r=>r[j]?
 |none=>none
def setAt {α:Type} (rows:List (List α)) (i j:Nat) (d:α):List (List α):=
 match rows[i]? with
 |some r=>rows.set i (r.set j d)
 |none=>rows
def nodeAt:Nat->List (List T)->Path->Option (Nat×List (List T))
 |k,rows,[]=>some (k,rows)
 |_,rows,(i,j)::p=>
  match cellAt rows i j with
  |some (.sl k' rows')=>nodeAt k' rows' p
  |_=>none
def nodeSet (new:List (List T)):List (List T)->Path->Option (List (List T))
 |_,[]=>some new
 |rows,(i,j)::p=>
  match cellAt rows i j with
  |some (.sl k' rows')=>
   match nodeSet new rows' p with
   |some r=>some (setAt rows i j (.sl k' r))
   |none=>none
  |_=>none
def cutAt:List (List T)->Path->Option (List (List T))
 |_,[]=>none
 |rows,(i,j)::p=>
  match cellAt rows i j with
  |some (.sl k' rows')=>
   match p with
   |[]=>some (setAt rows i j .hole)
   |b::p'=>
    match cutAt rows' (b::p')with
    |some r=>some (setAt rows i j (.sl k' r))
    |none=>none
  |_=>none
inductive L where
 |sc (v:Value)
 |nil (k:Nat)
 |im (k:Nat) (rows:List (List T))
 |al (i k:Nat) (rows:List (List T))
 |own (k:Nat) (rows:List (List T))
inductive Arg where
 |v (l:L)
 |a (ls:List L)
 |pm (ls:List L)
 |pi (ts:List T)
 |c (f:Nat) (caps:List (List T))
inductive RV where
 |v (l:L)
 |a (ls:List L)
 |p (ls:List L)
structure Res where
 out:List RV
 fin:List (Option (List (List T)))
 pfin:List (List L)
inductive X where
 |t (n:Nat)
 |k (a:AV)
inductive I where
 |mov (x:X)
 |pick (c a b:X)
 |bin (op:BinOp) (x y:X)
 |beq (op:BinOp) (x y:X)
 |un (op:UnOp) (x:X)
 |toInt (k:IntKind) (x:X)
 |toStr (x:X)
 |b2s (x:X)
 |load (n:Option Nat) (x:X)
 |take (o:Nat) (n:Option Nat) (x:X)
 |store (o:Nat) (n:Option Nat) (x v:X)
 |fa (off:Nat) (x:X)
 |fld (off:Nat) (n:Option Nat) (x:X)
 |ia (k:Nat) (x i:X)
 |iaa (len k:Nat) (x i:X)
 |ixs (x i:X)
 |len (x:X)
 |slen (x:X)
 |mm (max:Bool) (x y:X)
 |sls (x:X) (lo hi:Option X)
 |sl (k:Nat) (x:X) (lo hi:Option X)
 |sl0 (k:Nat) (x:X)
 |bld (zero:List AV) (parts:List (Nat×Nat×X))
 |box (o:Nat) (x:X)
 |new (o:Nat) (zero:List AV)
 |bsl (o:Nat) (k:Nat) (parts:List X)
 |mk (o:Nat) (k:Nat) (zero:List T) (bytes:Nat) (x:X)
 |app (o:Nat) (k:Nat) (bytes:Nat) (x y:X)
 |app0 (o:Nat) (k:Nat) (bytes:Nat) (zero:List T) (x y:X)
 |cpy (k:Nat) (d s:X)
 |clr (k:Nat) (zero:List T) (x:X)
 |ext (j:Nat) (x:X)
 |nchk (x:X)
 |fn (f:Nat) (caps:List X)
 |cap0 (x:X)
 |bad
 |call (o:Nat) (f:Nat) (xs:List X)
 |callc (o:Nat) (f:Nat) (xs:List X) (cs:List Nat)
 |callv (o:Nat) (x:X) (xs:List X)
structure Ins where
 d:Option Nat
 op:I
 g:Option (Nat×Bool)
inductive D where
 |fin
 |one (i:Ins) (t:D)
 |loud (i:Ins) (hang:List Ins) (t:D)
 |alt (a b:D)
inductive C where
 |skip
 |reg (l:List Ins) (drop:List Nat)
 |dreg (t:D) (drop:List Nat)
 |seq (a b:C)
 |cond (x:X) (a b:C)
 |blk (id:Nat) (a:C)
 |loop (o:Nat) (live:List Nat) (a:C)
 |exit (id:Nat)
 |ret
inductive Ex where
 |normal
 |exit (id:Nat)
 |ret
inductive RP where
 |t (t:Nat)
 |cell (t:Nat) (n:Option Nat)
structure PF where
 n:Nat
 modes:List Nat
 body:C
 res:List RP
end Go.Proofs.YtbolhfegdocpeaaGreat.Ow
namespace Go.Proofs.YtbolhfegdocpeaaGreat.Ow
open Go
def isSc:Value->Bool
 | .bool _=>true
 | .int _ _=>true
 | .string _=>true
 | .pointer none=>true
 | .nilFunc=>true
 |_=>false
def ev (tm:List (Nat×AV)):X->AV
 | .t n=>getT tm n
 | .k a=>a
mutual
def AV.sub (f:Nat->Path->Option (Nat×Path)):AV->AV
 | .ref o p=>match f o p with
  |some (o',p')=> .ref o' p'
  |none=> .dead
 | .vw o p lo hi=>match f o p with
  |some (o',p')=> .vw o' p' lo hi
  |none=> .dead
 | .pa o p i j=>match f o p with
  |some (o',p')=> .pa o' p' i j
  |none=> .dead
 | .agg l=> .agg (subL f l)
 | .tup l=> .tup (subL f l)
 | .clo g l=> .clo g (subL f l)
 | .non=> .non
 | .dead=> .dead
 | .und=> .und
 | .sc v=> .sc v
 | .nil k=> .nil k
 | .im k rows=> .im k rows
 | .al i k rows=> .al i k rows
 | .pb o j=> .pb o j
 | .pim c=> .pim c
def subL (f:Nat->Path->Option (Nat×Path)):List AV->List AV
 |[]=>[]
 |a::l=>a.sub f::subL f l
end
def subT (f:Nat->Path->Option (Nat×Path)):List (Nat×AV)->List (Nat×AV)
 |[]=>[]
 |(t,a)::l=>(t,a.sub f)::subT f l
def Obj.sub (f:Nat->Path->Option (Nat×Path)):Obj->Obj
 | .box cells=> .box (subL f cells)
 | .arr k rows=> .arr k rows
 | .none=> .none
def subO (f:Nat->Path->Option (Nat×Path)):List (Nat×Obj)->List (Nat×Obj)
 |[]=>[]
 |(o,x)::l=>(o,x.sub f)::subO f l
def St.sub (s:St) (f:Nat->Path->Option (Nat×Path)):St:={s with tm:=subT f s.tm,ob:=subO f s.ob}
def St.putO (s:St) (o:Nat) (x:Obj):St:={s with ob:=(o,x)::delO s.ob o}
def St.gone (s:St) (o:Nat):St:={s with ob:=delO s.ob o}
def St.new (s:St) (o:Nat) (x:Obj):Option St:=
 match getO s.ob o with
 | .none=>if s.m<=o then some (s.putO o x)else none
 |_=>none
def St.put (s:St) (d:Option Nat) (a:AV):Option St:=
 match d with
 |none=>some s
 |some t=>if t<s.n then some {s with tm:=(t,a)::s.tm} else none
def pre:Path->Path->Option Path
 |[],p=>some p
 |_::_,[]=>none
 |a::q,b::p=>if a=b then pre q p else none
def binS (op:BinOp):Value->Value->Option Value
 | .int k a,.int k' b=>
  match op with
  | .shl=>if b<0 then none else some (.int k (k.wrap (a*2 ^ (min b.toNat k.bits))))
  | .shr=>if b<0 then none else some (.int k (a.fdiv (2 ^ (min b.toNat k.bits))))
  |_=>
   if k=k' then
    match op with
    | .add=>some (.int k (k.wrap (a+b)))
    | .sub=>some (.int k (k.wrap (a - b)))
    | .mul=>some (.int k (k.wrap (a*b)))
    | .quo=>if b=0 then none else some (.int k (k.wrap (a.tdiv b)))
    | .rem=>if b=0 then none else some (.int k (a.tmod b))
    | .and=>some (.int k (bits .and k a b))
    | .or=>some (.int k (bits .or k a b))
    | .xor=>some (.int k (bits .xor k a b))
    | .andNot=>some (.int k (bits .andNot k a b))
    | .eql=>some (.bool (a==b))
    | .neq=>some (.bool (a != b))
    | .lss=>some (.bool (decide (a<b)))
    | .leq=>some (.bool (decide (a<=b)))
    | .gtr=>some (.bool (decide (a>b)))
    | .geq=>some (.bool (decide (a ≥ b)))
    |_=>none
   else none
 | .string x,.string y=>
  match op with
  | .add=>if x.size+y.size<=9223372036854775807 then some (.string (x++y))else none
  | .eql=>some (.bool (x.toList==y.toList))
  | .neq=>some (.bool (!(x.toList==y.toList)))
  |_=>none
 |_,_=>none
def beqS (op:BinOp) (x y:Bool):Option Value:=
 match op with
 | .eql=>some (.bool (x==y))
 | .neq=>some (.bool (!(x==y)))
 |_=>none
def beqA (op:BinOp):AV->AV->Option AV
 | .sc (.bool x),.sc (.bool y)=>(beqS op x y).map .sc
 |_,_=>none
def binA (op:BinOp):AV->AV->Option AV
 | .sc x,.sc y=>(binS op x y).map .sc
 |_,_=>none
def unA (op:UnOp):AV->Option AV
 | .sc (.int k n)=>
  match op with
  | .neg=>some (.sc (.int k (k.wrap (0 - n))))
  |_=>none
 | .sc (.bool b)=>
  match op with
  | .not=>some (.sc (.bool (!b)))
  |_=>none
 |_=>none
def ofD (o:Nat) (p:Path) (i j:Nat):T->AV
 | .sc v=> .sc v
 | .sl _ _=> .ref o (p++[(i,j)])
 | .hole=> .dead
def ofPT:T->AV
 | .sc v=> .sc v
 | .sl k rows=> .im k rows
 | .hole=> .dead
def ofDs (o:Nat) (p:Path) (i:Nat):Nat->List T->List AV
 |_,[]=>[]
 |j,d::l=>ofD o p i j d::ofDs o p i (j+1) l
def ofPTs:List T->List AV
 |[]=>[]
 |d::l=>ofPT d::ofPTs l
def nodeOf (ob:List (Nat×Obj)) (o:Nat) (p:Path):Option (Nat×List (List T)):=
 match getO ob o with
 | .arr k rows=>nodeAt k rows p
 |_=>none
def cells {α:Type} (l:List α) (j n:Nat):Option (List α):=if j+n<=l.length then some ((l.drop j).take n)else none
def loadA (ob:List (Nat×Obj)) (n:Option Nat):AV->Option AV
 | .pb o j=>
  match getO ob o with
  | .box cs=>
   match n with
   |none=>cs[j]?
   |some n=>(cells cs j n).map .agg
  |_=>none
 | .pa o p i j=>
  match nodeOf ob o p with
  |some (_,rows)=>
   match rows[i]? with
   |some r=>
    match n with
    |none=>r[j]?.map (ofD o p i j)
    |some n=>(cells r j n).map fun l=> .agg (ofDs o p i j l)
   |none=>none
  |none=>none
 | .pim cs=>
  match n with
  |none=>cs[0]?.map ofPT
  |some n=>(cells cs 0 n).map fun l=> .agg (ofPTs l)
 |_=>none
def rowsOf (ob:List (Nat×Obj)):AV->Option (Nat×List (List T))
 | .nil k=>some (k,[])
 | .im k rows=>some (k,rows)
 | .al _ k rows=>some (k,rows)
 | .ref o p=>nodeOf ob o p
 | .vw o p lo hi=>
  match nodeOf ob o p with
  |some (k,rows)=>some (k,(rows.take hi).drop lo)
  |none=>none
 |_=>none
def lenA (ob:List (Nat×Obj)):AV->Option Nat
 | .nil _=>some 0
 | .im _ rows=>some rows.length
 | .al _ _ rows=>some rows.length
 | .ref o p=>
  match nodeOf ob o p with
  |some (_,rows)=>some rows.length
  |none=>none
 | .vw _ _ lo hi=>some (hi - lo)
 |_=>none
def natOf:AV->Option Nat
 | .sc (.int _ i)=>if 0<=i then some i.toNat else none
 |_=>none
def idxA (ob:List (Nat×Obj)) (k:Nat) (x:AV) (i:Nat):Option AV:=
 match x with
 | .im k' rows=>if k'=k then(rows[i]?).map .pim else none
 | .al _ k' rows=>if k'=k then(rows[i]?).map .pim else none
 | .ref o p=>
  match nodeOf ob o p with
  |some (k',rows)=>if k'=k/\i<rows.length then some (.pa o p i 0)else none
  |none=>none
 | .vw o p lo hi=>
  match nodeOf ob o p with
  |some (k',rows)=>if k'=k/\lo+i<hi/\hi<=rows.length then some (.pa o p (lo+i) 0)else none
  |none=>none
 |_=>none
def offA (x:AV) (n:Nat):Option AV:=
 match x with
 | .pb o j=>some (.pb o (j+n))
 | .pa o p i j=>some (.pa o p i (j+n))
 | .pim cs=>some (.pim (cs.drop n))
 |_=>none
def sliceA (ob:List (Nat×Obj)) (k:Nat) (x:AV) (lo:Nat) (hi:Option Nat):Option AV:=
 match x with
 | .nil k'=>if k'=k/\lo=0/\(hi=none\/hi=some 0)then some (.nil k)else none
 | .im k' rows=>
  if k'=k then
   match hi with
   |none=>if lo<=rows.length then some (.im k (rows.drop lo))else none
   |some h=>if lo<=h/\h<=rows.length then some (.im k ((rows.take h).drop lo))else none
  else none
 | .ref o p=>
  match nodeOf ob o p with
  |some (k',rows)=>
   if k'=k then
    match hi with
    |none=>if lo<=rows.length then some (.vw o p lo rows.length)else none
    |some h=>if lo<=h/\h<=rows.length then some (.vw o p lo h)else none
   else none
  |none=>none
 | .vw o p l0 h0=>
  match nodeOf ob o p with
  |some (k',_)=>
   if k'=k then
    match hi with
    |none=>if l0+lo<=h0 then some (.vw o p (l0+lo) h0)else none
    |some h=>if lo<=h/\l0+h<=h0 then some (.vw o p (l0+lo) (l0+h))else none
   else none
  |none=>none
 |_=>none
def optNat (tm:List (Nat×AV)):Option X->Option (Option Nat)
 |none=>some none
 |some x=>(natOf (ev tm x)).map some
def bytesOf:List (List T)->Option (List UInt8)
 |[]=>some []
 |[.sc (.int .u8 n)]::l=>(bytesOf l).map fun m=>UInt8.ofNat n.toNat::m
 |_::_=>none
def toT (ob:List (Nat×Obj)) (x:AV):Option T:=
 match x with
 | .sc v=>some (.sc v)
 | .dead=>some .hole
 |x=>(rowsOf ob x).map fun(k,r)=> .sl k r
def mapM' {α β:Type} (f:α->Option β):List α->Option (List β)
 |[]=>some []
 |a::l=>match f a with
  |some b=>match mapM' f l with
   |some m=>some (b::m)
   |none=>none
  |none=>none
def oneCell:AV->Bool
 | .non=>false
 | .und=>false
 | .tup _=>false
 | .agg _=>false
 |_=>true
def boxable:AV->Bool
 | .non=>false
 | .und=>false
 | .tup _=>false
 | .agg l=>l.all oneCell
 |_=>true
def rowAV:AV->List AV
 | .agg l=>l
 |a=>[a]
def isIm:AV->Bool
 | .sc _=>true
 | .nil _=>true
 | .im _ _=>true
 |_=>false
def allSc:List T->Bool
 |[]=>true
 | .sc _::l=>allSc l
 | .hole::l=>allSc l
 | .sl _ _::_=>false
def allScA:List AV->Bool
 |[]=>true
 | .sc _::l=>allScA l
 |_::_=>false
def flat:List (List T)->Bool
 |[]=>true
 |r::l=>allSc r&&flat l
def window {α:Type} (l:List α) (lo hi:Nat):List α:=(l.take hi).drop lo
def cutF (o:Nat) (p:Path) (n lo hi:Nat) (full:Bool) (o2:Nat) (q:Path):Option (Nat×Path):=
 if o2=o then
  match pre p q with
  |none=>some (o2,q)
  |some []=>if full then some (n,[])else none
  |some ((i,j)::r)=>if full then some (n,(i,j)::r)else if lo<=i/\i<hi then some (n,(i - lo,j)::r)else none
 else some (o2,q)
structure Hand where
 s:St
 l:List AV
def Hand.sub (h:Hand) (f:Nat->Path->Option (Nat×Path)):Hand:={s:=h.s.sub f,l:=subL f h.l}
def Hand.cut (h:Hand) (n o:Nat) (p:Path) (lo hi:Nat) (full:Bool):Option Hand:=
 match getO h.s.ob n with
 | .none=>
  match getO h.s.ob o with
  | .arr k0 rows0=>
   match nodeAt k0 rows0 p with
   |some (k,rows)=>
    if lo<=hi/\hi<=rows.length/\h.s.m<=n then
     match p with
     |[]=>some (({h with s:=(h.s.gone o).putO n (.arr k (if full then rows else window rows lo hi))}:Hand).sub (cutF o p n lo hi full))
     |_::_=>
      match cutAt rows0 p with
      |some r0=>some (({h with s:=(h.s.putO o (.arr k0 r0)).putO n (.arr k (if full then rows else window rows lo hi))}:Hand).sub (cutF o p n lo hi full))
      |none=>none
    else none
   |none=>none
  |_=>none
 |_=>none
def Hand.root (h:Hand) (i n:Nat):Option Hand:=
 match h.l[i]? with
 |some (.sc _)=>some h
 |some (.nil k)=>
  match getO h.s.ob n with
  | .none=>if h.s.m<=n then some {s:=h.s.putO n (.arr k []),l:=h.l.set i (.ref n [])} else none
  |_=>none
 |some (.ref o p)=>
  match p with
  |[]=>some h
  |_::_=>
   match nodeOf h.s.ob o p with
   |some (_,rows)=>h.cut n o p 0 rows.length true
   |none=>none
 |some (.vw o p lo hi)=>
  match h.cut n o p lo hi false with
  |some h'=>some {h' with l:=h'.l.set i (.ref n [])}
  |none=>none
 |_=>none
def Hand.roots (h:Hand) (base i:Nat):Nat->Option Hand
 |0=>some h
 |m+1=>
  match h.root i base with
  |some h'=>h'.roots (base+1) (i+1) m
  |none=>none
def setRow {α:Type} (r:List α) (j:Nat) (ds:List α):List α:=r.take j++ds++r.drop (j+ds.length)
def bare:AV->T
 | .sc v=> .sc v
 |_=> .hole
def adoptF (o1 o:Nat) (p:Path) (o2:Nat) (q:Path):Option (Nat×Path):=if o2=o1 then some (o,p++q)else some (o2,q)
def St.adopt (s:St) (o1 o:Nat) (p:Path) (i j:Nat):Option St:=
 if o1=o then none else
 match getO s.ob o1,getO s.ob o with
 | .arr k1 rows1,.arr k0 rows0=>
  match nodeAt k0 rows0 p with
  |some (_,rows)=>
   match cellAt rows i j with
   |some .hole=>
    match nodeSet (setAt rows i j (.sl k1 rows1)) rows0 p with
    |some r=>some (((s.putO o (.arr k0 r)).gone o1).sub (adoptF o1 o (p++[(i,j)])))
    |none=>none
   |_=>none
  |none=>none
 |_,_=>none
def St.adopts (s:St) (o:Nat) (p:Path) (i:Nat):Nat->List AV->Option St
 |_,[]=>some s
 |j,.sc _::l=>s.adopts o p i (j+1) l
 |j,.ref o1 []::l=>
  match s.adopt o1 o p i j with
  |some s'=>s'.adopts o p i (j+1) l
  |none=>none
 |_,_::_=>none
end Go.Proofs.YtbolhfegdocpeaaGreat.Ow
namespace Go.Proofs.YtbolhfegdocpeaaGreat.Ow
open Go
def Hand.detach (h:Hand) (base o:Nat) (p:Path) (i:Nat):Nat->Nat->Option Hand
 |_,0=>some h
 |j,m+1=>
  match nodeOf h.s.ob o (p++[(i,j)])with
  |some (_,rows)=>
   match h.cut base o (p++[(i,j)]) 0 rows.length true with
   |some h'=>h'.detach (base+1) o p i (j+1) m
   |none=>none
  |none=>h.detach (base+1) o p i (j+1) m
def St.write (s:St) (o:Nat) (p:Path) (i j:Nat) (vs:List AV):Option St:=
 match getO s.ob o with
 | .arr k0 rows0=>
  match nodeAt k0 rows0 p with
  |some (_,rows)=>
   match rows[i]? with
   |some r=>
    if j+vs.length<=r.length/\allSc ((r.drop j).take vs.length)=true then
     match nodeSet (rows.set i (setRow r j (vs.map bare))) rows0 p with
     |some r1=>some (s.putO o (.arr k0 r1))
     |none=>none
    else none
   |none=>none
  |none=>none
 |_=>none
def storePa (s:St) (base o:Nat) (p:Path) (i j:Nat) (vs:List AV):Option St:=
 if allScA vs then
  match ({s,l:=[]}:Hand).detach (base+50) o p i j vs.length with
  |some h=>h.s.write o p i j vs
  |none=>none
 else
  match ({s,l:= .pa o p i j::vs}:Hand).roots base 1 vs.length with
  |some h=>
   match h.l with
   | .pa o' p' i' j'::vs'=>
    match ({s:=h.s,l:=[]}:Hand).detach (base+50) o' p' i' j' vs'.length with
    |some h'=>
     match h'.s.write o' p' i' j' vs' with
     |some s'=>s'.adopts o' p' i' j' vs'
     |none=>none
    |none=>none
   |_=>none
  |none=>none
def storeTo (s:St) (base:Nat) (x:AV) (vs:List AV):Option St:=
 match x with
 | .pb o j=>
  match getO s.ob o with
  | .box cs=>if j+vs.length<=cs.length then some (s.putO o (.box (setRow cs j vs)))else none
  |_=>none
 | .pa o p i j=>storePa s base o p i j vs
 |_=>none
def storeA (s:St) (base:Nat) (n:Option Nat) (x v:AV):Option St:=
 match n with
 |none=>if oneCell v then storeTo s base x [v]else none
 |some m=>match v with
  | .agg l=>if l.length=m/\0<m/\l.all oneCell then storeTo s base x l else none
  |_=>none
def holed:List T->List T
 |[]=>[]
 | .sl _ _::l=> .hole::holed l
 |d::l=>d::holed l
def holedR:List (List T)->List (List T)
 |[]=>[]
 |r::l=>holed r::holedR l
def comeF (o2 lo hi o at_:Nat) (o':Nat) (q:Path):Option (Nat×Path):=
 if o'=o2 then
  match q with
  |(i,j)::r=>if lo<=i/\i<hi then some (o,(at_+(i - lo),j)::r)else some (o',q)
  |[]=>some (o',q)
 else some (o',q)
def growF (o1 o:Nat) (o':Nat) (q:Path):Option (Nat×Path):=
 if o'=o1 then
  match q with
  |[]=>none
  |b::r=>some (o,b::r)
 else some (o',q)
def headRows (s:St) (k:Nat):AV->Option (Nat×List (List T))
 | .ref o1 []=>match getO s.ob o1 with
  | .arr k' rows=>if k'=k then some (o1,rows)else none
  |_=>none
 |_=>none
def winOf (s:St):AV->Option (Nat×Nat×List (List T)×Nat×Nat)
 | .ref o []=>match getO s.ob o with
  | .arr k rows=>some (o,k,rows,0,rows.length)
  |_=>none
 | .vw o [] lo hi=>match getO s.ob o with
  | .arr k rows=>if lo<=hi/\hi<=rows.length then some (o,k,rows,lo,hi)else none
  |_=>none
 |_=>none
def growS (s:St) (o1 o k:Nat) (rows:List (List T)):Option St:=((s.gone o1).sub (growF o1 o)).new o (.arr k rows)
def appA (s:St) (o k bytes:Nat) (x y:AV):Option (AV×St):=
 match ({s,l:=[x,y]}:Hand).root 0 (o+1)with
 |some h=>
  match h.l with
  |[x',y']=>
   match headRows h.s k x',rowsOf h.s.ob y' with
   |some (o1,rows),some (k',new)=>
    if k'=k/\0<bytes/\(rows.length+new.length)*bytes<=35184372088832/\o1≠o then
     if flat new then
      match growS h.s o1 o k (rows++new)with
      |some s'=>some (.ref o [],s')
      |none=>none
     else
      match winOf h.s y' with
      |some (o2,_,rows2,lo,hi)=>
       if o1=o2 then none else
       match growS (h.s.putO o2 (.arr k (setRow rows2 lo (holedR (window rows2 lo hi))))) o1 o k (rows++new)with
       |some s'=>some (.ref o [],s'.sub (comeF o2 lo hi o rows.length))
       |none=>none
      |none=>none
    else none
   |_,_=>none
  |_=>none
 |none=>none
def app0A (s:St) (o k bytes:Nat) (zero:List T) (x:AV) (n:Nat):Option (AV×St):=
 match ({s,l:=[x]}:Hand).root 0 (o+1)with
 |some h=>
  match h.l with
  |[x']=>
   match headRows h.s k x' with
   |some (o1,rows)=>
    if 0<bytes/\(rows.length+n)*bytes<=35184372088832/\zero.length=k/\allSc zero=true/\o1≠o then
     match growS h.s o1 o k (rows++List.replicate n zero)with
     |some s'=>some (.ref o [],s')
     |none=>none
    else none
   |none=>none
  |_=>none
 |none=>none
def winAt (ob:List (Nat×Obj)):AV->Option (Nat×Path×Nat×List (List T)×Nat×Nat)
 | .ref o p=>match nodeOf ob o p with
  |some (k,rows)=>some (o,p,k,rows,0,rows.length)
  |none=>none
 | .vw o p lo hi=>match nodeOf ob o p with
  |some (k,rows)=>if lo<=hi/\hi<=rows.length then some (o,p,k,rows,lo,hi)else none
  |none=>none
 |_=>none
def putNode (s:St) (o:Nat) (p:Path) (rows:List (List T)):Option St:=
 match getO s.ob o with
 | .arr k0 rows0=>
  match nodeSet rows rows0 p with
  |some r=>some (s.putO o (.arr k0 r))
  |none=>none
 |_=>none
def belowF (o:Nat) (p:Path) (o2:Nat) (q:Path):Option (Nat×Path):=
 if o2=o then
  match pre p q with
  |some (_::_)=>none
  |_=>some (o2,q)
 else some (o2,q)
def cpyA (s:St) (k:Nat) (d y:AV):Option (AV×St):=
 match winAt s.ob d,rowsOf s.ob y with
 |some (o,p,k',rows,lo,hi),some (k2,src)=>
  if k'=k/\k2=k/\flat rows=true/\flat src=true then
   match putNode s o p (rows.take lo++src.take (min src.length (hi - lo))++rows.drop (lo+min src.length (hi - lo)))with
   |some s'=>some (.sc (.int .i64 (min src.length (hi - lo):Nat)),s')
   |none=>none
  else none
 |_,_=>none
def clrA (s:St) (k:Nat) (zero:List T) (x:AV):Option St:=
 match winAt s.ob x with
 |some (o,p,k',rows,lo,hi)=>
  if k'=k/\zero.length=k then
   match putNode s o p (rows.take lo++List.replicate (hi - lo) zero++rows.drop hi)with
   |some s'=>some (if flat rows then s' else s'.sub (belowF o p))
   |none=>none
  else none
 |none=>none
def adoptRows (o:Nat):Nat->List (List AV)->St->Option St
 |_,[],s=>some s
 |i,r::l,s=>match s.adopts o [] i 0 r with
  |some s'=>adoptRows o (i+1) l s'
  |none=>none
def unflat (k:Nat):Nat->List AV->List (List AV)
 |0,_=>[]
 |n+1,l=>l.take k::unflat k n (l.drop k)
def isImR:AV->Bool
 | .im _ _=>true
 |_=>false
def bslA (s:St) (o k:Nat) (vs:List (List AV)):Option (AV×St):=
 if vs.all fun r=>r.length=k/\r.all oneCell then
  if vs.all fun r=>allScA r then(s.new o (.arr k (vs.map fun r=>r.map bare))).map fun s'=>(.ref o [],s')
  else if vs.any fun r=>r.any isImR then
   if vs.all fun r=>r.all isIm then(mapM' (mapM' (toT s.ob)) vs).map fun rows=>(.im k rows,s)else none
  else
   match ({s,l:=vs.flatten}:Hand).roots (o+1) 0 vs.flatten.length with
   |some h=>
    match h.s.new o (.arr k ((unflat k vs.length h.l).map fun r=>r.map bare))with
    |some s'=>(adoptRows o 0 (unflat k vs.length h.l) s').map fun s2=>(.ref o [],s2)
    |none=>none
   |none=>none
 else none
def openLs:Nat->List L->List AV×List (Nat×Obj)×Nat
 |o,[]=>([],[],o)
 |o,.sc v::ls=>match openLs o ls with
  |(as,os,m)=>(.sc v::as,os,m)
 |o,.nil k::ls=>match openLs o ls with
  |(as,os,m)=>(.nil k::as,os,m)
 |o,.im k rows::ls=>match openLs o ls with
  |(as,os,m)=>(.im k rows::as,os,m)
 |o,.al i k rows::ls=>match openLs o ls with
  |(as,os,m)=>(.al i k rows::as,os,m)
 |o,.own k rows::ls=>match openLs (o+1) ls with
  |(as,os,m)=>(.ref o []::as,(o,.arr k rows)::os,m)
def openArg (o:Nat):Arg->AV×List (Nat×Obj)×Nat
 | .v l=>match openLs o [l]with
  |(as,os,m)=>(as.headD .dead,os,m)
 | .a ls=>match openLs o ls with
  |(as,os,m)=>(.agg as,os,m)
 | .pm ls=>match openLs (o+1) ls with
  |(as,os,m)=>(.pb o 0,(o,.box as)::os,m)
 | .pi ts=>(.pim ts,[],o)
 | .c f caps=>(.clo f (caps.map .pim),[],o)
def openArgs:Nat->Nat->List Arg->List (Nat×AV)×List (Nat×Obj)×Nat
 |_,o,[]=>([],[],o)
 |t,o,a::l=>
  match openArg o a with
  |(v,os,m)=>match openArgs (t+1) m l with
   |(tm,os',m')=>((t,v)::tm,os++os',m')
def entry (n:Nat) (args:List Arg):St:=
 match openArgs 0 0 args with
 |(tm,os,m)=>{n,m,tm,ob:=os}
def openRV (o:Nat):RV->AV×List (Nat×Obj)×Nat
 | .v l=>openArg o (.v l)
 | .a ls=>openArg o (.a ls)
 | .p ls=>openArg o (.pm ls)
def openRVs:Nat->List RV->List AV×List (Nat×Obj)×Nat
 |o,[]=>([],[],o)
 |o,r::l=>match openRV o r with
  |(a,os,m)=>match openRVs m l with
   |(as,os',m')=>(a::as,os++os',m')
mutual
def AV.mv (f:Nat->Option Nat):AV->AV
 | .ref o p=>match f o with
  |some o'=> .ref o' p
  |none=> .dead
 | .vw o p lo hi=>match f o with
  |some o'=> .vw o' p lo hi
  |none=> .dead
 | .pb o j=>match f o with
  |some o'=> .pb o' j
  |none=> .dead
 | .pa o p i j=>match f o with
  |some o'=> .pa o' p i j
  |none=> .dead
 | .agg l=> .agg (mvL f l)
 | .tup l=> .tup (mvL f l)
 | .clo g l=> .clo g (mvL f l)
 | .non=> .non
 | .dead=> .dead
 | .und=> .und
 | .sc v=> .sc v
 | .nil k=> .nil k
 | .im k rows=> .im k rows
 | .al i k rows=> .al i k rows
 | .pim c=> .pim c
def mvL (f:Nat->Option Nat):List AV->List AV
 |[]=>[]
 |a::l=>a.mv f::mvL f l
end
mutual
def noAl:AV->Bool
 | .al _ _ _=>false
 | .agg l=>noAlL l
 | .tup l=>noAlL l
 | .clo _ l=>noAlL l
 | .im _ _=>true
 | .pim _=>true
 | .ref _ _=>true
 | .vw _ _ _ _=>true
 | .pb _ _=>true
 | .pa _ _ _ _=>true
 | .non=>true
 | .dead=>true
 | .und=>true
 | .sc _=>true
 | .nil _=>true
def noAlL:List AV->Bool
 |[]=>true
 |a::l=>noAl a&&noAlL l
end
mutual
def AV.mvt (f:Nat->Option Nat) (g:Nat->AV):AV->AV
 | .al j _ _=>g j
 | .agg l=> .agg (mvtL f g l)
 | .tup l=> .tup (mvtL f g l)
 | .clo n l=> .clo n (mvtL f g l)
 | .im k rows=> .im k rows
 | .pim c=> .pim c
 | .ref o p=>AV.mv f (.ref o p)
 | .vw o p lo hi=>AV.mv f (.vw o p lo hi)
 | .pb o j=>AV.mv f (.pb o j)
 | .pa o p i j=>AV.mv f (.pa o p i j)
 | .non=> .non
 | .dead=> .dead
 | .und=> .und
 | .sc v=> .sc v
 | .nil k=> .nil k
def mvtL (f:Nat->Option Nat) (g:Nat->AV):List AV->List AV
 |[]=>[]
 |a::l=>a.mvt f g::mvtL f g l
end
def tkList {α:Type}:List AV->List α->List (Nat×α)
 |[],_=>[]
 |_::_,[]=>[]
 | .al i _ _::ys,x::xs=>(i,x)::tkList ys xs
 |_::ys,_::xs=>tkList ys xs
def tkGet {α:Type}:List (Nat×α)->Nat->Option α
 |[],_=>none
 |(i,x)::l,j=>if i=j then some x else tkGet l j
def tkKeys {α:Type}:List (Nat×α)->List Nat
 |[]=>[]
 |(i,_)::l=>i::tkKeys l
def tkBack (f:Nat->Path->Option (Nat×Path)) (l:List (Nat×AV)) (j:Nat):AV:=
 match tkGet l j with
 |some x=>x.sub f
 |none=> .dead
def alL:L->Bool
 | .al _ _ _=>true
 |_=>false
def alArg:Arg->Bool
 | .pm ls=>ls.any alL
 |_=>false
def alRV:RV->Bool
 | .p ls=>ls.any alL
 |_=>false
def ownL (x:AV):Option (AV×List Nat):=if noAl x then some (x,[])else none
def Obj.mv (f:Nat->Option Nat):Obj->Obj
 | .box cells=> .box (mvL f cells)
 | .arr k rows=> .arr k rows
 | .none=> .none
def flatA:List AV->List AV
 |[]=>[]
 | .agg l::r=>l++flatA r
 |x::r=>x::flatA r
def shapes:List AV->List (Option Nat)
 |[]=>[]
 | .agg l::r=>some l.length::shapes r
 |_::r=>none::shapes r
def unflatA:List (Option Nat)->List AV->List AV
 |[],_=>[]
 |some n::r,l=> .agg (l.take n)::unflatA r (l.drop n)
 |none::r,l=>l.headD .dead::unflatA r l.tail
def Hand.rootI (h:Hand) (i n:Nat):Option Hand:=
 match h.l[i]? with
 |some (.im _ _)=>some h
 |some (.al _ _ _)=>some h
 |some (.pb _ _)=>some h
 |some (.pim _)=>some h
 |some (.clo _ _)=>some h
 |_=>h.root i n
def Hand.rootsI (h:Hand) (base i:Nat):Nat->Option Hand
 |0=>some h
 |m+1=>
  match h.rootI i base with
  |some h'=>h'.rootsI (base+1) (i+1) m
  |none=>none
def splitLast:Path->Option (Path×Nat×Nat)
 |[]=>none
 |(i,j)::p=>match splitLast p with
  |some (q,i',j')=>some ((i,j)::q,i',j')
  |none=>some ([],i,j)
def pairOf:AV->List AV
 | .ref o p=>match splitLast p with
  |some (q,i,j)=>[.pa o q i j,.ref o p]
  |none=>[]
 |_=>[]
def Hand.push (h : Hand) (i : Nat) : Hand := { h with l := h.l ++ (match h.l[i]? with
  | some x => pairOf x
  | none => []) }
def Hand.rootsM (h:Hand) (base i:Nat):List Nat->Option Hand
 |[]=>some h
 |m::ms=>
  if m=1 then
   match (h.push i).rootI i base with
   |some h'=>h'.rootsM (base+1) (i+1) ms
   |none=>none
  else h.rootsM (base+1) (i+1) ms
def capOf (ob:List (Nat×Obj)):AV->Option (List T)
 | .pb o 0=>match getO ob o with
  | .box cs=>mapM' (toT ob) cs
  |_=>none
 | .pim cs=>some cs
 |_=>none
def placeA:AV->List Nat
 | .ref o _=>[o]
 | .vw o _ _ _=>[o]
 |_=>[]
def placeL:List AV->List Nat
 |[]=>[]
 |a::l=>placeA a++placeL l
def boxPl (ob:List (Nat×Obj)):AV->List Nat
 | .pb o 0=>match getO ob o with
  | .box cs=>o::placeL cs
  |_=>[]
 |_=>[]
def boxPls (ob:List (Nat×Obj)):List AV->List Nat
 |[]=>[]
 |a::l=>boxPl ob a++boxPls ob l
def headN:List Nat->Nat
 |[]=>0
 |m::_=>m
def lendL (ob:List (Nat×Obj)) (m:Nat) (x:AV):Option (AV×List Nat):=
 match m with
 |0=>match x with
  | .sc v=>some (.sc v,[])
  | .pim cs=>some (.pim cs,[])
  | .pb o j=>(capOf ob (.pb o j)).map fun ts=>(.pim ts,boxPl ob (.pb o j))
  | .clo f caps=>(mapM' (capOf ob) caps).map fun cs=>(.clo f (cs.map .pim),boxPls ob caps)
  |x=>(rowsOf ob x).map fun(k,r)=>(.im k r,placeA x)
 |1=>ownL x
 |2=>ownL x
 |j+3=>(rowsOf ob x).map fun(k,r)=>(.al j k r,placeA x)
def lendLs (ob:List (Nat×Obj)):List Nat->List AV->Option (List AV×List Nat)
 |_,[]=>some ([],[])
 |ms,x::l=>match lendL ob (headN ms) x,lendLs ob ms.tail l with
  |some (y,os),some (m,qs)=>some (y::m,os++qs)
  |_,_=>none
def closeL (ob:List (Nat×Obj)):AV->Option (L×List Nat)
 | .sc v=>some (.sc v,[])
 | .nil k=>some (.nil k,[])
 | .im k rows=>some (.im k rows,[])
 | .al i k rows=>some (.al i k rows,[])
 | .ref o []=>match getO ob o with
  | .arr k rows=>some (.own k rows,[o])
  |_=>none
 |_=>none
def closeLs (ob:List (Nat×Obj)):List AV->Option (List L×List Nat)
 |[]=>some ([],[])
 |x::l=>match closeL ob x,closeLs ob l with
  |some (a,os),some (m,qs)=>some (a::m,os++qs)
  |_,_=>none
def pimT:AV->Option (List T)
 | .pim ts=>some ts
 |_=>none
def closeArg (ob:List (Nat×Obj)):AV->Option (Arg×List Nat)
 | .agg l=>(closeLs ob l).map fun(ls,os)=>(.a ls,os)
 | .pb o 0=>match getO ob o with
  | .box cs=>(closeLs ob cs).map fun(ls,os)=>(.pm ls,o::os)
  |_=>none
 | .pim ts=>some (.pi ts,[])
 | .clo f caps=>(mapM' pimT caps).map fun cs=>(.c f cs,[])
 |x=>(closeL ob x).map fun(l,os)=>(.v l,os)
def closeArgs (ob:List (Nat×Obj)):List AV->Option (List Arg×List Nat)
 |[]=>some ([],[])
 |x::l=>match closeArg ob x,closeArgs ob l with
  |some (a,os),some (m,qs)=>some (a::m,os++qs)
  |_,_=>none
def ownIds:Nat->List Arg->List Nat×List Nat
 |_,[]=>([],[])
 |o,a::l=>
  match openArg o a with
  |(_,os,m)=>match ownIds m l with
   |(is,bs)=>match a with
    | .pm _=>(is,o::bs)
    |_=>(os.map (·.1)++is,bs)
def exitF (os:List (Nat×Obj)):List Nat->List (Option (List (List T)))->List (Nat×Obj)
 |i::is,some rows::fs=>match getO os i with
  | .arr k _=>(i,.arr k rows)::exitF os is fs
  |_=>exitF os is fs
 |_::is,none::fs=>exitF os is fs
 |_,_=>[]
def exitB:Nat->List Nat->List (List L)->List (Nat×Obj)×Nat
 |n,b::bs,ls::lss=>match openLs n ls with
  |(as,os,m)=>match exitB m bs lss with
   |(os2,m2)=>((b,.box as)::(os++os2),m2)
 |n,_,_=>([],n)
def exitO (args:List Arg) (r:Res):List AV×List (Nat×Obj):=
 match openArgs 0 0 args with
 |(_,os,m)=>match exitB m (ownIds 0 args).2 r.pfin with
  |(ob,m1)=>match openRVs m1 r.out with
   |(as,on,_)=>(as,exitF os (ownIds 0 args).1 r.fin++ob++on)
def imL:L->Bool
 | .im _ _=>true
 |_=>false
def imRV:RV->Bool
 | .v l=>imL l
 | .a ls=>ls.any imL
 | .p ls=>ls.any imL
def one:List AV->AV
 |[a]=>a
 |l=> .tup l
def backN (cs:List Nat) (base j:Nat):Option Nat:=if j<cs.length then cs[j]? else some (base+(j - cs.length))
def nodupB:List Nat->Bool
 |[]=>true
 |a::l=> !l.contains a&&nodupB l
def posN (o:Nat):List Nat->Nat->Nat
 |[],i=>i
 |a::l,i=>if a=o then i else posN o l (i+1)
def afterF (cs:List Nat) (os:List (Nat×Obj)) (o:Nat) (p:Path):Option (Nat×Path):=
 if cs.contains o then
  match p,getO os (posN o cs 0)with
  |[],.arr _ _=>some (o,[])
  |_,_=>none
 else some (o,p)
def delAll:List Nat->List (Nat×Obj)->List (Nat×Obj)
 |[],l=>l
 |o::os,l=>delAll os (delO l o)
def mvAll (f:Nat->Option Nat):List (Nat×Obj)->List (Nat×Obj)
 |[]=>[]
 |(j,x)::l=>match f j with
  |some o=>(o,x.mv f)::mvAll f l
  |none=>mvAll f l
def freshO (ob:List (Nat×Obj)) (n base m:Nat):List (Nat×Obj)->Bool
 |[]=>true
 |(j,_)::l=>(j<n||(match getO ob (base+(j - n))with
  | .none=>m<=base+(j - n)
  |_=>false))&&freshO ob n base m l
def backA:Nat->Hand->Option (AV×St)
 |0,h=>match h.l with
  |r::_=>some (r,h.s)
  |[]=>none
 |n+1,h=>
  match h.l with
  |r:: .pa o q i j:: .ref x []::l=>match h.s.adopt x o q i j with
   |some s1=>backA n {s:=s1,l:=subL (adoptF x o (q++[(i,j)])) (r::l)}
   |none=>none
  |r::_:: .dead::l=>backA n {h with l:=r::l}
  |_=>none
def paObjs:List AV->List Nat
 |[]=>[]
 | .pa o _ _ _::l=>o::paObjs l
 |_::l=>paObjs l
structure Given where
 s:St
 bk:List AV
 lent:List Nat
 args:List Arg
 cs:List Nat
 tks:List (Nat×AV)
def giveA (ms:List Nat) (s:St) (o:Nat) (xs:List AV):Option Given:=
 match ({s,l:=flatA xs}:Hand).rootsM o 0 (ms.take (flatA xs).length)with
 |some h=>
  match lendLs h.s.ob ms (h.l.take (flatA xs).length)with
  |some (ys,lent)=>
   match closeArgs h.s.ob (unflatA (shapes xs) ys)with
   |some (args,cs)=>if ys.all oneCell&&(nodupB (tkKeys (tkList ys (h.l.take (flatA xs).length)))&& !args.any alArg)&&nodupB cs&&(lent.all fun x=> !cs.contains x)&&((paObjs (h.l.drop (flatA xs).length)).all fun x=> !cs.contains x)then some {s:=h.s,bk:=h.l.drop (flatA xs).length,lent,args,cs,tks:=tkList ys (h.l.take (flatA xs).length)} else none
   |none=>none
  |none=>none
 |none=>none
def Given.merge (g:Given) (base:Nat) (os:List (Nat×Obj)):St:=
 {(g.s.sub (afterF g.cs os))with ob:=mvAll (backN g.cs base) os++delAll g.cs (subO (afterF g.cs os) g.s.ob)}
def Given.take (g:Given) (base:Nat) (r:Res):Option (AV×St):=
 if !(r.out.any alRV||r.pfin.any fun ls=>ls.any alL)&&(g.lent.isEmpty|| !(r.out.any imRV||r.pfin.any fun ls=>ls.any imL))&&r.fin.length=(ownIds 0 g.args).1.length&&r.pfin.length=(ownIds 0 g.args).2.length&&
   freshO g.s.ob g.cs.length base g.s.m (exitO g.args r).2 then
  backA (g.bk.length / 2) {s:=g.merge base (exitO g.args r).2,l:=(one (exitO g.args r).1).mvt (backN g.cs base) (tkBack (afterF g.cs (exitO g.args r).2) g.tks)::subL (afterF g.cs (exitO g.args r).2) g.bk}
 else none
def callA (K:Nat->List Arg->Option Res) (md:Nat->List Nat) (s:St) (d:Option Nat) (o f:Nat) (xs:List AV):Option St:=
 match giveA (md f) s o xs with
 |some g=>
  match K f g.args with
  |some r=>match g.take (o+40) r with
   |some (v,s2)=>s2.put d v
   |none=>none
  |none=>none
 |none=>none
def Hand.rootsAt (h:Hand) (base:Nat):List Nat->Option Hand
 |[]=>some h
 |i::l=>match h.root i base with
  |some h'=>h'.rootsAt (base+1) l
  |none=>none
def bldA (tm:List (Nat×AV)):List (Nat×Nat×X)->List AV->Option (List AV)
 |[],l=>some l
 |(off,sz,x)::ps,l=>
  match ev tm x with
  | .agg m=>if m.length=sz/\off+sz<=l.length then bldA tm ps (setRow l off m)else none
  |a=>if oneCell a/\sz=1/\off<l.length then bldA tm ps (setRow l off [a])else none
def stepI (K:Nat->List Arg->Option Res) (md:Nat->List Nat) (s:St) (d:Option Nat):I->Option St
 | .mov x=>s.put d (ev s.tm x)
 | .pick c a b=>match ev s.tm c with
  | .sc (.bool b1)=>if b1 then s.put d (ev s.tm a)else s.put d (ev s.tm b)
  |_=>none
 | .bin op x y=>match binA op (ev s.tm x) (ev s.tm y)with
  |some v=>s.put d v
  |none=>none
 | .beq op x y=>match beqA op (ev s.tm x) (ev s.tm y)with
  |some v=>s.put d v
  |none=>none
 | .un op x=>match unA op (ev s.tm x)with
  |some v=>s.put d v
  |none=>none
 | .toInt k x=>match ev s.tm x with
  | .sc (.int _ n)=>s.put d (.sc (.int k (k.wrap n)))
  |_=>none
 | .toStr x=>match ev s.tm x with
  | .sc (.int _ n)=>s.put d (.sc (.string (Utf8.encode n)))
  |_=>none
 | .b2s x=>match rowsOf s.ob (ev s.tm x)with
  |some (1,rows)=>match bytesOf rows with
   |some l=>s.put d (.sc (.string ⟨l.toArray⟩))
   |none=>none
  |_=>none
 | .load n x=>match loadA s.ob n (ev s.tm x)with
  |some v=>s.put d v
  |none=>none
 | .take o n x=>match loadA s.ob n (ev s.tm x),ev s.tm x with
  |some v,.pa o1 p i j=>match ({s,l:=[v]}:Hand).detach o o1 p i j (n.getD 1)with
   |some h=>h.s.put d (h.l.headD .dead)
   |none=>none
  |_,_=>none
 | .store o n x v=>match storeA s o n (ev s.tm x) (ev s.tm v)with
  |some s1=>s1.put d .und
  |none=>none
 | .fa off x=>match offA (ev s.tm x) off with
  |some v=>s.put d v
  |none=>none
 | .fld off n x=>match ev s.tm x with
  | .agg l=>match n with
   |none=>match l[off]? with
    |some v=>s.put d v
    |none=>none
   |some n=>match cells l off n with
    |some m=>s.put d (.agg m)
    |none=>none
  |_=>none
 | .ia k x i=>match natOf (ev s.tm i)with
  |some n=>match idxA s.ob k (ev s.tm x) n with
   |some v=>s.put d v
   |none=>none
  |none=>none
 | .iaa len k x i=>match natOf (ev s.tm i)with
  |some n=>if n<len then match offA (ev s.tm x) (n*k)with
   |some v=>s.put d v
   |none=>none
   else none
  |none=>none
 | .ixs x i=>match ev s.tm x,natOf (ev s.tm i)with
  | .sc (.string b),some n=>match b.toList[n]? with
   |some c=>s.put d (.sc (.int .u8 c.toNat))
   |none=>none
  |_,_=>none
 | .len x=>match lenA s.ob (ev s.tm x)with
  |some n=>s.put d (.sc (.int .i64 n))
  |none=>none
 | .slen x=>match ev s.tm x with
  | .sc (.string b)=>s.put d (.sc (.int .i64 b.size))
  |_=>none
 | .mm mx x y=>match ev s.tm x,ev s.tm y with
  | .sc (.int k a),.sc (.int _ b)=>s.put d (.sc (.int k (if mx then(if a<b then b else a)else(if b<a then b else a))))
  |_,_=>none
 | .sls x lo hi=>match ev s.tm x,optNat s.tm lo,optNat s.tm hi with
  | .sc (.string b),some l,some h=>
   if l.getD 0<=h.getD b.size/\h.getD b.size<=b.size then s.put d (.sc (.string (b.extract (l.getD 0) (h.getD b.size))))else none
  |_,_,_=>none
 | .sl k x lo hi=>match optNat s.tm lo,optNat s.tm hi with
  |some l,some h=>match sliceA s.ob k (ev s.tm x) (l.getD 0) h with
   |some v=>s.put d v
   |none=>none
  |_,_=>none
 | .sl0 k x=>match lenA s.ob (ev s.tm x)with
  |some _=>s.put d (.nil k)
  |none=>none
 | .bld zero parts=>match bldA s.tm parts zero with
  |some l=>s.put d (.agg l)
  |none=>none
 | .box o x=>if boxable (ev s.tm x)then match s.new o (.box (rowAV (ev s.tm x)))with
  |some s1=>s1.put d (.pb o 0)
  |none=>none
  else none
 | .new o zero=>match s.new o (.box zero)with
  |some s1=>s1.put d (.pb o 0)
  |none=>none
 | .bsl o k parts=>match bslA s o k (parts.map fun x=>rowAV (ev s.tm x))with
  |some (v,s1)=>s1.put d v
  |none=>none
 | .mk o k zero bytes x=>match natOf (ev s.tm x)with
  |some n=>if n*bytes<=35184372088832/\0<bytes/\zero.length=k then match s.new o (.arr k (List.replicate n zero))with
   |some s1=>s1.put d (.ref o [])
   |none=>none
   else none
  |none=>none
 | .app o k bytes x y=>match appA s o k bytes (ev s.tm x) (ev s.tm y)with
  |some (v,s1)=>s1.put d v
  |none=>none
 | .app0 o k bytes zero x y=>match natOf (ev s.tm y)with
  |some n=>match app0A s o k bytes zero (ev s.tm x) n with
   |some (v,s1)=>s1.put d v
   |none=>none
  |none=>none
 | .cpy k a b=>match cpyA s k (ev s.tm a) (ev s.tm b)with
  |some (v,s1)=>s1.put d v
  |none=>none
 | .clr k zero x=>match clrA s k zero (ev s.tm x)with
  |some s1=>s1.put d (.tup [])
  |none=>none
 | .ext j x=>match ev s.tm x with
  | .tup l=>match l[j]? with
   |some v=>s.put d v
   |none=>none
  |_=>none
 | .nchk x=>match ev s.tm x with
  | .pb o j=>s.put d (.pb o j)
  | .pa o p i j=>s.put d (.pa o p i j)
  | .pim c=>s.put d (.pim c)
  |_=>none
 | .fn f caps=>s.put d (.clo f (caps.map (ev s.tm)))
 | .cap0 x=>match ev s.tm x with
  | .nil _=>s.put d (.sc (.int .i64 0))
  |_=>none
 | .bad=>none
 | .call o f xs=>callA K md s d o f (xs.map (ev s.tm))
 | .callc o f xs cs=>match ({s,l:=xs.map (ev s.tm)}:Hand).rootsAt (o+90) cs with
  |some h=>callA K md h.s d o f h.l
  |none=>none
 | .callv o x xs=>match ev s.tm x with
  | .clo f caps=>callA K md s d o f (xs.map (ev s.tm)++caps)
  |_=>none
def stepG (K:Nat->List Arg->Option Res) (md:Nat->List Nat) (i:Ins) (s:St):Option St:=
 match i.g with
 |none=>stepI K md s i.d i.op
 |some (t,b)=>if t<s.n then match getT s.tm t with
  | .sc (.bool b1)=>if b1=b then stepI K md s i.d i.op else s.put i.d .und
  | .und=>s.put i.d .und
  |_=>none
  else none
def steps (K:Nat->List Arg->Option Res) (md:Nat->List Nat):List Ins->St->Option St
 |[],s=>some s
 |i::l,s=>match stepG K md i s with
  |some s1=>steps K md l s1
  |none=>none
def liveT (tm:List (Nat×AV)):List Nat->List (Nat×AV)
 |[]=>[]
 |t::l=>(t,getT tm t)::liveT tm l
def St.drop (s:St) (l:List Nat):St:={s with tm:=liveT s.tm l}
def tgt:AV->List Nat
 | .pb o _=>[o]
 | .pa o _ _ _=>[o]
 |_=>[]
def tgtW:AV->List Nat
 | .ref o _=>[o]
 | .vw o _ _ _=>[o]
 |_=>[]
def pureI:I->Bool
 | .mov _=>true
 | .pick _ _ _=>true
 | .bin _ _ _=>true
 | .beq _ _ _=>true
 | .un _ _=>true
 | .toInt _ _=>true
 | .toStr _=>true
 | .ixs _ _=>true
 | .len _=>true
 | .slen _=>true
 | .mm _ _ _=>true
 | .sls _ _ _=>true
 | .sl _ _ _ _=>true
 | .sl0 _ _=>true
 | .bld _ _=>true
 | .fa _ _=>true
 | .fld _ _ _=>true
 | .ia _ _ _=>true
 | .iaa _ _ _ _=>true
 | .ext _ _=>true
 | .nchk _=>true
 | .fn _ _=>true
 | .cap0 _=>true
 |_=>false
def loadI:I->Bool
 | .load _ _=>true
 |_=>false
def leafFoot (ob:List (Nat×Obj)) (m:Nat) (x:AV):List Nat:=
 if m=0 then []else placeA x++match x with
  | .pb b _=>b::(match getO ob b with
   | .box cells=>placeL cells
   |_=>[])
  |_=>[]
def leafsFoot (ob:List (Nat×Obj)):List Nat->List AV->List Nat
 |m::ms,x::xs=>leafFoot ob m x++leafsFoot ob ms xs
 |_,_=>[]
def nums (b:Nat):Nat->List Nat
 |0=>[]
 |n+1=>b::nums (b+1) n
def callFoot (ob:List (Nat×Obj)) (ms:List Nat) (xs:List AV) (base:Nat):List Nat:=
 nums base (flatA xs).length++leafsFoot ob ms (flatA xs)
def callcFoot (s:St) (ms:List Nat) (xs:List AV) (base:Nat) (cs:List Nat):List Nat:=
 nums (base+90) cs.length++((cs.flatMap fun i=>match xs[i]? with
  |some x=>placeA x
  |none=>[])++match ({s,l:=xs}:Hand).rootsAt (base+90) cs with
   |some h=>callFoot h.s.ob ms h.l base
   |none=>[])
def foot (md:Nat->List Nat) (s:St):I->List Nat
 | .store _ _ x _=>tgt (ev s.tm x)
 | .app _ _ _ x _=>tgtW (ev s.tm x)
 | .app0 _ _ _ _ x _=>tgtW (ev s.tm x)
 | .cpy _ x _=>tgtW (ev s.tm x)
 | .clr _ _ x=>tgtW (ev s.tm x)
 | .call o f xs=>callFoot s.ob (md f) (xs.map (ev s.tm)) o
 | .callc o f xs cs=>callcFoot s (md f) (xs.map (ev s.tm)) o cs
 | .callv o x xs=>match ev s.tm x with
  | .clo f caps=>callFoot s.ob (md f) (xs.map (ev s.tm)++caps) o
  |_=>[]
 |_=>[]
def hangOk (md:Nat->List Nat) (s:St) (i p:Ins):Bool:=
 (match p.g with
 |none=>false
 |some (t,b)=>match getT s.tm t with
  | .sc (.bool b1)=>b1 != b
  | .und=>true
  |_=>false)||
 match p.op with
 | .load _ x=>match ev s.tm x with
  | .pim _=>true
  | .pa o _ _ _=> !(foot md s i.op).contains o
  | .pb o _=> !(foot md s i.op).contains o
  |_=>false
 |_=>false
def insT (x:Nat×AV):List (Nat×AV)->List (Nat×AV)
 |[]=>[x]
 |y::l=>if x.1<=y.1 then x::y::l else y::insT x l
def sortT:List (Nat×AV)->List (Nat×AV)
 |[]=>[]
 |x::l=>insT x (sortT l)
def insO (x:Nat×Obj):List (Nat×Obj)->List (Nat×Obj)
 |[]=>[x]
 |y::l=>if x.1<=y.1 then x::y::l else y::insO x l
def sortO:List (Nat×Obj)->List (Nat×Obj)
 |[]=>[]
 |x::l=>insO x (sortO l)
def Alike2 (x y:St):Prop:=x.n=y.n/\x.m=y.m/\sortT x.tm=sortT y.tm/\sortO x.ob=sortO y.ob
open Classical in
noncomputable def same2 (x y:Option St):Option St:=
 match x,y with
 |some s,some s'=>if Alike2 s s' then some s else none
 |_,_=>none
noncomputable def runD (K:Nat->List Arg->Option Res) (md:Nat->List Nat):D->St->Option St
 | .fin,s=>some s
 | .one i t,s=>match stepG K md i s with
  |some s1=>runD K md t s1
  |none=>none
 | .loud i hang t,s=>if hang.all (hangOk md s i)then match stepG K md i s with
  |some s1=>runD K md t s1
  |none=>none
  else none
 | .alt a b,s=>same2 (runD K md a s) (runD K md b s)
mutual
def objsA:AV->List Nat
 | .ref o _=>[o]
 | .vw o _ _ _=>[o]
 | .pb o _=>[o]
 | .pa o _ _ _=>[o]
 | .agg l=>objsL l
 | .tup l=>objsL l
 | .clo _ l=>objsL l
 | .non=>[]
 | .dead=>[]
 | .und=>[]
 | .sc _=>[]
 | .nil _=>[]
 | .im _ _=>[]
 | .al _ _ _=>[]
 | .pim _=>[]
def objsL:List AV->List Nat
 |[]=>[]
 |a::l=>objsA a++objsL l
end
def objsO:Obj->List Nat
 | .box cs=>objsL cs
 |_=>[]
def addN (l:List Nat):List Nat->List Nat
 |[]=>l
 |a::m=>if l.contains a then addN l m else addN (l++[a]) m
def objsT:List (Nat×AV)->List Nat
 |[]=>[]
 |(_,a)::l=>objsA a++objsT l
def reachO (ob:List (Nat×Obj)):List Nat->List Nat
 |[]=>[]
 |o::l=>objsO (getO ob o)++reachO ob l
def mvT (f:Nat->Option Nat):List (Nat×AV)->List (Nat×AV)
 |[]=>[]
 |(t,a)::l=>(t,a.mv f)::mvT f l
def isObj:Obj->Bool
 | .none=>false
 |_=>true
def canonF (m base:Nat) (l:List Nat) (o:Nat):Option Nat:=if o<m then some o else if l.contains o then some (posN o l base)else none
def mvO (f:Nat->Option Nat) (ob:List (Nat×Obj)):Nat->List Nat->List (Nat×Obj)
 |_,[]=>[]
 |n,o::l=>(n,(getO ob o).mv f)::mvO f ob (n+1) l
def keepO (f:Nat->Option Nat) (ob:List (Nat×Obj)):List Nat->List (Nat×Obj)
 |[]=>[]
 |o::l=>if isObj (getO ob o)then(o,(getO ob o).mv f)::keepO f ob l else keepO f ob l
def canonL (live:List Nat) (s:St):List Nat:=
 (addN (addN [] (objsT (liveT s.tm live))) (reachO s.ob (List.range s.m++addN [] (objsT (liveT s.tm live))))).filter fun o=>s.m<=o
def canon (base : Nat) (live : List Nat) (s : St) : St :=
  { n := s.n, m := s.m, tm := mvT (canonF s.m base (canonL live s)) (liveT s.tm live),
    ob := keepO (canonF s.m base (canonL live s)) s.ob (List.range s.m) ++ mvO (canonF s.m base (canonL live s)) s.ob base (canonL live s) }
noncomputable def exec (K:Nat->List Arg->Option Res) (Lp:Nat->List Nat->C->St->Option (Ex×St)) (md:Nat->List Nat):C->St->Option (Ex×St)
 | .skip,s=>some (.normal,s)
 | .reg l dr,s=>match steps K md l s with
  |some s1=>some (.normal,s1.drop dr)
  |none=>none
 | .dreg l dr,s=>match runD K md l s with
  |some s1=>some (.normal,s1.drop dr)
  |none=>none
 | .seq a b,s=>match exec K Lp md a s with
  |some (.normal,s1)=>exec K Lp md b s1
  |r=>r
 | .cond x a b,s=>match ev s.tm x with
  | .sc (.bool c)=>if c then exec K Lp md a s else exec K Lp md b s
  |_=>none
 | .blk id a,s=>match exec K Lp md a s with
  |some (.exit j,s1)=>if j=id then some (.normal,s1)else some (.exit j,s1)
  |r=>r
 | .loop o live a,s=>Lp o live a s
 | .exit id,s=>some (.exit id,s)
 | .ret,s=>some (.ret,s)
def resV (s:St):RP->Option AV
 | .t t=>some (getT s.tm t)
 | .cell t n=>loadA s.ob n (getT s.tm t)
def boxIds:List AV->List Nat
 |[]=>[]
 | .pb o _::l=>o::boxIds l
 |_::l=>boxIds l
def Hand.rootBox (h:Hand) (base b:Nat):Option Hand:=
 match getO h.s.ob b with
 | .box cs=>match ({s:=h.s,l:=cs++h.l}:Hand).rootsI base 0 cs.length with
  |some h'=>some {s:=h'.s.putO b (.box (h'.l.take cs.length)),l:=h'.l.drop cs.length}
  |none=>none
 |_=>none
def Hand.rootBoxes (h:Hand) (base:Nat):List Nat->Option Hand
 |[]=>some h
 |b::bs=>match h.rootBox base b with
  |some h'=>h'.rootBoxes (base+100) bs
  |none=>none
def closeRV (ob:List (Nat×Obj)):AV->Option (RV×List Nat)
 | .agg l=>(closeLs ob l).map fun(ls,os)=>(.a ls,os)
 | .pb o 0=>match getO ob o with
  | .box cs=>(closeLs ob cs).map fun(ls,os)=>(.p ls,o::os)
  |_=>none
 |x=>(closeL ob x).map fun(l,os)=>(.v l,os)
def closeRVs (ob:List (Nat×Obj)):List AV->Option (List RV×List Nat)
 |[]=>some ([],[])
 |x::l=>match closeRV ob x,closeRVs ob l with
  |some (a,os),some (m,qs)=>some (a::m,os++qs)
  |_,_=>none
def closeBs (ob:List (Nat×Obj)):List Nat->Option (List (List L)×List Nat)
 |[]=>some ([],[])
 |b::bs=>match getO ob b with
  | .box cs=>match closeLs ob cs,closeBs ob bs with
   |some (ls,os),some (m,qs)=>some (ls::m,os++qs)
   |_,_=>none
  |_=>none
def finOf (ob os:List (Nat×Obj)) (gone:List Nat) (o:Nat):Option (List (List T)):=
 if gone.contains o then none else match getO ob o,getO os o with
 | .arr k rows,.arr k' _=>if k=k' then some rows else none
 |_,_=>none
def leave (res:List RP) (args:List Arg) (s:St):Option Res:=
 match mapM' (resV s) res with
 |some xs=>
  match ({s,l:=flatA xs}:Hand).rootsI 90000000 0 (flatA xs).length with
  |some h=>
   match h.rootBoxes 91000000 ((ownIds 0 args).2++boxIds h.l)with
   |some h1=>
    match closeBs h1.s.ob (ownIds 0 args).2,closeRVs h1.s.ob (unflatA (shapes xs) h1.l)with
    |some (pfin,is),some (out,js)=>
     if nodupB (is++js)&&((ownIds 0 args).2.all fun b=> !(is++js).contains b)then
      some {out,pfin,fin:=(ownIds 0 args).1.map (finOf h1.s.ob (openArgs 0 0 args).2.1 (is++js))}
     else none
    |_,_=>none
   |none=>none
  |none=>none
 |none=>none
def endF (res:List RP) (args:List Arg):Option (Ex×St)->Option Res
 |some (.normal,s)=>if s.m=(openArgs 0 0 args).2.2 then leave res args s else none
 |some (.ret,s)=>if s.m=(openArgs 0 0 args).2.2 then leave res args s else none
 |_=>none
noncomputable def sem (G : Nat -> Option PF) (PK : Nat -> List Arg -> Option Res) (md : Nat -> List Nat) : Nat -> (Nat -> List Arg -> Option Res) × (Nat -> List Nat -> C -> St -> Option (Ex × St))
  | 0 => (fun _ _ => none, fun _ _ _ _ => none)
  | n + 1 =>
    (fun f args => match G f with
      | some pf => if args.length <= pf.n then endF pf.res args (exec (sem G PK md n).1 (sem G PK md n).2 md pf.body (entry pf.n args)) else none
      | none => PK f args,
     fun o live a s => if s.m <= o then match exec (sem G PK md n).1 (sem G PK md n).2 md a (canon o live s) with
      | some (.normal, s1) => (sem G PK md n).2 o live a s1
      | r => r
      else none)
end Go.Proofs.YtbolhfegdocpeaaGreat.Ow
namespace Go.Proofs.YtbolhfegdocpeaaGreat.Ow
open Go
structure Hint where
 modes:List Nat:=[]
 live:List (Nat×List Nat):=[]
 drop:List (Nat×List Nat):=[]
 take:List Nat:=[]
 cut:List (Nat×List Nat):=[]
def look (l:List (Nat×List Nat)) (n:Nat):List Nat:=
 match l with
 |[]=>[]
 |(m,x)::r=>if m=n then x else look r n
def szOf (P:Program) (t:TypeId):Option Nat:=(P.info? t).map (·.size)
def bytesOfT (P:Program) (t:TypeId):Option Nat:=(P.info? t).map (·.bytes)
def nOf (P:Program) (t:TypeId):Option (Option Nat):=
 match P.underlying t with
 |some (.struct _)=>(szOf P t).map some
 |some (.array _ _)=>(szOf P t).map some
 |some _=>some none
 |none=>none
def leafT (P:Program):Nat->TypeId->Option (List TypeId)
 |0,_=>none
 |n+1,t=>
  match P.underlying t with
  |some (.struct fs)=>(mapM' (fun(f:Field)=>leafT P n f.type) fs.toList).map List.flatten
  |some (.array m e)=>(leafT P n e).map fun l=>(List.replicate m l).flatten
  |some _=>some [t]
  |none=>none
def const1 (P:Program) (t:TypeId) (v:Value):Option AV:=
 match v with
 | .slice none 0 0=>match P.underlying t with
  |some (.slice e)=>(szOf P e).map .nil
  |_=>none
 | .func (.func f) fi ca=>if fi.size=0/\ca.size=0 then some (.clo f [])else none
 |v=>if isSc v then some (.sc v)else none
def const1s (P:Program):List TypeId->List Value->Option (List AV)
 |[],[]=>some []
 |t::ts,v::vs=>match const1 P t v,const1s P ts vs with
  |some a,some l=>some (a::l)
  |_,_=>none
 |_,_=>none
def constA (P:Program) (t:TypeId) (v:Value):Option AV:=
 match v with
 | .agg cs=>match leafT P 6 t with
  |some ts=>(const1s P ts cs.toList).map .agg
  |none=>none
 |v=>const1 P t v
def xOf (P:Program) (t:TypeId):Operand->Option X
 | .tmp n=>some (.t n)
 | .const v=>(constA P t v).map .k
 | .func f=>some (.k (.clo f []))
 | .global _=>none
def xsOf (P:Program):List TypeId->List Operand->Option (List X)
 |[],[]=>some []
 |t::ts,x::xs=>match xOf P t x,xsOf P ts xs with
  |some a,some l=>some (a::l)
  |_,_=>none
 |_,_=>none
def zeroOf (P:Program) (t:TypeId):Option (List AV):=
 match (P.info? t).bind (·.zero)with
 |some z=>(constA P t z).map rowAV
 |none=>none
def zeroD:List AV->Option (List T)
 |[]=>some []
 | .sc v::l=>(zeroD l).map fun m=> .sc v::m
 | .nil k::l=>(zeroD l).map fun m=> .sl k []::m
 |_=>none
def zeroH:List AV->List T
 |[]=>[]
 | .sc v::l=> .sc v::zeroH l
 |_::l=> .hole::zeroH l
def ox (P:Program) (t:TypeId):Option Operand->Option (Option X)
 |none=>some none
 |some x=>(xOf P t x).map some
def sameX:Operand->Operand->Bool
 | .tmp a,.tmp b=>a=b
 | .const (.int _ a),.const (.int _ b)=>a=b
 |_,_=>false
def isZero:Operand->Bool
 | .const (.int _ 0)=>true
 |_=>false
def partsOf (P:Program) (fs:List Field):List (Nat×Operand)->Option (List (Nat×Nat×X))
 |[]=>some []
 |(i,x)::l=>match fs[i]? with
  |some f=>match szOf P f.type,xOf P f.type x,partsOf P fs l with
   |some z,some a,some m=>some ((f.offset,z,a)::m)
   |_,_,_=>none
  |none=>none
def elemsOf (P:Program) (e:TypeId) (k:Nat):List (Nat×Operand)->Option (List (Nat×Nat×X))
 |[]=>some []
 |(i,x)::l=>match xOf P e x,elemsOf P e k l with
  |some a,some m=>some ((i*k,k,a)::m)
  |_,_=>none
def rowOf (P:Program) (e:TypeId):Nat->List (Nat×Operand)->Option (List X)
 |_,[]=>some []
 |n,(i,x)::l=>if i=n then match xOf P e x,rowOf P e (n+1) l with
  |some a,some m=>some (a::m)
  |_,_=>none
  else none
def prepCall (P:Program) (h:Hint) (o:Nat) (c:Call):Option I:=
 match c.callee with
 | .value (.func f)=>match look h.cut o with
  |[]=>(xsOf P c.argTypes.toList c.args.toList).map (.call o f)
  |cs=>(xsOf P c.argTypes.toList c.args.toList).map fun xs=> .callc o f xs cs
 | .value (.tmp t)=>(xsOf P c.argTypes.toList c.args.toList).map (.callv o (.t t))
 | .builtin .len=>match c.argTypes.toList,c.args.toList with
  |[t],[x]=>match P.underlying t with
   |some .string=>(xOf P t x).map .slen
   |some (.slice _)=>(xOf P t x).map .len
   |_=>none
  |_,_=>none
 | .builtin .append=>match c.argTypes.toList,c.args.toList with
  |[t,t2],[x,y]=>match P.underlying t,P.underlying t2 with
   |some (.slice e),some (.slice e2)=>if e2=e then match szOf P e,bytesOfT P e,xOf P t x,xOf P t2 y with
    |some k,some b,some a,some c=>if(zeroOf P e).map List.length=some k then some (.app o k b a c)else none
    |_,_,_,_=>none
    else none
   |some (.slice e),some (.int _)=>match szOf P e,bytesOfT P e,(zeroOf P e).bind zeroD,xOf P t x,xOf P t2 y with
    |some k,some b,some z,some a,some c=>some (.app0 o k b z a c)
    |_,_,_,_,_=>none
   |_,_=>none
  |_,_=>none
 | .builtin .cap=>match c.argTypes.toList,c.args.toList with
  |[t],[x]=>match P.underlying t with
   |some (.slice _)=>(xOf P t x).map .cap0
   |_=>none
  |_,_=>none
 | .builtin .copy=>match c.argTypes.toList,c.args.toList with
  |[t,t2],[x,y]=>match P.underlying t,P.underlying t2 with
   |some (.slice e),some (.slice e2)=>if e2=e then match szOf P e,xOf P t x,xOf P t2 y with
    |some k,some a,some c=>some (.cpy k a c)
    |_,_,_=>none
    else none
   |_,_=>none
  |_,_=>none
 | .builtin .clear=>match c.argTypes.toList,c.args.toList with
  |[t],[x]=>match P.underlying t with
   |some (.slice e)=>match szOf P e,zeroOf P e,xOf P t x with
    |some k,some z,some a=>some (.clr k (zeroH z) a)
    |_,_,_=>none
   |_=>none
  |_,_=>none
 | .builtin .max=>match c.argTypes.toList,c.args.toList with
  |[t,t2],[x,y]=>match P.underlying t,xOf P t x,xOf P t2 y with
   |some (.int _),some a,some b=>some (.mm true a b)
   |_,_,_=>none
  |_,_=>none
 | .builtin .min=>match c.argTypes.toList,c.args.toList with
  |[t,t2],[x,y]=>match P.underlying t,xOf P t x,xOf P t2 y with
   |some (.int _),some a,some b=>some (.mm false a b)
   |_,_,_=>none
  |_,_=>none
 |_=>none
def prepOp (P:Program) (h:Hint) (o:Nat) (ty:TypeId):Op->Option I
 | .move x=>(xOf P ty x).map .mov
 | .assign x=>(xOf P ty x).map .mov
 | .pick c a b=>match xOf P ty c,xOf P ty a,xOf P ty b with
  |some c,some a,some b=>some (.pick c a b)
  |_,_,_=>none
 | .alloc e=>(zeroOf P e).map (.new o)
 | .box e x=>(xOf P e x).map (.box o)
 | .build t parts=>match P.underlying t,zeroOf P t with
  |some (.struct fs),some z=>if fs.toList.all fun f=>(szOf P f.type).isSome then(partsOf P fs.toList parts.toList).map (.bld z)else none
  |some (.array _ e),some z=>match szOf P e with
   |some k=>(elemsOf P e k parts.toList).map (.bld z)
   |none=>none
  |_,_=>none
 | .buildSlice t len parts=>match P.underlying t with
  |some (.slice e)=>match szOf P e with
   |some k=>if parts.size=len/\len*k<=16777216/\(zeroOf P e).map List.length=some k then(rowOf P e 0 parts.toList).map (.bsl o k)else none
   |none=>none
  |_=>none
 | .load t x=>match nOf P t,xOf P ty x with
  |some n,some a=>some (if h.take.contains o then .take o n a else .load n a)
  |_,_=>none
 | .store t x v=>match nOf P t,xOf P ty x,xOf P t v with
  |some none,some a,some b=>if szOf P t=some 1 then some (.store o none a b)else none
  |some (some n),some a,some b=>some (.store o (some n) a b)
  |_,_,_=>none
 | .nilCheck x=>(xOf P ty x).map .nchk
 | .binOp op t x y t2=>match P.underlying t with
  |some .bool=>match op,xOf P t x,xOf P t y with
   | .eql,some a,some b=>some (.beq .eql a b)
   | .neq,some a,some b=>some (.beq .neq a b)
   |_,_,_=>none
  |some (.int _)=>match xOf P t x,xOf P t2 y with
   |some a,some b=>some (.bin op a b)
   |_,_=>none
  |some .string=>match xOf P t x,xOf P t y with
   |some a,some b=>some (.bin op a b)
   |_,_=>none
  |_=>none
 | .unOp op t x=>match xOf P t x with
  |some a=>some (.un op a)
  |none=>none
 | .convert src dst x=>match P.underlying src,P.underlying dst,xOf P src x with
  |some (.int _),some (.int k),some a=>some (.toInt k a)
  |some (.int _),some .string,some a=>some (.toStr a)
  |some (.slice e),some .string,some a=>match P.underlying e with
   |some (.int .u8)=>some (.b2s a)
   |_=>none
  |_,_,_=>none
 | .makeFunc (.func f) first caps=>if first.size=0 then(xsOf P (caps.toList.map fun _=>ty) caps.toList).map (.fn f)else none
 | .makeSlice t len cap=>match P.underlying t with
  |some (.slice e)=>match szOf P e,(zeroOf P e).bind zeroD,bytesOfT P e,xOf P ty len with
   |some k,some z,some b,some x=>if sameX len cap then some (.mk o k z b x)else none
   |_,_,_,_=>none
  |_=>none
 | .slice t x lo hi mx=>match P.underlying t,xOf P t x,ox P ty lo,ox P ty hi,mx with
  |some .string,some a,some l,some h,none=>some (.sls a l h)
  |some (.slice e),some a,some l,some h,none=>(szOf P e).map fun k=> .sl k a l h
  |some (.slice e),some a,some none,_,some m=>match hi with
   |some h=>if isZero h&&isZero m then(szOf P e).map fun k=> .sl0 k a else none
   |none=>none
  |_,_,_,_,_=>none
 | .fieldAddr t x f=>match P.underlying t with
  |some (.struct fs)=>match fs[f]?,xOf P ty x with
   |some fd,some a=>match szOf P fd.type with
    |some (_+1)=>some (.fa fd.offset a)
    |_=>none
   |_,_=>none
  |_=>none
 | .field t x f=>match P.underlying t with
  |some (.struct fs)=>match fs[f]?,xOf P t x with
   |some fd,some a=>(nOf P fd.type).map fun n=> .fld fd.offset n a
   |_,_=>none
  |_=>none
 | .indexAddr t x i=>match P.underlying t,xOf P t x,xOf P ty i with
  |some (.slice e),some a,some b=>(szOf P e).map fun k=> .ia k a b
  |some (.array len e),some a,some b=>(szOf P e).map fun k=> .iaa len k a b
  |_,_,_=>none
 | .index t x i=>match P.underlying t,xOf P t x,xOf P ty i with
  |some .string,some a,some b=>some (.ixs a b)
  |_,_,_=>none
 | .extract x j=>(xOf P ty x).map (.ext j)
 | .call c=>prepCall P h o c
 | .makeInterface _ _=>some .bad
 | .panic _=>some .bad
 |_=>none
def prepOper (P:Program) (h:Hint) (n r:Nat) (ops:Array Oper) (i:Nat) (o:Oper):Option Ins:=
 match prepOp P h ((r+1)*10000+i*100) o.type o.op with
 |none=>none
 |some op=>
  if(match o.dst with
   |some d=>d<n
   |none=>true)=true then
   match o.guard with
   |none=>some {d:=o.dst,op,g:=none}
   |some (j,b)=>match (ops[j]?).bind (·.dst)with
    |some t=>if t<n then some {d:=o.dst,op,g:=some (t,b)} else none
    |none=>none
  else none
def prepOpers (P:Program) (h:Hint) (n r:Nat) (ops:Array Oper):Nat->List Oper->Option (List Ins)
 |_,[]=>some []
 |i,o::l=>match prepOper P h n r ops i o,prepOpers P h n r ops (i+1) l with
  |some a,some m=>some (a::m)
  |_,_=>none
def ancB (ops:Array Oper):Nat->Nat->Nat->Bool
 |0,_,_=>false
 |n+1,i,j=>match ops[j]? with
  |some o=>o.after.toList.any fun e=>Region.binds .any e&&(e.on==i||ancB ops n i e.on)
  |none=>false
def firstQ (ops:Array Oper) (l:List Ins) (listed:Array Bool):List Nat->Option (Nat×Ins)
 |[]=>none
 |j::r=>match l[j]? with
  |some x=>if(pureI x.op||loadI x.op)&&Region.free .any ops listed j then some (j,x)else firstQ ops l listed r
  |none=>firstQ ops l listed r
def altD (f:Nat->Option D):Nat->List Nat->Option D
 |r,[]=>f r
 |r,r'::rs=>match f r,altD f r' rs with
  |some a,some b=>some (.alt a b)
  |_,_=>none
def hangs (ops:Array Oper) (held:List Nat) (j:Nat):List Nat:=held.filter fun i=> !ancB ops ops.size i j
def keepB (ops:Array Oper) (held:List Nat) (x:Ins):Bool:=held.all fun i=>match ops[i]?,x.d with
 |some o,some d=> !(o.looksAt ops).contains d
 |_,_=>true
def prepD (ops:Array Oper) (l:List Ins):Nat->Array Bool->List Nat->Option D
 |0,listed,_=>match Region.ready .any ops listed with
  |[]=>some .fin
  |_::_=>none
 |n+1,listed,held=>match Region.ready .any ops listed with
  |[]=>some .fin
  |r::rs=>match firstQ ops l listed (r::rs)with
   |some (j,x)=>if keepB ops (if loadI x.op then j::held else held) x then(prepD ops l n (listed.setIfInBounds j true) (if loadI x.op then j::held else held)).map (.one x)else none
   |none=>altD (fun j=>match l[j]? with
    |some x=>if keepB ops (hangs ops held j) x then(prepD ops l n (listed.setIfInBounds j true) (hangs ops held j)).map (.loud x ((hangs ops held j).filterMap fun i=>l[i]?))else none
    |none=>none) r rs
def prepC (P:Program) (h:Hint) (n:Nat):Nat->Code->Option C
 |_,.skip=>some .skip
 |_,.region id ops draw=>match prepOpers P h n id ops 0 ops.toList with
  |some l=>if draw then(if Region.noSelect ops then(prepD ops l ops.size (Array.replicate ops.size false) []).map (.dreg · (look h.drop id))else none)else some (.reg l (look h.drop id))
  |none=>none
 |b,.seq x y=>match prepC P h n b x,prepC P h n b y with
  |some c,some d=>some (.seq c d)
  |_,_=>none
 |b,.cond c x y=>match xOf P 0 c,prepC P h n b x,prepC P h n b y with
  |some (.t t),some c,some d=>some (.cond (.t t) c d)
  |_,_,_=>none
 |_,.block id x=>(prepC P h n id x).map (.blk id)
 |b,.loop x=>(prepC P h n b x).map (.loop (10000000+b*100) (look h.live b))
 |_,.exit id=>some (.exit id)
 |_,.ret=>some .ret
 |_,_=>none
def resOf (P:Program):List ResultVar->Option (List RP)
 |[]=>some []
 | .tmp t::l=>(resOf P l).map fun m=> .t t::m
 | .cell t ty::l=>match nOf P ty,resOf P l with
  |some n,some m=>some (.cell t n::m)
  |_,_=>none
def prepF (P:Program) (h:Hint) (f:Func):Option PF:=
 if f.name= "runtime.NumGoroutine" then none else
 match f.body with
 |some c=>match prepC P h f.ntmps 0 c,resOf P f.results.toList with
  |some b,some r=>if f.params.size<=f.ntmps then some {n:=f.ntmps,modes:=h.modes,body:=b,res:=r} else none
  |_,_=>none
 |none=>none
def prep (P:Program) (H:Nat->Hint) (f:Nat):Option PF:=
 match P.funcs[f]? with
 |some fn=>prepF P (H f) fn
 |none=>none
end Go.Proofs.YtbolhfegdocpeaaGreat.Ow
namespace Go.Proofs.YtbolhfegdocpeaaGreat.Ow
open Go
theorem cellAt_some {α:Type} {rows:List (List α)} {i j:Nat} {d:α} (h:cellAt rows i j=some d):
  ∃r,rows[i]? =some r/\r[j]? =some d:=by
 unfold cellAt at h
 cases hr:rows[i]? with
 |none=>simp[hr]at h
 |some r=>exact⟨r,rfl,by simpa[hr]using h⟩
theorem cellAt_of {α:Type} {rows:List (List α)} {i j:Nat} {r:List α} (h:rows[i]? =some r):cellAt rows i j=r[j]? :=by
 unfold cellAt;rw[h]
theorem cellAt_set {α:Type} {rows:List (List α)} {i:Nat} {r r':List α} (h:rows[i]? =some r) (i' j':Nat):
  cellAt (rows.set i r') i' j'=if i'=i then r'[j']? else cellAt rows i' j':=by
 have hi:i<rows.length:=(List.getElem?_eq_some_iff.1 h).1
 unfold cellAt
 by_cases e:i'=i
 ·subst e;simp[hi]
 ·rw[if_neg e,List.getElem?_set_ne (fun h=>e h.symm)]
theorem cellAt_setAt {α:Type} {rows:List (List α)} {i j:Nat} {d d':α} (h:cellAt rows i j=some d) (i' j':Nat):
  cellAt (setAt rows i j d') i' j'=if i'=i/\j'=j then some d' else cellAt rows i' j':=by
 obtain⟨r,hr,hd⟩:=cellAt_some h
 have hj:j<r.length:=(List.getElem?_eq_some_iff.1 hd).1
 unfold setAt
 rw[hr]
 simp only[]
 rw[cellAt_set hr]
 by_cases e:i'=i
 ·subst e
  by_cases e2:j'=j
  ·subst e2;simp[hj]
  ·rw[if_pos rfl,if_neg (by simp[e2]),List.getElem?_set_ne (fun h=>e2 h.symm),cellAt_of hr]
 ·rw[if_neg e,if_neg (by simp[e])]
def Kin:Option T->Option T->Prop
 |none,none=>True
 |some (.sc v),some (.sc u)=>v=u
 |some .hole,some .hole=>True
 |some (.sl _ _),some (.sl _ _)=>True
 |_,_=>False
theorem Kin.refl (d:Option T):Kin d d:=by
 cases d with
 |none=>trivial
 |some d=>cases d<;>simp[Kin]
structure KinR (r r':List (List T)):Prop where
 len:r'.length=r.length
 row: ∀ (i:Nat) (x:List T),r[i]? =some x-> ∃y:List T,r'[i]? =some y/\y.length=x.length
 cell: ∀i j,Kin (cellAt r i j) (cellAt r' i j)
theorem KinR.refl (r:List (List T)):KinR r r:=⟨rfl,fun _ x h=>⟨x,h,rfl⟩,fun _ _=>Kin.refl _⟩
theorem KinR.setAt_own {rows:List (List T)} {i j k k':Nat} {a b:List (List T)} (h:cellAt rows i j=some (.sl k a)):
  KinR rows (setAt rows i j (.sl k' b)):=by
 obtain⟨r,hr,hd⟩:=cellAt_some h
 have hi:i<rows.length:=(List.getElem?_eq_some_iff.1 hr).1
 refine⟨by unfold setAt;rw[hr];simp,fun i' x hx=> ?_,fun i' j'=> ?_⟩
 ·unfold setAt
  rw[hr]
  by_cases e:i'=i
  ·subst e
   rw[hr]at hx
   cases hx
   exact⟨r.set j (.sl k' b),by simp[hi],by simp⟩
  ·exact⟨x,by simp only[];rw[List.getElem?_set_ne (fun h=>e h.symm)];exact hx,rfl⟩
 ·rw[cellAt_setAt h]
  by_cases e:i'=i/\j'=j
  ·obtain⟨rfl,rfl⟩:=e
   rw[if_pos ⟨rfl,rfl⟩,h];trivial
  ·rw[if_neg e];exact Kin.refl _
theorem nodeAt_append {k:Nat} {rows:List (List T)} (p q:Path):
  nodeAt k rows (p++q)=(match nodeAt k rows p with
   |some (k',r)=>nodeAt k' r q
   |none=>none):=by
 induction p generalizing k rows with
 |nil=>rfl
 |cons a p ih=>
  obtain⟨i,j⟩:=a
  simp only[List.cons_append,nodeAt]
  split
  ·exact ih
  ·rfl
theorem nodeSet_some {k0:Nat} {rows0 rows new:List (List T)} {k:Nat} {p:Path} (h:nodeAt k0 rows0 p=some (k,rows)):
  ∃rows1,nodeSet new rows0 p=some rows1:=by
 induction p generalizing k0 rows0 with
 |nil=>exact⟨new,rfl⟩
 |cons a p ih=>
  obtain⟨i,j⟩:=a
  simp only[nodeAt]at h
  split at h
  ·rename_i k' rows' hc
   obtain⟨r1,h1⟩:=ih h
   exact⟨_,by simp only[nodeSet,hc,h1];rfl⟩
  ·cases h
theorem nodeAt_nodeSet {k0:Nat} {rows0 rows1 new rows:List (List T)} {k:Nat} {p:Path} (h:nodeAt k0 rows0 p=some (k,rows))
  (hs:nodeSet new rows0 p=some rows1) (q:Path):nodeAt k0 rows1 (p++q)=nodeAt k new q:=by
 induction p generalizing k0 rows0 rows1 with
 |nil=>
  simp only[nodeAt,Option.some.injEq,Prod.mk.injEq]at h
  simp only[nodeSet,Option.some.injEq]at hs
  obtain⟨rfl,rfl⟩:=h
  subst hs
  rfl
 |cons a p ih=>
  obtain⟨i,j⟩:=a
  simp only[nodeAt]at h
  split at h
  ·rename_i k' rows' hc
   obtain⟨r1,h1⟩:=nodeSet_some (new:=new) h
   simp only[nodeSet,hc,h1,Option.some.injEq]at hs
   subst hs
   simp only[List.cons_append,nodeAt,cellAt_setAt hc,and_self,if_true]
   exact ih h h1
  ·cases h
def Alike:Option (Nat×List (List T))->Option (Nat×List (List T))->Prop
 |none,none=>True
 |some (k,r),some (k',r')=>k=k'/\KinR r r'
 |_,_=>False
theorem Alike.refl (x:Option (Nat×List (List T))):Alike x x:=by
 cases x with
 |none=>trivial
 |some x=>exact⟨rfl,KinR.refl _⟩
theorem nodeSet_alike {k0:Nat} {rows0 rows1 new rows:List (List T)} {k:Nat} {p:Path} (h:nodeAt k0 rows0 p=some (k,rows))
  (hs:nodeSet new rows0 p=some rows1) (q:Path) (hq:pre p q=none):Alike (nodeAt k0 rows0 q) (nodeAt k0 rows1 q):=by
 induction p generalizing k0 rows0 rows1 q with
 |nil=>simp[pre]at hq
 |cons a p ih=>
  obtain⟨i,j⟩:=a
  simp only[nodeAt]at h
  split at h
  ·rename_i k' rows' hc
   obtain⟨r1,h1⟩:=nodeSet_some (new:=new) h
   simp only[nodeSet,hc,h1,Option.some.injEq]at hs
   subst hs
   cases q with
   |nil=>exact⟨rfl,KinR.setAt_own hc⟩
   |cons b q=>
    obtain⟨i',j'⟩:=b
    simp only[nodeAt,cellAt_setAt hc]
    by_cases e:i'=i/\j'=j
    ·obtain⟨rfl,rfl⟩:=e
     simp only[pre,if_true]at hq
     simp only[and_self,if_true,hc]
     exact ih h h1 q hq
    ·rw[if_neg e];exact Alike.refl _
  ·cases h
theorem pre_some {p q r:Path}:pre p q=some r<->q=p++r:=by
 induction p generalizing q with
 |nil=>simp[pre,eq_comm]
 |cons a p ih=>
  cases q with
  |nil=>simp[pre]
  |cons b q=>
   simp only[pre]
   by_cases e:a=b
   ·subst e;simp[ih]
   ·rw[if_neg e];simp;intro h;exact absurd h.symm e
theorem pre_append (p q:Path):pre p (p++q)=some q:=pre_some.2 rfl
theorem T.cells_ind {M:T->Prop} (sc: ∀v,M (.sc v)) (hole:M .hole)
  (own: ∀k rows,(∀i j d,cellAt rows i j=some d->M d)->M (.sl k rows)): ∀d,M d:=by
 have key: ∀ (n:Nat) (d:T),SizeOf.sizeOf d<n->M d:=by
  intro n
  induction n with
  |zero=>intro d h;omega
  |succ n ih=>
   intro d h
   cases d with
   |sc v=>exact sc v
   |hole=>exact hole
   |sl k rows=>
    refine own k rows fun i j d hd=>ih d ?_
    obtain⟨r,hr,hx⟩:=cellAt_some hd
    have h1:=List.sizeOf_lt_of_mem (List.mem_of_getElem? hr)
    have h2:=List.sizeOf_lt_of_mem (List.mem_of_getElem? hx)
    simp at h
    omega
 exact fun d=>key _ d (Nat.lt_succ_self _)
theorem getT_put (l:List (Nat×AV)) (t u:Nat) (a:AV):getT ((t,a)::l) u=if u=t then a else getT l u:=rfl
theorem getO_del (l:List (Nat×Obj)) (t u:Nat):getO (delO l t) u=if u=t then .none else getO l u:=by
 induction l with
 |nil=>simp[delO,getO]
 |cons a l ih=>
  obtain⟨m,a⟩:=a
  simp only[delO]
  by_cases e:t=m
  ·subst e
   rw[if_pos rfl,ih]
   by_cases e2:u=t
   ·simp[e2]
   ·simp[getO,e2]
  ·rw[if_neg e]
   simp only[getO,ih]
   by_cases e2:u=m
   ·subst e2;rw[if_pos rfl,if_pos rfl,if_neg (fun h=>e h.symm)]
   ·rw[if_neg e2,if_neg e2]
theorem getO_putO (s:St) (o u:Nat) (x:Obj):getO (s.putO o x).ob u=if u=o then x else getO s.ob u:=by
 simp only[St.putO,getO,getO_del]
 by_cases e:u=o<;>simp[e]
theorem getT_subT (f:Nat->Path->Option (Nat×Path)) (l:List (Nat×AV)) (t:Nat):getT (subT f l) t=(getT l t).sub f:=by
 induction l with
 |nil=>simp[subT,getT,AV.sub]
 |cons a l ih=>
  obtain⟨m,a⟩:=a
  simp only[subT,getT]
  by_cases e:t=m<;>simp[e,ih]
theorem getO_subO (f:Nat->Path->Option (Nat×Path)) (l:List (Nat×Obj)) (t:Nat):getO (subO f l) t=(getO l t).sub f:=by
 induction l with
 |nil=>simp[subO,getO,Obj.sub]
 |cons a l ih=>
  obtain⟨m,a⟩:=a
  simp only[subO,getO]
  by_cases e:t=m<;>simp[e,ih]
theorem subL_eq (f:Nat->Path->Option (Nat×Path)) (l:List AV):subL f l=l.map (AV.sub f):=by
 induction l with
 |nil=>rfl
 |cons a l ih=>simp[subL,ih]
end Go.Proofs.YtbolhfegdocpeaaGreat.Ow
namespace Go.Proofs.YtbolhfegdocpeaaGreat.Ow
open Go
def Wr (w:World) (b j:Nat):Prop:=(∃u,w.cell? ⟨b,j,none⟩=some u)/\w.frozen? ⟨b,j,none⟩=false
inductive POk (w:World) (Im:Nat->Prop):Value->T->Prop
 |sc (v:Value) (h:isSc v=true):POk w Im v (.sc v)
 |hole (v:Value) (h:v.oneCell'=true):POk w Im v .hole
 |nil (a:Option Addr) (c k:Nat):POk w Im (.slice a 0 c) (.sl k [])
 |sl (b off c k:Nat) (rows:List (List T)) (us:Nat->Nat->Value) (him:Im b) (hle:rows.length<=c) (hk: ∀r∈rows,r.length=k)
   (hc: ∀i j t,cellAt rows i j=some t->w.cell? ⟨b,off+(i*k+j),none⟩=some (us i j))
   (hs: ∀i j t,cellAt rows i j=some t->POk w Im (us i j) t):POk w Im (.slice (some ⟨b,off,none⟩) rows.length c) (.sl k rows)
theorem POk.mono {w w':World} {Im Im':Nat->Prop} (h1: ∀b,Im b->Im' b) (h2: ∀b,Im b->w'.heap[b]? =w.heap[b]?) {v:Value} {t:T}
  (h:POk w Im v t):POk w' Im' v t:=by
 induction h with
 |sc v h=>exact .sc v h
 |hole v h=>exact .hole v h
 |nil a c k=>exact .nil a c k
 |sl b off c k rows us him hle hk hc hs ih=>
  refine .sl b off c k rows us (h1 b him) hle hk (fun i j t ht=> ?_) ih
  have:=hc i j t ht
  unfold World.cell? at*
  rw[h2 b him];exact this
def CellOk:T->Value->Value->Prop
 | .sc s,u,_=>u=s/\isSc s=true
 | .sl _ _,u,x=>u=x
 | .hole,u,_=>u.oneCell'=true
def NodeOk (w:World) (v:Value) (k:Nat) (rows:List (List T)) (sub:Nat->Nat->Value):Prop:=
 ∃a c,v= .slice a rows.length c/\rows.length<=c/\(0<c-> ∃b off,a=some ⟨b,off,none⟩/\(∀x,x<c*k->Wr w b (off+x))/\
  (∀r∈rows,r.length=k)/\ ∀i j d,cellAt rows i j=some d-> ∃u,w.cell? ⟨b,off+(i*k+j),none⟩=some u/\CellOk d u (sub i j))
def blkOf:Value->Option Nat
 | .slice (some a) _ c=>if 0<c then some a.block else none
 |_=>none
structure Env where
 w:World
 ob:Nat->Obj
 hd:Nat->Path->Value
 bk:Nat->Nat
 Im:Nat->Prop
 tk:Nat->Value
def Env.node (e:Env) (o:Nat) (p:Path):Option (Nat×List (List T)):=
 match e.ob o with
 | .arr k rows=>nodeAt k rows p
 |_=>none
inductive Pl where
 |nd (o:Nat) (p:Path)
 |bx (o:Nat)
def Env.blk (e:Env):Pl->Option Nat
 | .nd o p=>match e.node o p with
  |some _=>blkOf (e.hd o p)
  |none=>none
 | .bx o=>match e.ob o with
  | .box _=>some (e.bk o)
  |_=>none
def WinOk (hv:Value) (k lo hi:Nat) (v:Value):Prop:=
 ∃a n c a' c',hv= .slice a n c/\v= .slice a' (hi - lo) c'/\hi - lo<=c'/\(0<c'->lo+c'<=c/\a'=a.map (·.add (lo*k)))
def PimOk (w:World) (Im:Nat->Prop) (v:Value) (cs:List T):Prop:=
 ∃b off,v= .pointer (some ⟨b,off,none⟩)/\Im b/\ ∀j t,cs[j]? =some t-> ∃u,w.cell? ⟨b,off+j,none⟩=some u/\POk w Im u t
inductive AvOk (e:Env):AV->Value->Prop
 |non (v:Value):AvOk e .non v
 |dead (v:Value) (h:v.oneCell'=true):AvOk e .dead v
 |und:AvOk e .und undef
 |sc (v:Value) (h:isSc v=true):AvOk e (.sc v) v
 |nil (k:Nat) (a:Option Addr):AvOk e (.nil k) (.slice a 0 0)
 |im (v:Value) (k:Nat) (rows:List (List T)) (h:POk e.w e.Im v (.sl k rows)):AvOk e (.im k rows) v
 |al (v:Value) (i k:Nat) (rows:List (List T)) (hv:v=e.tk i) (h:POk e.w e.Im v (.sl k rows)):AvOk e (.al i k rows) v
 |ref (o:Nat) (p:Path) (k:Nat) (rows:List (List T)) (h:e.node o p=some (k,rows)):AvOk e (.ref o p) (e.hd o p)
 |vw (o:Nat) (p:Path) (lo hi k:Nat) (rows:List (List T)) (v:Value) (h:e.node o p=some (k,rows)) (h1:lo<=hi) (h2:hi<=rows.length)
   (hw:WinOk (e.hd o p) k lo hi v):AvOk e (.vw o p lo hi) v
 |pb (o j:Nat) (cs:List AV) (h:e.ob o= .box cs):AvOk e (.pb o j) (.pointer (some ⟨e.bk o,j,none⟩))
 |pa (o:Nat) (p:Path) (i j k b off n c:Nat) (rows:List (List T)) (h:e.node o p=some (k,rows)) (hh:e.hd o p= .slice (some ⟨b,off,none⟩) n c) (hc:0<c):
   AvOk e (.pa o p i j) (.pointer (some ⟨b,off+(i*k+j),none⟩))
 |pim (v:Value) (cs:List T) (h:PimOk e.w e.Im v cs):AvOk e (.pim cs) v
 |agg (l:List AV) (vs:List Value) (hl:l.length=vs.length) (h: ∀ (i:Nat) (a:AV) (v:Value),l[i]? =some a->vs[i]? =some v->AvOk e a v):AvOk e (.agg l) (.agg vs.toArray)
 |tup (l:List AV) (vs:List Value) (hl:l.length=vs.length) (h: ∀ (i:Nat) (a:AV) (v:Value),l[i]? =some a->vs[i]? =some v->AvOk e a v):AvOk e (.tup l) (.tuple vs.toArray)
 |clo (f:Nat) (l:List AV) (vs:List Value) (hl:l.length=vs.length) (h: ∀ (i:Nat) (a:AV) (v:Value),l[i]? =some a->vs[i]? =some v->AvOk e a v):
   AvOk e (.clo f l) (.func (.func f) #[] vs.toArray)
structure Keeps (w0:World) (F:Nat->Prop) (w:World):Prop where
 os:w.os=w0.os
 tape:w.tape=w0.tape
 output:w.output=w0.output
 size:w0.heap.size<=w.heap.size
 block: ∀k,k<w0.heap.size-> ¬F k->w.heap[k]? =w0.heap[k]?
theorem Keeps.refl (w:World) (F:Nat->Prop):Keeps w F w:=⟨rfl,rfl,rfl,Nat.le_refl _,fun _ _ _=>rfl⟩
theorem NodeOk.one {w:World} {v:Value} {k:Nat} {rows:List (List T)} {sub:Nat->Nat->Value} (h:NodeOk w v k rows sub):v.oneCell'=true:=by
 obtain⟨_,_,rfl,_⟩:=h;rfl
structure Fm where
 w0:World
 F:Nat->Prop
 I:Nat->Prop
 H:Nat->Value
 B:Nat->Nat
 T:Nat->Value
structure Mem (fm:Fm) (e:Env):Prop where
 box: ∀o cs,e.ob o= .box cs-> ∀ (j:Nat) c,cs[j]? =some c->Wr e.w (e.bk o) j/\ ∃u,e.w.cell? ⟨e.bk o,j,none⟩=some u/\AvOk e c u
 node: ∀o p k rows,e.node o p=some (k,rows)->NodeOk e.w (e.hd o p) k rows (fun i j=>e.hd o (p++[(i,j)]))
 inj: ∀l l' b,e.blk l=some b->e.blk l'=some b->l=l'
 own: ∀l b,e.blk l=some b->b<e.w.heap.size/\(fm.w0.heap.size<=b\/fm.F b)/\ ¬e.Im b
 im: ∀x,e.Im x->x<e.w.heap.size/\(x<fm.w0.heap.size->fm.I x\/fm.F x)
 im0: ∀x,fm.I x->e.Im x
 keeps:Keeps fm.w0 fm.F e.w
 tk:e.tk=fm.T
structure Rel (fm:Fm) (e:Env) (s:St) (a:Act):Prop where
 mem:Mem fm e
 ob: ∀o,e.ob o=getO s.ob o
 pinh: ∀o k rows,o<s.m->e.ob o= .arr k rows->e.hd o []=fm.H o
 pinb: ∀o cs,o<s.m->e.ob o= .box cs->e.bk o=fm.B o
 size:a.tmps.size=s.n
 defers:a.defers=[]
 tm: ∀t,AvOk e (getT s.tm t) (a.tmps.getD t undef)
def Pl.obj:Pl->Nat
 | .nd o _=>o
 | .bx o=>o
structure Evo (e e':Env) (M:List Nat):Prop where
 size:e.w.heap.size<=e'.w.heap.size
 same: ∀b,b<e.w.heap.size->(∀l,e.blk l=some b->l.obj∉M)->e'.w.heap[b]? =e.w.heap[b]?
theorem Evo.refl (e:Env) (M:List Nat):Evo e e M:=⟨Nat.le_refl _,fun _ _ _=>rfl⟩
def Reach (fm:Fm) (e:Env) (M:List Nat) (s:St) (a:Act) (w:World):Prop:= ∃e',e'.w=w/\Rel fm e' s a/\Evo e e' M
structure Carry (e e':Env) (f:Nat->Path->Option (Nat×Path)):Prop where
 im: ∀b,e.Im b->e'.Im b/\e'.w.heap[b]? =e.w.heap[b]?
 node: ∀o p k rows o' p',e.node o p=some (k,rows)->f o p=some (o',p')-> ∃rows',e'.node o' p'=some (k,rows')/\rows'.length=rows.length/\e'.hd o' p'=e.hd o p
 box: ∀o cs,e.ob o= .box cs-> ∃cs',e'.ob o= .box cs'/\e'.bk o=e.bk o
 one: ∀o p k rows,e.node o p=some (k,rows)->(e.hd o p).oneCell'=true
 tk:e'.tk=e.tk
theorem PimOk.mono {w w':World} {Im Im':Nat->Prop} (h1: ∀b,Im b->Im' b) (h2: ∀b,Im b->w'.heap[b]? =w.heap[b]?) {v:Value} {cs:List T}
  (h:PimOk w Im v cs):PimOk w' Im' v cs:=by
 obtain⟨b,off,rfl,him,hc⟩:=h
 refine⟨b,off,rfl,h1 b him,fun j t ht=> ?_⟩
 obtain⟨u,hu,hp⟩:=hc j t ht
 refine⟨u,?_,hp.mono h1 h2⟩
 unfold World.cell? at*
 rw[h2 b him];exact hu
theorem AvOk.sub {e e':Env} {f:Nat->Path->Option (Nat×Path)} (hC:Carry e e' f) {a:AV} {v:Value} (h:AvOk e a v):AvOk e' (a.sub f) v:=by
 have hs: ∀o p k rows,e.node o p=some (k,rows)->(e.hd o p).oneCell'=true:=hC.one
 have hp: ∀ {v t},POk e.w e.Im v t->POk e'.w e'.Im v t:=fun h=>h.mono (fun b hb=>(hC.im b hb).1) (fun b hb=>(hC.im b hb).2)
 have hq: ∀ {v cs},PimOk e.w e.Im v cs->PimOk e'.w e'.Im v cs:=fun h=>h.mono (fun b hb=>(hC.im b hb).1) (fun b hb=>(hC.im b hb).2)
 have hl: ∀ {l:List AV} {vs:List Value},(∀ (i:Nat) (a:AV) (v:Value),l[i]? =some a->vs[i]? =some v->AvOk e' (a.sub f) v)->
   ∀ (i:Nat) (a:AV) (v:Value),(subL f l)[i]? =some a->vs[i]? =some v->AvOk e' a v:=by
  intro l vs H i a v ha hv
  rw[subL_eq,List.getElem?_map]at ha
  cases hla:l[i]? with
  |none=>simp[hla]at ha
  |some x=>simp[hla]at ha;subst ha;exact H i x v hla hv
 induction h with
 |non v=>exact .non v
 |dead v h=>exact .dead v h
 |und=>exact .und
 |sc v h=>exact .sc v h
 |nil k a=>exact .nil k a
 |im v k rows h=>exact .im v k rows (hp h)
 |al v i k rows hv h=>exact .al v i k rows (hv.trans (congrFun hC.tk i).symm) (hp h)
 |ref o p k rows h=>
  simp only[AV.sub]
  cases hf:f o p with
  |none=>exact .dead _ (hs o p k rows h)
  |some x=>
   obtain⟨o',p'⟩:=x
   obtain⟨rows',h1,h2,h3⟩:=hC.node o p k rows o' p' h hf
   rw[←h3]
   exact .ref o' p' k rows' h1
 |vw o p lo hi k rows v h h1 h2 hw=>
  simp only[AV.sub]
  cases hf:f o p with
  |none=>exact .dead _ (by obtain⟨_,_,_,_,_,_,rfl,_⟩:=hw;rfl)
  |some x=>
   obtain⟨o',p'⟩:=x
   obtain⟨rows',g1,g2,g3⟩:=hC.node o p k rows o' p' h hf
   exact .vw o' p' lo hi k rows' v g1 h1 (g2 ▸ h2) (g3 ▸ hw)
 |pb o j cs h=>
  obtain⟨cs',h1,h2⟩:=hC.box o cs h
  simp only[AV.sub]
  rw[←h2]
  exact .pb o j cs' h1
 |pa o p i j k b off n c rows h hh hc=>
  simp only[AV.sub]
  cases hf:f o p with
  |none=>exact .dead _ rfl
  |some x=>
   obtain⟨o',p'⟩:=x
   obtain⟨rows',g1,g2,g3⟩:=hC.node o p k rows o' p' h hf
   exact .pa o' p' i j k b off n c rows' g1 (g3.trans hh) hc
 |pim v cs h=>exact .pim v cs (hq h)
 |agg l vs hl1 h ih=>exact .agg _ vs (by rw[subL_eq,List.length_map];exact hl1) (hl ih)
 |tup l vs hl1 h ih=>exact .tup _ vs (by rw[subL_eq,List.length_map];exact hl1) (hl ih)
 |clo g l vs hl1 h ih=>exact .clo g _ vs (by rw[subL_eq,List.length_map];exact hl1) (hl ih)
theorem AV.sub_id (f:Nat->Path->Option (Nat×Path)) (hf: ∀o p,f o p=some (o,p)): ∀a:AV,a.sub f=a:=by
 have key: ∀ (n:Nat) (a:AV),SizeOf.sizeOf a<n->a.sub f=a:=by
  intro n
  induction n with
  |zero=>intro a h;omega
  |succ n ih=>
   intro a h
   have hl: ∀l:List AV,SizeOf.sizeOf l<n->subL f l=l:=by
    intro l
    induction l with
    |nil=>intro _;rfl
    |cons a l ihl=>
     intro h
     simp at h
     simp only[subL]
     rw[ih a (by omega),ihl (by omega)]
   cases a with
   |ref o p=>simp[AV.sub,hf]
   |vw o p lo hi=>simp[AV.sub,hf]
   |pa o p i j=>simp[AV.sub,hf]
   |agg l=>simp at h;simp only[AV.sub];rw[hl l (by omega)]
   |tup l=>simp at h;simp only[AV.sub];rw[hl l (by omega)]
   |clo g l=>simp at h;simp only[AV.sub];rw[hl l (by omega)]
   |_=>rfl
 exact fun a=>key _ a (Nat.lt_succ_self _)
theorem AvOk.carry {e e':Env} (hC:Carry e e' fun o p=>some (o,p)) {a:AV} {v:Value} (h:AvOk e a v):AvOk e' a v:=by
 have:=h.sub hC
 rwa [AV.sub_id _ (fun _ _=>rfl)]at this
end Go.Proofs.YtbolhfegdocpeaaGreat.Ow
namespace Go.Proofs.YtbolhfegdocpeaaGreat.Ow
open Go
variable {P:Program} {fm:Fm} {M:List Nat} {e:Env} {s s':St} {a:Act}
theorem const1_ok {t:TypeId} {v:Value} {x:AV} (h:const1 P t v=some x):AvOk e x v:=by
 unfold const1 at h
 split at h
 ·split at h
  ·rename_i el _
   cases hk:szOf P el with
   |none=>simp[hk]at h
   |some k=>simp[hk]at h;subst h;exact .nil _ _
  ·cases h
 ·rename_i f fi ca
  split at h
  ·rename_i hz
   cases h
   have h1:fi= #[]:=Array.eq_empty_of_size_eq_zero hz.1
   have h2:ca= #[]:=Array.eq_empty_of_size_eq_zero hz.2
   subst h1;subst h2
   exact .clo f [] [] rfl (fun i a v h=>by simp at h)
  ·cases h
 ·split at h
  ·cases h;exact .sc _ (by assumption)
  ·cases h
theorem const1s_ok: ∀ {ts:List TypeId} {vs:List Value} {l:List AV},const1s P ts vs=some l->
  l.length=vs.length/\ ∀ (i:Nat) (a:AV) (v:Value),l[i]? =some a->vs[i]? =some v->AvOk e a v
 |[],[],l,h=>by simp[const1s]at h;subst h;exact⟨rfl,fun i a v h=>by simp at h⟩
 |t::ts,v::vs,l,h=>by
  simp only[const1s]at h
  split at h
  ·rename_i x m hx hm
   simp at h;subst h
   obtain⟨h1,h2⟩:=const1s_ok hm
   refine⟨by simp[h1],fun i a u ha hu=> ?_⟩
   cases i with
   |zero=>simp at ha hu;subst ha;subst hu;exact const1_ok hx
   |succ i=>simp at ha hu;exact h2 i a u ha hu
  ·cases h
 |[],_::_,l,h=>by simp[const1s]at h
 |_::_,[],l,h=>by simp[const1s]at h
theorem constA_ok {t:TypeId} {v:Value} {x:AV} (h:constA P t v=some x):AvOk e x v:=by
 unfold constA at h
 split at h
 ·rename_i cs
  split at h
  ·rename_i ts _
   cases hm:const1s P ts cs.toList with
   |none=>simp[hm]at h
   |some l=>
    simp[hm]at h;subst h
    obtain⟨h1,h2⟩:=const1s_ok (e:=e) hm
    have:=AvOk.agg (e:=e) l cs.toList h1 h2
    simpa using this
  ·cases h
 ·exact const1_ok h
theorem xOf_ok (hR:Rel fm e s a) {t:TypeId} {x:Operand} {X:X} (h:xOf P t x=some X):AvOk e (ev s.tm X) (a.eval x):=by
 cases x with
 |tmp n=>simp[xOf]at h;subst h;exact hR.tm n
 |const v=>
  simp only[xOf]at h
  cases hc:constA P t v with
  |none=>simp[hc]at h
  |some y=>simp[hc]at h;subst h;exact constA_ok hc
 |func f=>simp[xOf]at h;subst h;exact .clo f [] [] rfl (fun i a v h=>by simp at h)
 |global g=>simp[xOf]at h
theorem xsOf_ok (hR:Rel fm e s a): ∀ {ts:List TypeId} {xs:List Operand} {Xs:List X},xsOf P ts xs=some Xs->
  (Xs.map (ev s.tm)).length=(xs.map a.eval).length/\ ∀ (i:Nat) (x:AV) (v:Value),(Xs.map (ev s.tm))[i]? =some x->(xs.map a.eval)[i]? =some v->AvOk e x v
 |[],[],l,h=>by simp[xsOf]at h;subst h;exact⟨rfl,fun i a v h=>by simp at h⟩
 |t::ts,x::xs,l,h=>by
  simp only[xsOf]at h
  split at h
  ·rename_i y m hx hm
   simp at h;subst h
   obtain⟨h1,h2⟩:=xsOf_ok hR hm
   refine⟨by simpa using h1,fun i z u ha hu=> ?_⟩
   cases i with
   |zero=>simp at ha hu;subst ha;subst hu;exact xOf_ok hR hx
   |succ i=>simp at ha hu;exact h2 i z u (by simpa using ha) (by simpa using hu)
  ·cases h
 |[],_::_,l,h=>by simp[xsOf]at h
 |_::_,[],l,h=>by simp[xsOf]at h
theorem put_some {d:Option Nat} {x:AV} (h:s.put d x=some s'):s'.ob=s.ob/\s'.n=s.n/\s'.m=s.m/\(∀t,d=some t->t<s.n)/\
  ∀u,getT s'.tm u=if d=some u then x else getT s.tm u:=by
 unfold St.put at h
 cases d with
 |none=>
  simp at h;subst h
  refine⟨rfl,rfl,rfl,?_,?_⟩
  ·intro t h;cases h
  ·intro u;simp
 |some t=>
  simp only at h
  by_cases hlt:t<s.n
  ·rw[if_pos hlt]at h
   cases h
   refine⟨rfl,rfl,rfl,fun u h=>by cases h;exact hlt,fun u=> ?_⟩
   simp only[getT_put]
   by_cases e:u=t
   ·subst e;simp
   ·rw[if_neg e,if_neg (by simp;exact fun h=>e h.symm)]
  ·rw[if_neg hlt]at h;cases h
theorem getD_put (a:Act) (d:Option Nat) (v:Value) (hd: ∀t,d=some t->t<a.tmps.size) (u:Nat):
  (a.put d v).tmps.getD u undef=if d=some u then v else a.tmps.getD u undef:=by
 cases d with
 |none=>simp[Act.put]
 |some t=>
  have:=hd t rfl
  simp only[Act.put,Array.getD_eq_getD_getElem?,Array.getElem?_setIfInBounds,Option.some.injEq]
  by_cases e:t=u
  ·subst e;simp[this]
  ·simp[e]
theorem put_size (a:Act) (d:Option Nat) (v:Value):(a.put d v).tmps.size=a.tmps.size:=by cases d<;>simp[Act.put]
theorem put_defers (a:Act) (d:Option Nat) (v:Value):(a.put d v).defers=a.defers:=by cases d<;>simp[Act.put]
theorem Rel.put (hR:Rel fm e s a) {d:Option Nat} {x:AV} {v:Value} (hv:AvOk e x v) (h:s.put d x=some s'):
  Rel fm e s' (a.put d v):=by
 obtain⟨h1,h2,hm,h3,h4⟩:=put_some h
 refine⟨hR.mem,fun o=>by rw[h1];exact hR.ob o,by rw[hm];exact hR.pinh,by rw[hm];exact hR.pinb,by rw[put_size,hR.size,h2],by rw[put_defers];exact hR.defers,fun t=> ?_⟩
 rw[h4,getD_put a d v (fun t ht=>by rw[hR.size];exact h3 t ht)]
 split
 ·exact hv
 ·exact hR.tm t
theorem value_ok (hR:Rel fm e s a) {o:Oper} {x:AV} {v:Value} (hrun:(execOp a.eval o).run P e.w= .ok (.value v) e.w)
  (hv:AvOk e x v) (h:s.put o.dst x=some s') (Q:Exit->Act->World->Prop):o.wp P a e.w (Reach fm e M s') Q:=by
 unfold Oper.wp
 rw[hrun,Oper.upon_value]
 exact⟨e,rfl,hR.put hv h,Evo.refl e M⟩
def Yl (P:Program) (e:Env) (s:St) (o:Oper) (a:Act) (s':St):Prop:=
 ∃ (v:Value) (x:AV),(∀w:World,(execOp a.eval o).run P w= .ok (.value v) w)/\AvOk e x v/\s.put o.dst x=some s'
theorem yl {o:Oper} {x:AV} {v:Value} (hrun: ∀w:World,(execOp a.eval o).run P w= .ok (.value v) w) (hv:AvOk e x v) (h:s.put o.dst x=some s'):Yl P e s o a s':=
 ⟨v,x,hrun,hv,h⟩
theorem Yl.wp {o:Oper} (h:Yl P e s o a s') (hR:Rel fm e s a) (Q:Exit->Act->World->Prop):o.wp P a e.w (Reach fm e M s') Q:=by
 obtain⟨v,x,h1,h2,h3⟩:=h
 exact value_ok hR (h1 e.w) h2 h3 Q
theorem bin_int (op : BinOp) (t : TypeId) (k k' : IntKind) (x y : Int) (r : Value) (w : World) (h : binS op (.int k x) (.int k' y) = some r) :
    (binOp op t (.int k x) (.int k' y)).run P w = .ok r w /\ isSc r = true := by
  cases op <;> simp only [binS] at h <;>
    first
      | (split at h
         · cases h
         · cases h; rename_i hb; constructor
           · simp [binOp, Op.shift, hb]
           · rfl)
      | (split at h
         · rename_i hk; subst hk
           first
             | (cases h; constructor
                · simp [binOp, Op.intArith, Op.intBits, Op.intCmp, bits]
                · rfl)
             | (split at h
                · cases h
                · cases h; rename_i hb; constructor
                  · simp [binOp, Op.intDiv, hb]
                  · rfl)
             | (cases h)
         · cases h)
      | cases h
theorem bin_string (op : BinOp) (t : TypeId) (x y : ByteArray) (r : Value) (w : World) (h : binS op (.string x) (.string y) = some r) :
    (binOp op t (.string x) (.string y)).run P w = .ok r w /\ isSc r = true := by
  cases op <;> simp only [binS] at h <;> first
    | (cases h; done)
    | (cases h; exact ⟨by simp [binOp, Op.stringOp], rfl⟩)
    | (split at h
       · cases h; rename_i hb
         refine ⟨?_, rfl⟩
         have hi : IntKind.i64.max = 9223372036854775807 := by decide
         simp only [binOp, Op.stringOp, hi]
         rw [if_neg (by omega)]; rfl
       · cases h)
theorem run_underlying' {t:TypeId} {d:TypeDesc} (h:P.underlying t=some d) (w:World):(underlying t).run P w= .ok d w:=by
 simp[underlying,h]
theorem bin_bool (op:BinOp) (t:TypeId) (ht:P.underlying t=some .bool) (x y:Bool) (r:Value) (w:World) (h:beqS op x y=some r):
  (binOp op t (.bool x) (.bool y)).run P w= .ok r w/\isSc r=true:=by
 have hd: ∀d,(Op.equalIn (d+1) t (.bool x) (.bool y)).run P w= .ok (x==y) w:=by
  intro d
  simp[Op.equalIn,run_underlying' ht]
 have he:(Op.equal t (.bool x) (.bool y)).run P w= .ok (x==y) w:=hd 9999
 cases op<;>simp only[beqS]at h<;>first
  |(cases h;done)
  |(cases h;exact⟨by simp[binOp,he],rfl⟩)
theorem eqGuard_sc (op:BinOp) (t:TypeId) (x y:Operand) (u v:Value) (hu:isSc u=true) (w:World):(eqGuard op t x y u v).run P w= .ok () w:=by
 cases op<;>first
  |rfl
  |(cases u<;>first
    |rfl
    |(simp[isSc]at hu;done))
theorem AvOk.sc_inv {v u:Value} (h:AvOk e (.sc v) u):u=v/\isSc v=true:=by cases h;exact⟨rfl,by assumption⟩
end Go.Proofs.YtbolhfegdocpeaaGreat.Ow
namespace Go.Proofs.YtbolhfegdocpeaaGreat.Ow
open Go
def AV.place:AV->Option (Nat×Path)
 | .ref o p=>some (o,p)
 | .vw o p _ _=>some (o,p)
 |_=>none
variable {P:Program} {fm:Fm} {M:List Nat} {e:Env} {s s':St} {a:Act}
theorem addr_add (b off n:Nat):Addr.add ⟨b,off,none⟩ n=⟨b,off+n,none⟩:=by
 unfold Addr.add
 split
 ·rename_i h;subst h;rfl
 ·rfl
theorem cellAt_window {α:Type} (rows:List (List α)) (lo hi i j:Nat) {d:α} (h:cellAt ((rows.take hi).drop lo) i j=some d):cellAt rows (lo+i) j=some d:=by
 obtain⟨r,hr,hd⟩:=cellAt_some h
 rw[List.getElem?_drop]at hr
 have h2:rows[lo+i]? =some r:=by
  rw[List.getElem?_take]at hr
  split at hr
  ·exact hr
  ·cases hr
 rw[cellAt_of h2];exact hd
theorem mem_window {α:Type} {rows:List α} {lo hi:Nat} {r:α} (h:r∈(rows.take hi).drop lo):r∈rows:=
 List.mem_of_mem_take (List.mem_of_mem_drop h)
theorem POk.window {w:World} {Im:Nat->Prop} {hv v:Value} {k lo hi:Nat} {rows:List (List T)} (h:POk w Im hv (.sl k rows)) (hw:WinOk hv k lo hi v)
  (h1:lo<=hi) (h2:hi<=rows.length):POk w Im v (.sl k ((rows.take hi).drop lo)):=by
 obtain⟨a,n,c,a',c',rfl,rfl,hc',hx⟩:=hw
 have hlen:((rows.take hi).drop lo).length=hi - lo:=by simp;omega
 by_cases hz:hi - lo=0
 ·have:(rows.take hi).drop lo=[]:=List.eq_nil_of_length_eq_zero (by omega)
  rw[this,hz]
  exact .nil _ _ _
 ·obtain⟨hcc,rfl⟩:=hx (by omega)
  generalize hv':(Value.slice a n c)=hv at h
  cases h with
  |nil=>simp at h2;omega
  |sl b off c2 k rows us him hle hk hc hs=>
   cases hv'
   rw[←hlen]
   simp only[Option.map_some,addr_add]
   refine .sl b (off+lo*k) c' k _ (fun i j=>us (lo+i) j) him (by omega) (fun r hr=>hk r (mem_window hr)) (fun i j t ht=> ?_) (fun i j t ht=>hs (lo+i) j t (cellAt_window _ _ _ _ _ ht))
   have:=hc (lo+i) j t (cellAt_window _ _ _ _ _ ht)
   rw[←this]
   congr 2
   rw[Nat.add_mul];omega
theorem node_POk (hM:Mem fm e): ∀ (d:T) (o:Nat) (p:Path) (k:Nat) (rows:List (List T)),d= .sl k rows->e.node o p=some (k,rows)->
  POk e.w (fun b=> ∃q,e.blk (.nd o (p++q))=some b) (e.hd o p) (.sl k rows):=by
 intro d
 induction d using T.cells_ind with
 |sc v=>intro o p k rows h;cases h
 |hole=>intro o p k rows h;cases h
 |own k rows ih=>
  intro o p k2 rows2 h hn
  cases h
  obtain⟨ad,c,hv,hle,hc⟩:=hM.node o p k rows hn
  rw[hv]
  by_cases hz:rows.length=0
  ·have:rows=[]:=List.eq_nil_of_length_eq_zero hz
   subst this
   exact .nil _ _ _
  ·obtain⟨b,off,rfl,_,hk,hcell⟩:=hc (by omega)
   have hblk:e.blk (.nd o p)=some b:=by
    simp only[Env.blk,hn,hv,blkOf]
    rw[if_pos (by omega)]
   refine .sl b off c k _ (fun i j=>(e.w.cell? ⟨b,off+(i*k+j),none⟩).getD undef) ⟨[],by simpa using hblk⟩ hle hk (fun i j t ht=> ?_) (fun i j t ht=> ?_)
   ·obtain⟨u,hu,_⟩:=hcell i j t ht
    rw[hu];rfl
   ·obtain⟨u,hu,hok⟩:=hcell i j t ht
    rw[hu]
    cases t with
    |sc s=>obtain⟨rfl,hs⟩:=hok;exact .sc _ hs
    |hole=>exact .hole _ hok
    |sl k' rows'=>
     simp only[CellOk]at hok
     have hn':e.node o (p++[(i,j)])=some (k',rows'):=by
      unfold Env.node at hn ⊢
      split at hn
      ·rename_i k0 rows0 he
       rw[nodeAt_append,hn]
       simp[nodeAt,ht]
      ·cases hn
     have:=ih i j _ ht o (p++[(i,j)]) k' rows' rfl hn'
     simp only[Option.getD_some,hok]
     exact this.mono (fun b ⟨q,hq⟩=>⟨(i,j)::q,by simpa using hq⟩) (fun _ _=>rfl)
theorem node_of (hR:Rel fm e s a) (o:Nat) (p:Path):nodeOf s.ob o p=e.node o p:=by
 unfold nodeOf Env.node
 rw[hR.ob o]
 all_goals (generalize getO s.ob o=x;cases x<;>rfl)
theorem rows_read (hR:Rel fm e s a) {x:AV} {v:Value} {k:Nat} {rows:List (List T)} (hx:AvOk e x v) (h:rowsOf s.ob x=some (k,rows)):
  POk e.w (fun b=>e.Im b\/ ∃o p q,x.place=some (o,p)/\e.blk (.nd o (p++q))=some b) v (.sl k rows):=by
 cases hx with
 |nil k' ad=>simp[rowsOf]at h;obtain⟨rfl,rfl⟩:=h;exact .nil _ _ _
 |im v k' rows' hp=>simp[rowsOf]at h;obtain⟨rfl,rfl⟩:=h;exact hp.mono (fun _ h=> .inl h) (fun _ _=>rfl)
 |al v j k' rows' hv hp=>simp[rowsOf]at h;obtain⟨rfl,rfl⟩:=h;exact hp.mono (fun _ h=> .inl h) (fun _ _=>rfl)
 |ref o p k' rows' hn=>
  simp[rowsOf,node_of hR,hn]at h
  obtain⟨rfl,rfl⟩:=h
  exact(node_POk hR.mem _ o p k' rows' rfl hn).mono (fun b ⟨q,hq⟩=> .inr ⟨o,p,q,rfl,hq⟩) (fun _ _=>rfl)
 |vw o p lo hi k' rows' v hn h1 h2 hw=>
  simp[rowsOf,node_of hR,hn]at h
  obtain⟨rfl,rfl⟩:=h
  have:=((node_POk hR.mem _ o p k' rows' rfl hn).mono (Im':=fun b=>e.Im b\/ ∃o' p' q,(AV.vw o p lo hi).place=some (o',p')/\e.blk (.nd o' (p'++q))=some b) (fun b ⟨q,hq⟩=> .inr ⟨o,p,q,rfl,hq⟩) (fun _ _=>rfl)).window hw h1 h2
  exact this
 |_=>simp[rowsOf]at h
end Go.Proofs.YtbolhfegdocpeaaGreat.Ow
namespace Go.Proofs.YtbolhfegdocpeaaGreat.Ow
open Go
variable {P:Program} {fm:Fm} {M:List Nat} {e:Env} {s s':St} {a:Act} {Q:Exit->Act->World->Prop}
variable {K:Nat->List Arg->Option Res} {md:Nat->List Nat}
theorem szOf_run {t:TypeId} {n:Nat} (h:szOf P t=some n) (w:World):(sizeOf t).run P w= .ok n w:=by
 unfold szOf at h
 cases hi:P.info? t with
 |none=>simp[hi]at h
 |some i=>simp[hi]at h;simp[sizeOf,typeInfo,hi,h]
theorem nOf_none {t:TypeId} (h:nOf P t=some none) (w:World):(isAgg t).run P w= .ok false w:=by
 unfold nOf at h
 unfold isAgg
 cases hu:P.underlying t with
 |none=>simp[hu]at h
 |some d=>cases d<;>simp[hu]at h<;>simp[run_underlying' hu]
theorem nOf_some {t:TypeId} {n:Nat} (h:nOf P t=some (some n)) (w:World):(isAgg t).run P w= .ok true w/\(sizeOf t).run P w= .ok n w:=by
 unfold nOf at h
 unfold isAgg
 cases hu:P.underlying t with
 |none=>simp[hu]at h
 |some d=>cases d<;>simp[hu]at h<;>exact⟨by simp[run_underlying' hu],szOf_run h w⟩
theorem op_move (hR:Rel fm e s a) {o:Oper} {x:Operand} {X:X} (ho:o.op= .move x\/o.op= .assign x) (hx:xOf P o.type x=some X)
  (h:s.put o.dst (ev s.tm X)=some s'):Yl P e s o a s':=
 yl (v:=a.eval x) (fun w=>by rcases ho with ho|ho<;>simp[execOp,ho]) (xOf_ok hR hx) h
theorem op_pick (hR:Rel fm e s a) {o:Oper} {c x y:Operand} {C X Y:Ow.X} (ho:o.op= .pick c x y) (hc:xOf P o.type c=some C) (hx:xOf P o.type x=some X)
  (hy:xOf P o.type y=some Y) (h:stepI K md s o.dst (.pick C X Y)=some s'):Yl P e s o a s':=by
 have h1:=xOf_ok hR hc
 simp only[stepI]at h
 split at h
 ·rename_i b hb
  rw[hb]at h1
  obtain⟨h1,_⟩:=h1.sc_inv
  cases b
  ·simp at h
   exact yl (v:=a.eval y) (fun w=>by simp[execOp,ho,asBool,h1]) (xOf_ok hR hy) h
  ·simp at h
   exact yl (v:=a.eval x) (fun w=>by simp[execOp,ho,asBool,h1]) (xOf_ok hR hx) h
 ·cases h
theorem op_bin (hR:Rel fm e s a) {o:Oper} {op:BinOp} {t t2:TypeId} {x y:Operand} {X Y:Ow.X} (ho:o.op= .binOp op t x y t2)
  {tx ty:TypeId} (hx:xOf P tx x=some X) (hy:xOf P ty y=some Y)
  (h:stepI K md s o.dst (.bin op X Y)=some s'):Yl P e s o a s':=by
 have h1:=xOf_ok hR hx
 have h2:=xOf_ok hR hy
 simp only[stepI]at h
 split at h
 ·rename_i v hv
  unfold binA at hv
  split at hv
  ·rename_i u1 u2 e1 e2
   rw[e1]at h1
   rw[e2]at h2
   obtain⟨g1,sc1⟩:=h1.sc_inv
   obtain⟨g2,sc2⟩:=h2.sc_inv
   cases hr:binS op u1 u2 with
   |none=>simp[hr]at hv
   |some r=>
    simp[hr]at hv
    subst hv
    have key: ∀w:World,(binOp op t (a.eval x) (a.eval y)).run P w= .ok r w/\isSc r=true:=by
     intro w
     rw[g1,g2]
     cases u1<;>cases u2<;>first
      |(simp[binS]at hr;done)
      |exact bin_int op t _ _ _ _ r w hr
      |exact bin_string op t _ _ r w hr
    refine yl (v:=r) (fun w=> ?_) (.sc r (key e.w).2) h
    simp[execOp,ho,eqGuard_sc op t x y (a.eval x) (a.eval y) (by rw[g1];exact sc1),(key w).1]
  ·cases hv
 ·cases h
theorem op_beq (hR:Rel fm e s a) {o:Oper} {op:BinOp} {t t2:TypeId} {x y:Operand} {X Y:Ow.X} (ho:o.op= .binOp op t x y t2)
  {tx ty:TypeId} (hx:xOf P tx x=some X) (hy:xOf P ty y=some Y) (hb:P.underlying t=some .bool)
  (h:stepI K md s o.dst (.beq op X Y)=some s'):Yl P e s o a s':=by
 have h1:=xOf_ok hR hx
 have h2:=xOf_ok hR hy
 simp only[stepI]at h
 split at h
 ·rename_i v hv
  unfold beqA at hv
  split at hv
  ·rename_i u1 u2 e1 e2
   rw[e1]at h1
   rw[e2]at h2
   obtain⟨g1,sc1⟩:=h1.sc_inv
   obtain⟨g2,sc2⟩:=h2.sc_inv
   cases hr:beqS op u1 u2 with
   |none=>simp[hr]at hv
   |some r=>
    simp[hr]at hv
    subst hv
    have key: ∀w:World,(binOp op t (a.eval x) (a.eval y)).run P w= .ok r w/\isSc r=true:=by
     intro w
     rw[g1,g2]
     exact bin_bool op t hb _ _ r w hr
    refine yl (v:=r) (fun w=> ?_) (.sc r (key e.w).2) h
    simp[execOp,ho,eqGuard_sc op t x y (a.eval x) (a.eval y) (by rw[g1];exact sc1),(key w).1]
  ·cases hv
 ·cases h
theorem op_un (hR:Rel fm e s a) {o:Oper} {op:UnOp} {t:TypeId} {x:Operand} {X:X} (ho:o.op= .unOp op t x) {tx:TypeId} (hx:xOf P tx x=some X)
  (h:stepI K md s o.dst (.un op X)=some s'):Yl P e s o a s':=by
 have h1:=xOf_ok hR hx
 simp only[stepI]at h
 split at h
 ·rename_i v hv
  unfold unA at hv
  split at hv
  ·rename_i k n e1
   rw[e1]at h1
   obtain⟨g1,_⟩:=h1.sc_inv
   split at hv
   ·cases hv
    exact yl (v:= .int k (k.wrap (0 - n))) (fun w=>by simp[execOp,ho,g1,Op.unary,Op.intArith]) (.sc _ rfl) h
   ·cases hv
  ·rename_i b e1
   rw[e1]at h1
   obtain⟨g1,_⟩:=h1.sc_inv
   split at hv
   ·cases hv
    exact yl (v:= .bool (!b)) (fun w=>by simp[execOp,ho,g1,Op.unary]) (.sc _ rfl) h
   ·cases hv
  ·cases hv
 ·cases h
theorem op_toInt (hR:Rel fm e s a) {o:Oper} {t u:TypeId} {k0 k:IntKind} {x:Operand} {X:X} (ho:o.op= .convert t u x) (ht:P.underlying t=some (.int k0))
  (hu:P.underlying u=some (.int k)) {tx:TypeId} (hx:xOf P tx x=some X) (h:stepI K md s o.dst (.toInt k X)=some s'):Yl P e s o a s':=by
 have h1:=xOf_ok hR hx
 simp only[stepI]at h
 split at h
 ·rename_i k' n e1
  rw[e1]at h1
  obtain⟨g1,_⟩:=h1.sc_inv
  exact yl (v:= .int k (k.wrap n)) (fun w=>by simp[execOp,ho,g1,convert,run_underlying' ht,run_underlying' hu,Conv.intToInt]) (.sc _ rfl) h
 ·cases h
theorem op_toStr (hR:Rel fm e s a) {o:Oper} {t u:TypeId} {k0:IntKind} {x:Operand} {X:X} (ho:o.op= .convert t u x) (ht:P.underlying t=some (.int k0))
  (hu:P.underlying u=some .string) {tx:TypeId} (hx:xOf P tx x=some X) (h:stepI K md s o.dst (.toStr X)=some s'):Yl P e s o a s':=by
 have h1:=xOf_ok hR hx
 simp only[stepI]at h
 split at h
 ·rename_i k' n e1
  rw[e1]at h1
  obtain⟨g1,_⟩:=h1.sc_inv
  exact yl (v:= .string (Utf8.encode n)) (fun w=>by simp[execOp,ho,g1,convert,run_underlying' ht,run_underlying' hu,Conv.intToString]) (.sc _ rfl) h
 ·cases h
theorem op_ext (hR:Rel fm e s a) {o:Oper} {x:Operand} {j:Nat} {X:X} (ho:o.op= .extract x j) {tx:TypeId} (hx:xOf P tx x=some X)
  (h:stepI K md s o.dst (.ext j X)=some s'):Yl P e s o a s':=by
 have h1:=xOf_ok hR hx
 simp only[stepI]at h
 split at h
 ·rename_i l e1
  rw[e1]at h1
  split at h
  ·rename_i v hv
   generalize hev:a.eval x=ax at h1
   cases h1 with
   |tup l vs hl hh=>
    have hj:j<vs.length:=by rw[←hl];exact(List.getElem?_eq_some_iff.1 hv).1
    have hu:vs[j]? =some vs[j]:=List.getElem?_eq_getElem hj
    exact yl (v:=vs[j]) (fun w=>by simp[execOp,ho,hev,Instr.extract,hu]) (hh j v _ hv hu) h
  ·cases h
 ·cases h
theorem op_nchk (hR:Rel fm e s a) {o:Oper} {x:Operand} {X:X} (ho:o.op= .nilCheck x) {tx:TypeId} (hx:xOf P tx x=some X)
  (h:stepI K md s o.dst (.nchk X)=some s'):Yl P e s o a s':=by
 have h1:=xOf_ok hR hx
 simp only[stepI]at h
 generalize hev:a.eval x=ax at h1
 split at h
 ·rename_i o' j e1
  rw[e1]at h1
  have h2:=h1
  cases h1
  exact yl (v:= .pointer (some _)) (fun w=>by simp[execOp,ho,hev]) h2 h
 ·rename_i o' p i j e1
  rw[e1]at h1
  have h2:=h1
  cases h1
  exact yl (v:= .pointer (some _)) (fun w=>by simp[execOp,ho,hev]) h2 h
 ·rename_i c e1
  rw[e1]at h1
  have h2:=h1
  cases h1 with
  |pim v cs hp=>
   obtain⟨b,off,rfl,_⟩:=hp
   exact yl (v:= .pointer (some _)) (fun w=>by simp[execOp,ho,hev]) h2 h
 ·cases h
theorem op_fn (hR:Rel fm e s a) {o:Oper} {f:Nat} {caps:Array Operand} {ts:List TypeId} {Xs:List X} (ho:o.op= .makeFunc (.func f) #[] caps)
  (hx:xsOf P ts caps.toList=some Xs) (h:stepI K md s o.dst (.fn f Xs)=some s'):Yl P e s o a s':=by
 obtain⟨h1,h2⟩:=xsOf_ok hR hx
 simp only[stepI]at h
 refine yl (v:= .func (.func f) #[] (caps.map a.eval)) (fun w=>by simp[execOp,ho,Instr.makeFunc]) ?_ h
 have:=AvOk.clo (e:=e) f _ _ h1 h2
 have he:caps.map a.eval=(caps.toList.map a.eval).toArray:=by
  apply Array.ext';simp
 rw[he];exact this
theorem len_ok (hR:Rel fm e s a) {x:AV} {v:Value} {n:Nat} (h1:AvOk e x v) (hn:lenA s.ob x=some n): ∃ad c,v= .slice ad n c:=by
 cases h1 with
 |nil k ad=>simp[lenA]at hn;subst hn;exact⟨_,_,rfl⟩
 |im v k rows hp=>
  simp[lenA]at hn;subst hn
  cases hp with
  |nil ad c k=>exact⟨_,_,rfl⟩
  |sl b off c k rows us _ _ _ _ _=>exact⟨_,_,rfl⟩
 |al v i0 k rows hv0 hp=>
  simp[lenA]at hn;subst hn
  cases hp with
  |nil ad c k=>exact⟨_,_,rfl⟩
  |sl b off c k rows us _ _ _ _ _=>exact⟨_,_,rfl⟩
 |ref o' p k rows hno=>
  simp[lenA,node_of hR,hno]at hn;subst hn
  obtain⟨ad,c,hv,_⟩:=hR.mem.node o' p k rows hno
  exact⟨_,_,hv⟩
 |vw o' p lo hi k rows v _ _ _ hw=>
  simp[lenA]at hn;subst hn
  obtain⟨_,_,_,a',c',_,rfl,_⟩:=hw
  exact⟨_,_,rfl⟩
 |_=>simp[lenA]at hn
theorem op_len (hR:Rel fm e s a) {o:Oper} {t el:TypeId} {x:Operand} {X:X} (ho:o.op= .call {callee:= .builtin .len,args:= #[x],argTypes:= #[t]})
  (ht:P.underlying t=some (.slice el)) {tx:TypeId} (hx:xOf P tx x=some X) (h:stepI K md s o.dst (.len X)=some s'):
  Yl P e s o a s':=by
 have h1:=xOf_ok hR hx
 simp only[stepI]at h
 split at h
 ·rename_i n hn
  obtain⟨ad,c,hb⟩:=len_ok hR h1 hn
  refine yl (v:= .int .i64 n) (fun w=> ?_) (.sc _ rfl) h
  simp[execOp,ho,hb,resolve,invoke,builtin,Builtin.len_,run_underlying' ht,goInt]
 ·cases h
theorem op_slen (hR:Rel fm e s a) {o:Oper} {t:TypeId} {x:Operand} {X:X} (ho:o.op= .call {callee:= .builtin .len,args:= #[x],argTypes:= #[t]})
  (ht:P.underlying t=some .string) {tx:TypeId} (hx:xOf P tx x=some X) (h:stepI K md s o.dst (.slen X)=some s'):
  Yl P e s o a s':=by
 have h1:=xOf_ok hR hx
 simp only[stepI]at h
 split at h
 ·rename_i b e1
  rw[e1]at h1
  obtain⟨g1,_⟩:=h1.sc_inv
  refine yl (v:= .int .i64 b.size) (fun w=> ?_) (.sc _ rfl) h
  simp[execOp,ho,g1,resolve,invoke,builtin,Builtin.len_,run_underlying' ht,goInt]
 ·cases h
theorem op_mm (hR:Rel fm e s a) {o:Oper} {mx:Bool} {t t2:TypeId} {x y:Operand} {X Y:Ow.X}
  (ho:o.op= .call {callee:= .builtin (if mx then .max else .min),args:= #[x,y],argTypes:= #[t,t2]})
  {tx ty:TypeId} (hx:xOf P tx x=some X) (hy:xOf P ty y=some Y) (h:stepI K md s o.dst (.mm mx X Y)=some s'):
  Yl P e s o a s':=by
 have h1:=xOf_ok hR hx
 have h2:=xOf_ok hR hy
 simp only[stepI]at h
 split at h
 ·rename_i k m k' n e1 e2
  rw[e1]at h1
  rw[e2]at h2
  obtain⟨g1,_⟩:=h1.sc_inv
  obtain⟨g2,_⟩:=h2.sc_inv
  cases mx
  ·exact yl (v:= .int k (if n<m then n else m)) (fun w=>by simp[execOp,ho,g1,g2,resolve,invoke,builtin,Builtin.min_,Builtin.min2]) (.sc _ rfl) h
  ·exact yl (v:= .int k (if m<n then n else m)) (fun w=>by simp[execOp,ho,g1,g2,resolve,invoke,builtin,Builtin.max_,Builtin.max2]) (.sc _ rfl) h
 ·cases h
end Go.Proofs.YtbolhfegdocpeaaGreat.Ow
namespace Go.Proofs.YtbolhfegdocpeaaGreat.Ow
open Go
variable {P:Program} {fm:Fm} {M:List Nat} {e:Env} {s s':St} {a:Act} {Q:Exit->Act->World->Prop}
variable {K:Nat->List Arg->Option Res} {md:Nat->List Nat}
theorem cells_some {α:Type} {l m:List α} {j n:Nat} (h:cells l j n=some m):j+n<=l.length/\m.length=n/\ ∀i,i<n->m[i]? =l[j+i]? :=by
 unfold cells at h
 split at h
 ·rename_i hle
  cases h
  refine⟨hle,by simp;omega,fun i hi=> ?_⟩
  rw[List.getElem?_take,if_pos hi,List.getElem?_drop]
 ·cases h
theorem load_row {w:World} {t:TypeId} {n:Nat} (ht:nOf P t=some (some n)) (b off:Nat) (us:Nat->Value) (h: ∀i,i<n->w.cell? ⟨b,off+i,none⟩=some (us i)):
  (Instr.loadAt t (.pointer (some ⟨b,off,none⟩))).run P w= .ok (.agg ((List.range n).map us).toArray) w:=by
 obtain⟨h1,h2⟩:=nOf_some ht w
 have:=run_loadCells (P:=P) w ⟨b,off,none⟩ n us (fun j hj=>by rw[addr_add];exact h j hj)
 simp[Instr.loadAt,Instr.sureAddr,loadVar,h1,h2,this]
theorem load_one {w:World} {t:TypeId} (ht:nOf P t=some none) (b off:Nat) (u:Value) (h:w.cell? ⟨b,off,none⟩=some u):
  (Instr.loadAt t (.pointer (some ⟨b,off,none⟩))).run P w= .ok u w:=by
 have h1:=nOf_none ht w
 simp[Instr.loadAt,Instr.sureAddr,loadVar,h1,h]
theorem agg_range {e:Env} (l:List AV) (us:Nat->Value) (h: ∀i x,l[i]? =some x->AvOk e x (us i)):AvOk e (.agg l) (.agg ((List.range l.length).map us).toArray):=by
 refine .agg l _ (by simp) (fun i x v hx hv=> ?_)
 have hi:i<l.length:=(List.getElem?_eq_some_iff.1 hx).1
 rw[List.getElem?_map,List.getElem?_range hi]at hv
 simp at hv
 subst hv
 exact h i x hx
theorem ofDs_get (o:Nat) (p:Path) (i:Nat): ∀ (l:List T) (j m:Nat),(ofDs o p i j l)[m]? =l[m]?.map (ofD o p i (j+m))
 |[],j,m=>by simp[ofDs]
 |d::l,j,0=>by simp[ofDs]
 |d::l,j,m+1=>by
  simp only[ofDs,List.getElem?_cons_succ]
  rw[ofDs_get o p i l (j+1) m]
  congr 2
  omega
theorem ofDs_len (o:Nat) (p:Path) (i:Nat): ∀ (l:List T) (j:Nat),(ofDs o p i j l).length=l.length
 |[],j=>rfl
 |d::l,j=>by simp[ofDs,ofDs_len o p i l]
theorem ofPTs_eq (l:List T):ofPTs l=l.map ofPT:=by
 induction l with
 |nil=>rfl
 |cons a l ih=>simp[ofPTs,ih]
theorem ofPT_ok {u:Value} {t:T} (h:POk e.w e.Im u t):AvOk e (ofPT t) u:=by
 cases h with
 |sc _ h=>exact .sc _ h
 |hole _ h=>exact .dead _ h
 |nil a c k=>exact .im _ _ _ (.nil a c k)
 |sl b off c k rows us him hle hk hc hs=>exact .im _ _ _ (.sl b off c k rows us him hle hk hc hs)
theorem node_cell (hM:Mem fm e) {o:Nat} {p:Path} {k b off n c:Nat} {rows:List (List T)} (hn:e.node o p=some (k,rows))
  (hh:e.hd o p= .slice (some ⟨b,off,none⟩) n c) (hc:0<c) {i j:Nat} {d:T} (hd:cellAt rows i j=some d):
  ∃u,e.w.cell? ⟨b,off+(i*k+j),none⟩=some u/\AvOk e (ofD o p i j d) u:=by
 obtain⟨ad,c',hv,_,hx⟩:=hM.node o p k rows hn
 rw[hh]at hv
 cases hv
 obtain⟨b',off',hb,_,_,hcell⟩:=hx hc
 cases hb
 obtain⟨u,hu,hok⟩:=hcell i j d hd
 refine⟨u,hu,?_⟩
 cases d with
 |sc v=>obtain⟨rfl,hs⟩:=hok;exact .sc _ hs
 |hole=>exact .dead _ hok
 |sl k' rows'=>
  simp only[CellOk]at hok
  subst hok
  refine .ref o (p++[(i,j)]) k' rows' ?_
  unfold Env.node at hn ⊢
  split at hn
  ·rename_i k0 rows0 he
   rw[nodeAt_append,hn]
   simp[nodeAt,hd]
  ·cases hn
theorem cellc {w w':World} {b j:Nat} (h:w'.heap[b]? =w.heap[b]?):w'.cell? ⟨b,j,none⟩=w.cell? ⟨b,j,none⟩:=by
 unfold World.cell?;rw[h]
theorem load_yl (hR:Rel fm e s a) {t:TypeId} {n:Option Nat} (ht:nOf P t=some n) {x y:AV} {v:Value} (hx:AvOk e x v) (h:loadA s.ob n x=some y):
  ∃u b off,v= .pointer (some ⟨b,off,none⟩)/\(∀w:World,w.heap[b]? =e.w.heap[b]? ->(Instr.loadAt t v).run P w= .ok u w)/\AvOk e y u:=by
 cases hx with
 |pb o j cs hb=>
  simp only[loadA,←hR.ob o,hb]at h
  cases n with
  |none=>
   simp only at h
   obtain⟨_,u,hu,hok⟩:=hR.mem.box o cs hb j y h
   exact⟨u,_,_,rfl,fun w hw=>load_one ht _ _ u (by rw[cellc hw];exact hu),hok⟩
  |some n=>
   simp only at h
   cases hc:cells cs j n with
   |none=>simp[hc]at h
   |some l=>
    simp[hc]at h
    subst h
    obtain⟨_,h2,h3⟩:=cells_some hc
    have key: ∀i x,l[i]? =some x-> ∃u,e.w.cell? ⟨e.bk o,j+i,none⟩=some u/\AvOk e x u:=fun i x hx=>by
     have hi:i<n:=h2 ▸ (List.getElem?_eq_some_iff.1 hx).1
     obtain⟨_,u,hu,hok⟩:=hR.mem.box o cs hb (j+i) x (by rw[←h3 i hi];exact hx)
     exact⟨u,hu,hok⟩
    refine⟨_,_,_,rfl,fun w hw=>load_row ht (e.bk o) j (fun i=>(e.w.cell? ⟨e.bk o,j+i,none⟩).getD undef) (fun i hi=> ?_),?_⟩
    ·obtain⟨u,hu,_⟩:=key i l[i] (List.getElem?_eq_getElem (by omega))
     rw[cellc hw,hu];rfl
    ·rw[←h2]
     refine agg_range l _ (fun i x hx=> ?_)
     obtain⟨u,hu,hok⟩:=key i x hx
     simp only[hu];exact hok
 |pa o p i j k b off n' c rows hn hh hc=>
  simp only[loadA,node_of hR,hn]at h
  split at h
  ·rename_i r hr
   cases n with
   |none=>
    simp only at h
    cases hd:r[j]? with
    |none=>simp[hd]at h
    |some d=>
     simp[hd]at h
     subst h
     obtain⟨u,hu,hok⟩:=node_cell hR.mem hn hh hc (i:=i) (j:=j) (d:=d) (by rw[cellAt_of hr];exact hd)
     exact⟨u,_,_,rfl,fun w hw=>load_one ht _ _ u (by rw[cellc hw];exact hu),hok⟩
   |some n=>
    simp only at h
    cases hcl:cells r j n with
    |none=>simp[hcl]at h
    |some l=>
     simp[hcl]at h
     subst h
     obtain⟨_,h2,h3⟩:=cells_some hcl
     have key: ∀m x,(ofDs o p i j l)[m]? =some x-> ∃u,e.w.cell? ⟨b,off+(i*k+j)+m,none⟩=some u/\AvOk e x u:=fun m x hx=>by
      rw[ofDs_get]at hx
      cases hm:l[m]? with
      |none=>simp[hm]at hx
      |some d=>
       simp[hm]at hx
       subst hx
       have hi:m<n:=h2 ▸ (List.getElem?_eq_some_iff.1 hm).1
       obtain⟨u,hu,hok⟩:=node_cell hR.mem hn hh hc (i:=i) (j:=j+m) (d:=d) (by rw[cellAt_of hr,←h3 m hi];exact hm)
       exact⟨u,by rw[←hu];congr 2;omega,hok⟩
     refine⟨_,_,_,rfl,fun w hw=>load_row ht b (off+(i*k+j)) (fun m=>(e.w.cell? ⟨b,off+(i*k+j)+m,none⟩).getD undef) (fun m hm=> ?_),?_⟩
     ·have hlt:m<(ofDs o p i j l).length:=by rw[ofDs_len];omega
      obtain⟨u,hu,_⟩:=key m (ofDs o p i j l)[m] (List.getElem?_eq_getElem hlt)
      rw[cellc hw,hu];rfl
     ·have hl:(ofDs o p i j l).length=n:=by rw[ofDs_len];exact h2
      rw[←hl]
      refine agg_range _ _ (fun m x hx=> ?_)
      obtain⟨u,hu,hok⟩:=key m x hx
      simp only[hu];exact hok
  ·cases h
 |pim v cs hp=>
  obtain⟨b,off,rfl,_,hc⟩:=hp
  cases n with
  |none=>
   simp only[loadA]at h
   cases hd:cs[0]? with
   |none=>simp[hd]at h
   |some t0=>
    simp[hd]at h
    subst h
    obtain⟨u,hu,hok⟩:=hc 0 t0 hd
    exact⟨u,_,_,rfl,fun w hw=>load_one ht b off u (by rw[cellc hw];simpa using hu),ofPT_ok hok⟩
  |some n=>
   simp only[loadA]at h
   cases hcl:cells cs 0 n with
   |none=>simp[hcl]at h
   |some l=>
    simp[hcl]at h
    subst h
    obtain⟨_,h2,h3⟩:=cells_some hcl
    have key: ∀m x,(ofPTs l)[m]? =some x-> ∃u,e.w.cell? ⟨b,off+m,none⟩=some u/\AvOk e x u:=fun m x hx=>by
     rw[ofPTs_eq,List.getElem?_map]at hx
     cases hm:l[m]? with
     |none=>simp[hm]at hx
     |some d=>
      simp[hm]at hx
      subst hx
      have hi:m<n:=h2 ▸ (List.getElem?_eq_some_iff.1 hm).1
      have:=h3 m hi
      rw[Nat.zero_add]at this
      obtain⟨u,hu,hok⟩:=hc m d (by rw[←this];exact hm)
      exact⟨u,hu,ofPT_ok hok⟩
    have hl:(ofPTs l).length=n:=by rw[ofPTs_eq];simpa using h2
    refine⟨_,_,_,rfl,fun w hw=>load_row ht b off (fun m=>(e.w.cell? ⟨b,off+m,none⟩).getD undef) (fun m hm=> ?_),?_⟩
    ·obtain⟨u,hu,_⟩:=key m (ofPTs l)[m] (List.getElem?_eq_getElem (by omega))
     rw[cellc hw,hu];rfl
    ·rw[←hl]
     refine agg_range _ _ (fun m x hx=> ?_)
     obtain⟨u,hu,hok⟩:=key m x hx
     simp only[hu];exact hok
 |_=>simp[loadA]at h
theorem load_ok (hR:Rel fm e s a) {t:TypeId} {n:Option Nat} (ht:nOf P t=some n) {x y:AV} {v:Value} (hx:AvOk e x v) (h:loadA s.ob n x=some y):
  ∃u,(Instr.loadAt t v).run P e.w= .ok u e.w/\AvOk e y u:=by
 obtain⟨u,b,off,_,h2,h3⟩:=load_yl (P:=P) hR ht hx h
 exact⟨u,h2 e.w rfl,h3⟩
def Ldl (P:Program) (e:Env) (s:St) (o:Oper) (a:Act) (s':St) (i:I):Prop:=
 ∃ (t:TypeId) (y:Operand) (n:Option Nat) (X:X) (v:Value) (x:AV) (b off:Nat),o.op= .load t y/\i= .load n X/\(∃tx,xOf P tx y=some X)/\a.eval y= .pointer (some ⟨b,off,none⟩)/\
  (∀w:World,w.heap[b]? =e.w.heap[b]? ->(execOp a.eval o).run P w= .ok (.value v) w)/\AvOk e x v/\s.put o.dst x=some s'
theorem Ldl.wp {o:Oper} {i:I} (h:Ldl P e s o a s' i) (hR:Rel fm e s a) (Q:Exit->Act->World->Prop):o.wp P a e.w (Reach fm e M s') Q:=by
 obtain⟨t,y,n,X,v,x,b,off,_,_,_,_,h1,h2,h3⟩:=h
 exact value_ok hR (h1 e.w rfl) h2 h3 Q
theorem op_load (hR:Rel fm e s a) {o:Oper} {t:TypeId} {n:Option Nat} {x:Operand} {X:X} (ho:o.op= .load t x) (ht:nOf P t=some n)
  {tx:TypeId} (hx:xOf P tx x=some X) (h:stepI K md s o.dst (.load n X)=some s'):Ldl P e s o a s' (.load n X):=by
 simp only[stepI]at h
 split at h
 ·rename_i v hv
  obtain⟨u,b,off,h0,h1,h2⟩:=load_yl (P:=P) hR ht (xOf_ok hR hx) hv
  exact⟨t,x,n,X,u,v,b,off,ho,rfl,⟨tx,hx⟩,h0,fun w hw=>by simp[execOp,ho,h1 w hw],h2,h⟩
 ·cases h
theorem off_ok {x y:AV} {v:Value} {n:Nat} (hx:AvOk e x v) (h:offA x n=some y): ∃b off,v= .pointer (some ⟨b,off,none⟩)/\AvOk e y (.pointer (some ⟨b,off+n,none⟩)):=by
 cases hx with
 |pb o j cs hb=>simp[offA]at h;subst h;exact⟨_,_,rfl,.pb o (j+n) cs hb⟩
 |pa o p i j k b off n' c rows hn hh hc=>
  simp[offA]at h;subst h
  refine⟨_,_,rfl,?_⟩
  rw[show off+(i*k+j)+n=off+(i*k+(j+n))by omega]
  exact .pa o p i (j+n) k b off n' c rows hn hh hc
 |pim v cs hp=>
  simp[offA]at h;subst h
  obtain⟨b,off,rfl,hb,hc⟩:=hp
  refine⟨b,off,rfl,.pim _ _ ⟨b,off+n,rfl,hb,fun j t ht=> ?_⟩⟩
  rw[List.getElem?_drop]at ht
  obtain⟨u,hu,hok⟩:=hc (n+j) t ht
  exact⟨u,by rw[←hu];congr 2;omega,hok⟩
 |_=>simp[offA]at h
theorem op_fa (hR:Rel fm e s a) {o:Oper} {t:TypeId} {f m:Nat} {x:Operand} {X:X} {fs:Array Field} {fd:Field} (ho:o.op= .fieldAddr t x f)
  (ht:P.underlying t=some (.struct fs)) (hf:fs.toList[f]? =some fd) (hm:szOf P fd.type=some (m+1)) {tx:TypeId} (hx:xOf P tx x=some X)
  (h:stepI K md s o.dst (.fa fd.offset X)=some s'):Yl P e s o a s':=by
 simp only[stepI]at h
 split at h
 ·rename_i v hv
  obtain⟨b,off,h1,h2⟩:=off_ok (xOf_ok hR hx) hv
  have hf':fs[f]? =some fd:=by simpa using hf
  refine yl (v:= .pointer (some ⟨b,off+fd.offset,none⟩)) (fun w=> ?_) h2 h
  simp[execOp,ho,Instr.fieldAt,run_underlying' ht,hf',h1,Instr.sureAddr,fieldPlace,szOf_run hm,addr_add]
 ·cases h
theorem nat_ok {x:AV} {v:Value} {n:Nat} (hx:AvOk e x v) (h:natOf x=some n): ∃k i,v= .int k i/\0<=i/\i.toNat=n:=by
 cases hx with
 |sc v hs=>
  cases v<;>simp[natOf]at h
  rename_i k i
  obtain⟨h1,h2⟩:=h
  exact⟨k,i,rfl,h1,h2⟩
 |_=>simp[natOf]at h
theorem idx_ok (hR:Rel fm e s a) {x y:AV} {v:Value} {k n:Nat} (hx:AvOk e x v) (h:idxA s.ob k x n=some y):
  ∃b off len c,v= .slice (some ⟨b,off,none⟩) len c/\n<len/\AvOk e y (.pointer (some ⟨b,off+n*k,none⟩)):=by
 cases hx with
 |im v k' rows hp=>
  simp only[idxA]at h
  split at h
  ·rename_i hk;subst hk
   cases hr:rows[n]? with
   |none=>simp[hr]at h
   |some r=>
    simp[hr]at h
    subst h
    have hn:n<rows.length:=(List.getElem?_eq_some_iff.1 hr).1
    cases hp with
    |nil a c k=>simp at hr
    |sl b off c k rows us him hle hk hc hs=>
     refine⟨b,off,_,c,rfl,hn,.pim _ _ ⟨b,off+n*k',rfl,him,fun j t ht=> ?_⟩⟩
     have hcell:cellAt rows n j=some t:=by rw[cellAt_of hr];exact ht
     exact⟨_,by rw[←hc n j t hcell];congr 2;omega,hs n j t hcell⟩
  ·cases h
 |al v i0 k' rows hv0 hp=>
  simp only[idxA]at h
  split at h
  ·rename_i hk;subst hk
   cases hr:rows[n]? with
   |none=>simp[hr]at h
   |some r=>
    simp[hr]at h
    subst h
    have hn:n<rows.length:=(List.getElem?_eq_some_iff.1 hr).1
    cases hp with
    |nil a c k=>simp at hr
    |sl b off c k rows us him hle hk hc hs=>
     refine⟨b,off,_,c,rfl,hn,.pim _ _ ⟨b,off+n*k',rfl,him,fun j t ht=> ?_⟩⟩
     have hcell:cellAt rows n j=some t:=by rw[cellAt_of hr];exact ht
     exact⟨_,by rw[←hc n j t hcell];congr 2;omega,hs n j t hcell⟩
  ·cases h
 |ref o p k' rows hn=>
  simp only[idxA,node_of hR,hn]at h
  split at h
  ·rename_i hk
   obtain⟨rfl,hlt⟩:=hk
   cases h
   obtain⟨ad,c,hv,hle,hx⟩:=hR.mem.node o p k' rows hn
   obtain⟨b,off,rfl,_⟩:=hx (by omega)
   refine⟨b,off,_,c,hv,hlt,?_⟩
   have:=AvOk.pa (e:=e) o p n 0 k' b off _ c rows hn hv (by omega)
   simpa using this
  ·cases h
 |vw o p lo hi k' rows v hn h1 h2 hw=>
  simp only[idxA,node_of hR,hn]at h
  split at h
  ·rename_i hk
   obtain⟨rfl,hlt,_⟩:=hk
   cases h
   obtain⟨ad,c,hv,hle,hx⟩:=hR.mem.node o p k' rows hn
   obtain⟨b,off,rfl,_⟩:=hx (by omega)
   obtain⟨a2,n2,c2,a',c',e1,rfl,e3,e4⟩:=hw
   rw[hv]at e1
   cases e1
   obtain⟨_,rfl⟩:=e4 (by omega)
   refine⟨b,off+lo*k',hi - lo,c',by simp[addr_add],by omega,?_⟩
   have:=AvOk.pa (e:=e) o p (lo+n) 0 k' b off _ c rows hn hv (by omega)
   rw[show off+lo*k'+n*k'=off+((lo+n)*k'+0)by rw[Nat.add_mul];omega]
   exact this
  ·cases h
 |_=>simp[idxA]at h
theorem op_ia (hR:Rel fm e s a) {o:Oper} {t el:TypeId} {k:Nat} {x i:Operand} {X Y:Ow.X} (ho:o.op= .indexAddr t x i)
  (ht:P.underlying t=some (.slice el)) (hk:szOf P el=some k) {tx ti:TypeId} (hx:xOf P tx x=some X) (hi:xOf P ti i=some Y)
  (h:stepI K md s o.dst (.ia k X Y)=some s'):Yl P e s o a s':=by
 simp only[stepI]at h
 split at h
 ·rename_i n hn
  split at h
  ·rename_i v hv
   obtain⟨ki,iv,g1,g2,g3⟩:=nat_ok (xOf_ok hR hi) hn
   obtain⟨b,off,len,c,h1,h2,h3⟩:=idx_ok hR (xOf_ok hR hx) hv
   refine yl (v:= .pointer (some ⟨b,off+n*k,none⟩)) (fun w=> ?_) h3 h
   have hlt:iv<(len:Int):=by omega
   simp[execOp,ho,Instr.indexAt,run_underlying' ht,h1,g1,asIntOf,g2,hlt,szOf_run hk,addr_add,g3]
  ·cases h
 ·cases h
theorem op_iaa (hR:Rel fm e s a) {o:Oper} {t el:TypeId} {len k:Nat} {x i:Operand} {X Y:Ow.X} (ho:o.op= .indexAddr t x i)
  (ht:P.underlying t=some (.array len el)) (hk:szOf P el=some k) {tx ti:TypeId} (hx:xOf P tx x=some X) (hi:xOf P ti i=some Y)
  (h:stepI K md s o.dst (.iaa len k X Y)=some s'):Yl P e s o a s':=by
 simp only[stepI]at h
 split at h
 ·rename_i n hn
  split at h
  ·rename_i hlt
   split at h
   ·rename_i v hv
    obtain⟨ki,iv,g1,g2,g3⟩:=nat_ok (xOf_ok hR hi) hn
    obtain⟨b,off,h1,h2⟩:=off_ok (xOf_ok hR hx) hv
    refine yl (v:= .pointer (some ⟨b,off+n*k,none⟩)) (fun w=> ?_) h2 h
    have hlt':iv<(len:Int):=by omega
    simp[execOp,ho,Instr.indexAt,run_underlying' ht,h1,g1,asIntOf,g2,hlt',szOf_run hk,addr_add,g3,Instr.sureAddr]
   ·cases h
  ·cases h
 ·cases h
theorem op_ixs (hR:Rel fm e s a) {o:Oper} {t:TypeId} {x i:Operand} {X Y:Ow.X} (ho:o.op= .index t x i)
  (ht:P.underlying t=some .string) {tx ti:TypeId} (hx:xOf P tx x=some X) (hi:xOf P ti i=some Y)
  (h:stepI K md s o.dst (.ixs X Y)=some s'):Yl P e s o a s':=by
 have h1:=xOf_ok hR hx
 simp only[stepI]at h
 split at h
 ·rename_i b n e1 hn
  rw[e1]at h1
  obtain⟨q1,_⟩:=h1.sc_inv
  obtain⟨ki,iv,g1,g2,g3⟩:=nat_ok (xOf_ok hR hi) hn
  split at h
  ·rename_i c hc
   refine yl (v:= .int .u8 c.toNat) (fun w=> ?_) (.sc _ rfl) h
   have hb:b[n]? =some c:=by
    rw[ByteArray.toList_eq]at hc
    have hlt:n<b.data.toList.length:=(List.getElem?_eq_some_iff.1 hc).1
    have hlt':n<b.size:=by simpa using hlt
    rw[getElem?_pos b n hlt']
    rw[List.getElem?_eq_getElem hlt]at hc
    rw[←hc]
    rfl
   simp[execOp,ho,Instr.index,run_underlying' ht,q1,g1,asIntOf,g2,g3,hb]
  ·cases h
 ·cases h
end Go.Proofs.YtbolhfegdocpeaaGreat.Ow
namespace Go.Proofs.YtbolhfegdocpeaaGreat.Ow
open Go
variable {P:Program} {fm:Fm} {M:List Nat} {e:Env} {s s':St} {a:Act} {Q:Exit->Act->World->Prop}
variable {K:Nat->List Arg->Option Res} {md:Nat->List Nat}
theorem addr_add_add (a:Addr) (m n:Nat):(a.add m).add n=a.add (m+n):=by
 unfold Addr.add
 by_cases h1:m=0
 ·subst h1;simp
 ·by_cases h2:n=0
  ·subst h2;simp[h1]
  ·have h3: ¬ (m+n=0):=by omega
   rw[if_neg h2,if_neg h1,if_neg h3]
   simp[Nat.add_assoc]
theorem optNat_ok (hR:Rel fm e s a) {t:TypeId} {x:Option Operand} {X:Option X} {n:Option Nat} (hx:ox P t x=some X) (h:optNat s.tm X=some n):
  (x=none/\n=none)\/ ∃op k i m,x=some op/\a.eval op= .int k i/\0<=i/\i.toNat=m/\n=some m:=by
 cases x with
 |none=>simp[ox]at hx;subst hx;simp[optNat]at h;exact .inl ⟨rfl,h.symm⟩
 |some op=>
  simp only[ox]at hx
  cases hxo:xOf P t op with
  |none=>simp[hxo]at hx
  |some Y=>
   simp[hxo]at hx
   subst hx
   simp only[optNat]at h
   cases hn:natOf (ev s.tm Y)with
   |none=>simp[hn]at h
   |some m=>
    simp[hn]at h
    obtain⟨k,i,h1,h2,h3⟩:=nat_ok (xOf_ok hR hxo) hn
    exact .inr ⟨op,k,i,m,rfl,h1,h2,h3,h.symm⟩
theorem bound_run {k:IntKind} {i:Int} {y:Nat} {code:BoundsCode} (h0:0<=i) (h:i.toNat<=y) (w:World):
  (Instr.sliceBound (.int k i) y code).run P w= .ok i.toNat w:=by
 have:i<=(y:Int):=by omega
 simp[Instr.sliceBound,asIntOf,h0,this]
theorem bounds_run (hR:Rel fm e s a) {t t':TypeId} {lo hi:Option Operand} {L H:Option X} {l h:Option Nat} (hl:ox P t lo=some L) (hh:ox P t' hi=some H)
  (el:optNat s.tm L=some l) (eh:optNat s.tm H=some h) (isS:Bool) (len cap:Nat) (h1:l.getD 0<=h.getD len) (h2:h.getD len<=cap) (w:World):
  (Instr.sliceBounds isS len cap (lo.map a.eval) (hi.map a.eval) none).run P w= .ok (l.getD 0,h.getD len,cap) w:=by
 rcases optNat_ok hR hl el with ⟨rfl,rfl⟩|⟨op,k,i,m,rfl,g1,g2,g3,rfl⟩<;>rcases optNat_ok hR hh eh with ⟨rfl,rfl⟩|⟨op',k',i',m',rfl,g1',g2',g3',rfl⟩
 ·simp[Instr.sliceBounds]
 ·simp only[Option.getD_some]at h1 h2
  simp[Instr.sliceBounds,g1',bound_run g2' (g3' ▸ h2),g3']
 ·simp only[Option.getD_some,Option.getD_none]at h1 h2
  simp[Instr.sliceBounds,g1,bound_run g2 (g3 ▸ h1),g3]
 ·simp only[Option.getD_some]at h1 h2
  simp[Instr.sliceBounds,g1,g1',bound_run g2' (g3' ▸ h2),g3',bound_run g2 (g3 ▸ h1),g3]
theorem slice_ok (hR:Rel fm e s a) {x y:AV} {v:Value} {k l:Nat} {h:Option Nat} (hx:AvOk e x v) (hs:sliceA s.ob k x l h=some y):
  ∃ad len cap,v= .slice ad len cap/\l<=h.getD len/\h.getD len<=len/\len<=cap/\
   AvOk e y (.slice (if cap=l then ad else ad.map (·.add (l*k))) (h.getD len - l) (cap - l)):=by
 cases hx with
 |nil k' ad=>
  simp only[sliceA]at hs
  split at hs
  ·rename_i hk
   obtain⟨rfl,rfl,hh⟩:=hk
   cases hs
   refine⟨ad,0,0,rfl,by simp,?_,Nat.le_refl _,?_⟩
   ·rcases hh with rfl|rfl<;>simp
   ·rcases hh with rfl|rfl<;>simp<;>exact .nil _ _
  ·cases hs
 |im v k' rows hp=>
  simp only[sliceA]at hs
  split at hs
  ·rename_i hk;subst hk
   have hv: ∃ad cap,v= .slice ad rows.length cap/\rows.length<=cap:=by
    cases hp with
    |nil ad c k=>exact⟨_,_,rfl,Nat.zero_le _⟩
    |sl b off c k rows us _ hle _ _ _=>exact⟨_,_,rfl,hle⟩
   obtain⟨ad,cap,rfl,hle⟩:=hv
   have key: ∀ (h':Nat),l<=h'->h'<=rows.length->AvOk e (.im k' ((rows.take h').drop l)) (.slice (if cap=l then ad else ad.map (·.add (l*k'))) (h' - l) (cap - l)):=by
    intro h' h1 h2
    exact .im _ _ _ (hp.window ⟨ad,_,cap,_,cap - l,rfl,rfl,by omega,fun h0=>⟨by omega,by rw[if_neg (by omega)]⟩⟩ h1 h2)
   refine⟨ad,rows.length,cap,rfl,?_⟩
   cases h with
   |none=>
    simp only at hs
    split at hs
    ·rename_i h1
     cases hs
     have:=key rows.length h1 (Nat.le_refl _)
     rw[List.take_length]at this
     exact⟨h1,Nat.le_refl _,hle,this⟩
    ·cases hs
   |some h'=>
    simp only at hs
    split at hs
    ·rename_i h1
     cases hs
     exact⟨h1.1,h1.2,hle,key _ h1.1 h1.2⟩
    ·cases hs
  ·cases hs
 |ref o p k' rows hn=>
  simp only[sliceA,node_of hR,hn]at hs
  split at hs
  ·rename_i hk;subst hk
   obtain⟨ad,c,hv,hle,hc⟩:=hR.mem.node o p k' rows hn
   have key: ∀ (h':Nat),l<=h'->h'<=rows.length->AvOk e (.vw o p l h') (.slice (if c=l then ad else ad.map (·.add (l*k'))) (h' - l) (c - l)):=by
    intro h' h1 h2
    refine .vw o p l h' k' rows _ hn h1 h2 ⟨ad,_,c,_,c - l,hv,rfl,by omega,fun h0=>⟨by omega,by rw[if_neg (by omega)]⟩⟩
   refine⟨ad,rows.length,c,hv,?_⟩
   cases h with
   |none=>
    simp only at hs
    split at hs
    ·rename_i h1
     cases hs
     exact⟨h1,Nat.le_refl _,hle,key _ h1 (Nat.le_refl _)⟩
    ·cases hs
   |some h'=>
    simp only at hs
    split at hs
    ·rename_i h1
     cases hs
     exact⟨h1.1,h1.2,hle,key _ h1.1 h1.2⟩
    ·cases hs
  ·cases hs
 |vw o p lo hi k' rows v hn h1 h2 hw=>
  simp only[sliceA,node_of hR,hn]at hs
  split at hs
  ·rename_i hk;subst hk
   obtain⟨a2,n2,c2,a',c',e1,rfl,e3,e4⟩:=hw
   have key: ∀ (h':Nat),l<=h'->lo+h'<=hi->AvOk e (.vw o p (lo+l) (lo+h')) (.slice (if c'=l then a' else a'.map (·.add (l*k'))) (h' - l) (c' - l)):=by
    intro h' g1 g2
    refine .vw o p (lo+l) (lo+h') k' rows _ hn (by omega) (by omega) ⟨a2,n2,c2,_,c' - l,e1,by rw[show lo+h' - (lo+l)=h' - l by omega],by omega,fun h0=> ?_⟩
    obtain⟨g3,rfl⟩:=e4 (by omega)
    refine⟨by omega,?_⟩
    rw[if_neg (by omega)]
    cases a2 with
    |none=>rfl
    |some ad=>
     simp only[Option.map_some]
     rw[addr_add_add,Nat.add_mul]
   refine⟨a',hi - lo,c',rfl,?_⟩
   cases h with
   |none=>
    simp only at hs
    split at hs
    ·rename_i g1
     cases hs
     refine⟨by simp;omega,Nat.le_refl _,e3,?_⟩
     have:=key (hi - lo) (by omega) (by omega)
     rwa [show lo+(hi - lo)=hi by omega]at this
    ·cases hs
   |some h'=>
    simp only at hs
    split at hs
    ·rename_i g1
     cases hs
     exact⟨g1.1,by simp;omega,e3,key _ g1.1 g1.2⟩
    ·cases hs
  ·cases hs
 |_=>simp[sliceA]at hs
theorem op_sl (hR:Rel fm e s a) {o:Oper} {t el:TypeId} {k:Nat} {x:Operand} {lo hi:Option Operand} {X:Ow.X} {L H:Option Ow.X} (ho:o.op= .slice t x lo hi none)
  (ht:P.underlying t=some (.slice el)) (hk:szOf P el=some k) {tx tl th:TypeId} (hx:xOf P tx x=some X) (hl:ox P tl lo=some L) (hh:ox P th hi=some H)
  (h:stepI K md s o.dst (.sl k X L H)=some s'):Yl P e s o a s':=by
 simp only[stepI]at h
 split at h
 ·rename_i l hn el' eh'
  split at h
  ·rename_i v hv
   obtain⟨ad,len,cap,g1,g2,g3,g4,g5⟩:=slice_ok hR (xOf_ok hR hx) hv
   have hb:=fun w=>bounds_run hR hl hh el' eh' true len cap g2 (by omega) w
   refine yl (fun w=> ?_) g5 h
   simp[execOp,ho,Instr.sliceAt,run_underlying' ht,g1,Instr.slice,hb,szOf_run hk]
  ·cases h
 ·cases h
theorem op_sl0 (hR:Rel fm e s a) {o:Oper} {t el:TypeId} {k:Nat} {x:Operand} {lo:Option Operand} {hi mx:Operand} {X:Ow.X} (ho:o.op= .slice t x lo (some hi) (some mx))
  (ht:P.underlying t=some (.slice el)) (hk:szOf P el=some k) (hlo:lo=none) (h1:isZero hi=true) (h2:isZero mx=true) {tx:TypeId} (hx:xOf P tx x=some X)
  (h:stepI K md s o.dst (.sl0 k X)=some s'):Yl P e s o a s':=by
 subst hlo
 simp only[stepI]at h
 split at h
 ·rename_i n hn
  obtain⟨ad,c,hb⟩:=len_ok hR (xOf_ok hR hx) hn
  have hz: ∀ {z:Operand},isZero z=true-> ∃k,a.eval z= .int k 0:=by
   intro z hz
   unfold isZero at hz
   split at hz
   ·exact⟨_,rfl⟩
   ·cases hz
  obtain⟨k1,e1⟩:=hz h1
  obtain⟨k2,e2⟩:=hz h2
  have b1: ∀ (w:World) (k:IntKind) (y:Nat) (code:BoundsCode),(Instr.sliceBound (.int k 0) y code).run P w= .ok 0 w:=fun w k y code=>by
   have:=bound_run (P:=P) (k:=k) (i:=0) (y:=y) (code:=code) (Int.le_refl _) (Nat.zero_le _) w
   simpa using this
  refine yl (v:= .slice ad 0 0) (fun w=> ?_) (.nil _ _) h
  simp[execOp,ho,Instr.sliceAt,run_underlying' ht,hb,Instr.slice,Instr.sliceBounds,e1,e2,b1,szOf_run hk]
 ·cases h
theorem op_sls (hR:Rel fm e s a) {o:Oper} {t:TypeId} {x:Operand} {lo hi:Option Operand} {X:Ow.X} {L H:Option Ow.X} (ho:o.op= .slice t x lo hi none)
  (ht:P.underlying t=some .string) {tx tl th:TypeId} (hx:xOf P tx x=some X) (hl:ox P tl lo=some L) (hh:ox P th hi=some H)
  (h:stepI K md s o.dst (.sls X L H)=some s'):Yl P e s o a s':=by
 have h1:=xOf_ok hR hx
 simp only[stepI]at h
 split at h
 ·rename_i b l hn e1 el' eh'
  rw[e1]at h1
  obtain⟨q1,_⟩:=h1.sc_inv
  split at h
  ·rename_i hc
   have hb:=fun w=>bounds_run hR hl hh el' eh' false b.size b.size hc.1 hc.2 w
   refine yl (v:= .string (b.extract (l.getD 0) (hn.getD b.size))) (fun w=> ?_) (.sc _ rfl) h
   simp[execOp,ho,Instr.sliceAt,run_underlying' ht,q1,Instr.slice,hb]
  ·cases h
 ·cases h
end Go.Proofs.YtbolhfegdocpeaaGreat.Ow
namespace Go.Proofs.YtbolhfegdocpeaaGreat.Ow
open Go
variable {P:Program} {fm:Fm} {M:List Nat} {e e':Env} {s s':St} {a:Act}
theorem cell_congr {w w':World} {b j:Nat} (h:w'.heap[b]? =w.heap[b]?):w'.cell? ⟨b,j,none⟩=w.cell? ⟨b,j,none⟩:=by
 unfold World.cell?;rw[h]
theorem frozen_congr {w w':World} {b j:Nat} (h:w'.heap[b]? =w.heap[b]?):w'.frozen? ⟨b,j,none⟩=w.frozen? ⟨b,j,none⟩:=by
 unfold World.frozen?;rw[h]
theorem Wr.congr {w w':World} {b j:Nat} (h:w'.heap[b]? =w.heap[b]?) (hw:Wr w b j):Wr w' b j:=by
 obtain⟨⟨u,h1⟩,h2⟩:=hw
 exact⟨⟨u,by rw[cell_congr h];exact h1⟩,by rw[frozen_congr h];exact h2⟩
theorem NodeOk.congr {w w':World} {v:Value} {k:Nat} {rows rows':List (List T)} {sub sub':Nat->Nat->Value} (h:NodeOk w v k rows sub) (hk:KinR rows rows')
  (hb: ∀b,blkOf v=some b->w'.heap[b]? =w.heap[b]?) (hs: ∀i j k1 r1,cellAt rows' i j=some (.sl k1 r1)->sub' i j=sub i j):NodeOk w' v k rows' sub':=by
 obtain⟨ad,c,rfl,hle,hx⟩:=h
 refine⟨ad,c,by rw[hk.len],by rw[hk.len];exact hle,fun hc=> ?_⟩
 obtain⟨b,off,rfl,h1,h2,h3⟩:=hx hc
 have hbb:=hb b (by simp[blkOf,hc])
 refine⟨b,off,rfl,fun x hx=>(h1 x hx).congr hbb,fun r hr=> ?_,fun i j d hd=> ?_⟩
 ·obtain⟨i,hi⟩:=List.mem_iff_getElem?.1 hr
  have hlt:i<rows.length:=by rw[←hk.len];exact(List.getElem?_eq_some_iff.1 hi).1
  obtain⟨y,hy,hl⟩:=hk.row i rows[i] (List.getElem?_eq_getElem hlt)
  rw[hi]at hy
  cases hy
  rw[hl]
  exact h2 _ (List.getElem_mem hlt)
 ·have hkin:=hk.cell i j
  rw[hd]at hkin
  cases hd0:cellAt rows i j with
  |none=>rw[hd0]at hkin;exact hkin.elim
  |some d0=>
   rw[hd0]at hkin
   obtain⟨u,hu,hok⟩:=h3 i j d0 hd0
   refine⟨u,by rw[cell_congr hbb];exact hu,?_⟩
   cases d0<;>cases d<;>simp only[Kin]at hkin
   ·subst hkin;exact hok
   ·simp only[CellOk]at hok ⊢
    rw[hs i j _ _ hd];exact hok
   ·exact hok
structure Asm (fm:Fm) (e e':Env) (src:Nat->Path->Option (Nat×Path)) (Fr:Nat->Prop):Prop where
 kept: ∀o' p' o p k rows',src o' p'=some (o,p)->e'.node o' p'=some (k,rows')-> ∃rows,e.node o p=some (k,rows)/\KinR rows rows'/\e'.hd o' p'=e.hd o p/\
  ∀i j k1 r1,cellAt rows' i j=some (.sl k1 r1)->e'.hd o' (p'++[(i,j)])=e.hd o (p++[(i,j)])
 keptw: ∀o' p' o p b,src o' p'=some (o,p)->(e'.node o' p').isSome->e.blk (.nd o p)=some b->e'.w.heap[b]? =e.w.heap[b]? /\ ¬e'.Im b/\ ¬Fr b
 inj: ∀o1 p1 o2 p2 x,src o1 p1=some x->src o2 p2=some x->(e'.node o1 p1).isSome->(e'.node o2 p2).isSome->o1=o2/\p1=p2
 new: ∀o' p' k rows',src o' p'=none->e'.node o' p'=some (k,rows')->NodeOk e'.w (e'.hd o' p') k rows' (fun i j=>e'.hd o' (p'++[(i,j)]))
 newb: ∀o' p' b,src o' p'=none->e'.blk (.nd o' p')=some b->Fr b/\ ∀o2 p2,src o2 p2=none->e'.blk (.nd o2 p2)=some b->o2=o'/\p2=p'
 fr: ∀b,Fr b->b<e'.w.heap.size/\(fm.w0.heap.size<=b\/fm.F b)/\ ¬e'.Im b
 box: ∀o cs,e'.ob o= .box cs->(∃cs0,e.ob o= .box cs0/\e'.bk o=e.bk o/\ ¬e'.Im (e.bk o)/\ ¬Fr (e.bk o))\/
  (Fr (e'.bk o)/\(∀o' p',src o' p'=none->e'.blk (.nd o' p')≠some (e'.bk o))/\ ∀o2 cs2,e'.ob o2= .box cs2->e'.bk o2=e'.bk o->o2=o)
 boxc: ∀o cs,e'.ob o= .box cs-> ∀ (j:Nat) c,cs[j]? =some c->Wr e'.w (e'.bk o) j/\ ∃u,e'.w.cell? ⟨e'.bk o,j,none⟩=some u/\AvOk e' c u
 size:e.w.heap.size<=e'.w.heap.size
theorem blk_nd {e:Env} {o:Nat} {p:Path} {b:Nat} (h:e.blk (.nd o p)=some b): ∃k rows,e.node o p=some (k,rows)/\blkOf (e.hd o p)=some b:=by
 simp only[Env.blk]at h
 split at h
 ·rename_i x hx
  obtain⟨k,rows⟩:=x
  exact⟨k,rows,hx,h⟩
 ·cases h
theorem blk_nd_of {e:Env} {o:Nat} {p:Path} {b k:Nat} {rows:List (List T)} (h:e.node o p=some (k,rows)) (hb:blkOf (e.hd o p)=some b):e.blk (.nd o p)=some b:=by
 simp only[Env.blk,h];exact hb
theorem blk_bx {e:Env} {o b:Nat} (h:e.blk (.bx o)=some b): ∃cs,e.ob o= .box cs/\e.bk o=b:=by
 simp only[Env.blk]at h
 split at h
 ·rename_i cs hcs
  cases h
  exact⟨cs,hcs,rfl⟩
 ·cases h
theorem blk_bx_of {e:Env} {o:Nat} {cs:List AV} (h:e.ob o= .box cs):e.blk (.bx o)=some (e.bk o):=by simp only[Env.blk,h]
theorem Mem.asm (hM:Mem fm e) {src:Nat->Path->Option (Nat×Path)} {Fr:Nat->Prop} (hA:Asm fm e e' src Fr)
  (him: ∀x,e'.Im x->x<e'.w.heap.size/\(x<fm.w0.heap.size->fm.I x\/fm.F x)) (him0: ∀x,fm.I x->e'.Im x) (hk:Keeps fm.w0 fm.F e'.w) (htk:e'.tk=e.tk:=by rfl):Mem fm e':=by
 have kb: ∀ {o' p' o p b},src o' p'=some (o,p)->e'.blk (.nd o' p')=some b->e.blk (.nd o p)=some b/\(e'.node o' p').isSome:=by
  intro o' p' o p b hs hb
  obtain⟨k,rows',hn,hb'⟩:=blk_nd hb
  obtain⟨rows,h1,_,h3,_⟩:=hA.kept o' p' o p k rows' hs hn
  exact⟨blk_nd_of h1 (h3 ▸ hb'),by rw[hn];rfl⟩
 refine⟨hA.boxc,fun o' p' k rows' hn=> ?_,fun l l' b h h'=> ?_,fun l b h=> ?_,him,him0,hk,htk.trans hM.tk⟩
 ·cases hs:src o' p' with
  |none=>exact hA.new o' p' k rows' hs hn
  |some x=>
   obtain⟨o,p⟩:=x
   obtain⟨rows,h1,h2,h3,h4⟩:=hA.kept o' p' o p k rows' hs hn
   have hold:=hM.node o p k rows h1
   rw[h3]
   refine hold.congr h2 (fun b hb=>(hA.keptw o' p' o p b hs (by rw[hn];rfl) (blk_nd_of h1 hb)).1) (fun i j k1 r1 hc=>h4 i j k1 r1 hc)
 ·cases l with
  |nd o1 p1=>
   cases l' with
   |nd o2 p2=>
    cases h1:src o1 p1 with
    |none=>
     cases h2:src o2 p2 with
     |none=>
      obtain⟨rfl,rfl⟩:=(hA.newb o1 p1 b h1 h).2 o2 p2 h2 h'
      rfl
     |some x=>
      obtain⟨hb,hn⟩:=kb h2 h'
      exact absurd (hA.newb o1 p1 b h1 h).1 (hA.keptw o2 p2 x.1 x.2 b h2 hn hb).2.2
    |some x=>
     obtain⟨hb,hn⟩:=kb h1 h
     cases h2:src o2 p2 with
     |none=>exact absurd (hA.newb o2 p2 b h2 h').1 (hA.keptw o1 p1 x.1 x.2 b h1 hn hb).2.2
     |some y=>
      obtain⟨hb',hn'⟩:=kb h2 h'
      have:=hM.inj _ _ b hb hb'
      have hxy:x=y:=by
       obtain⟨x1,x2⟩:=x;obtain⟨y1,y2⟩:=y
       simp only[Pl.nd.injEq]at this
       rw[this.1,this.2]
      subst hxy
      obtain⟨rfl,rfl⟩:=hA.inj o1 p1 o2 p2 x h1 h2 hn hn'
      rfl
   |bx o2=>
    obtain⟨cs,hcs,rfl⟩:=blk_bx h'
    rcases hA.box o2 cs hcs with ⟨cs0,g1,g2,g3,g4⟩|⟨g1,g2,g3⟩
    ·cases h1:src o1 p1 with
     |none=>exact absurd (hA.newb o1 p1 _ h1 h).1 (by rw[g2];exact g4)
     |some x=>
      obtain⟨hb,hn⟩:=kb h1 h
      have:=hM.inj _ _ _ hb (by rw[g2];exact blk_bx_of g1)
      cases this
    ·cases h1:src o1 p1 with
     |none=>exact absurd h (g2 o1 p1 h1)
     |some x=>
      obtain⟨hb,hn⟩:=kb h1 h
      exact absurd g1 (hA.keptw o1 p1 x.1 x.2 _ h1 hn hb).2.2
  |bx o1=>
   obtain⟨cs,hcs,rfl⟩:=blk_bx h
   cases l' with
   |nd o2 p2=>
    rcases hA.box o1 cs hcs with ⟨cs0,g1,g2,g3,g4⟩|⟨g1,g2,g3⟩
    ·cases h1:src o2 p2 with
     |none=>exact absurd (hA.newb o2 p2 _ h1 h').1 (by rw[g2];exact g4)
     |some x=>
      obtain⟨hb,hn⟩:=kb h1 h'
      have:=hM.inj _ _ _ (by rw[g2];exact blk_bx_of g1) hb
      cases this
    ·cases h1:src o2 p2 with
     |none=>exact absurd h' (g2 o2 p2 h1)
     |some x=>
      obtain⟨hb,hn⟩:=kb h1 h'
      exact absurd g1 (hA.keptw o2 p2 x.1 x.2 _ h1 hn hb).2.2
   |bx o2=>
    obtain⟨cs2,hcs2,h2⟩:=blk_bx h'
    rcases hA.box o1 cs hcs with ⟨cs0,g1,g2,g3,g4⟩|⟨g1,g2,g3⟩
    ·rcases hA.box o2 cs2 hcs2 with ⟨cs0',g1',g2',g3',g4'⟩|⟨g1',g2',g3'⟩
     ·have:=hM.inj (.bx o1) (.bx o2) _ (blk_bx_of g1) (by rw[←g2,←h2,g2'];exact blk_bx_of g1')
      cases this;rfl
     ·rw[h2,g2]at g1'
      exact absurd g1' g4
    ·have:=g3 o2 cs2 hcs2 h2
     rw[this]
 ·cases l with
  |nd o1 p1=>
   cases h1:src o1 p1 with
   |none=>exact hA.fr b (hA.newb o1 p1 b h1 h).1
   |some x=>
    obtain⟨hb,hn⟩:=kb h1 h
    obtain⟨q1,q2,q3⟩:=hM.own _ b hb
    exact⟨Nat.lt_of_lt_of_le q1 hA.size,q2,(hA.keptw o1 p1 x.1 x.2 b h1 hn hb).2.1⟩
  |bx o1=>
   obtain⟨cs,hcs,rfl⟩:=blk_bx h
   rcases hA.box o1 cs hcs with ⟨cs0,g1,g2,g3,g4⟩|⟨g1,g2,g3⟩
   ·obtain⟨q1,q2,q3⟩:=hM.own _ _ (blk_bx_of g1)
    rw[g2]
    exact⟨Nat.lt_of_lt_of_le q1 hA.size,q2,g3⟩
   ·exact hA.fr _ g1
end Go.Proofs.YtbolhfegdocpeaaGreat.Ow
namespace Go.Proofs.YtbolhfegdocpeaaGreat.Ow
open Go
variable {P:Program} {fm:Fm} {M:List Nat} {e e':Env} {s s':St} {a:Act} {Q:Exit->Act->World->Prop}
variable {K:Nat->List Arg->Option Res} {md:Nat->List Nat}
structure Grew (w w':World) (x:Go.Obj):Prop where
 heap:w'.heap=w.heap.push x
 os:w'.os=w.os
 tape:w'.tape=w.tape
 output:w'.output=w.output
theorem Grew.old {w w':World} {x:Go.Obj} (h:Grew w w' x) {b:Nat} (hb:b<w.heap.size):w'.heap[b]? =w.heap[b]? :=by
 rw[h.heap,Array.getElem?_push,if_neg (by omega)]
theorem Grew.at {w w':World} {x:Go.Obj} (h:Grew w w' x):w'.heap[w.heap.size]? =some x:=by
 rw[h.heap,Array.getElem?_push,if_pos rfl]
theorem Grew.size {w w':World} {x:Go.Obj} (h:Grew w w' x):w'.heap.size=w.heap.size+1:=by rw[h.heap];simp
theorem Keeps.grew {w w':World} {x:Go.Obj} (hk:Keeps fm.w0 fm.F w) (h:Grew w w' x):Keeps fm.w0 fm.F w':=
 ⟨h.os.trans hk.os,h.tape.trans hk.tape,h.output.trans hk.output,by rw[h.size];have:=hk.size;omega,
  fun k hk1 hk2=>(h.old (Nat.lt_of_lt_of_le hk1 hk.size)).trans (hk.block k hk1 hk2)⟩
def Free (arr:Array Value) (fr:Nat×Nat):Prop:= ∀j,j<arr.size-> ¬ (fr.1<=j/\j<fr.2)
theorem Grew.wr {w w':World} {arr:Array Value} {t:TypeId} {fr:Nat×Nat} (h:Grew w w' (.cells arr t fr)) (hf:Free arr fr) {j:Nat} (hj:j<arr.size):
  Wr w' w.heap.size j/\w'.cell? ⟨w.heap.size,j,none⟩=arr[j]? :=by
 have hc:w'.cell? ⟨w.heap.size,j,none⟩=arr[j]? :=by unfold World.cell?;rw[h.at];rfl
 refine⟨⟨⟨arr[j],by rw[hc];exact Array.getElem?_eq_getElem hj⟩,?_⟩,hc⟩
 have:=hf j hj
 unfold World.frozen?
 rw[h.at]
 simp only[Bool.and_eq_false_iff,decide_eq_false_iff_not]
 omega
def val:T->Value
 | .sc v=>v
 | .sl _ _=> .slice none 0 0
 | .hole=>undef
def Plain (rows:List (List T)):Prop:= ∀i j d,cellAt rows i j=some d->(∃v,d= .sc v/\isSc v=true)\/ ∃k,d= .sl k []
theorem new_some {o:Nat} {x:Obj} (h:s.new o x=some s'):getO s.ob o= .none/\s.m<=o/\s'=s.putO o x:=by
 unfold St.new at h
 split at h
 ·rename_i h0
  split at h
  ·rename_i hm;cases h;exact⟨h0,hm,rfl⟩
  ·cases h
 ·cases h
theorem node_congr {o:Nat} (h:e'.ob o=e.ob o) (p:Path):e'.node o p=e.node o p:=by
 unfold Env.node;rw[h]
theorem nodeAt_plain {k:Nat} {rows:List (List T)} (hp:Plain rows) {i j:Nat} {p:Path} {k':Nat} {r:List (List T)} (h:nodeAt k rows ((i,j)::p)=some (k',r)):
  p=[]/\r=[]:=by
 simp only[nodeAt]at h
 split at h
 ·rename_i k1 r1 hc
  rcases hp i j _ hc with ⟨v,hv,_⟩|⟨k2,hk⟩
  ·cases hv
  ·cases hk
   cases p with
   |nil=>simp[nodeAt]at h;exact⟨rfl,h.2⟩
   |cons b p=>obtain⟨i',j'⟩:=b;simp[nodeAt,cellAt]at h
 ·cases h
theorem Carry.grew {w':World} {x:Go.Obj} (hR:Rel fm e s a) (h:Grew e.w w' x) (hw:e'.w=w') (him:e'.Im=e.Im) (o:Nat) (h0:e.ob o= .none)
  (hob: ∀o',o'≠o->e'.ob o'=e.ob o') (hhd: ∀o',o'≠o->e'.hd o'=e.hd o') (hbk: ∀o',o'≠o->e'.bk o'=e.bk o') (htk:e'.tk=e.tk:=by rfl):Carry e e' fun o p=>some (o,p):=by
 have ne: ∀ {o'},e.ob o'≠ .none->o'≠o:=fun h1 h2=>h1 (h2 ▸ h0)
 refine⟨fun b hb=>⟨him ▸ hb,by rw[hw];exact h.old (hR.mem.im b hb).1⟩,fun o1 p k rows o' p' hn hf=> ?_,fun o1 cs hb=> ?_,fun o1 p k rows hn=>(hR.mem.node o1 p k rows hn).one,htk⟩
 ·cases hf
  have hne:o1≠o:=ne (fun h1=>by simp[Env.node,h1]at hn)
  exact⟨rows,by rw[node_congr (hob o1 hne)];exact hn,rfl,by rw[hhd o1 hne]⟩
 ·have hne:o1≠o:=ne (fun h1=>by rw[h1]at hb;cases hb)
  exact⟨cs,by rw[hob o1 hne];exact hb,hbk o1 hne⟩
def hdTop (v:Value):Path->Value
 |[]=>v
 |_::_=> .slice none 0 0
theorem new_arr (hR:Rel fm e s a) {w':World} {arr:Array Value} {t:TypeId} {fr:Nat×Nat} (hg:Grew e.w w' (.cells arr t fr)) (hf:Free arr fr)
  {o k c:Nat} {rows:List (List T)} (hs:s.new o (.arr k rows)=some s') (hp:Plain rows) (hk: ∀r∈rows,r.length=k) (hle:rows.length<=c) (hc:c*k<=arr.size)
  (hv: ∀i j d,cellAt rows i j=some d->arr[i*k+j]? =some (val d)):
  ∃e',e'.w=w'/\Rel fm e' s' a/\AvOk e' (.ref o []) (.slice (some ⟨e.w.heap.size,0,none⟩) rows.length c)/\(Carry e e' fun o p=>some (o,p))/\ ∀M,Evo e e' M:=by
 obtain⟨h0,hsm,rfl⟩:=new_some hs
 have h0':e.ob o= .none:=by rw[hR.ob];exact h0
 let e':Env:={w:=w',ob:=fun o'=>if o'=o then .arr k rows else e.ob o',hd:=fun o' p=>if o'=o then hdTop (.slice (some ⟨e.w.heap.size,0,none⟩) rows.length c) p else e.hd o' p,bk:=e.bk,Im:=e.Im,tk:=e.tk}
 have hob: ∀o',o'≠o->e'.ob o'=e.ob o':=fun o' h=>by simp[e',h]
 have hhd: ∀o',o'≠o->e'.hd o'=e.hd o':=fun o' h=>by funext p;simp[e',h]
 have hC:Carry e e' fun o p=>some (o,p):=Carry.grew hR hg rfl rfl o h0' hob hhd (fun _ _=>rfl)
 have hnode: ∀p,e'.node o p=nodeAt k rows p:=fun p=>by simp[Env.node,e']
 have hself:AvOk e' (.ref o []) (.slice (some ⟨e.w.heap.size,0,none⟩) rows.length c):=by
  have:=AvOk.ref (e:=e') o [] k rows (by rw[hnode];rfl)
  simpa[e',hdTop]using this
 have hpin: ∀o',o'<s.m->o'≠o:=fun o' h h2=>by omega
 refine⟨e',rfl,⟨?_,fun o'=> ?_,fun o' k' r' h1 h2=> ?_,fun o' cs h1 h2=> ?_,hR.size,hR.defers,fun t=>(hR.tm t).carry hC⟩,hself,hC,fun M=>⟨by simp only[e',hg.size];omega,fun b hb _=>hg.old hb⟩⟩
 case refine_3=>rw[hob o' (hpin o' h1)]at h2;rw[hhd o' (hpin o' h1)];exact hR.pinh o' k' r' h1 h2
 case refine_4=>rw[hob o' (hpin o' h1)]at h2;exact hR.pinb o' cs h1 h2
 ·have hA:Asm fm e e' (fun o' p=>if o'=o then none else some (o',p)) (fun b=>b=e.w.heap.size):=by
   refine⟨?_,?_,?_,?_,?_,?_,?_,?_,?_⟩
   ·intro o' p' o1 p1 k1 rows' h1 h2
    by_cases ho:o'=o
    ·simp[ho]at h1
    ·simp[ho]at h1
     obtain⟨rfl,rfl⟩:=h1
     rw[node_congr (hob o' ho)]at h2
     exact⟨rows',h2,KinR.refl _,by rw[hhd o' ho],fun i j k1 r1 _=>by rw[hhd o' ho]⟩
   ·intro o' p' o1 p1 b h1 _ hb
    obtain⟨q1,q2,q3⟩:=hR.mem.own _ b hb
    exact⟨hg.old q1,q3,fun h=>by omega⟩
   ·intro o1 p1 o2 p2 x h1 h2 _ _
    by_cases g1:o1=o<;>by_cases g2:o2=o<;>simp[g1,g2]at h1 h2
    rw[←h2]at h1
    simpa using h1
   ·intro o' p' k1 rows' h1 h2
    have ho:o'=o:=by
     by_cases ho:o'=o
     ·exact ho
     ·simp[ho]at h1
    subst ho
    rw[hnode]at h2
    cases p' with
    |nil=>
     simp[nodeAt]at h2
     obtain⟨rfl,rfl⟩:=h2
     refine⟨some ⟨e.w.heap.size,0,none⟩,c,by simp[e',hdTop],hle,fun hc0=>⟨_,_,rfl,fun x hx=> ?_,hk,fun i j d hd=> ?_⟩⟩
     ·rw[Nat.zero_add];exact(hg.wr hf (by omega)).1
     ·have harr:=hv i j d hd
      have hlt:i*k+j<arr.size:=(Array.getElem?_eq_some_iff.1 harr).1
      refine⟨val d,by rw[Nat.zero_add,(hg.wr hf hlt).2];exact harr,?_⟩
      rcases hp i j d hd with ⟨v,rfl,hs⟩|⟨k2,rfl⟩
      ·exact⟨rfl,hs⟩
      ·simp[CellOk,val,e',hdTop]
    |cons b p=>
     obtain⟨i,j⟩:=b
     obtain⟨rfl,rfl⟩:=nodeAt_plain hp h2
     exact⟨none,0,by simp[e',hdTop],Nat.le_refl _,fun h=>absurd h (by omega)⟩
   ·intro o' p' b h1 h2
    have ho:o'=o:=by
     by_cases ho:o'=o
     ·exact ho
     ·simp[ho]at h1
    subst ho
    have key: ∀p' b,e'.blk (.nd o' p')=some b->b=e.w.heap.size/\p'=[]:=by
     intro p' b hb
     obtain⟨k1,r1,hn,hb'⟩:=blk_nd hb
     cases p' with
     |nil=>simp[e',blkOf,hdTop]at hb';exact⟨hb'.2.symm,rfl⟩
     |cons _ _=>simp[e',blkOf,hdTop]at hb'
    refine⟨(key p' b h2).1,fun o2 p2 g1 g2=> ?_⟩
    have ho2:o2=o':=by
     by_cases ho:o2=o'
     ·exact ho
     ·simp[ho]at g1
    subst ho2
    exact⟨rfl,by rw[(key p2 b g2).2,(key p' b h2).2]⟩
   ·intro b hb
    subst hb
    refine⟨by simp[e',hg.size],.inl hR.mem.keeps.size,fun h=> ?_⟩
    have:=(hR.mem.im _ h).1
    omega
   ·intro o1 cs hb
    have hne:o1≠o:=fun h=>by simp[e',h]at hb
    rw[hob o1 hne]at hb
    obtain⟨q1,q2,q3⟩:=hR.mem.own _ _ (blk_bx_of hb)
    exact .inl ⟨cs,hb,rfl,q3,by omega⟩
   ·intro o1 cs hb j c hc
    have hne:o1≠o:=fun h=>by simp[e',h]at hb
    rw[hob o1 hne]at hb
    obtain⟨g1,u,g2,g3⟩:=hR.mem.box o1 cs hb j c hc
    obtain⟨q1,q2,q3⟩:=hR.mem.own _ _ (blk_bx_of hb)
    exact⟨g1.congr (hg.old q1),u,by rw[←g2];exact cell_congr (hg.old q1),g3.carry hC⟩
   ·simp only[e',hg.size];omega
  exact hR.mem.asm hA (fun x hx=>⟨by have:=(hR.mem.im x hx).1;simp only[e',hg.size];omega,(hR.mem.im x hx).2⟩) hR.mem.im0 (hR.mem.keeps.grew hg)
 ·rw[getO_putO]
  by_cases h:o'=o
  ·simp[e',h]
  ·simp[e',h,hR.ob]
theorem new_box (hR:Rel fm e s a) {w':World} {arr:Array Value} {t:TypeId} {fr:Nat×Nat} (hg:Grew e.w w' (.cells arr t fr)) (hf:Free arr fr)
  {o:Nat} {cs:List AV} (hs:s.new o (.box cs)=some s') (hc:cs.length=arr.size) (hv: ∀ (j:Nat) c u,cs[j]? =some c->arr[j]? =some u->AvOk e c u):
  ∃e',e'.w=w'/\Rel fm e' s' a/\AvOk e' (.pb o 0) (.pointer (some ⟨e.w.heap.size,0,none⟩))/\(Carry e e' fun o p=>some (o,p))/\ ∀M,Evo e e' M:=by
 obtain⟨h0,hsm,rfl⟩:=new_some hs
 have h0':e.ob o= .none:=by rw[hR.ob];exact h0
 let e':Env:={w:=w',ob:=fun o'=>if o'=o then .box cs else e.ob o',bk:=fun o'=>if o'=o then e.w.heap.size else e.bk o',Im:=e.Im,hd:=e.hd,tk:=e.tk}
 have hob: ∀o',o'≠o->e'.ob o'=e.ob o':=fun o' h=>by simp[e',h]
 have hbk: ∀o',o'≠o->e'.bk o'=e.bk o':=fun o' h=>by simp[e',h]
 have hC:Carry e e' fun o p=>some (o,p):=Carry.grew hR hg rfl rfl o h0' hob (fun _ _=>rfl) hbk
 have hnode: ∀p,e'.node o p=none:=fun p=>by simp[Env.node,e']
 have hpin: ∀o',o'<s.m->o'≠o:=fun o' h h2=>by omega
 refine⟨e',rfl,⟨?_,fun o'=> ?_,fun o' k' r' h1 h2=> ?_,fun o' cs h1 h2=> ?_,hR.size,hR.defers,fun t=>(hR.tm t).carry hC⟩,?_,hC,fun M=>⟨by simp only[e',hg.size];omega,fun b hb _=>hg.old hb⟩⟩
 case refine_3=>rw[hob o' (hpin o' h1)]at h2;exact hR.pinh o' k' r' h1 h2
 case refine_4=>rw[hob o' (hpin o' h1)]at h2;rw[hbk o' (hpin o' h1)];exact hR.pinb o' cs h1 h2
 ·have hA:Asm fm e e' (fun o' p=>some (o',p)) (fun b=>b=e.w.heap.size):=by
   refine⟨?_,?_,?_,?_,?_,?_,?_,?_,?_⟩
   ·intro o' p' o1 p1 k1 rows' h1 h2
    cases h1
    have ho:o'≠o:=fun h=>by rw[h,hnode]at h2;cases h2
    rw[node_congr (hob o' ho)]at h2
    exact⟨rows',h2,KinR.refl _,rfl,fun _ _ _ _ _=>rfl⟩
   ·intro o' p' o1 p1 b h1 _ hb
    obtain⟨q1,q2,q3⟩:=hR.mem.own _ b hb
    exact⟨hg.old q1,q3,fun h=>by omega⟩
   ·intro o1 p1 o2 p2 x h1 h2 _ _
    rw[←h2]at h1
    simpa using h1
   ·intro o' p' k1 rows' h1 h2;cases h1
   ·intro o' p' b h1;cases h1
   ·intro b hb
    subst hb
    refine⟨by simp[e',hg.size],.inl hR.mem.keeps.size,fun h=> ?_⟩
    have:=(hR.mem.im _ h).1
    omega
   ·intro o1 cs1 hb
    by_cases hne:o1=o
    ·subst hne
     refine .inr ⟨by simp[e'],fun o' p' h=>(by cases h),fun o2 cs2 hb2 h2=> ?_⟩
     by_cases g:o2=o1
     ·exact g
     ·rw[hob o2 g]at hb2
      rw[hbk o2 g]at h2
      have:=(hR.mem.own _ _ (blk_bx_of hb2)).1
      simp[e']at h2
      omega
    ·rw[hob o1 hne]at hb
     obtain⟨q1,q2,q3⟩:=hR.mem.own _ _ (blk_bx_of hb)
     exact .inl ⟨cs1,hb,hbk o1 hne,q3,by omega⟩
   ·intro o1 cs1 hb j c hcj
    by_cases hne:o1=o
    ·subst hne
     simp[e']at hb
     subst hb
     have hj:j<arr.size:=by rw[←hc];exact(List.getElem?_eq_some_iff.1 hcj).1
     obtain⟨g1,g2⟩:=hg.wr hf hj
     refine⟨by simpa[e']using g1,arr[j],?_,(hv j c _ hcj (Array.getElem?_eq_getElem hj)).carry hC⟩
     simp only[e',if_true]
     rw[g2];exact Array.getElem?_eq_getElem hj
    ·rw[hob o1 hne]at hb
     obtain⟨g1,u,g2,g3⟩:=hR.mem.box o1 cs1 hb j c hcj
     obtain⟨q1,q2,q3⟩:=hR.mem.own _ _ (blk_bx_of hb)
     rw[hbk o1 hne]
     exact⟨g1.congr (hg.old q1),u,by rw[←g2];exact cell_congr (hg.old q1),g3.carry hC⟩
   ·simp only[e',hg.size];omega
  exact hR.mem.asm hA (fun x hx=>⟨by have:=(hR.mem.im x hx).1;simp only[e',hg.size];omega,(hR.mem.im x hx).2⟩) hR.mem.im0 (hR.mem.keeps.grew hg)
 ·rw[getO_putO]
  by_cases h:o'=o
  ·simp[e',h]
  ·simp[e',h,hR.ob]
 ·have:=AvOk.pb (e:=e') o 0 cs (by simp[e'])
  simpa[e']using this
end Go.Proofs.YtbolhfegdocpeaaGreat.Ow
namespace Go.Proofs.YtbolhfegdocpeaaGreat.Ow
open Go
variable {P:Program} {fm:Fm} {M:List Nat} {e e':Env} {s s':St} {a:Act} {Q:Exit->Act->World->Prop}
variable {K:Nat->List Arg->Option Res} {md:Nat->List Nat}
theorem free0 (arr:Array Value):Free arr (0,0):=fun j _ h=>by have:=h.2;simp at this
theorem value_ok' {e:Env} {w':World} (he:e'.w=w') (hR:Rel fm e' s a) (hE:Evo e e' M) {o:Oper} {w:World} {x:AV} {v:Value} (hrun:(execOp a.eval o).run P w= .ok (.value v) w')
  (hv:AvOk e' x v) (h:s.put o.dst x=some s'):o.wp P a w (Reach fm e M s') Q:=by
 unfold Oper.wp
 rw[hrun,Oper.upon_value]
 exact⟨e',he,hR.put hv h,hE⟩
theorem sc_cells {v:Value} (h:isSc v=true):v.cells= #[v]:=by
 cases v<;>first|rfl|(simp[isSc]at h)
theorem boxable_cells (hM:Mem fm e) {x:AV} {v:Value} (h:AvOk e x v) (hb:boxable x=true):
  ∃vs:List Value,v.cells=vs.toArray/\(rowAV x).length=vs.length/\ ∀ (j:Nat) c u,(rowAV x)[j]? =some c->vs[j]? =some u->AvOk e c u:=by
 have one: ∀ {x:AV} {v:Value},AvOk e x v->v.cells= #[v]->rowAV x=[x]->
   ∃vs:List Value,v.cells=vs.toArray/\(rowAV x).length=vs.length/\ ∀ (j:Nat) c u,(rowAV x)[j]? =some c->vs[j]? =some u->AvOk e c u:=by
  intro x v hx h1 h2
  refine⟨[v],h1,by rw[h2];rfl,fun j c u hc hu=> ?_⟩
  rw[h2]at hc
  cases j with
  |zero=>simp at hc hu;subst hc;subst hu;exact hx
  |succ j=>simp at hc
 have h':=h
 cases h with
 |non v=>simp[boxable]at hb
 |dead v hd=>refine one h' ?_ rfl;cases v<;>first|rfl|(simp[Value.oneCell']at hd)
 |und=>simp[boxable]at hb
 |sc v hs=>exact one h' (sc_cells hs) rfl
 |nil k ad=>exact one h' rfl rfl
 |im v k rows hp=>refine one h' ?_ rfl;cases hp<;>rfl
 |al v i k rows hv0 hp=>refine one h' ?_ rfl;cases hp<;>rfl
 |ref o p k rows hn=>
  refine one h' ?_ rfl
  obtain⟨ad,c,hv,_⟩:=hM.node o p k rows hn
  rw[hv];rfl
 |vw o p lo hi k rows v hn h1 h2 hw=>refine one h' ?_ rfl;obtain⟨_,_,_,_,_,_,rfl,_⟩:=hw;rfl
 |pb o j cs hb=>exact one h' rfl rfl
 |pa o p i j k b off n c rows hn hh hc=>exact one h' rfl rfl
 |pim v cs hp=>refine one h' ?_ rfl;obtain⟨_,_,rfl,_⟩:=hp;rfl
 |agg l vs hl hh=>exact⟨vs,rfl,hl,fun j c u hc hu=>hh j c u hc hu⟩
 |tup l vs hl hh=>simp[boxable]at hb
 |clo f l vs hl hh=>exact one h' rfl rfl
theorem run_newRow (t:TypeId) (cs:Array Value) (w:World):(newRow t cs).run P w= .ok ⟨w.heap.size,0,none⟩ {w with heap:=w.heap.push (.cells cs t (0,0))}:=by
 simp[newRow]
theorem grew_push (w:World) (x:Go.Obj):Grew w {w with heap:=w.heap.push x} x:=⟨rfl,rfl,rfl,rfl⟩
theorem op_box (hR:Rel fm e s a) {o:Oper} {t:TypeId} {b:Nat} {x:Operand} {X:Ow.X} (ho:o.op= .box t x) {tx:TypeId} (hx:xOf P tx x=some X)
  (h:stepI K md s o.dst (.box b X)=some s'):o.wp P a e.w (Reach fm e M s') Q:=by
 simp only[stepI]at h
 split at h
 ·rename_i hb
  split at h
  ·rename_i s1 hs
   obtain⟨vs,g1,g2,g3⟩:=boxable_cells hR.mem (xOf_ok hR hx) hb
   obtain⟨e',r1,r2,r3,_,r5⟩:=new_box hR (grew_push e.w (.cells vs.toArray t (0,0))) (free0 _) hs (by simpa using g2) (fun j c u hc hu=>g3 j c u hc (by simpa using hu))
   refine value_ok' r1 r2 (r5 M) ?_ r3 h
   simp[execOp,ho,Instr.box,newVar,run_newRow,g1]
  ·cases h
 ·cases h
theorem const1_inv {t:TypeId} {v:Value} {x:AV} (h:const1 P t v=some x):(∃k,x= .nil k/\v= .slice none 0 0)\/(x= .sc v/\isSc v=true)\/ ∃f,x= .clo f []:=by
 unfold const1 at h
 split at h
 ·split at h
  ·rename_i el _
   cases hk:szOf P el with
   |none=>simp[hk]at h
   |some k=>simp[hk]at h;exact .inl ⟨k,h.symm,rfl⟩
  ·cases h
 ·split at h
  ·cases h;exact .inr (.inr ⟨_,rfl⟩)
  ·cases h
 ·split at h
  ·cases h;exact .inr (.inl ⟨rfl,by assumption⟩)
  ·cases h
theorem const1s_get: ∀ {ts:List TypeId} {vs:List Value} {l:List AV},const1s P ts vs=some l->l.length=vs.length/\
  ∀ (j:Nat) c,l[j]? =some c-> ∃t v,vs[j]? =some v/\const1 P t v=some c
 |[],[],l,h=>by simp[const1s]at h;subst h;exact⟨rfl,fun j c h=>by simp at h⟩
 |t::ts,v::vs,l,h=>by
  simp only[const1s]at h
  split at h
  ·rename_i x m hx hm
   simp at h;subst h
   obtain⟨h1,h2⟩:=const1s_get hm
   refine⟨by simp[h1],fun j c hc=> ?_⟩
   cases j with
   |zero=>simp at hc;subst hc;exact⟨t,v,rfl,hx⟩
   |succ j=>simp at hc;simpa using h2 j c hc
  ·cases h
 |[],_::_,l,h=>by simp[const1s]at h
 |_::_,[],l,h=>by simp[const1s]at h
theorem zeroOf_ok {t:TypeId} {cs:List AV} (h:zeroOf P t=some cs): ∃i z,P.info? t=some i/\i.zero=some z/\cs.length=z.cells.size/\
  ∀ (j:Nat) c,cs[j]? =some c-> ∃u v,z.cells[j]? =some v/\const1 P u v=some c:=by
 unfold zeroOf at h
 cases hi:P.info? t with
 |none=>simp[hi]at h
 |some i=>
  cases hz:i.zero with
  |none=>simp[hi,hz]at h
  |some z=>
   simp only[hi,Option.bind_some,hz]at h
   refine⟨i,z,rfl,hz,?_⟩
   cases hc:constA P t z with
   |none=>simp[hc]at h
   |some x=>
    simp[hc]at h
    subst h
    unfold constA at hc
    split at hc
    ·rename_i cs
     split at hc
     ·rename_i ts _
      cases hm:const1s P ts cs.toList with
      |none=>simp[hm]at hc
      |some l=>
       simp[hm]at hc
       subst hc
       obtain⟨h1,h2⟩:=const1s_get hm
       refine⟨by simpa[rowAV,Value.cells]using h1,fun j c hj=> ?_⟩
       obtain⟨u,v,g1,g2⟩:=h2 j c hj
       exact⟨u,v,by simpa[Value.cells]using g1,g2⟩
     ·cases hc
    ·rename_i hna
     have hcell:z.cells= #[z]/\rowAV x=[x]:=by
      rcases const1_inv hc with ⟨k,rfl,rfl⟩|⟨rfl,hs⟩|⟨f,rfl⟩
      ·exact⟨rfl,rfl⟩
      ·exact⟨sc_cells hs,rfl⟩
      ·refine⟨?_,rfl⟩
       cases z<;>first
        |rfl
        |(exact absurd rfl (hna _))
        |(simp[const1,isSc]at hc)
     rw[hcell.1,hcell.2]
     refine⟨rfl,fun j c hj=> ?_⟩
     cases j with
     |zero=>simp at hj;subst hj;exact⟨t,z,rfl,hc⟩
     |succ j=>simp at hj
theorem zeroD_get : ∀ {cs : List AV} {ds : List T}, zeroD cs = some ds -> ds.length = cs.length /\
    ∀ (j : Nat) d, ds[j]? = some d -> (∃ v, d = .sc v /\ cs[j]? = some (.sc v)) \/ ∃ k, d = .sl k [] /\ cs[j]? = some (.nil k)
  | [], ds, h => by simp [zeroD] at h; subst h; exact ⟨rfl, fun j d h => by simp at h⟩
  | c :: cs, ds, h => by
    unfold zeroD at h
    cases c <;> simp only at h <;> first
      | (cases h; done)
      | (rename_i v
         cases hm : zeroD cs with
         | none => simp [hm] at h
         | some m =>
           simp [hm] at h
           subst h
           obtain ⟨h1, h2⟩ := zeroD_get hm
           refine ⟨by simp [h1], fun j d hd => ?_⟩
           cases j with
           | zero => simp at hd; subst hd; simp
           | succ j => simp at hd; simpa using h2 j d hd)
theorem op_new (hR:Rel fm e s a) {o:Oper} {t:TypeId} {b:Nat} {zs:List AV} (ho:o.op= .alloc t) (hz:zeroOf P t=some zs)
  (h:stepI K md s o.dst (.new b zs)=some s'):o.wp P a e.w (Reach fm e M s') Q:=by
 simp only[stepI]at h
 split at h
 ·rename_i s1 hs
  obtain⟨i,z,g1,g2,g3,g4⟩:=zeroOf_ok hz
  obtain⟨e',r1,r2,r3,_,r5⟩:=new_box hR (grew_push e.w (.cells z.cells t (0,0))) (free0 _) hs g3 (fun j c u hc hu=>by
   obtain⟨u',v,q1,q2⟩:=g4 j c hc
   rw[hu]at q1
   cases q1
   exact const1_ok q2)
  refine value_ok' r1 r2 (r5 M) ?_ r3 h
  simp[execOp,ho,Instr.alloc,zeroValue,typeInfo,g1,g2,newVar,run_newRow]
 ·cases h
theorem zeroRow_ok {t:TypeId} {ds:List T} (h:(zeroOf P t).bind zeroD=some ds): ∃i z,P.info? t=some i/\i.zero=some z/\ds.length=z.cells.size/\
  ∀ (j:Nat) d,ds[j]? =some d->z.cells[j]? =some (val d)/\((∃v,d= .sc v/\isSc v=true)\/ ∃k,d= .sl k []):=by
 cases hz:zeroOf P t with
 |none=>simp[hz]at h
 |some cs=>
  simp only[hz,Option.bind_some]at h
  obtain⟨i,z,g1,g2,g3,g4⟩:=zeroOf_ok hz
  obtain⟨h1,h2⟩:=zeroD_get h
  refine⟨i,z,g1,g2,h1.trans g3,fun j d hd=> ?_⟩
  rcases h2 j d hd with ⟨v,rfl,hc⟩|⟨k,rfl,hc⟩
  ·obtain⟨u,v',q1,q2⟩:=g4 j _ hc
   rcases const1_inv q2 with ⟨k,hk,_⟩|⟨hv,hs⟩|⟨f,hf⟩
   ·cases hk
   ·cases hv;exact⟨q1,.inl ⟨v,rfl,hs⟩⟩
   ·cases hf
  ·obtain⟨u,v',q1,q2⟩:=g4 j _ hc
   rcases const1_inv q2 with ⟨k',hk,rfl⟩|⟨hv,hs⟩|⟨f,hf⟩
   ·cases hk;exact⟨q1,.inr ⟨k,rfl⟩⟩
   ·cases hv
   ·cases hf
theorem sameX_ok {x y:Operand} (h:sameX x y=true) {k:IntKind} {i:Int} (hx:a.eval x= .int k i): ∃k',a.eval y= .int k' i:=by
 unfold sameX at h
 split at h
 ·simp at h;subst h;exact⟨k,hx⟩
 ·simp at h
  subst h
  simp[Act.eval]at hx
  exact⟨_,by simp[Act.eval,hx.2];rfl⟩
 ·cases h
theorem op_mk (hR:Rel fm e s a) {o:Oper} {t el:TypeId} {b k bytes:Nat} {zs:List T} {x y:Operand} {X:Ow.X} (ho:o.op= .makeSlice t x y)
  (ht:P.underlying t=some (.slice el)) (hk:szOf P el=some k) (hz:(zeroOf P el).bind zeroD=some zs) (hb:bytesOfT P el=some bytes) (hxy:sameX x y=true)
  {tx:TypeId} (hx:xOf P tx x=some X) (h:stepI K md s o.dst (.mk b k zs bytes X)=some s'):o.wp P a e.w (Reach fm e M s') Q:=by
 simp only[stepI]at h
 split at h
 ·rename_i n hn
  split at h
  ·rename_i hc
   obtain⟨hc1,hc2,hc3⟩:=hc
   split at h
   ·rename_i s1 hs
    obtain⟨ki,iv,g1,g2,g3⟩:=nat_ok (xOf_ok hR hx) hn
    obtain⟨ki',g1'⟩:=sameX_ok hxy g1
    obtain⟨i,z,z1,z2,z3,z4⟩:=zeroRow_ok hz
    have hbt:i.bytes=bytes:=by unfold bytesOfT at hb;simpa[z1]using hb
    have hst:i.size=k:=by unfold szOf at hk;simpa[z1]using hk
    have hzs:z.cells.size=k:=by rw[←z3];exact hc3
    have hn1:n<=n*bytes:=Nat.le_mul_of_pos_right n hc2
    have hiv:iv=(n:Int):=by omega
    have hw:IntKind.i64.wrap iv=iv:=by rw[IntKind.wrap_i64];omega
    have harr: ∀m,m<n*k->((Array.range (n*k)).map (fun m=>z.cells[m%z.cells.size]!))[m]? =some (z.cells[m%z.cells.size]!):=fun m hm=>by
     simp[hm]
    have hcell: ∀i' j d,cellAt (List.replicate n zs) i' j=some d->i'<n/\j<k/\zs[j]? =some d:=by
     intro i' j d hd
     obtain⟨r,hr,hj⟩:=cellAt_some hd
     rw[List.getElem?_replicate]at hr
     split at hr
     ·rename_i hlt
      cases hr
      exact⟨hlt,by rw[←hc3];exact(List.getElem?_eq_some_iff.1 hj).1,hj⟩
     ·cases hr
    obtain⟨e',r1,r2,r3,_,r5⟩:=new_arr (c:=n) hR (grew_push e.w (.cells ((Array.range (n*k)).map (fun m=>z.cells[m%z.cells.size]!)) el (0,0))) (free0 _) hs
     (fun i' j d hd=>(z4 j d (hcell i' j d hd).2.2).2) (fun r hr=>by rw[(List.mem_replicate.1 hr).2];exact hc3) (Nat.le_of_eq List.length_replicate) (Nat.le_of_eq (by rw[Array.size_map,Array.size_range]))
     (fun i' j d hd=>by
      obtain⟨q1,q2,q3⟩:=hcell i' j d hd
      have hlt:i'*k+j<n*k:=by
       have:(i'+1)*k<=n*k:=Nat.mul_le_mul_right _ q1
       rw[Nat.add_mul]at this
       omega
      rw[harr _ hlt,hzs]
      have hm:(i'*k+j)%k=j:=by
       rw[Nat.add_comm,Nat.add_mul_mod_self_right];exact Nat.mod_eq_of_lt q2
      rw[hm]
      have:=(z4 j d q3).1
      rw[getElem!_def]
      rw[this])
    simp only[List.length_replicate]at r3
    refine value_ok' r1 r2 (r5 M) ?_ r3 h
    have hle: ¬ (281474976710656<(bytes:Int)*(n:Int)):=by
     have:((n*bytes:Nat):Int)<=((35184372088832:Nat):Int):=Int.ofNat_le.2 hc1
     rw[Int.natCast_mul,Int.mul_comm]at this
     omega
    have h0: ¬ ((n:Int)<0):=by omega
    subst hiv
    simp only[Int.toNat_natCast]at g3
    have hr0:Array.range 0= #[]:=rfl
    by_cases hnk:n*k=0
    ·rw[hnk]
     simp[execOp,ho,hr0,Instr.makeSlice,run_underlying' ht,g1,g1',asInt,asIntOf,typeInfo,z1,hbt,hw,hle,h0,sizeOf,hst,hnk,run_newRow]
    ·simp[execOp,ho,Instr.makeSlice,run_underlying' ht,g1,g1',asInt,asIntOf,typeInfo,z1,hbt,hw,hle,h0,sizeOf,hst,hnk,zeroValue,z2,run_newRow]
   ·cases h
  ·cases h
 ·cases h
end Go.Proofs.YtbolhfegdocpeaaGreat.Ow
namespace Go.Proofs.YtbolhfegdocpeaaGreat.Ow
open Go
variable {P:Program} {fm:Fm} {M:List Nat} {e e':Env} {s s':St} {a:Act} {Q:Exit->Act->World->Prop}
variable {K:Nat->List Arg->Option Res} {md:Nat->List Nat}
structure Stored (w w':World) (b off:Nat) (vs:List Value):Prop where
 os:w'.os=w.os
 tape:w'.tape=w.tape
 output:w'.output=w.output
 size:w'.heap.size=w.heap.size
 other: ∀x,x≠b->w'.heap[x]? =w.heap[x]?
 cell: ∀j,w'.cell? ⟨b,j,none⟩=if off<=j/\j<off+vs.length then(if(w.cell? ⟨b,j,none⟩).isSome then vs[j - off]? else none)else w.cell? ⟨b,j,none⟩
 frozen: ∀j,w'.frozen? ⟨b,j,none⟩=w.frozen? ⟨b,j,none⟩
theorem Stored.wr {w w':World} {b off:Nat} {vs:List Value} (h:Stored w w' b off vs) {j:Nat} (hw:Wr w b j):Wr w' b j:=by
 obtain⟨⟨u,h1⟩,h2⟩:=hw
 refine⟨?_,by rw[h.frozen];exact h2⟩
 rw[h.cell j,h1]
 by_cases hc:off<=j/\j<off+vs.length
 ·rw[if_pos hc]
  simp only[Option.isSome_some,if_true]
  exact⟨vs[j - off]'(by omega),List.getElem?_eq_getElem (by omega)⟩
 ·rw[if_neg hc];exact⟨u,rfl⟩
theorem Stored.new {w w':World} {b off:Nat} {vs:List Value} (h:Stored w w' b off vs) {i:Nat} {v:Value} (hi:vs[i]? =some v) (hw:Wr w b (off+i)):
  w'.cell? ⟨b,off+i,none⟩=some v:=by
 obtain⟨⟨u,h1⟩,h2⟩:=hw
 have hlt:i<vs.length:=(List.getElem?_eq_some_iff.1 hi).1
 rw[h.cell,h1,if_pos (by omega)]
 simp[hi]
theorem Stored.same {w w':World} {b off:Nat} {vs:List Value} (h:Stored w w' b off vs) {j:Nat} (hj: ¬ (off<=j/\j<off+vs.length)):
  w'.cell? ⟨b,j,none⟩=w.cell? ⟨b,j,none⟩:=by rw[h.cell,if_neg hj]
theorem Keeps.stored {w w':World} {b off:Nat} {vs:List Value} (hk:Keeps fm.w0 fm.F w) (h:Stored w w' b off vs) (hb:fm.w0.heap.size<=b\/fm.F b):Keeps fm.w0 fm.F w':=
 ⟨h.os.trans hk.os,h.tape.trans hk.tape,h.output.trans hk.output,by rw[h.size];exact hk.size,fun k hk1 hk2=>by
  have:k≠b:=fun e=>by subst e;rcases hb with hb|hb;omega;exact hk2 hb
  rw[h.other k this];exact hk.block k hk1 hk2⟩
theorem setCell_stored {w:World} {b j:Nat} {v:Value} (hw:Wr w b j):Stored w (w.setCell ⟨b,j,none⟩ v) b j [v]:=by
 obtain⟨⟨u,h1⟩,h2⟩:=hw
 have hcells: ∃c t fr,w.heap[b]? =some (.cells c t fr)/\j<c.size:=by
  unfold World.cell? at h1
  split at h1
  ·rename_i c t fr hh
   simp only[Option.isSome_none,Bool.false_eq_true,if_false]at h1
   exact⟨c,t,fr,hh,(Array.getElem?_eq_some_iff.1 h1).1⟩
  ·cases h1
 obtain⟨c,t,fr,hh,hj⟩:=hcells
 have hnew:(w.setCell ⟨b,j,none⟩ v).heap[b]? =some (.cells (c.setIfInBounds j v) t fr):=by
  simp[World.setCell,Array.getElem?_modify,hh]
 refine⟨rfl,rfl,rfl,by simp[World.setCell],fun x hx=> ?_,fun i=> ?_,fun i=> ?_⟩
 ·simp only[World.setCell,Array.getElem?_modify]
  rw[if_neg (fun e=>hx e.symm)]
 ·unfold World.cell?
  simp only[hnew,hh,Option.isSome_none,Bool.false_eq_true,if_false,List.length_singleton]
  by_cases hi:j<=i/\i<j+1
  ·have:i=j:=by omega
   subst this
   simp[hj]
  ·rw[if_neg hi,Array.getElem?_setIfInBounds_ne (by omega)]
 ·unfold World.frozen?
  rw[hnew,hh]
theorem Stored.nil (w:World) (b off:Nat):Stored w w b off []:=
 ⟨rfl,rfl,rfl,rfl,fun _ _=>rfl,fun j=>by rw[if_neg (by simp)],fun _=>rfl⟩
theorem Stored.cons {w w1 w2:World} {b off:Nat} {v:Value} {vs:List Value} (h1:Stored w w1 b off [v]) (h2:Stored w1 w2 b (off+1) vs):Stored w w2 b off (v::vs):=by
 refine⟨h2.os.trans h1.os,h2.tape.trans h1.tape,h2.output.trans h1.output,h2.size.trans h1.size,fun x hx=>(h2.other x hx).trans (h1.other x hx),fun j=> ?_,fun j=>(h2.frozen j).trans (h1.frozen j)⟩
 rw[h2.cell,h1.cell]
 simp only[List.length_cons,List.length_nil,Nat.zero_add]
 by_cases c1:off+1<=j/\j<off+1+vs.length
 ·rw[if_pos c1,if_neg (show ¬ (off<=j/\j<off+1)by omega),if_pos (show off<=j/\j<off+(vs.length+1)by omega)]
  rw[show j - off=(j - (off+1))+1 by omega,List.getElem?_cons_succ]
 ·rw[if_neg c1]
  by_cases c2:off<=j/\j<off+1
  ·rw[if_pos c2,if_pos (show off<=j/\j<off+(vs.length+1)by omega),show j - off=0 by omega]
   simp
  ·rw[if_neg c2,if_neg (show ¬ (off<=j/\j<off+(vs.length+1))by omega)]
theorem storeCells_run: ∀ (vs:List Value) (w:World) (b off i:Nat),(∀j,j<vs.length->Wr w b (off+i+j))->(∀v∈vs,v.oneCell'=true)->
  ∃w',(storeCells ⟨b,off,none⟩ vs i).run P w= .ok () w'/\Stored w w' b (off+i) vs
 |[],w,b,off,i,_,_=>⟨w,rfl,Stored.nil w b _⟩
 |v::vs,w,b,off,i,hw,hv=>by
  have h0:=hw 0 (by simp)
  rw[Nat.add_zero]at h0
  have hst:=setCell_stored (v:=v) h0
  obtain⟨w',h1,h2⟩:=storeCells_run vs (w.setCell ⟨b,off+i,none⟩ v) b off (i+1) (fun j hj=>by
   have:=hst.wr (hw (j+1) (by simp;omega))
   rwa [show off+i+(j+1)=off+(i+1)+j by omega]at this) (fun x hx=>hv x (List.mem_cons_of_mem _ hx))
  refine⟨w',?_,hst.cons (by rw[show off+i+1=off+(i+1)by omega];exact h2)⟩
  obtain⟨⟨u,hu⟩,hf⟩:=h0
  simp only[storeCells,Sem.run_bind,run_store P w _ v _ (hv v (List.mem_cons_self)),addr_add,hu,hf,Bool.false_eq_true,if_false,Result.andThen_ok,h1]
theorem cells_one (hM:Mem fm e) {x:AV} {v:Value} (h:AvOk e x v) (hb:oneCell x=true):v.cells= #[v]/\v.oneCell'=true:=by
 have key: ∀ {v:Value},v.oneCell'=true->v.cells= #[v]:=fun {v} h=>by cases v<;>first|rfl|(simp[Value.oneCell']at h)
 have:v.oneCell'=true:=by
  cases h with
  |non v=>simp[oneCell]at hb
  |dead v h=>exact h
  |und=>simp[oneCell]at hb
  |sc v hs=>cases v<;>first|rfl|(simp[isSc]at hs)
  |nil k ad=>rfl
  |im v k rows hp=>cases hp<;>rfl
  |al v i k rows hv0 hp=>cases hp<;>rfl
  |ref o p k rows hn=>exact(hM.node o p k rows hn).one
  |vw o p lo hi k rows v hn h1 h2 hw=>obtain⟨_,_,_,_,_,_,rfl,_⟩:=hw;rfl
  |pb o j cs hb=>rfl
  |pa o p i j k b off n c rows hn hh hc=>rfl
  |pim v cs hp=>obtain⟨_,_,rfl,_⟩:=hp;rfl
  |agg l vs hl hh=>simp[oneCell]at hb
  |tup l vs hl hh=>simp[oneCell]at hb
  |clo f l vs hl hh=>rfl
 exact⟨key this,this⟩
theorem cells_all (hM:Mem fm e) {l:List AV} {vs:List Value} (hl:l.length=vs.length) (hh: ∀ (i:Nat) (a:AV) (v:Value),l[i]? =some a->vs[i]? =some v->AvOk e a v)
  (hb:l.all oneCell=true): ∀v∈vs,v.oneCell'=true:=by
 intro v hv
 obtain⟨i,hi⟩:=List.mem_iff_getElem?.1 hv
 have hlt:i<l.length:=by rw[hl];exact(List.getElem?_eq_some_iff.1 hi).1
 have hx:l[i]? =some l[i]:=List.getElem?_eq_getElem hlt
 exact(cells_one hM (hh i _ v hx hi) (List.all_eq_true.1 hb _ (List.getElem_mem hlt))).2
theorem setRow_get {α:Type} (r:List α) (j:Nat) (ds:List α) (hj:j+ds.length<=r.length) (i:Nat):
  (setRow r j ds)[i]? =if j<=i/\i<j+ds.length then ds[i - j]? else r[i]? :=by
 unfold setRow
 rw[List.getElem?_append,List.getElem?_append,List.length_append,List.length_take]
 have hm:min j r.length=j:=by omega
 rw[hm,List.getElem?_take,List.getElem?_drop]
 by_cases c1:i<j
 ·rw[if_pos (show i<j+ds.length by omega),if_pos c1,if_pos c1,if_neg (show ¬ (j<=i/\i<j+ds.length)by omega)]
 ·by_cases c2:i<j+ds.length
  ·rw[if_pos c2,if_neg c1,if_pos (show j<=i/\i<j+ds.length by omega)]
  ·rw[if_neg c2,if_neg (show ¬ (j<=i/\i<j+ds.length)by omega)]
   congr 1
   omega
theorem setRow_len {α:Type} (r:List α) (j:Nat) (ds:List α) (hj:j+ds.length<=r.length):(setRow r j ds).length=r.length:=by
 unfold setRow;simp;omega
theorem store_box (hR:Rel fm e s a) {o j:Nat} {cs l:List AV} {vs:List Value} (ho:e.ob o= .box cs) (hj:j+l.length<=cs.length) (hl:l.length=vs.length)
  (hh: ∀ (i:Nat) (a:AV) (v:Value),l[i]? =some a->vs[i]? =some v->AvOk e a v) {w':World} (hst:Stored e.w w' (e.bk o) j vs):
  ∃e',e'.w=w'/\Rel fm e' (s.putO o (.box (setRow cs j l))) a/\ ∀M,o∈M->Evo e e' M:=by
 let e':Env:={w:=w',ob:=fun o'=>if o'=o then .box (setRow cs j l)else e.ob o',hd:=e.hd,bk:=e.bk,Im:=e.Im,tk:=e.tk}
 have hob: ∀o',o'≠o->e'.ob o'=e.ob o':=fun o' h=>by simp[e',h]
 obtain⟨q1,q2,q3⟩:=hR.mem.own _ _ (blk_bx_of ho)
 have hnb: ∀ {b},e.Im b->b≠e.bk o:=fun h1 h2=>q3 (h2 ▸ h1)
 have hnode: ∀o' p,e'.node o' p=e.node o' p:=fun o' p=>by
  by_cases h:o'=o
  ·subst h;simp[Env.node,e',ho]
  ·exact node_congr (hob o' h) p
 have hC:Carry e e' fun o p=>some (o,p):=by
  refine⟨fun b hb=>⟨hb,hst.other b (hnb hb)⟩,fun o1 p k rows o' p' hn hf=> ?_,fun o1 cs1 hb=> ?_,fun o1 p k rows hn=>(hR.mem.node o1 p k rows hn).one,rfl⟩
  ·cases hf;exact⟨rows,by rw[hnode];exact hn,rfl,rfl⟩
  ·by_cases h:o1=o
   ·subst h;exact⟨setRow cs j l,by simp[e'],rfl⟩
   ·exact⟨cs1,by rw[hob o1 h];exact hb,rfl⟩
 refine⟨e',rfl,⟨?_,fun o'=> ?_,fun o' k' r' h1 h2=> ?_,fun o' cs' h1 h2=> ?_,hR.size,hR.defers,fun t=>(hR.tm t).carry hC⟩,fun M hM=>⟨by simp only[e',hst.size];omega,fun b hb hl=>hst.other b (fun h=>hl (.bx o) (h ▸ blk_bx_of ho) hM)⟩⟩
 case refine_3=>
  by_cases h:o'=o
  ·subst h;simp[e']at h2
  ·rw[hob o' h]at h2;exact hR.pinh o' k' r' h1 h2
 case refine_4=>
  by_cases h:o'=o
  ·subst h;exact hR.pinb o' cs h1 ho
  ·rw[hob o' h]at h2;exact hR.pinb o' cs' h1 h2
 ·have hA:Asm fm e e' (fun o' p=>some (o',p)) (fun _=>False):=by
   refine⟨?_,?_,?_,?_,?_,?_,?_,?_,?_⟩
   ·intro o' p' o1 p1 k1 rows' h1 h2
    cases h1
    rw[hnode]at h2
    exact⟨rows',h2,KinR.refl _,rfl,fun _ _ _ _ _=>rfl⟩
   ·intro o' p' o1 p1 b h1 _ hb
    obtain⟨_,_,g3⟩:=hR.mem.own _ b hb
    refine⟨hst.other b (fun h=> ?_),g3,fun h=>h⟩
    have:=hR.mem.inj _ _ _ hb (h ▸ blk_bx_of ho)
    cases this
   ·intro o1 p1 o2 p2 x h1 h2 _ _
    rw[←h2]at h1
    simpa using h1
   ·intro o' p' k1 rows' h1 h2;cases h1
   ·intro o' p' b h1;cases h1
   ·intro b hb;cases hb
   ·intro o1 cs1 hb
    by_cases h:o1=o
    ·subst h;exact .inl ⟨cs,ho,rfl,q3,fun h=>h⟩
    ·rw[hob o1 h]at hb
     exact .inl ⟨cs1,hb,rfl,(hR.mem.own _ _ (blk_bx_of hb)).2.2,fun h=>h⟩
   ·intro o1 cs1 hb i c hc
    by_cases h:o1=o
    ·subst h
     simp[e']at hb
     subst hb
     rw[setRow_get cs j l hj]at hc
     by_cases hi:j<=i/\i<j+l.length
     ·rw[if_pos hi]at hc
      have hlt:i - j<vs.length:=by omega
      have hv:vs[i - j]? =some vs[i - j]:=List.getElem?_eq_getElem hlt
      have hlt2:i<cs.length:=by omega
      obtain⟨g1,u,g2,g3⟩:=hR.mem.box o1 cs ho i cs[i] (List.getElem?_eq_getElem hlt2)
      refine⟨hst.wr g1,vs[i - j],?_,(hh (i - j) c _ hc hv).carry hC⟩
      have:=hst.new hv (by rw[show j+(i - j)=i by omega];exact g1)
      rwa [show j+(i - j)=i by omega]at this
     ·rw[if_neg hi]at hc
      obtain⟨g1,u,g2,g3⟩:=hR.mem.box o1 cs ho i c hc
      exact⟨hst.wr g1,u,by simp only[e'];rw[hst.same (by omega)];exact g2,g3.carry hC⟩
    ·rw[hob o1 h]at hb
     obtain⟨g1,u,g2,g3⟩:=hR.mem.box o1 cs1 hb i c hc
     have hne:e.bk o1≠e.bk o:=fun h2=>h (by
      have:=hR.mem.inj (.bx o1) (.bx o) _ (blk_bx_of hb) (h2 ▸ blk_bx_of ho)
      cases this;rfl)
     exact⟨g1.congr (hst.other _ hne),u,by rw[←g2];exact cell_congr (hst.other _ hne),g3.carry hC⟩
   ·simp only[e',hst.size];exact Nat.le_refl _
  exact hR.mem.asm hA (fun x hx=>⟨by have:=(hR.mem.im x hx).1;simp only[e',hst.size];exact this,(hR.mem.im x hx).2⟩) hR.mem.im0 (hR.mem.keeps.stored hst q2)
 ·rw[getO_putO]
  by_cases h:o'=o
  ·simp[e',h]
  ·simp[e',h,hR.ob]
end Go.Proofs.YtbolhfegdocpeaaGreat.Ow
namespace Go.Proofs.YtbolhfegdocpeaaGreat.Ow
open Go
variable {P:Program} {fm:Fm} {M:List Nat} {e e':Env} {s s':St} {a:Act} {Q:Exit->Act->World->Prop}
theorem subL_id (l:List AV):subL (fun o p=>some (o,p)) l=l:=by
 induction l with
 |nil=>rfl
 |cons a l ih=>simp only[subL,ih,AV.sub_id _ (fun _ _=>rfl)]
theorem subT_id (l:List (Nat×AV)):subT (fun o p=>some (o,p)) l=l:=by
 induction l with
 |nil=>rfl
 |cons a l ih=>obtain⟨t,a⟩:=a;simp only[subT,ih,AV.sub_id _ (fun _ _=>rfl)]
theorem Obj.sub_id (x:Obj):x.sub (fun o p=>some (o,p))=x:=by
 cases x<;>simp only[Obj.sub,subL_id]
theorem subO_id (l:List (Nat×Obj)):subO (fun o p=>some (o,p)) l=l:=by
 induction l with
 |nil=>rfl
 |cons a l ih=>obtain⟨t,a⟩:=a;simp only[subO,ih,Obj.sub_id]
theorem St.sub_id (s:St):s.sub (fun o p=>some (o,p))=s:=by
 unfold St.sub;rw[subT_id,subO_id]
theorem getO_sub (s:St) (f:Nat->Path->Option (Nat×Path)) (o:Nat):getO (s.sub f).ob o=(getO s.ob o).sub f:=getO_subO f s.ob o
theorem getT_sub (s:St) (f:Nat->Path->Option (Nat×Path)) (t:Nat):getT (s.sub f).tm t=(getT s.tm t).sub f:=getT_subT f s.tm t
theorem Obj.sub_arr {x:Obj} {f:Nat->Path->Option (Nat×Path)} {k:Nat} {rows:List (List T)}:x.sub f= .arr k rows<->x= .arr k rows:=by
 cases x<;>simp[Obj.sub]
theorem Obj.sub_box {x:Obj} {f:Nat->Path->Option (Nat×Path)} {cs:List AV}:x.sub f= .box cs<-> ∃cs0,x= .box cs0/\cs=subL f cs0:=by
 cases x<;>simp[Obj.sub,eq_comm]
theorem node_subO {ob:Nat->Obj} {f:Nat->Path->Option (Nat×Path)} {o:Nat} {p:Path}:
  (match (ob o).sub f with
   | .arr k rows=>nodeAt k rows p
   |_=>none)=(match ob o with
   | .arr k rows=>nodeAt k rows p
   |_=>none):=by
 cases h:ob o<;>simp[Obj.sub]
theorem node_at {e:Env} {o k0:Nat} {rows0:List (List T)} (h:e.ob o= .arr k0 rows0) (p:Path):e.node o p=nodeAt k0 rows0 p:=by
 unfold Env.node;rw[h]
theorem node_arr {e:Env} {o k:Nat} {p:Path} {rows:List (List T)} (h:e.node o p=some (k,rows)): ∃k0 rows0,e.ob o= .arr k0 rows0/\nodeAt k0 rows0 p=some (k,rows):=by
 unfold Env.node at h
 split at h
 ·rename_i k0 rows0 he;exact⟨k0,rows0,he,h⟩
 ·cases h
theorem nodeAt_below {k:Nat} {rows rows':List (List T)} (hsub: ∀i j k1 r1,cellAt rows' i j=some (.sl k1 r1)->cellAt rows i j=some (.sl k1 r1))
  {b:Nat×Nat} {q:Path} {x:Nat×List (List T)} (h:nodeAt k rows' (b::q)=some x):nodeAt k rows (b::q)=some x:=by
 obtain⟨i,j⟩:=b
 simp only[nodeAt]at h ⊢
 split at h
 ·rename_i k' r' hc
  rw[hsub i j k' r' hc];exact h
 ·cases h
theorem Alike.some_r {x:Option (Nat×List (List T))} {k:Nat} {r:List (List T)} (h:Alike x (some (k,r))): ∃r0,x=some (k,r0)/\KinR r0 r:=by
 cases x with
 |none=>exact h.elim
 |some y=>obtain⟨k',r'⟩:=y;obtain⟨rfl,h2⟩:=h;exact⟨r',rfl,h2⟩
theorem Alike.some_l {y:Option (Nat×List (List T))} {k:Nat} {r:List (List T)} (h:Alike (some (k,r)) y): ∃r1,y=some (k,r1)/\KinR r r1:=by
 cases y with
 |none=>exact h.elim
 |some y=>obtain⟨k',r'⟩:=y;obtain⟨rfl,h2⟩:=h;exact⟨r',rfl,h2⟩
def SetF (o:Nat) (p:Path) (rows rows':List (List T)) (f:Nat->Path->Option (Nat×Path)):Prop:=
 ((f=fun o p=>some (o,p))/\ ∀i j k1 r1,cellAt rows i j=some (.sl k1 r1)->cellAt rows' i j=some (.sl k1 r1))\/f=belowF o p
theorem SetF.fix {o:Nat} {p:Path} {rows rows':List (List T)} {f:Nat->Path->Option (Nat×Path)} (h:SetF o p rows rows' f) {o1 o':Nat} {p1 p':Path} (hf:f o1 p1=some (o',p')):
  o'=o1/\p'=p1:=by
 rcases h with ⟨rfl,_⟩|rfl
 ·cases hf;exact⟨rfl,rfl⟩
 ·unfold belowF at hf
  split at hf
  ·split at hf
   ·cases hf
   ·cases hf;exact⟨rfl,rfl⟩
  ·cases hf;exact⟨rfl,rfl⟩
theorem set_node (hR:Rel fm e s a) {o k k0:Nat} {p:Path} {rows rows0 rows' rows1:List (List T)} (h0:e.ob o= .arr k0 rows0) (hn:nodeAt k0 rows0 p=some (k,rows))
  (hset:nodeSet rows' rows0 p=some rows1) (hlen:rows'.length=rows.length)
  (hsub: ∀i j k1 r1,cellAt rows' i j=some (.sl k1 r1)->cellAt rows i j=some (.sl k1 r1)) {f:Nat->Path->Option (Nat×Path)} (hF:SetF o p rows rows' f)
  {w':World} (hw: ∀x,blkOf (e.hd o p)≠some x->w'.heap[x]? =e.w.heap[x]?) (hk:Keeps fm.w0 fm.F w') (hsz:w'.heap.size=e.w.heap.size)
  (hnew:NodeOk w' (e.hd o p) k rows' (fun i j=>e.hd o (p++[(i,j)]))):
  ∃e',e'.w=w'/\e'.hd=e.hd/\Rel fm e' ((s.putO o (.arr k0 rows1)).sub f) a/\Carry e e' f/\ ∀M,o∈M->Evo e e' M:=by
 let e':Env:={w:=w',ob:=fun o'=>if o'=o then .arr k0 rows1 else(e.ob o').sub f,hd:=e.hd,bk:=e.bk,Im:=e.Im,tk:=e.tk}
 have hbn: ∀ {x l},e.blk l=some x->blkOf (e.hd o p)=some x->l= .nd o p:=fun hx h1=>hR.mem.inj _ _ _ hx (blk_nd_of (node_at h0 p ▸ hn) h1)
 have hne: ∀o',o'≠o-> ∀q,e'.node o' q=e.node o' q:=fun o' h q=>by
  unfold Env.node
  simp only[e',if_neg h]
  exact node_subO
 have heq: ∀q,e'.node o q=nodeAt k0 rows1 q:=fun q=>by simp[Env.node,e']
 have heq0: ∀q,e.node o q=nodeAt k0 rows0 q:=fun q=>node_at h0 q
 have back: ∀o' q k1 r1,e'.node o' q=some (k1,r1)->(o',q)≠(o,p)-> ∃r0,e.node o' q=some (k1,r0)/\KinR r0 r1:=by
  intro o' q k1 r1 h hne2
  by_cases ho:o'=o
  ·subst ho
   rw[heq]at h
   rw[heq0]
   cases hp:pre p q with
   |none=>
    have:=nodeSet_alike hn hset q hp
    rw[h]at this
    exact this.some_r
   |some r=>
    rw[pre_some]at hp
    subst hp
    rw[nodeAt_nodeSet hn hset]at h
    cases r with
    |nil=>exact absurd (by simp) hne2
    |cons b r=>
     refine⟨r1,?_,KinR.refl _⟩
     rw[nodeAt_append,hn]
     exact nodeAt_below hsub h
  ·rw[hne o' ho]at h
   exact⟨r1,h,KinR.refl _⟩
 have hC:Carry e e' f:=by
  refine⟨fun b hb=>⟨hb,hw b fun h=> ?_⟩,fun o1 p1 k1 r1 o' p' h1 hf=> ?_,fun o1 cs hb=> ?_,fun o1 p1 k1 r1 h1=>(hR.mem.node o1 p1 k1 r1 h1).one,rfl⟩
  ·exact(hR.mem.own (.nd o p) b (blk_nd_of (node_at h0 p ▸ hn) h)).2.2 hb
  ·obtain⟨rfl,rfl⟩:=hF.fix hf
   by_cases ho:o'=o
   ·subst ho
    rw[heq0]at h1
    rw[heq]
    cases hp:pre p p' with
    |none=>
     have:=nodeSet_alike hn hset p' hp
     rw[h1]at this
     obtain⟨r2,g1,g2⟩:=this.some_l
     exact⟨r2,g1,g2.len,rfl⟩
    |some r=>
     have hpp:=pre_some.1 hp
     subst hpp
     rw[nodeAt_append,hn]at h1
     rw[nodeAt_nodeSet hn hset]
     cases r with
     |nil=>
      simp only[nodeAt,Option.some.injEq,Prod.mk.injEq]at h1
      obtain⟨rfl,rfl⟩:=h1
      exact⟨rows',rfl,hlen,rfl⟩
     |cons b r=>
      rcases hF with ⟨_,h2⟩|rfl
      ·exact⟨r1,nodeAt_below h2 h1,rfl,rfl⟩
      ·simp[belowF,hp]at hf
   ·exact⟨r1,by rw[hne o' ho];exact h1,rfl,rfl⟩
  ·have ho:o1≠o:=fun h=>by rw[h,h0]at hb;cases hb
   exact⟨subL f cs,by simp[e',ho,hb,Obj.sub],rfl⟩
 have hbox: ∀ {o1 cs},e'.ob o1= .box cs->o1≠o/\ ∃cs0,e.ob o1= .box cs0/\cs=subL f cs0:=fun {o1 cs} h=>by
  by_cases ho:o1=o
  ·simp[e',ho]at h
  ·simp only[e',if_neg ho]at h
   exact⟨ho,Obj.sub_box.1 h⟩
 refine⟨e',rfl,rfl,⟨?_,fun o'=> ?_,fun o' k' r' h1 h2=> ?_,fun o' cs h1 h2=> ?_,hR.size,hR.defers,fun t=> ?_⟩,hC,fun M hM=>⟨by simp only[e',hsz];omega,fun b hb hl=>hw b fun h=>hl (.nd o p) (blk_nd_of (node_at h0 p ▸ hn) h) hM⟩⟩
 ·have hA:Asm fm e e' (fun o' p'=>if(o',p')=(o,p)then none else some (o',p')) (fun b=>blkOf (e.hd o p)=some b):=by
   refine⟨?_,?_,?_,?_,?_,?_,?_,?_,?_⟩
   ·intro o' p' o1 p1 k1 r1 h1 h2
    by_cases hop:(o',p')=(o,p)
    ·simp[hop]at h1
    ·rw[if_neg hop]at h1
     cases h1
     obtain⟨r0,g1,g2⟩:=back o' p' k1 r1 h2 hop
     exact⟨r0,g1,g2,rfl,fun _ _ _ _ _=>rfl⟩
   ·intro o' p' o1 p1 b h1 _ hb
    by_cases hop:(o',p')=(o,p)
    ·simp[hop]at h1
    ·rw[if_neg hop]at h1
     cases h1
     have hnb:blkOf (e.hd o p)≠some b:=fun h=>by
      have:=hbn hb h
      cases this
      exact hop rfl
     exact⟨hw b hnb,(hR.mem.own _ b hb).2.2,hnb⟩
   ·intro o1 p1 o2 p2 x h1 h2 _ _
    by_cases g1:(o1,p1)=(o,p)
    ·simp[g1]at h1
    ·by_cases g2:(o2,p2)=(o,p)
     ·simp[g2]at h2
     ·rw[if_neg g1]at h1
      rw[if_neg g2]at h2
      rw[←h2]at h1
      simpa using h1
   ·intro o' p' k1 r1 h1 h2
    have hop:(o',p')=(o,p):=by
     by_cases hop:(o',p')=(o,p)
     ·exact hop
     ·rw[if_neg hop]at h1;cases h1
    cases hop
    rw[heq]at h2
    have:=nodeAt_nodeSet hn hset []
    rw[List.append_nil,h2]at this
    simp only[nodeAt,Option.some.injEq,Prod.mk.injEq]at this
    obtain⟨rfl,rfl⟩:=this
    exact hnew
   ·intro o' p' b h1 h2
    have hop: ∀ {o' p'},(if(o',p')=(o,p)then none else some (o',p'))=(none:Option (Nat×Path))->o'=o/\p'=p:=fun {o' p'} h1=>by
     by_cases hop:(o',p')=(o,p)
     ·cases hop;exact⟨rfl,rfl⟩
     ·rw[if_neg hop]at h1;cases h1
    obtain⟨rfl,rfl⟩:=hop h1
    obtain⟨k1,r1,_,hb⟩:=blk_nd h2
    refine⟨hb,fun o2 p2 g1 _=> ?_⟩
    obtain⟨rfl,rfl⟩:=hop g1
    exact⟨rfl,rfl⟩
   ·intro b hb
    have:=hR.mem.own (.nd o p) b (blk_nd_of (node_at h0 p ▸ hn) hb)
    exact⟨by simp only[e',hsz];exact this.1,this.2⟩
   ·intro o1 cs hb
    obtain⟨ho,cs0,g1,g2⟩:=hbox hb
    refine .inl ⟨cs0,g1,rfl,(hR.mem.own _ _ (blk_bx_of g1)).2.2,fun h=> ?_⟩
    have:=hbn (blk_bx_of g1) h
    cases this
   ·intro o1 cs hb j c hc
    obtain⟨ho,cs0,g1,g2⟩:=hbox hb
    subst g2
    rw[subL_eq,List.getElem?_map]at hc
    cases hx:cs0[j]? with
    |none=>simp[hx]at hc
    |some x=>
     simp[hx]at hc
     subst hc
     obtain⟨q1,u,q2,q3⟩:=hR.mem.box o1 cs0 g1 j x hx
     have hb2:w'.heap[e.bk o1]? =e.w.heap[e.bk o1]? :=hw _ fun h=>by
      have:=hbn (blk_bx_of g1) h
      cases this
     exact⟨q1.congr hb2,u,by rw[←q2];exact cell_congr hb2,q3.sub hC⟩
   ·simp only[e',hsz];exact Nat.le_refl _
  exact hR.mem.asm hA (fun x hx=>⟨by have:=(hR.mem.im x hx).1;simp only[e',hsz];exact this,(hR.mem.im x hx).2⟩) hR.mem.im0 hk
 ·rw[getO_sub,getO_putO]
  by_cases h:o'=o
  ·simp[e',h,Obj.sub]
  ·simp[e',h,hR.ob]
 ·by_cases h:o'=o
  ·subst h;exact hR.pinh o' k0 rows0 h1 h0
  ·simp only[e',if_neg h]at h2
   exact hR.pinh o' k' r' h1 (Obj.sub_arr.1 h2)
 ·obtain⟨ho,cs0,g1,g2⟩:=hbox h2
  exact hR.pinb o' cs0 h1 g1
 ·rw[getT_sub]
  exact(hR.tm t).sub hC
end Go.Proofs.YtbolhfegdocpeaaGreat.Ow
namespace Go.Proofs.YtbolhfegdocpeaaGreat.Ow
open Go
variable {P:Program} {fm:Fm} {M:List Nat} {e e':Env} {s s':St} {a:Act} {Q:Exit->Act->World->Prop}
theorem cell_lt {k i j i' j' n:Nat} (hj':j'<k) (hj:j+n<=k) (h1:i*k+j<=i'*k+j') (h2:i'*k+j'<i*k+j+n):i'=i/\j<=j'/\j'<j+n:=by
 have hi:i'=i:=by
  rcases Nat.lt_trichotomy i' i with h|h|h
  ·have:(i'+1)*k<=i*k:=Nat.mul_le_mul_right _ h
   rw[Nat.add_mul]at this;omega
  ·exact h
  ·have:(i+1)*k<=i'*k:=Nat.mul_le_mul_right _ h
   rw[Nat.add_mul]at this;omega
 subst hi
 exact⟨rfl,by omega,by omega⟩
theorem cell_in {c k i j:Nat} (hi:i<c) (hj:j<k):i*k+j<c*k:=by
 have:(i+1)*k<=c*k:=Nat.mul_le_mul_right _ hi
 rw[Nat.add_mul]at this;omega
theorem bare_ok (hM:Mem fm e) {x:AV} {u:Value} (hx:AvOk e x u) (h1:oneCell x=true) (y:Value):CellOk (bare x) u y:=by
 have:=(cells_one hM hx h1).2
 cases hx with
 |sc v hs=>exact⟨rfl,hs⟩
 |_=>exact this
theorem allSc_get {l:List T} (h:allSc l=true) {d:T} (hd:d∈l): ∀k r,d≠ .sl k r:=by
 induction l with
 |nil=>cases hd
 |cons x l ih=>
  cases x with
  |sc v=>
   simp only[allSc]at h
   rcases List.mem_cons.1 hd with rfl|h2
   ·intro k r;simp
   ·exact ih h h2
  |hole=>
   simp only[allSc]at h
   rcases List.mem_cons.1 hd with rfl|h2
   ·intro k r;simp
   ·exact ih h h2
  |sl k r=>simp[allSc]at h
theorem bare_sl (x:AV) (k:Nat) (r:List (List T)):bare x≠ .sl k r:=by cases x<;>simp[bare]
theorem getElem?_of_lt {α:Type} {l:List α} {i:Nat} (h:i<l.length): ∃x,l[i]? =some x:=⟨l[i],List.getElem?_eq_getElem h⟩
theorem write_ok (hR:Rel fm e s a) {o i j k b off n c:Nat} {p:Path} {rows:List (List T)} {vs:List AV} {us:List Value} (hn:e.node o p=some (k,rows))
  (hh:e.hd o p= .slice (some ⟨b,off,none⟩) n c) (hc:0<c) (hl:vs.length=us.length) (h1:vs.all oneCell=true)
  (hv: ∀ (m:Nat) x u,vs[m]? =some x->us[m]? =some u->AvOk e x u) (h:s.write o p i j vs=some s') {w':World} (hst:Stored e.w w' b (off+(i*k+j)) us):
  ∃e',e'.w=w'/\e'.hd=e.hd/\Rel fm e' s' a/\(Carry e e' fun o p=>some (o,p))/\ ∀M,o∈M->Evo e e' M:=by
 obtain⟨k0,rows0,h0,hn0⟩:=node_arr hn
 unfold St.write at h
 rw[←hR.ob o,h0]at h
 simp only[hn0]at h
 split at h
 ·rename_i r hr
  split at h
  ·rename_i hle
   obtain⟨hle,hsc⟩:=hle
   split at h
   ·rename_i r1 hset
    cases h
    obtain⟨ad,c',hv',hlc,hx⟩:=hR.mem.node o p k rows hn
    rw[hh]at hv'
    cases hv'
    obtain⟨b',off',hb',hwr,hk,hcell⟩:=hx hc
    cases hb'
    have hrk:r.length=k:=hk r (List.mem_of_getElem? hr)
    have hi:i<rows.length:=(List.getElem?_eq_some_iff.1 hr).1
    have hml:(vs.map bare).length=vs.length:=List.length_map _
    have hrange: ∀i' j',cellAt (rows.set i (setRow r j (vs.map bare))) i' j'=if i'=i/\j<=j'/\j'<j+vs.length then(vs.map bare)[j' - j]? else cellAt rows i' j':=by
     intro i' j'
     rw[cellAt_set hr]
     by_cases e1:i'=i
     ·subst e1
      rw[if_pos rfl,setRow_get r j _ (by rw[hml];exact hle),hml,cellAt_of hr]
      by_cases e2:j<=j'/\j'<j+vs.length
      ·rw[if_pos e2,if_pos ⟨rfl,e2.1,e2.2⟩]
      ·rw[if_neg e2,if_neg (fun h=>e2 h.2)]
     ·rw[if_neg e1,if_neg (fun h=>e1 h.1)]
    have hold: ∀j' d,j<=j'->j'<j+vs.length->r[j']? =some d-> ∀k1 r1,d≠ .sl k1 r1:=by
     intro j' d g1 g2 g3
     refine allSc_get hsc (List.mem_of_getElem? (i:=j' - j) ?_)
     rw[List.getElem?_take,if_pos (by omega),List.getElem?_drop,show j+(j' - j)=j' by omega]
     exact g3
    have hiff: ∀i' j' k1 r1',cellAt (rows.set i (setRow r j (vs.map bare))) i' j'=some (.sl k1 r1')<->cellAt rows i' j'=some (.sl k1 r1'):=by
     intro i' j' k1 r1'
     rw[hrange]
     by_cases e1:i'=i/\j<=j'/\j'<j+vs.length
     ·rw[if_pos e1]
      obtain⟨rfl,g1,g2⟩:=e1
      constructor
      ·intro h
       rw[List.getElem?_map]at h
       obtain⟨x,hx⟩:=getElem?_of_lt (l:=vs) (i:=j' - j) (by omega)
       rw[hx]at h
       simp at h
       exact absurd h (bare_sl x k1 r1')
      ·intro h
       rw[cellAt_of hr]at h
       exact absurd rfl (hold j' _ g1 g2 h k1 r1')
     ·rw[if_neg e1]
    have hnew:NodeOk w' (e.hd o p) k (rows.set i (setRow r j (vs.map bare))) (fun i j=>e.hd o (p++[(i,j)])):=by
     refine⟨_,c,by rw[hh,List.length_set],by rw[List.length_set];exact hlc,fun _=>⟨b,off,rfl,fun x hx=>hst.wr (hwr x hx),fun r' hr'=> ?_,fun i' j' d hd=> ?_⟩⟩
     ·rcases List.mem_or_eq_of_mem_set hr' with h|rfl
      ·exact hk r' h
      ·rw[setRow_len r j _ (by rw[hml];exact hle)];exact hrk
     ·rw[hrange]at hd
      by_cases e1:i'=i/\j<=j'/\j'<j+vs.length
      ·rw[if_pos e1]at hd
       obtain⟨rfl,g1,g2⟩:=e1
       obtain⟨x,hx⟩:=getElem?_of_lt (l:=vs) (i:=j' - j) (by omega)
       obtain⟨u,hu⟩:=getElem?_of_lt (l:=us) (i:=j' - j) (by omega)
       rw[List.getElem?_map,hx]at hd
       simp at hd
       subst hd
       refine⟨u,?_,bare_ok hR.mem (hv _ x u hx hu) (List.all_eq_true.1 h1 x (List.mem_of_getElem? hx)) _⟩
       have:=hst.new hu (by
        rw[show off+(i'*k+j)+(j' - j)=off+(i'*k+j')by omega]
        exact hwr _ (cell_in (Nat.lt_of_lt_of_le hi hlc) (by omega)))
       rwa [show off+(i'*k+j)+(j' - j)=off+(i'*k+j')by omega]at this
      ·rw[if_neg e1]at hd
       obtain⟨u,hu,hok⟩:=hcell i' j' d hd
       refine⟨u,?_,hok⟩
       rw[hst.same fun hin=>e1 (cell_lt (k:=k) (i:=i) (j:=j) (i':=i') (j':=j') (n:=vs.length) ?_ (by omega) (by omega) (by omega))]
       ·exact hu
       ·obtain⟨r2,hr2,hd2⟩:=cellAt_some hd
        have:=hk r2 (List.mem_of_getElem? hr2)
        have:=(List.getElem?_eq_some_iff.1 hd2).1
        omega
    have hbk:blkOf (e.hd o p)=some b:=by rw[hh];simp[blkOf,hc]
    obtain⟨q1,q2,q3⟩:=hR.mem.own (.nd o p) b (blk_nd_of hn hbk)
    obtain⟨e',g1,g2,g3,g4,g5⟩:=set_node (f:=fun o p=>some (o,p)) hR h0 hn0 hset (by simp) (fun i' j' k1 r1' h=>(hiff i' j' k1 r1').1 h) (.inl ⟨rfl,fun i' j' k1 r1' h=>(hiff i' j' k1 r1').2 h⟩)
     (fun x hx=>hst.other x (fun h=>hx (h ▸ hbk))) (hR.mem.keeps.stored hst q2) hst.size hnew
    rw[St.sub_id]at g3
    exact⟨e',g1,g2,g3,g4,g5⟩
   ·cases h
  ·cases h
 ·cases h
end Go.Proofs.YtbolhfegdocpeaaGreat.Ow
namespace Go.Proofs.YtbolhfegdocpeaaGreat.Ow
open Go
variable {P:Program} {fm:Fm} {M:List Nat} {e e':Env} {s s':St} {a:Act} {Q:Exit->Act->World->Prop}
theorem regroup (hM:Mem fm e) (hw:e'.w=e.w) (hI:e'.Im=e.Im) (src:Nat->Path->Option (Nat×Path)) (bsrc:Nat->Nat)
  (nodes: ∀o' q k r,e'.node o' q=some (k,r)->NodeOk e.w (e'.hd o' q) k r (fun i j=>e'.hd o' (q++[(i,j)]))/\
   ∀b,blkOf (e'.hd o' q)=some b-> ∃x:Nat×Path,src o' q=some x/\e.blk (.nd x.1 x.2)=some b)
  (inj: ∀o1 q1 o2 q2 x,src o1 q1=some x->src o2 q2=some x->(e'.node o1 q1).isSome->(e'.node o2 q2).isSome->o1=o2/\q1=q2)
  (boxes: ∀o' cs,e'.ob o'= .box cs-> ∃cs0,e.ob (bsrc o')= .box cs0/\e'.bk o'=e.bk (bsrc o')/\
   ∀ (j:Nat) c,cs[j]? =some c-> ∃c0,cs0[j]? =some c0/\ ∀u,AvOk e c0 u->AvOk e' c u)
  (binj: ∀o1 o2 cs1 cs2,e'.ob o1= .box cs1->e'.ob o2= .box cs2->bsrc o1=bsrc o2->o1=o2) (htk:e'.tk=e.tk:=by rfl):Mem fm e'/\
   ∀l b,e'.blk l=some b-> ∃l0,e.blk l0=some b/\(∀o q,l= .nd o q-> ∃x,src o q=some x/\l0= .nd x.1 x.2)/\ ∀o,l= .bx o->l0= .bx (bsrc o):=by
 have blk: ∀l b,e'.blk l=some b-> ∃l0,e.blk l0=some b/\(∀o q,l= .nd o q-> ∃x,src o q=some x/\l0= .nd x.1 x.2/\(e'.node o q).isSome)/\
   ∀o,l= .bx o->l0= .bx (bsrc o)/\ ∃cs,e'.ob o= .box cs:=by
  intro l b hb
  cases l with
  |nd o q=>
   obtain⟨k,r,hn,hb'⟩:=blk_nd hb
   obtain⟨x,hx,hxb⟩:=(nodes o q k r hn).2 b hb'
   exact⟨.nd x.1 x.2,hxb,fun o1 q1 h=>(by cases h;exact⟨x,hx,rfl,by rw[hn];rfl⟩),fun o1 h=>(by cases h)⟩
  |bx o=>
   obtain⟨cs,hcs,rfl⟩:=blk_bx hb
   obtain⟨cs0,h1,h2,_⟩:=boxes o cs hcs
   exact⟨.bx (bsrc o),by rw[h2];exact blk_bx_of h1,fun o1 q1 h=>(by cases h),fun o1 h=>(by cases h;exact⟨rfl,cs,hcs⟩)⟩
 refine⟨⟨fun o cs hb j c hc=> ?_,fun o q k r hn=> ?_,fun l l' b h h'=> ?_,fun l b h=> ?_,?_,?_,?_,htk.trans hM.tk⟩,fun l b h=>(blk l b h).imp fun l0 h=>⟨h.1,fun o q hl=>(h.2.1 o q hl).imp fun x hx=>⟨hx.1,hx.2.1⟩,fun o hl=>(h.2.2 o hl).1⟩⟩
 ·obtain⟨cs0,h1,h2,h3⟩:=boxes o cs hb
  obtain⟨c0,h4,h5⟩:=h3 j c hc
  obtain⟨g1,u,g2,g3⟩:=hM.box _ cs0 h1 j c0 h4
  rw[hw,h2]
  exact⟨g1,u,g2,h5 u g3⟩
 ·rw[hw];exact(nodes o q k r hn).1
 ·obtain⟨l0,g1,g2,g3⟩:=blk l b h
  obtain⟨l0',g1',g2',g3'⟩:=blk l' b h'
  have heq:=hM.inj _ _ _ g1 g1'
  cases l with
  |nd o q=>
   obtain⟨x,hx,rfl,hs⟩:=g2 o q rfl
   cases l' with
   |nd o' q'=>
    obtain⟨x',hx',rfl,hs'⟩:=g2' o' q' rfl
    have:x=x':=by
     obtain⟨x1,x2⟩:=x;obtain⟨y1,y2⟩:=x'
     simp only[Pl.nd.injEq]at heq
     rw[heq.1,heq.2]
    subst this
    obtain⟨rfl,rfl⟩:=inj o q o' q' x hx hx' hs hs'
    rfl
   |bx o'=>
    obtain⟨rfl,_⟩:=g3' o' rfl
    cases heq
  |bx o=>
   obtain⟨rfl,cs,hcs⟩:=g3 o rfl
   cases l' with
   |nd o' q'=>
    obtain⟨x',hx',rfl,hs'⟩:=g2' o' q' rfl
    cases heq
   |bx o'=>
    obtain⟨rfl,cs',hcs'⟩:=g3' o' rfl
    simp only[Pl.bx.injEq]at heq
    rw[binj o o' cs cs' hcs hcs' heq]
 ·obtain⟨l0,g1,_⟩:=blk l b h
  rw[hw,hI]
  exact hM.own _ b g1
 ·rw[hw,hI];exact hM.im
 ·rw[hI];exact hM.im0
 ·rw[hw];exact hM.keeps
theorem NodeOk.subs {w:World} {v:Value} {k:Nat} {rows:List (List T)} {sub sub':Nat->Nat->Value} (h:NodeOk w v k rows sub) (hs: ∀i j,sub' i j=sub i j):NodeOk w v k rows sub':=by
 have:sub'=sub:=by funext i j;exact hs i j
 rw[this];exact h
def Less:Option T->Option T->Prop
 |none,none=>True
 |some (.sc v),some (.sc u)=>v=u
 |some (.sl _ _),some (.sl _ _)=>True
 |some _,some .hole=>True
 |_,_=>False
theorem Less.refl (d:Option T):Less d d:=by
 cases d with
 |none=>trivial
 |some d=>cases d<;>simp[Less]
structure LessR (r r':List (List T)):Prop where
 len:r'.length=r.length
 row: ∀ (i:Nat) (x:List T),r[i]? =some x-> ∃y:List T,r'[i]? =some y/\y.length=x.length
 cell: ∀i j,Less (cellAt r i j) (cellAt r' i j)
theorem LessR.refl (r:List (List T)):LessR r r:=⟨rfl,fun _ x h=>⟨x,h,rfl⟩,fun _ _=>Less.refl _⟩
theorem KinR.less {r r':List (List T)} (h:KinR r r'):LessR r r':=by
 refine⟨h.len,h.row,fun i j=> ?_⟩
 have:=h.cell i j
 cases hx:cellAt r i j with
 |none=>
  cases hy:cellAt r' i j with
  |none=>trivial
  |some y=>rw[hx,hy]at this;exact this.elim
 |some x=>
  cases hy:cellAt r' i j with
  |none=>rw[hx,hy]at this;cases x<;>exact this.elim
  |some y=>rw[hx,hy]at this;cases x<;>cases y<;>simp_all[Kin,Less]
theorem LessR.setAt_hole {rows:List (List T)} {i j:Nat} {d:T} (h:cellAt rows i j=some d):LessR rows (setAt rows i j .hole):=by
 obtain⟨r,hr,hd⟩:=cellAt_some h
 have hi:i<rows.length:=(List.getElem?_eq_some_iff.1 hr).1
 refine⟨by unfold setAt;rw[hr];simp,fun i' x hx=> ?_,fun i' j'=> ?_⟩
 ·unfold setAt
  rw[hr]
  by_cases e:i'=i
  ·subst e
   rw[hr]at hx
   cases hx
   exact⟨r.set j .hole,by simp[hi],by simp⟩
  ·exact⟨x,by simp only[];rw[List.getElem?_set_ne (fun h=>e h.symm)];exact hx,rfl⟩
 ·rw[cellAt_setAt h]
  by_cases e:i'=i/\j'=j
  ·obtain⟨rfl,rfl⟩:=e
   rw[if_pos ⟨rfl,rfl⟩,h];cases d<;>simp[Less]
  ·rw[if_neg e];exact Less.refl _
theorem NodeOk.less {w:World} {v:Value} {k:Nat} {rows rows':List (List T)} {sub sub':Nat->Nat->Value} (h:NodeOk w v k rows sub) (hk:LessR rows rows')
  (hone: ∀i j k1 r1,cellAt rows i j=some (.sl k1 r1)->(sub i j).oneCell'=true)
  (hs: ∀i j k1 r1,cellAt rows' i j=some (.sl k1 r1)->sub' i j=sub i j):NodeOk w v k rows' sub':=by
 obtain⟨ad,c,rfl,hle,hx⟩:=h
 refine⟨ad,c,by rw[hk.len],by rw[hk.len];exact hle,fun hc=> ?_⟩
 obtain⟨b,off,rfl,h1,h2,h3⟩:=hx hc
 refine⟨b,off,rfl,h1,fun r hr=> ?_,fun i j d hd=> ?_⟩
 ·obtain⟨i,hi⟩:=List.mem_iff_getElem?.1 hr
  have hlt:i<rows.length:=by rw[←hk.len];exact(List.getElem?_eq_some_iff.1 hi).1
  obtain⟨y,hy,hl⟩:=hk.row i rows[i] (List.getElem?_eq_getElem hlt)
  rw[hi]at hy
  cases hy
  rw[hl]
  exact h2 _ (List.getElem_mem hlt)
 ·have hkin:=hk.cell i j
  rw[hd]at hkin
  cases hd0:cellAt rows i j with
  |none=>rw[hd0]at hkin;exact hkin.elim
  |some d0=>
   rw[hd0]at hkin
   obtain⟨u,hu,hok⟩:=h3 i j d0 hd0
   refine⟨u,hu,?_⟩
   cases d with
   |sc v=>
    cases d0 with
    |sc v0=>simp only[Less]at hkin;subst hkin;exact hok
    |sl k0 r0=>exact hkin.elim
    |hole=>exact hkin.elim
   |sl k1 r1=>
    cases d0 with
    |sc v0=>exact hkin.elim
    |sl k0 r0=>simp only[CellOk]at hok ⊢;rw[hs i j _ _ hd];exact hok
    |hole=>exact hkin.elim
   |hole=>
    cases d0 with
    |sc v0=>
     obtain⟨rfl,hv⟩:=hok
     cases u<;>first|rfl|(simp[isSc]at hv)
    |sl k0 r0=>simp only[CellOk]at hok;rw[hok];exact hone i j k0 r0 hd0
    |hole=>exact hok
theorem NodeOk.window {w:World} {hv v:Value} {k lo hi:Nat} {rows:List (List T)} {sub:Nat->Nat->Value} (h:NodeOk w hv k rows sub) (hw:WinOk hv k lo hi v)
  (h1:lo<=hi) (h2:hi<=rows.length):NodeOk w v k (Ow.window rows lo hi) (fun i j=>sub (lo+i) j):=by
 obtain⟨a,n,c,a',c',rfl,rfl,hc',hx⟩:=hw
 obtain⟨ad,c2,hv,hle,hy⟩:=h
 cases hv
 have hlen:(Ow.window rows lo hi).length=hi - lo:=by unfold Ow.window;simp;omega
 refine⟨a',c',by rw[hlen],by rw[hlen];exact hc',fun h0=> ?_⟩
 obtain⟨hcc,rfl⟩:=hx h0
 obtain⟨b,off,rfl,g1,g2,g3⟩:=hy (by omega)
 refine⟨b,off+lo*k,by simp[addr_add],fun x hx=> ?_,fun r hr=>g2 r (mem_window hr),fun i j d hd=> ?_⟩
 ·rw[show off+lo*k+x=off+(lo*k+x)by omega]
  refine g1 _ ?_
  have:(lo+c')*k<=c*k:=Nat.mul_le_mul_right _ hcc
  rw[Nat.add_mul]at this
  omega
 ·obtain⟨u,hu,hok⟩:=g3 (lo+i) j d (cellAt_window _ _ _ _ _ hd)
  refine⟨u,?_,hok⟩
  rw[←hu]
  congr 2
  rw[Nat.add_mul];omega
theorem WinOk.blk {hv v:Value} {k lo hi:Nat} (hw:WinOk hv k lo hi v) {b:Nat} (h:blkOf v=some b):blkOf hv=some b:=by
 obtain⟨a,n,c,a',c',rfl,rfl,hc',hx⟩:=hw
 unfold blkOf at h
 split at h
 ·rename_i ad n2 c2 heq
  cases heq
  split at h
  ·rename_i h0
   cases h
   obtain⟨hcc,ha⟩:=hx h0
   cases a with
   |none=>cases ha
   |some a=>
    simp only[Option.map_some,Option.some.injEq]at ha
    subst ha
    have:(a.add (lo*k)).block=a.block:=by unfold Addr.add;split<;>rfl
    simp only[blkOf]
    rw[if_pos (by omega),this]
  ·cases h
 ·cases h
theorem WinOk.full {v:Value} {k n:Nat} (h: ∃a c,v= .slice a n c/\n<=c):WinOk v k 0 n v:=by
 obtain⟨a,c,rfl,hle⟩:=h
 refine⟨a,n,c,a,c,rfl,by simp,by simpa using hle,fun _=>⟨by omega,?_⟩⟩
 rw[Nat.zero_mul]
 cases a with
 |none=>rfl
 |some a=>simp[Addr.add]
end Go.Proofs.YtbolhfegdocpeaaGreat.Ow
namespace Go.Proofs.YtbolhfegdocpeaaGreat.Ow
open Go
variable {P:Program} {fm:Fm} {M:List Nat} {e e':Env} {s s':St} {a:Act} {Q:Exit->Act->World->Prop}
def LAlike:Option (Nat×List (List T))->Option (Nat×List (List T))->Prop
 |none,none=>True
 |some (k,r),some (k',r')=>k=k'/\LessR r r'
 |_,_=>False
theorem LAlike.refl (x:Option (Nat×List (List T))):LAlike x x:=by
 cases x with
 |none=>trivial
 |some x=>exact⟨rfl,LessR.refl _⟩
theorem LAlike.some_r {x:Option (Nat×List (List T))} {k:Nat} {r:List (List T)} (h:LAlike x (some (k,r))): ∃r0,x=some (k,r0)/\LessR r0 r:=by
 cases x with
 |none=>exact h.elim
 |some y=>obtain⟨k',r'⟩:=y;obtain⟨rfl,h2⟩:=h;exact⟨r',rfl,h2⟩
theorem LAlike.some_l {y:Option (Nat×List (List T))} {k:Nat} {r:List (List T)} (h:LAlike (some (k,r)) y): ∃r1,y=some (k,r1)/\LessR r r1:=by
 cases y with
 |none=>exact h.elim
 |some y=>obtain⟨k',r'⟩:=y;obtain⟨rfl,h2⟩:=h;exact⟨r',rfl,h2⟩
theorem cutAt_some {rows0 r0:List (List T)} {i j:Nat} {p:Path} (h:cutAt rows0 ((i,j)::p)=some r0):
  ∃k' rows',cellAt rows0 i j=some (.sl k' rows')/\((p=[]/\r0=setAt rows0 i j .hole)\/ ∃r,p≠[]/\cutAt rows' p=some r/\r0=setAt rows0 i j (.sl k' r)):=by
 unfold cutAt at h
 split at h
 ·rename_i k' rows' hc
  refine⟨k',rows',hc,?_⟩
  cases p with
  |nil=>simp at h;exact .inl ⟨rfl,h.symm⟩
  |cons b p=>
   simp only at h
   split at h
   ·rename_i r hr;cases h;exact .inr ⟨r,by simp,hr,rfl⟩
   ·cases h
 ·cases h
theorem cutAt_under {k0:Nat} {rows0 r0:List (List T)} {p:Path} (h:cutAt rows0 p=some r0) (q:Path):nodeAt k0 r0 (p++q)=none:=by
 induction p generalizing k0 rows0 r0 with
 |nil=>simp[cutAt]at h
 |cons b p ih=>
  obtain⟨i,j⟩:=b
  obtain⟨k',rows',hc,⟨rfl,rfl⟩|⟨r,hp,hr,rfl⟩⟩:=cutAt_some h
  ·simp only[List.cons_append,nodeAt,cellAt_setAt hc,and_self,if_true]
  ·simp only[List.cons_append,nodeAt,cellAt_setAt hc,and_self,if_true]
   exact ih hr
theorem cutAt_alike {k0:Nat} {rows0 r0:List (List T)} {p:Path} (h:cutAt rows0 p=some r0) (q:Path) (hq:pre p q=none):LAlike (nodeAt k0 rows0 q) (nodeAt k0 r0 q):=by
 induction p generalizing k0 rows0 r0 q with
 |nil=>simp[pre]at hq
 |cons b p ih=>
  obtain⟨i,j⟩:=b
  obtain⟨k',rows',hc,hcase⟩:=cutAt_some h
  cases q with
  |nil=>
   rcases hcase with ⟨rfl,rfl⟩|⟨r,hp,hr,rfl⟩
   ·exact⟨rfl,LessR.setAt_hole hc⟩
   ·exact⟨rfl,(KinR.setAt_own hc).less⟩
  |cons c q=>
   obtain⟨i',j'⟩:=c
   rcases hcase with ⟨rfl,rfl⟩|⟨r,hp,hr,rfl⟩
   ·simp only[nodeAt,cellAt_setAt hc]
    by_cases e:i'=i/\j'=j
    ·obtain⟨rfl,rfl⟩:=e;simp[pre]at hq
    ·rw[if_neg e];exact LAlike.refl _
   ·simp only[nodeAt,cellAt_setAt hc]
    by_cases e:i'=i/\j'=j
    ·obtain⟨rfl,rfl⟩:=e
     simp only[pre,if_true]at hq
     simp only[and_self,if_true,hc]
     exact ih hr q hq
    ·rw[if_neg e];exact LAlike.refl _
def shift (lo:Nat):Path->Path
 |[]=>[]
 |(i,j)::r=>(lo+i,j)::r
theorem shift_inj {lo:Nat} {q q':Path} (h:shift lo q=shift lo q'):q=q':=by
 cases q with
 |nil=>cases q' with
  |nil=>rfl
  |cons b q'=>simp[shift]at h
 |cons b q=>cases q' with
  |nil=>simp[shift]at h
  |cons b' q'=>
   obtain⟨i,j⟩:=b
   obtain⟨i',j'⟩:=b'
   simp[shift]at h ⊢
   omega
theorem shift_append (lo:Nat) {q:Path} (b:Nat×Nat) (r:Path):shift lo (b::q++r)=shift lo (b::q)++r:=by simp[shift]
theorem nodeAt_window {k:Nat} {rows:List (List T)} {lo hi:Nat} {b:Nat×Nat} {q:Path} {x:Nat×List (List T)} (h:nodeAt k (Ow.window rows lo hi) (b::q)=some x):
  nodeAt k rows (shift lo (b::q))=some x:=by
 obtain⟨i,j⟩:=b
 simp only[nodeAt,shift]at h ⊢
 split at h
 ·rename_i k' r' hc
  rw[cellAt_window _ _ _ _ _ hc];exact h
 ·cases h
theorem nodeAt_window' {k:Nat} {rows:List (List T)} {lo hi i j:Nat} {q:Path} (h1:lo<=i) (h2:i<hi):
  nodeAt k (Ow.window rows lo hi) ((i - lo,j)::q)=nodeAt k rows ((i,j)::q):=by
 have:cellAt (Ow.window rows lo hi) (i - lo) j=cellAt rows i j:=by
  unfold cellAt Ow.window
  rw[List.getElem?_drop,List.getElem?_take,if_pos (by omega),show lo+(i - lo)=i by omega]
 simp only[nodeAt,this]
theorem window_full {α:Type} (l:List α):Ow.window l 0 l.length=l:=by simp[Ow.window]
theorem hand_sub_s (h:Hand) (f:Nat->Path->Option (Nat×Path)):(h.sub f).s=h.s.sub f:=rfl
theorem hand_sub_l (h:Hand) (f:Nat->Path->Option (Nat×Path)):(h.sub f).l=subL f h.l:=rfl
def hdCut (e:Env) (o:Nat) (p:Path) (lo:Nat) (v:Value):Path->Value
 |[]=>v
 |b::r=>e.hd o (p++shift lo (b::r))
theorem cut_ok {h h':Hand} (hR:Rel fm e h.s a) {n o k lo hi:Nat} {p:Path} {full:Bool} {rows:List (List T)} (hc:h.cut n o p lo hi full=some h') (hn:e.node o p=some (k,rows))
  {v:Value} (hw:WinOk (e.hd o p) k lo hi v) (hfull:full=true->lo=0/\hi=rows.length/\v=e.hd o p):
  ∃e',e'.w=e.w/\e'.Im=e.Im/\Rel fm e' h'.s a/\Carry e e' (cutF o p n lo hi full)/\AvOk e' (.ref n []) v/\h'.l=subL (cutF o p n lo hi full) h.l/\h'.s.n=h.s.n/\h'.s.m=h.s.m/\
   ∀l b,e'.blk l=some b-> ∃l0,e.blk l0=some b/\l0.obj=if l.obj=n then o else l.obj:=by
 unfold Hand.cut at hc
 split at hc
 case h_2=>cases hc
 rename_i hnn
 obtain⟨k0,rows0,h0,hn0⟩:=node_arr hn
 rw[←hR.ob o,h0]at hc
 simp only[hn0]at hc
 split at hc
 case isFalse=>cases hc
 rename_i hle
 obtain⟨hle1,hle2,hnm⟩:=hle
 have hwin:(if full then rows else Ow.window rows lo hi)=Ow.window rows lo hi:=by
  cases full with
  |false=>rfl
  |true=>obtain⟨rfl,rfl,_⟩:=hfull rfl;simp[window_full]
 rw[hwin]at hc
 have hon:o≠n:=fun h1=>by rw[←h1,←hR.ob o,h0]at hnn;cases hnn
 have hen:e.ob n= .none:=by rw[hR.ob];exact hnn
 obtain⟨X,hX,hXs⟩: ∃X:Obj,((p=[]/\X= .none)\/ ∃r0,p≠[]/\cutAt rows0 p=some r0/\X= .arr k0 r0)/\
   h'.s.n=h.s.n/\h'.s.m=h.s.m/\h'.l=subL (cutF o p n lo hi full) h.l/\(∀t,getT h'.s.tm t=(getT h.s.tm t).sub (cutF o p n lo hi full))/\
   ∀o',getO h'.s.ob o'=(if o'=n then .arr k (Ow.window rows lo hi)else if o'=o then X else getO h.s.ob o').sub (cutF o p n lo hi full):=by
  cases p with
  |nil=>
   simp only[Option.some.injEq]at hc
   subst hc
   refine⟨.none,.inl ⟨rfl,rfl⟩,rfl,rfl,rfl,fun t=>by rw[hand_sub_s,getT_sub];rfl,fun o'=> ?_⟩
   rw[hand_sub_s,getO_sub,getO_putO]
   congr 1
   by_cases e1:o'=n
   ·simp[e1]
   ·rw[if_neg e1,if_neg e1,St.gone,getO_del]
  |cons b p=>
   simp only at hc
   split at hc
   case h_2=>cases hc
   rename_i r0 hr0
   simp only[Option.some.injEq]at hc
   subst hc
   refine⟨.arr k0 r0,.inr ⟨r0,by simp,hr0,rfl⟩,rfl,rfl,rfl,fun t=>by rw[hand_sub_s,getT_sub];rfl,fun o'=> ?_⟩
   rw[hand_sub_s,getO_sub,getO_putO,getO_putO]
 obtain⟨hsn,hsm,hl,htm,hobs⟩:=hXs
 let f:=cutF o p n lo hi full
 let e':Env:={w:=e.w,ob:=fun o'=>(if o'=n then .arr k (Ow.window rows lo hi)else if o'=o then X else e.ob o').sub f,hd:=fun o' q=>if o'=n then hdCut e o p lo v q else e.hd o' q,bk:=e.bk,Im:=e.Im,tk:=e.tk}
 have hnode_n: ∀q,e'.node n q=nodeAt k (Ow.window rows lo hi) q:=fun q=>by simp[Env.node,e',Obj.sub]
 have hnode_o: ∀q,e'.node o q=(match X with
   | .arr k1 r1=>nodeAt k1 r1 q
   |_=>none):=fun q=>by
  unfold Env.node
  simp only[e',if_neg hon,if_true]
  cases X<;>rfl
 have hnode_x: ∀o',o'≠n->o'≠o-> ∀q,e'.node o' q=e.node o' q:=fun o' h1 h2 q=>by
  unfold Env.node
  simp only[e',if_neg h1,if_neg h2]
  exact node_subO
 have heq0: ∀q,e.node o q=nodeAt k0 rows0 q:=fun q=>node_at h0 q
 have hunder: ∀q,e'.node o (p++q)=none:=fun q=>by
  rw[hnode_o]
  rcases hX with ⟨_,rfl⟩|⟨r0,hp,hr0,rfl⟩
  ·rfl
  ·exact cutAt_under hr0 q
 have hbeside: ∀q,pre p q=none->LAlike (e.node o q) (e'.node o q):=fun q hq=>by
  rcases hX with ⟨rfl,_⟩|⟨r0,hp,hr0,rfl⟩
  ·simp[pre]at hq
  ·rw[hnode_o,heq0]
   exact cutAt_alike hr0 q hq
 have hbox: ∀ {o1 cs},e'.ob o1= .box cs-> ∃cs0,e.ob o1= .box cs0/\cs=subL f cs0:=fun {o1 cs} h=>by
  simp only[e']at h
  obtain⟨cs0,g1,g2⟩:=Obj.sub_box.1 h
  by_cases h1:o1=n
  ·simp[h1]at g1
  ·rw[if_neg h1]at g1
   by_cases h2:o1=o
   ·rw[if_pos h2]at g1
    rcases hX with ⟨_,rfl⟩|⟨r0,_,_,rfl⟩<;>cases g1
   ·rw[if_neg h2]at g1;exact⟨cs0,g1,g2⟩
 have hhn: ∀b r,e'.hd n (b::r)=e.hd o (p++shift lo (b::r)):=fun b r=>by simp[e',hdCut]
 have hhn0:e'.hd n []=v:=by simp[e',hdCut]
 have hhx: ∀o',o'≠n-> ∀q,e'.hd o' q=e.hd o' q:=fun o' h q=>by simp[e',h]
 have hC:Carry e e' f:=by
  refine⟨fun b hb=>⟨hb,rfl⟩,fun o1 p1 k1 r1 o' p' h1 hf=> ?_,fun o1 cs hb=> ?_,fun o1 p1 k1 r1 h1=>(hR.mem.node o1 p1 k1 r1 h1).one,rfl⟩
  ·by_cases ho:o1=o
   ·subst ho
    simp only[f,cutF,if_true]at hf
    cases hp:pre p p1 with
    |none=>
     simp only[hp]at hf
     cases hf
     have:=hbeside p1 hp
     rw[h1]at this
     obtain⟨r2,g1,g2⟩:=this.some_l
     exact⟨r2,g1,g2.len,hhx _ hon _⟩
    |some r=>
     have hpp:=pre_some.1 hp
     subst hpp
     simp only[hp]at hf
     rw[heq0,nodeAt_append,hn0]at h1
     cases r with
     |nil=>
      simp only[nodeAt,Option.some.injEq,Prod.mk.injEq]at h1
      obtain⟨rfl,rfl⟩:=h1
      simp only at hf
      split at hf
      ·rename_i hfl
       cases hf
       obtain⟨rfl,rfl,hv⟩:=hfull hfl
       refine⟨rows,?_,rfl,?_⟩
       ·rw[hnode_n,window_full];rfl
       ·rw[hhn0,hv,List.append_nil]
      ·cases hf
     |cons b r=>
      obtain⟨i,j⟩:=b
      simp only at hf
      split at hf
      ·rename_i hfl
       cases hf
       obtain⟨rfl,rfl,hv⟩:=hfull hfl
       refine⟨r1,?_,rfl,?_⟩
       ·rw[hnode_n,window_full];exact h1
       ·rw[hhn];simp[shift]
      ·split at hf
       ·rename_i hlo
        cases hf
        refine⟨r1,?_,rfl,?_⟩
        ·rw[hnode_n,nodeAt_window' hlo.1 hlo.2];exact h1
        ·rw[hhn];simp only[shift];rw[show lo+(i - lo)=i by omega]
       ·cases hf
   ·simp only[f,cutF,if_neg ho]at hf
    cases hf
    have hne:o1≠n:=fun h2=>by rw[h2]at h1;simp[Env.node,hen]at h1
    exact⟨r1,by rw[hnode_x o1 hne ho];exact h1,rfl,hhx _ hne _⟩
  ·have hne:o1≠n:=fun h2=>by rw[h2,hen]at hb;cases hb
   have ho:o1≠o:=fun h2=>by rw[h2,h0]at hb;cases hb
   exact⟨subL f cs,by simp[e',hne,ho,hb,Obj.sub],rfl⟩
 have hself:AvOk e' (.ref n []) v:=by
  have:=AvOk.ref (e:=e') n [] k (Ow.window rows lo hi) (by rw[hnode_n];rfl)
  rwa [hhn0]at this
 have hreg:Mem fm e'/\ ∀l b,e'.blk l=some b-> ∃l0,e.blk l0=some b/\l0.obj=if l.obj=n then o else l.obj:=by
  refine And.imp_right (fun h l b hb=> ?_) (regroup (e':=e') hR.mem rfl rfl (fun o' q=>if o'=n then some (o,p++shift lo q)else some (o',q)) id (fun o' q k1 r1 h1=> ?_) (fun o1 q1 o2 q2 x h1 h2 g1 g2=> ?_) (fun o1 cs hb=> ?_) (fun o1 o2 _ _ _ _ h=>h))
  ·obtain⟨l0,g1,g2,g3⟩:=h l b hb
   refine⟨l0,g1,?_⟩
   cases l with
   |nd o1 q=>
    obtain⟨x,hx,rfl⟩:=g2 o1 q rfl
    by_cases h1:o1=n
    ·simp[h1]at hx;simp[Pl.obj,h1,←hx]
    ·simp[h1]at hx;simp[Pl.obj,h1,←hx]
   |bx o1=>
    rw[g3 o1 rfl]
    have hne:o1≠n:=fun h1=>by
     obtain⟨cs,hcs,_⟩:=blk_bx hb
     simp[e',h1,Obj.sub]at hcs
    simp[Pl.obj,hne]
  ·by_cases hon':o'=n
   ·subst hon'
    rw[hnode_n]at h1
    cases q with
    |nil=>
     simp only[nodeAt,Option.some.injEq,Prod.mk.injEq]at h1
     obtain⟨rfl,rfl⟩:=h1
     rw[hhn0]
     refine⟨?_,fun b hb=>⟨(o,p),by simp[shift],blk_nd_of hn (hw.blk hb)⟩⟩
     have:=(hR.mem.node o p k rows hn).window hw hle1 hle2
     refine this.subs fun i j=> ?_
     simp[e',shift,hdCut]
    |cons b q=>
     have h2:=nodeAt_window h1
     have hno:e.node o (p++shift lo (b::q))=some (k1,r1):=by rw[heq0,nodeAt_append,hn0];exact h2
     rw[hhn]
     refine⟨?_,fun b' hb=>⟨(o,p++shift lo (b::q)),by simp,blk_nd_of hno hb⟩⟩
     have:=hR.mem.node _ _ _ _ hno
     refine this.subs fun i j=> ?_
     rw[show b::q++[(i,j)]=b::(q++[(i,j)])from rfl,hhn,←List.cons_append,shift_append,List.append_assoc]
   ·rw[hhx o' hon']
    by_cases ho:o'=o
    ·subst ho
     have hp:pre p q=none:=by
      cases hp:pre p q with
      |none=>rfl
      |some r=>rw[pre_some.1 hp,hunder]at h1;cases h1
     have:=hbeside q hp
     rw[h1]at this
     obtain⟨r0,g1,g2⟩:=this.some_r
     refine⟨?_,fun b hb=>⟨(o',q),by simp[hon'],blk_nd_of g1 hb⟩⟩
     refine(hR.mem.node _ _ _ _ g1).less g2 (fun i j k2 r2 hc2=> ?_) (fun i j k2 r2 _=>hhx o' hon' _)
     have:e.node o' (q++[(i,j)])=some (k2,r2):=by
      rw[heq0]at g1 ⊢
      rw[nodeAt_append,g1]
      simp[nodeAt,hc2]
     exact(hR.mem.node _ _ _ _ this).one
    ·rw[hnode_x o' hon' ho]at h1
     refine⟨?_,fun b hb=>⟨(o',q),by simp[hon'],blk_nd_of h1 hb⟩⟩
     have:=hR.mem.node _ _ _ _ h1
     refine this.subs fun i j=> ?_
     rw[hhx o' hon']
  ·by_cases c1:o1=n<;>by_cases c2:o2=n
   ·subst c1;subst c2
    simp only[if_true,Option.some.injEq]at h1 h2
    rw[←h2]at h1
    simp only[Prod.mk.injEq,true_and]at h1
    exact⟨rfl,shift_inj (List.append_cancel_left h1)⟩
   ·subst c1
    simp only[if_true,if_neg c2,Option.some.injEq]at h1 h2
    rw[←h2]at h1
    simp only[Prod.mk.injEq]at h1
    obtain⟨rfl,rfl⟩:=h1
    rw[hunder]at g2
    cases g2
   ·subst c2
    simp only[if_true,if_neg c1,Option.some.injEq]at h1 h2
    rw[←h1]at h2
    simp only[Prod.mk.injEq]at h2
    obtain⟨rfl,rfl⟩:=h2
    rw[hunder]at g1
    cases g1
   ·simp only[if_neg c1,if_neg c2,Option.some.injEq]at h1 h2
    rw[←h2]at h1
    simpa using h1
  ·obtain⟨cs0,g1,rfl⟩:=hbox hb
   refine⟨cs0,g1,rfl,fun j c hj=> ?_⟩
   rw[subL_eq,List.getElem?_map]at hj
   cases hx:cs0[j]? with
   |none=>simp[hx]at hj
   |some x=>simp[hx]at hj;subst hj;exact⟨x,rfl,fun u hu=>hu.sub hC⟩
 refine⟨e',rfl,rfl,⟨hreg.1,fun o'=> ?_,fun o' k' r' h1 h2=> ?_,fun o' cs h1 h2=> ?_,by rw[hsn];exact hR.size,hR.defers,fun t=>by rw[htm];exact(hR.tm t).sub hC⟩,hC,hself,hl,hsn,hsm,hreg.2⟩
 ·rw[hobs]
  simp only[e']
  by_cases h1:o'=n
  ·simp[h1,f]
  ·by_cases h2:o'=o
   ·simp[h2,f]
   ·simp[h1,h2,hR.ob,f]
 ·rw[hsm]at h1
  have hne:o'≠n:=fun h=>by omega
  rw[hhx o' hne]
  have h3:=Obj.sub_arr.1 h2
  rw[if_neg hne]at h3
  by_cases ho:o'=o
  ·subst ho;exact hR.pinh _ k0 rows0 h1 h0
  ·rw[if_neg ho]at h3;exact hR.pinh o' k' r' h1 h3
 ·rw[hsm]at h1
  obtain⟨cs0,g1,_⟩:=hbox h2
  exact hR.pinb o' cs0 h1 g1
end Go.Proofs.YtbolhfegdocpeaaGreat.Ow
namespace Go.Proofs.YtbolhfegdocpeaaGreat.Ow
open Go
variable {P:Program} {fm:Fm} {M:List Nat} {e e':Env} {s s':St} {a:Act} {Q:Exit->Act->World->Prop}
def hdAdopt (e:Env) (o1 o:Nat) (P q:Path):Value:=
 match pre P q with
 |some r=>e.hd o1 r
 |none=>e.hd o q
theorem setAt_rows {rows:List (List T)} {i j:Nat} {d d':T} (h:cellAt rows i j=some d):
  (setAt rows i j d').length=rows.length/\ ∀r∈setAt rows i j d',∃r0∈rows,r.length=r0.length:=by
 obtain⟨r,hr,hd⟩:=cellAt_some h
 unfold setAt
 rw[hr]
 refine⟨by simp,fun r' hr'=> ?_⟩
 rcases List.mem_or_eq_of_mem_set hr' with h1|rfl
 ·exact⟨r',h1,rfl⟩
 ·exact⟨r,List.mem_of_getElem? hr,by simp⟩
theorem pre_longer {p q:Path} {b:Nat×Nat} (h:pre p q=none):pre (p++[b]) q=none:=by
 cases hp:pre (p++[b]) q with
 |none=>rfl
 |some r=>
  rw[pre_some]at hp
  rw[hp,List.append_assoc,pre_append]at h
  cases h
theorem pre_snoc_self {p:Path} {b:Nat×Nat}:pre (p++[b]) p=none:=by
 cases hp:pre (p++[b]) p with
 |none=>rfl
 |some r=>
  have:=congrArg List.length (pre_some.1 hp)
  simp at this
theorem adopt_ok (hR:Rel fm e s a) {o1 o i j k b off n c:Nat} {p:Path} {rows:List (List T)} (h:s.adopt o1 o p i j=some s') (hn:e.node o p=some (k,rows))
  (hh:e.hd o p= .slice (some ⟨b,off,none⟩) n c) (hc:0<c) (hcell:e.w.cell? ⟨b,off+(i*k+j),none⟩=some (e.hd o1 [])):
  ∃e',e'.w=e.w/\e'.Im=e.Im/\Rel fm e' s' a/\Carry e e' (adoptF o1 o (p++[(i,j)]))/\(∀o2,o2≠o->e'.hd o2=e.hd o2)/\e'.hd o p=e.hd o p/\
   o1≠o/\e'.ob o1= .none/\(∀o2,o2≠o->o2≠o1-> ∀q,e'.node o2 q=e.node o2 q)/\(∃rows',e'.node o p=some (k,rows')/\rows'.length=rows.length):=by
 unfold St.adopt at h
 split at h
 case isTrue=>cases h
 rename_i hoo
 obtain⟨k0,rows0,h0,hn0⟩:=node_arr hn
 rw[←hR.ob o1,←hR.ob o,h0]at h
 split at h
 case h_2=>cases h
 rename_i k1 rows1 k0' rows0' h1 h0'
 cases h0'
 simp only[hn0]at h
 split at h
 case h_2=>cases h
 rename_i hhole
 split at h
 case h_2=>cases h
 rename_i r0 hset
 cases h
 let PP:Path:=p++[(i,j)]
 let f:=adoptF o1 o PP
 let e':Env:={w:=e.w,ob:=fun o'=>(if o'=o1 then .none else if o'=o then .arr k0 r0 else e.ob o').sub f,hd:=fun o' q=>if o'=o then hdAdopt e o1 o PP q else e.hd o' q,bk:=e.bk,Im:=e.Im,tk:=e.tk}
 have heq0: ∀q,e.node o q=nodeAt k0 rows0 q:=fun q=>node_at h0 q
 have heq1: ∀q,e.node o1 q=nodeAt k1 rows1 q:=fun q=>node_at h1 q
 have hne1: ∀q,e'.node o1 q=none:=fun q=>by simp[Env.node,e',Obj.sub]
 have hneo: ∀q,e'.node o q=nodeAt k0 r0 q:=fun q=>by
  unfold Env.node
  simp only[e',if_neg (fun h:o=o1=>hoo h.symm),if_true,Obj.sub]
 have hnex: ∀o',o'≠o->o'≠o1-> ∀q,e'.node o' q=e.node o' q:=fun o' h1 h2 q=>by
  unfold Env.node
  simp only[e',if_neg h1,if_neg h2]
  exact node_subO
 have hunder: ∀r,e'.node o (PP++r)=e.node o1 r:=fun r=>by
  rw[hneo,heq1]
  simp only[PP,List.append_assoc]
  rw[nodeAt_nodeSet hn0 hset]
  simp only[List.singleton_append,nodeAt,cellAt_setAt hhole,and_self,if_true]
 have hhdo: ∀r,e'.hd o (PP++r)=e.hd o1 r:=fun r=>by simp[e',hdAdopt,pre_append]
 have hhdn: ∀q,pre PP q=none->e'.hd o q=e.hd o q:=fun q hq=>by simp[e',hdAdopt,hq]
 have hhdx: ∀o',o'≠o-> ∀q,e'.hd o' q=e.hd o' q:=fun o' h q=>by simp[e',h]
 have hpp:pre PP p=none:=pre_snoc_self
 have hbeside: ∀q,pre PP q=none->(q≠p/\Alike (e.node o q) (e'.node o q))\/(q=p/\e'.node o q=some (k,setAt rows i j (.sl k1 rows1))):=by
  intro q hq
  by_cases hqp:q=p
  ·subst hqp
   refine .inr ⟨rfl,?_⟩
   have:=nodeAt_nodeSet hn0 hset []
   rw[List.append_nil]at this
   rw[hneo,this];rfl
  ·refine .inl ⟨hqp,?_⟩
   rw[hneo,heq0]
   cases hp:pre p q with
   |none=>exact nodeSet_alike hn0 hset q hp
   |some r=>
    have:=pre_some.1 hp
    subst this
    rw[nodeAt_nodeSet hn0 hset,nodeAt_append,hn0]
    cases r with
    |nil=>exact absurd (List.append_nil p) hqp
    |cons c r=>
     obtain⟨i',j'⟩:=c
     have hij: ¬ (i'=i/\j'=j):=fun⟨h1,h2⟩=>by
      subst h1;subst h2
      rw[show p++(i',j')::r=PP++r by simp[PP],pre_append]at hq
      cases hq
     simp only[nodeAt,cellAt_setAt hhole,if_neg hij]
     exact Alike.refl _
 have hsplit: ∀q,(∃r,q=PP++r)\/pre PP q=none:=fun q=>by
  cases hp:pre PP q with
  |none=>exact .inr rfl
  |some r=>exact .inl ⟨r,pre_some.1 hp⟩
 have hlen:=setAt_rows (d':= .sl k1 rows1) hhole
 have hbox: ∀ {o2 cs},e'.ob o2= .box cs-> ∃cs0,e.ob o2= .box cs0/\cs=subL f cs0:=fun {o2 cs} h=>by
  simp only[e']at h
  obtain⟨cs0,g1,g2⟩:=Obj.sub_box.1 h
  by_cases c1:o2=o1
  ·rw[if_pos c1]at g1;cases g1
  ·rw[if_neg c1]at g1
   by_cases c2:o2=o
   ·rw[if_pos c2]at g1;cases g1
   ·rw[if_neg c2]at g1;exact⟨cs0,g1,g2⟩
 have hC:Carry e e' f:=by
  refine⟨fun b hb=>⟨hb,rfl⟩,fun o2 p2 k2 r2 o' p' h2 hf=> ?_,fun o2 cs hb=> ?_,fun o2 p2 k2 r2 h2=>(hR.mem.node o2 p2 k2 r2 h2).one,rfl⟩
  ·by_cases c1:o2=o1
   ·subst c1
    simp only[f,adoptF,if_true]at hf
    cases hf
    exact⟨r2,by rw[hunder];exact h2,rfl,hhdo p2⟩
   ·simp only[f,adoptF,if_neg c1]at hf
    cases hf
    by_cases c2:o2=o
    ·subst c2
     rcases hsplit p2 with ⟨r,rfl⟩|hq
     ·rw[heq0]at h2
      simp only[PP,List.append_assoc]at h2
      rw[nodeAt_append,hn0]at h2
      simp[nodeAt,hhole]at h2
     ·rcases hbeside p2 hq with ⟨_,hA⟩|⟨rfl,hA⟩
      ·rw[h2]at hA
       obtain⟨r3,g1,g2⟩:=hA.some_l
       exact⟨r3,g1,g2.len,hhdn p2 hq⟩
      ·rw[hn]at h2
       cases h2
       exact⟨_,hA,hlen.1,hhdn _ hq⟩
    ·exact⟨r2,by rw[hnex o2 c2 c1];exact h2,rfl,hhdx o2 c2 p2⟩
  ·have c1:o2≠o1:=fun h=>by rw[h,h1]at hb;cases hb
   have c2:o2≠o:=fun h=>by rw[h,h0]at hb;cases hb
   exact⟨subL f cs,by simp[e',c1,c2,hb,Obj.sub],rfl⟩
 refine⟨e',rfl,rfl,⟨?_,fun o'=> ?_,fun o' k' r' g1 g2=> ?_,fun o' cs g1 g2=> ?_,hR.size,hR.defers,fun t=>by rw[getT_sub];exact(hR.tm t).sub hC⟩,hC,fun o2 h2=>funext fun q=>hhdx o2 h2 q,hhdn p hpp,hoo,by simp[e',Obj.sub],hnex,?_⟩
 ·refine(regroup (e':=e') hR.mem rfl rfl (fun o' q=>if o'=o then(match pre PP q with|some r=>some (o1,r)|none=>some (o,q))else some (o',q)) id (fun o' q k2 r2 g1=> ?_) (fun o2 q2 o3 q3 x g1 g2 s1 s2=> ?_) (fun o2 cs hb=> ?_) (fun o1 o2 _ _ _ _ h=>h)).1
  ·by_cases c2:o'=o
   ·subst c2
    rcases hsplit q with ⟨r,rfl⟩|hq
    ·rw[hunder]at g1
     rw[hhdo]
     refine⟨(hR.mem.node _ _ _ _ g1).subs fun i' j'=>by rw[List.append_assoc,hhdo],fun b' hb'=>⟨(o1,r),by simp[pre_append],blk_nd_of g1 hb'⟩⟩
    ·rw[hhdn q hq]
     have hsub: ∀i' j' k3 r3,cellAt r2 i' j'=some (.sl k3 r3)->(q≠p\/ ¬ (i'=i/\j'=j))->e'.hd o' (q++[(i',j')])=e.hd o' (q++[(i',j')]):=by
      intro i' j' k3 r3 _ hor
      refine hhdn _ ?_
      cases hp:pre PP (q++[(i',j')])with
      |none=>rfl
      |some r=>
       have h3:=pre_some.1 hp
       rcases List.eq_nil_or_concat r with rfl|⟨r',b',rfl⟩
       ·rw[List.append_nil]at h3
        have:=List.append_inj' h3 rfl
        simp only[List.cons.injEq,Prod.mk.injEq,and_true]at this
        rcases hor with h4|h4
        ·exact absurd this.1 h4
        ·exact absurd this.2 h4
       ·rw[List.concat_eq_append,←List.append_assoc]at h3
        have:=(List.append_inj' h3 rfl).1
        rw[this,pre_append]at hq
        cases hq
     rcases hbeside q hq with ⟨hqp,hA⟩|⟨rfl,hA⟩
     ·rw[g1]at hA
      obtain⟨r3,g3,g4⟩:=hA.some_r
      refine⟨(hR.mem.node _ _ _ _ g3).congr g4 (fun _ _=>rfl) (fun i' j' k3 r4 h4=>hsub i' j' k3 r4 h4 (.inl hqp)),fun b' hb'=>⟨(o',q),by simp[hq],blk_nd_of g3 hb'⟩⟩
     ·rw[hA]at g1
      cases g1
      refine⟨?_,fun b' hb'=>⟨(o',q),by simp[hq],blk_nd_of hn hb'⟩⟩
      obtain⟨ad,c',hv,hle,hx⟩:=hR.mem.node o' q _ rows hn
      rw[hh]at hv
      cases hv
      obtain⟨b2,off2,hb2,y1,y2,y3⟩:=hx hc
      cases hb2
      refine⟨_,c,by rw[hh,hlen.1],by rw[hlen.1];exact hle,fun _=>⟨b,off,rfl,y1,fun r hr=> ?_,fun i' j' d hd=> ?_⟩⟩
      ·obtain⟨r3,z1,z2⟩:=hlen.2 r hr
       rw[z2];exact y2 r3 z1
      ·rw[cellAt_setAt hhole]at hd
       by_cases e1:i'=i/\j'=j
       ·obtain⟨rfl,rfl⟩:=e1
        rw[if_pos ⟨rfl,rfl⟩]at hd
        cases hd
        refine⟨_,hcell,?_⟩
        simp only[CellOk]
        have:=hhdo []
        rw[List.append_nil]at this
        exact this.symm
       ·rw[if_neg e1]at hd
        obtain⟨u,z1,z2⟩:=y3 i' j' d hd
        refine⟨u,z1,?_⟩
        cases d with
        |sc v=>exact z2
        |hole=>exact z2
        |sl k3 r3=>
         simp only[CellOk]at z2 ⊢
         rw[hsub i' j' k3 r3 (by rw[cellAt_setAt hhole,if_neg e1];exact hd) (.inr e1)]
         exact z2
   ·rw[hhdx o' c2]
    have c1:o'≠o1:=fun h=>by rw[h,hne1]at g1;cases g1
    rw[hnex o' c2 c1]at g1
    exact⟨(hR.mem.node _ _ _ _ g1).subs fun i' j'=>hhdx o' c2 _,fun b' hb'=>⟨(o',q),by simp[c2],blk_nd_of g1 hb'⟩⟩
  ·by_cases c2:o2=o<;>by_cases c3:o3=o
   ·subst c2;subst c3
    rcases hsplit q2 with ⟨r2,rfl⟩|hq2<;>rcases hsplit q3 with ⟨r3,rfl⟩|hq3
    ·simp only[if_true,pre_append]at g1 g2
     rw[←g2]at g1
     simp only[Option.some.injEq,Prod.mk.injEq,true_and]at g1
     rw[g1];exact⟨rfl,rfl⟩
    ·simp only[if_true,pre_append,hq3]at g1 g2
     rw[←g2]at g1
     simp only[Option.some.injEq,Prod.mk.injEq]at g1
     exact absurd g1.1 hoo
    ·simp only[if_true,pre_append,hq2]at g1 g2
     rw[←g2]at g1
     simp only[Option.some.injEq,Prod.mk.injEq]at g1
     exact absurd g1.1.symm hoo
    ·simp only[if_true,hq2,hq3]at g1 g2
     rw[←g2]at g1
     simpa using g1
   ·subst c2
    simp only[if_true,if_neg c3]at g1 g2
    rcases hsplit q2 with ⟨r2,rfl⟩|hq2
    ·simp only[pre_append]at g1
     rw[←g2]at g1
     simp only[Option.some.injEq,Prod.mk.injEq]at g1
     rw[←g1.1,hne1]at s2
     cases s2
    ·simp only[hq2]at g1
     rw[←g2]at g1
     simp only[Option.some.injEq,Prod.mk.injEq]at g1
     exact absurd g1.1.symm c3
   ·subst c3
    simp only[if_true,if_neg c2]at g1 g2
    rcases hsplit q3 with ⟨r3,rfl⟩|hq3
    ·simp only[pre_append]at g2
     rw[←g1]at g2
     simp only[Option.some.injEq,Prod.mk.injEq]at g2
     rw[←g2.1,hne1]at s1
     cases s1
    ·simp only[hq3]at g2
     rw[←g1]at g2
     simp only[Option.some.injEq,Prod.mk.injEq]at g2
     exact absurd g2.1.symm c2
   ·simp only[if_neg c2,if_neg c3]at g1 g2
    rw[←g2]at g1
    simpa using g1
  ·obtain⟨cs0,g1,rfl⟩:=hbox hb
   refine⟨cs0,g1,rfl,fun j c hj=> ?_⟩
   rw[subL_eq,List.getElem?_map]at hj
   cases hx:cs0[j]? with
   |none=>simp[hx]at hj
   |some x=>simp[hx]at hj;subst hj;exact⟨x,rfl,fun u hu=>hu.sub hC⟩
 ·rw[getO_sub]
  simp only[St.gone,getO_del,getO_putO,e']
  by_cases c1:o'=o1
  ·simp[c1,f,PP]
  ·by_cases c2:o'=o
   ·simp[c2,f,PP]
   ·simp[c1,c2,hR.ob,f,PP]
 ·have h3:=Obj.sub_arr.1 g2
  by_cases c1:o'=o1
  ·rw[if_pos c1]at h3;cases h3
  ·rw[if_neg c1]at h3
   by_cases c2:o'=o
   ·subst c2
    rw[hhdn [] (by simp[PP];cases p<;>rfl)]
    exact hR.pinh _ k0 rows0 g1 h0
   ·rw[if_neg c2]at h3
    rw[hhdx o' c2];exact hR.pinh o' k' r' g1 h3
 ·obtain⟨cs0,h3,_⟩:=hbox g2
  exact hR.pinb o' cs0 g1 h3
 ·rcases hbeside p hpp with ⟨h3,_⟩|⟨_,h3⟩
  ·exact absurd rfl h3
  ·exact⟨_,h3,hlen.1⟩
end Go.Proofs.YtbolhfegdocpeaaGreat.Ow
