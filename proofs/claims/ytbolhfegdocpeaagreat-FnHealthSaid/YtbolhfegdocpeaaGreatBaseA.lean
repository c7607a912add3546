/- The small machine over trees, and that what it computes is what the calls of the loaded functions return: part 1. -/
import Derived.Calls
import Derived.Orders
import Derived.Below
import Derived.Laws.Entries
import Derived.Laws.Sem
import Derived.Laws.Cells
import Derived.Laws.BytesString
import Derived.Laws.Strings
namespace Go.Proofs.YtbolhfegdocpeaaGreat.Ow
open Go
set_option linter.unusedVariables false
set_option linter.unusedSimpArgs false
inductive T where
 |sc (v:Value)
 |sl (k:Nat) (rows:List (List T))
 |hole
abbrev AO:=List (Nat×Nat)
inductive AV where
 |non
 |dead
 |und
 |sc (v:Value)
 |nil (k:Nat)
 |im (k:Nat) (rows:List (List T))
 |al (i k:Nat) (rows:List (List T))
 |ref (o:Nat) (p:AO)
 |vw (o:Nat) (p:AO) (lo hi:Nat)
 |pb (o:Nat) (j:Nat)
 |pa (o:Nat) (p:AO) (i j:Nat)
 |pim (cells:List T)
 |agg (l:List AV)
 |tup (l:List AV)
 |clo (f:Nat) (caps:List AV)
inductive Obj where
 |none
 |box (cells:List AV)
 |arr (k:Nat) (rows:List (List T))
structure St where
 n:Nat
 m:Nat
 tm:List (Nat×AV)
 ob:List (Nat×Obj)
def At:List (Nat×AV)->Nat->AV
 |[],_=> .non
 |(m,a)::l,t=>if t=m then a else At l t
def AR:List (Nat×Obj)->Nat->Obj
 |[],_=> .none
 |(m,a)::l,t=>if t=m then a else AR l t
def M2:List (Nat×Obj)->Nat->List (Nat×Obj)
 |[],_=>[]
 |(m,a)::l,t=>if t=m then M2 l t else(m,a)::M2 l t
def AM {α:Type} (rows:List (List α)) (i j:Nat):Option α:=
 match rows[i]? with
 |some r=>r[j]?
 |none=>none
def DI {α:Type} (rows:List (List α)) (i j:Nat) (d:α):List (List α):=
 match rows[i]? with
 |some r=>rows.set i (r.set j d)
 |none=>rows
def AN:Nat->List (List T)->AO->Option (Nat×List (List T))
 |k,rows,[]=>some (k,rows)
 |_,rows,(i,j)::p=>
  match AM rows i j with
  |some (.sl k' rows')=>AN k' rows' p
  |_=>none
def CV (new:List (List T)):List (List T)->AO->Option (List (List T))
 |_,[]=>some new
 |rows,(i,j)::p=>
  match AM rows i j with
  |some (.sl k' rows')=>
   match CV new rows' p with
   |some r=>some (DI rows i j (.sl k' r))
   |none=>none
  |_=>none
def Hq:List (List T)->AO->Option (List (List T))
 |_,[]=>none
 |rows,(i,j)::p=>
  match AM rows i j with
  |some (.sl k' rows')=>
   match p with
   |[]=>some (DI rows i j .hole)
   |b::p'=>
    match Hq rows' (b::p')with
    |some r=>some (DI rows i j (.sl k' r))
    |none=>none
  |_=>none
inductive L where
 |sc (v:Value)
 |nil (k:Nat)
 |im (k:Nat) (rows:List (List T))
 |al (i k:Nat) (rows:List (List T))
 |own (k:Nat) (rows:List (List T))
 |sh (d:Nat)
inductive Arg where
 |v (l:L)
 |a (ls:List L)
 |pm (ls:List L)
 |pi (ts:List T)
 |c (f:Nat) (caps:List (List T))
inductive RV where
 |v (l:L)
 |a (ls:List L)
 |p (ls:List L)
structure Res where
 out:List RV
 fin:List (Option (List (List T)))
 pfin:List (List L)
inductive X where
 |t (n:Nat)
 |k (a:AV)
inductive I where
 |mov (x:X)
 |pick (c a b:X)
 |bin (op:BinOp) (x y:X)
 |beq (op:BinOp) (x y:X)
 |un (op:UnOp) (x:X)
 |toInt (k:IntKind) (x:X)
 |toStr (x:X)
 |b2s (x:X)
 |load (n:Option Nat) (x:X)
 |take (o:Nat) (n:Option Nat) (x:X)
 |store (o:Nat) (n:Option Nat) (x v:X)
 |fa (off:Nat) (x:X)
 |fld (off:Nat) (n:Option Nat) (x:X)
 |ia (k:Nat) (x i:X)
 |iaa (len k:Nat) (x i:X)
 |ixs (x i:X)
 |len (x:X)
 |slen (x:X)
 |mm (max:Bool) (x y:X)
 |sls (x:X) (lo hi:Option X)
 |sl (k:Nat) (x:X) (lo hi:Option X)
 |sl0 (k:Nat) (x:X)
 |bld (zero:List AV) (parts:List (Nat×Nat×X))
 |box (o:Nat) (x:X)
 |new (o:Nat) (zero:List AV)
 |bsl (o:Nat) (k:Nat) (parts:List X)
 |mk (o:Nat) (k:Nat) (zero:List T) (bytes:Nat) (x:X)
 |app (o:Nat) (k:Nat) (bytes:Nat) (x y:X)
 |app0 (o:Nat) (k:Nat) (bytes:Nat) (zero:List T) (x y:X)
 |cpy (k:Nat) (d s:X)
 |clr (k:Nat) (zero:List T) (x:X)
 |ext (j:Nat) (x:X)
 |nchk (x:X)
 |fn (f:Nat) (caps:List X)
 |cap0 (x:X)
 |bad
 |call (o:Nat) (f:Nat) (xs:List X)
 |callc (o:Nat) (f:Nat) (xs:List X) (cs:List Nat)
 |callv (o:Nat) (x:X) (xs:List X)
structure Ins where
 d:Option Nat
 op:I
 g:Option (Nat×Bool)
inductive D where
 |fin
 |one (i:Ins) (t:D)
 |loud (i:Ins) (hang:List Ins) (t:D)
 |alt (a b:D)
inductive C where
 |skip
 |reg (l:List Ins) (drop:List Nat)
 |dreg (t:D) (drop:List Nat)
 |seq (a b:C)
 |cond (x:X) (a b:C)
 |blk (id:Nat) (a:C)
 |loop (o:Nat) (live:List Nat) (a:C)
 |exit (id:Nat)
 |ret
inductive Ex where
 |normal
 |exit (id:Nat)
 |ret
inductive RP where
 |t (t:Nat)
 |cell (t:Nat) (n:Option Nat)
structure PF where
 n:Nat
 modes:List Nat
 body:C
 res:List RP
def Dn:Value->Bool
 | .bool _=>true
 | .int _ _=>true
 | .string _=>true
 | .pointer none=>true
 | .nilFunc=>true
 |_=>false
def ev (tm:List (Nat×AV)):X->AV
 | .t n=>At tm n
 | .k a=>a
mutual
def AV.sub (f:Nat->AO->Option (Nat×AO)):AV->AV
 | .ref o p=>match f o p with
  |some (o',p')=> .ref o' p'
  |none=> .dead
 | .vw o p lo hi=>match f o p with
  |some (o',p')=> .vw o' p' lo hi
  |none=> .dead
 | .pa o p i j=>match f o p with
  |some (o',p')=> .pa o' p' i j
  |none=> .dead
 | .agg l=> .agg (Bv f l)
 | .tup l=> .tup (Bv f l)
 | .clo g l=> .clo g (Bv f l)
 | .non=> .non
 | .dead=> .dead
 | .und=> .und
 | .sc v=> .sc v
 | .nil k=> .nil k
 | .im k rows=> .im k rows
 | .al i k rows=> .al i k rows
 | .pb o j=> .pb o j
 | .pim c=> .pim c
def Bv (f:Nat->AO->Option (Nat×AO)):List AV->List AV
 |[]=>[]
 |a::l=>a.sub f::Bv f l
end
def Mp (f:Nat->AO->Option (Nat×AO)):List (Nat×AV)->List (Nat×AV)
 |[]=>[]
 |(t,a)::l=>(t,a.sub f)::Mp f l
def Obj.sub (f:Nat->AO->Option (Nat×AO)):Obj->Obj
 | .box cells=> .box (Bv f cells)
 | .arr k rows=> .arr k rows
 | .none=> .none
def KO (f:Nat->AO->Option (Nat×AO)):List (Nat×Obj)->List (Nat×Obj)
 |[]=>[]
 |(o,x)::l=>(o,x.sub f)::KO f l
def St.sub (s:St) (f:Nat->AO->Option (Nat×AO)):St:={s with tm:=Mp f s.tm,ob:=KO f s.ob}
def St.putO (s:St) (o:Nat) (x:Obj):St:={s with ob:=(o,x)::M2 s.ob o}
def St.gone (s:St) (o:Nat):St:={s with ob:=M2 s.ob o}
def St.new (s:St) (o:Nat) (x:Obj):Option St:=
 match AR s.ob o with
 | .none=>if s.m<=o then some (s.putO o x)else none
 |_=>none
def St.put (s:St) (d:Option Nat) (a:AV):Option St:=
 match d with
 |none=>some s
 |some t=>if t<s.n then some {s with tm:=(t,a)::s.tm} else none
def pre:AO->AO->Option AO
 |[],p=>some p
 |_::_,[]=>none
 |a::q,b::p=>if a=b then pre q p else none
def QD (op:BinOp):Value->Value->Option Value
 | .int k a,.int k' b=>
  match op with
  | .shl=>if b<0 then none else some (.int k (k.wrap (a*2 ^ (min b.toNat k.bits))))
  | .shr=>if b<0 then none else some (.int k (a.fdiv (2 ^ (min b.toNat k.bits))))
  |_=>
   if k=k' then
    match op with
    | .add=>some (.int k (k.wrap (a+b)))
    | .sub=>some (.int k (k.wrap (a - b)))
    | .mul=>some (.int k (k.wrap (a*b)))
    | .quo=>if b=0 then none else some (.int k (k.wrap (a.tdiv b)))
    | .rem=>if b=0 then none else some (.int k (a.tmod b))
    | .and=>some (.int k (bits .and k a b))
    | .or=>some (.int k (bits .or k a b))
    | .xor=>some (.int k (bits .xor k a b))
    | .andNot=>some (.int k (bits .andNot k a b))
    | .eql=>some (.bool (a==b))
    | .neq=>some (.bool (a != b))
    | .lss=>some (.bool (decide (a<b)))
    | .leq=>some (.bool (decide (a<=b)))
    | .gtr=>some (.bool (decide (a>b)))
    | .geq=>some (.bool (decide (a ≥ b)))
    |_=>none
   else none
 | .string x,.string y=>
  match op with
  | .add=>if x.size+y.size<=9223372036854775807 then some (.string (x++y))else none
  | .eql=>some (.bool (x.toList==y.toList))
  | .neq=>some (.bool (!(x.toList==y.toList)))
  |_=>none
 |_,_=>none
def Ui (op:BinOp) (x y:Bool):Option Value:=
 match op with
 | .eql=>some (.bool (x==y))
 | .neq=>some (.bool (!(x==y)))
 |_=>none
def beqA (op:BinOp):AV->AV->Option AV
 | .sc (.bool x),.sc (.bool y)=>(Ui op x y).map .sc
 |_,_=>none
def binA (op:BinOp):AV->AV->Option AV
 | .sc x,.sc y=>(QD op x y).map .sc
 |_,_=>none
def unA (op:UnOp):AV->Option AV
 | .sc (.int k n)=>
  match op with
  | .neg=>some (.sc (.int k (k.wrap (0 - n))))
  |_=>none
 | .sc (.bool b)=>
  match op with
  | .not=>some (.sc (.bool (!b)))
  |_=>none
 |_=>none
def ofD (o:Nat) (p:AO) (i j:Nat):T->AV
 | .sc v=> .sc v
 | .sl _ _=> .ref o (p++[(i,j)])
 | .hole=> .dead
def Tj:T->AV
 | .sc v=> .sc v
 | .sl k rows=> .im k rows
 | .hole=> .dead
def JX (o:Nat) (p:AO) (i:Nat):Nat->List T->List AV
 |_,[]=>[]
 |j,d::l=>ofD o p i j d::JX o p i (j+1) l
def J7:List T->List AV
 |[]=>[]
 |d::l=>Tj d::J7 l
def CR (ob:List (Nat×Obj)) (o:Nat) (p:AO):Option (Nat×List (List T)):=
 match AR ob o with
 | .arr k rows=>AN k rows p
 |_=>none
def cells {α:Type} (l:List α) (j n:Nat):Option (List α):=if j+n<=l.length then some ((l.drop j).take n)else none
def FL (ob:List (Nat×Obj)) (n:Option Nat):AV->Option AV
 | .pb o j=>
  match AR ob o with
  | .box cs=>
   match n with
   |none=>cs[j]?
   |some n=>(cells cs j n).map .agg
  |_=>none
 | .pa o p i j=>
  match CR ob o p with
  |some (_,rows)=>
   match rows[i]? with
   |some r=>
    match n with
    |none=>r[j]?.map (ofD o p i j)
    |some n=>(cells r j n).map fun l=> .agg (JX o p i j l)
   |none=>none
  |none=>none
 | .pim cs=>
  match n with
  |none=>cs[0]?.map Tj
  |some n=>(cells cs 0 n).map fun l=> .agg (J7 l)
 |_=>none
def Be (ob:List (Nat×Obj)):AV->Option (Nat×List (List T))
 | .nil k=>some (k,[])
 | .im k rows=>some (k,rows)
 | .al _ k rows=>some (k,rows)
 | .ref o p=>CR ob o p
 | .vw o p lo hi=>
  match CR ob o p with
  |some (k,rows)=>some (k,(rows.take hi).drop lo)
  |none=>none
 |_=>none
def Mt (ob:List (Nat×Obj)):AV->Option Nat
 | .nil _=>some 0
 | .im _ rows=>some rows.length
 | .al _ _ rows=>some rows.length
 | .ref o p=>
  match CR ob o p with
  |some (_,rows)=>some rows.length
  |none=>none
 | .vw _ _ lo hi=>some (hi - lo)
 |_=>none
def Gg:AV->Option Nat
 | .sc (.int _ i)=>if 0<=i then some i.toNat else none
 |_=>none
def Pf (ob:List (Nat×Obj)) (k:Nat) (x:AV) (i:Nat):Option AV:=
 match x with
 | .im k' rows=>if k'=k then(rows[i]?).map .pim else none
 | .al _ k' rows=>if k'=k then(rows[i]?).map .pim else none
 | .ref o p=>
  match CR ob o p with
  |some (k',rows)=>if k'=k/\i<rows.length then some (.pa o p i 0)else none
  |none=>none
 | .vw o p lo hi=>
  match CR ob o p with
  |some (k',rows)=>if k'=k/\lo+i<hi/\hi<=rows.length then some (.pa o p (lo+i) 0)else none
  |none=>none
 |_=>none
def PI (x:AV) (n:Nat):Option AV:=
 match x with
 | .pb o j=>some (.pb o (j+n))
 | .pa o p i j=>some (.pa o p i (j+n))
 | .pim cs=>some (.pim (cs.drop n))
 |_=>none
def GS (ob:List (Nat×Obj)) (k:Nat) (x:AV) (lo:Nat) (hi:Option Nat):Option AV:=
 match x with
 | .nil k'=>if k'=k/\lo=0/\(hi=none\/hi=some 0)then some (.nil k)else none
 | .im k' rows=>
  if k'=k then
   match hi with
   |none=>if lo<=rows.length then some (.im k (rows.drop lo))else none
   |some h=>if lo<=h/\h<=rows.length then some (.im k ((rows.take h).drop lo))else none
  else none
 | .ref o p=>
  match CR ob o p with
  |some (k',rows)=>
   if k'=k then
    match hi with
    |none=>if lo<=rows.length then some (.vw o p lo rows.length)else none
    |some h=>if lo<=h/\h<=rows.length then some (.vw o p lo h)else none
   else none
  |none=>none
 | .vw o p l0 h0=>
  match CR ob o p with
  |some (k',_)=>
   if k'=k then
    match hi with
    |none=>if l0+lo<=h0 then some (.vw o p (l0+lo) h0)else none
    |some h=>if lo<=h/\l0+h<=h0 then some (.vw o p (l0+lo) (l0+h))else none
   else none
  |none=>none
 |_=>none
def E0 (tm:List (Nat×AV)):Option X->Option (Option Nat)
 |none=>some none
 |some x=>(Gg (ev tm x)).map some
def B5:List (List T)->Option (List UInt8)
 |[]=>some []
 |[.sc (.int .u8 n)]::l=>(B5 l).map fun m=>UInt8.ofNat n.toNat::m
 |_::_=>none
def toT (ob:List (Nat×Obj)) (x:AV):Option T:=
 match x with
 | .sc v=>some (.sc v)
 | .dead=>some .hole
 |x=>(Be ob x).map fun(k,r)=> .sl k r
def CD {α β:Type} (f:α->Option β):List α->Option (List β)
 |[]=>some []
 |a::l=>match f a with
  |some b=>match CD f l with
   |some m=>some (b::m)
   |none=>none
  |none=>none
def oneCell:AV->Bool
 | .non=>false
 | .und=>false
 | .tup _=>false
 | .agg _=>false
 |_=>true
def HX:AV->Bool
 | .non=>false
 | .und=>false
 | .tup _=>false
 | .agg l=>l.all oneCell
 |_=>true
def Df:AV->List AV
 | .agg l=>l
 |a=>[a]
def isIm:AV->Bool
 | .sc _=>true
 | .nil _=>true
 | .im _ _=>true
 |_=>false
def Fd:List T->Bool
 |[]=>true
 | .sc _::l=>Fd l
 | .hole::l=>Fd l
 | .sl _ _::_=>false
def Bw:List AV->Bool
 |[]=>true
 | .sc _::l=>Bw l
 |_::_=>false
def BA:List (List T)->Bool
 |[]=>true
 |r::l=>Fd r&&BA l
def window {α:Type} (l:List α) (lo hi:Nat):List α:=(l.take hi).drop lo
def EM (o:Nat) (p:AO) (n lo hi:Nat) (full:Bool) (o2:Nat) (q:AO):Option (Nat×AO):=
 if o2=o then
  match pre p q with
  |none=>some (o2,q)
  |some []=>if full then some (n,[])else none
  |some ((i,j)::r)=>if full then some (n,(i,j)::r)else if lo<=i/\i<hi then some (n,(i - lo,j)::r)else none
 else some (o2,q)
structure Ao where
 s:St
 l:List AV
def Ao.sub (h:Ao) (f:Nat->AO->Option (Nat×AO)):Ao:={s:=h.s.sub f,l:=Bv f h.l}
def Ao.cut (h:Ao) (n o:Nat) (p:AO) (lo hi:Nat) (full:Bool):Option Ao:=
 match AR h.s.ob n with
 | .none=>
  match AR h.s.ob o with
  | .arr k0 rows0=>
   match AN k0 rows0 p with
   |some (k,rows)=>
    if lo<=hi/\hi<=rows.length/\h.s.m<=n then
     match p with
     |[]=>some (({h with s:=(h.s.gone o).putO n (.arr k (if full then rows else window rows lo hi))}:Ao).sub (EM o p n lo hi full))
     |_::_=>
      match Hq rows0 p with
      |some r0=>some (({h with s:=(h.s.putO o (.arr k0 r0)).putO n (.arr k (if full then rows else window rows lo hi))}:Ao).sub (EM o p n lo hi full))
      |none=>none
    else none
   |none=>none
  |_=>none
 |_=>none
def Ao.root (h:Ao) (i n:Nat):Option Ao:=
 match h.l[i]? with
 |some (.sc _)=>some h
 |some (.nil k)=>
  match AR h.s.ob n with
  | .none=>if h.s.m<=n then some {s:=h.s.putO n (.arr k []),l:=h.l.set i (.ref n [])} else none
  |_=>none
 |some (.ref o p)=>
  match p with
  |[]=>some h
  |_::_=>
   match CR h.s.ob o p with
   |some (_,rows)=>h.cut n o p 0 rows.length true
   |none=>none
 |some (.vw o p lo hi)=>
  match h.cut n o p lo hi false with
  |some h'=>some {h' with l:=h'.l.set i (.ref n [])}
  |none=>none
 |_=>none
def Ao.roots (h:Ao) (base i:Nat):Nat->Option Ao
 |0=>some h
 |m+1=>
  match h.root i base with
  |some h'=>h'.roots (base+1) (i+1) m
  |none=>none
def Az {α:Type} (r:List α) (j:Nat) (ds:List α):List α:=r.take j++ds++r.drop (j+ds.length)
def IY:AV->T
 | .sc v=> .sc v
 |_=> .hole
def E9 (o1 o:Nat) (p:AO) (o2:Nat) (q:AO):Option (Nat×AO):=if o2=o1 then some (o,p++q)else some (o2,q)
def St.adopt (s:St) (o1 o:Nat) (p:AO) (i j:Nat):Option St:=
 if o1=o then none else
 match AR s.ob o1,AR s.ob o with
 | .arr k1 rows1,.arr k0 rows0=>
  match AN k0 rows0 p with
  |some (_,rows)=>
   match AM rows i j with
   |some .hole=>
    match CV (DI rows i j (.sl k1 rows1)) rows0 p with
    |some r=>some (((s.putO o (.arr k0 r)).gone o1).sub (E9 o1 o (p++[(i,j)])))
    |none=>none
   |_=>none
  |none=>none
 |_,_=>none
def St.adopts (s:St) (o:Nat) (p:AO) (i:Nat):Nat->List AV->Option St
 |_,[]=>some s
 |j,.sc _::l=>s.adopts o p i (j+1) l
 |j,.ref o1 []::l=>
  match s.adopt o1 o p i j with
  |some s'=>s'.adopts o p i (j+1) l
  |none=>none
 |_,_::_=>none
def Ao.detach (h:Ao) (base o:Nat) (p:AO) (i:Nat):Nat->Nat->Option Ao
 |_,0=>some h
 |j,m+1=>
  match CR h.s.ob o (p++[(i,j)])with
  |some (_,rows)=>
   match h.cut base o (p++[(i,j)]) 0 rows.length true with
   |some h'=>h'.detach (base+1) o p i (j+1) m
   |none=>none
  |none=>h.detach (base+1) o p i (j+1) m
def St.write (s:St) (o:Nat) (p:AO) (i j:Nat) (vs:List AV):Option St:=
 match AR s.ob o with
 | .arr k0 rows0=>
  match AN k0 rows0 p with
  |some (_,rows)=>
   match rows[i]? with
   |some r=>
    if j+vs.length<=r.length/\Fd ((r.drop j).take vs.length)=true then
     match CV (rows.set i (Az r j (vs.map IY))) rows0 p with
     |some r1=>some (s.putO o (.arr k0 r1))
     |none=>none
    else none
   |none=>none
  |none=>none
 |_=>none
def Ke (s:St) (base o:Nat) (p:AO) (i j:Nat) (vs:List AV):Option St:=
 if Bw vs then
  match ({s,l:=[]}:Ao).detach (base+50) o p i j vs.length with
  |some h=>h.s.write o p i j vs
  |none=>none
 else
  match ({s,l:= .pa o p i j::vs}:Ao).roots base 1 vs.length with
  |some h=>
   match h.l with
   | .pa o' p' i' j'::vs'=>
    match ({s:=h.s,l:=[]}:Ao).detach (base+50) o' p' i' j' vs'.length with
    |some h'=>
     match h'.s.write o' p' i' j' vs' with
     |some s'=>s'.adopts o' p' i' j' vs'
     |none=>none
    |none=>none
   |_=>none
  |none=>none
def HD (s:St) (base:Nat) (x:AV) (vs:List AV):Option St:=
 match x with
 | .pb o j=>
  match AR s.ob o with
  | .box cs=>if j+vs.length<=cs.length then some (s.putO o (.box (Az cs j vs)))else none
  |_=>none
 | .pa o p i j=>Ke s base o p i j vs
 |_=>none
def QS (s:St) (base:Nat) (n:Option Nat) (x v:AV):Option St:=
 match n with
 |none=>if oneCell v then HD s base x [v]else none
 |some m=>match v with
  | .agg l=>if l.length=m/\0<m/\l.all oneCell then HD s base x l else none
  |_=>none
def Ev:List T->List T
 |[]=>[]
 | .sl _ _::l=> .hole::Ev l
 |d::l=>d::Ev l
def Cb:List (List T)->List (List T)
 |[]=>[]
 |r::l=>Ev r::Cb l
def MU (o2 lo hi o at_:Nat) (o':Nat) (q:AO):Option (Nat×AO):=
 if o'=o2 then
  match q with
  |(i,j)::r=>if lo<=i/\i<hi then some (o,(at_+(i - lo),j)::r)else some (o',q)
  |[]=>some (o',q)
 else some (o',q)
def I2 (o1 o:Nat) (o':Nat) (q:AO):Option (Nat×AO):=
 if o'=o1 then
  match q with
  |[]=>none
  |b::r=>some (o,b::r)
 else some (o',q)
def FQ (s:St) (k:Nat):AV->Option (Nat×List (List T))
 | .ref o1 []=>match AR s.ob o1 with
  | .arr k' rows=>if k'=k then some (o1,rows)else none
  |_=>none
 |_=>none
def RO (s:St):AV->Option (Nat×Nat×List (List T)×Nat×Nat)
 | .ref o []=>match AR s.ob o with
  | .arr k rows=>some (o,k,rows,0,rows.length)
  |_=>none
 | .vw o [] lo hi=>match AR s.ob o with
  | .arr k rows=>if lo<=hi/\hi<=rows.length then some (o,k,rows,lo,hi)else none
  |_=>none
 |_=>none
def Ls (s:St) (o1 o k:Nat) (rows:List (List T)):Option St:=((s.gone o1).sub (I2 o1 o)).new o (.arr k rows)
def appA (s:St) (o k bytes:Nat) (x y:AV):Option (AV×St):=
 match ({s,l:=[x,y]}:Ao).root 0 (o+1)with
 |some h=>
  match h.l with
  |[x',y']=>
   match FQ h.s k x',Be h.s.ob y' with
   |some (o1,rows),some (k',new)=>
    if k'=k/\0<bytes/\(rows.length+new.length)*bytes<=35184372088832/\o1≠o then
     if BA new then
      match Ls h.s o1 o k (rows++new)with
      |some s'=>some (.ref o [],s')
      |none=>none
     else
      match RO h.s y' with
      |some (o2,_,rows2,lo,hi)=>
       if o1=o2 then none else
       match Ls (h.s.putO o2 (.arr k (Az rows2 lo (Cb (window rows2 lo hi))))) o1 o k (rows++new)with
       |some s'=>some (.ref o [],s'.sub (MU o2 lo hi o rows.length))
       |none=>none
      |none=>none
    else none
   |_,_=>none
  |_=>none
 |none=>none
def Uk (s:St) (o k bytes:Nat) (zero:List T) (x:AV) (n:Nat):Option (AV×St):=
 match ({s,l:=[x]}:Ao).root 0 (o+1)with
 |some h=>
  match h.l with
  |[x']=>
   match FQ h.s k x' with
   |some (o1,rows)=>
    if 0<bytes/\(rows.length+n)*bytes<=35184372088832/\zero.length=k/\Fd zero=true/\o1≠o then
     match Ls h.s o1 o k (rows++List.replicate n zero)with
     |some s'=>some (.ref o [],s')
     |none=>none
    else none
   |none=>none
  |_=>none
 |none=>none
def FC (ob:List (Nat×Obj)):AV->Option (Nat×AO×Nat×List (List T)×Nat×Nat)
 | .ref o p=>match CR ob o p with
  |some (k,rows)=>some (o,p,k,rows,0,rows.length)
  |none=>none
 | .vw o p lo hi=>match CR ob o p with
  |some (k,rows)=>if lo<=hi/\hi<=rows.length then some (o,p,k,rows,lo,hi)else none
  |none=>none
 |_=>none
def Fn (s:St) (o:Nat) (p:AO) (rows:List (List T)):Option St:=
 match AR s.ob o with
 | .arr k0 rows0=>
  match CV rows rows0 p with
  |some r=>some (s.putO o (.arr k0 r))
  |none=>none
 |_=>none
def IX (o:Nat) (p:AO) (o2:Nat) (q:AO):Option (Nat×AO):=
 if o2=o then
  match pre p q with
  |some (_::_)=>none
  |_=>some (o2,q)
 else some (o2,q)
def cpyA (s:St) (k:Nat) (d y:AV):Option (AV×St):=
 match FC s.ob d,Be s.ob y with
 |some (o,p,k',rows,lo,hi),some (k2,src)=>
  if k'=k/\k2=k/\BA rows=true/\BA src=true then
   match Fn s o p (rows.take lo++src.take (min src.length (hi - lo))++rows.drop (lo+min src.length (hi - lo)))with
   |some s'=>some (.sc (.int .i64 (min src.length (hi - lo):Nat)),s')
   |none=>none
  else none
 |_,_=>none
def clrA (s:St) (k:Nat) (zero:List T) (x:AV):Option St:=
 match FC s.ob x with
 |some (o,p,k',rows,lo,hi)=>
  if k'=k/\zero.length=k then
   match Fn s o p (rows.take lo++List.replicate (hi - lo) zero++rows.drop hi)with
   |some s'=>some (if BA rows then s' else s'.sub (IX o p))
   |none=>none
  else none
 |none=>none
def B9 (o:Nat):Nat->List (List AV)->St->Option St
 |_,[],s=>some s
 |i,r::l,s=>match s.adopts o [] i 0 r with
  |some s'=>B9 o (i+1) l s'
  |none=>none
def DF (k:Nat):Nat->List AV->List (List AV)
 |0,_=>[]
 |n+1,l=>l.take k::DF k n (l.drop k)
def isImR:AV->Bool
 | .im _ _=>true
 |_=>false
def bslA (s:St) (o k:Nat) (vs:List (List AV)):Option (AV×St):=
 if vs.all fun r=>r.length=k/\r.all oneCell then
  if vs.all fun r=>Bw r then(s.new o (.arr k (vs.map fun r=>r.map IY))).map fun s'=>(.ref o [],s')
  else if vs.any fun r=>r.any isImR then
   if vs.all fun r=>r.all isIm then(CD (CD (toT s.ob)) vs).map fun rows=>(.im k rows,s)else none
  else
   match ({s,l:=vs.flatten}:Ao).roots (o+1) 0 vs.flatten.length with
   |some h=>
    match h.s.new o (.arr k ((DF k vs.length h.l).map fun r=>r.map IY))with
    |some s'=>(B9 o 0 (DF k vs.length h.l) s').map fun s2=>(.ref o [],s2)
    |none=>none
   |none=>none
 else none
def AW:Nat->List L->List AV×List (Nat×Obj)×Nat
 |o,[]=>([],[],o)
 |o,.sc v::ls=>match AW o ls with
  |(as,os,m)=>(.sc v::as,os,m)
 |o,.nil k::ls=>match AW o ls with
  |(as,os,m)=>(.nil k::as,os,m)
 |o,.im k rows::ls=>match AW o ls with
  |(as,os,m)=>(.im k rows::as,os,m)
 |o,.al i k rows::ls=>match AW o ls with
  |(as,os,m)=>(.al i k rows::as,os,m)
 |o,.own k rows::ls=>match AW (o+1) ls with
  |(as,os,m)=>(.ref o []::as,(o,.arr k rows)::os,m)
 |o,.sh d::ls=>match AW o ls with
  |(as,os,m)=>(.ref (o - 1 - d) []::as,os,m)
def AU (o:Nat):Arg->AV×List (Nat×Obj)×Nat
 | .v l=>match AW o [l]with
  |(as,os,m)=>(as.headD .dead,os,m)
 | .a ls=>match AW o ls with
  |(as,os,m)=>(.agg as,os,m)
 | .pm ls=>match AW (o+1) ls with
  |(as,os,m)=>(.pb o 0,(o,.box as)::os,m)
 | .pi ts=>(.pim ts,[],o)
 | .c f caps=>(.clo f (caps.map .pim),[],o)
def AK:Nat->Nat->List Arg->List (Nat×AV)×List (Nat×Obj)×Nat
 |_,o,[]=>([],[],o)
 |t,o,a::l=>
  match AU o a with
  |(v,os,m)=>match AK (t+1) m l with
   |(tm,os',m')=>((t,v)::tm,os++os',m')
def Nm (n:Nat) (args:List Arg):St:=
 match AK 0 0 args with
 |(tm,os,m)=>{n,m,tm,ob:=os}
def CH (o:Nat):RV->AV×List (Nat×Obj)×Nat
 | .v l=>AU o (.v l)
 | .a ls=>AU o (.a ls)
 | .p ls=>AU o (.pm ls)
def CU:Nat->List RV->List AV×List (Nat×Obj)×Nat
 |o,[]=>([],[],o)
 |o,r::l=>match CH o r with
  |(a,os,m)=>match CU m l with
   |(as,os',m')=>(a::as,os++os',m')
mutual
def AV.mv (f:Nat->Option Nat):AV->AV
 | .ref o p=>match f o with
  |some o'=> .ref o' p
  |none=> .dead
 | .vw o p lo hi=>match f o with
  |some o'=> .vw o' p lo hi
  |none=> .dead
 | .pb o j=>match f o with
  |some o'=> .pb o' j
  |none=> .dead
 | .pa o p i j=>match f o with
  |some o'=> .pa o' p i j
  |none=> .dead
 | .agg l=> .agg (mvL f l)
 | .tup l=> .tup (mvL f l)
 | .clo g l=> .clo g (mvL f l)
 | .non=> .non
 | .dead=> .dead
 | .und=> .und
 | .sc v=> .sc v
 | .nil k=> .nil k
 | .im k rows=> .im k rows
 | .al i k rows=> .al i k rows
 | .pim c=> .pim c
def mvL (f:Nat->Option Nat):List AV->List AV
 |[]=>[]
 |a::l=>a.mv f::mvL f l
end
mutual
def OF:AV->Bool
 | .al _ _ _=>false
 | .agg l=>C8 l
 | .tup l=>C8 l
 | .clo _ l=>C8 l
 | .im _ _=>true
 | .pim _=>true
 | .ref _ _=>true
 | .vw _ _ _ _=>true
 | .pb _ _=>true
 | .pa _ _ _ _=>true
 | .non=>true
 | .dead=>true
 | .und=>true
 | .sc _=>true
 | .nil _=>true
def C8:List AV->Bool
 |[]=>true
 |a::l=>OF a&&C8 l
end
mutual
def AV.mvt (f:Nat->Option Nat) (g:Nat->AV):AV->AV
 | .al j _ _=>g j
 | .agg l=> .agg (PR f g l)
 | .tup l=> .tup (PR f g l)
 | .clo n l=> .clo n (PR f g l)
 | .im k rows=> .im k rows
 | .pim c=> .pim c
 | .ref o p=>AV.mv f (.ref o p)
 | .vw o p lo hi=>AV.mv f (.vw o p lo hi)
 | .pb o j=>AV.mv f (.pb o j)
 | .pa o p i j=>AV.mv f (.pa o p i j)
 | .non=> .non
 | .dead=> .dead
 | .und=> .und
 | .sc v=> .sc v
 | .nil k=> .nil k
def PR (f:Nat->Option Nat) (g:Nat->AV):List AV->List AV
 |[]=>[]
 |a::l=>a.mvt f g::PR f g l
end
def BO {α:Type}:List AV->List α->List (Nat×α)
 |[],_=>[]
 |_::_,[]=>[]
 | .al i _ _::ys,x::xs=>(i,x)::BO ys xs
 |_::ys,_::xs=>BO ys xs
def FD {α:Type}:List (Nat×α)->Nat->Option α
 |[],_=>none
 |(i,x)::l,j=>if i=j then some x else FD l j
def D6 {α:Type}:List (Nat×α)->List Nat
 |[]=>[]
 |(i,_)::l=>i::D6 l
def Nz (f:Nat->AO->Option (Nat×AO)) (l:List (Nat×AV)) (j:Nat):AV:=
 match FD l j with
 |some x=>x.sub f
 |none=> .dead
def alL:L->Bool
 | .al _ _ _=>true
 |_=>false
def QF:Arg->Bool
 | .pm ls=>ls.any alL
 |_=>false
def S3:RV->Bool
 | .p ls=>ls.any alL
 |_=>false
def Qn (x:AV):Option (AV×List Nat):=if OF x then some (x,[])else none
def Obj.mv (f:Nat->Option Nat):Obj->Obj
 | .box cells=> .box (mvL f cells)
 | .arr k rows=> .arr k rows
 | .none=> .none
def BF:List AV->List AV
 |[]=>[]
 | .agg l::r=>l++BF r
 |x::r=>x::BF r
def Ct:List AV->List (Option Nat)
 |[]=>[]
 | .agg l::r=>some l.length::Ct r
 |_::r=>none::Ct r
def BQ:List (Option Nat)->List AV->List AV
 |[],_=>[]
 |some n::r,l=> .agg (l.take n)::BQ r (l.drop n)
 |none::r,l=>l.headD .dead::BQ r l.tail
def Ao.rootI (h:Ao) (i n:Nat):Option Ao:=
 match h.l[i]? with
 |some (.im _ _)=>some h
 |some (.al _ _ _)=>some h
 |some (.pb _ _)=>some h
 |some (.pim _)=>some h
 |some (.clo _ _)=>some h
 |_=>h.root i n
def Ao.rootsI (h:Ao) (base i:Nat):Nat->Option Ao
 |0=>some h
 |m+1=>
  match h.rootI i base with
  |some h'=>h'.rootsI (base+1) (i+1) m
  |none=>none
def C6:AO->Option (AO×Nat×Nat)
 |[]=>none
 |(i,j)::p=>match C6 p with
  |some (q,i',j')=>some ((i,j)::q,i',j')
  |none=>some ([],i,j)
def DL:AV->List AV
 | .ref o p=>match C6 p with
  |some (q,i,j)=>[.pa o q i j,.ref o p]
  |none=>[]
 |_=>[]
def Ao.push (h : Ao) (i : Nat) : Ao := { h with l := h.l ++ (match h.l[i]? with
  | some x => DL x
  | none => []) }
def Ao.rootsM (h:Ao) (base i:Nat):List Nat->Option Ao
 |[]=>some h
 |m::ms=>
  if m=1 then
   match (h.push i).rootI i base with
   |some h'=>h'.rootsM (base+1) (i+1) ms
   |none=>none
  else h.rootsM (base+1) (i+1) ms
def Mb (ob:List (Nat×Obj)):AV->Option (List T)
 | .pb o 0=>match AR ob o with
  | .box cs=>CD (toT ob) cs
  |_=>none
 | .pim cs=>some cs
 |_=>none
def Aw:AV->List Nat
 | .ref o _=>[o]
 | .vw o _ _ _=>[o]
 |_=>[]
def H5:List AV->List Nat
 |[]=>[]
 |a::l=>Aw a++H5 l
def Ns (ob:List (Nat×Obj)):AV->List Nat
 | .pb o 0=>match AR ob o with
  | .box cs=>o::H5 cs
  |_=>[]
 |_=>[]
def Me (ob:List (Nat×Obj)):List AV->List Nat
 |[]=>[]
 |a::l=>Ns ob a++Me ob l
def headN:List Nat->Nat
 |[]=>0
 |m::_=>m
def NQ (ob:List (Nat×Obj)) (m:Nat) (x:AV):Option (AV×List Nat):=
 match m with
 |0=>match x with
  | .sc v=>some (.sc v,[])
  | .pim cs=>some (.pim cs,[])
  | .pb o j=>(Mb ob (.pb o j)).map fun ts=>(.pim ts,Ns ob (.pb o j))
  | .clo f caps=>(CD (Mb ob) caps).map fun cs=>(.clo f (cs.map .pim),Me ob caps)
  |x=>(Be ob x).map fun(k,r)=>(.im k r,Aw x)
 |1=>Qn x
 |2=>Qn x
 |j+3=>(Be ob x).map fun(k,r)=>(.al j k r,Aw x)
def D9 (ob:List (Nat×Obj)):List Nat->List AV->Option (List AV×List Nat)
 |_,[]=>some ([],[])
 |ms,x::l=>match NQ ob (headN ms) x,D9 ob ms.tail l with
  |some (y,os),some (m,qs)=>some (y::m,os++qs)
  |_,_=>none
def Bs (ob:List (Nat×Obj)):AV->Option (L×List Nat)
 | .sc v=>some (.sc v,[])
 | .nil k=>some (.nil k,[])
 | .im k rows=>some (.im k rows,[])
 | .al i k rows=>some (.al i k rows,[])
 | .ref o []=>match AR ob o with
  | .arr k rows=>some (.own k rows,[o])
  |_=>none
 |_=>none
def BC (ob:List (Nat×Obj)):List AV->Option (List L×List Nat)
 |[]=>some ([],[])
 |x::l=>match Bs ob x,BC ob l with
  |some (a,os),some (m,qs)=>some (a::m,os++qs)
  |_,_=>none
def Qk:AV->Option (List T)
 | .pim ts=>some ts
 |_=>none
def Ch (ob:List (Nat×Obj)):AV->Option (Arg×List Nat)
 | .agg l=>(BC ob l).map fun(ls,os)=>(.a ls,os)
 | .pb o 0=>match AR ob o with
  | .box cs=>(BC ob cs).map fun(ls,os)=>(.pm ls,o::os)
  |_=>none
 | .pim ts=>some (.pi ts,[])
 | .clo f caps=>(CD Qk caps).map fun cs=>(.c f cs,[])
 |x=>(Bs ob x).map fun(l,os)=>(.v l,os)
def BM (ob:List (Nat×Obj)):List AV->Option (List Arg×List Nat)
 |[]=>some ([],[])
 |x::l=>match Ch ob x,BM ob l with
  |some (a,os),some (m,qs)=>some (a::m,os++qs)
  |_,_=>none
def Ah:Nat->List Arg->List Nat×List Nat
 |_,[]=>([],[])
 |o,a::l=>
  match AU o a with
  |(_,os,m)=>match Ah m l with
   |(is,bs)=>match a with
    | .pm _=>(is,o::bs)
    |_=>(os.map (·.1)++is,bs)
def CE (os:List (Nat×Obj)):List Nat->List (Option (List (List T)))->List (Nat×Obj)
 |i::is,some rows::fs=>match AR os i with
  | .arr k _=>(i,.arr k rows)::CE os is fs
  |_=>CE os is fs
 |_::is,none::fs=>CE os is fs
 |_,_=>[]
def Bf:Nat->List Nat->List (List L)->List (Nat×Obj)×Nat
 |n,b::bs,ls::lss=>match AW n ls with
  |(as,os,m)=>match Bf m bs lss with
   |(os2,m2)=>((b,.box as)::(os++os2),m2)
 |n,_,_=>([],n)
def Cd (args:List Arg) (r:Res):List AV×List (Nat×Obj):=
 match AK 0 0 args with
 |(_,os,m)=>match Bf m (Ah 0 args).2 r.pfin with
  |(ob,m1)=>match CU m1 r.out with
   |(as,on,_)=>(as,CE os (Ah 0 args).1 r.fin++ob++on)
def imL:L->Bool
 | .im _ _=>true
 |_=>false
def OL:RV->Bool
 | .v l=>imL l
 | .a ls=>ls.any imL
 | .p ls=>ls.any imL
def one:List AV->AV
 |[a]=>a
 |l=> .tup l
def Ej (cs:List Nat) (base j:Nat):Option Nat:=if j<cs.length then cs[j]? else some (base+(j - cs.length))
def Gb:List Nat->Bool
 |[]=>true
 |a::l=> !l.contains a&&Gb l
def EV (o:Nat):List Nat->Nat->Nat
 |[],i=>i
 |a::l,i=>if a=o then i else EV o l (i+1)
def Dt (cs:List Nat) (os:List (Nat×Obj)) (o:Nat) (p:AO):Option (Nat×AO):=
 if cs.contains o then
  match p,AR os (EV o cs 0)with
  |[],.arr _ _=>some (o,[])
  |_,_=>none
 else some (o,p)
def G2:List Nat->List (Nat×Obj)->List (Nat×Obj)
 |[],l=>l
 |o::os,l=>G2 os (M2 l o)
def Hg (f:Nat->Option Nat):List (Nat×Obj)->List (Nat×Obj)
 |[]=>[]
 |(j,x)::l=>match f j with
  |some o=>(o,x.mv f)::Hg f l
  |none=>Hg f l
def IN (ob:List (Nat×Obj)) (n base m:Nat):List (Nat×Obj)->Bool
 |[]=>true
 |(j,_)::l=>(j<n||(match AR ob (base+(j - n))with
  | .none=>m<=base+(j - n)
  |_=>false))&&IN ob n base m l
def Mi:Nat->Ao->Option (AV×St)
 |0,h=>match h.l with
  |r::_=>some (r,h.s)
  |[]=>none
 |n+1,h=>
  match h.l with
  |r:: .pa o q i j:: .ref x []::l=>match h.s.adopt x o q i j with
   |some s1=>Mi n {s:=s1,l:=Bv (E9 x o (q++[(i,j)])) (r::l)}
   |none=>none
  |r::_:: .dead::l=>Mi n {h with l:=r::l}
  |_=>none
def Fo:List AV->List Nat
 |[]=>[]
 | .pa o _ _ _::l=>o::Fo l
 |_::l=>Fo l
structure JH where
 s:St
 bk:List AV
 lent:List Nat
 args:List Arg
 cs:List Nat
 tks:List (Nat×AV)
def UI (ms:List Nat) (s:St) (o:Nat) (xs:List AV):Option JH:=
 match ({s,l:=BF xs}:Ao).rootsM o 0 (ms.take (BF xs).length)with
 |some h=>
  match D9 h.s.ob ms (h.l.take (BF xs).length)with
  |some (ys,lent)=>
   match BM h.s.ob (BQ (Ct xs) ys)with
   |some (args,cs)=>if ys.all oneCell&&(Gb (D6 (BO ys (h.l.take (BF xs).length)))&& !args.any QF)&&Gb cs&&(lent.all fun x=> !cs.contains x)&&((Fo (h.l.drop (BF xs).length)).all fun x=> !cs.contains x)then some {s:=h.s,bk:=h.l.drop (BF xs).length,lent,args,cs,tks:=BO ys (h.l.take (BF xs).length)} else none
   |none=>none
  |none=>none
 |none=>none
def JH.merge (g:JH) (base:Nat) (os:List (Nat×Obj)):St:=
 {(g.s.sub (Dt g.cs os))with ob:=Hg (Ej g.cs base) os++G2 g.cs (KO (Dt g.cs os) g.s.ob)}
def JH.take (g:JH) (base:Nat) (r:Res):Option (AV×St):=
 if !(r.out.any S3||r.pfin.any fun ls=>ls.any alL)&&(g.lent.isEmpty|| !(r.out.any OL||r.pfin.any fun ls=>ls.any imL))&&r.fin.length=(Ah 0 g.args).1.length&&r.pfin.length=(Ah 0 g.args).2.length&&
   IN g.s.ob g.cs.length base g.s.m (Cd g.args r).2 then
  Mi (g.bk.length / 2) {s:=g.merge base (Cd g.args r).2,l:=(one (Cd g.args r).1).mvt (Ej g.cs base) (Nz (Dt g.cs (Cd g.args r).2) g.tks)::Bv (Dt g.cs (Cd g.args r).2) g.bk}
 else none
def Ei (K:Nat->List Arg->Option Res) (md:Nat->List Nat) (s:St) (d:Option Nat) (o f:Nat) (xs:List AV):Option St:=
 match UI (md f) s o xs with
 |some g=>
  match K f g.args with
  |some r=>match g.take (o+40) r with
   |some (v,s2)=>s2.put d v
   |none=>none
  |none=>none
 |none=>none
def Ao.rootsAt (h:Ao) (base:Nat):List Nat->Option Ao
 |[]=>some h
 |i::l=>match h.root i base with
  |some h'=>h'.rootsAt (base+1) l
  |none=>none
def On (tm:List (Nat×AV)):List (Nat×Nat×X)->List AV->Option (List AV)
 |[],l=>some l
 |(off,sz,x)::ps,l=>
  match ev tm x with
  | .agg m=>if m.length=sz/\off+sz<=l.length then On tm ps (Az l off m)else none
  |a=>if oneCell a/\sz=1/\off<l.length then On tm ps (Az l off [a])else none
def Aa (K:Nat->List Arg->Option Res) (md:Nat->List Nat) (s:St) (d:Option Nat):I->Option St
 | .mov x=>s.put d (ev s.tm x)
 | .pick c a b=>match ev s.tm c with
  | .sc (.bool b1)=>if b1 then s.put d (ev s.tm a)else s.put d (ev s.tm b)
  |_=>none
 | .bin op x y=>match binA op (ev s.tm x) (ev s.tm y)with
  |some v=>s.put d v
  |none=>none
 | .beq op x y=>match beqA op (ev s.tm x) (ev s.tm y)with
  |some v=>s.put d v
  |none=>none
 | .un op x=>match unA op (ev s.tm x)with
  |some v=>s.put d v
  |none=>none
 | .toInt k x=>match ev s.tm x with
  | .sc (.int _ n)=>s.put d (.sc (.int k (k.wrap n)))
  |_=>none
 | .toStr x=>match ev s.tm x with
  | .sc (.int _ n)=>s.put d (.sc (.string (Utf8.encode n)))
  |_=>none
 | .b2s x=>match Be s.ob (ev s.tm x)with
  |some (1,rows)=>match B5 rows with
   |some l=>s.put d (.sc (.string ⟨l.toArray⟩))
   |none=>none
  |_=>none
 | .load n x=>match FL s.ob n (ev s.tm x)with
  |some v=>s.put d v
  |none=>none
 | .take o n x=>match FL s.ob n (ev s.tm x),ev s.tm x with
  |some v,.pa o1 p i j=>match ({s,l:=[v]}:Ao).detach o o1 p i j (n.getD 1)with
   |some h=>h.s.put d (h.l.headD .dead)
   |none=>none
  |_,_=>none
 | .store o n x v=>match QS s o n (ev s.tm x) (ev s.tm v)with
  |some s1=>s1.put d .und
  |none=>none
 | .fa off x=>match PI (ev s.tm x) off with
  |some v=>s.put d v
  |none=>none
 | .fld off n x=>match ev s.tm x with
  | .agg l=>match n with
   |none=>match l[off]? with
    |some v=>s.put d v
    |none=>none
   |some n=>match cells l off n with
    |some m=>s.put d (.agg m)
    |none=>none
  |_=>none
 | .ia k x i=>match Gg (ev s.tm i)with
  |some n=>match Pf s.ob k (ev s.tm x) n with
   |some v=>s.put d v
   |none=>none
  |none=>none
 | .iaa len k x i=>match Gg (ev s.tm i)with
  |some n=>if n<len then match PI (ev s.tm x) (n*k)with
   |some v=>s.put d v
   |none=>none
   else none
  |none=>none
 | .ixs x i=>match ev s.tm x,Gg (ev s.tm i)with
  | .sc (.string b),some n=>match b.toList[n]? with
   |some c=>s.put d (.sc (.int .u8 c.toNat))
   |none=>none
  |_,_=>none
 | .len x=>match Mt s.ob (ev s.tm x)with
  |some n=>s.put d (.sc (.int .i64 n))
  |none=>none
 | .slen x=>match ev s.tm x with
  | .sc (.string b)=>s.put d (.sc (.int .i64 b.size))
  |_=>none
 | .mm mx x y=>match ev s.tm x,ev s.tm y with
  | .sc (.int k a),.sc (.int _ b)=>s.put d (.sc (.int k (if mx then(if a<b then b else a)else(if b<a then b else a))))
  |_,_=>none
 | .sls x lo hi=>match ev s.tm x,E0 s.tm lo,E0 s.tm hi with
  | .sc (.string b),some l,some h=>
   if l.getD 0<=h.getD b.size/\h.getD b.size<=b.size then s.put d (.sc (.string (b.extract (l.getD 0) (h.getD b.size))))else none
  |_,_,_=>none
 | .sl k x lo hi=>match E0 s.tm lo,E0 s.tm hi with
  |some l,some h=>match GS s.ob k (ev s.tm x) (l.getD 0) h with
   |some v=>s.put d v
   |none=>none
  |_,_=>none
 | .sl0 k x=>match Mt s.ob (ev s.tm x)with
  |some _=>s.put d (.nil k)
  |none=>none
 | .bld zero parts=>match On s.tm parts zero with
  |some l=>s.put d (.agg l)
  |none=>none
 | .box o x=>if HX (ev s.tm x)then match s.new o (.box (Df (ev s.tm x)))with
  |some s1=>s1.put d (.pb o 0)
  |none=>none
  else none
 | .new o zero=>match s.new o (.box zero)with
  |some s1=>s1.put d (.pb o 0)
  |none=>none
 | .bsl o k parts=>match bslA s o k (parts.map fun x=>Df (ev s.tm x))with
  |some (v,s1)=>s1.put d v
  |none=>none
 | .mk o k zero bytes x=>match Gg (ev s.tm x)with
  |some n=>if n*bytes<=35184372088832/\0<bytes/\zero.length=k then match s.new o (.arr k (List.replicate n zero))with
   |some s1=>s1.put d (.ref o [])
   |none=>none
   else none
  |none=>none
 | .app o k bytes x y=>match appA s o k bytes (ev s.tm x) (ev s.tm y)with
  |some (v,s1)=>s1.put d v
  |none=>none
 | .app0 o k bytes zero x y=>match Gg (ev s.tm y)with
  |some n=>match Uk s o k bytes zero (ev s.tm x) n with
   |some (v,s1)=>s1.put d v
   |none=>none
  |none=>none
 | .cpy k a b=>match cpyA s k (ev s.tm a) (ev s.tm b)with
  |some (v,s1)=>s1.put d v
  |none=>none
 | .clr k zero x=>match clrA s k zero (ev s.tm x)with
  |some s1=>s1.put d (.tup [])
  |none=>none
 | .ext j x=>match ev s.tm x with
  | .tup l=>match l[j]? with
   |some v=>s.put d v
   |none=>none
  |_=>none
 | .nchk x=>match ev s.tm x with
  | .pb o j=>s.put d (.pb o j)
  | .pa o p i j=>s.put d (.pa o p i j)
  | .pim c=>s.put d (.pim c)
  |_=>none
 | .fn f caps=>s.put d (.clo f (caps.map (ev s.tm)))
 | .cap0 x=>match ev s.tm x with
  | .nil _=>s.put d (.sc (.int .i64 0))
  |_=>none
 | .bad=>none
 | .call o f xs=>Ei K md s d o f (xs.map (ev s.tm))
 | .callc o f xs cs=>match ({s,l:=xs.map (ev s.tm)}:Ao).rootsAt (o+90) cs with
  |some h=>Ei K md h.s d o f h.l
  |none=>none
 | .callv o x xs=>match ev s.tm x with
  | .clo f caps=>Ei K md s d o f (xs.map (ev s.tm)++caps)
  |_=>none
def Er (K:Nat->List Arg->Option Res) (md:Nat->List Nat) (i:Ins) (s:St):Option St:=
 match i.g with
 |none=>Aa K md s i.d i.op
 |some (t,b)=>if t<s.n then match At s.tm t with
  | .sc (.bool b1)=>if b1=b then Aa K md s i.d i.op else s.put i.d .und
  | .und=>s.put i.d .und
  |_=>none
  else none
def Ep (K:Nat->List Arg->Option Res) (md:Nat->List Nat):List Ins->St->Option St
 |[],s=>some s
 |i::l,s=>match Er K md i s with
  |some s1=>Ep K md l s1
  |none=>none
def Gj (tm:List (Nat×AV)):List Nat->List (Nat×AV)
 |[]=>[]
 |t::l=>(t,At tm t)::Gj tm l
def St.drop (s:St) (l:List Nat):St:={s with tm:=Gj s.tm l}
def tgt:AV->List Nat
 | .pb o _=>[o]
 | .pa o _ _ _=>[o]
 |_=>[]
def FE:AV->List Nat
 | .ref o _=>[o]
 | .vw o _ _ _=>[o]
 |_=>[]
def PC:I->Bool
 | .mov _=>true
 | .pick _ _ _=>true
 | .bin _ _ _=>true
 | .beq _ _ _=>true
 | .un _ _=>true
 | .toInt _ _=>true
 | .toStr _=>true
 | .ixs _ _=>true
 | .len _=>true
 | .slen _=>true
 | .mm _ _ _=>true
 | .sls _ _ _=>true
 | .sl _ _ _ _=>true
 | .sl0 _ _=>true
 | .bld _ _=>true
 | .fa _ _=>true
 | .fld _ _ _=>true
 | .ia _ _ _=>true
 | .iaa _ _ _ _=>true
 | .ext _ _=>true
 | .nchk _=>true
 | .fn _ _=>true
 | .cap0 _=>true
 |_=>false
def I0:I->Bool
 | .load _ _=>true
 |_=>false
def FM (ob:List (Nat×Obj)) (m:Nat) (x:AV):List Nat:=
 if m=0 then []else Aw x++match x with
  | .pb b _=>b::(match AR ob b with
   | .box cells=>H5 cells
   |_=>[])
  |_=>[]
def HM (ob:List (Nat×Obj)):List Nat->List AV->List Nat
 |m::ms,x::xs=>FM ob m x++HM ob ms xs
 |_,_=>[]
def Tl (b:Nat):Nat->List Nat
 |0=>[]
 |n+1=>b::Tl (b+1) n
def G9 (ob:List (Nat×Obj)) (ms:List Nat) (xs:List AV) (base:Nat):List Nat:=
 Tl base (BF xs).length++HM ob ms (BF xs)
def Nr (s:St) (ms:List Nat) (xs:List AV) (base:Nat) (cs:List Nat):List Nat:=
 Tl (base+90) cs.length++((cs.flatMap fun i=>match xs[i]? with
  |some x=>Aw x
  |none=>[])++match ({s,l:=xs}:Ao).rootsAt (base+90) cs with
   |some h=>G9 h.s.ob ms h.l base
   |none=>[])
def Lw (md:Nat->List Nat) (s:St):I->List Nat
 | .store _ _ x _=>tgt (ev s.tm x)
 | .app _ _ _ x _=>FE (ev s.tm x)
 | .app0 _ _ _ _ x _=>FE (ev s.tm x)
 | .cpy _ x _=>FE (ev s.tm x)
 | .clr _ _ x=>FE (ev s.tm x)
 | .call o f xs=>G9 s.ob (md f) (xs.map (ev s.tm)) o
 | .callc o f xs cs=>Nr s (md f) (xs.map (ev s.tm)) o cs
 | .callv o x xs=>match ev s.tm x with
  | .clo f caps=>G9 s.ob (md f) (xs.map (ev s.tm)++caps) o
  |_=>[]
 |_=>[]
def ON (md:Nat->List Nat) (s:St) (i p:Ins):Bool:=
 (match p.g with
 |none=>false
 |some (t,b)=>match At s.tm t with
  | .sc (.bool b1)=>b1 != b
  | .und=>true
  |_=>false)||
 match p.op with
 | .load _ x=>match ev s.tm x with
  | .pim _=>true
  | .pa o _ _ _=> !(Lw md s i.op).contains o
  | .pb o _=> !(Lw md s i.op).contains o
  |_=>false
 |_=>false
def UC (x:Nat×AV):List (Nat×AV)->List (Nat×AV)
 |[]=>[x]
 |y::l=>if x.1<=y.1 then x::y::l else y::UC x l
def NC:List (Nat×AV)->List (Nat×AV)
 |[]=>[]
 |x::l=>UC x (NC l)
def UD (x:Nat×Obj):List (Nat×Obj)->List (Nat×Obj)
 |[]=>[x]
 |y::l=>if x.1<=y.1 then x::y::l else y::UD x l
def ND:List (Nat×Obj)->List (Nat×Obj)
 |[]=>[]
 |x::l=>UD x (ND l)
def AF (x y:St):Prop:=x.n=y.n/\x.m=y.m/\NC x.tm=NC y.tm/\ND x.ob=ND y.ob
open Classical in
noncomputable def RZ (x y:Option St):Option St:=
 match x,y with
 |some s,some s'=>if AF s s' then some s else none
 |_,_=>none
noncomputable def D7 (K:Nat->List Arg->Option Res) (md:Nat->List Nat):D->St->Option St
 | .fin,s=>some s
 | .one i t,s=>match Er K md i s with
  |some s1=>D7 K md t s1
  |none=>none
 | .loud i hang t,s=>if hang.all (ON md s i)then match Er K md i s with
  |some s1=>D7 K md t s1
  |none=>none
  else none
 | .alt a b,s=>RZ (D7 K md a s) (D7 K md b s)
mutual
def Tk:AV->List Nat
 | .ref o _=>[o]
 | .vw o _ _ _=>[o]
 | .pb o _=>[o]
 | .pa o _ _ _=>[o]
 | .agg l=>NJ l
 | .tup l=>NJ l
 | .clo _ l=>NJ l
 | .non=>[]
 | .dead=>[]
 | .und=>[]
 | .sc _=>[]
 | .nil _=>[]
 | .im _ _=>[]
 | .al _ _ _=>[]
 | .pim _=>[]
def NJ:List AV->List Nat
 |[]=>[]
 |a::l=>Tk a++NJ l
end
def objsO:Obj->List Nat
 | .box cs=>NJ cs
 |_=>[]
def QH (l:List Nat):List Nat->List Nat
 |[]=>l
 |a::m=>if l.contains a then QH l m else QH (l++[a]) m
def Rf:List (Nat×AV)->List Nat
 |[]=>[]
 |(_,a)::l=>Tk a++Rf l
def Qd (ob:List (Nat×Obj)):List Nat->List Nat
 |[]=>[]
 |o::l=>objsO (AR ob o)++Qd ob l
def mvT (f:Nat->Option Nat):List (Nat×AV)->List (Nat×AV)
 |[]=>[]
 |(t,a)::l=>(t,a.mv f)::mvT f l
def DU:Obj->Bool
 | .none=>false
 |_=>true
def G7 (m base:Nat) (l:List Nat) (o:Nat):Option Nat:=if o<m then some o else if l.contains o then some (EV o l base)else none
def mvO (f:Nat->Option Nat) (ob:List (Nat×Obj)):Nat->List Nat->List (Nat×Obj)
 |_,[]=>[]
 |n,o::l=>(n,(AR ob o).mv f)::mvO f ob (n+1) l
def Lk (f:Nat->Option Nat) (ob:List (Nat×Obj)):List Nat->List (Nat×Obj)
 |[]=>[]
 |o::l=>if DU (AR ob o)then(o,(AR ob o).mv f)::Lk f ob l else Lk f ob l
def Jt (live:List Nat) (s:St):List Nat:=
 (QH (QH [] (Rf (Gj s.tm live))) (Qd s.ob (List.range s.m++QH [] (Rf (Gj s.tm live))))).filter fun o=>s.m<=o
def Ai (base : Nat) (live : List Nat) (s : St) : St :=
  { n := s.n, m := s.m, tm := mvT (G7 s.m base (Jt live s)) (Gj s.tm live),
    ob := Lk (G7 s.m base (Jt live s)) s.ob (List.range s.m) ++ mvO (G7 s.m base (Jt live s)) s.ob base (Jt live s) }
noncomputable def An (K:Nat->List Arg->Option Res) (Lp:Nat->List Nat->C->St->Option (Ex×St)) (md:Nat->List Nat):C->St->Option (Ex×St)
 | .skip,s=>some (.normal,s)
 | .reg l dr,s=>match Ep K md l s with
  |some s1=>some (.normal,s1.drop dr)
  |none=>none
 | .dreg l dr,s=>match D7 K md l s with
  |some s1=>some (.normal,s1.drop dr)
  |none=>none
 | .seq a b,s=>match An K Lp md a s with
  |some (.normal,s1)=>An K Lp md b s1
  |r=>r
 | .cond x a b,s=>match ev s.tm x with
  | .sc (.bool c)=>if c then An K Lp md a s else An K Lp md b s
  |_=>none
 | .blk id a,s=>match An K Lp md a s with
  |some (.exit j,s1)=>if j=id then some (.normal,s1)else some (.exit j,s1)
  |r=>r
 | .loop o live a,s=>Lp o live a s
 | .exit id,s=>some (.exit id,s)
 | .ret,s=>some (.ret,s)
def PA (s:St):RP->Option AV
 | .t t=>some (At s.tm t)
 | .cell t n=>FL s.ob n (At s.tm t)
def Mf:List AV->List Nat
 |[]=>[]
 | .pb o _::l=>o::Mf l
 |_::l=>Mf l
def Ao.rootBox (h:Ao) (base b:Nat):Option Ao:=
 match AR h.s.ob b with
 | .box cs=>match ({s:=h.s,l:=cs++h.l}:Ao).rootsI base 0 cs.length with
  |some h'=>some {s:=h'.s.putO b (.box (h'.l.take cs.length)),l:=h'.l.drop cs.length}
  |none=>none
 |_=>none
def Ao.rootBoxes (h:Ao) (base:Nat):List Nat->Option Ao
 |[]=>some h
 |b::bs=>match h.rootBox base b with
  |some h'=>h'.rootBoxes (base+100) bs
  |none=>none
def shOf (acc:List Nat):AV->Option Nat
 | .ref o []=>if acc.contains o then some (acc.length - 1 - EV o acc 0)else none
 |_=>none
def IV (ob:List (Nat×Obj)) (acc:List Nat) (x:AV):Option (L×List Nat):=
 match shOf acc x with
 |some d=>some (.sh d,[])
 |none=>Bs ob x
def F1 (ob:List (Nat×Obj)):List Nat->List AV->Option (List L×List Nat)
 |_,[]=>some ([],[])
 |acc,x::l=>match IV ob acc x with
  |some (a,os)=>match F1 ob (acc++os) l with
   |some (m,qs)=>some (a::m,os++qs)
   |none=>none
  |none=>none
def JD (ob:List (Nat×Obj)) (acc:List Nat):AV->Option (RV×List Nat)
 | .agg l=>(F1 ob acc l).map fun(ls,os)=>(.a ls,os)
 | .pb o 0=>match AR ob o with
  | .box cs=>(BC ob cs).map fun(ls,os)=>(.p ls,o::os)
  |_=>none
 |x=>(IV ob acc x).map fun(l,os)=>(.v l,os)
def Dz (ob:List (Nat×Obj)):List Nat->List AV->Option (List RV×List Nat)
 |_,[]=>some ([],[])
 |acc,x::l=>match JD ob acc x with
  |some (a,os)=>match Dz ob (acc++os) l with
   |some (m,qs)=>some (a::m,os++qs)
   |none=>none
  |none=>none
def EN (ob:List (Nat×Obj)):List Nat->Option (List (List L)×List Nat)
 |[]=>some ([],[])
 |b::bs=>match AR ob b with
  | .box cs=>match BC ob cs,EN ob bs with
   |some (ls,os),some (m,qs)=>some (ls::m,os++qs)
   |_,_=>none
  |_=>none
def I4 (ob os:List (Nat×Obj)) (gone:List Nat) (o:Nat):Option (List (List T)):=
 if gone.contains o then none else match AR ob o,AR os o with
 | .arr k rows,.arr k' _=>if k=k' then some rows else none
 |_,_=>none
def KB (res:List RP) (args:List Arg) (s:St):Option Res:=
 match CD (PA s) res with
 |some xs=>
  match ({s,l:=BF xs}:Ao).rootsI 90000000 0 (BF xs).length with
  |some h=>
   match h.rootBoxes 91000000 ((Ah 0 args).2++Mf h.l)with
   |some h1=>
    match EN h1.s.ob (Ah 0 args).2,Dz h1.s.ob [] (BQ (Ct xs) h1.l)with
    |some (pfin,is),some (out,js)=>
     if Gb (is++js)&&((Ah 0 args).2.all fun b=> !(is++js).contains b)then
      some {out,pfin,fin:=(Ah 0 args).1.map (I4 h1.s.ob (AK 0 0 args).2.1 (is++js))}
     else none
    |_,_=>none
   |none=>none
  |none=>none
 |none=>none
def RC (res:List RP) (args:List Arg):Option (Ex×St)->Option Res
 |some (.normal,s)=>if s.m=(AK 0 0 args).2.2 then KB res args s else none
 |some (.ret,s)=>if s.m=(AK 0 0 args).2.2 then KB res args s else none
 |_=>none
noncomputable def sem (G : Nat -> Option PF) (PK : Nat -> List Arg -> Option Res) (md : Nat -> List Nat) : Nat -> (Nat -> List Arg -> Option Res) × (Nat -> List Nat -> C -> St -> Option (Ex × St))
  | 0 => (fun _ _ => none, fun _ _ _ _ => none)
  | n + 1 =>
    (fun f args => match G f with
      | some pf => if args.length <= pf.n then RC pf.res args (An (sem G PK md n).1 (sem G PK md n).2 md pf.body (Nm pf.n args)) else none
      | none => PK f args,
     fun o live a s => if s.m <= o then match An (sem G PK md n).1 (sem G PK md n).2 md a (Ai o live s) with
      | some (.normal, s1) => (sem G PK md n).2 o live a s1
      | r => r
      else none)
structure AI where
 modes:List Nat:=[]
 live:List (Nat×List Nat):=[]
 drop:List (Nat×List Nat):=[]
 take:List Nat:=[]
 cut:List (Nat×List Nat):=[]
def PW (l:List (Nat×List Nat)) (n:Nat):List Nat:=
 match l with
 |[]=>[]
 |(m,x)::r=>if m=n then x else PW r n
def Bd (P:Program) (t:TypeId):Option Nat:=(P.info? t).map (·.size)
def Cz (P:Program) (t:TypeId):Option Nat:=(P.info? t).map (·.bytes)
def nOf (P:Program) (t:TypeId):Option (Option Nat):=
 match P.underlying t with
 |some (.struct _)=>(Bd P t).map some
 |some (.array _ _)=>(Bd P t).map some
 |some _=>some none
 |none=>none
def T4 (P:Program):Nat->TypeId->Option (List TypeId)
 |0,_=>none
 |n+1,t=>
  match P.underlying t with
  |some (.struct fs)=>(CD (fun(f:Field)=>T4 P n f.type) fs.toList).map List.flatten
  |some (.array m e)=>(T4 P n e).map fun l=>(List.replicate m l).flatten
  |some _=>some [t]
  |none=>none
def Ef (P:Program) (t:TypeId) (v:Value):Option AV:=
 match v with
 | .slice none 0 0=>match P.underlying t with
  |some (.slice e)=>(Bd P e).map .nil
  |_=>none
 | .func (.func f) fi ca=>if fi.size=0/\ca.size=0 then some (.clo f [])else none
 |v=>if Dn v then some (.sc v)else none
def CW (P:Program):List TypeId->List Value->Option (List AV)
 |[],[]=>some []
 |t::ts,v::vs=>match Ef P t v,CW P ts vs with
  |some a,some l=>some (a::l)
  |_,_=>none
 |_,_=>none
def Fy (P:Program) (t:TypeId) (v:Value):Option AV:=
 match v with
 | .agg cs=>match T4 P 6 t with
  |some ts=>(CW P ts cs.toList).map .agg
  |none=>none
 |v=>Ef P t v
def xOf (P:Program) (t:TypeId):Operand->Option X
 | .tmp n=>some (.t n)
 | .const v=>(Fy P t v).map .k
 | .func f=>some (.k (.clo f []))
 | .global _=>none
def GN (P:Program):List TypeId->List Operand->Option (List X)
 |[],[]=>some []
 |t::ts,x::xs=>match xOf P t x,GN P ts xs with
  |some a,some l=>some (a::l)
  |_,_=>none
 |_,_=>none
def BW (P:Program) (t:TypeId):Option (List AV):=
 match (P.info? t).bind (·.zero)with
 |some z=>(Fy P t z).map Df
 |none=>none
def GM:List AV->Option (List T)
 |[]=>some []
 | .sc v::l=>(GM l).map fun m=> .sc v::m
 | .nil k::l=>(GM l).map fun m=> .sl k []::m
 |_=>none
def CS:List AV->List T
 |[]=>[]
 | .sc v::l=> .sc v::CS l
 |_::l=> .hole::CS l
def ox (P:Program) (t:TypeId):Option Operand->Option (Option X)
 |none=>some none
 |some x=>(xOf P t x).map some
def RY:Operand->Operand->Bool
 | .tmp a,.tmp b=>a=b
 | .const (.int _ a),.const (.int _ b)=>a=b
 |_,_=>false
def Je:Operand->Bool
 | .const (.int _ 0)=>true
 |_=>false
def HG (P:Program) (fs:List Field):List (Nat×Operand)->Option (List (Nat×Nat×X))
 |[]=>some []
 |(i,x)::l=>match fs[i]? with
  |some f=>match Bd P f.type,xOf P f.type x,HG P fs l with
   |some z,some a,some m=>some ((f.offset,z,a)::m)
   |_,_,_=>none
  |none=>none
def HV (P:Program) (e:TypeId) (k:Nat):List (Nat×Operand)->Option (List (Nat×Nat×X))
 |[]=>some []
 |(i,x)::l=>match xOf P e x,HV P e k l with
  |some a,some m=>some ((i*k,k,a)::m)
  |_,_=>none
def LH (P:Program) (e:TypeId):Nat->List (Nat×Operand)->Option (List X)
 |_,[]=>some []
 |n,(i,x)::l=>if i=n then match xOf P e x,LH P e (n+1) l with
  |some a,some m=>some (a::m)
  |_,_=>none
  else none
def Iq (P:Program) (h:AI) (o:Nat) (c:Call):Option I:=
 match c.callee with
 | .value (.func f)=>match PW h.cut o with
  |[]=>(GN P c.argTypes.toList c.args.toList).map (.call o f)
  |cs=>(GN P c.argTypes.toList c.args.toList).map fun xs=> .callc o f xs cs
 | .value (.tmp t)=>(GN P c.argTypes.toList c.args.toList).map (.callv o (.t t))
 | .builtin .len=>match c.argTypes.toList,c.args.toList with
  |[t],[x]=>match P.underlying t with
   |some .string=>(xOf P t x).map .slen
   |some (.slice _)=>(xOf P t x).map .len
   |_=>none
  |_,_=>none
 | .builtin .append=>match c.argTypes.toList,c.args.toList with
  |[t,t2],[x,y]=>match P.underlying t,P.underlying t2 with
   |some (.slice e),some (.slice e2)=>if e2=e then match Bd P e,Cz P e,xOf P t x,xOf P t2 y with
    |some k,some b,some a,some c=>if(BW P e).map List.length=some k then some (.app o k b a c)else none
    |_,_,_,_=>none
    else none
   |some (.slice e),some (.int _)=>match Bd P e,Cz P e,(BW P e).bind GM,xOf P t x,xOf P t2 y with
    |some k,some b,some z,some a,some c=>some (.app0 o k b z a c)
    |_,_,_,_,_=>none
   |_,_=>none
  |_,_=>none
 | .builtin .cap=>match c.argTypes.toList,c.args.toList with
  |[t],[x]=>match P.underlying t with
   |some (.slice _)=>(xOf P t x).map .cap0
   |_=>none
  |_,_=>none
 | .builtin .copy=>match c.argTypes.toList,c.args.toList with
  |[t,t2],[x,y]=>match P.underlying t,P.underlying t2 with
   |some (.slice e),some (.slice e2)=>if e2=e then match Bd P e,xOf P t x,xOf P t2 y with
    |some k,some a,some c=>some (.cpy k a c)
    |_,_,_=>none
    else none
   |_,_=>none
  |_,_=>none
 | .builtin .clear=>match c.argTypes.toList,c.args.toList with
  |[t],[x]=>match P.underlying t with
   |some (.slice e)=>match Bd P e,BW P e,xOf P t x with
    |some k,some z,some a=>some (.clr k (CS z) a)
    |_,_,_=>none
   |_=>none
  |_,_=>none
 | .builtin .max=>match c.argTypes.toList,c.args.toList with
  |[t,t2],[x,y]=>match P.underlying t,xOf P t x,xOf P t2 y with
   |some (.int _),some a,some b=>some (.mm true a b)
   |_,_,_=>none
  |_,_=>none
 | .builtin .min=>match c.argTypes.toList,c.args.toList with
  |[t,t2],[x,y]=>match P.underlying t,xOf P t x,xOf P t2 y with
   |some (.int _),some a,some b=>some (.mm false a b)
   |_,_,_=>none
  |_,_=>none
 |_=>none
def Bh (P:Program) (h:AI) (o:Nat) (ty:TypeId):Op->Option I
 | .move x=>(xOf P ty x).map .mov
 | .assign x=>(xOf P ty x).map .mov
 | .pick c a b=>match xOf P ty c,xOf P ty a,xOf P ty b with
  |some c,some a,some b=>some (.pick c a b)
  |_,_,_=>none
 | .alloc e=>(BW P e).map (.new o)
 | .box e x=>(xOf P e x).map (.box o)
 | .build t parts=>match P.underlying t,BW P t with
  |some (.struct fs),some z=>if fs.toList.all fun f=>(Bd P f.type).isSome then(HG P fs.toList parts.toList).map (.bld z)else none
  |some (.array _ e),some z=>match Bd P e with
   |some k=>(HV P e k parts.toList).map (.bld z)
   |none=>none
  |_,_=>none
 | .buildSlice t len parts=>match P.underlying t with
  |some (.slice e)=>match Bd P e with
   |some k=>if parts.size=len/\len*k<=16777216/\(BW P e).map List.length=some k then(LH P e 0 parts.toList).map (.bsl o k)else none
   |none=>none
  |_=>none
 | .load t x=>match nOf P t,xOf P ty x with
  |some n,some a=>some (if h.take.contains o then .take o n a else .load n a)
  |_,_=>none
 | .store t x v=>match nOf P t,xOf P ty x,xOf P t v with
  |some none,some a,some b=>if Bd P t=some 1 then some (.store o none a b)else none
  |some (some n),some a,some b=>some (.store o (some n) a b)
  |_,_,_=>none
 | .nilCheck x=>(xOf P ty x).map .nchk
 | .binOp op t x y t2=>match P.underlying t with
  |some .bool=>match op,xOf P t x,xOf P t y with
   | .eql,some a,some b=>some (.beq .eql a b)
   | .neq,some a,some b=>some (.beq .neq a b)
   |_,_,_=>none
  |some (.int _)=>match xOf P t x,xOf P t2 y with
   |some a,some b=>some (.bin op a b)
   |_,_=>none
  |some .string=>match xOf P t x,xOf P t y with
   |some a,some b=>some (.bin op a b)
   |_,_=>none
  |_=>none
 | .unOp op t x=>match xOf P t x with
  |some a=>some (.un op a)
  |none=>none
 | .convert src dst x=>match P.underlying src,P.underlying dst,xOf P src x with
  |some (.int _),some (.int k),some a=>some (.toInt k a)
  |some (.int _),some .string,some a=>some (.toStr a)
  |some (.slice e),some .string,some a=>match P.underlying e with
   |some (.int .u8)=>some (.b2s a)
   |_=>none
  |_,_,_=>none
 | .makeFunc (.func f) first caps=>if first.size=0 then(GN P (caps.toList.map fun _=>ty) caps.toList).map (.fn f)else none
 | .makeSlice t len cap=>match P.underlying t with
  |some (.slice e)=>match Bd P e,(BW P e).bind GM,Cz P e,xOf P ty len with
   |some k,some z,some b,some x=>if RY len cap then some (.mk o k z b x)else none
   |_,_,_,_=>none
  |_=>none
 | .slice t x lo hi mx=>match P.underlying t,xOf P t x,ox P ty lo,ox P ty hi,mx with
  |some .string,some a,some l,some h,none=>some (.sls a l h)
  |some (.slice e),some a,some l,some h,none=>(Bd P e).map fun k=> .sl k a l h
  |some (.slice e),some a,some none,_,some m=>match hi with
   |some h=>if Je h&&Je m then(Bd P e).map fun k=> .sl0 k a else none
   |none=>none
  |_,_,_,_,_=>none
 | .fieldAddr t x f=>match P.underlying t with
  |some (.struct fs)=>match fs[f]?,xOf P ty x with
   |some fd,some a=>match Bd P fd.type with
    |some (_+1)=>some (.fa fd.offset a)
    |_=>none
   |_,_=>none
  |_=>none
 | .field t x f=>match P.underlying t with
  |some (.struct fs)=>match fs[f]?,xOf P t x with
   |some fd,some a=>(nOf P fd.type).map fun n=> .fld fd.offset n a
   |_,_=>none
  |_=>none
 | .indexAddr t x i=>match P.underlying t,xOf P t x,xOf P ty i with
  |some (.slice e),some a,some b=>(Bd P e).map fun k=> .ia k a b
  |some (.array len e),some a,some b=>(Bd P e).map fun k=> .iaa len k a b
  |_,_,_=>none
 | .index t x i=>match P.underlying t,xOf P t x,xOf P ty i with
  |some .string,some a,some b=>some (.ixs a b)
  |_,_,_=>none
 | .extract x j=>(xOf P ty x).map (.ext j)
 | .call c=>Iq P h o c
 | .makeInterface _ _=>some .bad
 | .panic _=>some .bad
 |_=>none
def CK (P:Program) (h:AI) (n r:Nat) (ops:Array Oper) (i:Nat) (o:Oper):Option Ins:=
 match Bh P h ((r+1)*10000+i*100) o.type o.op with
 |none=>none
 |some op=>
  if(match o.dst with
   |some d=>d<n
   |none=>true)=true then
   match o.guard with
   |none=>some {d:=o.dst,op,g:=none}
   |some (j,b)=>match (ops[j]?).bind (·.dst)with
    |some t=>if t<n then some {d:=o.dst,op,g:=some (t,b)} else none
    |none=>none
  else none
def B6 (P:Program) (h:AI) (n r:Nat) (ops:Array Oper):Nat->List Oper->Option (List Ins)
 |_,[]=>some []
 |i,o::l=>match CK P h n r ops i o,B6 P h n r ops (i+1) l with
  |some a,some m=>some (a::m)
  |_,_=>none
def QE (ops:Array Oper):Nat->Nat->Nat->Bool
 |0,_,_=>false
 |n+1,i,j=>match ops[j]? with
  |some o=>o.after.toList.any fun e=>Region.binds .any e&&(e.on==i||QE ops n i e.on)
  |none=>false
def Lz (ops:Array Oper) (l:List Ins) (listed:Array Bool):List Nat->Option (Nat×Ins)
 |[]=>none
 |j::r=>match l[j]? with
  |some x=>if(PC x.op||I0 x.op)&&Region.free .any ops listed j then some (j,x)else Lz ops l listed r
  |none=>Lz ops l listed r
def altD (f:Nat->Option D):Nat->List Nat->Option D
 |r,[]=>f r
 |r,r'::rs=>match f r,altD f r' rs with
  |some a,some b=>some (.alt a b)
  |_,_=>none
def Pi (ops:Array Oper) (held:List Nat) (j:Nat):List Nat:=held.filter fun i=> !QE ops ops.size i j
def T5 (ops:Array Oper) (held:List Nat) (x:Ins):Bool:=held.all fun i=>match ops[i]?,x.d with
 |some o,some d=> !(o.looksAt ops).contains d
 |_,_=>true
def J2 (ops:Array Oper) (l:List Ins):Nat->Array Bool->List Nat->Option D
 |0,listed,_=>match Region.ready .any ops listed with
  |[]=>some .fin
  |_::_=>none
 |n+1,listed,held=>match Region.ready .any ops listed with
  |[]=>some .fin
  |r::rs=>match Lz ops l listed (r::rs)with
   |some (j,x)=>if T5 ops (if I0 x.op then j::held else held) x then(J2 ops l n (listed.setIfInBounds j true) (if I0 x.op then j::held else held)).map (.one x)else none
   |none=>altD (fun j=>match l[j]? with
    |some x=>if T5 ops (Pi ops held j) x then(J2 ops l n (listed.setIfInBounds j true) (Pi ops held j)).map (.loud x ((Pi ops held j).filterMap fun i=>l[i]?))else none
    |none=>none) r rs
def BD (P:Program) (h:AI) (n:Nat):Nat->Code->Option C
 |_,.skip=>some .skip
 |_,.region id ops draw=>match B6 P h n id ops 0 ops.toList with
  |some l=>if draw then(if Region.noSelect ops then(J2 ops l ops.size (Array.replicate ops.size false) []).map (.dreg · (PW h.drop id))else none)else some (.reg l (PW h.drop id))
  |none=>none
 |b,.seq x y=>match BD P h n b x,BD P h n b y with
  |some c,some d=>some (.seq c d)
  |_,_=>none
 |b,.cond c x y=>match xOf P 0 c,BD P h n b x,BD P h n b y with
  |some (.t t),some c,some d=>some (.cond (.t t) c d)
  |_,_,_=>none
 |_,.block id x=>(BD P h n id x).map (.blk id)
 |b,.loop x=>(BD P h n b x).map (.loop (10000000+b*100) (PW h.live b))
 |_,.exit id=>some (.exit id)
 |_,.ret=>some .ret
 |_,_=>none
def Ca (P:Program):List ResultVar->Option (List RP)
 |[]=>some []
 | .tmp t::l=>(Ca P l).map fun m=> .t t::m
 | .cell t ty::l=>match nOf P ty,Ca P l with
  |some n,some m=>some (.cell t n::m)
  |_,_=>none
def TX (P:Program) (h:AI) (f:Func):Option PF:=
 if f.name= "runtime.NumGoroutine" then none else
 match f.body with
 |some c=>match BD P h f.ntmps 0 c,Ca P f.results.toList with
  |some b,some r=>if f.params.size<=f.ntmps then some {n:=f.ntmps,modes:=h.modes,body:=b,res:=r} else none
  |_,_=>none
 |none=>none
def prep (P:Program) (H:Nat->AI) (f:Nat):Option PF:=
 match P.funcs[f]? with
 |some fn=>TX P (H f) fn
 |none=>none
theorem AY {α:Type} {rows:List (List α)} {i j:Nat} {d:α} (h:AM rows i j=some d):
  ∃r,rows[i]? =some r/\r[j]? =some d:=by
 unfold AM at h
 cases hr:rows[i]? with
 |none=>simp[hr]at h
 |some r=>exact⟨r,rfl,by simpa[hr]using h⟩
theorem Bp {α:Type} {rows:List (List α)} {i j:Nat} {r:List α} (h:rows[i]? =some r):AM rows i j=r[j]? :=by
 unfold AM;rw[h]
theorem Ma {α:Type} {rows:List (List α)} {i:Nat} {r r':List α} (h:rows[i]? =some r) (i' j':Nat):
  AM (rows.set i r') i' j'=if i'=i then r'[j']? else AM rows i' j':=by
 have hi:i<rows.length:=(List.getElem?_eq_some_iff.1 h).1
 unfold AM
 by_cases e:i'=i
 ·subst e;simp[hi]
 ·rw[if_neg e,List.getElem?_set_ne (fun h=>e h.symm)]
theorem BH {α:Type} {rows:List (List α)} {i j:Nat} {d d':α} (h:AM rows i j=some d) (i' j':Nat):
  AM (DI rows i j d') i' j'=if i'=i/\j'=j then some d' else AM rows i' j':=by
 obtain⟨r,hr,hd⟩:=AY h
 have hj:j<r.length:=(List.getElem?_eq_some_iff.1 hd).1
 unfold DI
 rw[hr]
 simp only[]
 rw[Ma hr]
 by_cases e:i'=i
 ·subst e
  by_cases e2:j'=j
  ·subst e2;simp[hj]
  ·rw[if_pos rfl,if_neg (by simp[e2]),List.getElem?_set_ne (fun h=>e2 h.symm),Bp hr]
 ·rw[if_neg e,if_neg (by simp[e])]
def Kin:Option T->Option T->Prop
 |none,none=>True
 |some (.sc v),some (.sc u)=>v=u
 |some .hole,some .hole=>True
 |some (.sl _ _),some (.sl _ _)=>True
 |_,_=>False
theorem Kin.refl (d:Option T):Kin d d:=by
 cases d with
 |none=>trivial
 |some d=>cases d<;>simp[Kin]
structure ED (r r':List (List T)):Prop where
 len:r'.length=r.length
 row: ∀ (i:Nat) (x:List T),r[i]? =some x-> ∃y:List T,r'[i]? =some y/\y.length=x.length
 cell: ∀i j,Kin (AM r i j) (AM r' i j)
theorem ED.refl (r:List (List T)):ED r r:=⟨rfl,fun _ x h=>⟨x,h,rfl⟩,fun _ _=>Kin.refl _⟩
theorem ED.setAt_own {rows:List (List T)} {i j k k':Nat} {a b:List (List T)} (h:AM rows i j=some (.sl k a)):
  ED rows (DI rows i j (.sl k' b)):=by
 obtain⟨r,hr,hd⟩:=AY h
 have hi:i<rows.length:=(List.getElem?_eq_some_iff.1 hr).1
 refine⟨by unfold DI;rw[hr];simp,fun i' x hx=> ?_,fun i' j'=> ?_⟩
 ·unfold DI
  rw[hr]
  by_cases e:i'=i
  ·subst e
   rw[hr]at hx
   cases hx
   exact⟨r.set j (.sl k' b),by simp[hi],by simp⟩
  ·exact⟨x,by simp only[];rw[List.getElem?_set_ne (fun h=>e h.symm)];exact hx,rfl⟩
 ·rw[BH h]
  by_cases e:i'=i/\j'=j
  ·obtain⟨rfl,rfl⟩:=e
   rw[if_pos ⟨rfl,rfl⟩,h];trivial
  ·rw[if_neg e];exact Kin.refl _
theorem A9 {k:Nat} {rows:List (List T)} (p q:AO):
  AN k rows (p++q)=(match AN k rows p with
   |some (k',r)=>AN k' r q
   |none=>none):=by
 induction p generalizing k rows with
 |nil=>rfl
 |cons a p ih=>
  obtain⟨i,j⟩:=a;simp only[List.cons_append,AN];split
  ·exact ih
  ·rfl
theorem Iu {k0:Nat} {rows0 rows new:List (List T)} {k:Nat} {p:AO} (h:AN k0 rows0 p=some (k,rows)):
  ∃rows1,CV new rows0 p=some rows1:=by
 induction p generalizing k0 rows0 with
 |nil=>exact⟨new,rfl⟩
 |cons a p ih=>
  obtain⟨i,j⟩:=a;simp only[AN]at h;split at h
  ·rename_i k' rows' hc;obtain⟨r1,h1⟩:=ih h;exact⟨_,by simp only[CV,hc,h1];rfl⟩
  ·cases h
theorem B7 {k0:Nat} {rows0 rows1 new rows:List (List T)} {k:Nat} {p:AO} (h:AN k0 rows0 p=some (k,rows))
  (hs:CV new rows0 p=some rows1) (q:AO):AN k0 rows1 (p++q)=AN k new q:=by
 induction p generalizing k0 rows0 rows1 with
 |nil=>
  simp only[AN,Option.some.injEq,Prod.mk.injEq]at h;simp only[CV,Option.some.injEq]at hs;obtain⟨rfl,rfl⟩:=h;subst hs;rfl
 |cons a p ih=>
  obtain⟨i,j⟩:=a;simp only[AN]at h;split at h
  ·rename_i k' rows' hc;obtain⟨r1,h1⟩:=Iu (new:=new) h;simp only[CV,hc,h1,Option.some.injEq]at hs;subst hs;simp only[List.cons_append,AN,BH hc,and_self,if_true];exact ih h h1
  ·cases h
def Ht:Option (Nat×List (List T))->Option (Nat×List (List T))->Prop
 |none,none=>True
 |some (k,r),some (k',r')=>k=k'/\ED r r'
 |_,_=>False
theorem Ht.refl (x:Option (Nat×List (List T))):Ht x x:=by
 cases x with
 |none=>trivial
 |some x=>exact⟨rfl,ED.refl _⟩
theorem E3 {k0:Nat} {rows0 rows1 new rows:List (List T)} {k:Nat} {p:AO} (h:AN k0 rows0 p=some (k,rows))
  (hs:CV new rows0 p=some rows1) (q:AO) (hq:pre p q=none):Ht (AN k0 rows0 q) (AN k0 rows1 q):=by
 induction p generalizing k0 rows0 rows1 q with
 |nil=>simp[pre]at hq
 |cons a p ih=>
  obtain⟨i,j⟩:=a;simp only[AN]at h;split at h
  ·rename_i k' rows' hc;obtain⟨r1,h1⟩:=Iu (new:=new) h;simp only[CV,hc,h1,Option.some.injEq]at hs;subst hs
   cases q with
   |nil=>exact⟨rfl,ED.setAt_own hc⟩
   |cons b q=>
    obtain⟨i',j'⟩:=b;simp only[AN,BH hc];by_cases e:i'=i/\j'=j
    ·obtain⟨rfl,rfl⟩:=e;simp only[pre,if_true]at hq;simp only[and_self,if_true,hc];exact ih h h1 q hq
    ·rw[if_neg e];exact Ht.refl _
  ·cases h
theorem Cv {p q r:AO}:pre p q=some r<->q=p++r:=by
 induction p generalizing q with
 |nil=>simp[pre,eq_comm]
 |cons a p ih=>
  cases q with
  |nil=>simp[pre]
  |cons b q=>
   simp only[pre];by_cases e:a=b
   ·subst e;simp[ih]
   ·rw[if_neg e];simp;intro h;exact absurd h.symm e
theorem Bz (p q:AO):pre p (p++q)=some q:=Cv.2 rfl
theorem T.cells_ind {M:T->Prop} (sc: ∀v,M (.sc v)) (hole:M .hole)
  (own: ∀k rows,(∀i j d,AM rows i j=some d->M d)->M (.sl k rows)): ∀d,M d:=by
 have key: ∀ (n:Nat) (d:T),SizeOf.sizeOf d<n->M d:=by
  intro n
  induction n with
  |zero=>intro d h;omega
  |succ n ih=>
   intro d h
   cases d with
   |sc v=>exact sc v
   |hole=>exact hole
   |sl k rows=>
    refine own k rows fun i j d hd=>ih d ?_
    obtain⟨r,hr,hx⟩:=AY hd;have h1:=List.sizeOf_lt_of_mem (List.mem_of_getElem? hr);have h2:=List.sizeOf_lt_of_mem (List.mem_of_getElem? hx);simp at h;omega
 exact fun d=>key _ d (Nat.lt_succ_self _)
theorem UK (l:List (Nat×AV)) (t u:Nat) (a:AV):At ((t,a)::l) u=if u=t then a else At l u:=rfl
theorem Cw (l:List (Nat×Obj)) (t u:Nat):AR (M2 l t) u=if u=t then .none else AR l u:=by
 induction l with
 |nil=>simp[M2,AR]
 |cons a l ih=>
  obtain⟨m,a⟩:=a;simp only[M2];by_cases e:t=m
  ·subst e;rw[if_pos rfl,ih];by_cases e2:u=t
   ·simp[e2]
   ·simp[AR,e2]
  ·rw[if_neg e];simp only[AR,ih];by_cases e2:u=m
   ·subst e2;rw[if_pos rfl,if_pos rfl,if_neg (fun h=>e h.symm)]
   ·rw[if_neg e2,if_neg e2]
theorem A6 (s:St) (o u:Nat) (x:Obj):AR (s.putO o x).ob u=if u=o then x else AR s.ob u:=by
 simp only[St.putO,AR,Cw];by_cases e:u=o<;>simp[e]
theorem NY (f:Nat->AO->Option (Nat×AO)) (l:List (Nat×AV)) (t:Nat):At (Mp f l) t=(At l t).sub f:=by
 induction l with
 |nil=>simp[Mp,At,AV.sub]
 |cons a l ih=>
  obtain⟨m,a⟩:=a;simp only[Mp,At];by_cases e:t=m<;>simp[e,ih]
theorem Na (f:Nat->AO->Option (Nat×AO)) (l:List (Nat×Obj)) (t:Nat):AR (KO f l) t=(AR l t).sub f:=by
 induction l with
 |nil=>simp[KO,AR,Obj.sub]
 |cons a l ih=>
  obtain⟨m,a⟩:=a;simp only[KO,AR];by_cases e:t=m<;>simp[e,ih]
theorem BR (f:Nat->AO->Option (Nat×AO)) (l:List AV):Bv f l=l.map (AV.sub f):=by
 induction l with
 |nil=>rfl
 |cons a l ih=>simp[Bv,ih]
def Wr (w:World) (b j:Nat):Prop:=(∃u,w.cell? ⟨b,j,none⟩=some u)/\w.frozen? ⟨b,j,none⟩=false
inductive POk (w:World) (Im:Nat->Prop):Value->T->Prop
 |sc (v:Value) (h:Dn v=true):POk w Im v (.sc v)
 |hole (v:Value) (h:v.oneCell'=true):POk w Im v .hole
 |nil (a:Option Addr) (c k:Nat):POk w Im (.slice a 0 c) (.sl k [])
 |sl (b off c k:Nat) (rows:List (List T)) (us:Nat->Nat->Value) (him:Im b) (hle:rows.length<=c) (hk: ∀r∈rows,r.length=k)
   (hc: ∀i j t,AM rows i j=some t->w.cell? ⟨b,off+(i*k+j),none⟩=some (us i j))
   (hs: ∀i j t,AM rows i j=some t->POk w Im (us i j) t):POk w Im (.slice (some ⟨b,off,none⟩) rows.length c) (.sl k rows)
theorem POk.mono {w w':World} {Im Im':Nat->Prop} (h1: ∀b,Im b->Im' b) (h2: ∀b,Im b->w'.heap[b]? =w.heap[b]?) {v:Value} {t:T}
  (h:POk w Im v t):POk w' Im' v t:=by
 induction h with
 |sc v h=>exact .sc v h
 |hole v h=>exact .hole v h
 |nil a c k=>exact .nil a c k
 |sl b off c k rows us him hle hk hc hs ih=>
  refine .sl b off c k rows us (h1 b him) hle hk (fun i j t ht=> ?_) ih;have:=hc i j t ht;unfold World.cell? at*;rw[h2 b him];exact this
def CA:T->Value->Value->Prop
 | .sc s,u,_=>u=s/\Dn s=true
 | .sl _ _,u,x=>u=x
 | .hole,u,_=>u.oneCell'=true
def Bu (w:World) (v:Value) (k:Nat) (rows:List (List T)) (sub:Nat->Nat->Value):Prop:=
 ∃a c,v= .slice a rows.length c/\rows.length<=c/\(0<c-> ∃b off,a=some ⟨b,off,none⟩/\(∀x,x<c*k->Wr w b (off+x))/\
  (∀r∈rows,r.length=k)/\ ∀i j d,AM rows i j=some d-> ∃u,w.cell? ⟨b,off+(i*k+j),none⟩=some u/\CA d u (sub i j))
def BG:Value->Option Nat
 | .slice (some a) _ c=>if 0<c then some a.block else none
 |_=>none
structure Env where
 w:World
 ob:Nat->Obj
 hd:Nat->AO->Value
 bk:Nat->Nat
 Im:Nat->Prop
 tk:Nat->Value
def Env.node (e:Env) (o:Nat) (p:AO):Option (Nat×List (List T)):=
 match e.ob o with
 | .arr k rows=>AN k rows p
 |_=>none
inductive Pl where
 |nd (o:Nat) (p:AO)
 |bx (o:Nat)
def Env.blk (e:Env):Pl->Option Nat
 | .nd o p=>match e.node o p with
  |some _=>BG (e.hd o p)
  |none=>none
 | .bx o=>match e.ob o with
  | .box _=>some (e.bk o)
  |_=>none
def Fe (hv:Value) (k lo hi:Nat) (v:Value):Prop:=
 ∃a n c a' c',hv= .slice a n c/\v= .slice a' (hi - lo) c'/\hi - lo<=c'/\(0<c'->lo+c'<=c/\a'=a.map (·.add (lo*k)))
def HB (w:World) (Im:Nat->Prop) (v:Value) (cs:List T):Prop:=
 ∃b off,v= .pointer (some ⟨b,off,none⟩)/\Im b/\ ∀j t,cs[j]? =some t-> ∃u,w.cell? ⟨b,off+j,none⟩=some u/\POk w Im u t
inductive AS (e:Env):AV->Value->Prop
 |non (v:Value):AS e .non v
 |dead (v:Value) (h:v.oneCell'=true):AS e .dead v
 |und:AS e .und undef
 |sc (v:Value) (h:Dn v=true):AS e (.sc v) v
 |nil (k:Nat) (a:Option Addr):AS e (.nil k) (.slice a 0 0)
 |im (v:Value) (k:Nat) (rows:List (List T)) (h:POk e.w e.Im v (.sl k rows)):AS e (.im k rows) v
 |al (v:Value) (i k:Nat) (rows:List (List T)) (hv:v=e.tk i) (h:POk e.w e.Im v (.sl k rows)):AS e (.al i k rows) v
 |ref (o:Nat) (p:AO) (k:Nat) (rows:List (List T)) (h:e.node o p=some (k,rows)):AS e (.ref o p) (e.hd o p)
 |vw (o:Nat) (p:AO) (lo hi k:Nat) (rows:List (List T)) (v:Value) (h:e.node o p=some (k,rows)) (h1:lo<=hi) (h2:hi<=rows.length)
   (hw:Fe (e.hd o p) k lo hi v):AS e (.vw o p lo hi) v
 |pb (o j:Nat) (cs:List AV) (h:e.ob o= .box cs):AS e (.pb o j) (.pointer (some ⟨e.bk o,j,none⟩))
 |pa (o:Nat) (p:AO) (i j k b off n c:Nat) (rows:List (List T)) (h:e.node o p=some (k,rows)) (hh:e.hd o p= .slice (some ⟨b,off,none⟩) n c) (hc:0<c):
   AS e (.pa o p i j) (.pointer (some ⟨b,off+(i*k+j),none⟩))
 |pim (v:Value) (cs:List T) (h:HB e.w e.Im v cs):AS e (.pim cs) v
 |agg (l:List AV) (vs:List Value) (hl:l.length=vs.length) (h: ∀ (i:Nat) (a:AV) (v:Value),l[i]? =some a->vs[i]? =some v->AS e a v):AS e (.agg l) (.agg vs.toArray)
 |tup (l:List AV) (vs:List Value) (hl:l.length=vs.length) (h: ∀ (i:Nat) (a:AV) (v:Value),l[i]? =some a->vs[i]? =some v->AS e a v):AS e (.tup l) (.tuple vs.toArray)
 |clo (f:Nat) (l:List AV) (vs:List Value) (hl:l.length=vs.length) (h: ∀ (i:Nat) (a:AV) (v:Value),l[i]? =some a->vs[i]? =some v->AS e a v):
   AS e (.clo f l) (.func (.func f) #[] vs.toArray)
structure Ek (w0:World) (F:Nat->Prop) (w:World):Prop where
 os:w.os=w0.os
 tape:w.tape=w0.tape
 output:w.output=w0.output
 size:w0.heap.size<=w.heap.size
 block: ∀k,k<w0.heap.size-> ¬F k->w.heap[k]? =w0.heap[k]?
theorem Ek.refl (w:World) (F:Nat->Prop):Ek w F w:=⟨rfl,rfl,rfl,Nat.le_refl _,fun _ _ _=>rfl⟩
theorem Bu.one {w:World} {v:Value} {k:Nat} {rows:List (List T)} {sub:Nat->Nat->Value} (h:Bu w v k rows sub):v.oneCell'=true:=by
 obtain⟨_,_,rfl,_⟩:=h;rfl
structure Fm where
 w0:World
 F:Nat->Prop
 I:Nat->Prop
 H:Nat->Value
 B:Nat->Nat
 T:Nat->Value
structure Mem (fm:Fm) (e:Env):Prop where
 box: ∀o cs,e.ob o= .box cs-> ∀ (j:Nat) c,cs[j]? =some c->Wr e.w (e.bk o) j/\ ∃u,e.w.cell? ⟨e.bk o,j,none⟩=some u/\AS e c u
 node: ∀o p k rows,e.node o p=some (k,rows)->Bu e.w (e.hd o p) k rows (fun i j=>e.hd o (p++[(i,j)]))
 inj: ∀l l' b,e.blk l=some b->e.blk l'=some b->l=l'
 own: ∀l b,e.blk l=some b->b<e.w.heap.size/\(fm.w0.heap.size<=b\/fm.F b)/\ ¬e.Im b
 im: ∀x,e.Im x->x<e.w.heap.size/\(x<fm.w0.heap.size->fm.I x\/fm.F x)
 im0: ∀x,fm.I x->e.Im x
 keeps:Ek fm.w0 fm.F e.w
 tk:e.tk=fm.T
structure Rel (fm:Fm) (e:Env) (s:St) (a:Act):Prop where
 mem:Mem fm e
 ob: ∀o,e.ob o=AR s.ob o
 pinh: ∀o k rows,o<s.m->e.ob o= .arr k rows->e.hd o []=fm.H o
 pinb: ∀o cs,o<s.m->e.ob o= .box cs->e.bk o=fm.B o
 size:a.tmps.size=s.n
 defers:a.defers=[]
 tm: ∀t,AS e (At s.tm t) (a.tmps.getD t undef)
def Pl.obj:Pl->Nat
 | .nd o _=>o
 | .bx o=>o
structure Evo (e e':Env) (M:List Nat):Prop where
 size:e.w.heap.size<=e'.w.heap.size
 same: ∀b,b<e.w.heap.size->(∀l,e.blk l=some b->l.obj∉M)->e'.w.heap[b]? =e.w.heap[b]?
theorem Evo.refl (e:Env) (M:List Nat):Evo e e M:=⟨Nat.le_refl _,fun _ _ _=>rfl⟩
def Reach (fm:Fm) (e:Env) (M:List Nat) (s:St) (a:Act) (w:World):Prop:= ∃e',e'.w=w/\Rel fm e' s a/\Evo e e' M
structure Bm (e e':Env) (f:Nat->AO->Option (Nat×AO)):Prop where
 im: ∀b,e.Im b->e'.Im b/\e'.w.heap[b]? =e.w.heap[b]?
 node: ∀o p k rows o' p',e.node o p=some (k,rows)->f o p=some (o',p')-> ∃rows',e'.node o' p'=some (k,rows')/\rows'.length=rows.length/\e'.hd o' p'=e.hd o p
 box: ∀o cs,e.ob o= .box cs-> ∃cs',e'.ob o= .box cs'/\e'.bk o=e.bk o
 one: ∀o p k rows,e.node o p=some (k,rows)->(e.hd o p).oneCell'=true
 tk:e'.tk=e.tk
theorem HB.mono {w w':World} {Im Im':Nat->Prop} (h1: ∀b,Im b->Im' b) (h2: ∀b,Im b->w'.heap[b]? =w.heap[b]?) {v:Value} {cs:List T}
  (h:HB w Im v cs):HB w' Im' v cs:=by
 obtain⟨b,off,rfl,him,hc⟩:=h
 refine⟨b,off,rfl,h1 b him,fun j t ht=> ?_⟩
 obtain⟨u,hu,hp⟩:=hc j t ht
 refine⟨u,?_,hp.mono h1 h2⟩
 unfold World.cell? at*
 rw[h2 b him];exact hu
theorem AS.sub {e e':Env} {f:Nat->AO->Option (Nat×AO)} (hC:Bm e e' f) {a:AV} {v:Value} (h:AS e a v):AS e' (a.sub f) v:=by
 have hs: ∀o p k rows,e.node o p=some (k,rows)->(e.hd o p).oneCell'=true:=hC.one;have hp: ∀ {v t},POk e.w e.Im v t->POk e'.w e'.Im v t:=fun h=>h.mono (fun b hb=>(hC.im b hb).1) (fun b hb=>(hC.im b hb).2)
 have hq: ∀ {v cs},HB e.w e.Im v cs->HB e'.w e'.Im v cs:=fun h=>h.mono (fun b hb=>(hC.im b hb).1) (fun b hb=>(hC.im b hb).2)
 have hl: ∀ {l:List AV} {vs:List Value},(∀ (i:Nat) (a:AV) (v:Value),l[i]? =some a->vs[i]? =some v->AS e' (a.sub f) v)->
   ∀ (i:Nat) (a:AV) (v:Value),(Bv f l)[i]? =some a->vs[i]? =some v->AS e' a v:=by
  intro l vs H i a v ha hv
  rw[BR,List.getElem?_map]at ha
  cases hla:l[i]? with
  |none=>simp[hla]at ha
  |some x=>simp[hla]at ha;subst ha;exact H i x v hla hv
 induction h with
 |non v=>exact .non v
 |dead v h=>exact .dead v h
 |und=>exact .und
 |sc v h=>exact .sc v h
 |nil k a=>exact .nil k a
 |im v k rows h=>exact .im v k rows (hp h)
 |al v i k rows hv h=>exact .al v i k rows (hv.trans (congrFun hC.tk i).symm) (hp h)
 |ref o p k rows h=>
  simp only[AV.sub]
  cases hf:f o p with
  |none=>exact .dead _ (hs o p k rows h)
  |some x=>
   obtain⟨o',p'⟩:=x;obtain⟨rows',h1,h2,h3⟩:=hC.node o p k rows o' p' h hf;rw[←h3];exact .ref o' p' k rows' h1
 |vw o p lo hi k rows v h h1 h2 hw=>
  simp only[AV.sub]
  cases hf:f o p with
  |none=>exact .dead _ (by obtain⟨_,_,_,_,_,_,rfl,_⟩:=hw;rfl)
  |some x=>
   obtain⟨o',p'⟩:=x;obtain⟨rows',g1,g2,g3⟩:=hC.node o p k rows o' p' h hf;exact .vw o' p' lo hi k rows' v g1 h1 (g2 ▸ h2) (g3 ▸ hw)
 |pb o j cs h=>
  obtain⟨cs',h1,h2⟩:=hC.box o cs h;simp only[AV.sub];rw[←h2];exact .pb o j cs' h1
 |pa o p i j k b off n c rows h hh hc=>
  simp only[AV.sub]
  cases hf:f o p with
  |none=>exact .dead _ rfl
  |some x=>
   obtain⟨o',p'⟩:=x;obtain⟨rows',g1,g2,g3⟩:=hC.node o p k rows o' p' h hf;exact .pa o' p' i j k b off n c rows' g1 (g3.trans hh) hc
 |pim v cs h=>exact .pim v cs (hq h)
 |agg l vs hl1 h ih=>exact .agg _ vs (by rw[BR,List.length_map];exact hl1) (hl ih)
 |tup l vs hl1 h ih=>exact .tup _ vs (by rw[BR,List.length_map];exact hl1) (hl ih)
 |clo g l vs hl1 h ih=>exact .clo g _ vs (by rw[BR,List.length_map];exact hl1) (hl ih)
theorem AV.sub_id (f:Nat->AO->Option (Nat×AO)) (hf: ∀o p,f o p=some (o,p)): ∀a:AV,a.sub f=a:=by
 have key: ∀ (n:Nat) (a:AV),SizeOf.sizeOf a<n->a.sub f=a:=by
  intro n
  induction n with
  |zero=>intro a h;omega
  |succ n ih=>
   intro a h;have hl: ∀l:List AV,SizeOf.sizeOf l<n->Bv f l=l:=by
    intro l
    induction l with
    |nil=>intro _;rfl
    |cons a l ihl=>
     intro h;simp at h;simp only[Bv];rw[ih a (by omega),ihl (by omega)]
   cases a with
   |ref o p=>simp[AV.sub,hf]
   |vw o p lo hi=>simp[AV.sub,hf]
   |pa o p i j=>simp[AV.sub,hf]
   |agg l=>simp at h;simp only[AV.sub];rw[hl l (by omega)]
   |tup l=>simp at h;simp only[AV.sub];rw[hl l (by omega)]
   |clo g l=>simp at h;simp only[AV.sub];rw[hl l (by omega)]
   |_=>rfl
 exact fun a=>key _ a (Nat.lt_succ_self _)
theorem AS.carry {e e':Env} (hC:Bm e e' fun o p=>some (o,p)) {a:AV} {v:Value} (h:AS e a v):AS e' a v:=by
 have:=h.sub hC;rwa [AV.sub_id _ (fun _ _=>rfl)]at this
section
variable {P:Program} {fm:Fm} {M:List Nat} {e:Env} {s s':St} {a:Act}
theorem HW {t:TypeId} {v:Value} {x:AV} (h:Ef P t v=some x):AS e x v:=by
 unfold Ef at h;split at h
 ·split at h
  ·rename_i el _
   cases hk:Bd P el with
   |none=>simp[hk]at h
   |some k=>simp[hk]at h;subst h;exact .nil _ _
  ·cases h
 ·rename_i f fi ca;split at h
  ·rename_i hz
   cases h
   have h1:fi= #[]:=Array.eq_empty_of_size_eq_zero hz.1;have h2:ca= #[]:=Array.eq_empty_of_size_eq_zero hz.2;subst h1;subst h2;exact .clo f [] [] rfl (fun i a v h=>by simp at h)
  ·cases h
 ·split at h
  ·cases h;exact .sc _ (by assumption)
  ·cases h
theorem MT: ∀ {ts:List TypeId} {vs:List Value} {l:List AV},CW P ts vs=some l->
  l.length=vs.length/\ ∀ (i:Nat) (a:AV) (v:Value),l[i]? =some a->vs[i]? =some v->AS e a v
 |[],[],l,h=>by simp[CW]at h;subst h;exact⟨rfl,fun i a v h=>by simp at h⟩
 |t::ts,v::vs,l,h=>by
  simp only[CW]at h;split at h
  ·rename_i x m hx hm;simp at h;subst h;obtain⟨h1,h2⟩:=MT hm;refine⟨by simp[h1],fun i a u ha hu=> ?_⟩
   cases i with
   |zero=>simp at ha hu;subst ha;subst hu;exact HW hx
   |succ i=>simp at ha hu;exact h2 i a u ha hu
  ·cases h
 |[],_::_,l,h=>by simp[CW]at h
 |_::_,[],l,h=>by simp[CW]at h
theorem Sz {t:TypeId} {v:Value} {x:AV} (h:Fy P t v=some x):AS e x v:=by
 unfold Fy at h;split at h
 ·rename_i cs;split at h
  ·rename_i ts _
   cases hm:CW P ts cs.toList with
   |none=>simp[hm]at h
   |some l=>
    simp[hm]at h;subst h;obtain⟨h1,h2⟩:=MT (e:=e) hm;have:=AS.agg (e:=e) l cs.toList h1 h2;simpa using this
  ·cases h
 ·exact HW h
theorem Ap (hR:Rel fm e s a) {t:TypeId} {x:Operand} {X:X} (h:xOf P t x=some X):AS e (ev s.tm X) (a.eval x):=by
 cases x with
 |tmp n=>simp[xOf]at h;subst h;exact hR.tm n
 |const v=>
  simp only[xOf]at h
  cases hc:Fy P t v with
  |none=>simp[hc]at h
  |some y=>simp[hc]at h;subst h;exact Sz hc
 |func f=>simp[xOf]at h;subst h;exact .clo f [] [] rfl (fun i a v h=>by simp at h)
 |global g=>simp[xOf]at h
theorem Ie (hR:Rel fm e s a): ∀ {ts:List TypeId} {xs:List Operand} {Xs:List X},GN P ts xs=some Xs->
  (Xs.map (ev s.tm)).length=(xs.map a.eval).length/\ ∀ (i:Nat) (x:AV) (v:Value),(Xs.map (ev s.tm))[i]? =some x->(xs.map a.eval)[i]? =some v->AS e x v
 |[],[],l,h=>by simp[GN]at h;subst h;exact⟨rfl,fun i a v h=>by simp at h⟩
 |t::ts,x::xs,l,h=>by
  simp only[GN]at h;split at h
  ·rename_i y m hx hm;simp at h;subst h;obtain⟨h1,h2⟩:=Ie hR hm;refine⟨by simpa using h1,fun i z u ha hu=> ?_⟩
   cases i with
   |zero=>simp at ha hu;subst ha;subst hu;exact Ap hR hx
   |succ i=>simp at ha hu;exact h2 i z u (by simpa using ha) (by simpa using hu)
  ·cases h
 |[],_::_,l,h=>by simp[GN]at h
 |_::_,[],l,h=>by simp[GN]at h
theorem PB {d:Option Nat} {x:AV} (h:s.put d x=some s'):s'.ob=s.ob/\s'.n=s.n/\s'.m=s.m/\(∀t,d=some t->t<s.n)/\
  ∀u,At s'.tm u=if d=some u then x else At s.tm u:=by
 unfold St.put at h
 cases d with
 |none=>
  simp at h;subst h;refine⟨rfl,rfl,rfl,?_,?_⟩
  ·intro t h;cases h
  ·intro u;simp
 |some t=>
  simp only at h;by_cases hlt:t<s.n
  ·rw[if_pos hlt]at h
   cases h
   refine⟨rfl,rfl,rfl,fun u h=>by cases h;exact hlt,fun u=> ?_⟩;simp only[UK];by_cases e:u=t
   ·subst e;simp
   ·rw[if_neg e,if_neg (by simp;exact fun h=>e h.symm)]
  ·rw[if_neg hlt]at h;cases h
theorem UN (a:Act) (d:Option Nat) (v:Value) (hd: ∀t,d=some t->t<a.tmps.size) (u:Nat):
  (a.put d v).tmps.getD u undef=if d=some u then v else a.tmps.getD u undef:=by
 cases d with
 |none=>simp[Act.put]
 |some t=>
  have:=hd t rfl;simp only[Act.put,Array.getD_eq_getD_getElem?,Array.getElem?_setIfInBounds,Option.some.injEq];by_cases e:t=u
  ·subst e;simp[this]
  ·simp[e]
theorem TU (a:Act) (d:Option Nat) (v:Value):(a.put d v).tmps.size=a.tmps.size:=by cases d<;>simp[Act.put]
theorem Qf (a:Act) (d:Option Nat) (v:Value):(a.put d v).defers=a.defers:=by cases d<;>simp[Act.put]
theorem Rel.put (hR:Rel fm e s a) {d:Option Nat} {x:AV} {v:Value} (hv:AS e x v) (h:s.put d x=some s'):
  Rel fm e s' (a.put d v):=by
 obtain⟨h1,h2,hm,h3,h4⟩:=PB h
 refine⟨hR.mem,fun o=>by rw[h1];exact hR.ob o,by rw[hm];exact hR.pinh,by rw[hm];exact hR.pinb,by rw[TU,hR.size,h2],by rw[Qf];exact hR.defers,fun t=> ?_⟩
 rw[h4,UN a d v (fun t ht=>by rw[hR.size];exact h3 t ht)]
 split
 ·exact hv
 ·exact hR.tm t
theorem Ig (hR:Rel fm e s a) {o:Oper} {x:AV} {v:Value} (hrun:(execOp a.eval o).run P e.w= .ok (.value v) e.w)
  (hv:AS e x v) (h:s.put o.dst x=some s') (Q:Exit->Act->World->Prop):o.wp P a e.w (Reach fm e M s') Q:=by
 unfold Oper.wp
 rw[hrun,Oper.upon_value]
 exact⟨e,rfl,hR.put hv h,Evo.refl e M⟩
def Yl (P:Program) (e:Env) (s:St) (o:Oper) (a:Act) (s':St):Prop:=
 ∃ (v:Value) (x:AV),(∀w:World,(execOp a.eval o).run P w= .ok (.value v) w)/\AS e x v/\s.put o.dst x=some s'
theorem yl {o:Oper} {x:AV} {v:Value} (hrun: ∀w:World,(execOp a.eval o).run P w= .ok (.value v) w) (hv:AS e x v) (h:s.put o.dst x=some s'):Yl P e s o a s':=
 ⟨v,x,hrun,hv,h⟩
theorem Yl.wp {o:Oper} (h:Yl P e s o a s') (hR:Rel fm e s a) (Q:Exit->Act->World->Prop):o.wp P a e.w (Reach fm e M s') Q:=by
 obtain⟨v,x,h1,h2,h3⟩:=h;exact Ig hR (h1 e.w) h2 h3 Q
theorem bin_int (op : BinOp) (t : TypeId) (k k' : IntKind) (x y : Int) (r : Value) (w : World) (h : QD op (.int k x) (.int k' y) = some r) :
    (binOp op t (.int k x) (.int k' y)).run P w = .ok r w /\ Dn r = true := by
  cases op <;> simp only [QD] at h <;>
    first
      | (split at h
         · cases h
         · cases h; rename_i hb; constructor
           · simp [binOp, Op.shift, hb]
           · rfl)
      | (split at h
         · rename_i hk; subst hk
           first
             | (cases h; constructor
                · simp [binOp, Op.intArith, Op.intBits, Op.intCmp, bits]
                · rfl)
             | (split at h
                · cases h
                · cases h; rename_i hb; constructor
                  · simp [binOp, Op.intDiv, hb]
                  · rfl)
             | (cases h)
         · cases h)
      | cases h
theorem RH (op : BinOp) (t : TypeId) (x y : ByteArray) (r : Value) (w : World) (h : QD op (.string x) (.string y) = some r) :
    (binOp op t (.string x) (.string y)).run P w = .ok r w /\ Dn r = true := by
  cases op <;> simp only [QD] at h <;> first
    | (cases h; done)
    | (cases h; exact ⟨by simp [binOp, Op.stringOp], rfl⟩)
    | (split at h
       · cases h; rename_i hb
         refine ⟨?_, rfl⟩
         have hi : IntKind.i64.max = 9223372036854775807 := by decide
         simp only [binOp, Op.stringOp, hi]
         rw [if_neg (by omega)]; rfl
       · cases h)
theorem AQ {t:TypeId} {d:TypeDesc} (h:P.underlying t=some d) (w:World):(underlying t).run P w= .ok d w:=by
 simp[underlying,h]
theorem Uh (op:BinOp) (t:TypeId) (ht:P.underlying t=some .bool) (x y:Bool) (r:Value) (w:World) (h:Ui op x y=some r):
  (binOp op t (.bool x) (.bool y)).run P w= .ok r w/\Dn r=true:=by
 have hd: ∀d,(Op.equalIn (d+1) t (.bool x) (.bool y)).run P w= .ok (x==y) w:=by
  intro d;simp[Op.equalIn,AQ ht]
 have he:(Op.equal t (.bool x) (.bool y)).run P w= .ok (x==y) w:=hd 9999
 cases op<;>simp only[Ui]at h<;>first
  |(cases h;done)
  |(cases h;exact⟨by simp[binOp,he],rfl⟩)
theorem MQ (op:BinOp) (t:TypeId) (x y:Operand) (u v:Value) (hu:Dn u=true) (w:World):(eqGuard op t x y u v).run P w= .ok () w:=by
 cases op<;>first
  |rfl
  |(cases u<;>first
    |rfl
    |(simp[Dn]at hu;done))
theorem AS.sc_inv {v u:Value} (h:AS e (.sc v) u):u=v/\Dn v=true:=by cases h;exact⟨rfl,by assumption⟩
end
section
def AV.place:AV->Option (Nat×AO)
 | .ref o p=>some (o,p)
 | .vw o p _ _=>some (o,p)
 |_=>none
variable {P:Program} {fm:Fm} {M:List Nat} {e:Env} {s s':St} {a:Act}
theorem Bg (b off n:Nat):Addr.add ⟨b,off,none⟩ n=⟨b,off+n,none⟩:=by
 unfold Addr.add;split
 ·rename_i h;subst h;rfl
 ·rfl
theorem Cy {α:Type} (rows:List (List α)) (lo hi i j:Nat) {d:α} (h:AM ((rows.take hi).drop lo) i j=some d):AM rows (lo+i) j=some d:=by
 obtain⟨r,hr,hd⟩:=AY h;rw[List.getElem?_drop]at hr;have h2:rows[lo+i]? =some r:=by
  rw[List.getElem?_take]at hr;split at hr
  ·exact hr
  ·cases hr
 rw[Bp h2];exact hd
theorem Lf {α:Type} {rows:List α} {lo hi:Nat} {r:α} (h:r∈(rows.take hi).drop lo):r∈rows:=
 List.mem_of_mem_take (List.mem_of_mem_drop h)
theorem POk.window {w:World} {Im:Nat->Prop} {hv v:Value} {k lo hi:Nat} {rows:List (List T)} (h:POk w Im hv (.sl k rows)) (hw:Fe hv k lo hi v)
  (h1:lo<=hi) (h2:hi<=rows.length):POk w Im v (.sl k ((rows.take hi).drop lo)):=by
 obtain⟨a,n,c,a',c',rfl,rfl,hc',hx⟩:=hw
 have hlen:((rows.take hi).drop lo).length=hi - lo:=by simp;omega
 by_cases hz:hi - lo=0
 ·have:(rows.take hi).drop lo=[]:=List.eq_nil_of_length_eq_zero (by omega)
  rw[this,hz]
  exact .nil _ _ _
 ·obtain⟨hcc,rfl⟩:=hx (by omega)
  generalize hv':(Value.slice a n c)=hv at h
  cases h with
  |nil=>simp at h2;omega
  |sl b off c2 k rows us him hle hk hc hs=>
   cases hv'
   rw[←hlen];simp only[Option.map_some,Bg];refine .sl b (off+lo*k) c' k _ (fun i j=>us (lo+i) j) him (by omega) (fun r hr=>hk r (Lf hr)) (fun i j t ht=> ?_) (fun i j t ht=>hs (lo+i) j t (Cy _ _ _ _ _ ht));have:=hc (lo+i) j t (Cy _ _ _ _ _ ht);rw[←this];congr 2;rw[Nat.add_mul];omega
theorem PM (hM:Mem fm e): ∀ (d:T) (o:Nat) (p:AO) (k:Nat) (rows:List (List T)),d= .sl k rows->e.node o p=some (k,rows)->
  POk e.w (fun b=> ∃q,e.blk (.nd o (p++q))=some b) (e.hd o p) (.sl k rows):=by
 intro d
 induction d using T.cells_ind with
 |sc v=>intro o p k rows h;cases h
 |hole=>intro o p k rows h;cases h
 |own k rows ih=>
  intro o p k2 rows2 h hn
  cases h
  obtain⟨ad,c,hv,hle,hc⟩:=hM.node o p k rows hn;rw[hv];by_cases hz:rows.length=0
  ·have:rows=[]:=List.eq_nil_of_length_eq_zero hz;subst this;exact .nil _ _ _
  ·obtain⟨b,off,rfl,_,hk,hcell⟩:=hc (by omega);have hblk:e.blk (.nd o p)=some b:=by
    simp only[Env.blk,hn,hv,BG];rw[if_pos (by omega)]
   refine .sl b off c k _ (fun i j=>(e.w.cell? ⟨b,off+(i*k+j),none⟩).getD undef) ⟨[],by simpa using hblk⟩ hle hk (fun i j t ht=> ?_) (fun i j t ht=> ?_)
   ·obtain⟨u,hu,_⟩:=hcell i j t ht;rw[hu];rfl
   ·obtain⟨u,hu,hok⟩:=hcell i j t ht;rw[hu]
    cases t with
    |sc s=>obtain⟨rfl,hs⟩:=hok;exact .sc _ hs
    |hole=>exact .hole _ hok
    |sl k' rows'=>
     simp only[CA]at hok;have hn':e.node o (p++[(i,j)])=some (k',rows'):=by
      unfold Env.node at hn ⊢;split at hn
      ·rename_i k0 rows0 he;rw[A9,hn];simp[AN,ht]
      ·cases hn
     have:=ih i j _ ht o (p++[(i,j)]) k' rows' rfl hn';simp only[Option.getD_some,hok];exact this.mono (fun b ⟨q,hq⟩=>⟨(i,j)::q,by simpa using hq⟩) (fun _ _=>rfl)
theorem Cm (hR:Rel fm e s a) (o:Nat) (p:AO):CR s.ob o p=e.node o p:=by
 unfold CR Env.node;rw[hR.ob o]
 all_goals (generalize AR s.ob o=x;cases x<;>rfl)
theorem HE (hR:Rel fm e s a) {x:AV} {v:Value} {k:Nat} {rows:List (List T)} (hx:AS e x v) (h:Be s.ob x=some (k,rows)):
  POk e.w (fun b=>e.Im b\/ ∃o p q,x.place=some (o,p)/\e.blk (.nd o (p++q))=some b) v (.sl k rows):=by
 cases hx with
 |nil k' ad=>simp[Be]at h;obtain⟨rfl,rfl⟩:=h;exact .nil _ _ _
 |im v k' rows' hp=>simp[Be]at h;obtain⟨rfl,rfl⟩:=h;exact hp.mono (fun _ h=> .inl h) (fun _ _=>rfl)
 |al v j k' rows' hv hp=>simp[Be]at h;obtain⟨rfl,rfl⟩:=h;exact hp.mono (fun _ h=> .inl h) (fun _ _=>rfl)
 |ref o p k' rows' hn=>
  simp[Be,Cm hR,hn]at h;obtain⟨rfl,rfl⟩:=h;exact(PM hR.mem _ o p k' rows' rfl hn).mono (fun b ⟨q,hq⟩=> .inr ⟨o,p,q,rfl,hq⟩) (fun _ _=>rfl)
 |vw o p lo hi k' rows' v hn h1 h2 hw=>
  simp[Be,Cm hR,hn]at h;obtain⟨rfl,rfl⟩:=h;have:=((PM hR.mem _ o p k' rows' rfl hn).mono (Im':=fun b=>e.Im b\/ ∃o' p' q,(AV.vw o p lo hi).place=some (o',p')/\e.blk (.nd o' (p'++q))=some b) (fun b ⟨q,hq⟩=> .inr ⟨o,p,q,rfl,hq⟩) (fun _ _=>rfl)).window hw h1 h2;exact this
 |_=>simp[Be]at h
end
section
variable {P:Program} {fm:Fm} {M:List Nat} {e:Env} {s s':St} {a:Act} {Q:Exit->Act->World->Prop}
variable {K:Nat->List Arg->Option Res} {md:Nat->List Nat}
theorem CY {t:TypeId} {n:Nat} (h:Bd P t=some n) (w:World):(sizeOf t).run P w= .ok n w:=by
 unfold Bd at h
 cases hi:P.info? t with
 |none=>simp[hi]at h
 |some i=>simp[hi]at h;simp[sizeOf,typeInfo,hi,h]
theorem PQ {t:TypeId} (h:nOf P t=some none) (w:World):(isAgg t).run P w= .ok false w:=by
 unfold nOf at h;unfold isAgg
 cases hu:P.underlying t with
 |none=>simp[hu]at h
 |some d=>cases d<;>simp[hu]at h<;>simp[AQ hu]
theorem PO {t:TypeId} {n:Nat} (h:nOf P t=some (some n)) (w:World):(isAgg t).run P w= .ok true w/\(sizeOf t).run P w= .ok n w:=by
 unfold nOf at h;unfold isAgg
 cases hu:P.underlying t with
 |none=>simp[hu]at h
 |some d=>cases d<;>simp[hu]at h<;>exact⟨by simp[AQ hu],CY h w⟩
theorem OB (hR:Rel fm e s a) {o:Oper} {x:Operand} {X:X} (ho:o.op= .move x\/o.op= .assign x) (hx:xOf P o.type x=some X)
  (h:s.put o.dst (ev s.tm X)=some s'):Yl P e s o a s':=
 yl (v:=a.eval x) (fun w=>by rcases ho with ho|ho<;>simp[execOp,ho]) (Ap hR hx) h
theorem op_pick (hR:Rel fm e s a) {o:Oper} {c x y:Operand} {C X Y:Ow.X} (ho:o.op= .pick c x y) (hc:xOf P o.type c=some C) (hx:xOf P o.type x=some X)
  (hy:xOf P o.type y=some Y) (h:Aa K md s o.dst (.pick C X Y)=some s'):Yl P e s o a s':=by
 have h1:=Ap hR hc
 simp only[Aa]at h
 split at h
 ·rename_i b hb
  rw[hb]at h1
  obtain⟨h1,_⟩:=h1.sc_inv
  cases b
  ·simp at h
   exact yl (v:=a.eval y) (fun w=>by simp[execOp,ho,asBool,h1]) (Ap hR hy) h
  ·simp at h
   exact yl (v:=a.eval x) (fun w=>by simp[execOp,ho,asBool,h1]) (Ap hR hx) h
 ·cases h
theorem Tf (hR:Rel fm e s a) {o:Oper} {op:BinOp} {t t2:TypeId} {x y:Operand} {X Y:Ow.X} (ho:o.op= .binOp op t x y t2)
  {tx ty:TypeId} (hx:xOf P tx x=some X) (hy:xOf P ty y=some Y)
  (h:Aa K md s o.dst (.bin op X Y)=some s'):Yl P e s o a s':=by
 have h1:=Ap hR hx
 have h2:=Ap hR hy
 simp only[Aa]at h
 split at h
 ·rename_i v hv
  unfold binA at hv
  split at hv
  ·rename_i u1 u2 e1 e2
   rw[e1]at h1
   rw[e2]at h2
   obtain⟨g1,sc1⟩:=h1.sc_inv
   obtain⟨g2,sc2⟩:=h2.sc_inv
   cases hr:QD op u1 u2 with
   |none=>simp[hr]at hv
   |some r=>
    simp[hr]at hv;subst hv;have key: ∀w:World,(binOp op t (a.eval x) (a.eval y)).run P w= .ok r w/\Dn r=true:=by
     intro w;rw[g1,g2]
     cases u1<;>cases u2<;>first
      |(simp[QD]at hr;done)
      |exact bin_int op t _ _ _ _ r w hr
      |exact RH op t _ _ r w hr
    refine yl (v:=r) (fun w=> ?_) (.sc r (key e.w).2) h;simp[execOp,ho,MQ op t x y (a.eval x) (a.eval y) (by rw[g1];exact sc1),(key w).1]
  ·cases hv
 ·cases h
theorem Tg (hR:Rel fm e s a) {o:Oper} {op:BinOp} {t t2:TypeId} {x y:Operand} {X Y:Ow.X} (ho:o.op= .binOp op t x y t2)
  {tx ty:TypeId} (hx:xOf P tx x=some X) (hy:xOf P ty y=some Y) (hb:P.underlying t=some .bool)
  (h:Aa K md s o.dst (.beq op X Y)=some s'):Yl P e s o a s':=by
 have h1:=Ap hR hx
 have h2:=Ap hR hy
 simp only[Aa]at h
 split at h
 ·rename_i v hv
  unfold beqA at hv
  split at hv
  ·rename_i u1 u2 e1 e2
   rw[e1]at h1
   rw[e2]at h2
   obtain⟨g1,sc1⟩:=h1.sc_inv
   obtain⟨g2,sc2⟩:=h2.sc_inv
   cases hr:Ui op u1 u2 with
   |none=>simp[hr]at hv
   |some r=>
    simp[hr]at hv;subst hv;have key: ∀w:World,(binOp op t (a.eval x) (a.eval y)).run P w= .ok r w/\Dn r=true:=by
     intro w;rw[g1,g2];exact Uh op t hb _ _ r w hr
    refine yl (v:=r) (fun w=> ?_) (.sc r (key e.w).2) h;simp[execOp,ho,MQ op t x y (a.eval x) (a.eval y) (by rw[g1];exact sc1),(key w).1]
  ·cases hv
 ·cases h
theorem op_un (hR:Rel fm e s a) {o:Oper} {op:UnOp} {t:TypeId} {x:Operand} {X:X} (ho:o.op= .unOp op t x) {tx:TypeId} (hx:xOf P tx x=some X)
  (h:Aa K md s o.dst (.un op X)=some s'):Yl P e s o a s':=by
 have h1:=Ap hR hx
 simp only[Aa]at h
 split at h
 ·rename_i v hv
  unfold unA at hv
  split at hv
  ·rename_i k n e1
   rw[e1]at h1
   obtain⟨g1,_⟩:=h1.sc_inv
   split at hv
   ·cases hv
    exact yl (v:= .int k (k.wrap (0 - n))) (fun w=>by simp[execOp,ho,g1,Op.unary,Op.intArith]) (.sc _ rfl) h
   ·cases hv
  ·rename_i b e1
   rw[e1]at h1
   obtain⟨g1,_⟩:=h1.sc_inv
   split at hv
   ·cases hv
    exact yl (v:= .bool (!b)) (fun w=>by simp[execOp,ho,g1,Op.unary]) (.sc _ rfl) h
   ·cases hv
  ·cases hv
 ·cases h
theorem Tc (hR:Rel fm e s a) {o:Oper} {t u:TypeId} {k0 k:IntKind} {x:Operand} {X:X} (ho:o.op= .convert t u x) (ht:P.underlying t=some (.int k0))
  (hu:P.underlying u=some (.int k)) {tx:TypeId} (hx:xOf P tx x=some X) (h:Aa K md s o.dst (.toInt k X)=some s'):Yl P e s o a s':=by
 have h1:=Ap hR hx
 simp only[Aa]at h
 split at h
 ·rename_i k' n e1
  rw[e1]at h1
  obtain⟨g1,_⟩:=h1.sc_inv
  exact yl (v:= .int k (k.wrap n)) (fun w=>by simp[execOp,ho,g1,convert,AQ ht,AQ hu,Conv.intToInt]) (.sc _ rfl) h
 ·cases h
theorem Tb (hR:Rel fm e s a) {o:Oper} {t u:TypeId} {k0:IntKind} {x:Operand} {X:X} (ho:o.op= .convert t u x) (ht:P.underlying t=some (.int k0))
  (hu:P.underlying u=some .string) {tx:TypeId} (hx:xOf P tx x=some X) (h:Aa K md s o.dst (.toStr X)=some s'):Yl P e s o a s':=by
 have h1:=Ap hR hx
 simp only[Aa]at h
 split at h
 ·rename_i k' n e1
  rw[e1]at h1
  obtain⟨g1,_⟩:=h1.sc_inv
  exact yl (v:= .string (Utf8.encode n)) (fun w=>by simp[execOp,ho,g1,convert,AQ ht,AQ hu,Conv.intToString]) (.sc _ rfl) h
 ·cases h
theorem op_ext (hR:Rel fm e s a) {o:Oper} {x:Operand} {j:Nat} {X:X} (ho:o.op= .extract x j) {tx:TypeId} (hx:xOf P tx x=some X)
  (h:Aa K md s o.dst (.ext j X)=some s'):Yl P e s o a s':=by
 have h1:=Ap hR hx
 simp only[Aa]at h
 split at h
 ·rename_i l e1
  rw[e1]at h1
  split at h
  ·rename_i v hv
   generalize hev:a.eval x=ax at h1
   cases h1 with
   |tup l vs hl hh=>
    have hj:j<vs.length:=by rw[←hl];exact(List.getElem?_eq_some_iff.1 hv).1
    have hu:vs[j]? =some vs[j]:=List.getElem?_eq_getElem hj;exact yl (v:=vs[j]) (fun w=>by simp[execOp,ho,hev,Instr.extract,hu]) (hh j v _ hv hu) h
  ·cases h
 ·cases h
theorem op_nchk (hR:Rel fm e s a) {o:Oper} {x:Operand} {X:X} (ho:o.op= .nilCheck x) {tx:TypeId} (hx:xOf P tx x=some X)
  (h:Aa K md s o.dst (.nchk X)=some s'):Yl P e s o a s':=by
 have h1:=Ap hR hx
 simp only[Aa]at h
 generalize hev:a.eval x=ax at h1
 split at h
 ·rename_i o' j e1
  rw[e1]at h1
  have h2:=h1
  cases h1
  exact yl (v:= .pointer (some _)) (fun w=>by simp[execOp,ho,hev]) h2 h
 ·rename_i o' p i j e1
  rw[e1]at h1
  have h2:=h1
  cases h1
  exact yl (v:= .pointer (some _)) (fun w=>by simp[execOp,ho,hev]) h2 h
 ·rename_i c e1
  rw[e1]at h1
  have h2:=h1
  cases h1 with
  |pim v cs hp=>
   obtain⟨b,off,rfl,_⟩:=hp;exact yl (v:= .pointer (some _)) (fun w=>by simp[execOp,ho,hev]) h2 h
 ·cases h
theorem op_fn (hR:Rel fm e s a) {o:Oper} {f:Nat} {caps:Array Operand} {ts:List TypeId} {Xs:List X} (ho:o.op= .makeFunc (.func f) #[] caps)
  (hx:GN P ts caps.toList=some Xs) (h:Aa K md s o.dst (.fn f Xs)=some s'):Yl P e s o a s':=by
 obtain⟨h1,h2⟩:=Ie hR hx
 simp only[Aa]at h
 refine yl (v:= .func (.func f) #[] (caps.map a.eval)) (fun w=>by simp[execOp,ho,Instr.makeFunc]) ?_ h
 have:=AS.clo (e:=e) f _ _ h1 h2
 have he:caps.map a.eval=(caps.toList.map a.eval).toArray:=by
  apply Array.ext';simp
 rw[he];exact this
theorem T3 (hR:Rel fm e s a) {x:AV} {v:Value} {n:Nat} (h1:AS e x v) (hn:Mt s.ob x=some n): ∃ad c,v= .slice ad n c:=by
 cases h1 with
 |nil k ad=>simp[Mt]at hn;subst hn;exact⟨_,_,rfl⟩
 |im v k rows hp=>
  simp[Mt]at hn;subst hn
  cases hp with
  |nil ad c k=>exact⟨_,_,rfl⟩
  |sl b off c k rows us _ _ _ _ _=>exact⟨_,_,rfl⟩
 |al v i0 k rows hv0 hp=>
  simp[Mt]at hn;subst hn
  cases hp with
  |nil ad c k=>exact⟨_,_,rfl⟩
  |sl b off c k rows us _ _ _ _ _=>exact⟨_,_,rfl⟩
 |ref o' p k rows hno=>
  simp[Mt,Cm hR,hno]at hn;subst hn;obtain⟨ad,c,hv,_⟩:=hR.mem.node o' p k rows hno;exact⟨_,_,hv⟩
 |vw o' p lo hi k rows v _ _ _ hw=>
  simp[Mt]at hn;subst hn;obtain⟨_,_,_,a',c',_,rfl,_⟩:=hw;exact⟨_,_,rfl⟩
 |_=>simp[Mt]at hn
theorem op_len (hR:Rel fm e s a) {o:Oper} {t el:TypeId} {x:Operand} {X:X} (ho:o.op= .call {callee:= .builtin .len,args:= #[x],argTypes:= #[t]})
  (ht:P.underlying t=some (.slice el)) {tx:TypeId} (hx:xOf P tx x=some X) (h:Aa K md s o.dst (.len X)=some s'):
  Yl P e s o a s':=by
 have h1:=Ap hR hx
 simp only[Aa]at h
 split at h
 ·rename_i n hn
  obtain⟨ad,c,hb⟩:=T3 hR h1 hn
  refine yl (v:= .int .i64 n) (fun w=> ?_) (.sc _ rfl) h
  simp[execOp,ho,hb,resolve,invoke,builtin,Builtin.len_,AQ ht,goInt]
 ·cases h
theorem op_slen (hR:Rel fm e s a) {o:Oper} {t:TypeId} {x:Operand} {X:X} (ho:o.op= .call {callee:= .builtin .len,args:= #[x],argTypes:= #[t]})
  (ht:P.underlying t=some .string) {tx:TypeId} (hx:xOf P tx x=some X) (h:Aa K md s o.dst (.slen X)=some s'):
  Yl P e s o a s':=by
 have h1:=Ap hR hx
 simp only[Aa]at h
 split at h
 ·rename_i b e1
  rw[e1]at h1
  obtain⟨g1,_⟩:=h1.sc_inv
  refine yl (v:= .int .i64 b.size) (fun w=> ?_) (.sc _ rfl) h
  simp[execOp,ho,g1,resolve,invoke,builtin,Builtin.len_,AQ ht,goInt]
 ·cases h
theorem op_mm (hR:Rel fm e s a) {o:Oper} {mx:Bool} {t t2:TypeId} {x y:Operand} {X Y:Ow.X}
  (ho:o.op= .call {callee:= .builtin (if mx then .max else .min),args:= #[x,y],argTypes:= #[t,t2]})
  {tx ty:TypeId} (hx:xOf P tx x=some X) (hy:xOf P ty y=some Y) (h:Aa K md s o.dst (.mm mx X Y)=some s'):
  Yl P e s o a s':=by
 have h1:=Ap hR hx
 have h2:=Ap hR hy
 simp only[Aa]at h
 split at h
 ·rename_i k m k' n e1 e2
  rw[e1]at h1
  rw[e2]at h2
  obtain⟨g1,_⟩:=h1.sc_inv
  obtain⟨g2,_⟩:=h2.sc_inv
  cases mx
  ·exact yl (v:= .int k (if n<m then n else m)) (fun w=>by simp[execOp,ho,g1,g2,resolve,invoke,builtin,Builtin.min_,Builtin.min2]) (.sc _ rfl) h
  ·exact yl (v:= .int k (if m<n then n else m)) (fun w=>by simp[execOp,ho,g1,g2,resolve,invoke,builtin,Builtin.max_,Builtin.max2]) (.sc _ rfl) h
 ·cases h
end
section
variable {P:Program} {fm:Fm} {M:List Nat} {e:Env} {s s':St} {a:Act} {Q:Exit->Act->World->Prop}
variable {K:Nat->List Arg->Option Res} {md:Nat->List Nat}
theorem F2 {α:Type} {l m:List α} {j n:Nat} (h:cells l j n=some m):j+n<=l.length/\m.length=n/\ ∀i,i<n->m[i]? =l[j+i]? :=by
 unfold cells at h;split at h
 ·rename_i hle
  cases h
  refine⟨hle,by simp;omega,fun i hi=> ?_⟩;rw[List.getElem?_take,if_pos hi,List.getElem?_drop]
 ·cases h
theorem Lg {w:World} {t:TypeId} {n:Nat} (ht:nOf P t=some (some n)) (b off:Nat) (us:Nat->Value) (h: ∀i,i<n->w.cell? ⟨b,off+i,none⟩=some (us i)):
  (Instr.loadAt t (.pointer (some ⟨b,off,none⟩))).run P w= .ok (.agg ((List.range n).map us).toArray) w:=by
 obtain⟨h1,h2⟩:=PO ht w
 have:=run_loadCells (P:=P) w ⟨b,off,none⟩ n us (fun j hj=>by rw[Bg];exact h j hj)
 simp[Instr.loadAt,Instr.sureAddr,loadVar,h1,h2,this]
theorem Lh {w:World} {t:TypeId} (ht:nOf P t=some none) (b off:Nat) (u:Value) (h:w.cell? ⟨b,off,none⟩=some u):
  (Instr.loadAt t (.pointer (some ⟨b,off,none⟩))).run P w= .ok u w:=by
 have h1:=PQ ht w
 simp[Instr.loadAt,Instr.sureAddr,loadVar,h1,h]
theorem Jx {e:Env} (l:List AV) (us:Nat->Value) (h: ∀i x,l[i]? =some x->AS e x (us i)):AS e (.agg l) (.agg ((List.range l.length).map us).toArray):=by
 refine .agg l _ (by simp) (fun i x v hx hv=> ?_);have hi:i<l.length:=(List.getElem?_eq_some_iff.1 hx).1;rw[List.getElem?_map,List.getElem?_range hi]at hv;simp at hv;subst hv;exact h i x hx
theorem PL (o:Nat) (p:AO) (i:Nat): ∀ (l:List T) (j m:Nat),(JX o p i j l)[m]? =l[m]?.map (ofD o p i (j+m))
 |[],j,m=>by simp[JX]
 |d::l,j,0=>by simp[JX]
 |d::l,j,m+1=>by
  simp only[JX,List.getElem?_cons_succ];rw[PL o p i l (j+1) m];congr 2;omega
theorem LZ (o:Nat) (p:AO) (i:Nat): ∀ (l:List T) (j:Nat),(JX o p i j l).length=l.length
 |[],j=>rfl
 |d::l,j=>by simp[JX,LZ o p i l]
theorem PJ (l:List T):J7 l=l.map Tj:=by
 induction l with
 |nil=>rfl
 |cons a l ih=>simp[J7,ih]
theorem Re {u:Value} {t:T} (h:POk e.w e.Im u t):AS e (Tj t) u:=by
 cases h with
 |sc _ h=>exact .sc _ h
 |hole _ h=>exact .dead _ h
 |nil a c k=>exact .im _ _ _ (.nil a c k)
 |sl b off c k rows us him hle hk hc hs=>exact .im _ _ _ (.sl b off c k rows us him hle hk hc hs)
theorem NL (hM:Mem fm e) {o:Nat} {p:AO} {k b off n c:Nat} {rows:List (List T)} (hn:e.node o p=some (k,rows))
  (hh:e.hd o p= .slice (some ⟨b,off,none⟩) n c) (hc:0<c) {i j:Nat} {d:T} (hd:AM rows i j=some d):
  ∃u,e.w.cell? ⟨b,off+(i*k+j),none⟩=some u/\AS e (ofD o p i j d) u:=by
 obtain⟨ad,c',hv,_,hx⟩:=hM.node o p k rows hn
 rw[hh]at hv
 cases hv
 obtain⟨b',off',hb,_,_,hcell⟩:=hx hc
 cases hb
 obtain⟨u,hu,hok⟩:=hcell i j d hd
 refine⟨u,hu,?_⟩
 cases d with
 |sc v=>obtain⟨rfl,hs⟩:=hok;exact .sc _ hs
 |hole=>exact .dead _ hok
 |sl k' rows'=>
  simp only[CA]at hok;subst hok;refine .ref o (p++[(i,j)]) k' rows' ?_;unfold Env.node at hn ⊢;split at hn
  ·rename_i k0 rows0 he;rw[A9,hn];simp[AN,hd]
  ·cases hn
theorem MZ {w w':World} {b j:Nat} (h:w'.heap[b]? =w.heap[b]?):w'.cell? ⟨b,j,none⟩=w.cell? ⟨b,j,none⟩:=by
 unfold World.cell?;rw[h]
theorem Rl (hR:Rel fm e s a) {t:TypeId} {n:Option Nat} (ht:nOf P t=some n) {x y:AV} {v:Value} (hx:AS e x v) (h:FL s.ob n x=some y):
  ∃u b off,v= .pointer (some ⟨b,off,none⟩)/\(∀w:World,w.heap[b]? =e.w.heap[b]? ->(Instr.loadAt t v).run P w= .ok u w)/\AS e y u:=by
 cases hx with
 |pb o j cs hb=>
  simp only[FL,←hR.ob o,hb]at h
  cases n with
  |none=>
   simp only at h;obtain⟨_,u,hu,hok⟩:=hR.mem.box o cs hb j y h;exact⟨u,_,_,rfl,fun w hw=>Lh ht _ _ u (by rw[MZ hw];exact hu),hok⟩
  |some n=>
   simp only at h
   cases hc:cells cs j n with
   |none=>simp[hc]at h
   |some l=>
    simp[hc]at h;subst h;obtain⟨_,h2,h3⟩:=F2 hc;have key: ∀i x,l[i]? =some x-> ∃u,e.w.cell? ⟨e.bk o,j+i,none⟩=some u/\AS e x u:=fun i x hx=>by
     have hi:i<n:=h2 ▸ (List.getElem?_eq_some_iff.1 hx).1;obtain⟨_,u,hu,hok⟩:=hR.mem.box o cs hb (j+i) x (by rw[←h3 i hi];exact hx);exact⟨u,hu,hok⟩
    refine⟨_,_,_,rfl,fun w hw=>Lg ht (e.bk o) j (fun i=>(e.w.cell? ⟨e.bk o,j+i,none⟩).getD undef) (fun i hi=> ?_),?_⟩
    ·obtain⟨u,hu,_⟩:=key i l[i] (List.getElem?_eq_getElem (by omega));rw[MZ hw,hu];rfl
    ·rw[←h2];refine Jx l _ (fun i x hx=> ?_);obtain⟨u,hu,hok⟩:=key i x hx;simp only[hu];exact hok
 |pa o p i j k b off n' c rows hn hh hc=>
  simp only[FL,Cm hR,hn]at h;split at h
  ·rename_i r hr
   cases n with
   |none=>
    simp only at h
    cases hd:r[j]? with
    |none=>simp[hd]at h
    |some d=>
     simp[hd]at h;subst h;obtain⟨u,hu,hok⟩:=NL hR.mem hn hh hc (i:=i) (j:=j) (d:=d) (by rw[Bp hr];exact hd);exact⟨u,_,_,rfl,fun w hw=>Lh ht _ _ u (by rw[MZ hw];exact hu),hok⟩
   |some n=>
    simp only at h
    cases hcl:cells r j n with
    |none=>simp[hcl]at h
    |some l=>
     simp[hcl]at h;subst h;obtain⟨_,h2,h3⟩:=F2 hcl;have key: ∀m x,(JX o p i j l)[m]? =some x-> ∃u,e.w.cell? ⟨b,off+(i*k+j)+m,none⟩=some u/\AS e x u:=fun m x hx=>by
      rw[PL]at hx
      cases hm:l[m]? with
      |none=>simp[hm]at hx
      |some d=>
       simp[hm]at hx;subst hx;have hi:m<n:=h2 ▸ (List.getElem?_eq_some_iff.1 hm).1;obtain⟨u,hu,hok⟩:=NL hR.mem hn hh hc (i:=i) (j:=j+m) (d:=d) (by rw[Bp hr,←h3 m hi];exact hm);exact⟨u,by rw[←hu];congr 2;omega,hok⟩
     refine⟨_,_,_,rfl,fun w hw=>Lg ht b (off+(i*k+j)) (fun m=>(e.w.cell? ⟨b,off+(i*k+j)+m,none⟩).getD undef) (fun m hm=> ?_),?_⟩
     ·have hlt:m<(JX o p i j l).length:=by rw[LZ];omega
      obtain⟨u,hu,_⟩:=key m (JX o p i j l)[m] (List.getElem?_eq_getElem hlt);rw[MZ hw,hu];rfl
     ·have hl:(JX o p i j l).length=n:=by rw[LZ];exact h2
      rw[←hl];refine Jx _ _ (fun m x hx=> ?_);obtain⟨u,hu,hok⟩:=key m x hx;simp only[hu];exact hok
  ·cases h
 |pim v cs hp=>
  obtain⟨b,off,rfl,_,hc⟩:=hp
  cases n with
  |none=>
   simp only[FL]at h
   cases hd:cs[0]? with
   |none=>simp[hd]at h
   |some t0=>
    simp[hd]at h;subst h;obtain⟨u,hu,hok⟩:=hc 0 t0 hd;exact⟨u,_,_,rfl,fun w hw=>Lh ht b off u (by rw[MZ hw];simpa using hu),Re hok⟩
  |some n=>
   simp only[FL]at h
   cases hcl:cells cs 0 n with
   |none=>simp[hcl]at h
   |some l=>
    simp[hcl]at h;subst h;obtain⟨_,h2,h3⟩:=F2 hcl;have key: ∀m x,(J7 l)[m]? =some x-> ∃u,e.w.cell? ⟨b,off+m,none⟩=some u/\AS e x u:=fun m x hx=>by
     rw[PJ,List.getElem?_map]at hx
     cases hm:l[m]? with
     |none=>simp[hm]at hx
     |some d=>
      simp[hm]at hx;subst hx;have hi:m<n:=h2 ▸ (List.getElem?_eq_some_iff.1 hm).1;have:=h3 m hi;rw[Nat.zero_add]at this;obtain⟨u,hu,hok⟩:=hc m d (by rw[←this];exact hm);exact⟨u,hu,Re hok⟩
    have hl:(J7 l).length=n:=by rw[PJ];simpa using h2
    refine⟨_,_,_,rfl,fun w hw=>Lg ht b off (fun m=>(e.w.cell? ⟨b,off+m,none⟩).getD undef) (fun m hm=> ?_),?_⟩
    ·obtain⟨u,hu,_⟩:=key m (J7 l)[m] (List.getElem?_eq_getElem (by omega));rw[MZ hw,hu];rfl
    ·rw[←hl];refine Jx _ _ (fun m x hx=> ?_);obtain⟨u,hu,hok⟩:=key m x hx;simp only[hu];exact hok
 |_=>simp[FL]at h
theorem Rm (hR:Rel fm e s a) {t:TypeId} {n:Option Nat} (ht:nOf P t=some n) {x y:AV} {v:Value} (hx:AS e x v) (h:FL s.ob n x=some y):
  ∃u,(Instr.loadAt t v).run P e.w= .ok u e.w/\AS e y u:=by
 obtain⟨u,b,off,_,h2,h3⟩:=Rl (P:=P) hR ht hx h
 exact⟨u,h2 e.w rfl,h3⟩
def Ldl (P:Program) (e:Env) (s:St) (o:Oper) (a:Act) (s':St) (i:I):Prop:=
 ∃ (t:TypeId) (y:Operand) (n:Option Nat) (X:X) (v:Value) (x:AV) (b off:Nat),o.op= .load t y/\i= .load n X/\(∃tx,xOf P tx y=some X)/\a.eval y= .pointer (some ⟨b,off,none⟩)/\
  (∀w:World,w.heap[b]? =e.w.heap[b]? ->(execOp a.eval o).run P w= .ok (.value v) w)/\AS e x v/\s.put o.dst x=some s'
theorem Ldl.wp {o:Oper} {i:I} (h:Ldl P e s o a s' i) (hR:Rel fm e s a) (Q:Exit->Act->World->Prop):o.wp P a e.w (Reach fm e M s') Q:=by
 obtain⟨t,y,n,X,v,x,b,off,_,_,_,_,h1,h2,h3⟩:=h;exact Ig hR (h1 e.w rfl) h2 h3 Q
theorem op_load (hR:Rel fm e s a) {o:Oper} {t:TypeId} {n:Option Nat} {x:Operand} {X:X} (ho:o.op= .load t x) (ht:nOf P t=some n)
  {tx:TypeId} (hx:xOf P tx x=some X) (h:Aa K md s o.dst (.load n X)=some s'):Ldl P e s o a s' (.load n X):=by
 simp only[Aa]at h
 split at h
 ·rename_i v hv
  obtain⟨u,b,off,h0,h1,h2⟩:=Rl (P:=P) hR ht (Ap hR hx) hv
  exact⟨t,x,n,X,u,v,b,off,ho,rfl,⟨tx,hx⟩,h0,fun w hw=>by simp[execOp,ho,h1 w hw],h2,h⟩
 ·cases h
theorem Ti {x y:AV} {v:Value} {n:Nat} (hx:AS e x v) (h:PI x n=some y): ∃b off,v= .pointer (some ⟨b,off,none⟩)/\AS e y (.pointer (some ⟨b,off+n,none⟩)):=by
 cases hx with
 |pb o j cs hb=>simp[PI]at h;subst h;exact⟨_,_,rfl,.pb o (j+n) cs hb⟩
 |pa o p i j k b off n' c rows hn hh hc=>
  simp[PI]at h;subst h;refine⟨_,_,rfl,?_⟩;rw[show off+(i*k+j)+n=off+(i*k+(j+n))by omega];exact .pa o p i (j+n) k b off n' c rows hn hh hc
 |pim v cs hp=>
  simp[PI]at h;subst h;obtain⟨b,off,rfl,hb,hc⟩:=hp;refine⟨b,off,rfl,.pim _ _ ⟨b,off+n,rfl,hb,fun j t ht=> ?_⟩⟩;rw[List.getElem?_drop]at ht;obtain⟨u,hu,hok⟩:=hc (n+j) t ht;exact⟨u,by rw[←hu];congr 2;omega,hok⟩
 |_=>simp[PI]at h
theorem op_fa (hR:Rel fm e s a) {o:Oper} {t:TypeId} {f m:Nat} {x:Operand} {X:X} {fs:Array Field} {fd:Field} (ho:o.op= .fieldAddr t x f)
  (ht:P.underlying t=some (.struct fs)) (hf:fs.toList[f]? =some fd) (hm:Bd P fd.type=some (m+1)) {tx:TypeId} (hx:xOf P tx x=some X)
  (h:Aa K md s o.dst (.fa fd.offset X)=some s'):Yl P e s o a s':=by
 simp only[Aa]at h
 split at h
 ·rename_i v hv
  obtain⟨b,off,h1,h2⟩:=Ti (Ap hR hx) hv
  have hf':fs[f]? =some fd:=by simpa using hf
  refine yl (v:= .pointer (some ⟨b,off+fd.offset,none⟩)) (fun w=> ?_) h2 h
  simp[execOp,ho,Instr.fieldAt,AQ ht,hf',h1,Instr.sureAddr,fieldPlace,CY hm,Bg]
 ·cases h
theorem JZ {x:AV} {v:Value} {n:Nat} (hx:AS e x v) (h:Gg x=some n): ∃k i,v= .int k i/\0<=i/\i.toNat=n:=by
 cases hx with
 |sc v hs=>
  cases v<;>simp[Gg]at h
  rename_i k i;obtain⟨h1,h2⟩:=h;exact⟨k,i,rfl,h1,h2⟩
 |_=>simp[Gg]at h
theorem idx_ok (hR:Rel fm e s a) {x y:AV} {v:Value} {k n:Nat} (hx:AS e x v) (h:Pf s.ob k x n=some y):
  ∃b off len c,v= .slice (some ⟨b,off,none⟩) len c/\n<len/\AS e y (.pointer (some ⟨b,off+n*k,none⟩)):=by
 cases hx with
 |im v k' rows hp=>
  simp only[Pf]at h;split at h
  ·rename_i hk;subst hk
   cases hr:rows[n]? with
   |none=>simp[hr]at h
   |some r=>
    simp[hr]at h;subst h;have hn:n<rows.length:=(List.getElem?_eq_some_iff.1 hr).1
    cases hp with
    |nil a c k=>simp at hr
    |sl b off c k rows us him hle hk hc hs=>
     refine⟨b,off,_,c,rfl,hn,.pim _ _ ⟨b,off+n*k',rfl,him,fun j t ht=> ?_⟩⟩;have hcell:AM rows n j=some t:=by rw[Bp hr];exact ht
     exact⟨_,by rw[←hc n j t hcell];congr 2;omega,hs n j t hcell⟩
  ·cases h
 |al v i0 k' rows hv0 hp=>
  simp only[Pf]at h;split at h
  ·rename_i hk;subst hk
   cases hr:rows[n]? with
   |none=>simp[hr]at h
   |some r=>
    simp[hr]at h;subst h;have hn:n<rows.length:=(List.getElem?_eq_some_iff.1 hr).1
    cases hp with
    |nil a c k=>simp at hr
    |sl b off c k rows us him hle hk hc hs=>
     refine⟨b,off,_,c,rfl,hn,.pim _ _ ⟨b,off+n*k',rfl,him,fun j t ht=> ?_⟩⟩;have hcell:AM rows n j=some t:=by rw[Bp hr];exact ht
     exact⟨_,by rw[←hc n j t hcell];congr 2;omega,hs n j t hcell⟩
  ·cases h
 |ref o p k' rows hn=>
  simp only[Pf,Cm hR,hn]at h;split at h
  ·rename_i hk;obtain⟨rfl,hlt⟩:=hk
   cases h
   obtain⟨ad,c,hv,hle,hx⟩:=hR.mem.node o p k' rows hn;obtain⟨b,off,rfl,_⟩:=hx (by omega);refine⟨b,off,_,c,hv,hlt,?_⟩;have:=AS.pa (e:=e) o p n 0 k' b off _ c rows hn hv (by omega);simpa using this
  ·cases h
 |vw o p lo hi k' rows v hn h1 h2 hw=>
  simp only[Pf,Cm hR,hn]at h;split at h
  ·rename_i hk;obtain⟨rfl,hlt,_⟩:=hk
   cases h
   obtain⟨ad,c,hv,hle,hx⟩:=hR.mem.node o p k' rows hn;obtain⟨b,off,rfl,_⟩:=hx (by omega);obtain⟨a2,n2,c2,a',c',e1,rfl,e3,e4⟩:=hw;rw[hv]at e1
   cases e1
   obtain⟨_,rfl⟩:=e4 (by omega);refine⟨b,off+lo*k',hi - lo,c',by simp[Bg],by omega,?_⟩;have:=AS.pa (e:=e) o p (lo+n) 0 k' b off _ c rows hn hv (by omega);rw[show off+lo*k'+n*k'=off+((lo+n)*k'+0)by rw[Nat.add_mul];omega];exact this
  ·cases h
 |_=>simp[Pf]at h
theorem op_ia (hR:Rel fm e s a) {o:Oper} {t el:TypeId} {k:Nat} {x i:Operand} {X Y:Ow.X} (ho:o.op= .indexAddr t x i)
  (ht:P.underlying t=some (.slice el)) (hk:Bd P el=some k) {tx ti:TypeId} (hx:xOf P tx x=some X) (hi:xOf P ti i=some Y)
  (h:Aa K md s o.dst (.ia k X Y)=some s'):Yl P e s o a s':=by
 simp only[Aa]at h
 split at h
 ·rename_i n hn
  split at h
  ·rename_i v hv
   obtain⟨ki,iv,g1,g2,g3⟩:=JZ (Ap hR hi) hn
   obtain⟨b,off,len,c,h1,h2,h3⟩:=idx_ok hR (Ap hR hx) hv
   refine yl (v:= .pointer (some ⟨b,off+n*k,none⟩)) (fun w=> ?_) h3 h
   have hlt:iv<(len:Int):=by omega
   simp[execOp,ho,Instr.indexAt,AQ ht,h1,g1,asIntOf,g2,hlt,CY hk,Bg,g3]
  ·cases h
 ·cases h
theorem op_iaa (hR:Rel fm e s a) {o:Oper} {t el:TypeId} {len k:Nat} {x i:Operand} {X Y:Ow.X} (ho:o.op= .indexAddr t x i)
  (ht:P.underlying t=some (.array len el)) (hk:Bd P el=some k) {tx ti:TypeId} (hx:xOf P tx x=some X) (hi:xOf P ti i=some Y)
  (h:Aa K md s o.dst (.iaa len k X Y)=some s'):Yl P e s o a s':=by
 simp only[Aa]at h
 split at h
 ·rename_i n hn
  split at h
  ·rename_i hlt
   split at h
   ·rename_i v hv
    obtain⟨ki,iv,g1,g2,g3⟩:=JZ (Ap hR hi) hn
    obtain⟨b,off,h1,h2⟩:=Ti (Ap hR hx) hv
    refine yl (v:= .pointer (some ⟨b,off+n*k,none⟩)) (fun w=> ?_) h2 h
    have hlt':iv<(len:Int):=by omega
    simp[execOp,ho,Instr.indexAt,AQ ht,h1,g1,asIntOf,g2,hlt',CY hk,Bg,g3,Instr.sureAddr]
   ·cases h
  ·cases h
 ·cases h
theorem op_ixs (hR:Rel fm e s a) {o:Oper} {t:TypeId} {x i:Operand} {X Y:Ow.X} (ho:o.op= .index t x i)
  (ht:P.underlying t=some .string) {tx ti:TypeId} (hx:xOf P tx x=some X) (hi:xOf P ti i=some Y)
  (h:Aa K md s o.dst (.ixs X Y)=some s'):Yl P e s o a s':=by
 have h1:=Ap hR hx
 simp only[Aa]at h
 split at h
 ·rename_i b n e1 hn
  rw[e1]at h1
  obtain⟨q1,_⟩:=h1.sc_inv
  obtain⟨ki,iv,g1,g2,g3⟩:=JZ (Ap hR hi) hn
  split at h
  ·rename_i c hc
   refine yl (v:= .int .u8 c.toNat) (fun w=> ?_) (.sc _ rfl) h
   have hb:b[n]? =some c:=by
    rw[ByteArray.toList_eq]at hc;have hlt:n<b.data.toList.length:=(List.getElem?_eq_some_iff.1 hc).1;have hlt':n<b.size:=by simpa using hlt
    rw[getElem?_pos b n hlt'];rw[List.getElem?_eq_getElem hlt]at hc;rw[←hc];rfl
   simp[execOp,ho,Instr.index,AQ ht,q1,g1,asIntOf,g2,g3,hb]
  ·cases h
 ·cases h
end
section
variable {P:Program} {fm:Fm} {M:List Nat} {e:Env} {s s':St} {a:Act} {Q:Exit->Act->World->Prop}
variable {K:Nat->List Arg->Option Res} {md:Nat->List Nat}
theorem Oq (a:Addr) (m n:Nat):(a.add m).add n=a.add (m+n):=by
 unfold Addr.add;by_cases h1:m=0
 ·subst h1;simp
 ·by_cases h2:n=0
  ·subst h2;simp[h1]
  ·have h3: ¬ (m+n=0):=by omega
   rw[if_neg h2,if_neg h1,if_neg h3];simp[Nat.add_assoc]
theorem NI (hR:Rel fm e s a) {t:TypeId} {x:Option Operand} {X:Option X} {n:Option Nat} (hx:ox P t x=some X) (h:E0 s.tm X=some n):
  (x=none/\n=none)\/ ∃op k i m,x=some op/\a.eval op= .int k i/\0<=i/\i.toNat=m/\n=some m:=by
 cases x with
 |none=>simp[ox]at hx;subst hx;simp[E0]at h;exact .inl ⟨rfl,h.symm⟩
 |some op=>
  simp only[ox]at hx
  cases hxo:xOf P t op with
  |none=>simp[hxo]at hx
  |some Y=>
   simp[hxo]at hx;subst hx;simp only[E0]at h
   cases hn:Gg (ev s.tm Y)with
   |none=>simp[hn]at h
   |some m=>
    simp[hn]at h;obtain⟨k,i,h1,h2,h3⟩:=JZ (Ap hR hxo) hn;exact .inr ⟨op,k,i,m,rfl,h1,h2,h3,h.symm⟩
theorem Fa {k:IntKind} {i:Int} {y:Nat} {code:BoundsCode} (h0:0<=i) (h:i.toNat<=y) (w:World):
  (Instr.sliceBound (.int k i) y code).run P w= .ok i.toNat w:=by
 have:i<=(y:Int):=by omega
 simp[Instr.sliceBound,asIntOf,h0,this]
theorem Mg (hR:Rel fm e s a) {t t':TypeId} {lo hi:Option Operand} {L H:Option X} {l h:Option Nat} (hl:ox P t lo=some L) (hh:ox P t' hi=some H)
  (el:E0 s.tm L=some l) (eh:E0 s.tm H=some h) (isS:Bool) (len cap:Nat) (h1:l.getD 0<=h.getD len) (h2:h.getD len<=cap) (w:World):
  (Instr.sliceBounds isS len cap (lo.map a.eval) (hi.map a.eval) none).run P w= .ok (l.getD 0,h.getD len,cap) w:=by
 rcases NI hR hl el with ⟨rfl,rfl⟩|⟨op,k,i,m,rfl,g1,g2,g3,rfl⟩<;>rcases NI hR hh eh with ⟨rfl,rfl⟩|⟨op',k',i',m',rfl,g1',g2',g3',rfl⟩
 ·simp[Instr.sliceBounds]
 ·simp only[Option.getD_some]at h1 h2
  simp[Instr.sliceBounds,g1',Fa g2' (g3' ▸ h2),g3']
 ·simp only[Option.getD_some,Option.getD_none]at h1 h2
  simp[Instr.sliceBounds,g1,Fa g2 (g3 ▸ h1),g3]
 ·simp only[Option.getD_some]at h1 h2
  simp[Instr.sliceBounds,g1,g1',Fa g2' (g3' ▸ h2),g3',Fa g2 (g3 ▸ h1),g3]
theorem TF (hR:Rel fm e s a) {x y:AV} {v:Value} {k l:Nat} {h:Option Nat} (hx:AS e x v) (hs:GS s.ob k x l h=some y):
  ∃ad len cap,v= .slice ad len cap/\l<=h.getD len/\h.getD len<=len/\len<=cap/\
   AS e y (.slice (if cap=l then ad else ad.map (·.add (l*k))) (h.getD len - l) (cap - l)):=by
 cases hx with
 |nil k' ad=>
  simp only[GS]at hs;split at hs
  ·rename_i hk;obtain⟨rfl,rfl,hh⟩:=hk
   cases hs
   refine⟨ad,0,0,rfl,by simp,?_,Nat.le_refl _,?_⟩
   ·rcases hh with rfl|rfl<;>simp
   ·rcases hh with rfl|rfl<;>simp<;>exact .nil _ _
  ·cases hs
 |im v k' rows hp=>
  simp only[GS]at hs;split at hs
  ·rename_i hk;subst hk;have hv: ∃ad cap,v= .slice ad rows.length cap/\rows.length<=cap:=by
    cases hp with
    |nil ad c k=>exact⟨_,_,rfl,Nat.zero_le _⟩
    |sl b off c k rows us _ hle _ _ _=>exact⟨_,_,rfl,hle⟩
   obtain⟨ad,cap,rfl,hle⟩:=hv;have key: ∀ (h':Nat),l<=h'->h'<=rows.length->AS e (.im k' ((rows.take h').drop l)) (.slice (if cap=l then ad else ad.map (·.add (l*k'))) (h' - l) (cap - l)):=by
    intro h' h1 h2;exact .im _ _ _ (hp.window ⟨ad,_,cap,_,cap - l,rfl,rfl,by omega,fun h0=>⟨by omega,by rw[if_neg (by omega)]⟩⟩ h1 h2)
   refine⟨ad,rows.length,cap,rfl,?_⟩
   cases h with
   |none=>
    simp only at hs;split at hs
    ·rename_i h1
     cases hs
     have:=key rows.length h1 (Nat.le_refl _);rw[List.take_length]at this;exact⟨h1,Nat.le_refl _,hle,this⟩
    ·cases hs
   |some h'=>
    simp only at hs;split at hs
    ·rename_i h1
     cases hs
     exact⟨h1.1,h1.2,hle,key _ h1.1 h1.2⟩
    ·cases hs
  ·cases hs
 |ref o p k' rows hn=>
  simp only[GS,Cm hR,hn]at hs;split at hs
  ·rename_i hk;subst hk;obtain⟨ad,c,hv,hle,hc⟩:=hR.mem.node o p k' rows hn;have key: ∀ (h':Nat),l<=h'->h'<=rows.length->AS e (.vw o p l h') (.slice (if c=l then ad else ad.map (·.add (l*k'))) (h' - l) (c - l)):=by
    intro h' h1 h2;refine .vw o p l h' k' rows _ hn h1 h2 ⟨ad,_,c,_,c - l,hv,rfl,by omega,fun h0=>⟨by omega,by rw[if_neg (by omega)]⟩⟩
   refine⟨ad,rows.length,c,hv,?_⟩
   cases h with
   |none=>
    simp only at hs;split at hs
    ·rename_i h1
     cases hs
     exact⟨h1,Nat.le_refl _,hle,key _ h1 (Nat.le_refl _)⟩
    ·cases hs
   |some h'=>
    simp only at hs;split at hs
    ·rename_i h1
     cases hs
     exact⟨h1.1,h1.2,hle,key _ h1.1 h1.2⟩
    ·cases hs
  ·cases hs
 |vw o p lo hi k' rows v hn h1 h2 hw=>
  simp only[GS,Cm hR,hn]at hs;split at hs
  ·rename_i hk;subst hk;obtain⟨a2,n2,c2,a',c',e1,rfl,e3,e4⟩:=hw;have key: ∀ (h':Nat),l<=h'->lo+h'<=hi->AS e (.vw o p (lo+l) (lo+h')) (.slice (if c'=l then a' else a'.map (·.add (l*k'))) (h' - l) (c' - l)):=by
    intro h' g1 g2;refine .vw o p (lo+l) (lo+h') k' rows _ hn (by omega) (by omega) ⟨a2,n2,c2,_,c' - l,e1,by rw[show lo+h' - (lo+l)=h' - l by omega],by omega,fun h0=> ?_⟩;obtain⟨g3,rfl⟩:=e4 (by omega);refine⟨by omega,?_⟩;rw[if_neg (by omega)]
    cases a2 with
    |none=>rfl
    |some ad=>
     simp only[Option.map_some];rw[Oq,Nat.add_mul]
   refine⟨a',hi - lo,c',rfl,?_⟩
   cases h with
   |none=>
    simp only at hs;split at hs
    ·rename_i g1
     cases hs
     refine⟨by simp;omega,Nat.le_refl _,e3,?_⟩;have:=key (hi - lo) (by omega) (by omega);rwa [show lo+(hi - lo)=hi by omega]at this
    ·cases hs
   |some h'=>
    simp only at hs;split at hs
    ·rename_i g1
     cases hs
     exact⟨g1.1,by simp;omega,e3,key _ g1.1 g1.2⟩
    ·cases hs
  ·cases hs
 |_=>simp[GS]at hs
theorem op_sl (hR:Rel fm e s a) {o:Oper} {t el:TypeId} {k:Nat} {x:Operand} {lo hi:Option Operand} {X:Ow.X} {L H:Option Ow.X} (ho:o.op= .slice t x lo hi none)
  (ht:P.underlying t=some (.slice el)) (hk:Bd P el=some k) {tx tl th:TypeId} (hx:xOf P tx x=some X) (hl:ox P tl lo=some L) (hh:ox P th hi=some H)
  (h:Aa K md s o.dst (.sl k X L H)=some s'):Yl P e s o a s':=by
 simp only[Aa]at h
 split at h
 ·rename_i l hn el' eh'
  split at h
  ·rename_i v hv
   obtain⟨ad,len,cap,g1,g2,g3,g4,g5⟩:=TF hR (Ap hR hx) hv
   have hb:=fun w=>Mg hR hl hh el' eh' true len cap g2 (by omega) w
   refine yl (fun w=> ?_) g5 h
   simp[execOp,ho,Instr.sliceAt,AQ ht,g1,Instr.slice,hb,CY hk]
  ·cases h
 ·cases h
theorem op_sl0 (hR:Rel fm e s a) {o:Oper} {t el:TypeId} {k:Nat} {x:Operand} {lo:Option Operand} {hi mx:Operand} {X:Ow.X} (ho:o.op= .slice t x lo (some hi) (some mx))
  (ht:P.underlying t=some (.slice el)) (hk:Bd P el=some k) (hlo:lo=none) (h1:Je hi=true) (h2:Je mx=true) {tx:TypeId} (hx:xOf P tx x=some X)
  (h:Aa K md s o.dst (.sl0 k X)=some s'):Yl P e s o a s':=by
 subst hlo
 simp only[Aa]at h
 split at h
 ·rename_i n hn
  obtain⟨ad,c,hb⟩:=T3 hR (Ap hR hx) hn
  have hz: ∀ {z:Operand},Je z=true-> ∃k,a.eval z= .int k 0:=by
   intro z hz;unfold Je at hz;split at hz
   ·exact⟨_,rfl⟩
   ·cases hz
  obtain⟨k1,e1⟩:=hz h1
  obtain⟨k2,e2⟩:=hz h2
  have b1: ∀ (w:World) (k:IntKind) (y:Nat) (code:BoundsCode),(Instr.sliceBound (.int k 0) y code).run P w= .ok 0 w:=fun w k y code=>by
   have:=Fa (P:=P) (k:=k) (i:=0) (y:=y) (code:=code) (Int.le_refl _) (Nat.zero_le _) w;simpa using this
  refine yl (v:= .slice ad 0 0) (fun w=> ?_) (.nil _ _) h
  simp[execOp,ho,Instr.sliceAt,AQ ht,hb,Instr.slice,Instr.sliceBounds,e1,e2,b1,CY hk]
 ·cases h
theorem op_sls (hR:Rel fm e s a) {o:Oper} {t:TypeId} {x:Operand} {lo hi:Option Operand} {X:Ow.X} {L H:Option Ow.X} (ho:o.op= .slice t x lo hi none)
  (ht:P.underlying t=some .string) {tx tl th:TypeId} (hx:xOf P tx x=some X) (hl:ox P tl lo=some L) (hh:ox P th hi=some H)
  (h:Aa K md s o.dst (.sls X L H)=some s'):Yl P e s o a s':=by
 have h1:=Ap hR hx
 simp only[Aa]at h
 split at h
 ·rename_i b l hn e1 el' eh'
  rw[e1]at h1
  obtain⟨q1,_⟩:=h1.sc_inv
  split at h
  ·rename_i hc
   have hb:=fun w=>Mg hR hl hh el' eh' false b.size b.size hc.1 hc.2 w
   refine yl (v:= .string (b.extract (l.getD 0) (hn.getD b.size))) (fun w=> ?_) (.sc _ rfl) h
   simp[execOp,ho,Instr.sliceAt,AQ ht,q1,Instr.slice,hb]
  ·cases h
 ·cases h
end
section
variable {P:Program} {fm:Fm} {M:List Nat} {e e':Env} {s s':St} {a:Act}
theorem Bt {w w':World} {b j:Nat} (h:w'.heap[b]? =w.heap[b]?):w'.cell? ⟨b,j,none⟩=w.cell? ⟨b,j,none⟩:=by
 unfold World.cell?;rw[h]
theorem OO {w w':World} {b j:Nat} (h:w'.heap[b]? =w.heap[b]?):w'.frozen? ⟨b,j,none⟩=w.frozen? ⟨b,j,none⟩:=by
 unfold World.frozen?;rw[h]
theorem Wr.congr {w w':World} {b j:Nat} (h:w'.heap[b]? =w.heap[b]?) (hw:Wr w b j):Wr w' b j:=by
 obtain⟨⟨u,h1⟩,h2⟩:=hw;exact⟨⟨u,by rw[Bt h];exact h1⟩,by rw[OO h];exact h2⟩
theorem Bu.congr {w w':World} {v:Value} {k:Nat} {rows rows':List (List T)} {sub sub':Nat->Nat->Value} (h:Bu w v k rows sub) (hk:ED rows rows')
  (hb: ∀b,BG v=some b->w'.heap[b]? =w.heap[b]?) (hs: ∀i j k1 r1,AM rows' i j=some (.sl k1 r1)->sub' i j=sub i j):Bu w' v k rows' sub':=by
 obtain⟨ad,c,rfl,hle,hx⟩:=h
 refine⟨ad,c,by rw[hk.len],by rw[hk.len];exact hle,fun hc=> ?_⟩
 obtain⟨b,off,rfl,h1,h2,h3⟩:=hx hc
 have hbb:=hb b (by simp[BG,hc])
 refine⟨b,off,rfl,fun x hx=>(h1 x hx).congr hbb,fun r hr=> ?_,fun i j d hd=> ?_⟩
 ·obtain⟨i,hi⟩:=List.mem_iff_getElem?.1 hr
  have hlt:i<rows.length:=by rw[←hk.len];exact(List.getElem?_eq_some_iff.1 hi).1
  obtain⟨y,hy,hl⟩:=hk.row i rows[i] (List.getElem?_eq_getElem hlt)
  rw[hi]at hy
  cases hy
  rw[hl]
  exact h2 _ (List.getElem_mem hlt)
 ·have hkin:=hk.cell i j
  rw[hd]at hkin
  cases hd0:AM rows i j with
  |none=>rw[hd0]at hkin;exact hkin.elim
  |some d0=>
   rw[hd0]at hkin;obtain⟨u,hu,hok⟩:=h3 i j d0 hd0;refine⟨u,by rw[Bt hbb];exact hu,?_⟩
   cases d0<;>cases d<;>simp only[Kin]at hkin
   ·subst hkin;exact hok
   ·simp only[CA]at hok ⊢;rw[hs i j _ _ hd];exact hok
   ·exact hok
structure Asm (fm:Fm) (e e':Env) (src:Nat->AO->Option (Nat×AO)) (Fr:Nat->Prop):Prop where
 kept: ∀o' p' o p k rows',src o' p'=some (o,p)->e'.node o' p'=some (k,rows')-> ∃rows,e.node o p=some (k,rows)/\ED rows rows'/\e'.hd o' p'=e.hd o p/\
  ∀i j k1 r1,AM rows' i j=some (.sl k1 r1)->e'.hd o' (p'++[(i,j)])=e.hd o (p++[(i,j)])
 keptw: ∀o' p' o p b,src o' p'=some (o,p)->(e'.node o' p').isSome->e.blk (.nd o p)=some b->e'.w.heap[b]? =e.w.heap[b]? /\ ¬e'.Im b/\ ¬Fr b
 inj: ∀o1 p1 o2 p2 x,src o1 p1=some x->src o2 p2=some x->(e'.node o1 p1).isSome->(e'.node o2 p2).isSome->o1=o2/\p1=p2
 new: ∀o' p' k rows',src o' p'=none->e'.node o' p'=some (k,rows')->Bu e'.w (e'.hd o' p') k rows' (fun i j=>e'.hd o' (p'++[(i,j)]))
 newb: ∀o' p' b,src o' p'=none->e'.blk (.nd o' p')=some b->Fr b/\ ∀o2 p2,src o2 p2=none->e'.blk (.nd o2 p2)=some b->o2=o'/\p2=p'
 fr: ∀b,Fr b->b<e'.w.heap.size/\(fm.w0.heap.size<=b\/fm.F b)/\ ¬e'.Im b
 box: ∀o cs,e'.ob o= .box cs->(∃cs0,e.ob o= .box cs0/\e'.bk o=e.bk o/\ ¬e'.Im (e.bk o)/\ ¬Fr (e.bk o))\/
  (Fr (e'.bk o)/\(∀o' p',src o' p'=none->e'.blk (.nd o' p')≠some (e'.bk o))/\ ∀o2 cs2,e'.ob o2= .box cs2->e'.bk o2=e'.bk o->o2=o)
 boxc: ∀o cs,e'.ob o= .box cs-> ∀ (j:Nat) c,cs[j]? =some c->Wr e'.w (e'.bk o) j/\ ∃u,e'.w.cell? ⟨e'.bk o,j,none⟩=some u/\AS e' c u
 size:e.w.heap.size<=e'.w.heap.size
theorem E7 {e:Env} {o:Nat} {p:AO} {b:Nat} (h:e.blk (.nd o p)=some b): ∃k rows,e.node o p=some (k,rows)/\BG (e.hd o p)=some b:=by
 simp only[Env.blk]at h;split at h
 ·rename_i x hx;obtain⟨k,rows⟩:=x;exact⟨k,rows,hx,h⟩
 ·cases h
theorem Ae {e:Env} {o:Nat} {p:AO} {b k:Nat} {rows:List (List T)} (h:e.node o p=some (k,rows)) (hb:BG (e.hd o p)=some b):e.blk (.nd o p)=some b:=by
 simp only[Env.blk,h];exact hb
theorem Ds {e:Env} {o b:Nat} (h:e.blk (.bx o)=some b): ∃cs,e.ob o= .box cs/\e.bk o=b:=by
 simp only[Env.blk]at h;split at h
 ·rename_i cs hcs
  cases h
  exact⟨cs,hcs,rfl⟩
 ·cases h
theorem Ad {e:Env} {o:Nat} {cs:List AV} (h:e.ob o= .box cs):e.blk (.bx o)=some (e.bk o):=by simp only[Env.blk,h]
theorem Mem.asm (hM:Mem fm e) {src:Nat->AO->Option (Nat×AO)} {Fr:Nat->Prop} (hA:Asm fm e e' src Fr)
  (him: ∀x,e'.Im x->x<e'.w.heap.size/\(x<fm.w0.heap.size->fm.I x\/fm.F x)) (him0: ∀x,fm.I x->e'.Im x) (hk:Ek fm.w0 fm.F e'.w) (htk:e'.tk=e.tk:=by rfl):Mem fm e':=by
 have kb: ∀ {o' p' o p b},src o' p'=some (o,p)->e'.blk (.nd o' p')=some b->e.blk (.nd o p)=some b/\(e'.node o' p').isSome:=by
  intro o' p' o p b hs hb;obtain⟨k,rows',hn,hb'⟩:=E7 hb;obtain⟨rows,h1,_,h3,_⟩:=hA.kept o' p' o p k rows' hs hn;exact⟨Ae h1 (h3 ▸ hb'),by rw[hn];rfl⟩
 refine⟨hA.boxc,fun o' p' k rows' hn=> ?_,fun l l' b h h'=> ?_,fun l b h=> ?_,him,him0,hk,htk.trans hM.tk⟩
 ·cases hs:src o' p' with
  |none=>exact hA.new o' p' k rows' hs hn
  |some x=>
   obtain⟨o,p⟩:=x;obtain⟨rows,h1,h2,h3,h4⟩:=hA.kept o' p' o p k rows' hs hn;have hold:=hM.node o p k rows h1;rw[h3];refine hold.congr h2 (fun b hb=>(hA.keptw o' p' o p b hs (by rw[hn];rfl) (Ae h1 hb)).1) (fun i j k1 r1 hc=>h4 i j k1 r1 hc)
 ·cases l with
  |nd o1 p1=>
   cases l' with
   |nd o2 p2=>
    cases h1:src o1 p1 with
    |none=>
     cases h2:src o2 p2 with
     |none=>
      obtain⟨rfl,rfl⟩:=(hA.newb o1 p1 b h1 h).2 o2 p2 h2 h';rfl
     |some x=>
      obtain⟨hb,hn⟩:=kb h2 h';exact absurd (hA.newb o1 p1 b h1 h).1 (hA.keptw o2 p2 x.1 x.2 b h2 hn hb).2.2
    |some x=>
     obtain⟨hb,hn⟩:=kb h1 h
     cases h2:src o2 p2 with
     |none=>exact absurd (hA.newb o2 p2 b h2 h').1 (hA.keptw o1 p1 x.1 x.2 b h1 hn hb).2.2
     |some y=>
      obtain⟨hb',hn'⟩:=kb h2 h';have:=hM.inj _ _ b hb hb';have hxy:x=y:=by
       obtain⟨x1,x2⟩:=x;obtain⟨y1,y2⟩:=y;simp only[Pl.nd.injEq]at this;rw[this.1,this.2]
      subst hxy;obtain⟨rfl,rfl⟩:=hA.inj o1 p1 o2 p2 x h1 h2 hn hn';rfl
   |bx o2=>
    obtain⟨cs,hcs,rfl⟩:=Ds h';rcases hA.box o2 cs hcs with ⟨cs0,g1,g2,g3,g4⟩|⟨g1,g2,g3⟩
    ·cases h1:src o1 p1 with
     |none=>exact absurd (hA.newb o1 p1 _ h1 h).1 (by rw[g2];exact g4)
     |some x=>
      obtain⟨hb,hn⟩:=kb h1 h;have:=hM.inj _ _ _ hb (by rw[g2];exact Ad g1)
      cases this
    ·cases h1:src o1 p1 with
     |none=>exact absurd h (g2 o1 p1 h1)
     |some x=>
      obtain⟨hb,hn⟩:=kb h1 h;exact absurd g1 (hA.keptw o1 p1 x.1 x.2 _ h1 hn hb).2.2
  |bx o1=>
   obtain⟨cs,hcs,rfl⟩:=Ds h
   cases l' with
   |nd o2 p2=>
    rcases hA.box o1 cs hcs with ⟨cs0,g1,g2,g3,g4⟩|⟨g1,g2,g3⟩
    ·cases h1:src o2 p2 with
     |none=>exact absurd (hA.newb o2 p2 _ h1 h').1 (by rw[g2];exact g4)
     |some x=>
      obtain⟨hb,hn⟩:=kb h1 h';have:=hM.inj _ _ _ (by rw[g2];exact Ad g1) hb
      cases this
    ·cases h1:src o2 p2 with
     |none=>exact absurd h' (g2 o2 p2 h1)
     |some x=>
      obtain⟨hb,hn⟩:=kb h1 h';exact absurd g1 (hA.keptw o2 p2 x.1 x.2 _ h1 hn hb).2.2
   |bx o2=>
    obtain⟨cs2,hcs2,h2⟩:=Ds h';rcases hA.box o1 cs hcs with ⟨cs0,g1,g2,g3,g4⟩|⟨g1,g2,g3⟩
    ·rcases hA.box o2 cs2 hcs2 with ⟨cs0',g1',g2',g3',g4'⟩|⟨g1',g2',g3'⟩
     ·have:=hM.inj (.bx o1) (.bx o2) _ (Ad g1) (by rw[←g2,←h2,g2'];exact Ad g1')
      cases this;rfl
     ·rw[h2,g2]at g1';exact absurd g1' g4
    ·have:=g3 o2 cs2 hcs2 h2;rw[this]
 ·cases l with
  |nd o1 p1=>
   cases h1:src o1 p1 with
   |none=>exact hA.fr b (hA.newb o1 p1 b h1 h).1
   |some x=>
    obtain⟨hb,hn⟩:=kb h1 h;obtain⟨q1,q2,q3⟩:=hM.own _ b hb;exact⟨Nat.lt_of_lt_of_le q1 hA.size,q2,(hA.keptw o1 p1 x.1 x.2 b h1 hn hb).2.1⟩
  |bx o1=>
   obtain⟨cs,hcs,rfl⟩:=Ds h;rcases hA.box o1 cs hcs with ⟨cs0,g1,g2,g3,g4⟩|⟨g1,g2,g3⟩
   ·obtain⟨q1,q2,q3⟩:=hM.own _ _ (Ad g1);rw[g2];exact⟨Nat.lt_of_lt_of_le q1 hA.size,q2,g3⟩
   ·exact hA.fr _ g1
end
section
variable {P:Program} {fm:Fm} {M:List Nat} {e e':Env} {s s':St} {a:Act} {Q:Exit->Act->World->Prop}
variable {K:Nat->List Arg->Option Res} {md:Nat->List Nat}
structure GK (w w':World) (x:Go.Obj):Prop where
 heap:w'.heap=w.heap.push x
 os:w'.os=w.os
 tape:w'.tape=w.tape
 output:w'.output=w.output
theorem GK.old {w w':World} {x:Go.Obj} (h:GK w w' x) {b:Nat} (hb:b<w.heap.size):w'.heap[b]? =w.heap[b]? :=by
 rw[h.heap,Array.getElem?_push,if_neg (by omega)]
theorem GK.at {w w':World} {x:Go.Obj} (h:GK w w' x):w'.heap[w.heap.size]? =some x:=by
 rw[h.heap,Array.getElem?_push,if_pos rfl]
theorem GK.size {w w':World} {x:Go.Obj} (h:GK w w' x):w'.heap.size=w.heap.size+1:=by rw[h.heap];simp
theorem Ek.grew {w w':World} {x:Go.Obj} (hk:Ek fm.w0 fm.F w) (h:GK w w' x):Ek fm.w0 fm.F w':=
 ⟨h.os.trans hk.os,h.tape.trans hk.tape,h.output.trans hk.output,by rw[h.size];have:=hk.size;omega,
  fun k hk1 hk2=>(h.old (Nat.lt_of_lt_of_le hk1 hk.size)).trans (hk.block k hk1 hk2)⟩
def Un (arr:Array Value) (fr:Nat×Nat):Prop:= ∀j,j<arr.size-> ¬ (fr.1<=j/\j<fr.2)
theorem GK.wr {w w':World} {arr:Array Value} {t:TypeId} {fr:Nat×Nat} (h:GK w w' (.cells arr t fr)) (hf:Un arr fr) {j:Nat} (hj:j<arr.size):
  Wr w' w.heap.size j/\w'.cell? ⟨w.heap.size,j,none⟩=arr[j]? :=by
 have hc:w'.cell? ⟨w.heap.size,j,none⟩=arr[j]? :=by unfold World.cell?;rw[h.at];rfl
 refine⟨⟨⟨arr[j],by rw[hc];exact Array.getElem?_eq_getElem hj⟩,?_⟩,hc⟩
 have:=hf j hj
 unfold World.frozen?
 rw[h.at]
 simp only[Bool.and_eq_false_iff,decide_eq_false_iff_not]
 omega
def val:T->Value
 | .sc v=>v
 | .sl _ _=> .slice none 0 0
 | .hole=>undef
def Plain (rows:List (List T)):Prop:= ∀i j d,AM rows i j=some d->(∃v,d= .sc v/\Dn v=true)\/ ∃k,d= .sl k []
theorem Iw {o:Nat} {x:Obj} (h:s.new o x=some s'):AR s.ob o= .none/\s.m<=o/\s'=s.putO o x:=by
 unfold St.new at h;split at h
 ·rename_i h0;split at h
  ·rename_i hm;cases h;exact⟨h0,hm,rfl⟩
  ·cases h
 ·cases h
theorem Dl {o:Nat} (h:e'.ob o=e.ob o) (p:AO):e'.node o p=e.node o p:=by
 unfold Env.node;rw[h]
theorem OE {k:Nat} {rows:List (List T)} (hp:Plain rows) {i j:Nat} {p:AO} {k':Nat} {r:List (List T)} (h:AN k rows ((i,j)::p)=some (k',r)):
  p=[]/\r=[]:=by
 simp only[AN]at h
 split at h
 ·rename_i k1 r1 hc
  rcases hp i j _ hc with ⟨v,hv,_⟩|⟨k2,hk⟩
  ·cases hv
  ·cases hk
   cases p with
   |nil=>simp[AN]at h;exact⟨rfl,h.2⟩
   |cons b p=>obtain⟨i',j'⟩:=b;simp[AN,AM]at h
 ·cases h
theorem Bm.grew {w':World} {x:Go.Obj} (hR:Rel fm e s a) (h:GK e.w w' x) (hw:e'.w=w') (him:e'.Im=e.Im) (o:Nat) (h0:e.ob o= .none)
  (hob: ∀o',o'≠o->e'.ob o'=e.ob o') (hhd: ∀o',o'≠o->e'.hd o'=e.hd o') (hbk: ∀o',o'≠o->e'.bk o'=e.bk o') (htk:e'.tk=e.tk:=by rfl):Bm e e' fun o p=>some (o,p):=by
 have ne: ∀ {o'},e.ob o'≠ .none->o'≠o:=fun h1 h2=>h1 (h2 ▸ h0)
 refine⟨fun b hb=>⟨him ▸ hb,by rw[hw];exact h.old (hR.mem.im b hb).1⟩,fun o1 p k rows o' p' hn hf=> ?_,fun o1 cs hb=> ?_,fun o1 p k rows hn=>(hR.mem.node o1 p k rows hn).one,htk⟩
 ·cases hf
  have hne:o1≠o:=ne (fun h1=>by simp[Env.node,h1]at hn)
  exact⟨rows,by rw[Dl (hob o1 hne)];exact hn,rfl,by rw[hhd o1 hne]⟩
 ·have hne:o1≠o:=ne (fun h1=>by rw[h1]at hb;cases hb)
  exact⟨cs,by rw[hob o1 hne];exact hb,hbk o1 hne⟩
def Lr (v:Value):AO->Value
 |[]=>v
 |_::_=> .slice none 0 0
theorem new_arr (hR:Rel fm e s a) {w':World} {arr:Array Value} {t:TypeId} {fr:Nat×Nat} (hg:GK e.w w' (.cells arr t fr)) (hf:Un arr fr)
  {o k c:Nat} {rows:List (List T)} (hs:s.new o (.arr k rows)=some s') (hp:Plain rows) (hk: ∀r∈rows,r.length=k) (hle:rows.length<=c) (hc:c*k<=arr.size)
  (hv: ∀i j d,AM rows i j=some d->arr[i*k+j]? =some (val d)):
  ∃e',e'.w=w'/\Rel fm e' s' a/\AS e' (.ref o []) (.slice (some ⟨e.w.heap.size,0,none⟩) rows.length c)/\(Bm e e' fun o p=>some (o,p))/\ ∀M,Evo e e' M:=by
 obtain⟨h0,hsm,rfl⟩:=Iw hs
 have h0':e.ob o= .none:=by rw[hR.ob];exact h0
 let e':Env:={w:=w',ob:=fun o'=>if o'=o then .arr k rows else e.ob o',hd:=fun o' p=>if o'=o then Lr (.slice (some ⟨e.w.heap.size,0,none⟩) rows.length c) p else e.hd o' p,bk:=e.bk,Im:=e.Im,tk:=e.tk}
 have hob: ∀o',o'≠o->e'.ob o'=e.ob o':=fun o' h=>by simp[e',h]
 have hhd: ∀o',o'≠o->e'.hd o'=e.hd o':=fun o' h=>by funext p;simp[e',h]
 have hC:Bm e e' fun o p=>some (o,p):=Bm.grew hR hg rfl rfl o h0' hob hhd (fun _ _=>rfl)
 have hnode: ∀p,e'.node o p=AN k rows p:=fun p=>by simp[Env.node,e']
 have hself:AS e' (.ref o []) (.slice (some ⟨e.w.heap.size,0,none⟩) rows.length c):=by
  have:=AS.ref (e:=e') o [] k rows (by rw[hnode];rfl);simpa[e',Lr]using this
 have hpin: ∀o',o'<s.m->o'≠o:=fun o' h h2=>by omega
 refine⟨e',rfl,⟨?_,fun o'=> ?_,fun o' k' r' h1 h2=> ?_,fun o' cs h1 h2=> ?_,hR.size,hR.defers,fun t=>(hR.tm t).carry hC⟩,hself,hC,fun M=>⟨by simp only[e',hg.size];omega,fun b hb _=>hg.old hb⟩⟩
 case refine_3=>rw[hob o' (hpin o' h1)]at h2;rw[hhd o' (hpin o' h1)];exact hR.pinh o' k' r' h1 h2
 case refine_4=>rw[hob o' (hpin o' h1)]at h2;exact hR.pinb o' cs h1 h2
 ·have hA:Asm fm e e' (fun o' p=>if o'=o then none else some (o',p)) (fun b=>b=e.w.heap.size):=by
   refine⟨?_,?_,?_,?_,?_,?_,?_,?_,?_⟩
   ·intro o' p' o1 p1 k1 rows' h1 h2;by_cases ho:o'=o
    ·simp[ho]at h1
    ·simp[ho]at h1;obtain⟨rfl,rfl⟩:=h1;rw[Dl (hob o' ho)]at h2;exact⟨rows',h2,ED.refl _,by rw[hhd o' ho],fun i j k1 r1 _=>by rw[hhd o' ho]⟩
   ·intro o' p' o1 p1 b h1 _ hb;obtain⟨q1,q2,q3⟩:=hR.mem.own _ b hb;exact⟨hg.old q1,q3,fun h=>by omega⟩
   ·intro o1 p1 o2 p2 x h1 h2 _ _;by_cases g1:o1=o<;>by_cases g2:o2=o<;>simp[g1,g2]at h1 h2;rw[←h2]at h1;simpa using h1
   ·intro o' p' k1 rows' h1 h2;have ho:o'=o:=by
     by_cases ho:o'=o
     ·exact ho
     ·simp[ho]at h1
    subst ho;rw[hnode]at h2
    cases p' with
    |nil=>
     simp[AN]at h2;obtain⟨rfl,rfl⟩:=h2;refine⟨some ⟨e.w.heap.size,0,none⟩,c,by simp[e',Lr],hle,fun hc0=>⟨_,_,rfl,fun x hx=> ?_,hk,fun i j d hd=> ?_⟩⟩
     ·rw[Nat.zero_add];exact(hg.wr hf (by omega)).1
     ·have harr:=hv i j d hd;have hlt:i*k+j<arr.size:=(Array.getElem?_eq_some_iff.1 harr).1;refine⟨val d,by rw[Nat.zero_add,(hg.wr hf hlt).2];exact harr,?_⟩;rcases hp i j d hd with ⟨v,rfl,hs⟩|⟨k2,rfl⟩
      ·exact⟨rfl,hs⟩
      ·simp[CA,val,e',Lr]
    |cons b p=>
     obtain⟨i,j⟩:=b;obtain⟨rfl,rfl⟩:=OE hp h2;exact⟨none,0,by simp[e',Lr],Nat.le_refl _,fun h=>absurd h (by omega)⟩
   ·intro o' p' b h1 h2;have ho:o'=o:=by
     by_cases ho:o'=o
     ·exact ho
     ·simp[ho]at h1
    subst ho;have key: ∀p' b,e'.blk (.nd o' p')=some b->b=e.w.heap.size/\p'=[]:=by
     intro p' b hb;obtain⟨k1,r1,hn,hb'⟩:=E7 hb
     cases p' with
     |nil=>simp[e',BG,Lr]at hb';exact⟨hb'.2.symm,rfl⟩
     |cons _ _=>simp[e',BG,Lr]at hb'
    refine⟨(key p' b h2).1,fun o2 p2 g1 g2=> ?_⟩;have ho2:o2=o':=by
     by_cases ho:o2=o'
     ·exact ho
     ·simp[ho]at g1
    subst ho2;exact⟨rfl,by rw[(key p2 b g2).2,(key p' b h2).2]⟩
   ·intro b hb;subst hb;refine⟨by simp[e',hg.size],.inl hR.mem.keeps.size,fun h=> ?_⟩;have:=(hR.mem.im _ h).1;omega
   ·intro o1 cs hb;have hne:o1≠o:=fun h=>by simp[e',h]at hb
    rw[hob o1 hne]at hb;obtain⟨q1,q2,q3⟩:=hR.mem.own _ _ (Ad hb);exact .inl ⟨cs,hb,rfl,q3,by omega⟩
   ·intro o1 cs hb j c hc;have hne:o1≠o:=fun h=>by simp[e',h]at hb
    rw[hob o1 hne]at hb;obtain⟨g1,u,g2,g3⟩:=hR.mem.box o1 cs hb j c hc;obtain⟨q1,q2,q3⟩:=hR.mem.own _ _ (Ad hb);exact⟨g1.congr (hg.old q1),u,by rw[←g2];exact Bt (hg.old q1),g3.carry hC⟩
   ·simp only[e',hg.size];omega
  exact hR.mem.asm hA (fun x hx=>⟨by have:=(hR.mem.im x hx).1;simp only[e',hg.size];omega,(hR.mem.im x hx).2⟩) hR.mem.im0 (hR.mem.keeps.grew hg)
 ·rw[A6]
  by_cases h:o'=o
  ·simp[e',h]
  ·simp[e',h,hR.ob]
theorem Rh (hR:Rel fm e s a) {w':World} {arr:Array Value} {t:TypeId} {fr:Nat×Nat} (hg:GK e.w w' (.cells arr t fr)) (hf:Un arr fr)
  {o:Nat} {cs:List AV} (hs:s.new o (.box cs)=some s') (hc:cs.length=arr.size) (hv: ∀ (j:Nat) c u,cs[j]? =some c->arr[j]? =some u->AS e c u):
  ∃e',e'.w=w'/\Rel fm e' s' a/\AS e' (.pb o 0) (.pointer (some ⟨e.w.heap.size,0,none⟩))/\(Bm e e' fun o p=>some (o,p))/\ ∀M,Evo e e' M:=by
 obtain⟨h0,hsm,rfl⟩:=Iw hs
 have h0':e.ob o= .none:=by rw[hR.ob];exact h0
 let e':Env:={w:=w',ob:=fun o'=>if o'=o then .box cs else e.ob o',bk:=fun o'=>if o'=o then e.w.heap.size else e.bk o',Im:=e.Im,hd:=e.hd,tk:=e.tk}
 have hob: ∀o',o'≠o->e'.ob o'=e.ob o':=fun o' h=>by simp[e',h]
 have hbk: ∀o',o'≠o->e'.bk o'=e.bk o':=fun o' h=>by simp[e',h]
 have hC:Bm e e' fun o p=>some (o,p):=Bm.grew hR hg rfl rfl o h0' hob (fun _ _=>rfl) hbk
 have hnode: ∀p,e'.node o p=none:=fun p=>by simp[Env.node,e']
 have hpin: ∀o',o'<s.m->o'≠o:=fun o' h h2=>by omega
 refine⟨e',rfl,⟨?_,fun o'=> ?_,fun o' k' r' h1 h2=> ?_,fun o' cs h1 h2=> ?_,hR.size,hR.defers,fun t=>(hR.tm t).carry hC⟩,?_,hC,fun M=>⟨by simp only[e',hg.size];omega,fun b hb _=>hg.old hb⟩⟩
 case refine_3=>rw[hob o' (hpin o' h1)]at h2;exact hR.pinh o' k' r' h1 h2
 case refine_4=>rw[hob o' (hpin o' h1)]at h2;rw[hbk o' (hpin o' h1)];exact hR.pinb o' cs h1 h2
 ·have hA:Asm fm e e' (fun o' p=>some (o',p)) (fun b=>b=e.w.heap.size):=by
   refine⟨?_,?_,?_,?_,?_,?_,?_,?_,?_⟩
   ·intro o' p' o1 p1 k1 rows' h1 h2
    cases h1
    have ho:o'≠o:=fun h=>by rw[h,hnode]at h2;cases h2
    rw[Dl (hob o' ho)]at h2;exact⟨rows',h2,ED.refl _,rfl,fun _ _ _ _ _=>rfl⟩
   ·intro o' p' o1 p1 b h1 _ hb;obtain⟨q1,q2,q3⟩:=hR.mem.own _ b hb;exact⟨hg.old q1,q3,fun h=>by omega⟩
   ·intro o1 p1 o2 p2 x h1 h2 _ _;rw[←h2]at h1;simpa using h1
   ·intro o' p' k1 rows' h1 h2;cases h1
   ·intro o' p' b h1;cases h1
   ·intro b hb;subst hb;refine⟨by simp[e',hg.size],.inl hR.mem.keeps.size,fun h=> ?_⟩;have:=(hR.mem.im _ h).1;omega
   ·intro o1 cs1 hb;by_cases hne:o1=o
    ·subst hne;refine .inr ⟨by simp[e'],fun o' p' h=>(by cases h),fun o2 cs2 hb2 h2=> ?_⟩;by_cases g:o2=o1
     ·exact g
     ·rw[hob o2 g]at hb2;rw[hbk o2 g]at h2;have:=(hR.mem.own _ _ (Ad hb2)).1;simp[e']at h2;omega
    ·rw[hob o1 hne]at hb;obtain⟨q1,q2,q3⟩:=hR.mem.own _ _ (Ad hb);exact .inl ⟨cs1,hb,hbk o1 hne,q3,by omega⟩
   ·intro o1 cs1 hb j c hcj;by_cases hne:o1=o
    ·subst hne;simp[e']at hb;subst hb;have hj:j<arr.size:=by rw[←hc];exact(List.getElem?_eq_some_iff.1 hcj).1
     obtain⟨g1,g2⟩:=hg.wr hf hj;refine⟨by simpa[e']using g1,arr[j],?_,(hv j c _ hcj (Array.getElem?_eq_getElem hj)).carry hC⟩;simp only[e',if_true];rw[g2];exact Array.getElem?_eq_getElem hj
    ·rw[hob o1 hne]at hb;obtain⟨g1,u,g2,g3⟩:=hR.mem.box o1 cs1 hb j c hcj;obtain⟨q1,q2,q3⟩:=hR.mem.own _ _ (Ad hb);rw[hbk o1 hne];exact⟨g1.congr (hg.old q1),u,by rw[←g2];exact Bt (hg.old q1),g3.carry hC⟩
   ·simp only[e',hg.size];omega
  exact hR.mem.asm hA (fun x hx=>⟨by have:=(hR.mem.im x hx).1;simp only[e',hg.size];omega,(hR.mem.im x hx).2⟩) hR.mem.im0 (hR.mem.keeps.grew hg)
 ·rw[A6]
  by_cases h:o'=o
  ·simp[e',h]
  ·simp[e',h,hR.ob]
 ·have:=AS.pb (e:=e') o 0 cs (by simp[e'])
  simpa[e']using this
end
section
variable {P:Program} {fm:Fm} {M:List Nat} {e e':Env} {s s':St} {a:Act} {Q:Exit->Act->World->Prop}
variable {K:Nat->List Arg->Option Res} {md:Nat->List Nat}
theorem KD (arr:Array Value):Un arr (0,0):=fun j _ h=>by have:=h.2;simp at this
theorem Bx {e:Env} {w':World} (he:e'.w=w') (hR:Rel fm e' s a) (hE:Evo e e' M) {o:Oper} {w:World} {x:AV} {v:Value} (hrun:(execOp a.eval o).run P w= .ok (.value v) w')
  (hv:AS e' x v) (h:s.put o.dst x=some s'):o.wp P a w (Reach fm e M s') Q:=by
 unfold Oper.wp
 rw[hrun,Oper.upon_value]
 exact⟨e',he,hR.put hv h,hE⟩
theorem O8 {v:Value} (h:Dn v=true):v.cells= #[v]:=by
 cases v<;>first|rfl|(simp[Dn]at h)
theorem M4 (hM:Mem fm e) {x:AV} {v:Value} (h:AS e x v) (hb:HX x=true):
  ∃vs:List Value,v.cells=vs.toArray/\(Df x).length=vs.length/\ ∀ (j:Nat) c u,(Df x)[j]? =some c->vs[j]? =some u->AS e c u:=by
 have one: ∀ {x:AV} {v:Value},AS e x v->v.cells= #[v]->Df x=[x]->
   ∃vs:List Value,v.cells=vs.toArray/\(Df x).length=vs.length/\ ∀ (j:Nat) c u,(Df x)[j]? =some c->vs[j]? =some u->AS e c u:=by
  intro x v hx h1 h2
  refine⟨[v],h1,by rw[h2];rfl,fun j c u hc hu=> ?_⟩
  rw[h2]at hc
  cases j with
  |zero=>simp at hc hu;subst hc;subst hu;exact hx
  |succ j=>simp at hc
 have h':=h
 cases h with
 |non v=>simp[HX]at hb
 |dead v hd=>refine one h' ?_ rfl;cases v<;>first|rfl|(simp[Value.oneCell']at hd)
 |und=>simp[HX]at hb
 |sc v hs=>exact one h' (O8 hs) rfl
 |nil k ad=>exact one h' rfl rfl
 |im v k rows hp=>refine one h' ?_ rfl;cases hp<;>rfl
 |al v i k rows hv0 hp=>refine one h' ?_ rfl;cases hp<;>rfl
 |ref o p k rows hn=>
  refine one h' ?_ rfl;obtain⟨ad,c,hv,_⟩:=hM.node o p k rows hn;rw[hv];rfl
 |vw o p lo hi k rows v hn h1 h2 hw=>refine one h' ?_ rfl;obtain⟨_,_,_,_,_,_,rfl,_⟩:=hw;rfl
 |pb o j cs hb=>exact one h' rfl rfl
 |pa o p i j k b off n c rows hn hh hc=>exact one h' rfl rfl
 |pim v cs hp=>refine one h' ?_ rfl;obtain⟨_,_,rfl,_⟩:=hp;rfl
 |agg l vs hl hh=>exact⟨vs,rfl,hl,fun j c u hc hu=>hh j c u hc hu⟩
 |tup l vs hl hh=>simp[HX]at hb
 |clo f l vs hl hh=>exact one h' rfl rfl
theorem Fl (t:TypeId) (cs:Array Value) (w:World):(newRow t cs).run P w= .ok ⟨w.heap.size,0,none⟩ {w with heap:=w.heap.push (.cells cs t (0,0))}:=by
 simp[newRow]
theorem FR (w:World) (x:Go.Obj):GK w {w with heap:=w.heap.push x} x:=⟨rfl,rfl,rfl,rfl⟩
theorem op_box (hR:Rel fm e s a) {o:Oper} {t:TypeId} {b:Nat} {x:Operand} {X:Ow.X} (ho:o.op= .box t x) {tx:TypeId} (hx:xOf P tx x=some X)
  (h:Aa K md s o.dst (.box b X)=some s'):o.wp P a e.w (Reach fm e M s') Q:=by
 simp only[Aa]at h
 split at h
 ·rename_i hb
  split at h
  ·rename_i s1 hs
   obtain⟨vs,g1,g2,g3⟩:=M4 hR.mem (Ap hR hx) hb
   obtain⟨e',r1,r2,r3,_,r5⟩:=Rh hR (FR e.w (.cells vs.toArray t (0,0))) (KD _) hs (by simpa using g2) (fun j c u hc hu=>g3 j c u hc (by simpa using hu))
   refine Bx r1 r2 (r5 M) ?_ r3 h
   simp[execOp,ho,Instr.box,newVar,Fl,g1]
  ·cases h
 ·cases h
theorem Fz {t:TypeId} {v:Value} {x:AV} (h:Ef P t v=some x):(∃k,x= .nil k/\v= .slice none 0 0)\/(x= .sc v/\Dn v=true)\/ ∃f,x= .clo f []:=by
 unfold Ef at h;split at h
 ·split at h
  ·rename_i el _
   cases hk:Bd P el with
   |none=>simp[hk]at h
   |some k=>simp[hk]at h;exact .inl ⟨k,h.symm,rfl⟩
  ·cases h
 ·split at h
  ·cases h;exact .inr (.inr ⟨_,rfl⟩)
  ·cases h
 ·split at h
  ·cases h;exact .inr (.inl ⟨rfl,by assumption⟩)
  ·cases h
theorem KL: ∀ {ts:List TypeId} {vs:List Value} {l:List AV},CW P ts vs=some l->l.length=vs.length/\
  ∀ (j:Nat) c,l[j]? =some c-> ∃t v,vs[j]? =some v/\Ef P t v=some c
 |[],[],l,h=>by simp[CW]at h;subst h;exact⟨rfl,fun j c h=>by simp at h⟩
 |t::ts,v::vs,l,h=>by
  simp only[CW]at h;split at h
  ·rename_i x m hx hm;simp at h;subst h;obtain⟨h1,h2⟩:=KL hm;refine⟨by simp[h1],fun j c hc=> ?_⟩
   cases j with
   |zero=>simp at hc;subst hc;exact⟨t,v,rfl,hx⟩
   |succ j=>simp at hc;simpa using h2 j c hc
  ·cases h
 |[],_::_,l,h=>by simp[CW]at h
 |_::_,[],l,h=>by simp[CW]at h
theorem EO {t:TypeId} {cs:List AV} (h:BW P t=some cs): ∃i z,P.info? t=some i/\i.zero=some z/\cs.length=z.cells.size/\
  ∀ (j:Nat) c,cs[j]? =some c-> ∃u v,z.cells[j]? =some v/\Ef P u v=some c:=by
 unfold BW at h
 cases hi:P.info? t with
 |none=>simp[hi]at h
 |some i=>
  cases hz:i.zero with
  |none=>simp[hi,hz]at h
  |some z=>
   simp only[hi,Option.bind_some,hz]at h;refine⟨i,z,rfl,hz,?_⟩
   cases hc:Fy P t z with
   |none=>simp[hc]at h
   |some x=>
    simp[hc]at h;subst h;unfold Fy at hc;split at hc
    ·rename_i cs;split at hc
     ·rename_i ts _
      cases hm:CW P ts cs.toList with
      |none=>simp[hm]at hc
      |some l=>
       simp[hm]at hc;subst hc;obtain⟨h1,h2⟩:=KL hm;refine⟨by simpa[Df,Value.cells]using h1,fun j c hj=> ?_⟩;obtain⟨u,v,g1,g2⟩:=h2 j c hj;exact⟨u,v,by simpa[Value.cells]using g1,g2⟩
     ·cases hc
    ·rename_i hna;have hcell:z.cells= #[z]/\Df x=[x]:=by
      rcases Fz hc with ⟨k,rfl,rfl⟩|⟨rfl,hs⟩|⟨f,rfl⟩
      ·exact⟨rfl,rfl⟩
      ·exact⟨O8 hs,rfl⟩
      ·refine⟨?_,rfl⟩
       cases z<;>first
        |rfl
        |(exact absurd rfl (hna _))
        |(simp[Ef,Dn]at hc)
     rw[hcell.1,hcell.2];refine⟨rfl,fun j c hj=> ?_⟩
     cases j with
     |zero=>simp at hj;subst hj;exact⟨t,z,rfl,hc⟩
     |succ j=>simp at hj
theorem JJ : ∀ {cs : List AV} {ds : List T}, GM cs = some ds -> ds.length = cs.length /\
    ∀ (j : Nat) d, ds[j]? = some d -> (∃ v, d = .sc v /\ cs[j]? = some (.sc v)) \/ ∃ k, d = .sl k [] /\ cs[j]? = some (.nil k)
  | [], ds, h => by simp [GM] at h; subst h; exact ⟨rfl, fun j d h => by simp at h⟩
  | c :: cs, ds, h => by
    unfold GM at h
    cases c <;> simp only at h <;> first
      | (cases h; done)
      | (rename_i v
         cases hm : GM cs with
         | none => simp [hm] at h
         | some m =>
           simp [hm] at h;subst h;obtain ⟨h1, h2⟩ := JJ hm;refine ⟨by simp [h1], fun j d hd => ?_⟩
           cases j with
           | zero => simp at hd; subst hd; simp
           | succ j => simp at hd; simpa using h2 j d hd)
theorem op_new (hR:Rel fm e s a) {o:Oper} {t:TypeId} {b:Nat} {zs:List AV} (ho:o.op= .alloc t) (hz:BW P t=some zs)
  (h:Aa K md s o.dst (.new b zs)=some s'):o.wp P a e.w (Reach fm e M s') Q:=by
 simp only[Aa]at h
 split at h
 ·rename_i s1 hs
  obtain⟨i,z,g1,g2,g3,g4⟩:=EO hz
  obtain⟨e',r1,r2,r3,_,r5⟩:=Rh hR (FR e.w (.cells z.cells t (0,0))) (KD _) hs g3 (fun j c u hc hu=>by
   obtain⟨u',v,q1,q2⟩:=g4 j c hc;rw[hu]at q1
   cases q1
   exact HW q2)
  refine Bx r1 r2 (r5 M) ?_ r3 h
  simp[execOp,ho,Instr.alloc,zeroValue,typeInfo,g1,g2,newVar,Fl]
 ·cases h
theorem QL {t:TypeId} {ds:List T} (h:(BW P t).bind GM=some ds): ∃i z,P.info? t=some i/\i.zero=some z/\ds.length=z.cells.size/\
  ∀ (j:Nat) d,ds[j]? =some d->z.cells[j]? =some (val d)/\((∃v,d= .sc v/\Dn v=true)\/ ∃k,d= .sl k []):=by
 cases hz:BW P t with
 |none=>simp[hz]at h
 |some cs=>
  simp only[hz,Option.bind_some]at h;obtain⟨i,z,g1,g2,g3,g4⟩:=EO hz;obtain⟨h1,h2⟩:=JJ h;refine⟨i,z,g1,g2,h1.trans g3,fun j d hd=> ?_⟩;rcases h2 j d hd with ⟨v,rfl,hc⟩|⟨k,rfl,hc⟩
  ·obtain⟨u,v',q1,q2⟩:=g4 j _ hc;rcases Fz q2 with ⟨k,hk,_⟩|⟨hv,hs⟩|⟨f,hf⟩
   ·cases hk
   ·cases hv;exact⟨q1,.inl ⟨v,rfl,hs⟩⟩
   ·cases hf
  ·obtain⟨u,v',q1,q2⟩:=g4 j _ hc;rcases Fz q2 with ⟨k',hk,rfl⟩|⟨hv,hs⟩|⟨f,hf⟩
   ·cases hk;exact⟨q1,.inr ⟨k,rfl⟩⟩
   ·cases hv
   ·cases hf
theorem TJ {x y:Operand} (h:RY x y=true) {k:IntKind} {i:Int} (hx:a.eval x= .int k i): ∃k',a.eval y= .int k' i:=by
 unfold RY at h;split at h
 ·simp at h;subst h;exact⟨k,hx⟩
 ·simp at h;subst h;simp[Act.eval]at hx;exact⟨_,by simp[Act.eval,hx.2];rfl⟩
 ·cases h
theorem op_mk (hR:Rel fm e s a) {o:Oper} {t el:TypeId} {b k bytes:Nat} {zs:List T} {x y:Operand} {X:Ow.X} (ho:o.op= .makeSlice t x y)
  (ht:P.underlying t=some (.slice el)) (hk:Bd P el=some k) (hz:(BW P el).bind GM=some zs) (hb:Cz P el=some bytes) (hxy:RY x y=true)
  {tx:TypeId} (hx:xOf P tx x=some X) (h:Aa K md s o.dst (.mk b k zs bytes X)=some s'):o.wp P a e.w (Reach fm e M s') Q:=by
 simp only[Aa]at h
 split at h
 ·rename_i n hn
  split at h
  ·rename_i hc
   obtain⟨hc1,hc2,hc3⟩:=hc
   split at h
   ·rename_i s1 hs
    obtain⟨ki,iv,g1,g2,g3⟩:=JZ (Ap hR hx) hn
    obtain⟨ki',g1'⟩:=TJ hxy g1
    obtain⟨i,z,z1,z2,z3,z4⟩:=QL hz
    have hbt:i.bytes=bytes:=by unfold Cz at hb;simpa[z1]using hb
    have hst:i.size=k:=by unfold Bd at hk;simpa[z1]using hk
    have hzs:z.cells.size=k:=by rw[←z3];exact hc3
    have hn1:n<=n*bytes:=Nat.le_mul_of_pos_right n hc2
    have hiv:iv=(n:Int):=by omega
    have hw:IntKind.i64.wrap iv=iv:=by rw[IntKind.wrap_i64];omega
    have harr: ∀m,m<n*k->((Array.range (n*k)).map (fun m=>z.cells[m%z.cells.size]!))[m]? =some (z.cells[m%z.cells.size]!):=fun m hm=>by
     simp[hm]
    have hcell: ∀i' j d,AM (List.replicate n zs) i' j=some d->i'<n/\j<k/\zs[j]? =some d:=by
     intro i' j d hd;obtain⟨r,hr,hj⟩:=AY hd;rw[List.getElem?_replicate]at hr;split at hr
     ·rename_i hlt
      cases hr
      exact⟨hlt,by rw[←hc3];exact(List.getElem?_eq_some_iff.1 hj).1,hj⟩
     ·cases hr
    obtain⟨e',r1,r2,r3,_,r5⟩:=new_arr (c:=n) hR (FR e.w (.cells ((Array.range (n*k)).map (fun m=>z.cells[m%z.cells.size]!)) el (0,0))) (KD _) hs
     (fun i' j d hd=>(z4 j d (hcell i' j d hd).2.2).2) (fun r hr=>by rw[(List.mem_replicate.1 hr).2];exact hc3) (Nat.le_of_eq List.length_replicate) (Nat.le_of_eq (by rw[Array.size_map,Array.size_range]))
     (fun i' j d hd=>by
      obtain⟨q1,q2,q3⟩:=hcell i' j d hd;have hlt:i'*k+j<n*k:=by
       have:(i'+1)*k<=n*k:=Nat.mul_le_mul_right _ q1;rw[Nat.add_mul]at this;omega
      rw[harr _ hlt,hzs];have hm:(i'*k+j)%k=j:=by
       rw[Nat.add_comm,Nat.add_mul_mod_self_right];exact Nat.mod_eq_of_lt q2
      rw[hm];have:=(z4 j d q3).1;rw[getElem!_def];rw[this])
    simp only[List.length_replicate]at r3
    refine Bx r1 r2 (r5 M) ?_ r3 h
    have hle: ¬ (281474976710656<(bytes:Int)*(n:Int)):=by
     have:((n*bytes:Nat):Int)<=((35184372088832:Nat):Int):=Int.ofNat_le.2 hc1;rw[Int.natCast_mul,Int.mul_comm]at this;omega
    have h0: ¬ ((n:Int)<0):=by omega
    subst hiv
    simp only[Int.toNat_natCast]at g3
    have hr0:Array.range 0= #[]:=rfl
    by_cases hnk:n*k=0
    ·rw[hnk]
     simp[execOp,ho,hr0,Instr.makeSlice,AQ ht,g1,g1',asInt,asIntOf,typeInfo,z1,hbt,hw,hle,h0,sizeOf,hst,hnk,Fl]
    ·simp[execOp,ho,Instr.makeSlice,AQ ht,g1,g1',asInt,asIntOf,typeInfo,z1,hbt,hw,hle,h0,sizeOf,hst,hnk,zeroValue,z2,Fl]
   ·cases h
  ·cases h
 ·cases h
end
section
variable {P:Program} {fm:Fm} {M:List Nat} {e e':Env} {s s':St} {a:Act} {Q:Exit->Act->World->Prop}
variable {K:Nat->List Arg->Option Res} {md:Nat->List Nat}
structure Bl (w w':World) (b off:Nat) (vs:List Value):Prop where
 os:w'.os=w.os
 tape:w'.tape=w.tape
 output:w'.output=w.output
 size:w'.heap.size=w.heap.size
 other: ∀x,x≠b->w'.heap[x]? =w.heap[x]?
 cell: ∀j,w'.cell? ⟨b,j,none⟩=if off<=j/\j<off+vs.length then(if(w.cell? ⟨b,j,none⟩).isSome then vs[j - off]? else none)else w.cell? ⟨b,j,none⟩
 frozen: ∀j,w'.frozen? ⟨b,j,none⟩=w.frozen? ⟨b,j,none⟩
theorem Bl.wr {w w':World} {b off:Nat} {vs:List Value} (h:Bl w w' b off vs) {j:Nat} (hw:Wr w b j):Wr w' b j:=by
 obtain⟨⟨u,h1⟩,h2⟩:=hw;refine⟨?_,by rw[h.frozen];exact h2⟩;rw[h.cell j,h1];by_cases hc:off<=j/\j<off+vs.length
 ·rw[if_pos hc];simp only[Option.isSome_some,if_true];exact⟨vs[j - off]'(by omega),List.getElem?_eq_getElem (by omega)⟩
 ·rw[if_neg hc];exact⟨u,rfl⟩
theorem Bl.new {w w':World} {b off:Nat} {vs:List Value} (h:Bl w w' b off vs) {i:Nat} {v:Value} (hi:vs[i]? =some v) (hw:Wr w b (off+i)):
  w'.cell? ⟨b,off+i,none⟩=some v:=by
 obtain⟨⟨u,h1⟩,h2⟩:=hw
 have hlt:i<vs.length:=(List.getElem?_eq_some_iff.1 hi).1
 rw[h.cell,h1,if_pos (by omega)]
 simp[hi]
theorem Bl.same {w w':World} {b off:Nat} {vs:List Value} (h:Bl w w' b off vs) {j:Nat} (hj: ¬ (off<=j/\j<off+vs.length)):
  w'.cell? ⟨b,j,none⟩=w.cell? ⟨b,j,none⟩:=by rw[h.cell,if_neg hj]
theorem Ek.stored {w w':World} {b off:Nat} {vs:List Value} (hk:Ek fm.w0 fm.F w) (h:Bl w w' b off vs) (hb:fm.w0.heap.size<=b\/fm.F b):Ek fm.w0 fm.F w':=
 ⟨h.os.trans hk.os,h.tape.trans hk.tape,h.output.trans hk.output,by rw[h.size];exact hk.size,fun k hk1 hk2=>by
  have:k≠b:=fun e=>by subst e;rcases hb with hb|hb;omega;exact hk2 hb
  rw[h.other k this];exact hk.block k hk1 hk2⟩
theorem LF {w:World} {b j:Nat} {v:Value} (hw:Wr w b j):Bl w (w.setCell ⟨b,j,none⟩ v) b j [v]:=by
 obtain⟨⟨u,h1⟩,h2⟩:=hw;have hcells: ∃c t fr,w.heap[b]? =some (.cells c t fr)/\j<c.size:=by
  unfold World.cell? at h1;split at h1
  ·rename_i c t fr hh;simp only[Option.isSome_none,Bool.false_eq_true,if_false]at h1;exact⟨c,t,fr,hh,(Array.getElem?_eq_some_iff.1 h1).1⟩
  ·cases h1
 obtain⟨c,t,fr,hh,hj⟩:=hcells;have hnew:(w.setCell ⟨b,j,none⟩ v).heap[b]? =some (.cells (c.setIfInBounds j v) t fr):=by
  simp[World.setCell,Array.getElem?_modify,hh]
 refine⟨rfl,rfl,rfl,by simp[World.setCell],fun x hx=> ?_,fun i=> ?_,fun i=> ?_⟩
 ·simp only[World.setCell,Array.getElem?_modify];rw[if_neg (fun e=>hx e.symm)]
 ·unfold World.cell?;simp only[hnew,hh,Option.isSome_none,Bool.false_eq_true,if_false,List.length_singleton];by_cases hi:j<=i/\i<j+1
  ·have:i=j:=by omega
   subst this;simp[hj]
  ·rw[if_neg hi,Array.getElem?_setIfInBounds_ne (by omega)]
 ·unfold World.frozen?;rw[hnew,hh]
theorem Bl.nil (w:World) (b off:Nat):Bl w w b off []:=
 ⟨rfl,rfl,rfl,rfl,fun _ _=>rfl,fun j=>by rw[if_neg (by simp)],fun _=>rfl⟩
theorem Bl.cons {w w1 w2:World} {b off:Nat} {v:Value} {vs:List Value} (h1:Bl w w1 b off [v]) (h2:Bl w1 w2 b (off+1) vs):Bl w w2 b off (v::vs):=by
 refine⟨h2.os.trans h1.os,h2.tape.trans h1.tape,h2.output.trans h1.output,h2.size.trans h1.size,fun x hx=>(h2.other x hx).trans (h1.other x hx),fun j=> ?_,fun j=>(h2.frozen j).trans (h1.frozen j)⟩;rw[h2.cell,h1.cell];simp only[List.length_cons,List.length_nil,Nat.zero_add];by_cases c1:off+1<=j/\j<off+1+vs.length
 ·rw[if_pos c1,if_neg (show ¬ (off<=j/\j<off+1)by omega),if_pos (show off<=j/\j<off+(vs.length+1)by omega)];rw[show j - off=(j - (off+1))+1 by omega,List.getElem?_cons_succ]
 ·rw[if_neg c1];by_cases c2:off<=j/\j<off+1
  ·rw[if_pos c2,if_pos (show off<=j/\j<off+(vs.length+1)by omega),show j - off=0 by omega];simp
  ·rw[if_neg c2,if_neg (show ¬ (off<=j/\j<off+(vs.length+1))by omega)]
theorem CZ: ∀ (vs:List Value) (w:World) (b off i:Nat),(∀j,j<vs.length->Wr w b (off+i+j))->(∀v∈vs,v.oneCell'=true)->
  ∃w',(storeCells ⟨b,off,none⟩ vs i).run P w= .ok () w'/\Bl w w' b (off+i) vs
 |[],w,b,off,i,_,_=>⟨w,rfl,Bl.nil w b _⟩
 |v::vs,w,b,off,i,hw,hv=>by
  have h0:=hw 0 (by simp);rw[Nat.add_zero]at h0;have hst:=LF (v:=v) h0;obtain⟨w',h1,h2⟩:=CZ vs (w.setCell ⟨b,off+i,none⟩ v) b off (i+1) (fun j hj=>by
   have:=hst.wr (hw (j+1) (by simp;omega));rwa [show off+i+(j+1)=off+(i+1)+j by omega]at this) (fun x hx=>hv x (List.mem_cons_of_mem _ hx))
  refine⟨w',?_,hst.cons (by rw[show off+i+1=off+(i+1)by omega];exact h2)⟩;obtain⟨⟨u,hu⟩,hf⟩:=h0;simp only[storeCells,Sem.run_bind,run_store P w _ v _ (hv v (List.mem_cons_self)),Bg,hu,hf,Bool.false_eq_true,if_false,Result.andThen_ok,h1]
theorem Dr (hM:Mem fm e) {x:AV} {v:Value} (h:AS e x v) (hb:oneCell x=true):v.cells= #[v]/\v.oneCell'=true:=by
 have key: ∀ {v:Value},v.oneCell'=true->v.cells= #[v]:=fun {v} h=>by cases v<;>first|rfl|(simp[Value.oneCell']at h)
 have:v.oneCell'=true:=by
  cases h with
  |non v=>simp[oneCell]at hb
  |dead v h=>exact h
  |und=>simp[oneCell]at hb
  |sc v hs=>cases v<;>first|rfl|(simp[Dn]at hs)
  |nil k ad=>rfl
  |im v k rows hp=>cases hp<;>rfl
  |al v i k rows hv0 hp=>cases hp<;>rfl
  |ref o p k rows hn=>exact(hM.node o p k rows hn).one
  |vw o p lo hi k rows v hn h1 h2 hw=>obtain⟨_,_,_,_,_,_,rfl,_⟩:=hw;rfl
  |pb o j cs hb=>rfl
  |pa o p i j k b off n c rows hn hh hc=>rfl
  |pim v cs hp=>obtain⟨_,_,rfl,_⟩:=hp;rfl
  |agg l vs hl hh=>simp[oneCell]at hb
  |tup l vs hl hh=>simp[oneCell]at hb
  |clo f l vs hl hh=>rfl
 exact⟨key this,this⟩
theorem cells_all (hM:Mem fm e) {l:List AV} {vs:List Value} (hl:l.length=vs.length) (hh: ∀ (i:Nat) (a:AV) (v:Value),l[i]? =some a->vs[i]? =some v->AS e a v)
  (hb:l.all oneCell=true): ∀v∈vs,v.oneCell'=true:=by
 intro v hv
 obtain⟨i,hi⟩:=List.mem_iff_getElem?.1 hv
 have hlt:i<l.length:=by rw[hl];exact(List.getElem?_eq_some_iff.1 hi).1
 have hx:l[i]? =some l[i]:=List.getElem?_eq_getElem hlt
 exact(Dr hM (hh i _ v hx hi) (List.all_eq_true.1 hb _ (List.getElem_mem hlt))).2
theorem C3 {α:Type} (r:List α) (j:Nat) (ds:List α) (hj:j+ds.length<=r.length) (i:Nat):
  (Az r j ds)[i]? =if j<=i/\i<j+ds.length then ds[i - j]? else r[i]? :=by
 unfold Az
 rw[List.getElem?_append,List.getElem?_append,List.length_append,List.length_take]
 have hm:min j r.length=j:=by omega
 rw[hm,List.getElem?_take,List.getElem?_drop]
 by_cases c1:i<j
 ·rw[if_pos (show i<j+ds.length by omega),if_pos c1,if_pos c1,if_neg (show ¬ (j<=i/\i<j+ds.length)by omega)]
 ·by_cases c2:i<j+ds.length
  ·rw[if_pos c2,if_neg c1,if_pos (show j<=i/\i<j+ds.length by omega)]
  ·rw[if_neg c2,if_neg (show ¬ (j<=i/\i<j+ds.length)by omega)]
   congr 1
   omega
theorem Di {α:Type} (r:List α) (j:Nat) (ds:List α) (hj:j+ds.length<=r.length):(Az r j ds).length=r.length:=by
 unfold Az;simp;omega
theorem SH (hR:Rel fm e s a) {o j:Nat} {cs l:List AV} {vs:List Value} (ho:e.ob o= .box cs) (hj:j+l.length<=cs.length) (hl:l.length=vs.length)
  (hh: ∀ (i:Nat) (a:AV) (v:Value),l[i]? =some a->vs[i]? =some v->AS e a v) {w':World} (hst:Bl e.w w' (e.bk o) j vs):
  ∃e',e'.w=w'/\Rel fm e' (s.putO o (.box (Az cs j l))) a/\ ∀M,o∈M->Evo e e' M:=by
 let e':Env:={w:=w',ob:=fun o'=>if o'=o then .box (Az cs j l)else e.ob o',hd:=e.hd,bk:=e.bk,Im:=e.Im,tk:=e.tk}
 have hob: ∀o',o'≠o->e'.ob o'=e.ob o':=fun o' h=>by simp[e',h]
 obtain⟨q1,q2,q3⟩:=hR.mem.own _ _ (Ad ho)
 have hnb: ∀ {b},e.Im b->b≠e.bk o:=fun h1 h2=>q3 (h2 ▸ h1)
 have hnode: ∀o' p,e'.node o' p=e.node o' p:=fun o' p=>by
  by_cases h:o'=o
  ·subst h;simp[Env.node,e',ho]
  ·exact Dl (hob o' h) p
 have hC:Bm e e' fun o p=>some (o,p):=by
  refine⟨fun b hb=>⟨hb,hst.other b (hnb hb)⟩,fun o1 p k rows o' p' hn hf=> ?_,fun o1 cs1 hb=> ?_,fun o1 p k rows hn=>(hR.mem.node o1 p k rows hn).one,rfl⟩
  ·cases hf;exact⟨rows,by rw[hnode];exact hn,rfl,rfl⟩
  ·by_cases h:o1=o
   ·subst h;exact⟨Az cs j l,by simp[e'],rfl⟩
   ·exact⟨cs1,by rw[hob o1 h];exact hb,rfl⟩
 refine⟨e',rfl,⟨?_,fun o'=> ?_,fun o' k' r' h1 h2=> ?_,fun o' cs' h1 h2=> ?_,hR.size,hR.defers,fun t=>(hR.tm t).carry hC⟩,fun M hM=>⟨by simp only[e',hst.size];omega,fun b hb hl=>hst.other b (fun h=>hl (.bx o) (h ▸ Ad ho) hM)⟩⟩
 case refine_3=>
  by_cases h:o'=o
  ·subst h;simp[e']at h2
  ·rw[hob o' h]at h2;exact hR.pinh o' k' r' h1 h2
 case refine_4=>
  by_cases h:o'=o
  ·subst h;exact hR.pinb o' cs h1 ho
  ·rw[hob o' h]at h2;exact hR.pinb o' cs' h1 h2
 ·have hA:Asm fm e e' (fun o' p=>some (o',p)) (fun _=>False):=by
   refine⟨?_,?_,?_,?_,?_,?_,?_,?_,?_⟩
   ·intro o' p' o1 p1 k1 rows' h1 h2
    cases h1
    rw[hnode]at h2;exact⟨rows',h2,ED.refl _,rfl,fun _ _ _ _ _=>rfl⟩
   ·intro o' p' o1 p1 b h1 _ hb;obtain⟨_,_,g3⟩:=hR.mem.own _ b hb;refine⟨hst.other b (fun h=> ?_),g3,fun h=>h⟩;have:=hR.mem.inj _ _ _ hb (h ▸ Ad ho)
    cases this
   ·intro o1 p1 o2 p2 x h1 h2 _ _;rw[←h2]at h1;simpa using h1
   ·intro o' p' k1 rows' h1 h2;cases h1
   ·intro o' p' b h1;cases h1
   ·intro b hb;cases hb
   ·intro o1 cs1 hb;by_cases h:o1=o
    ·subst h;exact .inl ⟨cs,ho,rfl,q3,fun h=>h⟩
    ·rw[hob o1 h]at hb;exact .inl ⟨cs1,hb,rfl,(hR.mem.own _ _ (Ad hb)).2.2,fun h=>h⟩
   ·intro o1 cs1 hb i c hc;by_cases h:o1=o
    ·subst h;simp[e']at hb;subst hb;rw[C3 cs j l hj]at hc;by_cases hi:j<=i/\i<j+l.length
     ·rw[if_pos hi]at hc;have hlt:i - j<vs.length:=by omega
      have hv:vs[i - j]? =some vs[i - j]:=List.getElem?_eq_getElem hlt;have hlt2:i<cs.length:=by omega
      obtain⟨g1,u,g2,g3⟩:=hR.mem.box o1 cs ho i cs[i] (List.getElem?_eq_getElem hlt2);refine⟨hst.wr g1,vs[i - j],?_,(hh (i - j) c _ hc hv).carry hC⟩;have:=hst.new hv (by rw[show j+(i - j)=i by omega];exact g1);rwa [show j+(i - j)=i by omega]at this
     ·rw[if_neg hi]at hc;obtain⟨g1,u,g2,g3⟩:=hR.mem.box o1 cs ho i c hc;exact⟨hst.wr g1,u,by simp only[e'];rw[hst.same (by omega)];exact g2,g3.carry hC⟩
    ·rw[hob o1 h]at hb;obtain⟨g1,u,g2,g3⟩:=hR.mem.box o1 cs1 hb i c hc;have hne:e.bk o1≠e.bk o:=fun h2=>h (by
      have:=hR.mem.inj (.bx o1) (.bx o) _ (Ad hb) (h2 ▸ Ad ho)
      cases this;rfl)
     exact⟨g1.congr (hst.other _ hne),u,by rw[←g2];exact Bt (hst.other _ hne),g3.carry hC⟩
   ·simp only[e',hst.size];exact Nat.le_refl _
  exact hR.mem.asm hA (fun x hx=>⟨by have:=(hR.mem.im x hx).1;simp only[e',hst.size];exact this,(hR.mem.im x hx).2⟩) hR.mem.im0 (hR.mem.keeps.stored hst q2)
 ·rw[A6]
  by_cases h:o'=o
  ·simp[e',h]
  ·simp[e',h,hR.ob]
end
section
variable {P:Program} {fm:Fm} {M:List Nat} {e e':Env} {s s':St} {a:Act} {Q:Exit->Act->World->Prop}
theorem Kd (l:List AV):Bv (fun o p=>some (o,p)) l=l:=by
 induction l with
 |nil=>rfl
 |cons a l ih=>simp only[Bv,ih,AV.sub_id _ (fun _ _=>rfl)]
theorem subT_id (l:List (Nat×AV)):Mp (fun o p=>some (o,p)) l=l:=by
 induction l with
 |nil=>rfl
 |cons a l ih=>obtain⟨t,a⟩:=a;simp only[Mp,ih,AV.sub_id _ (fun _ _=>rfl)]
theorem Obj.sub_id (x:Obj):x.sub (fun o p=>some (o,p))=x:=by
 cases x<;>simp only[Obj.sub,Kd]
theorem subO_id (l:List (Nat×Obj)):KO (fun o p=>some (o,p)) l=l:=by
 induction l with
 |nil=>rfl
 |cons a l ih=>obtain⟨t,a⟩:=a;simp only[KO,ih,Obj.sub_id]
theorem St.sub_id (s:St):s.sub (fun o p=>some (o,p))=s:=by
 unfold St.sub;rw[subT_id,subO_id]
theorem Cc (s:St) (f:Nat->AO->Option (Nat×AO)) (o:Nat):AR (s.sub f).ob o=(AR s.ob o).sub f:=Na f s.ob o
theorem FS (s:St) (f:Nat->AO->Option (Nat×AO)) (t:Nat):At (s.sub f).tm t=(At s.tm t).sub f:=NY f s.tm t
theorem Obj.sub_arr {x:Obj} {f:Nat->AO->Option (Nat×AO)} {k:Nat} {rows:List (List T)}:x.sub f= .arr k rows<->x= .arr k rows:=by
 cases x<;>simp[Obj.sub]
theorem Obj.sub_box {x:Obj} {f:Nat->AO->Option (Nat×AO)} {cs:List AV}:x.sub f= .box cs<-> ∃cs0,x= .box cs0/\cs=Bv f cs0:=by
 cases x<;>simp[Obj.sub,eq_comm]
theorem HI {ob:Nat->Obj} {f:Nat->AO->Option (Nat×AO)} {o:Nat} {p:AO}:
  (match (ob o).sub f with
   | .arr k rows=>AN k rows p
   |_=>none)=(match ob o with
   | .arr k rows=>AN k rows p
   |_=>none):=by
 cases h:ob o<;>simp[Obj.sub]
theorem By {e:Env} {o k0:Nat} {rows0:List (List T)} (h:e.ob o= .arr k0 rows0) (p:AO):e.node o p=AN k0 rows0 p:=by
 unfold Env.node;rw[h]
theorem EW {e:Env} {o k:Nat} {p:AO} {rows:List (List T)} (h:e.node o p=some (k,rows)): ∃k0 rows0,e.ob o= .arr k0 rows0/\AN k0 rows0 p=some (k,rows):=by
 unfold Env.node at h;split at h
 ·rename_i k0 rows0 he;exact⟨k0,rows0,he,h⟩
 ·cases h
theorem Iv {k:Nat} {rows rows':List (List T)} (hsub: ∀i j k1 r1,AM rows' i j=some (.sl k1 r1)->AM rows i j=some (.sl k1 r1))
  {b:Nat×Nat} {q:AO} {x:Nat×List (List T)} (h:AN k rows' (b::q)=some x):AN k rows (b::q)=some x:=by
 obtain⟨i,j⟩:=b
 simp only[AN]at h ⊢
 split at h
 ·rename_i k' r' hc
  rw[hsub i j k' r' hc];exact h
 ·cases h
theorem Ht.some_r {x:Option (Nat×List (List T))} {k:Nat} {r:List (List T)} (h:Ht x (some (k,r))): ∃r0,x=some (k,r0)/\ED r0 r:=by
 cases x with
 |none=>exact h.elim
 |some y=>obtain⟨k',r'⟩:=y;obtain⟨rfl,h2⟩:=h;exact⟨r',rfl,h2⟩
theorem Ht.some_l {y:Option (Nat×List (List T))} {k:Nat} {r:List (List T)} (h:Ht (some (k,r)) y): ∃r1,y=some (k,r1)/\ED r r1:=by
 cases y with
 |none=>exact h.elim
 |some y=>obtain⟨k',r'⟩:=y;obtain⟨rfl,h2⟩:=h;exact⟨r',rfl,h2⟩
def RK (o:Nat) (p:AO) (rows rows':List (List T)) (f:Nat->AO->Option (Nat×AO)):Prop:=
 ((f=fun o p=>some (o,p))/\ ∀i j k1 r1,AM rows i j=some (.sl k1 r1)->AM rows' i j=some (.sl k1 r1))\/f=IX o p
theorem RK.fix {o:Nat} {p:AO} {rows rows':List (List T)} {f:Nat->AO->Option (Nat×AO)} (h:RK o p rows rows' f) {o1 o':Nat} {p1 p':AO} (hf:f o1 p1=some (o',p')):
  o'=o1/\p'=p1:=by
 rcases h with ⟨rfl,_⟩|rfl
 ·cases hf;exact⟨rfl,rfl⟩
 ·unfold IX at hf
  split at hf
  ·split at hf
   ·cases hf
   ·cases hf;exact⟨rfl,rfl⟩
  ·cases hf;exact⟨rfl,rfl⟩
theorem LE (hR:Rel fm e s a) {o k k0:Nat} {p:AO} {rows rows0 rows' rows1:List (List T)} (h0:e.ob o= .arr k0 rows0) (hn:AN k0 rows0 p=some (k,rows))
  (hset:CV rows' rows0 p=some rows1) (hlen:rows'.length=rows.length)
  (hsub: ∀i j k1 r1,AM rows' i j=some (.sl k1 r1)->AM rows i j=some (.sl k1 r1)) {f:Nat->AO->Option (Nat×AO)} (hF:RK o p rows rows' f)
  {w':World} (hw: ∀x,BG (e.hd o p)≠some x->w'.heap[x]? =e.w.heap[x]?) (hk:Ek fm.w0 fm.F w') (hsz:w'.heap.size=e.w.heap.size)
  (hnew:Bu w' (e.hd o p) k rows' (fun i j=>e.hd o (p++[(i,j)]))):
  ∃e',e'.w=w'/\e'.hd=e.hd/\Rel fm e' ((s.putO o (.arr k0 rows1)).sub f) a/\Bm e e' f/\ ∀M,o∈M->Evo e e' M:=by
 let e':Env:={w:=w',ob:=fun o'=>if o'=o then .arr k0 rows1 else(e.ob o').sub f,hd:=e.hd,bk:=e.bk,Im:=e.Im,tk:=e.tk}
 have hbn: ∀ {x l},e.blk l=some x->BG (e.hd o p)=some x->l= .nd o p:=fun hx h1=>hR.mem.inj _ _ _ hx (Ae (By h0 p ▸ hn) h1)
 have hne: ∀o',o'≠o-> ∀q,e'.node o' q=e.node o' q:=fun o' h q=>by
  unfold Env.node;simp only[e',if_neg h];exact HI
 have heq: ∀q,e'.node o q=AN k0 rows1 q:=fun q=>by simp[Env.node,e']
 have heq0: ∀q,e.node o q=AN k0 rows0 q:=fun q=>By h0 q
 have back: ∀o' q k1 r1,e'.node o' q=some (k1,r1)->(o',q)≠(o,p)-> ∃r0,e.node o' q=some (k1,r0)/\ED r0 r1:=by
  intro o' q k1 r1 h hne2;by_cases ho:o'=o
  ·subst ho;rw[heq]at h;rw[heq0]
   cases hp:pre p q with
   |none=>
    have:=E3 hn hset q hp;rw[h]at this;exact this.some_r
   |some r=>
    rw[Cv]at hp;subst hp;rw[B7 hn hset]at h
    cases r with
    |nil=>exact absurd (by simp) hne2
    |cons b r=>
     refine⟨r1,?_,ED.refl _⟩;rw[A9,hn];exact Iv hsub h
  ·rw[hne o' ho]at h;exact⟨r1,h,ED.refl _⟩
 have hC:Bm e e' f:=by
  refine⟨fun b hb=>⟨hb,hw b fun h=> ?_⟩,fun o1 p1 k1 r1 o' p' h1 hf=> ?_,fun o1 cs hb=> ?_,fun o1 p1 k1 r1 h1=>(hR.mem.node o1 p1 k1 r1 h1).one,rfl⟩
  ·exact(hR.mem.own (.nd o p) b (Ae (By h0 p ▸ hn) h)).2.2 hb
  ·obtain⟨rfl,rfl⟩:=hF.fix hf;by_cases ho:o'=o
   ·subst ho;rw[heq0]at h1;rw[heq]
    cases hp:pre p p' with
    |none=>
     have:=E3 hn hset p' hp;rw[h1]at this;obtain⟨r2,g1,g2⟩:=this.some_l;exact⟨r2,g1,g2.len,rfl⟩
    |some r=>
     have hpp:=Cv.1 hp;subst hpp;rw[A9,hn]at h1;rw[B7 hn hset]
     cases r with
     |nil=>
      simp only[AN,Option.some.injEq,Prod.mk.injEq]at h1;obtain⟨rfl,rfl⟩:=h1;exact⟨rows',rfl,hlen,rfl⟩
     |cons b r=>
      rcases hF with ⟨_,h2⟩|rfl
      ·exact⟨r1,Iv h2 h1,rfl,rfl⟩
      ·simp[IX,hp]at hf
   ·exact⟨r1,by rw[hne o' ho];exact h1,rfl,rfl⟩
  ·have ho:o1≠o:=fun h=>by rw[h,h0]at hb;cases hb
   exact⟨Bv f cs,by simp[e',ho,hb,Obj.sub],rfl⟩
 have hbox: ∀ {o1 cs},e'.ob o1= .box cs->o1≠o/\ ∃cs0,e.ob o1= .box cs0/\cs=Bv f cs0:=fun {o1 cs} h=>by
  by_cases ho:o1=o
  ·simp[e',ho]at h
  ·simp only[e',if_neg ho]at h;exact⟨ho,Obj.sub_box.1 h⟩
 refine⟨e',rfl,rfl,⟨?_,fun o'=> ?_,fun o' k' r' h1 h2=> ?_,fun o' cs h1 h2=> ?_,hR.size,hR.defers,fun t=> ?_⟩,hC,fun M hM=>⟨by simp only[e',hsz];omega,fun b hb hl=>hw b fun h=>hl (.nd o p) (Ae (By h0 p ▸ hn) h) hM⟩⟩
 ·have hA:Asm fm e e' (fun o' p'=>if(o',p')=(o,p)then none else some (o',p')) (fun b=>BG (e.hd o p)=some b):=by
   refine⟨?_,?_,?_,?_,?_,?_,?_,?_,?_⟩
   ·intro o' p' o1 p1 k1 r1 h1 h2;by_cases hop:(o',p')=(o,p)
    ·simp[hop]at h1
    ·rw[if_neg hop]at h1
     cases h1
     obtain⟨r0,g1,g2⟩:=back o' p' k1 r1 h2 hop;exact⟨r0,g1,g2,rfl,fun _ _ _ _ _=>rfl⟩
   ·intro o' p' o1 p1 b h1 _ hb;by_cases hop:(o',p')=(o,p)
    ·simp[hop]at h1
    ·rw[if_neg hop]at h1
     cases h1
     have hnb:BG (e.hd o p)≠some b:=fun h=>by
      have:=hbn hb h
      cases this
      exact hop rfl
     exact⟨hw b hnb,(hR.mem.own _ b hb).2.2,hnb⟩
   ·intro o1 p1 o2 p2 x h1 h2 _ _;by_cases g1:(o1,p1)=(o,p)
    ·simp[g1]at h1
    ·by_cases g2:(o2,p2)=(o,p)
     ·simp[g2]at h2
     ·rw[if_neg g1]at h1;rw[if_neg g2]at h2;rw[←h2]at h1;simpa using h1
   ·intro o' p' k1 r1 h1 h2;have hop:(o',p')=(o,p):=by
     by_cases hop:(o',p')=(o,p)
     ·exact hop
     ·rw[if_neg hop]at h1;cases h1
    cases hop
    rw[heq]at h2;have:=B7 hn hset [];rw[List.append_nil,h2]at this;simp only[AN,Option.some.injEq,Prod.mk.injEq]at this;obtain⟨rfl,rfl⟩:=this;exact hnew
   ·intro o' p' b h1 h2;have hop: ∀ {o' p'},(if(o',p')=(o,p)then none else some (o',p'))=(none:Option (Nat×AO))->o'=o/\p'=p:=fun {o' p'} h1=>by
     by_cases hop:(o',p')=(o,p)
     ·cases hop;exact⟨rfl,rfl⟩
     ·rw[if_neg hop]at h1;cases h1
    obtain⟨rfl,rfl⟩:=hop h1;obtain⟨k1,r1,_,hb⟩:=E7 h2;refine⟨hb,fun o2 p2 g1 _=> ?_⟩;obtain⟨rfl,rfl⟩:=hop g1;exact⟨rfl,rfl⟩
   ·intro b hb;have:=hR.mem.own (.nd o p) b (Ae (By h0 p ▸ hn) hb);exact⟨by simp only[e',hsz];exact this.1,this.2⟩
   ·intro o1 cs hb;obtain⟨ho,cs0,g1,g2⟩:=hbox hb;refine .inl ⟨cs0,g1,rfl,(hR.mem.own _ _ (Ad g1)).2.2,fun h=> ?_⟩;have:=hbn (Ad g1) h
    cases this
   ·intro o1 cs hb j c hc;obtain⟨ho,cs0,g1,g2⟩:=hbox hb;subst g2;rw[BR,List.getElem?_map]at hc
    cases hx:cs0[j]? with
    |none=>simp[hx]at hc
    |some x=>
     simp[hx]at hc;subst hc;obtain⟨q1,u,q2,q3⟩:=hR.mem.box o1 cs0 g1 j x hx;have hb2:w'.heap[e.bk o1]? =e.w.heap[e.bk o1]? :=hw _ fun h=>by
      have:=hbn (Ad g1) h
      cases this
     exact⟨q1.congr hb2,u,by rw[←q2];exact Bt hb2,q3.sub hC⟩
   ·simp only[e',hsz];exact Nat.le_refl _
  exact hR.mem.asm hA (fun x hx=>⟨by have:=(hR.mem.im x hx).1;simp only[e',hsz];exact this,(hR.mem.im x hx).2⟩) hR.mem.im0 hk
 ·rw[Cc,A6]
  by_cases h:o'=o
  ·simp[e',h,Obj.sub]
  ·simp[e',h,hR.ob]
 ·by_cases h:o'=o
  ·subst h;exact hR.pinh o' k0 rows0 h1 h0
  ·simp only[e',if_neg h]at h2
   exact hR.pinh o' k' r' h1 (Obj.sub_arr.1 h2)
 ·obtain⟨ho,cs0,g1,g2⟩:=hbox h2
  exact hR.pinb o' cs0 h1 g1
 ·rw[FS]
  exact(hR.tm t).sub hC
end
section
variable {P:Program} {fm:Fm} {M:List Nat} {e e':Env} {s s':St} {a:Act} {Q:Exit->Act->World->Prop}
theorem cell_lt {k i j i' j' n:Nat} (hj':j'<k) (hj:j+n<=k) (h1:i*k+j<=i'*k+j') (h2:i'*k+j'<i*k+j+n):i'=i/\j<=j'/\j'<j+n:=by
 have hi:i'=i:=by
  rcases Nat.lt_trichotomy i' i with h|h|h
  ·have:(i'+1)*k<=i*k:=Nat.mul_le_mul_right _ h;rw[Nat.add_mul]at this;omega
  ·exact h
  ·have:(i+1)*k<=i'*k:=Nat.mul_le_mul_right _ h;rw[Nat.add_mul]at this;omega
 subst hi;exact⟨rfl,by omega,by omega⟩
theorem Dc {c k i j:Nat} (hi:i<c) (hj:j<k):i*k+j<c*k:=by
 have:(i+1)*k<=c*k:=Nat.mul_le_mul_right _ hi;rw[Nat.add_mul]at this;omega
theorem bare_ok (hM:Mem fm e) {x:AV} {u:Value} (hx:AS e x u) (h1:oneCell x=true) (y:Value):CA (IY x) u y:=by
 have:=(Dr hM hx h1).2
 cases hx with
 |sc v hs=>exact⟨rfl,hs⟩
 |_=>exact this
theorem Jw {l:List T} (h:Fd l=true) {d:T} (hd:d∈l): ∀k r,d≠ .sl k r:=by
 induction l with
 |nil=>cases hd
 |cons x l ih=>
  cases x with
  |sc v=>
   simp only[Fd]at h;rcases List.mem_cons.1 hd with rfl|h2
   ·intro k r;simp
   ·exact ih h h2
  |hole=>
   simp only[Fd]at h;rcases List.mem_cons.1 hd with rfl|h2
   ·intro k r;simp
   ·exact ih h h2
  |sl k r=>simp[Fd]at h
theorem bare_sl (x:AV) (k:Nat) (r:List (List T)):IY x≠ .sl k r:=by cases x<;>simp[IY]
theorem AE {α:Type} {l:List α} {i:Nat} (h:i<l.length): ∃x,l[i]? =some x:=⟨l[i],List.getElem?_eq_getElem h⟩
theorem Ov (hR:Rel fm e s a) {o i j k b off n c:Nat} {p:AO} {rows:List (List T)} {vs:List AV} {us:List Value} (hn:e.node o p=some (k,rows))
  (hh:e.hd o p= .slice (some ⟨b,off,none⟩) n c) (hc:0<c) (hl:vs.length=us.length) (h1:vs.all oneCell=true)
  (hv: ∀ (m:Nat) x u,vs[m]? =some x->us[m]? =some u->AS e x u) (h:s.write o p i j vs=some s') {w':World} (hst:Bl e.w w' b (off+(i*k+j)) us):
  ∃e',e'.w=w'/\e'.hd=e.hd/\Rel fm e' s' a/\(Bm e e' fun o p=>some (o,p))/\ ∀M,o∈M->Evo e e' M:=by
 obtain⟨k0,rows0,h0,hn0⟩:=EW hn
 unfold St.write at h
 rw[←hR.ob o,h0]at h
 simp only[hn0]at h
 split at h
 ·rename_i r hr
  split at h
  ·rename_i hle
   obtain⟨hle,hsc⟩:=hle
   split at h
   ·rename_i r1 hset
    cases h
    obtain⟨ad,c',hv',hlc,hx⟩:=hR.mem.node o p k rows hn
    rw[hh]at hv'
    cases hv'
    obtain⟨b',off',hb',hwr,hk,hcell⟩:=hx hc
    cases hb'
    have hrk:r.length=k:=hk r (List.mem_of_getElem? hr)
    have hi:i<rows.length:=(List.getElem?_eq_some_iff.1 hr).1
    have hml:(vs.map IY).length=vs.length:=List.length_map _
    have hrange: ∀i' j',AM (rows.set i (Az r j (vs.map IY))) i' j'=if i'=i/\j<=j'/\j'<j+vs.length then(vs.map IY)[j' - j]? else AM rows i' j':=by
     intro i' j';rw[Ma hr];by_cases e1:i'=i
     ·subst e1;rw[if_pos rfl,C3 r j _ (by rw[hml];exact hle),hml,Bp hr];by_cases e2:j<=j'/\j'<j+vs.length
      ·rw[if_pos e2,if_pos ⟨rfl,e2.1,e2.2⟩]
      ·rw[if_neg e2,if_neg (fun h=>e2 h.2)]
     ·rw[if_neg e1,if_neg (fun h=>e1 h.1)]
    have hold: ∀j' d,j<=j'->j'<j+vs.length->r[j']? =some d-> ∀k1 r1,d≠ .sl k1 r1:=by
     intro j' d g1 g2 g3;refine Jw hsc (List.mem_of_getElem? (i:=j' - j) ?_);rw[List.getElem?_take,if_pos (by omega),List.getElem?_drop,show j+(j' - j)=j' by omega];exact g3
    have hiff: ∀i' j' k1 r1',AM (rows.set i (Az r j (vs.map IY))) i' j'=some (.sl k1 r1')<->AM rows i' j'=some (.sl k1 r1'):=by
     intro i' j' k1 r1';rw[hrange];by_cases e1:i'=i/\j<=j'/\j'<j+vs.length
     ·rw[if_pos e1];obtain⟨rfl,g1,g2⟩:=e1;constructor
      ·intro h;rw[List.getElem?_map]at h;obtain⟨x,hx⟩:=AE (l:=vs) (i:=j' - j) (by omega);rw[hx]at h;simp at h;exact absurd h (bare_sl x k1 r1')
      ·intro h;rw[Bp hr]at h;exact absurd rfl (hold j' _ g1 g2 h k1 r1')
     ·rw[if_neg e1]
    have hnew:Bu w' (e.hd o p) k (rows.set i (Az r j (vs.map IY))) (fun i j=>e.hd o (p++[(i,j)])):=by
     refine⟨_,c,by rw[hh,List.length_set],by rw[List.length_set];exact hlc,fun _=>⟨b,off,rfl,fun x hx=>hst.wr (hwr x hx),fun r' hr'=> ?_,fun i' j' d hd=> ?_⟩⟩
     ·rcases List.mem_or_eq_of_mem_set hr' with h|rfl
      ·exact hk r' h
      ·rw[Di r j _ (by rw[hml];exact hle)];exact hrk
     ·rw[hrange]at hd;by_cases e1:i'=i/\j<=j'/\j'<j+vs.length
      ·rw[if_pos e1]at hd;obtain⟨rfl,g1,g2⟩:=e1;obtain⟨x,hx⟩:=AE (l:=vs) (i:=j' - j) (by omega);obtain⟨u,hu⟩:=AE (l:=us) (i:=j' - j) (by omega);rw[List.getElem?_map,hx]at hd;simp at hd;subst hd;refine⟨u,?_,bare_ok hR.mem (hv _ x u hx hu) (List.all_eq_true.1 h1 x (List.mem_of_getElem? hx)) _⟩;have:=hst.new hu (by
        rw[show off+(i'*k+j)+(j' - j)=off+(i'*k+j')by omega];exact hwr _ (Dc (Nat.lt_of_lt_of_le hi hlc) (by omega)))
       rwa [show off+(i'*k+j)+(j' - j)=off+(i'*k+j')by omega]at this
      ·rw[if_neg e1]at hd;obtain⟨u,hu,hok⟩:=hcell i' j' d hd;refine⟨u,?_,hok⟩;rw[hst.same fun hin=>e1 (cell_lt (k:=k) (i:=i) (j:=j) (i':=i') (j':=j') (n:=vs.length) ?_ (by omega) (by omega) (by omega))]
       ·exact hu
       ·obtain⟨r2,hr2,hd2⟩:=AY hd;have:=hk r2 (List.mem_of_getElem? hr2);have:=(List.getElem?_eq_some_iff.1 hd2).1;omega
    have hbk:BG (e.hd o p)=some b:=by rw[hh];simp[BG,hc]
    obtain⟨q1,q2,q3⟩:=hR.mem.own (.nd o p) b (Ae hn hbk)
    obtain⟨e',g1,g2,g3,g4,g5⟩:=LE (f:=fun o p=>some (o,p)) hR h0 hn0 hset (by simp) (fun i' j' k1 r1' h=>(hiff i' j' k1 r1').1 h) (.inl ⟨rfl,fun i' j' k1 r1' h=>(hiff i' j' k1 r1').2 h⟩)
     (fun x hx=>hst.other x (fun h=>hx (h ▸ hbk))) (hR.mem.keeps.stored hst q2) hst.size hnew
    rw[St.sub_id]at g3
    exact⟨e',g1,g2,g3,g4,g5⟩
   ·cases h
  ·cases h
 ·cases h
end
section
variable {P:Program} {fm:Fm} {M:List Nat} {e e':Env} {s s':St} {a:Act} {Q:Exit->Act->World->Prop}
theorem Kf (hM:Mem fm e) (hw:e'.w=e.w) (hI:e'.Im=e.Im) (src:Nat->AO->Option (Nat×AO)) (bsrc:Nat->Nat)
  (nodes: ∀o' q k r,e'.node o' q=some (k,r)->Bu e.w (e'.hd o' q) k r (fun i j=>e'.hd o' (q++[(i,j)]))/\
   ∀b,BG (e'.hd o' q)=some b-> ∃x:Nat×AO,src o' q=some x/\e.blk (.nd x.1 x.2)=some b)
  (inj: ∀o1 q1 o2 q2 x,src o1 q1=some x->src o2 q2=some x->(e'.node o1 q1).isSome->(e'.node o2 q2).isSome->o1=o2/\q1=q2)
  (boxes: ∀o' cs,e'.ob o'= .box cs-> ∃cs0,e.ob (bsrc o')= .box cs0/\e'.bk o'=e.bk (bsrc o')/\
   ∀ (j:Nat) c,cs[j]? =some c-> ∃c0,cs0[j]? =some c0/\ ∀u,AS e c0 u->AS e' c u)
  (binj: ∀o1 o2 cs1 cs2,e'.ob o1= .box cs1->e'.ob o2= .box cs2->bsrc o1=bsrc o2->o1=o2) (htk:e'.tk=e.tk:=by rfl):Mem fm e'/\
   ∀l b,e'.blk l=some b-> ∃l0,e.blk l0=some b/\(∀o q,l= .nd o q-> ∃x,src o q=some x/\l0= .nd x.1 x.2)/\ ∀o,l= .bx o->l0= .bx (bsrc o):=by
 have blk: ∀l b,e'.blk l=some b-> ∃l0,e.blk l0=some b/\(∀o q,l= .nd o q-> ∃x,src o q=some x/\l0= .nd x.1 x.2/\(e'.node o q).isSome)/\
   ∀o,l= .bx o->l0= .bx (bsrc o)/\ ∃cs,e'.ob o= .box cs:=by
  intro l b hb
  cases l with
  |nd o q=>
   obtain⟨k,r,hn,hb'⟩:=E7 hb;obtain⟨x,hx,hxb⟩:=(nodes o q k r hn).2 b hb';exact⟨.nd x.1 x.2,hxb,fun o1 q1 h=>(by cases h;exact⟨x,hx,rfl,by rw[hn];rfl⟩),fun o1 h=>(by cases h)⟩
  |bx o=>
   obtain⟨cs,hcs,rfl⟩:=Ds hb;obtain⟨cs0,h1,h2,_⟩:=boxes o cs hcs;exact⟨.bx (bsrc o),by rw[h2];exact Ad h1,fun o1 q1 h=>(by cases h),fun o1 h=>(by cases h;exact⟨rfl,cs,hcs⟩)⟩
 refine⟨⟨fun o cs hb j c hc=> ?_,fun o q k r hn=> ?_,fun l l' b h h'=> ?_,fun l b h=> ?_,?_,?_,?_,htk.trans hM.tk⟩,fun l b h=>(blk l b h).imp fun l0 h=>⟨h.1,fun o q hl=>(h.2.1 o q hl).imp fun x hx=>⟨hx.1,hx.2.1⟩,fun o hl=>(h.2.2 o hl).1⟩⟩
 ·obtain⟨cs0,h1,h2,h3⟩:=boxes o cs hb
  obtain⟨c0,h4,h5⟩:=h3 j c hc
  obtain⟨g1,u,g2,g3⟩:=hM.box _ cs0 h1 j c0 h4
  rw[hw,h2]
  exact⟨g1,u,g2,h5 u g3⟩
 ·rw[hw];exact(nodes o q k r hn).1
 ·obtain⟨l0,g1,g2,g3⟩:=blk l b h
  obtain⟨l0',g1',g2',g3'⟩:=blk l' b h'
  have heq:=hM.inj _ _ _ g1 g1'
  cases l with
  |nd o q=>
   obtain⟨x,hx,rfl,hs⟩:=g2 o q rfl
   cases l' with
   |nd o' q'=>
    obtain⟨x',hx',rfl,hs'⟩:=g2' o' q' rfl;have:x=x':=by
     obtain⟨x1,x2⟩:=x;obtain⟨y1,y2⟩:=x';simp only[Pl.nd.injEq]at heq;rw[heq.1,heq.2]
    subst this;obtain⟨rfl,rfl⟩:=inj o q o' q' x hx hx' hs hs';rfl
   |bx o'=>
    obtain⟨rfl,_⟩:=g3' o' rfl
    cases heq
  |bx o=>
   obtain⟨rfl,cs,hcs⟩:=g3 o rfl
   cases l' with
   |nd o' q'=>
    obtain⟨x',hx',rfl,hs'⟩:=g2' o' q' rfl
    cases heq
   |bx o'=>
    obtain⟨rfl,cs',hcs'⟩:=g3' o' rfl;simp only[Pl.bx.injEq]at heq;rw[binj o o' cs cs' hcs hcs' heq]
 ·obtain⟨l0,g1,_⟩:=blk l b h
  rw[hw,hI]
  exact hM.own _ b g1
 ·rw[hw,hI];exact hM.im
 ·rw[hI];exact hM.im0
 ·rw[hw];exact hM.keeps
theorem Bu.subs {w:World} {v:Value} {k:Nat} {rows:List (List T)} {sub sub':Nat->Nat->Value} (h:Bu w v k rows sub) (hs: ∀i j,sub' i j=sub i j):Bu w v k rows sub':=by
 have:sub'=sub:=by funext i j;exact hs i j
 rw[this];exact h
def Mn:Option T->Option T->Prop
 |none,none=>True
 |some (.sc v),some (.sc u)=>v=u
 |some (.sl _ _),some (.sl _ _)=>True
 |some _,some .hole=>True
 |_,_=>False
theorem Mn.refl (d:Option T):Mn d d:=by
 cases d with
 |none=>trivial
 |some d=>cases d<;>simp[Mn]
structure D4 (r r':List (List T)):Prop where
 len:r'.length=r.length
 row: ∀ (i:Nat) (x:List T),r[i]? =some x-> ∃y:List T,r'[i]? =some y/\y.length=x.length
 cell: ∀i j,Mn (AM r i j) (AM r' i j)
theorem D4.refl (r:List (List T)):D4 r r:=⟨rfl,fun _ x h=>⟨x,h,rfl⟩,fun _ _=>Mn.refl _⟩
theorem ED.less {r r':List (List T)} (h:ED r r'):D4 r r':=by
 refine⟨h.len,h.row,fun i j=> ?_⟩;have:=h.cell i j
 cases hx:AM r i j with
 |none=>
  cases hy:AM r' i j with
  |none=>trivial
  |some y=>rw[hx,hy]at this;exact this.elim
 |some x=>
  cases hy:AM r' i j with
  |none=>rw[hx,hy]at this;cases x<;>exact this.elim
  |some y=>rw[hx,hy]at this;cases x<;>cases y<;>simp_all[Kin,Mn]
theorem D4.setAt_hole {rows:List (List T)} {i j:Nat} {d:T} (h:AM rows i j=some d):D4 rows (DI rows i j .hole):=by
 obtain⟨r,hr,hd⟩:=AY h;have hi:i<rows.length:=(List.getElem?_eq_some_iff.1 hr).1;refine⟨by unfold DI;rw[hr];simp,fun i' x hx=> ?_,fun i' j'=> ?_⟩
 ·unfold DI;rw[hr];by_cases e:i'=i
  ·subst e;rw[hr]at hx
   cases hx
   exact⟨r.set j .hole,by simp[hi],by simp⟩
  ·exact⟨x,by simp only[];rw[List.getElem?_set_ne (fun h=>e h.symm)];exact hx,rfl⟩
 ·rw[BH h];by_cases e:i'=i/\j'=j
  ·obtain⟨rfl,rfl⟩:=e;rw[if_pos ⟨rfl,rfl⟩,h];cases d<;>simp[Mn]
  ·rw[if_neg e];exact Mn.refl _
theorem Bu.less {w:World} {v:Value} {k:Nat} {rows rows':List (List T)} {sub sub':Nat->Nat->Value} (h:Bu w v k rows sub) (hk:D4 rows rows')
  (hone: ∀i j k1 r1,AM rows i j=some (.sl k1 r1)->(sub i j).oneCell'=true)
  (hs: ∀i j k1 r1,AM rows' i j=some (.sl k1 r1)->sub' i j=sub i j):Bu w v k rows' sub':=by
 obtain⟨ad,c,rfl,hle,hx⟩:=h
 refine⟨ad,c,by rw[hk.len],by rw[hk.len];exact hle,fun hc=> ?_⟩
 obtain⟨b,off,rfl,h1,h2,h3⟩:=hx hc
 refine⟨b,off,rfl,h1,fun r hr=> ?_,fun i j d hd=> ?_⟩
 ·obtain⟨i,hi⟩:=List.mem_iff_getElem?.1 hr
  have hlt:i<rows.length:=by rw[←hk.len];exact(List.getElem?_eq_some_iff.1 hi).1
  obtain⟨y,hy,hl⟩:=hk.row i rows[i] (List.getElem?_eq_getElem hlt)
  rw[hi]at hy
  cases hy
  rw[hl]
  exact h2 _ (List.getElem_mem hlt)
 ·have hkin:=hk.cell i j
  rw[hd]at hkin
  cases hd0:AM rows i j with
  |none=>rw[hd0]at hkin;exact hkin.elim
  |some d0=>
   rw[hd0]at hkin;obtain⟨u,hu,hok⟩:=h3 i j d0 hd0;refine⟨u,hu,?_⟩
   cases d with
   |sc v=>
    cases d0 with
    |sc v0=>simp only[Mn]at hkin;subst hkin;exact hok
    |sl k0 r0=>exact hkin.elim
    |hole=>exact hkin.elim
   |sl k1 r1=>
    cases d0 with
    |sc v0=>exact hkin.elim
    |sl k0 r0=>simp only[CA]at hok ⊢;rw[hs i j _ _ hd];exact hok
    |hole=>exact hkin.elim
   |hole=>
    cases d0 with
    |sc v0=>
     obtain⟨rfl,hv⟩:=hok
     cases u<;>first|rfl|(simp[Dn]at hv)
    |sl k0 r0=>simp only[CA]at hok;rw[hok];exact hone i j k0 r0 hd0
    |hole=>exact hok
theorem Bu.window {w:World} {hv v:Value} {k lo hi:Nat} {rows:List (List T)} {sub:Nat->Nat->Value} (h:Bu w hv k rows sub) (hw:Fe hv k lo hi v)
  (h1:lo<=hi) (h2:hi<=rows.length):Bu w v k (Ow.window rows lo hi) (fun i j=>sub (lo+i) j):=by
 obtain⟨a,n,c,a',c',rfl,rfl,hc',hx⟩:=hw
 obtain⟨ad,c2,hv,hle,hy⟩:=h
 cases hv
 have hlen:(Ow.window rows lo hi).length=hi - lo:=by unfold Ow.window;simp;omega
 refine⟨a',c',by rw[hlen],by rw[hlen];exact hc',fun h0=> ?_⟩
 obtain⟨hcc,rfl⟩:=hx h0
 obtain⟨b,off,rfl,g1,g2,g3⟩:=hy (by omega)
 refine⟨b,off+lo*k,by simp[Bg],fun x hx=> ?_,fun r hr=>g2 r (Lf hr),fun i j d hd=> ?_⟩
 ·rw[show off+lo*k+x=off+(lo*k+x)by omega]
  refine g1 _ ?_
  have:(lo+c')*k<=c*k:=Nat.mul_le_mul_right _ hcc
  rw[Nat.add_mul]at this
  omega
 ·obtain⟨u,hu,hok⟩:=g3 (lo+i) j d (Cy _ _ _ _ _ hd)
  refine⟨u,?_,hok⟩
  rw[←hu]
  congr 2
  rw[Nat.add_mul];omega
theorem Fe.blk {hv v:Value} {k lo hi:Nat} (hw:Fe hv k lo hi v) {b:Nat} (h:BG v=some b):BG hv=some b:=by
 obtain⟨a,n,c,a',c',rfl,rfl,hc',hx⟩:=hw;unfold BG at h;split at h
 ·rename_i ad n2 c2 heq
  cases heq
  split at h
  ·rename_i h0
   cases h
   obtain⟨hcc,ha⟩:=hx h0
   cases a with
   |none=>cases ha
   |some a=>
    simp only[Option.map_some,Option.some.injEq]at ha;subst ha;have:(a.add (lo*k)).block=a.block:=by unfold Addr.add;split<;>rfl
    simp only[BG];rw[if_pos (by omega),this]
  ·cases h
 ·cases h
theorem Fe.full {v:Value} {k n:Nat} (h: ∃a c,v= .slice a n c/\n<=c):Fe v k 0 n v:=by
 obtain⟨a,c,rfl,hle⟩:=h;refine⟨a,n,c,a,c,rfl,by simp,by simpa using hle,fun _=>⟨by omega,?_⟩⟩;rw[Nat.zero_mul]
 cases a with
 |none=>rfl
 |some a=>simp[Addr.add]
end
section
variable {P:Program} {fm:Fm} {M:List Nat} {e e':Env} {s s':St} {a:Act} {Q:Exit->Act->World->Prop}
def FA:Option (Nat×List (List T))->Option (Nat×List (List T))->Prop
 |none,none=>True
 |some (k,r),some (k',r')=>k=k'/\D4 r r'
 |_,_=>False
theorem FA.refl (x:Option (Nat×List (List T))):FA x x:=by
 cases x with
 |none=>trivial
 |some x=>exact⟨rfl,D4.refl _⟩
theorem FA.some_r {x:Option (Nat×List (List T))} {k:Nat} {r:List (List T)} (h:FA x (some (k,r))): ∃r0,x=some (k,r0)/\D4 r0 r:=by
 cases x with
 |none=>exact h.elim
 |some y=>obtain⟨k',r'⟩:=y;obtain⟨rfl,h2⟩:=h;exact⟨r',rfl,h2⟩
theorem FA.some_l {y:Option (Nat×List (List T))} {k:Nat} {r:List (List T)} (h:FA (some (k,r)) y): ∃r1,y=some (k,r1)/\D4 r r1:=by
 cases y with
 |none=>exact h.elim
 |some y=>obtain⟨k',r'⟩:=y;obtain⟨rfl,h2⟩:=h;exact⟨r',rfl,h2⟩
theorem MS {rows0 r0:List (List T)} {i j:Nat} {p:AO} (h:Hq rows0 ((i,j)::p)=some r0):
  ∃k' rows',AM rows0 i j=some (.sl k' rows')/\((p=[]/\r0=DI rows0 i j .hole)\/ ∃r,p≠[]/\Hq rows' p=some r/\r0=DI rows0 i j (.sl k' r)):=by
 unfold Hq at h
 split at h
 ·rename_i k' rows' hc
  refine⟨k',rows',hc,?_⟩
  cases p with
  |nil=>simp at h;exact .inl ⟨rfl,h.symm⟩
  |cons b p=>
   simp only at h;split at h
   ·rename_i r hr;cases h;exact .inr ⟨r,by simp,hr,rfl⟩
   ·cases h
 ·cases h
theorem P6 {k0:Nat} {rows0 r0:List (List T)} {p:AO} (h:Hq rows0 p=some r0) (q:AO):AN k0 r0 (p++q)=none:=by
 induction p generalizing k0 rows0 r0 with
 |nil=>simp[Hq]at h
 |cons b p ih=>
  obtain⟨i,j⟩:=b;obtain⟨k',rows',hc,⟨rfl,rfl⟩|⟨r,hp,hr,rfl⟩⟩:=MS h
  ·simp only[List.cons_append,AN,BH hc,and_self,if_true]
  ·simp only[List.cons_append,AN,BH hc,and_self,if_true];exact ih hr
theorem P7 {k0:Nat} {rows0 r0:List (List T)} {p:AO} (h:Hq rows0 p=some r0) (q:AO) (hq:pre p q=none):FA (AN k0 rows0 q) (AN k0 r0 q):=by
 induction p generalizing k0 rows0 r0 q with
 |nil=>simp[pre]at hq
 |cons b p ih=>
  obtain⟨i,j⟩:=b;obtain⟨k',rows',hc,hcase⟩:=MS h
  cases q with
  |nil=>
   rcases hcase with ⟨rfl,rfl⟩|⟨r,hp,hr,rfl⟩
   ·exact⟨rfl,D4.setAt_hole hc⟩
   ·exact⟨rfl,(ED.setAt_own hc).less⟩
  |cons c q=>
   obtain⟨i',j'⟩:=c;rcases hcase with ⟨rfl,rfl⟩|⟨r,hp,hr,rfl⟩
   ·simp only[AN,BH hc];by_cases e:i'=i/\j'=j
    ·obtain⟨rfl,rfl⟩:=e;simp[pre]at hq
    ·rw[if_neg e];exact FA.refl _
   ·simp only[AN,BH hc];by_cases e:i'=i/\j'=j
    ·obtain⟨rfl,rfl⟩:=e;simp only[pre,if_true]at hq;simp only[and_self,if_true,hc];exact ih hr q hq
    ·rw[if_neg e];exact FA.refl _
def shift (lo:Nat):AO->AO
 |[]=>[]
 |(i,j)::r=>(lo+i,j)::r
theorem SO {lo:Nat} {q q':AO} (h:shift lo q=shift lo q'):q=q':=by
 cases q with
 |nil=>cases q' with
  |nil=>rfl
  |cons b q'=>simp[shift]at h
 |cons b q=>cases q' with
  |nil=>simp[shift]at h
  |cons b' q'=>
   obtain⟨i,j⟩:=b;obtain⟨i',j'⟩:=b';simp[shift]at h ⊢;omega
theorem N3 (lo:Nat) {q:AO} (b:Nat×Nat) (r:AO):shift lo (b::q++r)=shift lo (b::q)++r:=by simp[shift]
theorem Hf {k:Nat} {rows:List (List T)} {lo hi:Nat} {b:Nat×Nat} {q:AO} {x:Nat×List (List T)} (h:AN k (Ow.window rows lo hi) (b::q)=some x):
  AN k rows (shift lo (b::q))=some x:=by
 obtain⟨i,j⟩:=b
 simp only[AN,shift]at h ⊢
 split at h
 ·rename_i k' r' hc
  rw[Cy _ _ _ _ _ hc];exact h
 ·cases h
theorem Gd {k:Nat} {rows:List (List T)} {lo hi i j:Nat} {q:AO} (h1:lo<=i) (h2:i<hi):
  AN k (Ow.window rows lo hi) ((i - lo,j)::q)=AN k rows ((i,j)::q):=by
 have:AM (Ow.window rows lo hi) (i - lo) j=AM rows i j:=by
  unfold AM Ow.window;rw[List.getElem?_drop,List.getElem?_take,if_pos (by omega),show lo+(i - lo)=i by omega]
 simp only[AN,this]
theorem En {α:Type} (l:List α):Ow.window l 0 l.length=l:=by simp[Ow.window]
theorem Fu (h:Ao) (f:Nat->AO->Option (Nat×AO)):(h.sub f).s=h.s.sub f:=rfl
theorem hand_sub_l (h:Ao) (f:Nat->AO->Option (Nat×AO)):(h.sub f).l=Bv f h.l:=rfl
def Rr (e:Env) (o:Nat) (p:AO) (lo:Nat) (v:Value):AO->Value
 |[]=>v
 |b::r=>e.hd o (p++shift lo (b::r))
theorem RD {h h':Ao} (hR:Rel fm e h.s a) {n o k lo hi:Nat} {p:AO} {full:Bool} {rows:List (List T)} (hc:h.cut n o p lo hi full=some h') (hn:e.node o p=some (k,rows))
  {v:Value} (hw:Fe (e.hd o p) k lo hi v) (hfull:full=true->lo=0/\hi=rows.length/\v=e.hd o p):
  ∃e',e'.w=e.w/\e'.Im=e.Im/\Rel fm e' h'.s a/\Bm e e' (EM o p n lo hi full)/\AS e' (.ref n []) v/\h'.l=Bv (EM o p n lo hi full) h.l/\h'.s.n=h.s.n/\h'.s.m=h.s.m/\
   ∀l b,e'.blk l=some b-> ∃l0,e.blk l0=some b/\l0.obj=if l.obj=n then o else l.obj:=by
 unfold Ao.cut at hc
 split at hc
 case h_2=>cases hc
 rename_i hnn
 obtain⟨k0,rows0,h0,hn0⟩:=EW hn
 rw[←hR.ob o,h0]at hc
 simp only[hn0]at hc
 split at hc
 case isFalse=>cases hc
 rename_i hle
 obtain⟨hle1,hle2,hnm⟩:=hle
 have hwin:(if full then rows else Ow.window rows lo hi)=Ow.window rows lo hi:=by
  cases full with
  |false=>rfl
  |true=>obtain⟨rfl,rfl,_⟩:=hfull rfl;simp[En]
 rw[hwin]at hc
 have hon:o≠n:=fun h1=>by rw[←h1,←hR.ob o,h0]at hnn;cases hnn
 have hen:e.ob n= .none:=by rw[hR.ob];exact hnn
 obtain⟨X,hX,hXs⟩: ∃X:Obj,((p=[]/\X= .none)\/ ∃r0,p≠[]/\Hq rows0 p=some r0/\X= .arr k0 r0)/\
   h'.s.n=h.s.n/\h'.s.m=h.s.m/\h'.l=Bv (EM o p n lo hi full) h.l/\(∀t,At h'.s.tm t=(At h.s.tm t).sub (EM o p n lo hi full))/\
   ∀o',AR h'.s.ob o'=(if o'=n then .arr k (Ow.window rows lo hi)else if o'=o then X else AR h.s.ob o').sub (EM o p n lo hi full):=by
  cases p with
  |nil=>
   simp only[Option.some.injEq]at hc;subst hc;refine⟨.none,.inl ⟨rfl,rfl⟩,rfl,rfl,rfl,fun t=>by rw[Fu,FS];rfl,fun o'=> ?_⟩;rw[Fu,Cc,A6];congr 1;by_cases e1:o'=n
   ·simp[e1]
   ·rw[if_neg e1,if_neg e1,St.gone,Cw]
  |cons b p=>
   simp only at hc;split at hc
   case h_2=>cases hc
   rename_i r0 hr0;simp only[Option.some.injEq]at hc;subst hc;refine⟨.arr k0 r0,.inr ⟨r0,by simp,hr0,rfl⟩,rfl,rfl,rfl,fun t=>by rw[Fu,FS];rfl,fun o'=> ?_⟩;rw[Fu,Cc,A6,A6]
 obtain⟨hsn,hsm,hl,htm,hobs⟩:=hXs
 let f:=EM o p n lo hi full
 let e':Env:={w:=e.w,ob:=fun o'=>(if o'=n then .arr k (Ow.window rows lo hi)else if o'=o then X else e.ob o').sub f,hd:=fun o' q=>if o'=n then Rr e o p lo v q else e.hd o' q,bk:=e.bk,Im:=e.Im,tk:=e.tk}
 have hnode_n: ∀q,e'.node n q=AN k (Ow.window rows lo hi) q:=fun q=>by simp[Env.node,e',Obj.sub]
 have hnode_o: ∀q,e'.node o q=(match X with
   | .arr k1 r1=>AN k1 r1 q
   |_=>none):=fun q=>by
  unfold Env.node
  simp only[e',if_neg hon,if_true]
  cases X<;>rfl
 have hnode_x: ∀o',o'≠n->o'≠o-> ∀q,e'.node o' q=e.node o' q:=fun o' h1 h2 q=>by
  unfold Env.node;simp only[e',if_neg h1,if_neg h2];exact HI
 have heq0: ∀q,e.node o q=AN k0 rows0 q:=fun q=>By h0 q
 have hunder: ∀q,e'.node o (p++q)=none:=fun q=>by
  rw[hnode_o];rcases hX with ⟨_,rfl⟩|⟨r0,hp,hr0,rfl⟩
  ·rfl
  ·exact P6 hr0 q
 have hbeside: ∀q,pre p q=none->FA (e.node o q) (e'.node o q):=fun q hq=>by
  rcases hX with ⟨rfl,_⟩|⟨r0,hp,hr0,rfl⟩
  ·simp[pre]at hq
  ·rw[hnode_o,heq0];exact P7 hr0 q hq
 have hbox: ∀ {o1 cs},e'.ob o1= .box cs-> ∃cs0,e.ob o1= .box cs0/\cs=Bv f cs0:=fun {o1 cs} h=>by
  simp only[e']at h;obtain⟨cs0,g1,g2⟩:=Obj.sub_box.1 h;by_cases h1:o1=n
  ·simp[h1]at g1
  ·rw[if_neg h1]at g1;by_cases h2:o1=o
   ·rw[if_pos h2]at g1;rcases hX with ⟨_,rfl⟩|⟨r0,_,_,rfl⟩<;>cases g1
   ·rw[if_neg h2]at g1;exact⟨cs0,g1,g2⟩
 have hhn: ∀b r,e'.hd n (b::r)=e.hd o (p++shift lo (b::r)):=fun b r=>by simp[e',Rr]
 have hhn0:e'.hd n []=v:=by simp[e',Rr]
 have hhx: ∀o',o'≠n-> ∀q,e'.hd o' q=e.hd o' q:=fun o' h q=>by simp[e',h]
 have hC:Bm e e' f:=by
  refine⟨fun b hb=>⟨hb,rfl⟩,fun o1 p1 k1 r1 o' p' h1 hf=> ?_,fun o1 cs hb=> ?_,fun o1 p1 k1 r1 h1=>(hR.mem.node o1 p1 k1 r1 h1).one,rfl⟩
  ·by_cases ho:o1=o
   ·subst ho;simp only[f,EM,if_true]at hf
    cases hp:pre p p1 with
    |none=>
     simp only[hp]at hf
     cases hf
     have:=hbeside p1 hp;rw[h1]at this;obtain⟨r2,g1,g2⟩:=this.some_l;exact⟨r2,g1,g2.len,hhx _ hon _⟩
    |some r=>
     have hpp:=Cv.1 hp;subst hpp;simp only[hp]at hf;rw[heq0,A9,hn0]at h1
     cases r with
     |nil=>
      simp only[AN,Option.some.injEq,Prod.mk.injEq]at h1;obtain⟨rfl,rfl⟩:=h1;simp only at hf;split at hf
      ·rename_i hfl
       cases hf
       obtain⟨rfl,rfl,hv⟩:=hfull hfl;refine⟨rows,?_,rfl,?_⟩
       ·rw[hnode_n,En];rfl
       ·rw[hhn0,hv,List.append_nil]
      ·cases hf
     |cons b r=>
      obtain⟨i,j⟩:=b;simp only at hf;split at hf
      ·rename_i hfl
       cases hf
       obtain⟨rfl,rfl,hv⟩:=hfull hfl;refine⟨r1,?_,rfl,?_⟩
       ·rw[hnode_n,En];exact h1
       ·rw[hhn];simp[shift]
      ·split at hf
       ·rename_i hlo
        cases hf
        refine⟨r1,?_,rfl,?_⟩
        ·rw[hnode_n,Gd hlo.1 hlo.2];exact h1
        ·rw[hhn];simp only[shift];rw[show lo+(i - lo)=i by omega]
       ·cases hf
   ·simp only[f,EM,if_neg ho]at hf
    cases hf
    have hne:o1≠n:=fun h2=>by rw[h2]at h1;simp[Env.node,hen]at h1
    exact⟨r1,by rw[hnode_x o1 hne ho];exact h1,rfl,hhx _ hne _⟩
  ·have hne:o1≠n:=fun h2=>by rw[h2,hen]at hb;cases hb
   have ho:o1≠o:=fun h2=>by rw[h2,h0]at hb;cases hb
   exact⟨Bv f cs,by simp[e',hne,ho,hb,Obj.sub],rfl⟩
 have hself:AS e' (.ref n []) v:=by
  have:=AS.ref (e:=e') n [] k (Ow.window rows lo hi) (by rw[hnode_n];rfl);rwa [hhn0]at this
 have hreg:Mem fm e'/\ ∀l b,e'.blk l=some b-> ∃l0,e.blk l0=some b/\l0.obj=if l.obj=n then o else l.obj:=by
  refine And.imp_right (fun h l b hb=> ?_) (Kf (e':=e') hR.mem rfl rfl (fun o' q=>if o'=n then some (o,p++shift lo q)else some (o',q)) id (fun o' q k1 r1 h1=> ?_) (fun o1 q1 o2 q2 x h1 h2 g1 g2=> ?_) (fun o1 cs hb=> ?_) (fun o1 o2 _ _ _ _ h=>h))
  ·obtain⟨l0,g1,g2,g3⟩:=h l b hb;refine⟨l0,g1,?_⟩
   cases l with
   |nd o1 q=>
    obtain⟨x,hx,rfl⟩:=g2 o1 q rfl;by_cases h1:o1=n
    ·simp[h1]at hx;simp[Pl.obj,h1,←hx]
    ·simp[h1]at hx;simp[Pl.obj,h1,←hx]
   |bx o1=>
    rw[g3 o1 rfl];have hne:o1≠n:=fun h1=>by
     obtain⟨cs,hcs,_⟩:=Ds hb;simp[e',h1,Obj.sub]at hcs
    simp[Pl.obj,hne]
  ·by_cases hon':o'=n
   ·subst hon';rw[hnode_n]at h1
    cases q with
    |nil=>
     simp only[AN,Option.some.injEq,Prod.mk.injEq]at h1;obtain⟨rfl,rfl⟩:=h1;rw[hhn0];refine⟨?_,fun b hb=>⟨(o,p),by simp[shift],Ae hn (hw.blk hb)⟩⟩;have:=(hR.mem.node o p k rows hn).window hw hle1 hle2;refine this.subs fun i j=> ?_
     simp[e',shift,Rr]
    |cons b q=>
     have h2:=Hf h1;have hno:e.node o (p++shift lo (b::q))=some (k1,r1):=by rw[heq0,A9,hn0];exact h2
     rw[hhn];refine⟨?_,fun b' hb=>⟨(o,p++shift lo (b::q)),by simp,Ae hno hb⟩⟩;have:=hR.mem.node _ _ _ _ hno;refine this.subs fun i j=> ?_
     rw[show b::q++[(i,j)]=b::(q++[(i,j)])from rfl,hhn,←List.cons_append,N3,List.append_assoc]
   ·rw[hhx o' hon'];by_cases ho:o'=o
    ·subst ho;have hp:pre p q=none:=by
      cases hp:pre p q with
      |none=>rfl
      |some r=>rw[Cv.1 hp,hunder]at h1;cases h1
     have:=hbeside q hp;rw[h1]at this;obtain⟨r0,g1,g2⟩:=this.some_r;refine⟨?_,fun b hb=>⟨(o',q),by simp[hon'],Ae g1 hb⟩⟩;refine(hR.mem.node _ _ _ _ g1).less g2 (fun i j k2 r2 hc2=> ?_) (fun i j k2 r2 _=>hhx o' hon' _);have:e.node o' (q++[(i,j)])=some (k2,r2):=by
      rw[heq0]at g1 ⊢;rw[A9,g1];simp[AN,hc2]
     exact(hR.mem.node _ _ _ _ this).one
    ·rw[hnode_x o' hon' ho]at h1;refine⟨?_,fun b hb=>⟨(o',q),by simp[hon'],Ae h1 hb⟩⟩;have:=hR.mem.node _ _ _ _ h1;refine this.subs fun i j=> ?_
     rw[hhx o' hon']
  ·by_cases c1:o1=n<;>by_cases c2:o2=n
   ·subst c1;subst c2;simp only[if_true,Option.some.injEq]at h1 h2;rw[←h2]at h1;simp only[Prod.mk.injEq,true_and]at h1;exact⟨rfl,SO (List.append_cancel_left h1)⟩
   ·subst c1;simp only[if_true,if_neg c2,Option.some.injEq]at h1 h2;rw[←h2]at h1;simp only[Prod.mk.injEq]at h1;obtain⟨rfl,rfl⟩:=h1;rw[hunder]at g2
    cases g2
   ·subst c2;simp only[if_true,if_neg c1,Option.some.injEq]at h1 h2;rw[←h1]at h2;simp only[Prod.mk.injEq]at h2;obtain⟨rfl,rfl⟩:=h2;rw[hunder]at g1
    cases g1
   ·simp only[if_neg c1,if_neg c2,Option.some.injEq]at h1 h2;rw[←h2]at h1;simpa using h1
  ·obtain⟨cs0,g1,rfl⟩:=hbox hb;refine⟨cs0,g1,rfl,fun j c hj=> ?_⟩;rw[BR,List.getElem?_map]at hj
   cases hx:cs0[j]? with
   |none=>simp[hx]at hj
   |some x=>simp[hx]at hj;subst hj;exact⟨x,rfl,fun u hu=>hu.sub hC⟩
 refine⟨e',rfl,rfl,⟨hreg.1,fun o'=> ?_,fun o' k' r' h1 h2=> ?_,fun o' cs h1 h2=> ?_,by rw[hsn];exact hR.size,hR.defers,fun t=>by rw[htm];exact(hR.tm t).sub hC⟩,hC,hself,hl,hsn,hsm,hreg.2⟩
 ·rw[hobs]
  simp only[e']
  by_cases h1:o'=n
  ·simp[h1,f]
  ·by_cases h2:o'=o
   ·simp[h2,f]
   ·simp[h1,h2,hR.ob,f]
 ·rw[hsm]at h1
  have hne:o'≠n:=fun h=>by omega
  rw[hhx o' hne]
  have h3:=Obj.sub_arr.1 h2
  rw[if_neg hne]at h3
  by_cases ho:o'=o
  ·subst ho;exact hR.pinh _ k0 rows0 h1 h0
  ·rw[if_neg ho]at h3;exact hR.pinh o' k' r' h1 h3
 ·rw[hsm]at h1
  obtain⟨cs0,g1,_⟩:=hbox h2
  exact hR.pinb o' cs0 h1 g1
end
section
variable {P:Program} {fm:Fm} {M:List Nat} {e e':Env} {s s':St} {a:Act} {Q:Exit->Act->World->Prop}
def OM (e:Env) (o1 o:Nat) (P q:AO):Value:=
 match pre P q with
 |some r=>e.hd o1 r
 |none=>e.hd o q
theorem QX {rows:List (List T)} {i j:Nat} {d d':T} (h:AM rows i j=some d):
  (DI rows i j d').length=rows.length/\ ∀r∈DI rows i j d',∃r0∈rows,r.length=r0.length:=by
 obtain⟨r,hr,hd⟩:=AY h
 unfold DI
 rw[hr]
 refine⟨by simp,fun r' hr'=> ?_⟩
 rcases List.mem_or_eq_of_mem_set hr' with h1|rfl
 ·exact⟨r',h1,rfl⟩
 ·exact⟨r,List.mem_of_getElem? hr,by simp⟩
theorem pre_longer {p q:AO} {b:Nat×Nat} (h:pre p q=none):pre (p++[b]) q=none:=by
 cases hp:pre (p++[b]) q with
 |none=>rfl
 |some r=>
  rw[Cv]at hp;rw[hp,List.append_assoc,Bz]at h
  cases h
theorem Hc {p:AO} {b:Nat×Nat}:pre (p++[b]) p=none:=by
 cases hp:pre (p++[b]) p with
 |none=>rfl
 |some r=>
  have:=congrArg List.length (Cv.1 hp);simp at this
theorem QG (hR:Rel fm e s a) {o1 o i j k b off n c:Nat} {p:AO} {rows:List (List T)} (h:s.adopt o1 o p i j=some s') (hn:e.node o p=some (k,rows))
  (hh:e.hd o p= .slice (some ⟨b,off,none⟩) n c) (hc:0<c) (hcell:e.w.cell? ⟨b,off+(i*k+j),none⟩=some (e.hd o1 [])):
  ∃e',e'.w=e.w/\e'.Im=e.Im/\Rel fm e' s' a/\Bm e e' (E9 o1 o (p++[(i,j)]))/\(∀o2,o2≠o->e'.hd o2=e.hd o2)/\e'.hd o p=e.hd o p/\
   o1≠o/\e'.ob o1= .none/\(∀o2,o2≠o->o2≠o1-> ∀q,e'.node o2 q=e.node o2 q)/\(∃rows',e'.node o p=some (k,rows')/\rows'.length=rows.length):=by
 unfold St.adopt at h
 split at h
 case isTrue=>cases h
 rename_i hoo
 obtain⟨k0,rows0,h0,hn0⟩:=EW hn
 rw[←hR.ob o1,←hR.ob o,h0]at h
 split at h
 case h_2=>cases h
 rename_i k1 rows1 k0' rows0' h1 h0'
 cases h0'
 simp only[hn0]at h
 split at h
 case h_2=>cases h
 rename_i hhole
 split at h
 case h_2=>cases h
 rename_i r0 hset
 cases h
 let PP:AO:=p++[(i,j)]
 let f:=E9 o1 o PP
 let e':Env:={w:=e.w,ob:=fun o'=>(if o'=o1 then .none else if o'=o then .arr k0 r0 else e.ob o').sub f,hd:=fun o' q=>if o'=o then OM e o1 o PP q else e.hd o' q,bk:=e.bk,Im:=e.Im,tk:=e.tk}
 have heq0: ∀q,e.node o q=AN k0 rows0 q:=fun q=>By h0 q
 have heq1: ∀q,e.node o1 q=AN k1 rows1 q:=fun q=>By h1 q
 have hne1: ∀q,e'.node o1 q=none:=fun q=>by simp[Env.node,e',Obj.sub]
 have hneo: ∀q,e'.node o q=AN k0 r0 q:=fun q=>by
  unfold Env.node;simp only[e',if_neg (fun h:o=o1=>hoo h.symm),if_true,Obj.sub]
 have hnex: ∀o',o'≠o->o'≠o1-> ∀q,e'.node o' q=e.node o' q:=fun o' h1 h2 q=>by
  unfold Env.node;simp only[e',if_neg h1,if_neg h2];exact HI
 have hunder: ∀r,e'.node o (PP++r)=e.node o1 r:=fun r=>by
  rw[hneo,heq1];simp only[PP,List.append_assoc];rw[B7 hn0 hset];simp only[List.singleton_append,AN,BH hhole,and_self,if_true]
 have hhdo: ∀r,e'.hd o (PP++r)=e.hd o1 r:=fun r=>by simp[e',OM,Bz]
 have hhdn: ∀q,pre PP q=none->e'.hd o q=e.hd o q:=fun q hq=>by simp[e',OM,hq]
 have hhdx: ∀o',o'≠o-> ∀q,e'.hd o' q=e.hd o' q:=fun o' h q=>by simp[e',h]
 have hpp:pre PP p=none:=Hc
 have hbeside: ∀q,pre PP q=none->(q≠p/\Ht (e.node o q) (e'.node o q))\/(q=p/\e'.node o q=some (k,DI rows i j (.sl k1 rows1))):=by
  intro q hq;by_cases hqp:q=p
  ·subst hqp;refine .inr ⟨rfl,?_⟩;have:=B7 hn0 hset [];rw[List.append_nil]at this;rw[hneo,this];rfl
  ·refine .inl ⟨hqp,?_⟩;rw[hneo,heq0]
   cases hp:pre p q with
   |none=>exact E3 hn0 hset q hp
   |some r=>
    have:=Cv.1 hp;subst this;rw[B7 hn0 hset,A9,hn0]
    cases r with
    |nil=>exact absurd (List.append_nil p) hqp
    |cons c r=>
     obtain⟨i',j'⟩:=c;have hij: ¬ (i'=i/\j'=j):=fun⟨h1,h2⟩=>by
      subst h1;subst h2;rw[show p++(i',j')::r=PP++r by simp[PP],Bz]at hq
      cases hq
     simp only[AN,BH hhole,if_neg hij];exact Ht.refl _
 have hsplit: ∀q,(∃r,q=PP++r)\/pre PP q=none:=fun q=>by
  cases hp:pre PP q with
  |none=>exact .inr rfl
  |some r=>exact .inl ⟨r,Cv.1 hp⟩
 have hlen:=QX (d':= .sl k1 rows1) hhole
 have hbox: ∀ {o2 cs},e'.ob o2= .box cs-> ∃cs0,e.ob o2= .box cs0/\cs=Bv f cs0:=fun {o2 cs} h=>by
  simp only[e']at h;obtain⟨cs0,g1,g2⟩:=Obj.sub_box.1 h;by_cases c1:o2=o1
  ·rw[if_pos c1]at g1;cases g1
  ·rw[if_neg c1]at g1;by_cases c2:o2=o
   ·rw[if_pos c2]at g1;cases g1
   ·rw[if_neg c2]at g1;exact⟨cs0,g1,g2⟩
 have hC:Bm e e' f:=by
  refine⟨fun b hb=>⟨hb,rfl⟩,fun o2 p2 k2 r2 o' p' h2 hf=> ?_,fun o2 cs hb=> ?_,fun o2 p2 k2 r2 h2=>(hR.mem.node o2 p2 k2 r2 h2).one,rfl⟩
  ·by_cases c1:o2=o1
   ·subst c1;simp only[f,E9,if_true]at hf
    cases hf
    exact⟨r2,by rw[hunder];exact h2,rfl,hhdo p2⟩
   ·simp only[f,E9,if_neg c1]at hf
    cases hf
    by_cases c2:o2=o
    ·subst c2;rcases hsplit p2 with ⟨r,rfl⟩|hq
     ·rw[heq0]at h2;simp only[PP,List.append_assoc]at h2;rw[A9,hn0]at h2;simp[AN,hhole]at h2
     ·rcases hbeside p2 hq with ⟨_,hA⟩|⟨rfl,hA⟩
      ·rw[h2]at hA;obtain⟨r3,g1,g2⟩:=hA.some_l;exact⟨r3,g1,g2.len,hhdn p2 hq⟩
      ·rw[hn]at h2
       cases h2
       exact⟨_,hA,hlen.1,hhdn _ hq⟩
    ·exact⟨r2,by rw[hnex o2 c2 c1];exact h2,rfl,hhdx o2 c2 p2⟩
  ·have c1:o2≠o1:=fun h=>by rw[h,h1]at hb;cases hb
   have c2:o2≠o:=fun h=>by rw[h,h0]at hb;cases hb
   exact⟨Bv f cs,by simp[e',c1,c2,hb,Obj.sub],rfl⟩
 refine⟨e',rfl,rfl,⟨?_,fun o'=> ?_,fun o' k' r' g1 g2=> ?_,fun o' cs g1 g2=> ?_,hR.size,hR.defers,fun t=>by rw[FS];exact(hR.tm t).sub hC⟩,hC,fun o2 h2=>funext fun q=>hhdx o2 h2 q,hhdn p hpp,hoo,by simp[e',Obj.sub],hnex,?_⟩
 ·refine(Kf (e':=e') hR.mem rfl rfl (fun o' q=>if o'=o then(match pre PP q with|some r=>some (o1,r)|none=>some (o,q))else some (o',q)) id (fun o' q k2 r2 g1=> ?_) (fun o2 q2 o3 q3 x g1 g2 s1 s2=> ?_) (fun o2 cs hb=> ?_) (fun o1 o2 _ _ _ _ h=>h)).1
  ·by_cases c2:o'=o
   ·subst c2
    rcases hsplit q with ⟨r,rfl⟩|hq
    ·rw[hunder]at g1
     rw[hhdo]
     refine⟨(hR.mem.node _ _ _ _ g1).subs fun i' j'=>by rw[List.append_assoc,hhdo],fun b' hb'=>⟨(o1,r),by simp[Bz],Ae g1 hb'⟩⟩
    ·rw[hhdn q hq]
     have hsub: ∀i' j' k3 r3,AM r2 i' j'=some (.sl k3 r3)->(q≠p\/ ¬ (i'=i/\j'=j))->e'.hd o' (q++[(i',j')])=e.hd o' (q++[(i',j')]):=by
      intro i' j' k3 r3 _ hor;refine hhdn _ ?_
      cases hp:pre PP (q++[(i',j')])with
      |none=>rfl
      |some r=>
       have h3:=Cv.1 hp;rcases List.eq_nil_or_concat r with rfl|⟨r',b',rfl⟩
       ·rw[List.append_nil]at h3;have:=List.append_inj' h3 rfl;simp only[List.cons.injEq,Prod.mk.injEq,and_true]at this;rcases hor with h4|h4
        ·exact absurd this.1 h4
        ·exact absurd this.2 h4
       ·rw[List.concat_eq_append,←List.append_assoc]at h3;have:=(List.append_inj' h3 rfl).1;rw[this,Bz]at hq
        cases hq
     rcases hbeside q hq with ⟨hqp,hA⟩|⟨rfl,hA⟩
     ·rw[g1]at hA
      obtain⟨r3,g3,g4⟩:=hA.some_r
      refine⟨(hR.mem.node _ _ _ _ g3).congr g4 (fun _ _=>rfl) (fun i' j' k3 r4 h4=>hsub i' j' k3 r4 h4 (.inl hqp)),fun b' hb'=>⟨(o',q),by simp[hq],Ae g3 hb'⟩⟩
     ·rw[hA]at g1
      cases g1
      refine⟨?_,fun b' hb'=>⟨(o',q),by simp[hq],Ae hn hb'⟩⟩
      obtain⟨ad,c',hv,hle,hx⟩:=hR.mem.node o' q _ rows hn
      rw[hh]at hv
      cases hv
      obtain⟨b2,off2,hb2,y1,y2,y3⟩:=hx hc
      cases hb2
      refine⟨_,c,by rw[hh,hlen.1],by rw[hlen.1];exact hle,fun _=>⟨b,off,rfl,y1,fun r hr=> ?_,fun i' j' d hd=> ?_⟩⟩
      ·obtain⟨r3,z1,z2⟩:=hlen.2 r hr
       rw[z2];exact y2 r3 z1
      ·rw[BH hhole]at hd
       by_cases e1:i'=i/\j'=j
       ·obtain⟨rfl,rfl⟩:=e1
        rw[if_pos ⟨rfl,rfl⟩]at hd
        cases hd
        refine⟨_,hcell,?_⟩
        simp only[CA]
        have:=hhdo []
        rw[List.append_nil]at this
        exact this.symm
       ·rw[if_neg e1]at hd
        obtain⟨u,z1,z2⟩:=y3 i' j' d hd
        refine⟨u,z1,?_⟩
        cases d with
        |sc v=>exact z2
        |hole=>exact z2
        |sl k3 r3=>
         simp only[CA]at z2 ⊢;rw[hsub i' j' k3 r3 (by rw[BH hhole,if_neg e1];exact hd) (.inr e1)];exact z2
   ·rw[hhdx o' c2]
    have c1:o'≠o1:=fun h=>by rw[h,hne1]at g1;cases g1
    rw[hnex o' c2 c1]at g1
    exact⟨(hR.mem.node _ _ _ _ g1).subs fun i' j'=>hhdx o' c2 _,fun b' hb'=>⟨(o',q),by simp[c2],Ae g1 hb'⟩⟩
  ·by_cases c2:o2=o<;>by_cases c3:o3=o
   ·subst c2;subst c3
    rcases hsplit q2 with ⟨r2,rfl⟩|hq2<;>rcases hsplit q3 with ⟨r3,rfl⟩|hq3
    ·simp only[if_true,Bz]at g1 g2
     rw[←g2]at g1
     simp only[Option.some.injEq,Prod.mk.injEq,true_and]at g1
     rw[g1];exact⟨rfl,rfl⟩
    ·simp only[if_true,Bz,hq3]at g1 g2
     rw[←g2]at g1
     simp only[Option.some.injEq,Prod.mk.injEq]at g1
     exact absurd g1.1 hoo
    ·simp only[if_true,Bz,hq2]at g1 g2
     rw[←g2]at g1
     simp only[Option.some.injEq,Prod.mk.injEq]at g1
     exact absurd g1.1.symm hoo
    ·simp only[if_true,hq2,hq3]at g1 g2
     rw[←g2]at g1
     simpa using g1
   ·subst c2
    simp only[if_true,if_neg c3]at g1 g2
    rcases hsplit q2 with ⟨r2,rfl⟩|hq2
    ·simp only[Bz]at g1
     rw[←g2]at g1
     simp only[Option.some.injEq,Prod.mk.injEq]at g1
     rw[←g1.1,hne1]at s2
     cases s2
    ·simp only[hq2]at g1
     rw[←g2]at g1
     simp only[Option.some.injEq,Prod.mk.injEq]at g1
     exact absurd g1.1.symm c3
   ·subst c3
    simp only[if_true,if_neg c2]at g1 g2
    rcases hsplit q3 with ⟨r3,rfl⟩|hq3
    ·simp only[Bz]at g2
     rw[←g1]at g2
     simp only[Option.some.injEq,Prod.mk.injEq]at g2
     rw[←g2.1,hne1]at s1
     cases s1
    ·simp only[hq3]at g2
     rw[←g1]at g2
     simp only[Option.some.injEq,Prod.mk.injEq]at g2
     exact absurd g2.1.symm c2
   ·simp only[if_neg c2,if_neg c3]at g1 g2
    rw[←g2]at g1
    simpa using g1
  ·obtain⟨cs0,g1,rfl⟩:=hbox hb
   refine⟨cs0,g1,rfl,fun j c hj=> ?_⟩
   rw[BR,List.getElem?_map]at hj
   cases hx:cs0[j]? with
   |none=>simp[hx]at hj
   |some x=>simp[hx]at hj;subst hj;exact⟨x,rfl,fun u hu=>hu.sub hC⟩
 ·rw[Cc]
  simp only[St.gone,Cw,A6,e']
  by_cases c1:o'=o1
  ·simp[c1,f,PP]
  ·by_cases c2:o'=o
   ·simp[c2,f,PP]
   ·simp[c1,c2,hR.ob,f,PP]
 ·have h3:=Obj.sub_arr.1 g2
  by_cases c1:o'=o1
  ·rw[if_pos c1]at h3;cases h3
  ·rw[if_neg c1]at h3
   by_cases c2:o'=o
   ·subst c2
    rw[hhdn [] (by simp[PP];cases p<;>rfl)]
    exact hR.pinh _ k0 rows0 g1 h0
   ·rw[if_neg c2]at h3
    rw[hhdx o' c2];exact hR.pinh o' k' r' g1 h3
 ·obtain⟨cs0,h3,_⟩:=hbox g2
  exact hR.pinb o' cs0 g1 h3
 ·rcases hbeside p hpp with ⟨h3,_⟩|⟨_,h3⟩
  ·exact absurd rfl h3
  ·exact⟨_,h3,hlen.1⟩
end
end Go.Proofs.YtbolhfegdocpeaaGreat.Ow
