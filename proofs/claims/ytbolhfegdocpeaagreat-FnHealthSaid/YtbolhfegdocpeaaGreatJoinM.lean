/- strings.Join, out of its contract: words that are only read, as one string. -/
import Derived.Lib.Join
import Derived.Test.YtbolhfegdocpeaaGreatBaseC
namespace Go.Proofs.YtbolhfegdocpeaaGreat.Ow
open Go Go.RowKit
def joinTx (xs:List ByteArray) (sep:ByteArray):ByteArray:=⟨(Lib.join (xs.map (·.data.toList)) sep.data.toList).toArray⟩
def JoinC (P:Program) (f:Nat):Prop:=
 (∀ (a:Option Addr) (c:Nat) (sep:ByteArray) (w:World),Calls P f #[.slice a 0 c,.string sep] w fun e w'=>e= .returned (.string ⟨#[]⟩)/\w'=w)/\
 ∀ (bk o c:Nat) (xs:List ByteArray) (sep:ByteArray) (w:World) (_: ∀ (j:Nat) x,xs[j]? =some x->w.cell? ⟨bk,o+j,none⟩=some (.string x)) (_:bk<w.heap.size) (_:xs.length<=140737488355328) (_:xs.length<=c) (_:(Lib.join (xs.map (·.data.toList)) sep.data.toList).length<=140737488355328),
  Calls P f #[.slice (some ⟨bk,o,none⟩) xs.length c,.string sep] w fun e w'=>e= .returned (.string ⟨(Lib.join (xs.map (·.data.toList)) sep.data.toList).toArray⟩)/\Below w.heap.size w w'
theorem join_ok {P:Program} {f:Nat} (hE:Ot P f) (hJ:JoinC P f) (xs:List ByteArray) (sep:ByteArray) (hl:xs.length<=140737488355328) (hs:(joinTx xs sep).size<=140737488355328):
  Ot P f/\RN P f [.v (.im 1 (enc fS xs)),.v (.sc (.string sep))] {out:=[.v (.sc (.string (joinTx xs sep)))],fin:=[],pfin:=[]}:=by
 refine⟨hE,fun fm e vs hX=> ?_⟩
 have hlen:=hX.len
 obtain⟨v,u,rfl⟩: ∃v u,vs=[v,u]:=by
  match vs,hlen with
  |[v,u],_=>exact⟨v,u,rfl⟩
 have hv:=hX.val 0 v rfl
 have hu:=hX.val 1 u rfl
 have hob: ∀o,e.ob o= .none:=fun o=>by rw[hX.ob o];rfl
 simp only[AK,AU,AW,List.headD,At]at hv hu
 have hu':u= .string sep:=by
  simp at hu
  cases hu with|sc _ h=>rfl
 subst hu'
 simp only[if_true]at hv
 have hn: ∀o p,e.node o p=none:=fun o p=>by unfold Env.node;rw[hob]
 have hb: ∀l,e.blk l=none:=fun l=>by
  cases l with
  |nd o p=>simp only[Env.blk,hn]
  |bx o=>simp only[Env.blk,hob]
 have hout:Cd [.v (.im 1 (enc fS xs)),.v (.sc (.string sep))] {out:=[.v (.sc (.string (joinTx xs sep)))],fin:=[],pfin:=[]}=([.sc (.string (joinTx xs sep))],[]):=by
  simp[Cd,AK,AU,AW,Bf,CE,CU,CH]
 have hend: ∀w',Below e.w.heap.size e.w w'-> ∃e',e'.w=w'/\Mo fm e [.v (.im 1 (enc fS xs)),.v (.sc (.string sep))] {out:=[.v (.sc (.string (joinTx xs sep)))],fin:=[],pfin:=[]} e' (.string (joinTx xs sep)):=fun w' hB=>by
  have hk:=hX.mem.keeps
  have hn': ∀o p,({e with w:=w'}:Env).node o p=none:=hn
  have hb': ∀l,({e with w:=w'}:Env).blk l=none:=hb
  refine⟨{e with w:=w'},rfl,⟨⟨fun o cs h=> ?_,fun o p k rows h=> ?_,fun l l' b h=> ?_,fun l b h=> ?_,fun x hx=> ?_,hX.mem.im0,?_,hX.mem.tk⟩,fun o=> ?_,fun o k rows _ h=> ?_,fun o c0 _ h=> ?_,fun o c _ h=> ?_,?_⟩⟩
  ·rw[show ({e with w:=w'}:Env).ob o=e.ob o from rfl,hob]at h;cases h
  ·rw[hn']at h;cases h
  ·rw[hb']at h;cases h
  ·rw[hb']at h;cases h
  ·have:=hX.mem.im x hx
   exact⟨Nat.lt_of_lt_of_le this.1 hB.size,this.2⟩
  ·refine⟨hB.os.trans hk.os,hB.tape.trans hk.tape,hB.output.trans hk.output,Nat.le_trans hk.size hB.size,fun k h1 h2=> ?_⟩
   rw[hB.block k (Nat.lt_of_lt_of_le h1 hk.size)]
   exact hk.block k h1 h2
  ·rw[hout];exact hob o
  ·rw[show ({e with w:=w'}:Env).ob o=e.ob o from rfl,hob]at h;cases h
  ·rw[hob]at h;cases h
  ·rw[show ({e with w:=w'}:Env).ob o=e.ob o from rfl,hob]at h;cases h
  ·rw[hout];exact .sc _ rfl
 cases hv with
 |im v k rows hP=>
  cases hxs:xs with
  |nil=>
   subst hxs
   obtain⟨a,c,rfl⟩: ∃a c,v= .slice a 0 c:=by
    cases hP with
    |nil a c k=>exact⟨a,c,rfl⟩
    |sl b off c k rows us him hle hk hc hs=>exact⟨_,_,rfl⟩
   refine Calls.mono (hJ.1 a c sep e.w) fun en w' hh=> ?_
   obtain⟨rfl,rfl⟩:=hh
   exact hend _ (.refl _ _)
  |cons x0 l0=>
   obtain⟨b,off,c,rfl,hlc,him,hc⟩: ∃b off c,v= .slice (some ⟨b,off,none⟩) xs.length c/\xs.length<=c/\e.Im b/\ ∀ (j:Nat) x,xs[j]? =some x->e.w.cell? ⟨b,off+j,none⟩=some (.string x):=by
    generalize hR:enc fS xs=R at hP
    cases hP with
    |nil a c k=>rw[hxs]at hR;simp[enc]at hR
    |sl b off c k rows us him hle hk hc hs=>
     subst hR
     refine⟨b,off,c,by simp,by simpa using hle,him,fun j x hx=> ?_⟩
     have hcell:AM (enc fS xs) j 0=some (.sc (.string x)):=by
      unfold AM
      rw[Kn,hx]
      rfl
     have h1:=hc j 0 _ hcell
     have h2:=hs j 0 _ hcell
     rw[Nat.mul_one,Nat.add_zero]at h1
     have h3:us j 0= .string x:=by
      generalize us j 0=u at h2
      cases h2 with|sc _ h=>rfl
     rw[h3]at h1
     exact h1
   rw[←hxs]
   refine Calls.mono (hJ.2 b off c xs sep e.w hc (hX.mem.im b him).1 hl hlc (by simpa[joinTx,ByteArray.size]using hs)) fun en w' hh=> ?_
   obtain⟨rfl,hB⟩:=hh
   exact hend _ hB
def strRows:List (List T)->Option (List ByteArray)
 |[]=>some []
 |[.sc (.string s)]::l=>(strRows l).map (s:: ·)
 |_=>none
theorem strRows_enc: ∀xs:List ByteArray,strRows (enc fS xs)=some xs
 |[]=>rfl
 |x::xs=>by rw[BZ];simp only[fS,strRows,strRows_enc xs];rfl
theorem enc_strRows: ∀ {rows:List (List T)} {xs:List ByteArray},strRows rows=some xs->rows=enc fS xs
 |[],xs,h=>by simp only[strRows,Option.some.injEq]at h;subst h;rfl
 |r::l,xs,h=>by
  unfold strRows at h
  split at h
  ·rename_i heq;cases heq
  ·rename_i s l' heq
   simp only[List.cons.injEq]at heq
   obtain⟨rfl,rfl⟩:=heq
   cases hl:strRows l with
   |none=>rw[hl]at h;cases h
   |some m=>
    rw[hl]at h
    simp only[Option.map_some,Option.some.injEq]at h
    subst h
    rw[enc_strRows hl]
    rfl
  ·cases h
def joinK:List Arg->Option Res
 |[.v (.im 1 rows),.v (.sc (.string sep))]=>match strRows rows with
  |some xs=>if xs.length<=140737488355328/\(joinTx xs sep).size<=140737488355328 then some {out:=[.v (.sc (.string (joinTx xs sep)))],fin:=[],pfin:=[]} else none
  |none=>none
 |_=>none
theorem joinK_ok {P:Program} {f:Nat} (hE:Ot P f) (hJ:JoinC P f) {args:List Arg} {r:Res} (h:joinK args=some r):Ot P f/\RN P f args r:=by
 unfold joinK at h
 split at h
 ·split at h
  ·rename_i xs hx
   obtain⟨⟨h1,h2⟩,h⟩:=A7 h
   cases h
   rw[enc_strRows hx]
   exact join_ok hE hJ xs _ h1 h2
  ·cases h
 ·cases h
theorem joinK_eq (xs:List ByteArray) (sep:ByteArray) (h1:xs.length<=1000) (h2:(joinTx xs sep).size<=1000000):joinK [.v (.im 1 (enc fS xs)),.v (.sc (.string sep))]=some ⟨[.v (.sc (.string (joinTx xs sep)))],[],[]⟩:=by
 unfold joinK
 simp only[strRows_enc]
 rw[if_pos ⟨by omega,by omega⟩]
end Go.Proofs.YtbolhfegdocpeaaGreat.Ow
