/- Functions evaluated on the small machine: A line cut: what the reference makes of a world, What is sent: what the reference makes of a world, A write: what the reference makes of a world. -/
import Derived.Test.YtbolhfegdocpeaaGreatEv15
import Derived.Test.YtbolhfegdocpeaaGreatEv10
import Derived.Test.YtbolhfegdocpeaaGreatEv12
import Derived.Test.YtbolhfegdocpeaaGreatEv13
namespace Go.Proofs.YtbolhfegdocpeaaGreat.Ow
open Go
set_option linter.unusedVariables false
set_option linter.unusedSimpArgs false
set_option maxHeartbeats 8000000
variable {PK:Nat->List Arg->Option Res}
@[simp] theorem set_L (l:List Bool) (i:Nat) (b:Bool):(enc fL l).set i [.sc (.bool b)]=enc fL (l.set i b):=enc_set fL l i b
@[simp] theorem set_II (l:List (List Int)) (i:Nat) (x:List Int):(enc fII l).set i [.sl 1 (enc fI x)]=enc fII (l.set i x):=enc_set fII l i x
@[simp] theorem set_II0 (l:List (List Int)) (i:Nat):(enc fII l).set i [.sl 1 []]=enc fII (l.set i []):=enc_set fII l i []
@[simp] theorem set_N (l:List NodeD) (i:Nat) (id:Int) (up pr:Bool) (im ge:List Int) (bi:List (List Int)) (fi ol he:Bool) (la:Int) (sa sb:List Int) (co:List Bool) (sy:List (List Int)) (cp:List Bool) (wa:List Int):
  (enc fN l).set i [.sc (.int .i64 id),.sc (.bool up),.sc (.bool pr),.sl 1 (enc fI im),.sl 1 (enc fI ge),.sl 1 (enc fII bi),.sc (.bool fi),.sc (.bool ol),.sc (.bool he),.sc (.int .i64 la),.sl 1 (enc fU sa),.sl 1 (enc fU sb),.sl 1 (enc fL co),.sl 1 (enc fII sy),.sl 1 (enc fL cp),.sl 1 (enc fI wa)]=enc fN (l.set i ⟨id,up,pr,im,⟨ge,bi,fi,ol,he,la⟩,⟨sa,sb⟩,co,sy,cp,wa⟩):=enc_set fN l i ⟨id,up,pr,im,⟨ge,bi,fi,ol,he,la⟩,⟨sa,sb⟩,co,sy,cp,wa⟩
theorem tfb (x y:Int):((x=y)=True/\(x==y)=true)\/((x=y)=False/\(x==y)=false):=by
 by_cases h:x=y
 ·left;simp[h]
 ·right;simp[h]
def keepW (a b:Int) (x:WireD):Bool:= !(decide (x.src=a)&&decide (x.dst=b)||decide (x.src=b)&&decide (x.dst=a))
def holeR (net:List WireD) (a b:Int) (i:Nat) (r:List T):List T:=if keepW a b (net.getD i zW)then [.sc (.int .i64 (net.getD i zW).src),.sc (.int .i64 (net.getD i zW).dst),.hole]else r
def holes (net:List WireD) (a b:Int) (j:Nat):List (List T):=upd (holeR net a b) (enc fW net) j
@[simp] def st200 (w:WorldD) (a b:Int) (out:List WireD) (j:Nat) (rows:List (List T)):St:={n:=101,m:=4,tm:=[(1,.sc (.int .i64 a)),(2,.sc (.int .i64 b)),(3,.pb 10000000 0),(6,.pb 10000001 0),(7,.ref 10000002 []),(8,.sc (.int .i64 j))],ob:=[(0,.arr 16 (enc fN w.nodes)),(1,.arr 3 rows),(2,.arr 2 (enc fR w.log)),(3,.arr 1 (enc fI w.safe)),(10000000,.box [.ref 0 [],.ref 1 [],.ref 2 [],.ref 3 [],.sc (.int .i64 w.gen)]),(10000001,.box [.nil 16,.nil 3,.nil 2,.nil 1,.sc (.int .i64 0)]),(10000002,.arr 3 (enc fW out))]}
theorem lp_Cut (w : WorldD) (a b : Int) (hn : w.net.length <= 1048576) : ∀ (t : St), t.m <= 10000000 -> canon 10000000 [1, 2, 3, 6, 7, 8] t = st200 w a b [] 0 (holes w.net a b 0) -> semL G PK md 10000000 [1, 2, 3, 6, 7, 8] b200_0 t = exec (semK G PK md) (semL G PK md) md b200_0 (st200 w a b (w.net.filter (keepW a b)) w.net.length (holes w.net a b w.net.length)) := by
  have hf : w.net.take w.net.length = w.net := List.take_length
  have h := loop_ok (G := G) (PK := PK) (md := md) (o := 10000000) (live := [1, 2, 3, 6, 7, 8]) (c := b200_0) (fun j => st200 w a b ((w.net.take j).filter (keepW a b)) j (holes w.net a b j)) w.net.length (fun j hj => by
    obtain ⟨x, y1, hx, hx', hxd, hxm⟩ := get_ex w.net zW hj
    have hinc := incr hj hn
    have hl : ((w.net.take j).filter (keepW a b)).length <= j := by
      have := List.length_filter_le (keepW a b) (w.net.take j)
      rw [List.length_take] at this
      omega
    have hsn : (w.net.take (j + 1)).filter (keepW a b) = (w.net.take j).filter (keepW a b) ++ (if keepW a b x then [x] else []) := by rw [take_snoc hx, List.filter_append]; simp [List.filter_cons]
    have hg : (enc fW w.net)[j]? = some (fW x) := by rw [enc_get, hx]; rfl
    have hug := upd_get (holeR w.net a b) hg
    have hus := upd_set (holeR w.net a b) hg
    have hul := upd_len (holeR w.net a b) (enc fW w.net) j
    rw [enc_len] at hul
    rw [hsn]
    unfold holes
    rw [← hus]
    generalize upd (holeR w.net a b) (enc fW w.net) j = rows at *
    have hjr : j < rows.length := by omega
    have hrj : rows[j] = fW x := by simpa [hjr] using hug
    generalize (w.net.take j).filter (keepW a b) = out at *
    unfold holeR
    rw [hxd]
    have g1 : (out.length + 1) * 40 <= 35184372088832 := by omega
    have hss : rows.set j (fW x) = rows := by rw [← hrj]; exact List.set_getElem_self hjr
    have hss2 : rows.set j [T.sc (.int .i64 x.src), T.sc (.int .i64 x.dst), T.sl 1 (enc fU x.bytes)] = rows := hss
    have hrj2 : rows[j] = [T.sc (.int .i64 x.src), T.sc (.int .i64 x.dst), T.sl 1 (enc fU x.bytes)] := hrj
    have hap : enc fW out ++ [[T.sc (.int .i64 x.src), T.sc (.int .i64 x.dst), T.sl 1 (enc fU x.bytes)]] = enc fW (out ++ [x]) := by simp [enc]
    have hlr : rows.length = w.net.length := hul
    have hjl : (j : Int) < rows.length := by omega
    rcases tfb x.src a with ⟨c1, d1⟩ | ⟨c1, d1⟩ <;> rcases tfb x.dst b with ⟨c2, d2⟩ | ⟨c2, d2⟩ <;> rcases tfb x.src b with ⟨c3, d3⟩ | ⟨c3, d3⟩ <;> rcases tfb x.dst a with ⟨c4, d4⟩ | ⟨c4, d4⟩ <;>
      first
      | (have hk : keepW a b x = true := by simp [keepW, c1, c2, c3, c4]
         simp only [hk, if_true]
         simp [b200_0, md, hjr, hlr, hj, hrj2, hinc, g1, hap, c1, c2, c3, c4, d1, d2, d3, d4]; done)
      | (have hk : keepW a b x = false := by simp [keepW, c1, c2, c3, c4]
         simp only [hk, Bool.false_eq_true, if_false, hss, List.append_nil]
         simp [b200_0, md, hjr, hlr, hj, hrj2, hinc, g1, c1, c2, c3, c4, d1, d2, d3, d4]; done)) (by
    simp [b200_0, holes])
  simp only [hf] at h
  exact h
theorem set6 {α:Type} (l:List α) {a b:Nat} (h:a≠b) (p q r s t u:α):(((((l.set a p).set b q).set a r).set b s).set a t).set b u=(l.set a t).set b u:=by
 apply List.ext_getElem?
 intro i
 simp only[List.getElem?_set,List.length_set]
 by_cases h1:b=i
 ·simp[h1]
 ·by_cases h2:a=i
  ·simp[h1,h2]
  ·simp[h1,h2]
def cutN (n:NodeD) (k:Nat):NodeD:={n with conn:=n.conn.set k false,copies:=n.copies.set k false,sync:=n.sync.set k []}
def cutW (w:WorldD) (a b:Nat):WorldD:={w with nodes:=(w.nodes.set a (cutN (nd w a) b)).set b (cutN (nd w b) a),net:=w.net.filter (keepW a b)}
theorem ev_l12Cut (w:WorldD) (a b:Nat) (h3:w.nodes.length=3) (ha:a<3) (hb:b<3) (hab:a≠b) (hn:w.net.length<=1048576) (hx: ∀x∈w.nodes,x.conn.length=3/\x.copies.length=3/\x.sync.length=3):
  semK G PK md 200 [.a (owneds (fWo w)),.v (.sc (.int .i64 a)),.v (.sc (.int .i64 b))]=some ⟨[.a (owneds (fWo (cutW w a b)))],[none,some (holes w.net a b w.net.length),none,none],[]⟩:=by
 refine semK_of (pf:=p200) rfl (by simp[p200]) ?_
 have hlp:=lp_Cut (PK:=PK) w a b hn
 obtain⟨x,y1,hx1,hx',hxd,hxm⟩:=get_ex w.nodes zN (j:=a) (by omega)
 obtain⟨y,y2,hy1,hy',hyd,hym⟩:=get_ex w.nodes zN (j:=b) (by omega)
 obtain⟨x1,x2,x3⟩:=hx x hxm
 obtain⟨z1,z2,z3⟩:=hx y hym
 have hxa:nd w a=x:=hxd
 have hyb:nd w b=y:=hyd
 unfold cutW
 rw[hxa,hyb]
 unfold cutN
 have hba:b≠a:=hab.symm
 have q1:b<x.conn.length:=by omega
 have q2:a<y.conn.length:=by omega
 have q3:b<x.copies.length:=by omega
 have q4:a<y.copies.length:=by omega
 obtain⟨c1,q5,_,c1',_,_⟩:=getDD_ex x.sync (j:=b) (by omega)
 obtain⟨c2,q6,_,c2',_,_⟩:=getDD_ex y.sync (j:=a) (by omega)
 have h0:holes w.net a b 0=enc fW w.net:=upd_zero _ _
 have hhl:(holes w.net a b w.net.length).length=w.net.length:=by unfold holes;rw[upd_len,enc_len]
 generalize holes w.net a b w.net.length=hr at*
 simp[p200,md]
 rw[hlp]
 ·simp (config:={maxSteps:=10000000}) [b200_0,hhl,y1,y2,hx',hy',q1,q2,q3,q4,q5,q6,c1',c2',hab,hba,List.getElem_set]
  rw[set6 _ hab]
 ·simp
 ·simp[h0]
end Go.Proofs.YtbolhfegdocpeaaGreat.Ow
namespace Go.Proofs.YtbolhfegdocpeaaGreat.Ow
open Go
set_option linter.unusedVariables false
set_option linter.unusedSimpArgs false
set_option maxHeartbeats 16000000
variable {PK:Nat->List Arg->Option Res}
def lineB (a b:Int) (m:MsgD):List Int:=if far2 a b then pack [m]else msgBytes m
structure WL (w:WorldD):Prop where
 n3:w.nodes.length=3
 c3: ∀x∈w.nodes,x.conn.length=3/\x.copies.length=3/\x.sync.length=3
 net:w.net.length<=2000
def post3 (p:PostD):Prop:= ∃i k:Nat,i<3/\k<3/\i≠k/\p.src=i/\p.dst=k/\p.msg.gens.length<=1000
def isCn (w:WorldD) (a b:Int):Bool:=(nd w a.toNat).conn.getD b.toNat false
def sendF (w:WorldD) (p:PostD):WorldD:=if isCn w p.src p.dst then(if 40<=w.net.length then cutW w p.src.toNat p.dst.toNat else {w with net:=w.net++[⟨p.src,p.dst,lineB p.src p.dst p.msg⟩]})else w
def sendW (w:WorldD) (l:List PostD):WorldD:=l.foldl sendF w
theorem nd_mem {w:WorldD} {i:Nat} (h:i<w.nodes.length):nd w i∈w.nodes:=by
 obtain⟨x,_,_,_,hd,hm⟩:=get_ex w.nodes zN h
 unfold nd
 rw[hd]
 exact hm
theorem cutW_WL {w:WorldD} {a b:Nat} (h:WL w) (ha:a<3) (hb:b<3):WL (cutW w a b):=by
 have h1:=h.c3 _ (nd_mem (w:=w) (i:=a) (by have:=h.n3;omega))
 have h2:=h.c3 _ (nd_mem (w:=w) (i:=b) (by have:=h.n3;omega))
 refine⟨by unfold cutW;simp only[List.length_set];exact h.n3,fun x hx=> ?_,by have:=List.length_filter_le (keepW a b) w.net;have:=h.net;unfold cutW;simp only;omega⟩
 unfold cutW at hx
 rcases List.mem_or_eq_of_mem_set hx with hx|rfl
 ·rcases List.mem_or_eq_of_mem_set hx with hx|rfl
  ·exact h.c3 x hx
  ·unfold cutN;simp only[List.length_set];exact h1
 ·unfold cutN;simp only[List.length_set];exact h2
theorem sendF_WL {w:WorldD} {p:PostD} (h:WL w) (hp:post3 p):WL (sendF w p)/\(sendF w p).net.length<=max w.net.length 40:=by
 obtain⟨i,k,hi,hk,_,h1,h2,_⟩:=hp
 unfold sendF
 rw[h1,h2]
 simp only[Int.toNat_natCast]
 split
 ·split
  ·refine⟨cutW_WL h hi hk,?_⟩
   have:=List.length_filter_le (keepW i k) w.net
   unfold cutW
   simp only
   omega
  ·refine⟨⟨h.n3,h.c3,?_⟩,?_⟩
   ·simp only[List.length_append,List.length_cons,List.length_nil];omega
   ·simp only[List.length_append,List.length_cons,List.length_nil];omega
 ·exact⟨h,by omega⟩
structure SdS where
 w:WorldD
 sh:Nat
 rows:List (List T)
def sdF (s:SdS) (p:PostD):SdS:=⟨sendF s.w p,
 if isCn s.w p.src p.dst then(if 40<=s.w.net.length then(if s.sh=0 then 2 else if s.sh=1 then 3 else s.sh)else(if s.sh=0 then 1 else s.sh))else s.sh,
 if isCn s.w p.src p.dst/\40<=s.w.net.length/\s.sh=0 then holes s.w.net p.src p.dst s.w.net.length else s.rows⟩
@[simp] def obW (w:WorldD) (sh:Nat) (rows:List (List T)) (o:Nat):List (Nat×Obj):=
 if sh=0 then [(0,.arr 16 (enc fN w.nodes)),(1,.arr 3 (enc fW w.net)),(2,.arr 2 (enc fR w.log)),(3,.arr 1 (enc fI w.safe)),(o,.box [.ref 0 [],.ref 1 [],.ref 2 [],.ref 3 [],.sc (.int .i64 w.gen)]),(o+1,.box [.nil 16,.nil 3,.nil 2,.nil 1,.sc (.int .i64 0)])]
 else if sh=1 then [(0,.arr 16 (enc fN w.nodes)),(2,.arr 2 (enc fR w.log)),(3,.arr 1 (enc fI w.safe)),(o,.box [.ref 0 [],.ref (o+2) [],.ref 2 [],.ref 3 [],.sc (.int .i64 w.gen)]),(o+1,.box [.nil 16,.nil 3,.nil 2,.nil 1,.sc (.int .i64 0)]),(o+2,.arr 3 (enc fW w.net))]
 else if sh=2 then [(1,.arr 3 rows),(o,.box [.ref (o+2) [],.ref (o+3) [],.ref (o+4) [],.ref (o+5) [],.sc (.int .i64 w.gen)]),(o+1,.box [.nil 16,.nil 3,.nil 2,.nil 1,.sc (.int .i64 0)]),(o+2,.arr 16 (enc fN w.nodes)),(o+3,.arr 3 (enc fW w.net)),(o+4,.arr 2 (enc fR w.log)),(o+5,.arr 1 (enc fI w.safe))]
 else [(o,.box [.ref (o+2) [],.ref (o+3) [],.ref (o+4) [],.ref (o+5) [],.sc (.int .i64 w.gen)]),(o+1,.box [.nil 16,.nil 3,.nil 2,.nil 1,.sc (.int .i64 0)]),(o+2,.arr 16 (enc fN w.nodes)),(o+3,.arr 3 (enc fW w.net)),(o+4,.arr 2 (enc fR w.log)),(o+5,.arr 1 (enc fI w.safe))]
@[simp] def st203 (l:List PostD) (s:SdS) (j:Nat):St:={n:=64,m:=4,tm:=[(1,.im 7 (enc fP l)),(2,.pb 10000000 0),(4,.pb 10000001 0),(5,.sc (.int .i64 j))],ob:=obW s.w s.sh s.rows 10000000}
theorem sd_inv {l:List PostD} (hp: ∀p∈l,post3 p): ∀s:SdS,WL s.w->s.sh<4->WL (l.foldl sdF s).w/\(l.foldl sdF s).sh<4/\(l.foldl sdF s).w=sendW s.w l:=by
 induction l with
 |nil=>intro s h1 h2;exact⟨h1,h2,rfl⟩
 |cons p l ih=>
  intro s h1 h2
  have hw:=(sendF_WL h1 (hp p List.mem_cons_self)).1
  have h3:(sdF s p).sh<4:=by
   unfold sdF
   simp only
   split
   ·split<;>split<;>(try split)<;>omega
   ·exact h2
  exact ih (fun q hq=>hp q (List.mem_cons_of_mem _ hq)) (sdF s p) hw h3
theorem lp_Send (w:WorldD) (l:List PostD) (hw:WL w) (hl:l.length<=1000) (hp: ∀p∈l,post3 p): ∀ (t:St),t.m<=10000000->canon 10000000 [1,2,4,5] t=st203 l ⟨w,0,[]⟩ 0->semL G PK md 10000000 [1,2,4,5] b203_0 t=exec (semK G PK md) (semL G PK md) md b203_0 (st203 l (l.foldl sdF ⟨w,0,[]⟩) l.length):=by
 have hf:l.take l.length=l:=List.take_length
 have h:=loop_ok (G:=G) (PK:=PK) (md:=md) (o:=10000000) (live:=[1,2,4,5]) (c:=b203_0) (fun j=>st203 l ((l.take j).foldl sdF ⟨w,0,[]⟩) j) l.length (fun j hj=>by
  obtain⟨p,hx⟩:=getElem?_of_lt hj
  obtain⟨_,hx'⟩:=at_of hx
  have hpm:=hp p (List.mem_of_getElem? hx)
  have hinc:=incr hj (by omega)
  obtain⟨i1,i2,_⟩:=sd_inv (l:=l.take j) (fun q hq=>hp q (List.mem_of_mem_take hq)) ⟨w,0,[]⟩ hw (by simp)
  simp only[foldl_take sdF _ l hx]
  generalize (l.take j).foldl sdF ⟨w,0,[]⟩=s at*
  obtain⟨v,sh,rows⟩:=s
  simp only at i1 i2
  obtain⟨ps,pd,pm⟩:=p
  obtain⟨i,k,hi,hk,hik,hs1,hs2,hg⟩:=hpm
  simp only at hs1 hs2 hg
  subst hs1
  subst hs2
  unfold sdF sendF isCn
  simp only[Int.toNat_natCast]
  have hn3:=i1.n3
  obtain⟨x,y1,hxi,hxi',hxd,hxm⟩:=get_ex v.nodes zN (j:=i) (by omega)
  have hxn:nd v i=x:=hxd
  obtain⟨x1,x2,x3⟩:=i1.c3 x hxm
  obtain⟨c,q1,_,c1',hcd⟩:=getB_ex x.conn (j:=k) (by omega)
  rw[hxn,hcd]
  have e1:=ev_l12Cut (PK:=PK) v i k hn3 hi hk hik (by have:=i1.net;omega) i1.c3
  have e2:=ev_spec_MsgBytes (PK:=PK) pm (by omega)
  have e3:=ev_l12Far (PK:=PK) i k
  have e4:=ev_spec_Pack (PK:=PK) [pm] (by simp) (fun m hm=>by rw[List.mem_singleton.1 hm];omega)
  simp only[lents,lent,fMs,fWo,owneds,owned,enc_cons,enc_nil]at e1 e2 e4
  cases c
  ·rcases(by omega:sh=0\/sh=1\/sh=2\/sh=3)with rfl|rfl|rfl|rfl<;>simp[b203_0,md,hj,hx',y1,hxi',q1,c1',hinc]
  by_cases hnl:40<=v.net.length
  ·have hnl':(40:Int)<=v.net.length:=by omega
   generalize hcw:cutW v i k=cw at*
   generalize holes v.net i k v.net.length=hr at*
   rcases(by omega:sh=0\/sh=1\/sh=2\/sh=3)with rfl|rfl|rfl|rfl<;>simp[b203_0,md,hj,hx',y1,hxi',q1,c1',hinc,hnl,hnl',e1]
  ·have hnl': ¬ (40:Int)<=v.net.length:=by omega
   have g1:(v.net.length+1)*40<=35184372088832:=by omega
   unfold lineB
   cases hf2:far2 (i:Int) k
   ·rw[hf2]at e3
    rcases(by omega:sh=0\/sh=1\/sh=2\/sh=3)with rfl|rfl|rfl|rfl<;>simp[b203_0,md,hj,hx',y1,hxi',q1,c1',hinc,hnl,hnl',e2,e3,g1]<;>simp[enc]
   ·rw[hf2]at e3
    rcases(by omega:sh=0\/sh=1\/sh=2\/sh=3)with rfl|rfl|rfl|rfl<;>simp[b203_0,md,hj,hx',y1,hxi',q1,c1',hinc,hnl,hnl',e2,e3,e4,g1]<;>simp[enc]) (by
  obtain⟨_,i2,_⟩:=sd_inv (l:=l.take l.length) (fun q hq=>hp q (List.mem_of_mem_take hq)) ⟨w,0,[]⟩ hw (by simp)
  generalize (l.take l.length).foldl sdF ⟨w,0,[]⟩=s at*
  obtain⟨v,sh,rows⟩:=s
  simp only at i2
  rcases(by omega:sh=0\/sh=1\/sh=2\/sh=3)with rfl|rfl|rfl|rfl<;>simp[b203_0])
 simp only[hf]at h
 exact h
def fin1 (fin:List (Option (List (List T)))):Prop:=fin=[none,none,none,none]\/ ∃rows,fin=[none,some rows,none,none]
theorem ev_l12Send (w:WorldD) (l:List PostD) (hw:WL w) (hl:l.length<=1000) (hp: ∀p∈l,post3 p): ∃fin,fin1 fin/\semK G PK md 203 [.a (owneds (fWo w)),.v (.im 7 (enc fP l))]=some ⟨[.a (owneds (fWo (sendW w l)))],fin,[]⟩:=by
 have h1:=lp_Send (PK:=PK) w l hw hl hp
 obtain⟨_,i2,i3⟩:=sd_inv hp ⟨w,0,[]⟩ hw (by simp)
 simp only at i3
 rw[←i3]
 generalize l.foldl sdF ⟨w,0,[]⟩=s at*
 obtain⟨v,sh,rows⟩:=s
 simp only at i2 ⊢
 rcases(by omega:sh=0\/sh=1\/sh=2\/sh=3)with rfl|rfl|rfl|rfl
 ·refine⟨[none,none,none,none],.inl rfl,semK_of (pf:=p203) rfl (by simp[p203]) ?_⟩
  simp[p203,md]
  rw[h1]
  ·simp[b203_0]
  ·simp
  ·simp
 ·refine⟨[none,none,none,none],.inl rfl,semK_of (pf:=p203) rfl (by simp[p203]) ?_⟩
  simp[p203,md]
  rw[h1]
  ·simp[b203_0]
  ·simp
  ·simp
 ·refine⟨[none,some rows,none,none],.inr ⟨rows,rfl⟩,semK_of (pf:=p203) rfl (by simp[p203]) ?_⟩
  simp[p203,md]
  rw[h1]
  ·simp[b203_0]
  ·simp
  ·simp
 ·refine⟨[none,none,none,none],.inl rfl,semK_of (pf:=p203) rfl (by simp[p203]) ?_⟩
  simp[p203,md]
  rw[h1]
  ·simp[b203_0]
  ·simp
  ·simp
end Go.Proofs.YtbolhfegdocpeaaGreat.Ow
namespace Go.Proofs.YtbolhfegdocpeaaGreat.Ow
open Go
set_option linter.unusedVariables false
set_option linter.unusedSimpArgs false
set_option maxHeartbeats 16000000
variable {PK:Nat->List Arg->Option Res}
structure nC (n:NodeD):Prop where
 b:nB n
 bit: ∀x∈n.mt.bits,x.length<=800
 wait:n.wait.length<=900
 gens:n.mt.gens.length<=900
structure WI (w:WorldD):Prop where
 n3:w.nodes.length=3
 node: ∀x∈w.nodes,nC x
 id: ∀i:Nat,i<3->(nd w i).id=i
 net:w.net.length<=100
 wire: ∀x∈w.net,byt x.bytes
 log:w.log.length<=1000
 safe:w.safe.length<=1000
theorem NOk.nC {n:NodeD} (h:NOk n) (hs:slS n.sl):nC n:=⟨h.nB hs,fun x hx=>by have:=mk_len (h.bit8 x hx);omega,by have:=asc_len h.wait;omega,by have:=h.gens12;omega⟩
theorem WI.L {w:WorldD} (h:WI w):WL w:=⟨h.n3,fun x hx=>⟨(h.node x hx).b.conn,(h.node x hx).b.copies,(h.node x hx).b.sync⟩,by have:=h.net;omega⟩
theorem worldOk_WI {w:WorldD} (h:worldOk w=true) (hw:wS w):WI w:=by
 have hN:=worldOk_nodes h
 unfold worldOk lines at h
 simp only[Bool.and_eq_true,decide_eq_true_iff]at h
 obtain⟨⟨⟨⟨⟨⟨h1,h2⟩,h3⟩,h4⟩,h5⟩,h6⟩,⟨h7,h8⟩,h9⟩:=h
 refine⟨h1,fun x hx=> ?_,hN.id,by omega,fun x hx=>hw.wire x hx,by omega,by have:=asc_len h6;omega⟩
 obtain⟨i,hi,he⟩:=List.getElem_of_mem hx
 obtain⟨y,_,_,hy',hyd,_⟩:=get_ex w.nodes zN hi
 have hk:=hN.ok i (by omega)
 have hn:nd w i=x:=by unfold nd;rw[hyd,←hy',he]
 rw[hn]at hk
 exact hk.nC (hw.node x hx).sl
theorem nd_set {w:WorldD} {i k:Nat} {n:NodeD} (h:w.nodes.length=3) (hi:i<3):nd {w with nodes:=w.nodes.set k n} i=if k=i then n else nd w i:=by
 unfold nd
 simp only[List.getD_eq_getElem?_getD,List.getElem?_set]
 by_cases hk:k=i
 ·subst hk
  simp[h,hi]
 ·simp[hk]
theorem set_WI {w:WorldD} {k:Nat} {n:NodeD} (h:WI w) (hk:k<3) (hn:nC n) (hid:n.id=k):WI {w with nodes:=w.nodes.set k n}:=by
 refine⟨by simp only[List.length_set];exact h.n3,fun x hx=> ?_,fun i hi=> ?_,h.net,h.wire,h.log,h.safe⟩
 ·rcases List.mem_or_eq_of_mem_set hx with hx|rfl
  ·exact h.node x hx
  ·exact hn
 ·rw[nd_set h.n3 hi]
  split
  ·rename_i he;rw[hid,he]
  ·exact h.id i hi
theorem cutN_nC {n:NodeD} {k:Nat} (h:nC n):nC (cutN n k):=
 ⟨⟨h.b.image,h.b.gens,h.b.bits,h.b.bit,h.b.sl,by unfold cutN;simp only[List.length_set];exact h.b.conn,by unfold cutN;simp only[List.length_set];exact h.b.sync,fun x hx=>by
  rcases List.mem_or_eq_of_mem_set hx with hx|rfl
  ·exact h.b.syn x hx
  ·simp,by unfold cutN;simp only[List.length_set];exact h.b.copies,h.b.wait⟩,h.bit,h.wait,h.gens⟩
theorem WI.nd {w:WorldD} (h:WI w) {i:Nat} (hi:i<3):nC (nd w i):=h.node _ (nd_mem (by have:=h.n3;omega))
theorem cutW_WI {w:WorldD} {a b:Nat} (h:WI w) (ha:a<3) (hb:b<3) (hab:a≠b):WI (cutW w a b):=by
 have h1:WI {w with nodes:=w.nodes.set a (cutN (Ow.nd w a) b)}:=set_WI h ha (cutN_nC (h.nd ha)) (h.id a ha)
 have h2:=set_WI (k:=b) h1 hb (cutN_nC (k:=a) (h.nd hb)) (h.id b hb)
 exact⟨h2.n3,h2.node,h2.id,by have:=List.length_filter_le (keepW a b) w.net;have:=h.net;unfold cutW;simp only;omega,fun x hx=>h.wire x (List.mem_filter.1 hx).1,h.log,h.safe⟩
theorem nd_cut {w:WorldD} {a b:Nat} (h:w.nodes.length=3) (ha:a<3) (hab:a≠b):nd (cutW w a b) a=cutN (nd w a) b:=by
 have h1:(w.nodes.set a (cutN (nd w a) b)).length=3:=by rw[List.length_set];exact h
 have:=nd_set (w:={w with nodes:=w.nodes.set a (cutN (nd w a) b),net:=w.net.filter (keepW a b)}) (k:=b) (n:=cutN (nd w b) a) (i:=a) h1 ha
 rw[if_neg hab.symm]at this
 have h2:=nd_set (w:=w) (k:=a) (n:=cutN (nd w a) b) (i:=a) h ha
 rw[if_pos rfl]at h2
 exact this.trans h2
def fin2 (fin:List (Option (List (List T)))):Prop:= ∃A B,fin=[none,A,none,B]
def writeG (w:WorldD) (a:Nat):Bool:=decide (38<w.net.length)&&(nd w a).conn.getD 2 false
def write1 (w:WorldD) (a:Nat) (cell:Int):WorldD:=
 let w2:WorldD:={w with log:=w.log++[⟨cell,(nd w a).mt.last⟩]}
 let r:=writeN (nd w a) cell (w.log.length+1:Nat)
 let w3:WorldD:={w2 with nodes:=w.nodes.set a r.1}
 let w4:=if r.1.conn.getD (mate a).toNat false then w3 else sureW w3 [(w.log.length+1:Nat)]
 sendW w4 r.2
def writeW (w:WorldD) (a:Nat) (cell:Int):WorldD×Int:=
 if !mayWrite (nd w a)then(w,3)else if 200<=w.log.length then(w,4)
 else if 38<(if writeG w a then cutW w a 2 else w).net.length then(if writeG w a then cutW w a 2 else w,4)
 else(write1 (if writeG w a then cutW w a 2 else w) a cell,0)
theorem writeN_nC {n:NodeD} {cell val:Int} (h:nC n):nB (writeN n cell val).1/\(writeN n cell val).1.id=n.id:=by
 unfold writeN
 split
 ·refine⟨writeB_nB h.b h.bit h.wait,?_⟩
  unfold writeB
  split<;>rfl
 ·exact⟨h.b,rfl⟩
theorem writeN_posts {n:NodeD} {cell val:Int} {i:Nat} (hid:n.id=i) (hi:i<3): ∀p∈(writeN n cell val).2,post3 p:=by
 intro p hp
 unfold writeN at hp
 split at hp
 ·simp only[tos,List.mem_flatMap,List.mem_range]at hp
  obtain⟨k,hk,hp⟩:=hp
  unfold to1 at hp
  split at hp
  ·rename_i hc
   rw[List.mem_singleton.1 hp]
   have hid2:(writeB n cell val).id=i:=by
    unfold writeB
    split<;>exact hid
   exact⟨i,k,hi,hk,by rw[hid]at hc;omega,hid2,rfl,by simp⟩
  ·cases hp
 ·cases hp
theorem writeN_len {n:NodeD} {cell val:Int}:(writeN n cell val).2.length<=3:=by
 unfold writeN
 split
 ·exact tos_len _ _ _ 3
 ·simp
end Go.Proofs.YtbolhfegdocpeaaGreat.Ow
