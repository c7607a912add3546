/- Functions evaluated on the small machine: Marks, generations: what the reference makes of them, Copies of metas and nodes, lists of generations: what the reference makes. -/
import Derived.Test.YtbolhfegdocpeaaGreatEv6
import Derived.Test.YtbolhfegdocpeaaGreatEv8
namespace Go.Proofs.YtbolhfegdocpeaaGreat.Ow
open Go
set_option linter.unusedVariables false
set_option linter.unusedSimpArgs false
set_option maxHeartbeats 4000000
variable {PK:Nat->List Arg->Option Res}
structure MsgD where
 kind:Int
 cell:Int
 val:Int
 who:Int
 gens:List Int
 deriving Inhabited,DecidableEq
structure PostD where
 src:Int
 dst:Int
 msg:MsgD
 deriving Inhabited,DecidableEq
structure DeedD where
 kind:Int
 a:Int
 b:Int
 deriving Inhabited,DecidableEq
@[simp] def fMs (m:MsgD):List T:=[.sc (.int .i64 m.kind),.sc (.int .i64 m.cell),.sc (.int .i64 m.val),.sc (.int .i64 m.who),.sl 1 (enc fI m.gens)]
@[simp] def fP (p:PostD):List T:=[.sc (.int .i64 p.src),.sc (.int .i64 p.dst),.sc (.int .i64 p.msg.kind),.sc (.int .i64 p.msg.cell),.sc (.int .i64 p.msg.val),.sc (.int .i64 p.msg.who),.sl 1 (enc fI p.msg.gens)]
@[simp] def fD (d:DeedD):List T:=[.sc (.int .i64 d.kind),.sc (.int .i64 d.a),.sc (.int .i64 d.b)]
def ins (l:List Int) (a:Int):List Int:=l.takeWhile (fun x=>decide (x<a))++a::l.dropWhile (fun x=>decide (x<a))
def mark (l:List Int) (a:Int):List Int:=if decide (a∈l)|| !inB a 0 7 then l else ins l a
theorem ins_at {l : List Int} {a : Int} {k : Nat} (hk : k <= l.length) (hp : ∀ j, j < k -> l.getD j 0 < a) (hkn : k = l.length \/ k < l.length /\ ¬ l.getD k 0 < a) : l.take k ++ [a] ++ l.drop k = ins l a := by
  unfold ins
  induction l generalizing k with
  | nil => simp
  | cons x l ih =>
    cases k with
    | zero =>
      have h : ¬ x < a := by rcases hkn with h | h; · simp at h
                             · simpa using h.2
      simp [List.takeWhile, List.dropWhile, h]
    | succ k =>
      have h : x < a := by simpa using hp 0 (by omega)
      have := ih (k := k) (by simpa using hk) (fun j hj => by simpa using hp (j + 1) (by omega)) (by rcases hkn with h | h; · left; simpa using h
                                                                                                     · right; simpa using h)
      simp only [List.takeWhile, List.dropWhile, h, decide_true, List.take_succ_cons, List.drop_succ_cons, List.cons_append] at this ⊢
      rw [this]
theorem ins_len (l:List Int) (a:Int):(ins l a).length=l.length+1:=by
 unfold ins
 have h:=congrArg List.length (List.takeWhile_append_dropWhile (p:=fun x=>decide (x<a)) (l:=l))
 rw[List.length_append]at h
 simp only[List.length_append,List.length_cons]
 omega
theorem mark_len (l:List Int) (a:Int):(mark l a).length<=l.length+1:=by
 unfold mark
 split
 ·omega
 ·rw[ins_len];omega
theorem flat_take {α:Type} {f:α->List T} {l:List α} {k:Nat} (h:flat (enc f (l.take k))=true):flat (List.take k (enc f l))=true:=by simpa only[enc,List.map_take]using h
theorem flat_drop {α:Type} {f:α->List T} {l:List α} {k:Nat} (h:flat (enc f (l.drop k))=true):flat (List.drop k (enc f l))=true:=by simpa only[enc,List.map_drop]using h
@[simp] def st147 (l:List Int) (a:Int) (j:Nat):St:={n:=46,m:=0,tm:=[(0,.im 1 (enc fI l)),(1,.sc (.int .i64 a)),(5,.sc (.int .i64 j))],ob:=[]}
theorem ev_Mark (l:List Int) (a:Int) (hl:l.length<=1048575):semK G PK md 147 [.v (.im 1 (enc fI l)),.v (.sc (.int .i64 a))]=some ⟨[.v (.own 1 (enc fI (mark l a)))],[],[]⟩:=by
 have e1:=ev_l2Has (PK:=PK) l a (by omega)
 have e2:=ev_l1In (PK:=PK) a 0 7
 have g0:l.length<=4398046511104:=by omega
 have g1:l.length*8<=35184372088832:=by omega
 refine semK_of (pf:=p147) rfl (by simp[p147]) ?_
 unfold mark
 by_cases hm:a∈l
 ·simp[p147,md,e1,hm,g0,g1]
 cases hi:inB a 0 7
 ·simp[p147,md,e1,e2,hm,hi,g0,g1]
 obtain⟨k,hk,hp,hkn⟩:=first (fun j=>l.getD j 0<a) l.length
 have g3:k<=4398046511104:=by omega
 have g4:k*8<=35184372088832:=by omega
 have g5:(k+1)*8<=35184372088832:=by omega
 have g6:(k+1+(l.length - k))*8<=35184372088832:=by omega
 have hft:flat (List.take k (enc fI l))=true:=flat_take (flat_I _)
 have hfd:flat (List.drop k (enc fI l))=true:=flat_drop (flat_I _)
 have hend:k<l.length-> ¬l.getD k 0<a:=fun h=>by
  rcases hkn with rfl|⟨_,h2⟩
  ·omega
  ·exact h2
 rw[←ins_at hk hp hkn]
 have hsz:=loop_ok (G:=G) (PK:=PK) (md:=md) (o:=10000000) (live:=[0,1,5]) (c:=b147_0) (fun j=>st147 l a j) k (fun j hj=>by
  have hj2:j<l.length:=by omega
  have hinc:=incr hj2 (by omega)
  have hlt:=hp j hj
  rw[List.getD_eq_getElem?_getD,List.getElem?_eq_getElem hj2]at hlt
  simp only[Option.getD_some]at hlt
  simp[b147_0,md,hj2,hinc,hlt]) (by
  by_cases hkl:k<l.length
  ·have h2:=hend hkl
   rw[List.getD_eq_getElem?_getD,List.getElem?_eq_getElem hkl]at h2
   simp only[Option.getD_some]at h2
   simp[b147_0,md,hkl,h2]
  ·simp[b147_0,md,hkl])
 simp[p147,md,e1,e2,hm,hi]
 rw[hsz]
 ·by_cases hkl:k<l.length
  ·have h2:=hend hkl
   rw[List.getD_eq_getElem?_getD,List.getElem?_eq_getElem hkl]at h2
   simp only[Option.getD_some]at h2
   simp[b147_0,md,hkl,h2,hk,g3,g4,g5,g6,hft,hfd]
   simp[enc,List.map_take,List.map_drop]
  ·simp[b147_0,md,hkl,hk,g3,g4,g5,g6,hft,hfd]
   simp[enc,List.map_take,List.map_drop]
 ·simp
 ·simp
def clr (l:List Int) (a:Int):List Int:=l.filter fun x=> !decide (x=a)
theorem clr_take (l:List Int) (a:Int) {j:Nat} (hj:j<l.length):clr (l.take (j+1)) a=if l[j]=a then clr (l.take j) a else clr (l.take j) a++[l[j]]:=by
 have e:l.take (j+1)=l.take j++[l[j]]:=by rw[List.take_add_one,List.getElem?_eq_getElem hj];rfl
 unfold clr
 rw[e,List.filter_append]
 by_cases h:l[j]=a
 ·rw[if_pos h];simp[h]
 ·rw[if_neg h];congr 1;simp[h]
theorem clr_len (l:List Int) (a:Int):(clr l a).length<=l.length:=List.length_filter_le _ _
@[simp] def st227 (l:List Int) (a:Int) (out:List Int) (j:Nat):St:={n:=28,m:=0,tm:=[(0,.im 1 (enc fI l)),(1,.sc (.int .i64 a)),(5,.ref 10000000 []),(6,.sc (.int .i64 j))],ob:=[(10000000,.arr 1 (enc fI out))]}
theorem ev_Clear (l:List Int) (a:Int) (hl:l.length<=1048576):semK G PK md 227 [.v (.im 1 (enc fI l)),.v (.sc (.int .i64 a))]=some ⟨[.v (.own 1 (enc fI (clr l a)))],[],[]⟩:=by
 refine semK_of (pf:=p227) rfl (by simp[p227]) ?_
 have hsz:=loop_ok (G:=G) (PK:=PK) (md:=md) (o:=10000000) (live:=[0,1,5,6]) (c:=b227_0) (fun j=>st227 l a (clr (l.take j) a) j) l.length (fun j hj=>by
  have hinc:=incr hj hl
  have hlen:=clr_len (l.take j) a
  rw[List.length_take]at hlen
  have hsuc:=clr_take l a hj
  simp only[hsuc]
  generalize clr (l.take j) a=out at hlen ⊢
  have g:out.length+1<=4398046511104:=by omega
  have g2:(out.length+1)*8<=35184372088832:=by omega
  by_cases hx:l[j]=a
  ·simp[b227_0,md,hj,hinc,hx]
  ·simp[b227_0,md,hj,hinc,hx,g,g2]
   exact enc_append fI out [l[j]]) (by simp[b227_0])
 have hfull:l.take l.length=l:=List.take_length
 simp[p227,md]
 rw[hsz]
 ·simp[b227_0,hfull]
 ·simp
 ·simp[clr]
def uni (a b:List Int):List Int:=(a++b).foldl mark []
theorem markF_len (l:List Int): ∀o:List Int,(l.foldl mark o).length<=o.length+l.length:=by
 induction l with
 |nil=>intro o;simp
 |cons x l ih=>
  intro o
  have:=ih (mark o x)
  have:=mark_len o x
  simp only[List.foldl_cons,List.length_cons]
  omega
theorem foldl_take {α β:Type} (f:β->α->β) (o:β) (l:List α) {j:Nat} {x:α} (h:l[j]? =some x):(l.take (j+1)).foldl f o=f ((l.take j).foldl f o) x:=by rw[List.take_add_one,h,List.foldl_append];rfl
@[simp] def st254_1 (a b:List Int) (out:List Int) (j:Nat):St:={n:=34,m:=0,tm:=[(0,.im 1 (enc fI a)),(1,.im 1 (enc fI b)),(5,.ref 10000000 []),(6,.sc (.int .i64 j))],ob:=[(10000000,.arr 1 (enc fI out))]}
@[simp] def st254_0 (b:List Int) (out:List Int) (j:Nat):St:={n:=34,m:=0,tm:=[(1,.im 1 (enc fI b)),(5,.ref 10000200 []),(7,.sc (.int .i64 j))],ob:=[(10000200,.arr 1 (enc fI out))]}
theorem ev_Union (a b:List Int) (ha:a.length<=500000) (hb:b.length<=500000):semK G PK md 254 [.v (.im 1 (enc fI a)),.v (.im 1 (enc fI b))]=some ⟨[.v (.own 1 (enc fI (uni a b)))],[],[]⟩:=by
 refine semK_of (pf:=p254) rfl (by simp[p254]) ?_
 have h1:=loop_ok (G:=G) (PK:=PK) (md:=md) (o:=10000000) (live:=[0,1,5,6]) (c:=b254_1) (fun j=>st254_1 a b ((a.take j).foldl mark []) j) a.length (fun j hj=>by
  obtain⟨x,hx⟩:=getElem?_of_lt hj
  obtain⟨_,hx'⟩:=at_of hx
  have hinc:=incr hj (by omega)
  have hl:=markF_len (a.take j) []
  simp only[List.length_take,List.length_nil]at hl
  simp only[foldl_take mark [] a hx]
  generalize (a.take j).foldl mark []=o at hl ⊢
  have e:=ev_Mark (PK:=PK) o x (by omega)
  simp[b254_1,md,hj,hx',hinc,e]) (by simp[b254_1])
 have h0:=loop_ok (G:=G) (PK:=PK) (md:=md) (o:=10000200) (live:=[1,5,7]) (c:=b254_0) (fun j=>st254_0 b ((b.take j).foldl mark (a.foldl mark [])) j) b.length (fun j hj=>by
  obtain⟨x,hx⟩:=getElem?_of_lt hj
  obtain⟨_,hx'⟩:=at_of hx
  have hinc:=incr hj (by omega)
  have hl0:=markF_len a []
  have hl:=markF_len (b.take j) (a.foldl mark [])
  simp only[List.length_take,List.length_nil]at hl hl0
  simp only[foldl_take mark _ b hx]
  generalize (b.take j).foldl mark (a.foldl mark [])=o at hl ⊢
  have e:=ev_Mark (PK:=PK) o x (by omega)
  simp[b254_0,md,hj,hx',hinc,e]) (by simp[b254_0])
 have hu:uni a b=(b.foldl mark (a.foldl mark [])):=by unfold uni;rw[List.foldl_append]
 rw[hu]
 simp[p254,md]
 rw[h1]
 ·simp[b254_1]
  rw[h0]
  ·simp[b254_0]
  ·simp
  ·simp
 ·simp
 ·simp
end Go.Proofs.YtbolhfegdocpeaaGreat.Ow
namespace Go.Proofs.YtbolhfegdocpeaaGreat.Ow
open Go
set_option linter.unusedVariables false
set_option linter.unusedSimpArgs false
set_option maxHeartbeats 4000000
variable {PK:Nat->List Arg->Option Res}
theorem take_snoc {α:Type} {l:List α} {j:Nat} {x:α} (h:l[j]? =some x):l.take (j+1)=l.take j++[x]:=by rw[List.take_add_one,h];rfl
@[simp] def st210 (m:MetaD) (j:Nat):St:=
 if j=0 then {n:=32,m:=0,tm:=[(1,.pb 10000000 0),(2,.pb 10000001 0),(3,.pb 10000002 0),(4,.sc (.int .i64 j))],ob:=[(10000000,mbox m),(10000001,.box [.nil 1,.nil 1,.sc (.bool false),.sc (.bool false),.sc (.bool false),.sc (.int .i64 0)]),(10000002,.box [.ref 10000003 [],.nil 1,.sc (.bool m.fine),.sc (.bool m.old),.sc (.bool m.held),.sc (.int .i64 m.last)]),(10000003,.arr 1 (enc fI m.gens))]}
 else {n:=32,m:=0,tm:=[(1,.pb 10000000 0),(2,.pb 10000001 0),(3,.pb 10000002 0),(4,.sc (.int .i64 j))],ob:=[(10000000,mbox m),(10000001,.box [.nil 1,.nil 1,.sc (.bool false),.sc (.bool false),.sc (.bool false),.sc (.int .i64 0)]),(10000002,.box [.ref 10000003 [],.ref 10000004 [],.sc (.bool m.fine),.sc (.bool m.old),.sc (.bool m.held),.sc (.int .i64 m.last)]),(10000003,.arr 1 (enc fI m.gens)),(10000004,.arr 1 (enc fII (m.bits.take j)))]}
theorem ev_l5Copy (m:MetaD) (hm:mtS m):semK G PK md 210 [.a (lents (fM m))]=some ⟨[.a (owneds (fM m))],[],[]⟩:=by
 refine semK_of (pf:=p210) rfl (by simp[p210]) ?_
 obtain⟨hg,hb,hbb⟩:=hm
 have g1:m.gens.length<=4398046511104:=by omega
 have g2:m.gens.length*8<=35184372088832:=by omega
 have hs:=loop_ok (G:=G) (PK:=PK) (md:=md) (o:=10000000) (live:=[1,2,3,4]) (c:=b210_0) (st210 m) m.bits.length (fun j hj=>by
  obtain⟨x,y1,hx,hx',_,hxm⟩:=getDD_ex m.bits hj
  have hinc:=incr hj hb
  have hxl:=hbb x hxm
  have g3:x.length<=4398046511104:=by omega
  have g4:x.length*8<=35184372088832:=by omega
  have g5:(j+1)*24<=35184372088832:=by omega
  have hmin:min j m.bits.length=j:=by omega
  have hsn:=take_snoc hx
  have hen:enc fII (List.take (j+1) m.bits)=enc fII (List.take j m.bits)++[[T.sl 1 (enc fI x)]]:=by rw[hsn];simp[enc]
  by_cases h0:j=0
  ·subst h0
   simp at hx' hinc
   simp[b210_0,md,hj,hx',g3,g4,hinc,Alike2]
   simpa using hen.symm
  ·simp[b210_0,md,hj,hx',g3,g4,g5,hmin,hinc,h0,hen,Alike2]) (by
  by_cases h0:m.bits.length=0
  ·simp[b210_0,h0]
  ·simp[b210_0,h0])
 simp[p210,md,g1,g2]
 rw[hs]
 ·by_cases h0:m.bits.length=0
  ·have:m.bits=[]:=List.eq_nil_of_length_eq_zero h0
   simp[b210_0,this]
  ·simp[b210_0,h0]
 ·simp
 ·simp
def mate (i:Int):Int:=if inB i 0 1 then 1 - i else -1
theorem ev_spec_Mate (i:Int):semK G PK md 206 [.v (.sc (.int .i64 i))]=some ⟨[.v (.sc (.int .i64 (mate i)))],[],[]⟩:=by
 refine semK_of (pf:=p206) rfl (by simp[p206]) ?_
 have e:=ev_l1In (PK:=PK) i 0 1
 unfold mate
 cases h:inB i 0 1
 ·simp[p206,md,e,h]
 ·have h1:=inB_iff.1 h
  have hw:IntKind.wrap .i64 (1 - i)=1 - i:=wrap_id (by omega) (by omega)
  simp[p206,md,e,h,hw]
def genPush (g:List Int) (n:Int):List Int:=if gnOk ((n::g).take 12)then(n::g).take 12 else g
theorem ev_spec_GenPush (g:List Int) (n:Int) (hg:g.length<=1000000):semK G PK md 179 [.v (.im 1 (enc fI g)),.v (.sc (.int .i64 n))]=some ⟨[.v (.own 1 (enc fI (genPush g n)))],[],[]⟩:=by
 refine semK_of (pf:=p179) rfl (by simp[p179]) ?_
 have g1:g.length<=4398046511104:=by omega
 have g2:g.length*8<=35184372088832:=by omega
 have g3:(1+g.length)*8<=35184372088832:=by omega
 have e:=ev_spec_GensOk (PK:=PK) ((n::g).take 12) (by rw[List.length_take];omega)
 unfold genPush
 have hen:enc fI ((n::g).take 12)=([.sc (.int .i64 n)]::enc fI g).take 12:=by rw[←enc_take];rfl
 have hf:flat (List.take 12 ([.sc (.int .i64 n)]::enc fI g))=true:=by rw[←hen];exact flat_I _
 rw[hen]at e
 by_cases hl:11<g.length
 ·have h1: ¬ (g.length:Int)+1<=12:=by omega
  have h2:(12:Int)<(g.length:Int)+1:=by omega
  have h3:min 12 (g.length+1)=12:=by omega
  have h4:min 11 g.length=11:=by omega
  have h5:11<=g.length:=by omega
  simp at e hf
  cases hk:gnOk ((n::g).take 12)<;>simp at hk<;>simp[p179,md,g1,g2,g3,h2,h3,h4,h5,e,hk,hf]
  rw[enc_take]
 ·have h2: ¬ (12:Int)<(g.length:Int)+1:=by omega
  have h5:g.take 11=g:=List.take_of_length_le (by omega)
  have h6:(enc fI g).take 11=enc fI g:=List.take_of_length_le (by rw[enc_len];omega)
  simp[h5,h6]at e hf
  cases hk:gnOk ((n::g).take 12)<;>simp[h5]at hk<;>simp[p179,md,g1,g2,g3,h2,e,hk,hf,h5]
def newer (a b:List Int):Int:=if a.getD 0 0=b.getD 0 0 then 0 else if b.getD 0 0∈a then 1 else if a.getD 0 0∈b then 2 else 3
theorem ev_spec_Newer (a b:List Int) (ha:0<a.length) (hb:0<b.length) (la:a.length<=1048576) (lb:b.length<=1048576):semK G PK md 253 [.v (.im 1 (enc fI a)),.v (.im 1 (enc fI b))]=some ⟨[.v (.sc (.int .i64 (newer a b)))],[],[]⟩:=by
 refine semK_of (pf:=p253) rfl (by simp[p253]) ?_
 obtain⟨x,y1,hx,hx',hxd⟩:=getD_ex a ha
 obtain⟨y,y2,hy,hy',hyd⟩:=getD_ex b hb
 have e1:=ev_l2Has (PK:=PK) a y la
 have e2:=ev_l2Has (PK:=PK) b x lb
 have n1: ¬ (a.length=0):=by omega
 have n2: ¬ (b.length=0):=by omega
 have n3:a≠[]:=List.length_pos_iff.1 ha
 have n4:b≠[]:=List.length_pos_iff.1 hb
 unfold newer
 rw[hxd,hyd]
 by_cases h1:x=y
 ·simp[p253,md,ha,hb,n1,n2,n3,n4,hx',hy',h1]
 by_cases h2:y∈a
 ·simp[p253,md,ha,hb,n1,n2,n3,n4,hx',hy',h1,e1,h2]
 by_cases h3:x∈b<;>simp[p253,md,ha,hb,n1,n2,n3,n4,hx',hy',h1,e1,e2,h2,h3]
@[simp] def zbox:Obj:= .box [.sc (.int .i64 0),.sc (.bool false),.sc (.bool false),.nil 1,.nil 1,.nil 1,.sc (.bool false),.sc (.bool false),.sc (.bool false),.sc (.int .i64 0),.nil 1,.nil 1,.nil 1,.nil 1,.nil 1,.nil 1]
@[simp] def st191 (n:NodeD) (j:Nat):St:=
 if j=0 then {n:=55,m:=0,tm:=[(1,.pb 10000000 0),(2,.pb 10000001 0),(3,.pb 10000002 0),(4,.sc (.int .i64 j))],ob:=[(10000000,nbox n),(10000001,zbox),(10000002,.box [.sc (.int .i64 n.id),.sc (.bool n.up),.sc (.bool n.prime),.ref 10000003 [],.ref 10000004 [],.ref 10000005 [],.sc (.bool n.mt.fine),.sc (.bool n.mt.old),.sc (.bool n.mt.held),.sc (.int .i64 n.mt.last),.ref 10000006 [],.ref 10000007 [],.ref 10000008 [],.nil 1,.ref 10000009 [],.ref 10000010 []]),(10000003,.arr 1 (enc fI n.image)),(10000004,.arr 1 (enc fI n.mt.gens)),(10000005,.arr 1 (enc fII n.mt.bits)),(10000006,.arr 1 (enc fU n.sl.a)),(10000007,.arr 1 (enc fU n.sl.b)),(10000008,.arr 1 (enc fL n.conn)),(10000009,.arr 1 (enc fL n.copies)),(10000010,.arr 1 (enc fI n.wait))]}
 else {n:=55,m:=0,tm:=[(1,.pb 10000000 0),(2,.pb 10000001 0),(3,.pb 10000002 0),(4,.sc (.int .i64 j))],ob:=[(10000000,nbox n),(10000001,zbox),(10000002,.box [.sc (.int .i64 n.id),.sc (.bool n.up),.sc (.bool n.prime),.ref 10000003 [],.ref 10000004 [],.ref 10000005 [],.sc (.bool n.mt.fine),.sc (.bool n.mt.old),.sc (.bool n.mt.held),.sc (.int .i64 n.mt.last),.ref 10000006 [],.ref 10000007 [],.ref 10000008 [],.ref 10000009 [],.ref 10000010 [],.ref 10000011 []]),(10000003,.arr 1 (enc fI n.image)),(10000004,.arr 1 (enc fI n.mt.gens)),(10000005,.arr 1 (enc fII n.mt.bits)),(10000006,.arr 1 (enc fU n.sl.a)),(10000007,.arr 1 (enc fU n.sl.b)),(10000008,.arr 1 (enc fL n.conn)),(10000009,.arr 1 (enc fII (n.sync.take j))),(10000010,.arr 1 (enc fL n.copies)),(10000011,.arr 1 (enc fI n.wait))]}
theorem ev_l8Copy (n:NodeD) (hn:nS n):semK G PK md 191 [.a (lents (fN n))]=some ⟨[.a (owneds (fN n))],[],[]⟩:=by
 refine semK_of (pf:=p191) rfl (by simp[p191]) ?_
 have e1:=ev_l5Copy (PK:=PK) n.mt hn.mt
 have e2:=ev_l6Copy (PK:=PK) n.sl hn.sl.1.1 hn.sl.2.1
 simp only[lents,lent,fM,fSl,owneds,owned]at e1 e2
 obtain⟨hb,hbb⟩:=hn.sync
 have a1:=hn.image
 have a2:=hn.conn
 have a3:=hn.copies
 have a4:=hn.wait
 have g1:n.image.length<=4398046511104:=by omega
 have g2:n.image.length*8<=35184372088832:=by omega
 have g3:n.conn.length<=35184372088832:=by omega
 have g4:n.copies.length<=35184372088832:=by omega
 have g5:n.wait.length<=4398046511104:=by omega
 have g6:n.wait.length*8<=35184372088832:=by omega
 have hs:=loop_ok (G:=G) (PK:=PK) (md:=md) (o:=10000000) (live:=[1,2,3,4]) (c:=b191_0) (st191 n) n.sync.length (fun j hj=>by
  obtain⟨x,y1,hx,hx',_,hxm⟩:=getDD_ex n.sync hj
  have hinc:=incr hj hb
  have hxl:=hbb x hxm
  have g3:x.length<=4398046511104:=by omega
  have g4:x.length*8<=35184372088832:=by omega
  have g5:(j+1)*24<=35184372088832:=by omega
  have hmin:min j n.sync.length=j:=by omega
  have hsn:=take_snoc hx
  have hen:enc fII (List.take (j+1) n.sync)=enc fII (List.take j n.sync)++[[T.sl 1 (enc fI x)]]:=by rw[hsn];simp[enc]
  by_cases h0:j=0
  ·subst h0
   simp at hx' hinc
   simp[b191_0,md,hj,hx',g3,g4,hinc,Alike2]
   simpa using hen.symm
  ·simp[b191_0,md,hj,hx',g3,g4,g5,hmin,hinc,h0,hen,Alike2]) (by
  by_cases h0:n.sync.length=0
  ·simp[b191_0,h0]
  ·simp[b191_0,h0])
 simp[p191,md,g1,g2,g3,g4,g5,g6,e1,e2]
 rw[hs]
 ·by_cases h0:n.sync.length=0
  ·have:n.sync=[]:=List.eq_nil_of_length_eq_zero h0
   simp[b191_0,this]
  ·simp[b191_0,h0]
 ·simp
 ·simp
end Go.Proofs.YtbolhfegdocpeaaGreat.Ow
