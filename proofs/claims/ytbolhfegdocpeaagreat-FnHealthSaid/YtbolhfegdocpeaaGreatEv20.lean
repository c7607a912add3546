/- Functions evaluated on the small machine: A line cut: what the reference makes of a world, What is sent: what the reference makes of a world. -/
import Derived.Test.YtbolhfegdocpeaaGreatEv19
import Derived.Test.YtbolhfegdocpeaaGreatEv11
namespace Go.Proofs.YtbolhfegdocpeaaGreat.Ow
open Go
set_option linter.unusedVariables false
set_option linter.unusedSimpArgs false
set_option maxHeartbeats 16000000
variable {PK:Nat->List Arg->Option Res}
@[simp] theorem set_L (l:List Bool) (i:Nat) (b:Bool):(enc fL l).set i [.sc (.bool b)]=enc fL (l.set i b):=Bc fL l i b
@[simp] theorem set_II (l:List (List Int)) (i:Nat) (x:List Int):(enc fII l).set i [.sl 1 (enc fI x)]=enc fII (l.set i x):=Bc fII l i x
@[simp] theorem set_II0 (l:List (List Int)) (i:Nat):(enc fII l).set i [.sl 1 []]=enc fII (l.set i []):=Bc fII l i []
@[simp] theorem set_N (l:List AG) (i:Nat) (id:Int) (up pr:Bool) (im ge:List Int) (bi:List (List Int)) (fi ol he:Bool) (la:Int) (sa sb:List Int) (co:List Bool) (sy:List (List Int)) (cp:List Bool) (wa:List Int):
  (enc fN l).set i [.sc (.int .i64 id),.sc (.bool up),.sc (.bool pr),.sl 1 (enc fI im),.sl 1 (enc fI ge),.sl 1 (enc fII bi),.sc (.bool fi),.sc (.bool ol),.sc (.bool he),.sc (.int .i64 la),.sl 1 (enc fU sa),.sl 1 (enc fU sb),.sl 1 (enc fL co),.sl 1 (enc fII sy),.sl 1 (enc fL cp),.sl 1 (enc fI wa)]=enc fN (l.set i ⟨id,up,pr,im,⟨ge,bi,fi,ol,he,la⟩,⟨sa,sb⟩,co,sy,cp,wa⟩):=Bc fN l i ⟨id,up,pr,im,⟨ge,bi,fi,ol,he,la⟩,⟨sa,sb⟩,co,sy,cp,wa⟩
theorem tfb (x y:Int):((x=y)=True/\(x==y)=true)\/((x=y)=False/\(x==y)=false):=by
 by_cases h:x=y
 ·left;simp[h]
 ·right;simp[h]
def DS (a b:Int) (x:DC):Bool:= !(decide (x.src=a)&&decide (x.dst=b)||decide (x.src=b)&&decide (x.dst=a))
def NX (net:List DC) (a b:Int) (i:Nat) (r:List T):List T:=if DS a b (net.getD i zW)then [.sc (.int .i64 (net.getD i zW).src),.sc (.int .i64 (net.getD i zW).dst),.hole]else r
def EH (net:List DC) (a b:Int) (j:Nat):List (List T):=upd (NX net a b) (enc fW net) j
@[simp] def st200 (w:AB) (a b:Int) (out:List DC) (j:Nat) (rows:List (List T)):St:={n:=101,m:=4,tm:=[(1,.sc (.int .i64 a)),(2,.sc (.int .i64 b)),(3,.pb 10000000 0),(6,.pb 10000001 0),(7,.ref 10000002 []),(8,.sc (.int .i64 j))],ob:=[(0,.arr 16 (enc fN w.nodes)),(1,.arr 3 rows),(2,.arr 2 (enc fR w.log)),(3,.arr 1 (enc fI w.safe)),(10000000,.box [.ref 0 [],.ref 1 [],.ref 2 [],.ref 3 [],.sc (.int .i64 w.gen)]),(10000001,.box [.nil 16,.nil 3,.nil 2,.nil 1,.sc (.int .i64 0)]),(10000002,.arr 3 (enc fW out))]}
theorem lp_Cut (w : AB) (a b : Int) (hn : w.net.length <= 1048576) : ∀ (t : St), t.m <= 10000000 -> Ai 10000000 [1, 2, 3, 6, 7, 8] t = st200 w a b [] 0 (EH w.net a b 0) -> Ag G PK md 10000000 [1, 2, 3, 6, 7, 8] b200_0 t = An (AH G PK md) (Ag G PK md) md b200_0 (st200 w a b (w.net.filter (DS a b)) w.net.length (EH w.net a b w.net.length)) := by
  have hf : w.net.take w.net.length = w.net := List.take_length;have h := AL (G := G) (PK := PK) (md := md) (o := 10000000) (live := [1, 2, 3, 6, 7, 8]) (c := b200_0) (fun j => st200 w a b ((w.net.take j).filter (DS a b)) j (EH w.net a b j)) w.net.length (fun j hj => by
    obtain ⟨x, y1, hx, hx', hxd, hxm⟩ := Ay w.net zW hj;have hinc := A2 hj hn;have hl : ((w.net.take j).filter (DS a b)).length <= j := by
      have := List.length_filter_le (DS a b) (w.net.take j);rw [List.length_take] at this;omega
    have hsn : (w.net.take (j + 1)).filter (DS a b) = (w.net.take j).filter (DS a b) ++ (if DS a b x then [x] else []) := by rw [EP hx, List.filter_append]; simp [List.filter_cons]
    have hg : (enc fW w.net)[j]? = some (fW x) := by rw [Kn, hx]; rfl
    have hug := RR (NX w.net a b) hg;have hus := RQ (NX w.net a b) hg;have hul := Ny (NX w.net a b) (enc fW w.net) j;rw [Da] at hul;rw [hsn];unfold EH;rw [← hus];generalize upd (NX w.net a b) (enc fW w.net) j = rows at *;have hjr : j < rows.length := by omega
    have hrj : rows[j] = fW x := by simpa [hjr] using hug
    generalize (w.net.take j).filter (DS a b) = out at *;unfold NX;rw [hxd];have g1 : (out.length + 1) * 40 <= 35184372088832 := by omega
    have hss : rows.set j (fW x) = rows := by rw [← hrj]; exact List.set_getElem_self hjr
    have hss2 : rows.set j [T.sc (.int .i64 x.src), T.sc (.int .i64 x.dst), T.sl 1 (enc fU x.bytes)] = rows := hss;have hrj2 : rows[j] = [T.sc (.int .i64 x.src), T.sc (.int .i64 x.dst), T.sl 1 (enc fU x.bytes)] := hrj;have hap : enc fW out ++ [[T.sc (.int .i64 x.src), T.sc (.int .i64 x.dst), T.sl 1 (enc fU x.bytes)]] = enc fW (out ++ [x]) := by simp [enc]
    have hlr : rows.length = w.net.length := hul;have hjl : (j : Int) < rows.length := by omega
    rcases tfb x.src a with ⟨c1, d1⟩ | ⟨c1, d1⟩ <;> rcases tfb x.dst b with ⟨c2, d2⟩ | ⟨c2, d2⟩ <;> rcases tfb x.src b with ⟨c3, d3⟩ | ⟨c3, d3⟩ <;> rcases tfb x.dst a with ⟨c4, d4⟩ | ⟨c4, d4⟩ <;>
      first
      | (have hk : DS a b x = true := by simp [DS, c1, c2, c3, c4]
         simp only [hk, if_true]
         simp [b200_0, md, hjr, hlr, hj, hrj2, hinc, g1, hap, c1, c2, c3, c4, d1, d2, d3, d4]; done)
      | (have hk : DS a b x = false := by simp [DS, c1, c2, c3, c4]
         simp only [hk, Bool.false_eq_true, if_false, hss, List.append_nil]
         simp [b200_0, md, hjr, hlr, hj, hrj2, hinc, g1, c1, c2, c3, c4, d1, d2, d3, d4]; done)) (by
    simp [b200_0, EH])
  simp only [hf] at h;exact h
theorem set6 {α:Type} (l:List α) {a b:Nat} (h:a≠b) (p q r s t u:α):(((((l.set a p).set b q).set a r).set b s).set a t).set b u=(l.set a t).set b u:=by
 apply List.ext_getElem?;intro i;simp only[List.getElem?_set,List.length_set];by_cases h1:b=i
 ·simp[h1]
 ·by_cases h2:a=i
  ·simp[h1,h2]
  ·simp[h1,h2]
def E5 (n:AG) (k:Nat):AG:={n with conn:=n.conn.set k false,copies:=n.copies.set k false,sync:=n.sync.set k []}
def Db (w:AB) (a b:Nat):AB:={w with nodes:=(w.nodes.set a (E5 (nd w a) b)).set b (E5 (nd w b) a),net:=w.net.filter (DS a b)}
theorem FV (w:AB) (a b:Nat) (h3:w.nodes.length=3) (ha:a<3) (hb:b<3) (hab:a≠b) (hn:w.net.length<=1048576) (hx: ∀x∈w.nodes,x.conn.length=3/\x.copies.length=3/\x.sync.length=3):
  AH G PK md 200 [.a (AD (fWo w)),.v (.sc (.int .i64 a)),.v (.sc (.int .i64 b))]=some ⟨[.a (AD (fWo (Db w a b)))],[none,some (EH w.net a b w.net.length),none,none],[]⟩:=by
 refine AA (pf:=p200) rfl (by simp[p200]) ?_
 have hlp:=lp_Cut (PK:=PK) w a b hn
 obtain⟨x,y1,hx1,hx',hxd,hxm⟩:=Ay w.nodes zN (j:=a) (by omega)
 obtain⟨y,y2,hy1,hy',hyd,hym⟩:=Ay w.nodes zN (j:=b) (by omega)
 obtain⟨x1,x2,x3⟩:=hx x hxm
 obtain⟨z1,z2,z3⟩:=hx y hym
 have hxa:nd w a=x:=hxd
 have hyb:nd w b=y:=hyd
 unfold Db
 rw[hxa,hyb]
 unfold E5
 have hba:b≠a:=hab.symm
 have q1:b<x.conn.length:=by omega
 have q2:a<y.conn.length:=by omega
 have q3:b<x.copies.length:=by omega
 have q4:a<y.copies.length:=by omega
 obtain⟨c1,q5,_,c1',_,_⟩:=Ax x.sync (j:=b) (by omega)
 obtain⟨c2,q6,_,c2',_,_⟩:=Ax y.sync (j:=a) (by omega)
 have h0:EH w.net a b 0=enc fW w.net:=O0 _ _
 have hhl:(EH w.net a b w.net.length).length=w.net.length:=by unfold EH;rw[Ny,Da]
 generalize EH w.net a b w.net.length=hr at*
 simp[p200,md]
 rw[hlp]
 ·simp (config:={maxSteps:=10000000}) [b200_0,hhl,y1,y2,hx',hy',q1,q2,q3,q4,q5,q6,c1',c2',hab,hba,List.getElem_set]
  rw[set6 _ hab]
 ·simp
 ·simp[h0]
def Ro (a b:Int) (m:BI):List Int:=if KS a b then Qm [m]else BE m
structure WL (w:AB):Prop where
 n3:w.nodes.length=3
 c3: ∀x∈w.nodes,x.conn.length=3/\x.copies.length=3/\x.sync.length=3
 net:w.net.length<=2000
def Hd (p:Ci):Prop:= ∃i k:Nat,i<3/\k<3/\i≠k/\p.src=i/\p.dst=k/\p.msg.gens.length<=1000
def Jf (w:AB) (a b:Int):Bool:=(nd w a.toNat).conn.getD b.toNat false
def J0 (w:AB) (p:Ci):AB:=if Jf w p.src p.dst then(if 40<=w.net.length then Db w p.src.toNat p.dst.toNat else {w with net:=w.net++[⟨p.src,p.dst,Ro p.src p.dst p.msg⟩]})else w
def F7 (w:AB) (l:List Ci):AB:=l.foldl J0 w
theorem OH {w:AB} {i:Nat} (h:i<w.nodes.length):nd w i∈w.nodes:=by
 obtain⟨x,_,_,_,hd,hm⟩:=Ay w.nodes zN h;unfold nd;rw[hd];exact hm
theorem cutW_WL {w:AB} {a b:Nat} (h:WL w) (ha:a<3) (hb:b<3):WL (Db w a b):=by
 have h1:=h.c3 _ (OH (w:=w) (i:=a) (by have:=h.n3;omega));have h2:=h.c3 _ (OH (w:=w) (i:=b) (by have:=h.n3;omega));refine⟨by unfold Db;simp only[List.length_set];exact h.n3,fun x hx=> ?_,by have:=List.length_filter_le (DS a b) w.net;have:=h.net;unfold Db;simp only;omega⟩;unfold Db at hx;rcases List.mem_or_eq_of_mem_set hx with hx|rfl
 ·rcases List.mem_or_eq_of_mem_set hx with hx|rfl
  ·exact h.c3 x hx
  ·unfold E5;simp only[List.length_set];exact h1
 ·unfold E5;simp only[List.length_set];exact h2
theorem O7 {w:AB} {p:Ci} (h:WL w) (hp:Hd p):WL (J0 w p)/\(J0 w p).net.length<=max w.net.length 40:=by
 obtain⟨i,k,hi,hk,_,h1,h2,_⟩:=hp;unfold J0;rw[h1,h2];simp only[Int.toNat_natCast];split
 ·split
  ·refine⟨cutW_WL h hi hk,?_⟩;have:=List.length_filter_le (DS i k) w.net;unfold Db;simp only;omega
  ·refine⟨⟨h.n3,h.c3,?_⟩,?_⟩
   ·simp only[List.length_append,List.length_cons,List.length_nil];omega
   ·simp only[List.length_append,List.length_cons,List.length_nil];omega
 ·exact⟨h,by omega⟩
structure SdS where
 w:AB
 sh:Nat
 rows:List (List T)
def sdF (s:SdS) (p:Ci):SdS:=⟨J0 s.w p,
 if Jf s.w p.src p.dst then(if 40<=s.w.net.length then(if s.sh=0 then 2 else if s.sh=1 then 3 else s.sh)else(if s.sh=0 then 1 else s.sh))else s.sh,
 if Jf s.w p.src p.dst/\40<=s.w.net.length/\s.sh=0 then EH s.w.net p.src p.dst s.w.net.length else s.rows⟩
@[simp] def obW (w:AB) (sh:Nat) (rows:List (List T)) (o:Nat):List (Nat×Obj):=
 if sh=0 then [(0,.arr 16 (enc fN w.nodes)),(1,.arr 3 (enc fW w.net)),(2,.arr 2 (enc fR w.log)),(3,.arr 1 (enc fI w.safe)),(o,.box [.ref 0 [],.ref 1 [],.ref 2 [],.ref 3 [],.sc (.int .i64 w.gen)]),(o+1,.box [.nil 16,.nil 3,.nil 2,.nil 1,.sc (.int .i64 0)])]
 else if sh=1 then [(0,.arr 16 (enc fN w.nodes)),(2,.arr 2 (enc fR w.log)),(3,.arr 1 (enc fI w.safe)),(o,.box [.ref 0 [],.ref (o+2) [],.ref 2 [],.ref 3 [],.sc (.int .i64 w.gen)]),(o+1,.box [.nil 16,.nil 3,.nil 2,.nil 1,.sc (.int .i64 0)]),(o+2,.arr 3 (enc fW w.net))]
 else if sh=2 then [(1,.arr 3 rows),(o,.box [.ref (o+2) [],.ref (o+3) [],.ref (o+4) [],.ref (o+5) [],.sc (.int .i64 w.gen)]),(o+1,.box [.nil 16,.nil 3,.nil 2,.nil 1,.sc (.int .i64 0)]),(o+2,.arr 16 (enc fN w.nodes)),(o+3,.arr 3 (enc fW w.net)),(o+4,.arr 2 (enc fR w.log)),(o+5,.arr 1 (enc fI w.safe))]
 else [(o,.box [.ref (o+2) [],.ref (o+3) [],.ref (o+4) [],.ref (o+5) [],.sc (.int .i64 w.gen)]),(o+1,.box [.nil 16,.nil 3,.nil 2,.nil 1,.sc (.int .i64 0)]),(o+2,.arr 16 (enc fN w.nodes)),(o+3,.arr 3 (enc fW w.net)),(o+4,.arr 2 (enc fR w.log)),(o+5,.arr 1 (enc fI w.safe))]
@[simp] def st203 (l:List Ci) (s:SdS) (j:Nat):St:={n:=64,m:=4,tm:=[(1,.im 7 (enc fP l)),(2,.pb 10000000 0),(4,.pb 10000001 0),(5,.sc (.int .i64 j))],ob:=obW s.w s.sh s.rows 10000000}
theorem QY {l:List Ci} (hp: ∀p∈l,Hd p): ∀s:SdS,WL s.w->s.sh<4->WL (l.foldl sdF s).w/\(l.foldl sdF s).sh<4/\(l.foldl sdF s).w=F7 s.w l:=by
 induction l with
 |nil=>intro s h1 h2;exact⟨h1,h2,rfl⟩
 |cons p l ih=>
  intro s h1 h2;have hw:=(O7 h1 (hp p List.mem_cons_self)).1;have h3:(sdF s p).sh<4:=by
   unfold sdF;simp only;split
   ·split<;>split<;>(try split)<;>omega
   ·exact h2
  exact ih (fun q hq=>hp q (List.mem_cons_of_mem _ hq)) (sdF s p) hw h3
theorem lp_Send (w:AB) (l:List Ci) (hw:WL w) (hl:l.length<=1000) (hp: ∀p∈l,Hd p): ∀ (t:St),t.m<=10000000->Ai 10000000 [1,2,4,5] t=st203 l ⟨w,0,[]⟩ 0->Ag G PK md 10000000 [1,2,4,5] b203_0 t=An (AH G PK md) (Ag G PK md) md b203_0 (st203 l (l.foldl sdF ⟨w,0,[]⟩) l.length):=by
 have hf:l.take l.length=l:=List.take_length;have h:=AL (G:=G) (PK:=PK) (md:=md) (o:=10000000) (live:=[1,2,4,5]) (c:=b203_0) (fun j=>st203 l ((l.take j).foldl sdF ⟨w,0,[]⟩) j) l.length (fun j hj=>by
  obtain⟨p,hx⟩:=AE hj;obtain⟨_,hx'⟩:=Ba hx;have hpm:=hp p (List.mem_of_getElem? hx);have hinc:=A2 hj (by omega);obtain⟨i1,i2,_⟩:=QY (l:=l.take j) (fun q hq=>hp q (List.mem_of_mem_take hq)) ⟨w,0,[]⟩ hw (by simp);simp only[Dp sdF _ l hx];generalize (l.take j).foldl sdF ⟨w,0,[]⟩=s at*;obtain⟨v,sh,rows⟩:=s;simp only at i1 i2;obtain⟨ps,pd,pm⟩:=p;obtain⟨i,k,hi,hk,hik,hs1,hs2,hg⟩:=hpm;simp only at hs1 hs2 hg;subst hs1;subst hs2;unfold sdF J0 Jf;simp only[Int.toNat_natCast];have hn3:=i1.n3;obtain⟨x,y1,hxi,hxi',hxd,hxm⟩:=Ay v.nodes zN (j:=i) (by omega);have hxn:nd v i=x:=hxd;obtain⟨x1,x2,x3⟩:=i1.c3 x hxm;obtain⟨c,q1,_,c1',hcd⟩:=A1 x.conn (j:=k) (by omega);rw[hxn,hcd];have e1:=FV (PK:=PK) v i k hn3 hi hk hik (by have:=i1.net;omega) i1.c3;have e2:=Co (PK:=PK) pm (by omega);have e3:=Jp (PK:=PK) i k;have e4:=I7 (PK:=PK) [pm] (by simp) (fun m hm=>by rw[List.mem_singleton.1 hm];omega);simp only[AJ,lent,fMs,fWo,AD,AX,BZ,BK]at e1 e2 e4
  cases c
  ·rcases(by omega:sh=0\/sh=1\/sh=2\/sh=3)with rfl|rfl|rfl|rfl<;>simp[b203_0,md,hj,hx',y1,hxi',q1,c1',hinc]
  by_cases hnl:40<=v.net.length
  ·have hnl':(40:Int)<=v.net.length:=by omega
   generalize hcw:Db v i k=cw at*;generalize EH v.net i k v.net.length=hr at*;rcases(by omega:sh=0\/sh=1\/sh=2\/sh=3)with rfl|rfl|rfl|rfl<;>simp[b203_0,md,hj,hx',y1,hxi',q1,c1',hinc,hnl,hnl',e1]
  ·have hnl': ¬ (40:Int)<=v.net.length:=by omega
   have g1:(v.net.length+1)*40<=35184372088832:=by omega
   unfold Ro
   cases hf2:KS (i:Int) k
   ·rw[hf2]at e3;rcases(by omega:sh=0\/sh=1\/sh=2\/sh=3)with rfl|rfl|rfl|rfl<;>simp[b203_0,md,hj,hx',y1,hxi',q1,c1',hinc,hnl,hnl',e2,e3,g1]<;>simp[enc]
   ·rw[hf2]at e3;rcases(by omega:sh=0\/sh=1\/sh=2\/sh=3)with rfl|rfl|rfl|rfl<;>simp[b203_0,md,hj,hx',y1,hxi',q1,c1',hinc,hnl,hnl',e2,e3,e4,g1]<;>simp[enc]) (by
  obtain⟨_,i2,_⟩:=QY (l:=l.take l.length) (fun q hq=>hp q (List.mem_of_mem_take hq)) ⟨w,0,[]⟩ hw (by simp);generalize (l.take l.length).foldl sdF ⟨w,0,[]⟩=s at*;obtain⟨v,sh,rows⟩:=s;simp only at i2;rcases(by omega:sh=0\/sh=1\/sh=2\/sh=3)with rfl|rfl|rfl|rfl<;>simp[b203_0])
 simp only[hf]at h;exact h
def Qw (fin:List (Option (List (List T)))):Prop:=fin=[none,none,none,none]\/ ∃rows,fin=[none,some rows,none,none]
theorem Dq (w:AB) (l:List Ci) (hw:WL w) (hl:l.length<=1000) (hp: ∀p∈l,Hd p): ∃fin,Qw fin/\AH G PK md 203 [.a (AD (fWo w)),.v (.im 7 (enc fP l))]=some ⟨[.a (AD (fWo (F7 w l)))],fin,[]⟩:=by
 have h1:=lp_Send (PK:=PK) w l hw hl hp;obtain⟨_,i2,i3⟩:=QY hp ⟨w,0,[]⟩ hw (by simp);simp only at i3;rw[←i3];generalize l.foldl sdF ⟨w,0,[]⟩=s at*;obtain⟨v,sh,rows⟩:=s;simp only at i2 ⊢;rcases(by omega:sh=0\/sh=1\/sh=2\/sh=3)with rfl|rfl|rfl|rfl
 ·refine⟨[none,none,none,none],.inl rfl,AA (pf:=p203) rfl (by simp[p203]) ?_⟩;simp[p203,md];rw[h1]
  ·simp[b203_0]
  ·simp
  ·simp
 ·refine⟨[none,none,none,none],.inl rfl,AA (pf:=p203) rfl (by simp[p203]) ?_⟩;simp[p203,md];rw[h1]
  ·simp[b203_0]
  ·simp
  ·simp
 ·refine⟨[none,some rows,none,none],.inr ⟨rows,rfl⟩,AA (pf:=p203) rfl (by simp[p203]) ?_⟩;simp[p203,md];rw[h1]
  ·simp[b203_0]
  ·simp
  ·simp
 ·refine⟨[none,none,none,none],.inl rfl,AA (pf:=p203) rfl (by simp[p203]) ?_⟩;simp[p203,md];rw[h1]
  ·simp[b203_0]
  ·simp
  ·simp
end Go.Proofs.YtbolhfegdocpeaaGreat.Ow
