/- Functions evaluated on the small machine: A line cut: what the reference makes of a world, What is sent: what the reference makes of a world, A write: what the reference makes of a world. -/
import Derived.Test.YtghgecpicnfgpaaGreatEv15
import Derived.Test.YtghgecpicnfgpaaGreatEv10
import Derived.Test.YtghgecpicnfgpaaGreatEv12
import Derived.Test.YtghgecpicnfgpaaGreatEv13
namespace Go.Proofs.YtghgecpicnfgpaaGreat.Ow
open Go
set_option linter.unusedVariables false
set_option linter.unusedSimpArgs false
set_option maxHeartbeats 16000000
@[simp] theorem set_L (l:List Bool) (i:Nat) (b:Bool):(enc fL l).set i [.sc (.bool b)]=enc fL (l.set i b):=A3 fL l i b
@[simp] theorem set_II (l:List LI) (i:Nat) (x:LI):(enc fII l).set i [.sl 1 (enc fI x)]=enc fII (l.set i x):=A3 fII l i x
@[simp] theorem set_II0 (l:List LI) (i:Nat):(enc fII l).set i [.sl 1 []]=enc fII (l.set i []):=A3 fII l i []
@[simp] theorem set_N (l:List AE) (i:Nat) (id:Int) (up pr:Bool) (im ge:LI) (bi:List LI) (fi ol he:Bool) (la:Int) (sa sb:LI) (co:List Bool) (sy:List LI) (cp:List Bool) (wa:LI):
  (enc fN l).set i [.sc (I6 id),.sc (.bool up),.sc (.bool pr),.sl 1 (enc fI im),.sl 1 (enc fI ge),.sl 1 (enc fII bi),.sc (.bool fi),.sc (.bool ol),.sc (.bool he),.sc (I6 la),.sl 1 (enc fU sa),.sl 1 (enc fU sb),.sl 1 (enc fL co),.sl 1 (enc fII sy),.sl 1 (enc fL cp),.sl 1 (enc fI wa)]=enc fN (l.set i ⟨id,up,pr,im,⟨ge,bi,fi,ol,he,la⟩,⟨sa,sb⟩,co,sy,cp,wa⟩):=A3 fN l i ⟨id,up,pr,im,⟨ge,bi,fi,ol,he,la⟩,⟨sa,sb⟩,co,sy,cp,wa⟩
theorem tfb (x y:Int):((x=y)=True/\(x==y)=true)\/((x=y)=False/\(x==y)=false):=by
 by_cases h:x=y
 ·left;simp[h]
 ·right;simp[h]
def CW (a b:Int) (x:BD):Bool:= !(decide (x.src=a)&&decide (x.dst=b)||decide (x.src=b)&&decide (x.dst=a))
def P6 (net:List BD) (a b:Int) (i:Nat) (r:List T):List T:=if CW a b (net.getD i zW)then [.sc (I6 (net.getD i zW).src),.sc (I6 (net.getD i zW).dst),.hole]else r
def FF (net:List BD) (a b:Int) (j:Nat):List (List T):=upd (P6 net a b) (enc fW net) j
@[simp] def st212 (w:AB) (a b:Int) (out:List BD) (j:Nat) (rows:List (List T)):St:={n:=101,m:=4,tm:=[(1,.sc (I6 a)),(2,.sc (I6 b)),(3,.pb 10000000 0),(6,.pb 10000001 0),(7,.ref 10000002 []),(8,.sc (I6 j))],ob:=[(0,.arr 16 (enc fN w.nodes)),(1,.arr 3 rows),(2,.arr 2 (enc fR w.log)),(3,.arr 1 (enc fI w.safe)),(10000000,.box [.ref 0 [],.ref 1 [],.ref 2 [],.ref 3 [],.sc (I6 w.gen)]),(10000001,.box [.nil 16,.nil 3,.nil 2,.nil 1,.sc (I6 0)]),(10000002,.arr 3 (enc fW out))]}
theorem lp_Cut [PKI] (w : AB) (a b : Int) (hn : w.net.length <= 1048576) : ∀ (t : St), t.m <= 10000000 -> Aa 10000000 [1, 2, 3, 6, 7, 8] t = st212 w a b [] 0 (FF w.net a b 0) -> A6 G PK md 10000000 [1, 2, 3, 6, 7, 8] b212_0 t = xG b212_0 (st212 w a b (w.net.filter (CW a b)) w.net.length (FF w.net a b w.net.length)) := by
  have hf : w.net.take w.net.length = w.net := List.take_length;have h := @lok _ 10000000 [1, 2, 3, 6, 7, 8] b212_0 (λj => st212 w a b ((w.net.take j).filter (CW a b)) j (FF w.net a b j)) w.net.length (λj hj => by
    obtain ⟨x, y1, hx, hx', hxd, hxm⟩ := AX w.net zW hj;have hinc := Ar hj hn;have hl : ((w.net.take j).filter (CW a b)).length <= j := by
      have := List.length_filter_le (CW a b) (w.net.take j);rw [List.length_take] at this;omega
    have hsn : (w.net.take (j + 1)).filter (CW a b) = (w.net.take j).filter (CW a b) ++ (if CW a b x then [x] else []) := by rw [DJ hx, List.filter_append]; simp [List.filter_cons]
    have hg : (enc fW w.net)[j]? = some (fW x) := by rw [Is, hx]; rfl
    have hug := QW (P6 w.net a b) hg;have hus := QV (P6 w.net a b) hg;have hul := M7 (P6 w.net a b) (enc fW w.net) j;rw [Bx] at hul;rw [hsn];unfold FF;rw [<-hus];generalize upd (P6 w.net a b) (enc fW w.net) j = rows at *;have hjr : j < rows.length := by omega
    have hrj : rows[j] = fW x := by simpa [hjr] using hug
    generalize (w.net.take j).filter (CW a b) = out at *;unfold P6;rw [hxd];have g1 : (out.length + 1) * 40 <= 35184372088832 := by omega
    have hss : rows.set j (fW x) = rows := by rw [<-hrj]; exact List.set_getElem_self hjr
    have hss2 : rows.set j [T.sc (I6 x.src), T.sc (I6 x.dst), T.sl 1 (enc fU x.bytes)] = rows := hss;have hrj2 : rows[j] = [T.sc (I6 x.src), T.sc (I6 x.dst), T.sl 1 (enc fU x.bytes)] := hrj;have hap : enc fW out ++ [[T.sc (I6 x.src), T.sc (I6 x.dst), T.sl 1 (enc fU x.bytes)]] = enc fW (out ++ [x]) := by simp [enc]
    have hlr : rows.length = w.net.length := hul;have hjl : (j : Int) < rows.length := by omega
    rcases tfb x.src a with ⟨c1, d1⟩ | ⟨c1, d1⟩ <;> rcases tfb x.dst b with ⟨c2, d2⟩ | ⟨c2, d2⟩ <;> rcases tfb x.src b with ⟨c3, d3⟩ | ⟨c3, d3⟩ <;> rcases tfb x.dst a with ⟨c4, d4⟩ | ⟨c4, d4⟩ <;>
      first
      | (have hk : CW a b x = true := by simp [CW, c1, c2, c3, c4]
         simp only [hk, if_true]
         simp [b212_0,  hjr, hlr, hj, hrj2, hinc, g1, hap, c1, c2, c3, c4, d1, d2, d3, d4]; done)
      | (have hk : CW a b x = false := by simp [CW, c1, c2, c3, c4]
         simp only [hk, Bool.false_eq_true, if_false, hss, List.append_nil]
         simp [b212_0,  hjr, hlr, hj, hrj2, hinc, g1, c1, c2, c3, c4, d1, d2, d3, d4]; done)) (by
    simp [b212_0, FF])
  simp only [hf] at h;exact h
theorem set6 {α:Type} (l:List α) {a b:Nat} (h:a≠b) (p q r s t u:α):(((((l.set a p).set b q).set a r).set b s).set a t).set b u=(l.set a t).set b u:=by
 apply List.ext_getElem?;intro i;simp only[List.getElem?_set,List.length_set];by_cases h1:b=i
 ·simp[h1]
 ·by_cases h2:a=i
  ·simp[h1,h2]
  ·simp[h1,h2]
def Cr (n:AE) (k:Nat):AE:={n with conn:=n.conn.set k false,copies:=n.copies.set k false,sync:=n.sync.set k []}
def CQ (w:AB) (a b:Nat):AB:={w with nodes:=(w.nodes.set a (Cr (nd w a) b)).set b (Cr (nd w b) a),net:=w.net.filter (CW a b)}
theorem Gl [PKI] (w:AB) (a b:Nat) (h3:w.nodes.length=3) (ha:a<3) (hb:b<3) (hab:a≠b) (hn:w.net.length<=1048576) (hx: ∀x∈w.nodes,x.conn.length=3/\x.copies.length=3/\x.sync.length=3):
  sG 212 [.a (AA (fWo w)),.v (.sc (I6 a)),.v (.sc (I6 b))]=some ⟨[.a (AA (fWo (CQ w a b)))],[none,some (FF w.net a b w.net.length),none,none],[]⟩:=by
 refine sK p212 ?_
 have hlp:=lp_Cut w a b hn
 obtain⟨x,y1,hx1,hx',hxd,hxm⟩:=AX w.nodes zN (j:=a) (by omega)
 obtain⟨y,y2,hy1,hy',hyd,hym⟩:=AX w.nodes zN (j:=b) (by omega)
 obtain⟨x1,x2,x3⟩:=hx x hxm
 obtain⟨z1,z2,z3⟩:=hx y hym
 have hxa:nd w a=x:=hxd
 have hyb:nd w b=y:=hyd
 unfold CQ
 rw[hxa,hyb]
 unfold Cr
 have hba:b≠a:=hab.symm
 have q1:b<x.conn.length:=by omega
 have q2:a<y.conn.length:=by omega
 have q3:b<x.copies.length:=by omega
 have q4:a<y.copies.length:=by omega
 obtain⟨c1,q5,_,c1',_,_⟩:=Ah x.sync (j:=b) (by omega)
 obtain⟨c2,q6,_,c2',_,_⟩:=Ah y.sync (j:=a) (by omega)
 have h0:FF w.net a b 0=enc fW w.net:=NU _ _
 have hhl:(FF w.net a b w.net.length).length=w.net.length:=by unfold FF;rw[M7,Bx]
 generalize FF w.net a b w.net.length=hr at*
 simp[p212]
 rw[hlp]
 ·simp (maxSteps:=9999999) [b212_0,hhl,y1,y2,hx',hy',q1,q2,q3,q4,q5,q6,c1',c2',hab,hba,List.getElem_set]
  rw[set6 _ hab]
 ·simp
 ·simp[h0]
def Pz (a b:Int) (m:A2):LI:=if J4 a b then Lg [m]else Av m
structure WL (w:AB):Prop where
 n3:w.nodes.length=3
 c3: ∀x∈w.nodes,x.conn.length=3/\x.copies.length=3/\x.sync.length=3
 net:w.net.length<=2000
def GU (p:Bz):Prop:= ∃i k:Nat,i<3/\k<3/\i≠k/\p.src=i/\p.dst=k/\p.msg.gens.length<=1000
def EM (w:AB) (a b:Int):Bool:=(nd w a.toNat).conn.getD b.toNat false
def FU (w:AB) (p:Bz):AB:=if EM w p.src p.dst then(if 40<=w.net.length then CQ w p.src.toNat p.dst.toNat else {w with net:=w.net++[⟨p.src,p.dst,Pz p.src p.dst p.msg⟩]})else w
def DA (w:AB) (l:List Bz):AB:=l.foldl FU w
theorem Qn {w:AB} {i:Nat} (h:i<w.nodes.length):nd w i∈w.nodes:=by
 obtain⟨x,_,_,_,hd,hm⟩:=AX w.nodes zN h;unfold nd;rw[hd];exact hm
theorem cutW_WL {w:AB} {a b:Nat} (h:WL w) (ha:a<3) (hb:b<3):WL (CQ w a b):=by
 have h1:=h.c3 _ (Qn (w:=w) (i:=a) (by have:=h.n3;omega));have h2:=h.c3 _ (Qn (w:=w) (i:=b) (by have:=h.n3;omega));refine⟨by unfold CQ;simp only[List.length_set];exact h.n3,λx hx=> ?_,by have:=List.length_filter_le (CW a b) w.net;have:=h.net;unfold CQ;simp only;omega⟩;unfold CQ at hx;rcases List.mem_or_eq_of_mem_set hx with hx|rfl
 ·rcases List.mem_or_eq_of_mem_set hx with hx|rfl
  ·exact h.c3 x hx
  ·unfold Cr;simp only[List.length_set];exact h1
 ·unfold Cr;simp only[List.length_set];exact h2
theorem Nc {w:AB} {p:Bz} (h:WL w) (hp:GU p):WL (FU w p)/\(FU w p).net.length<=max w.net.length 40:=by
 obtain⟨i,k,hi,hk,_,h1,h2,_⟩:=hp;unfold FU;rw[h1,h2];simp only[Int.toNat_natCast];split
 ·split
  ·refine⟨cutW_WL h hi hk,?_⟩;have:=List.length_filter_le (CW i k) w.net;unfold CQ;simp only;omega
  ·refine⟨⟨h.n3,h.c3,?_⟩,?_⟩
   ·simp only[List.length_append,List.length_cons,List.length_nil];omega
   ·simp only[List.length_append,List.length_cons,List.length_nil];omega
 ·exact⟨h,by omega⟩
structure SdS where
 w:AB
 sh:Nat
 rows:List (List T)
def sdF (s:SdS) (p:Bz):SdS:=⟨FU s.w p,
 if EM s.w p.src p.dst then(if 40<=s.w.net.length then(if s.sh=0 then 2 else if s.sh=1 then 3 else s.sh)else(if s.sh=0 then 1 else s.sh))else s.sh,
 if EM s.w p.src p.dst/\40<=s.w.net.length/\s.sh=0 then FF s.w.net p.src p.dst s.w.net.length else s.rows⟩
@[simp] def obW (w:AB) (sh:Nat) (rows:List (List T)) (o:Nat):List (Nat×Obj):=
 if sh=0 then [(0,.arr 16 (enc fN w.nodes)),(1,.arr 3 (enc fW w.net)),(2,.arr 2 (enc fR w.log)),(3,.arr 1 (enc fI w.safe)),(o,.box [.ref 0 [],.ref 1 [],.ref 2 [],.ref 3 [],.sc (I6 w.gen)]),(o+1,.box [.nil 16,.nil 3,.nil 2,.nil 1,.sc (I6 0)])]
 else if sh=1 then [(0,.arr 16 (enc fN w.nodes)),(2,.arr 2 (enc fR w.log)),(3,.arr 1 (enc fI w.safe)),(o,.box [.ref 0 [],.ref (o+2) [],.ref 2 [],.ref 3 [],.sc (I6 w.gen)]),(o+1,.box [.nil 16,.nil 3,.nil 2,.nil 1,.sc (I6 0)]),(o+2,.arr 3 (enc fW w.net))]
 else if sh=2 then [(1,.arr 3 rows),(o,.box [.ref (o+2) [],.ref (o+3) [],.ref (o+4) [],.ref (o+5) [],.sc (I6 w.gen)]),(o+1,.box [.nil 16,.nil 3,.nil 2,.nil 1,.sc (I6 0)]),(o+2,.arr 16 (enc fN w.nodes)),(o+3,.arr 3 (enc fW w.net)),(o+4,.arr 2 (enc fR w.log)),(o+5,.arr 1 (enc fI w.safe))]
 else [(o,.box [.ref (o+2) [],.ref (o+3) [],.ref (o+4) [],.ref (o+5) [],.sc (I6 w.gen)]),(o+1,.box [.nil 16,.nil 3,.nil 2,.nil 1,.sc (I6 0)]),(o+2,.arr 16 (enc fN w.nodes)),(o+3,.arr 3 (enc fW w.net)),(o+4,.arr 2 (enc fR w.log)),(o+5,.arr 1 (enc fI w.safe))]
@[simp] def st215 (l:List Bz) (s:SdS) (j:Nat):St:={n:=64,m:=4,tm:=[(1,.im 7 (enc fP l)),(2,.pb 10000000 0),(4,.pb 10000001 0),(5,.sc (I6 j))],ob:=obW s.w s.sh s.rows 10000000}
theorem TB {l:List Bz} (hp: ∀p∈l,GU p): ∀s:SdS,WL s.w->s.sh<4->WL (l.foldl sdF s).w/\(l.foldl sdF s).sh<4/\(l.foldl sdF s).w=DA s.w l:=by
 induction l with
 |nil=>intro s h1 h2;exact⟨h1,h2,rfl⟩
 |cons p l ih=>
  intro s h1 h2;have hw:=(Nc h1 (hp p List.mem_cons_self)).1;have h3:(sdF s p).sh<4:=by
   unfold sdF;simp only;split
   ·split<;>split<;>(try split)<;>omega
   ·exact h2
  exact ih (λq hq=>hp q (List.mem_cons_of_mem _ hq)) (sdF s p) hw h3
theorem lp_Send [PKI] (w:AB) (l:List Bz) (hw:WL w) (hl:l.length<=1000) (hp: ∀p∈l,GU p): ∀ (t:St),t.m<=10000000->Aa 10000000 [1,2,4,5] t=st215 l ⟨w,0,[]⟩ 0->A6 G PK md 10000000 [1,2,4,5] b215_0 t=xG b215_0 (st215 l (l.foldl sdF ⟨w,0,[]⟩) l.length):=by
 have hf:l.take l.length=l:=List.take_length;have h:= @lok _ 10000000 [1,2,4,5] b215_0 (λj=>st215 l ((l.take j).foldl sdF ⟨w,0,[]⟩) j) l.length (λj hj=>by
  obtain⟨p,hx⟩:=AF hj;obtain⟨_,hx'⟩:=BT hx;have hpm:=hp p (List.mem_of_getElem? hx);have hinc:=Ar hj (by omega);obtain⟨i1,i2,_⟩:=TB (l:=l.take j) (λq hq=>hp q (List.mem_of_mem_take hq)) ⟨w,0,[]⟩ hw (by simp);simp only[Bi sdF _ l hx];generalize (l.take j).foldl sdF ⟨w,0,[]⟩=s at*;obtain⟨v,sh,rows⟩:=s;simp only at i1 i2;obtain⟨ps,pd,pm⟩:=p;obtain⟨i,k,hi,hk,hik,hs1,hs2,hg⟩:=hpm;simp only at hs1 hs2 hg;subst hs1;subst hs2;unfold sdF FU EM;simp only[Int.toNat_natCast];have hn3:=i1.n3;obtain⟨x,y1,hxi,hxi',hxd,hxm⟩:=AX v.nodes zN (j:=i) (by omega);have hxn:nd v i=x:=hxd;obtain⟨x1,x2,x3⟩:=i1.c3 x hxm;obtain⟨c,q1,_,c1',hcd⟩:=Aj x.conn (j:=k) (by omega);rw[hxn,hcd];have e1:=Gl v i k hn3 hi hk hik (by have:=i1.net;omega) i1.c3;have e2:=DP pm (by omega);have e3:=L7 i k;have e4:=Kv [pm] (by simp) (λm hm=>by rw[List.mem_singleton.1 hm];omega);simp only[AD,lent,fMs,fWo,AA,AJ,BN,BA]at e1 e2 e4
  cases c
  ·rcases(by omega:sh=0\/sh=1\/sh=2\/sh=3)with rfl|rfl|rfl|rfl<;>simp[b215_0,  hj,hx',y1,hxi',q1,c1',hinc]
  by_cases hnl:40<=v.net.length
  ·have hnl':(40:Int)<=v.net.length:=by omega
   generalize hcw:CQ v i k=cw at*;generalize FF v.net i k v.net.length=hr at*;rcases(by omega:sh=0\/sh=1\/sh=2\/sh=3)with rfl|rfl|rfl|rfl<;>simp[b215_0,  hj,hx',y1,hxi',q1,c1',hinc,hnl,hnl',e1]
  ·have hnl': ¬ (40:Int)<=v.net.length:=by omega
   have g1:(v.net.length+1)*40<=35184372088832:=by omega
   unfold Pz
   cases hf2:J4 (i:Int) k
   ·rw[hf2]at e3;rcases(by omega:sh=0\/sh=1\/sh=2\/sh=3)with rfl|rfl|rfl|rfl<;>simp[b215_0,  hj,hx',y1,hxi',q1,c1',hinc,hnl,hnl',e2,e3,g1]<;>simp[enc]
   ·rw[hf2]at e3;rcases(by omega:sh=0\/sh=1\/sh=2\/sh=3)with rfl|rfl|rfl|rfl<;>simp[b215_0,  hj,hx',y1,hxi',q1,c1',hinc,hnl,hnl',e2,e3,e4,g1]<;>simp[enc]) (by
  obtain⟨_,i2,_⟩:=TB (l:=l.take l.length) (λq hq=>hp q (List.mem_of_mem_take hq)) ⟨w,0,[]⟩ hw (by simp);generalize (l.take l.length).foldl sdF ⟨w,0,[]⟩=s at*;obtain⟨v,sh,rows⟩:=s;simp only at i2;rcases(by omega:sh=0\/sh=1\/sh=2\/sh=3)with rfl|rfl|rfl|rfl<;>simp[b215_0])
 simp only[hf]at h;exact h
def Tc (fin:List (Option (List (List T)))):Prop:=fin=[none,none,none,none]\/ ∃rows,fin=[none,some rows,none,none]
theorem Ee [PKI] (w:AB) (l:List Bz) (hw:WL w) (hl:l.length<=1000) (hp: ∀p∈l,GU p): ∃fin,Tc fin/\sG 215 [.a (AA (fWo w)),.v (.im 7 (enc fP l))]=some ⟨[.a (AA (fWo (DA w l)))],fin,[]⟩:=by
 have h1:=lp_Send w l hw hl hp;obtain⟨_,i2,i3⟩:=TB hp ⟨w,0,[]⟩ hw (by simp);simp only at i3;rw[<-i3];generalize l.foldl sdF ⟨w,0,[]⟩=s at*;obtain⟨v,sh,rows⟩:=s;simp only at i2 ⊢;rcases(by omega:sh=0\/sh=1\/sh=2\/sh=3)with rfl|rfl|rfl|rfl
 ·refine⟨[none,none,none,none],.inl rfl,sK p215 ?_⟩;simp[p215];rw[h1]
  ·simp[b215_0]
  ·simp
  ·simp
 ·refine⟨[none,none,none,none],.inl rfl,sK p215 ?_⟩;simp[p215];rw[h1]
  ·simp[b215_0]
  ·simp
  ·simp
 ·refine⟨[none,some rows,none,none],.inr ⟨rows,rfl⟩,sK p215 ?_⟩;simp[p215];rw[h1]
  ·simp[b215_0]
  ·simp
  ·simp
 ·refine⟨[none,none,none,none],.inl rfl,sK p215 ?_⟩;simp[p215];rw[h1]
  ·simp[b215_0]
  ·simp
  ·simp
structure nC (n:AE):Prop where
 b:nB n
 bit: ∀x∈n.mt.bits,x.length<=800
 wait:n.wait.length<=900
 gens:n.mt.gens.length<=900
structure WI (w:AB):Prop where
 n3:w.nodes.length=3
 node: ∀x∈w.nodes,nC x
 id: ∀i:Nat,i<3->(nd w i).id=i
 net:w.net.length<=100
 wire: ∀x∈w.net,byt x.bytes
 log:w.log.length<=1000
 safe:w.safe.length<=1000
theorem NOk.nC {n:AE} (h:NOk n) (hs:slS n.sl):nC n:=⟨h.nB hs,λx hx=>by have:=Ec (h.bit8 x hx);omega,by have:=Ra h.wait;omega,by have:=h.gens12;omega⟩
theorem WI.L {w:AB} (h:WI w):WL w:=⟨h.n3,λx hx=>⟨(h.node x hx).b.conn,(h.node x hx).b.copies,(h.node x hx).b.sync⟩,by have:=h.net;omega⟩
theorem A9 {w:AB} (h:Ap w=true) (hw:wS w):WI w:=by
 have hN:=F7 h;unfold Ap Kk at h;simp only[Bool.and_eq_true,decide_eq_true_iff]at h;obtain⟨⟨⟨⟨⟨⟨h1,h2⟩,h3⟩,h4⟩,h5⟩,h6⟩,⟨h7,h8⟩,h9⟩:=h;refine⟨h1,λx hx=> ?_,hN.id,by omega,λx hx=>hw.wire x hx,by omega,by have:=Ra h6;omega⟩;obtain⟨i,hi,he⟩:=List.getElem_of_mem hx;obtain⟨y,_,_,hy',hyd,_⟩:=AX w.nodes zN hi;have hk:=hN.ok i (by omega);have hn:nd w i=x:=by unfold nd;rw[hyd,<-hy',he]
 rw[hn]at hk;exact hk.nC (hw.node x hx).sl
theorem Lk {w:AB} {i k:Nat} {n:AE} (h:w.nodes.length=3) (hi:i<3):nd {w with nodes:=w.nodes.set k n} i=if k=i then n else nd w i:=by
 unfold nd;simp only[List.getD_eq_getElem?_getD,List.getElem?_set];by_cases hk:k=i
 ·subst hk;simp[h,hi]
 ·simp[hk]
theorem Qc {w:AB} {k:Nat} {n:AE} (h:WI w) (hk:k<3) (hn:nC n) (hid:n.id=k):WI {w with nodes:=w.nodes.set k n}:=by
 refine⟨by simp only[List.length_set];exact h.n3,λx hx=> ?_,λi hi=> ?_,h.net,h.wire,h.log,h.safe⟩
 ·rcases List.mem_or_eq_of_mem_set hx with hx|rfl
  ·exact h.node x hx
  ·exact hn
 ·rw[Lk h.n3 hi];split
  ·rename_i he;rw[hid,he]
  ·exact h.id i hi
theorem Un {n:AE} {k:Nat} (h:nC n):nC (Cr n k):=
 ⟨⟨h.b.image,h.b.gens,h.b.bits,h.b.bit,h.b.sl,by unfold Cr;simp only[List.length_set];exact h.b.conn,by unfold Cr;simp only[List.length_set];exact h.b.sync,λx hx=>by
  rcases List.mem_or_eq_of_mem_set hx with hx|rfl
  ·exact h.b.syn x hx
  ·simp,by unfold Cr;simp only[List.length_set];exact h.b.copies,h.b.wait⟩,h.bit,h.wait,h.gens⟩
theorem WI.nd {w:AB} (h:WI w) {i:Nat} (hi:i<3):nC (nd w i):=h.node _ (Qn (by have:=h.n3;omega))
theorem LL {w:AB} {a b:Nat} (h:WI w) (ha:a<3) (hb:b<3) (hab:a≠b):WI (CQ w a b):=by
 have h1:WI {w with nodes:=w.nodes.set a (Cr (Ow.nd w a) b)}:=Qc h ha (Un (h.nd ha)) (h.id a ha);have h2:=Qc (k:=b) h1 hb (Un (k:=a) (h.nd hb)) (h.id b hb);exact⟨h2.n3,h2.node,h2.id,by have:=List.length_filter_le (CW a b) w.net;have:=h.net;unfold CQ;simp only;omega,λx hx=>h.wire x (List.mem_filter.1 hx).1,h.log,h.safe⟩
theorem Nu {w:AB} {a b:Nat} (h:w.nodes.length=3) (ha:a<3) (hab:a≠b):nd (CQ w a b) a=Cr (nd w a) b:=by
 have h1:(w.nodes.set a (Cr (nd w a) b)).length=3:=by rw[List.length_set];exact h
 have:=Lk (w:={w with nodes:=w.nodes.set a (Cr (nd w a) b),net:=w.net.filter (CW a b)}) (k:=b) (n:=Cr (nd w b) a) (i:=a) h1 ha;rw[if_neg hab.symm]at this;have h2:=Lk (w:=w) (k:=a) (n:=Cr (nd w a) b) (i:=a) h ha;rw[if_pos rfl]at h2;exact this.trans h2
def SN (fin:List (Option (List (List T)))):Prop:= ∃A B,fin=[none,A,none,B]
def JU (w:AB) (a:Nat):Bool:=decide (38<w.net.length)&&(nd w a).conn.getD 2 false
def JV (w:AB) (a:Nat) (cell:Int):AB:=
 let w2:AB:={w with log:=w.log++[⟨cell,(nd w a).mt.last⟩]}
 let r:=Bd (nd w a) cell (w.log.length+1:Nat)
 let w3:AB:={w2 with nodes:=w.nodes.set a r.1}
 let w4:=if r.1.conn.getD (Dd a).toNat false then w3 else El w3 [(w.log.length+1:Nat)]
 DA w4 r.2
def FT (w:AB) (a:Nat) (cell:Int):AB×Int:=
 if !Dh (nd w a)then(w,3)else if 200<=w.log.length then(w,4)
 else if 38<(if JU w a then CQ w a 2 else w).net.length then(if JU w a then CQ w a 2 else w,4)
 else(JV (if JU w a then CQ w a 2 else w) a cell,0)
theorem GN {n:AE} {cell val:Int} (h:nC n):nB (Bd n cell val).1/\(Bd n cell val).1.id=n.id:=by
 unfold Bd;split
 ·refine⟨Pd h.b h.bit h.wait,?_⟩;unfold Ew;split<;>rfl
 ·exact⟨h.b,rfl⟩
theorem EA {n:AE} {cell val:Int} {i:Nat} (hid:n.id=i) (hi:i<3): ∀p∈(Bd n cell val).2,GU p:=by
 intro p hp;unfold Bd at hp;split at hp
 ·simp only[tos,List.mem_flatMap,List.mem_range]at hp;obtain⟨k,hk,hp⟩:=hp;unfold to1 at hp;split at hp
  ·rename_i hc;rw[List.mem_singleton.1 hp];have hid2:(Ew n cell val).id=i:=by
    unfold Ew;split<;>exact hid
   exact⟨i,k,hi,hk,by rw[hid]at hc;omega,hid2,rfl,by simp⟩
  ·cases hp
 ·cases hp
theorem NR {n:AE} {cell val:Int}:(Bd n cell val).2.length<=3:=by
 unfold Bd;split
 ·exact KP _ _ _ 3
 ·simp
end Go.Proofs.YtghgecpicnfgpaaGreat.Ow
