/- Functions evaluated on the small machine: Slots put, plain, Slots put: evaluated, Slots put: DD, Marks, generations: what the reference makes of them. -/
import Derived.Test.YtbolhfegdocpeaaGreatEv6
namespace Go.Proofs.YtbolhfegdocpeaaGreat.Ow
open Go
set_option linter.unusedVariables false
set_option linter.unusedSimpArgs false
set_option maxHeartbeats 4000000
variable {PK:Nat->List Arg->Option Res}
theorem mk_asc {l:List Int} (h:C5 l=true): ∀j,j<l.length->(j:Int)<=l.getD j 0:=by
 intro j
 induction j with
 |zero=>
  intro hj;have:=Ar h hj;unfold mkP at this;rw[Bool.and_eq_true]at this;exact(Ab.1 this.1).1
 |succ j ih=>
  intro hj;have h1:=ih (by omega);have:=Ar h hj;unfold mkP at this;rw[Bool.and_eq_true]at this;have h2:=this.2;simp at h2;rw[List.getD_eq_getElem?_getD,List.getD_eq_getElem?_getD]at*;omega
theorem E4 {l:List Int} (h:C5 l=true):l.length<=8:=by
 rcases Nat.lt_or_ge 8 l.length with h1|h1
 ·exfalso;have h2:=mk_asc h 8 h1;have:=Ar h h1;unfold mkP at this;rw[Bool.and_eq_true]at this;have:=(Ab.1 this.1).2;omega
 ·exact h1
theorem LS {n:Int} (h0:0<=n) (h1:n<=127):(Al n).length=1:=by
 obtain⟨k,hk,hp,_,he⟩:=LT h0 (by omega);rcases Nat.eq_zero_or_pos k with rfl|hk0
 ·unfold Al;simp[he]
 ·have:127<n:=hp 0 hk0;omega
theorem TV {n:Int} (h0:0<=n) (h1:n<=100000):(Al n).length<=3:=by
 obtain⟨k,hk,hp,_,he⟩:=LT h0 (by omega);rcases Nat.lt_or_ge k 3 with h|h
 ·unfold Al;simp[he];omega
 ·exfalso;have h2:127<(n.tdiv 128).tdiv 128:=hp 2 (by omega);have e1:n.tdiv 128=n / 128:=Int.tdiv_eq_ediv_of_nonneg h0;rw[e1,Int.tdiv_eq_ediv_of_nonneg (by omega)]at h2;omega
theorem pns_1: ∀ (l:List Int),(∀x∈l,0<=x/\x<=127)->(pns l).length=l.length
 |[],_=>rfl
 |x::l,h=>by
  have h1:=h x List.mem_cons_self;have h2:=pns_1 l fun y hy=>h y (List.mem_cons_of_mem _ hy)
  have h3:=LS h1.1 h1.2;unfold pns at h2 ⊢;simp only[List.map_cons,List.flatten_cons,List.length_append,List.length_cons];omega
theorem pns_3: ∀ (l:List Int),(∀x∈l,0<=x/\x<=100000)->(pns l).length<=3*l.length
 |[],_=>Nat.le_refl _
 |x::l,h=>by
  have h1:=h x List.mem_cons_self;have h2:=pns_3 l fun y hy=>h y (List.mem_cons_of_mem _ hy)
  have h3:=TV h1.1 h1.2;unfold pns at h2 ⊢;simp only[List.map_cons,List.flatten_cons,List.length_append,List.length_cons];omega
theorem mk_bd {l:List Int} (h:C5 l=true): ∀x∈l,0<=x/\x<=127:=fun x hx=>by
 obtain⟨j,hj⟩:=List.getElem?_of_mem hx;have:=Ar h (List.getElem?_eq_some_iff.1 hj).1;unfold mkP at this;rw[Bool.and_eq_true,CI hj]at this;have:=Ab.1 this.1;omega
theorem gn_bd {l:List Int} (h:De l=true): ∀x∈l,1<=x/\x<=100000:=fun x hx=>by
 obtain⟨j,hj⟩:=List.getElem?_of_mem hx;unfold De at h;rw[Bool.and_eq_true]at h;have:=Ar h.1 (List.getElem?_eq_some_iff.1 hj).1;unfold gnP at this;rw[Bool.and_eq_true,CI hj]at this;exact Ab.1 this.1
theorem pl_mk {l:List Int} (h:C5 l=true):(pl l).length<=9:=by
 have h1:=E4 h;have h2:=pns_1 l (mk_bd h);have h3:=LS (n:=(l.length:Int)) (by omega) (by omega);unfold pl;rw[List.length_append];omega
theorem TY: ∀ {ll:List (List Int)},(∀l∈ll,C5 l=true)->(pls ll).length<=9*ll.length
 |[],_=>Nat.le_refl _
 |l::ll,h=>by
  have h1:=pl_mk (h l List.mem_cons_self);have h2:=TY (ll:=ll) fun y hy=>h y (List.mem_cons_of_mem _ hy)
  unfold pls at h2 ⊢;simp only[List.map_cons,List.flatten_cons,List.length_append,List.length_cons];omega
theorem Hi (m:Av):(Au m).length<=151:=by
 unfold Au
 cases h:BP m
 ·simp
 ·have hk:=Ja h;unfold BP at h;simp only[Bool.and_eq_true]at h;have hg:=h.1.1.1.1;have hb:=h.1.1.2.2;have g1:=pns_3 m.gens fun x hx=>by have:=gn_bd hg x hx;omega
  have g2:=LS (n:=(m.gens.length:Int)) (by omega) (by have:=hk.glen;omega);have b1:=TY (ll:=m.bits) fun l hl=>by
   unfold Dd at hb;obtain⟨j,hj⟩:=List.getElem?_of_mem hl;have:=Ar hb (List.getElem?_eq_some_iff.1 hj).1;simpa only[CI hj]using this
  have f1:=Qv m;have f2:=A4 (n:=flg m) (by omega) (by omega);have l2:=A4 hk.last0 hk.last1;have:=hk.glen;have:=hk.blen;simp only[if_true];unfold Gi pl;simp only[List.length_append];omega
theorem Pj (n:Int):(EA n).length=4:=rfl
theorem SN {x:List Int} (h:x.length<=151) (n:Int):(EE x n).length=160:=by
 unfold EE CT;simp only[List.length_append,List.length_replicate,List.length_cons,List.length_nil,Pj];omega
theorem LC (s:A8):0<=(Ak s).2.1/\(Ak s).2.1<=1000000:=by
 have key: ∀b:List Int,0<=(Aq b).2.1/\(Aq b).2.1<=1000000:=fun b=>by
  unfold Aq;split
  ·rename_i h;have:=Ab.1 h.2.1;exact⟨by show 0<=slN b;omega,this.2⟩
  ·exact⟨by decide,by decide⟩
 unfold Ak;split
 ·exact key s.b
 ·exact key s.a
theorem NV (s:A8):isA s=decide (Hb s=0):=by
 unfold isA Hb
 cases LW s<;>cases (Aq s.a).2.2<;>simp
def JY (s:A8) (m:Av):List Int:=EE (Au m) ((Ak s).2.1+1)
def OK (s:A8) (m:Av):Bool:=BP m&& !decide ((Ak s).2.1=1000000)
def B4 (s:A8) (m:Av):A8:=if OK s m then(if isA s then⟨s.a,JY s m⟩else⟨JY s m,s.b⟩)else s
def GP (was now:List Int) (k:Nat):List Int:=now.take k++was.drop k
def N0 (s:A8) (m:Av) (k:Nat):A8:=if OK s m then(if isA s then⟨s.a,GP s.b (JY s m) k⟩else⟨GP s.a (JY s m) k,s.b⟩)else s
theorem FK (s:A8) (m:Av):(JY s m).length=160:=SN (Hi m) _
theorem Ri (s:A8) (m:Av):by8 (JY s m):=LD (Cn m) _
theorem CO {s:A8} (h:slS s) (m:Av):slS (B4 s m):=by
 have hn:byt (JY s m):=⟨by rw[FK];omega,Ri s m⟩;unfold B4;split
 ·split
  ·exact⟨h.1,hn⟩
  ·exact⟨hn,h.2⟩
 ·exact h
@[simp] def slbox (s:A8):Obj:= .box [.im 1 (enc fU s.a),.im 1 (enc fU s.b)]
theorem Jm (s:A8) (ha:s.a.length<=1048576) (hb:s.b.length<=1048576):AH G PK md 156 [.a (AJ (fSl s))]=some ⟨[.a (AD (fSl s))],[],[]⟩:=by
 refine AA (pf:=p156) rfl (by simp[p156]) ?_;have g1:s.a.length<=35184372088832:=by omega
 have g2:s.b.length<=35184372088832:=by omega
 simp[p156,md,g1,g2,AF]
@[simp] def st117_1 (ll:List (List Int)) (v j:Nat):St:={n:=36,m:=0,tm:=[(0,.im 1 (enc fUU ll)),(3,.sc (.int .i64 v)),(9,.im 1 (enc fUU ll)),(10,.sc (.int .i64 ll.length)),(11,.sc (.int .i64 j))],ob:=[]}
@[simp] def st117_0 (ll:List (List Int)) (out:List Int) (j:Nat):St:={n:=36,m:=0,tm:=[(6,.ref 10000200 []),(25,.im 1 (enc fUU ll)),(26,.sc (.int .i64 ll.length)),(27,.sc (.int .i64 j))],ob:=[(10000200,.arr 1 (enc fU out))]}
theorem UP: ∀ll:List (List Int),ll.flatten.length=H0 (ll.map List.length)
 |[]=>rfl
 |l::ll=>by simp only[List.flatten_cons,List.length_append,List.map_cons,H0,UP ll]
theorem CL (s:A8) (m:Av) (hs:slS s) (hm:mtS m):AH G PK md 119 [.a (AJ (fSl s)),.a (AJ (fM m))]=some ⟨[.a (AD (fSl (B4 s m)))],[],[]⟩:=by
 refine AA (pf:=p119) rfl (by simp[p119]) ?_;have e1:=Jm (PK:=PK) s hs.1.1 hs.2.1;have e2:=C1 (PK:=PK) s hs;have e3:=Ce (PK:=PK) m hm;have e4:=IR (PK:=PK) s hs;have e5:=Nj (PK:=PK) m ((Ak s).2.1+1) hm (Hi m);have hb:=LC s;have hw:IntKind.wrap .i64 ((Ak s).2.1+1)=(Ak s).2.1+1:=AC (by omega) (by omega);have hA:=NV s;have hl:=FK s m;unfold JY at hl;simp only[AJ,lent,fM,fSl,List.map]at e1 e2 e3 e4 e5;unfold B4 OK JY;generalize hq:(Ak s)=q at*;obtain⟨q1,q2,q3⟩:=q;generalize EE (Au m) (q2+1)=nb at*;simp only at hb hw hl
 cases hk:BP m
 ·simp[p119,md,e1,e2,e3,hk]
 by_cases hc:q2=1000000
 ·simp[p119,md,e1,e2,e3,hk,hc]
 have hc2: ¬ (1000000:Int)<=q2:=by omega
 by_cases hw0:Hb s=0
 ·simp[p119,md,e1,e2,e3,e4,e5,hk,hc,hc2,hw,hA,hw0,hl]
 ·simp[p119,md,e1,e2,e3,e4,e5,hk,hc,hc2,hw,hA,hw0,hl]
theorem tornB_len {was now:List Int} {k:Nat}:(GP was now k).length<=was.length+now.length:=by
 unfold GP;rw[List.length_append,List.length_take,List.length_drop];omega
theorem tornB_160 {was now:List Int} (h:now.length=160):(GP was now 160).take 160=now:=by
 unfold GP;rw[List.take_of_length_le (l:=now) (by omega),List.take_append_of_le_length (by omega),List.take_of_length_le (by omega)]
structure BI where
 kind:Int
 cell:Int
 val:Int
 who:Int
 gens:List Int
 deriving Inhabited,DecidableEq
structure Ci where
 src:Int
 dst:Int
 msg:BI
 deriving Inhabited,DecidableEq
structure D5 where
 kind:Int
 a:Int
 b:Int
 deriving Inhabited,DecidableEq
@[simp] def fMs (m:BI):List T:=[.sc (.int .i64 m.kind),.sc (.int .i64 m.cell),.sc (.int .i64 m.val),.sc (.int .i64 m.who),.sl 1 (enc fI m.gens)]
@[simp] def fP (p:Ci):List T:=[.sc (.int .i64 p.src),.sc (.int .i64 p.dst),.sc (.int .i64 p.msg.kind),.sc (.int .i64 p.msg.cell),.sc (.int .i64 p.msg.val),.sc (.int .i64 p.msg.who),.sl 1 (enc fI p.msg.gens)]
@[simp] def fD (d:D5):List T:=[.sc (.int .i64 d.kind),.sc (.int .i64 d.a),.sc (.int .i64 d.b)]
def ins (l:List Int) (a:Int):List Int:=l.takeWhile (fun x=>decide (x<a))++a::l.dropWhile (fun x=>decide (x<a))
def D8 (l:List Int) (a:Int):List Int:=if decide (a∈l)|| !inB a 0 7 then l else ins l a
theorem UB {l : List Int} {a : Int} {k : Nat} (hk : k <= l.length) (hp : ∀ j, j < k -> l.getD j 0 < a) (hkn : k = l.length \/ k < l.length /\ ¬ l.getD k 0 < a) : l.take k ++ [a] ++ l.drop k = ins l a := by
  unfold ins
  induction l generalizing k with
  | nil => simp
  | cons x l ih =>
    cases k with
    | zero =>
      have h : ¬ x < a := by rcases hkn with h | h; · simp at h
                             · simpa using h.2
      simp [List.takeWhile, List.dropWhile, h]
    | succ k =>
      have h : x < a := by simpa using hp 0 (by omega)
      have := ih (k := k) (by simpa using hk) (fun j hj => by simpa using hp (j + 1) (by omega)) (by rcases hkn with h | h; · left; simpa using h
                                                                                                     · right; simpa using h)
      simp only [List.takeWhile, List.dropWhile, h, decide_true, List.take_succ_cons, List.drop_succ_cons, List.cons_append] at this ⊢;rw [this]
theorem Rp (l:List Int) (a:Int):(ins l a).length=l.length+1:=by
 unfold ins;have h:=congrArg List.length (List.takeWhile_append_dropWhile (p:=fun x=>decide (x<a)) (l:=l));rw[List.length_append]at h;simp only[List.length_append,List.length_cons];omega
theorem Gh (l:List Int) (a:Int):(D8 l a).length<=l.length+1:=by
 unfold D8;split
 ·omega
 ·rw[Rp];omega
theorem FT {α:Type} {f:α->List T} {l:List α} {k:Nat} (h:BA (enc f (l.take k))=true):BA (List.take k (enc f l))=true:=by simpa only[enc,List.map_take]using h
theorem HR {α:Type} {f:α->List T} {l:List α} {k:Nat} (h:BA (enc f (l.drop k))=true):BA (List.drop k (enc f l))=true:=by simpa only[enc,List.map_drop]using h
@[simp] def st147 (l:List Int) (a:Int) (j:Nat):St:={n:=46,m:=0,tm:=[(0,.im 1 (enc fI l)),(1,.sc (.int .i64 a)),(5,.sc (.int .i64 j))],ob:=[]}
theorem JB (l:List Int) (a:Int) (hl:l.length<=1048575):AH G PK md 147 [.v (.im 1 (enc fI l)),.v (.sc (.int .i64 a))]=some ⟨[.v (.own 1 (enc fI (D8 l a)))],[],[]⟩:=by
 have e1:=Cg (PK:=PK) l a (by omega);have e2:=Aj (PK:=PK) a 0 7;have g0:l.length<=4398046511104:=by omega
 have g1:l.length*8<=35184372088832:=by omega
 refine AA (pf:=p147) rfl (by simp[p147]) ?_;unfold D8;by_cases hm:a∈l
 ·simp[p147,md,e1,hm,g0,g1]
 cases hi:inB a 0 7
 ·simp[p147,md,e1,e2,hm,hi,g0,g1]
 obtain⟨k,hk,hp,hkn⟩:=first (fun j=>l.getD j 0<a) l.length;have g3:k<=4398046511104:=by omega
 have g4:k*8<=35184372088832:=by omega
 have g5:(k+1)*8<=35184372088832:=by omega
 have g6:(k+1+(l.length - k))*8<=35184372088832:=by omega
 have hft:BA (List.take k (enc fI l))=true:=FT (Ly _);have hfd:BA (List.drop k (enc fI l))=true:=HR (Ly _);have hend:k<l.length-> ¬l.getD k 0<a:=fun h=>by
  rcases hkn with rfl|⟨_,h2⟩
  ·omega
  ·exact h2
 rw[←UB hk hp hkn];have hsz:=AL (G:=G) (PK:=PK) (md:=md) (o:=10000000) (live:=[0,1,5]) (c:=b147_0) (fun j=>st147 l a j) k (fun j hj=>by
  have hj2:j<l.length:=by omega
  have hinc:=A2 hj2 (by omega);have hlt:=hp j hj;rw[List.getD_eq_getElem?_getD,List.getElem?_eq_getElem hj2]at hlt;simp only[Option.getD_some]at hlt;simp[b147_0,md,hj2,hinc,hlt]) (by
  by_cases hkl:k<l.length
  ·have h2:=hend hkl;rw[List.getD_eq_getElem?_getD,List.getElem?_eq_getElem hkl]at h2;simp only[Option.getD_some]at h2;simp[b147_0,md,hkl,h2]
  ·simp[b147_0,md,hkl])
 simp[p147,md,e1,e2,hm,hi];rw[hsz]
 ·by_cases hkl:k<l.length
  ·have h2:=hend hkl;rw[List.getD_eq_getElem?_getD,List.getElem?_eq_getElem hkl]at h2;simp only[Option.getD_some]at h2;simp[b147_0,md,hkl,h2,hk,g3,g4,g5,g6,hft,hfd];simp[enc,List.map_take,List.map_drop]
  ·simp[b147_0,md,hkl,hk,g3,g4,g5,g6,hft,hfd];simp[enc,List.map_take,List.map_drop]
 ·simp
 ·simp
def clr (l:List Int) (a:Int):List Int:=l.filter fun x=> !decide (x=a)
theorem Ud (l:List Int) (a:Int) {j:Nat} (hj:j<l.length):clr (l.take (j+1)) a=if l[j]=a then clr (l.take j) a else clr (l.take j) a++[l[j]]:=by
 have e:l.take (j+1)=l.take j++[l[j]]:=by rw[List.take_add_one,List.getElem?_eq_getElem hj];rfl
 unfold clr;rw[e,List.filter_append];by_cases h:l[j]=a
 ·rw[if_pos h];simp[h]
 ·rw[if_neg h];congr 1;simp[h]
theorem F0 (l:List Int) (a:Int):(clr l a).length<=l.length:=List.length_filter_le _ _
@[simp] def st227 (l:List Int) (a:Int) (out:List Int) (j:Nat):St:={n:=28,m:=0,tm:=[(0,.im 1 (enc fI l)),(1,.sc (.int .i64 a)),(5,.ref 10000000 []),(6,.sc (.int .i64 j))],ob:=[(10000000,.arr 1 (enc fI out))]}
theorem G1 (l:List Int) (a:Int) (hl:l.length<=1048576):AH G PK md 227 [.v (.im 1 (enc fI l)),.v (.sc (.int .i64 a))]=some ⟨[.v (.own 1 (enc fI (clr l a)))],[],[]⟩:=by
 refine AA (pf:=p227) rfl (by simp[p227]) ?_;have hsz:=AL (G:=G) (PK:=PK) (md:=md) (o:=10000000) (live:=[0,1,5,6]) (c:=b227_0) (fun j=>st227 l a (clr (l.take j) a) j) l.length (fun j hj=>by
  have hinc:=A2 hj hl;have hlen:=F0 (l.take j) a;rw[List.length_take]at hlen;have hsuc:=Ud l a hj;simp only[hsuc];generalize clr (l.take j) a=out at hlen ⊢;have g:out.length+1<=4398046511104:=by omega
  have g2:(out.length+1)*8<=35184372088832:=by omega
  by_cases hx:l[j]=a
  ·simp[b227_0,md,hj,hinc,hx]
  ·simp[b227_0,md,hj,hinc,hx,g,g2];exact Ac fI out [l[j]]) (by simp[b227_0])
 have hfull:l.take l.length=l:=List.take_length;simp[p227,md];rw[hsz]
 ·simp[b227_0,hfull]
 ·simp
 ·simp[clr]
def uni (a b:List Int):List Int:=(a++b).foldl D8 []
theorem HL (l:List Int): ∀o:List Int,(l.foldl D8 o).length<=o.length+l.length:=by
 induction l with
 |nil=>intro o;simp
 |cons x l ih=>
  intro o;have:=ih (D8 o x);have:=Gh o x;simp only[List.foldl_cons,List.length_cons];omega
theorem Dp {α β:Type} (f:β->α->β) (o:β) (l:List α) {j:Nat} {x:α} (h:l[j]? =some x):(l.take (j+1)).foldl f o=f ((l.take j).foldl f o) x:=by rw[List.take_add_one,h,List.foldl_append];rfl
@[simp] def st254_1 (a b:List Int) (out:List Int) (j:Nat):St:={n:=34,m:=0,tm:=[(0,.im 1 (enc fI a)),(1,.im 1 (enc fI b)),(5,.ref 10000000 []),(6,.sc (.int .i64 j))],ob:=[(10000000,.arr 1 (enc fI out))]}
@[simp] def st254_0 (b:List Int) (out:List Int) (j:Nat):St:={n:=34,m:=0,tm:=[(1,.im 1 (enc fI b)),(5,.ref 10000200 []),(7,.sc (.int .i64 j))],ob:=[(10000200,.arr 1 (enc fI out))]}
theorem UU (a b:List Int) (ha:a.length<=500000) (hb:b.length<=500000):AH G PK md 254 [.v (.im 1 (enc fI a)),.v (.im 1 (enc fI b))]=some ⟨[.v (.own 1 (enc fI (uni a b)))],[],[]⟩:=by
 refine AA (pf:=p254) rfl (by simp[p254]) ?_;have h1:=AL (G:=G) (PK:=PK) (md:=md) (o:=10000000) (live:=[0,1,5,6]) (c:=b254_1) (fun j=>st254_1 a b ((a.take j).foldl D8 []) j) a.length (fun j hj=>by
  obtain⟨x,hx⟩:=AE hj;obtain⟨_,hx'⟩:=Ba hx;have hinc:=A2 hj (by omega);have hl:=HL (a.take j) [];simp only[List.length_take,List.length_nil]at hl;simp only[Dp D8 [] a hx];generalize (a.take j).foldl D8 []=o at hl ⊢;have e:=JB (PK:=PK) o x (by omega);simp[b254_1,md,hj,hx',hinc,e]) (by simp[b254_1])
 have h0:=AL (G:=G) (PK:=PK) (md:=md) (o:=10000200) (live:=[1,5,7]) (c:=b254_0) (fun j=>st254_0 b ((b.take j).foldl D8 (a.foldl D8 [])) j) b.length (fun j hj=>by
  obtain⟨x,hx⟩:=AE hj;obtain⟨_,hx'⟩:=Ba hx;have hinc:=A2 hj (by omega);have hl0:=HL a [];have hl:=HL (b.take j) (a.foldl D8 []);simp only[List.length_take,List.length_nil]at hl hl0;simp only[Dp D8 _ b hx];generalize (b.take j).foldl D8 (a.foldl D8 [])=o at hl ⊢;have e:=JB (PK:=PK) o x (by omega);simp[b254_0,md,hj,hx',hinc,e]) (by simp[b254_0])
 have hu:uni a b=(b.foldl D8 (a.foldl D8 [])):=by unfold uni;rw[List.foldl_append]
 rw[hu];simp[p254,md];rw[h1]
 ·simp[b254_1];rw[h0]
  ·simp[b254_0]
  ·simp
  ·simp
 ·simp
 ·simp
end Go.Proofs.YtbolhfegdocpeaaGreat.Ow
