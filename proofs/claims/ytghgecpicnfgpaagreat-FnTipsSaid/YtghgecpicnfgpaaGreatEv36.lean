/- Functions evaluated on the small machine: What two writes have in Cj, what one has alone, Lines of writes: what is Cj is a beginning. -/
import Derived.Test.YtghgecpicnfgpaaGreatEv35
namespace Go.Proofs.YtghgecpicnfgpaaGreat.Ow
open Go
set_option linter.unusedVariables false
set_option linter.unusedSimpArgs false
set_option maxHeartbeats 16000000
@[simp] def st21 (l:LI) (j:Nat):St:={n:=26,m:=0,tm:=[(0,.im 1 (enc fI l)),(1,.im 1 (enc fI l)),(5,.sc (I6 j))],ob:=[]}
theorem ev_sameInts [PKI] (l:LI) (hl:l.length<=1048576):sG 21 [.v (.im 1 (enc fI l)),.v (.im 1 (enc fI l))]=some ⟨[.v (.sc (.bool true))],[],[]⟩:=by
 refine sK p21 ?_;have hsz:= @lok _ 10000000 [0,1,5] b21_0 (st21 l) l.length (λj hj=>by
  obtain⟨x,hx⟩:=AF hj;obtain⟨_,hx'⟩:=BT hx;have hinc:=Ar hj hl;simp[b21_0,  hj,hx,hx',hinc]) (by simp[b21_0])
 simp[p21];rw[hsz]
 ·simp[b21_0]
 ·simp
 ·simp
theorem ev_at [PKI] (x:LI) (i:Nat) (hb:byt x) (hi:i<=10): ∃v:Nat,v<=255/\sG 32 [.v (.im 1 (enc fU x)),.v (.sc (I6 i))]=some ⟨[.v (.sc (I6 v))],[],[]⟩:=by
 have hl:=hb.1;by_cases h:i<x.length
 ·obtain⟨u,y1,hu,hu',_⟩:=AK x h;have hub:=hb.2 u (List.mem_of_getElem? hu);obtain⟨v,rfl⟩: ∃v:Nat,u=v:=⟨u.toNat,by omega⟩;have w0:IntKind.wrap .i64 (v:Int)=v:=AC (by omega) (by omega);refine⟨v,by omega,sK p32 ?_⟩;simp[p32,  h,y1,hu',w0]
 ·have w0:IntKind.wrap .i64 ((i:Int)*7)=(i:Int)*7:=AC (by omega) (by omega);have w1:IntKind.wrap .i64 ((i:Int)*7+x.length)=((i*7+x.length:Nat):Int):=by rw[AC (by omega) (by omega)];omega
  obtain⟨s,hs⟩: ∃s,s=i*7+x.length:=⟨_,rfl⟩;rw[<-hs]at w1;have ht:((s:Nat):Int).tmod 256=((s%256:Nat):Int):=rfl;have w2:IntKind.wrap .i64 ((s%256:Nat):Int)=((s%256:Nat):Int):=AC (by omega) (by omega);obtain⟨r,hr⟩: ∃r,r=s%256:=⟨_,rfl⟩;rw[<-hr]at ht w2;refine⟨r,by omega,sK p32 ?_⟩;simp[p32,  h,w0,w1,ht,w2]
theorem ev_DrawCommon [PKI] (b:LI) (hb:byt b): ∃w n m,DW w/\sG 26 [.v (.im 1 (enc fU b))]=some ⟨[.a (AA (fWo w)),.v (.sc (I6 n)),.v (.sc (I6 m))],[],[]⟩:=by
 obtain⟨w,a,n,hw,ha,e⟩:=HE b hb;simp only[AA,AJ,fWo]at e;refine⟨w,a,n,hw,sK p26 ?_⟩;simp (maxSteps:=9999999) [p26,  e]
theorem ev_DrawOnly [PKI] (b:LI) (hb:byt b): ∃w n m,DW w/\sG 27 [.v (.im 1 (enc fU b))]=some ⟨[.a (AA (fWo w)),.v (.sc (I6 n)),.v (.sc (I6 m))],[],[]⟩:=by
 obtain⟨w,a,n,hw,ha,e⟩:=HE b hb;simp only[AA,AJ,fWo]at e;refine⟨w,a,n,hw,sK p27 ?_⟩;simp (maxSteps:=9999999) [p27,  e]
def cmF (c:LI) (o n:Int):Int:=if n∈c then n else o
def Cj (log:List Dw) (a b:Int):Int:=(chain log a).foldl (cmF (chain log b)) 0
@[simp] def st28 (c l:LI) (o:Int) (j:Nat):St:={n:=28,m:=0,tm:=[(7,.ref 10000000 []),(8,.sc (I6 o)),(16,.ref 10000001 []),(17,.sc (I6 l.length)),(18,.sc (I6 j))],ob:=[(10000000,.arr 1 (enc fI c)),(10000001,.arr 1 (enc fI l))]}
theorem XU [PKI] (w:AB) (a b:Int) (hl:w.log.length<=1048576):sG 28 [.a (AD (fWo w)),.v (.sc (I6 a)),.v (.sc (I6 b))]=some ⟨[.v (.sc (I6 (Cj w.log a b)))],[],[]⟩:=by
 refine sK p28 ?_;have e1:=Ct w a hl;have e2:=Ct w b hl;have l1:=D6 w.log a;have l2:=D6 w.log b;unfold Cj;simp only[AD,lent,fWo]at e1 e2;generalize chain w.log a=l at*;generalize chain w.log b=c at*;have hf:l.take l.length=l:=List.take_length;have hlp:= @lok _ 10000000 [7,8,16,17,18] b28_0 (λj=>st28 c l ((l.take j).foldl (cmF c) 0) j) l.length (λj hj=>by
  obtain⟨x,hx⟩:=AF hj;obtain⟨_,hx'⟩:=BT hx;have hinc:=Ar hj (by omega);have e:=BQ c x (by omega);simp only[Bi (cmF c) 0 l hx];generalize (l.take j).foldl (cmF c) 0=o;unfold cmF;by_cases hm:x∈c
  ·simp[b28_0,  hj,hx',hinc,e,hm]
  ·simp[b28_0,  hj,hx',hinc,e,hm]) (by simp[b28_0])
 simp only[hf]at hlp;simp[p28,  e1,e2];rw[hlp]
 ·simp[b28_0]
 ·simp
 ·simp
@[simp] def st29 (w:AB) (b:Int) (l:LI) (o:Int) (j:Nat):St:={n:=31,m:=0,tm:=[(2,.sc (I6 b)),(3,.pb 10000000 0),(7,.ref 10000001 []),(8,.sc (I6 o)),(9,.sc (I6 j))],ob:=[(10000000,Ey w),(10000001,.arr 1 (enc fI l))]}
theorem XO [PKI] (w:AB) (a b:Int) (hl:w.log.length<=1048576):sG 29 [.a (AD (fWo w)),.v (.sc (I6 a)),.v (.sc (I6 b))]=some ⟨[.v (.sc (I6 (Cj w.log a b)))],[],[]⟩:=by
 refine sK p29 ?_;have e1:=Ei w a hl;have l1:=D6 w.log a;have eW:=λx=>H7 w x b hl
 unfold Cj;simp only[AD,lent,fWo]at e1 eW;generalize chain w.log a=l at*;generalize chain w.log b=c at*;have hf:l.take l.length=l:=List.take_length;have hlp:= @lok _ 10000000 [2,3,7,8,9] b29_0 (λj=>st29 w b l ((l.take j).foldl (cmF c) 0) j) l.length (λj hj=>by
  obtain⟨x,hx⟩:=AF hj;obtain⟨_,hx'⟩:=BT hx;have hinc:=Ar hj (by omega);have e:=eW x;simp only[Bi (cmF c) 0 l hx];generalize (l.take j).foldl (cmF c) 0=o;unfold cmF;by_cases hm:x∈c
  ·simp[b29_0,  hj,hx',hinc,e,hm]
  ·simp[b29_0,  hj,hx',hinc,e,hm]) (by simp[b29_0])
 simp only[hf]at hlp;simp[p29,  e1];rw[hlp]
 ·simp[b29_0]
 ·simp
 ·simp
def only (log:List Dw) (a b:Int):LI:=(chain log a).filter λx=> !decide (x∈chain log b)
theorem XZ [PKI] (c:LI) (x:Int) (hc:c.length<=1048576):sG 52 [.v (.sc (I6 x)),.pi [.sl 1 (enc fI c)]]=some ⟨[.v (.sc (.bool (decide (x∈c))))],[],[]⟩:=by
 refine sK p52 ?_;have e:=BQ c x hc;simp[p52,  e]
theorem ev_impl_Only [PKI] (w:AB) (a b:Int) (hl:w.log.length<=1048576):sG 30 [.a (AD (fWo w)),.v (.sc (I6 a)),.v (.sc (I6 b))]=some ⟨[.v (.own 1 (enc fI (only w.log a b)))],[],[]⟩:=by
 refine sK p30 ?_;have e1:=Ct w a hl;have e2:=Ct w b hl;have l1:=D6 w.log a;have l2:=D6 w.log b;unfold only;simp only[AD,lent,fWo]at e1 e2;generalize chain w.log a=l at*;generalize chain w.log b=c at*;have e3:=Fg 52 [.sl 1 (enc fI c)] (λx=>decide (x∈c)) l (by omega) rfl (λx=>XZ c x (by omega));simp[p30,  e1,e2,e3]
@[simp] def st31 (w:AB) (b:Int) (l o:LI) (j:Nat):St:={n:=36,m:=0,tm:=[(2,.sc (I6 b)),(3,.pb 10000000 0),(7,.ref 10000001 []),(8,.ref 10000002 []),(9,.sc (I6 j))],ob:=[(10000000,Ey w),(10000001,.arr 1 (enc fI l)),(10000002,.arr 1 (enc fI o))]}
theorem ev_spec_Only [PKI] (w:AB) (a b:Int) (hl:w.log.length<=1048576):sG 31 [.a (AD (fWo w)),.v (.sc (I6 a)),.v (.sc (I6 b))]=some ⟨[.v (.own 1 (enc fI (only w.log a b)))],[],[]⟩:=by
 refine sK p31 ?_;have e1:=Ei w a hl;have l1:=D6 w.log a;have eW:=λx=>H7 w x b hl
 unfold only;simp only[AD,lent,fWo]at e1 eW;generalize chain w.log a=l at*;generalize chain w.log b=c at*;have hf:l.take l.length=l:=List.take_length;have hlp:= @lok _ 10000000 [2,3,7,8,9] b31_0 (λj=>st31 w b l ((l.take j).filter λx=> !decide (x∈c)) j) l.length (λj hj=>by
  obtain⟨x,hx⟩:=AF hj;obtain⟨_,hx'⟩:=BT hx;have hinc:=Ar hj (by omega);have e:=eW x;have hle:((l.take j).filter λx=> !decide (x∈c)).length<=j:=Nat.le_trans (List.length_filter_le _ _) (by rw[List.length_take];omega);have hsn:(l.take (j+1)).filter (λx=> !decide (x∈c))=(l.take j).filter (λx=> !decide (x∈c))++(if x∈c then []else [x]):=by
   rw[List.take_add_one,hx,List.filter_append];by_cases hm:x∈c<;>simp[hm]
  simp only[hsn];generalize (l.take j).filter (λx=> !decide (x∈c))=o at*;have g1:(o.length+1)*8<=35184372088832:=by omega
  have hen:enc fI o++[[T.sc (I6 x)]]=enc fI (o++[x]):=by simp[enc]
  by_cases hm:x∈c
  ·simp[b31_0,  hj,hx',hinc,e,hm]
  ·simp[b31_0,  hj,hx',hinc,e,hm,g1,hen]) (by simp[b31_0])
 simp only[hf]at hlp;simp[p31,  e1];rw[hlp]
 ·simp[b31_0]
 ·simp
 ·simp
def Ups (log:List Dw):Prop:= ∀n:Int,1<=n->n<=log.length->0<=CF log n/\CF log n<n
theorem worldOk_ups {w:AB} (h:Ap w=true):Ups w.log:=λn h1 h2=>by
 obtain⟨j,rfl⟩: ∃j:Nat,n=(j:Int)+1:=⟨(n - 1).toNat,by omega⟩;obtain⟨r,_,_,hup,h3,h4⟩:=Sy h (j:=j) (by omega);rw[hup];exact⟨h3,h4⟩
theorem KC {log:List Dw} (hu:Ups log): ∀ (f:Nat) (n x:Int),n.toNat<=f->x∈chain log n-> ∃rest,chain log n=chain log x++rest/\ ∀y∈rest,x<y
 |0,n,x,hf,hx=>by
  have:=Iv hx;omega
 |f+1,n,x,hf,hx=>by
  have hn:1<=n/\n<=log.length:=by
   by_cases h:1<=n/\n<=log.length
   ·exact h
   ·rw[Gn h]at hx;cases hx
  have hup:=hu n hn.1 hn.2;have hc:=Oz hn.1 hn.2 hup.1 hup.2;rw[hc]at hx;rcases List.mem_append.1 hx with hx|hx
  ·obtain⟨r,h1,h2⟩:=KC hu f (CF log n) x (by omega) hx;have hxm:=Iv hx;refine⟨r++[n],by rw[hc,h1,List.append_assoc],λy hy=> ?_⟩;rcases List.mem_append.1 hy with hy|hy
   ·exact h2 y hy
   ·rw[List.mem_singleton.1 hy];omega
  ·rw[List.mem_singleton.1 hx];exact⟨[],by simp,λy hy=>by cases hy⟩
theorem LN {log:List Dw} (hu:Ups log): ∀ (f:Nat) (n:Int),n.toNat<=f->(chain log n).Pairwise (· < ·)
 |0,n,hf=>by rw[Gn (by omega)];exact .nil
 |f+1,n,hf=>by
  by_cases hn:1<=n/\n<=log.length
  ·have hup:=hu n hn.1 hn.2;rw[Oz hn.1 hn.2 hup.1 hup.2];refine List.pairwise_append.2 ⟨LN hu f _ (by omega),List.pairwise_singleton _ _,λx hx y hy=> ?_⟩;rw[List.mem_singleton.1 hy];have:=Iv hx;omega
  ·rw[Gn hn];exact .nil
theorem Sm (c:LI): ∀ (l:LI) (o:Int),(l.foldl (cmF c) o=o/\ ∀x∈l,x∉c)\/ ∃l1 l2,l=l1++l.foldl (cmF c) o::l2/\l.foldl (cmF c) o∈c/\ ∀x∈l2,x∉c
 |[],o=> .inl ⟨rfl,λx hx=>by cases hx⟩
 |x::l,o=>by
  rw[List.foldl_cons];rcases Sm c l (cmF c o x)with ⟨h1,h2⟩|⟨l1,l2,h1,h2,h3⟩
  ·rw[h1];by_cases hx:x∈c
   ·have h4:cmF c o x=x:=by unfold cmF;rw[if_pos hx]
    rw[h4];exact .inr ⟨[],l,rfl,hx,h2⟩
   ·have h4:cmF c o x=o:=by unfold cmF;rw[if_neg hx]
    rw[h4];refine .inl ⟨rfl,λy hy=> ?_⟩;rcases List.mem_cons.1 hy with rfl|hy
    ·exact hx
    ·exact h2 y hy
  ·exact .inr ⟨x::l1,l2,by rw[List.cons_append,<-h1],h2,h3⟩
theorem FO {log:List Dw} (a b:Int):(Cj log a b=0/\ ∀x∈chain log a,x∉chain log b)\/(Cj log a b∈chain log a/\Cj log a b∈chain log b/\ ∃l1 l2,chain log a=l1++Cj log a b::l2/\ ∀x∈l2,x∉chain log b):=by
 unfold Cj;rcases Sm (chain log b) (chain log a) 0 with h|⟨l1,l2,h1,h2,h3⟩
 ·exact .inl h
 ·refine .inr ⟨?_,h2,l1,l2,h1,h3⟩;generalize (chain log a).foldl (cmF (chain log b)) 0=c at*;rw[h1];simp
theorem HH {log:List Dw} (hu:Ups log) {a b x:Int} (hx:x∈chain log a) (hb:x∈chain log b):x<=Cj log a b/\Cj log a b∈chain log a/\Cj log a b∈chain log b:=by
 rcases FO (log:=log) a b with ⟨_,h⟩|⟨h1,h2,l1,l2,h3,h4⟩
 ·exact absurd hb (h x hx)
 ·refine⟨?_,h1,h2⟩;have hs:=LN hu a.toNat a (Nat.le_refl _);rw[h3]at hx hs;have hp:=List.pairwise_append.1 hs;rcases List.mem_append.1 hx with hx|hx
  ·exact Int.le_of_lt (hp.2.2 x hx _ List.mem_cons_self)
  ·rcases List.mem_cons.1 hx with hx|hx
   ·rw[hx];exact Int.le_refl _
   ·exact absurd hb (h4 x hx)
theorem common_comm {log:List Dw} (hu:Ups log) (a b:Int):Cj log a b=Cj log b a:=by
 rcases FO (log:=log) a b with ⟨h0,h⟩|⟨h1,h2,_⟩
 ·rcases FO (log:=log) b a with ⟨g0,_⟩|⟨g1,g2,_⟩
  ·rw[h0,g0]
  ·exact absurd g1 (h _ g2)
 ·obtain⟨k1,k2,k3⟩:=HH hu h2 h1;obtain⟨m1,_,_⟩:=HH hu k3 k2;exact Int.le_antisymm k1 m1
theorem common_self {log:List Dw} (hu:Ups log) {a:Int} (h1:1<=a) (h2:a<=log.length):Cj log a a=a:=by
 have hup:=hu a h1 h2;have hm:a∈chain log a:=by rw[Oz h1 h2 hup.1 hup.2];simp
 obtain⟨k1,k2,_⟩:=HH hu hm hm;have:=Iv k2;omega
theorem common_only {log:List Dw} (hu:Ups log) (a b:Int):chain log (Cj log a b)++only log a b=chain log a:=by
 unfold only;rcases FO (log:=log) a b with ⟨h0,h⟩|⟨h1,h2,_⟩
 ·rw[h0,Gn (by omega),List.nil_append,List.filter_eq_self];intro x hx;simp[h x hx]
 ·obtain⟨r,k1,k2⟩:=KC hu a.toNat a _ (Nat.le_refl _) h1;obtain⟨s,g1,_⟩:=KC hu b.toNat b _ (Nat.le_refl _) h2;have hf:(chain log a).filter (λx=> !decide (x∈chain log b))=r:=by
   rw[k1,List.filter_append];have e1:(chain log (Cj log a b)).filter (λx=> !decide (x∈chain log b))=[]:=by
    rw[List.filter_eq_nil_iff];intro x hx;have:x∈chain log b:=by rw[g1];exact List.mem_append_left _ hx
    simp[this]
   have e2:r.filter (λx=> !decide (x∈chain log b))=r:=by
    rw[List.filter_eq_self];intro x hx;have hxa:x∈chain log a:=by rw[k1];exact List.mem_append_right _ hx
    have:x∉chain log b:=λhb=>by
     have h5:=(HH hu hxa hb).1;have h6:=k2 x hx;omega
    simp[this]
   rw[e1,e2,List.nil_append]
  rw[hf,<-k1]
end Go.Proofs.YtghgecpicnfgpaaGreat.Ow
