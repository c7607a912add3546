/- Numbers out of bytes: evaluated. -/
import Derived.Lib.EndianBits
import Derived.Test.YtghgecpicnfgpaaGreatEv1
namespace Go.Proofs.YtghgecpicnfgpaaGreat.Ow
open Go
set_option linter.unusedVariables false
set_option linter.unusedSimpArgs false
set_option maxHeartbeats 4000000
def byt (b:LI):Prop:=b.length<=1048576/\ ∀x∈b,0<=x/\x<256
def acc (b:LI) (a:Nat):Nat->Int
 |0=>0
 |j+1=>acc b a j+(b.getD (a+j) 0).tmod 128*128 ^ j
def N9 (b:LI) (a:Nat):Nat->Nat->Option (Int×Nat)
 |0,_=>none
 |f+1,k=>if a+k<b.length then
   if 128<=b.getD (a+k) 0 then N9 b a f (k+1)else if(0<k/\b.getD (a+k) 0=0)\/2147483647<acc b a (k+1)then none else some (acc b a (k+1),a+k+1)
  else none
def E4 (b:LI) (a:Nat):Option (Int×Nat):=N9 b a 5 0
def Mt:Option (Int×Nat)->List RV
 |some (n,k)=>[.v (.sc (I6 n)),.v (.sc (I6 k)),.v (.sc (.bool true))]
 |none=>[.v (.sc (I6 0)),.v (.sc (I6 0)),.v (.sc (.bool false))]
def Ms (b:LI) (a j:Nat):Bool:=decide (a+j<b.length)&&decide (128<=b.getD (a+j) 0)
theorem Kq {b:LI} {a:Nat}: ∀k,k<=5->(∀j,j<k->Ms b a j=true)->E4 b a=N9 b a (5 - k) k
 |0,_,_=>rfl
 |k+1,h,hp=>by
  have hg:=hp k (by omega);unfold Ms at hg;simp at hg;rw[Kq k (by omega) (λj hj=>hp j (by omega)),show 5 - k=5 - (k+1)+1 by omega,N9,if_pos hg.1,if_pos (by simpa[List.getD_eq_getElem?_getD]using hg.2)]
theorem XH {b:LI} (hb:byt b) (i:Nat):0<=b.getD i 0/\b.getD i 0<256:=by
 rw[List.getD_eq_getElem?_getD];rcases Nat.lt_or_ge i b.length with h|h
 ·rw[List.getElem?_eq_getElem h];exact hb.2 _ (List.getElem_mem h)
 ·rw[List.getElem?_eq_none h];simp
theorem MM {b:LI} (hb:byt b) (a:Nat): ∀j,0<=acc b a j/\acc b a j<128 ^ j
 |0=>by simp[acc]
 |j+1=>by
  obtain⟨h1,h2⟩:=MM hb a j;obtain⟨h3,h4⟩:=XH hb (a+j);have h5:(b.getD (a+j) 0).tmod 128=b.getD (a+j) 0%128:=Int.tmod_eq_emod_of_nonneg h3;have h6:=Int.emod_nonneg (b.getD (a+j) 0) (b:=128) (by omega);have h7:=Int.emod_lt_of_pos (b.getD (a+j) 0) (b:=128) (by omega);have h8:(0:Int)<128 ^ j:=Int.pow_pos (by omega);simp only[acc,h5];generalize b.getD (a+j) 0%128=d at*;generalize acc b a j=A at*;have h9:(128:Int) ^ (j+1)=128 ^ j*128:=Int.pow_succ _ _;rw[h9];generalize (128:Int) ^ j=P at*;have h10:d*P<=127*P:=Int.mul_le_mul_of_nonneg_right (by omega) (by omega);have h11:0<=d*P:=Int.mul_nonneg h6 (by omega);omega
theorem UL {A d:Int} {j:Nat} (hj:j<5) (h0:0<=A) (h1:A<128 ^ j) (h2:0<=d) (h3:d<128):bits .or .i64 A (d*128 ^ j)=A+d*128 ^ j:=by
 have hP:(128:Int) ^ j=2 ^ (7*j):=by rw[Int.pow_mul];rfl
 have hj':(128:Int) ^ j<=268435456:=by
  rcases(by omega:j=0\/j=1\/j=2\/j=3\/j=4)with rfl|rfl|rfl|rfl|rfl<;>simp
 have h8:(0:Int)<128 ^ j:=Int.pow_pos (by omega);have hm:(d*128 ^ j)%2 ^ (7*j)=0:=by rw[<-hP];exact Int.mul_emod_left _ _
 have hle:d*128 ^ j<=127*128 ^ j:=Int.mul_le_mul_of_nonneg_right (by omega) (by omega);have hge:0<=d*128 ^ j:=Int.mul_nonneg h2 (by omega);rw[hP]at h1 hle hge hj' ⊢;rw[hP]at hm;refine bits_join_low .i64 63 (by decide) (λn hn hn'=>AC (by omega) (by omega)) (7*j) A _ h0 h1 ?_ hge hm ?_
 ·generalize (2:Int) ^ (7*j)=P at*;omega
 ·generalize (2:Int) ^ (7*j)=P at*;omega
theorem Qh {j:Nat} (hj:j<5):(128:Int) ^ j<=268435456:=by
 rcases(by omega:j=0\/j=1\/j=2\/j=3\/j=4)with rfl|rfl|rfl|rfl|rfl<;>simp
theorem V6 {d:Int} {j s:Nat} (hj:j<5) (hs:s=7*j) (h2:0<=d) (h3:d<128):IntKind.wrap .i64 (d*2 ^ min s IntKind.i64.bits)=d*128 ^ j:=by
 have hP:(128:Int) ^ j=2 ^ (7*j):=by rw[Int.pow_mul];rfl
 have hm:min s IntKind.i64.bits=7*j:=by
  have:IntKind.i64.bits=64:=rfl;omega
 rw[hm,<-hP];have h1:=Qh hj;have h8:(0:Int)<128 ^ j:=Int.pow_pos (by omega);generalize (128:Int) ^ j=P at*;have hle:d*P<=127*P:=Int.mul_le_mul_of_nonneg_right (by omega) (by omega);have hge:0<=d*P:=Int.mul_nonneg h2 (by omega);exact AC (by omega) (by omega)
@[simp] def st263 (b:LI) (a:Nat) (j:Nat):St:={n:=55,m:=0,tm:=[(0,.im 1 (enc fU b)),(1,.sc (I6 a)),(7,.sc (I6 (acc b a j))),(8,.sc (I6 j))],ob:=[]}
theorem OM [PKI] (b:LI) (a:Nat) (hb:byt b) (ha:a<=4611686018427387904):sG 263 [.v (.im 1 (enc fU b)),.v (.sc (I6 a))]=some ⟨Mt (E4 b a),[],[]⟩:=by
 refine sK p263 ?_;obtain⟨k,hk,hp,hkn⟩:=first (λj=>Ms b a j=true) 5;have hbl:=hb.1;have hstep: ∀j,j<k-> ∃s',xG b263_0 (st263 b a j)=some (.normal,s')/\s'.m<=10000000/\Aa 10000000 [0,1,7,8] s'=st263 b a (j+1):=λj hj=>by
  have h1:=hp j hj;unfold Ms at h1;rw[Bool.and_eq_true,decide_eq_true_iff,decide_eq_true_iff]at h1;obtain⟨hlt,h128⟩:=h1;obtain⟨n,hn⟩: ∃n,n=a+j:=⟨_,rfl⟩;obtain⟨x,hi,hx,hx',hd⟩:=AK b (j:=n) (by omega);rw[hn]at hd;have hnadd:IntKind.wrap .i64 ((a:Int)+j)=(n:Int):=by rw[AC (by omega) (by omega)];omega
  have hxr:=hb.2 x (List.mem_of_getElem? hx);have hj5:j<5:=by omega
  have hsub:IntKind.wrap .i64 ((b.length:Int) - j)=(b.length:Int) - j:=AC (by omega) (by omega);have hwx:IntKind.wrap .i64 x=x:=AC (by omega) (by omega);have hle: ¬ (b.length:Int) - j<=a:=by omega
  have hjj:((j:Nat):Int)<5:=by omega
  have hr1:x.tmod 128=x%128:=Int.tmod_eq_emod_of_nonneg hxr.1;have hr2:=Int.emod_nonneg x (b:=128) (by omega);have hr3:=Int.emod_lt_of_pos x (b:=128) (by omega);obtain⟨ha0,ha1⟩:=MM hb a j;have hacc:acc b a (j+1)=acc b a j+x%128*128 ^ j:=by simp only[acc,hd,hr1]
  have hor:=UL hj5 ha0 ha1 hr2 hr3;rw[<-hacc]at hor;obtain⟨s,hs⟩: ∃s,s=7*j:=⟨_,rfl⟩;have h7:IntKind.wrap .i64 (7*((j:Nat):Int))=(s:Int):=by rw[AC (by omega) (by omega)];omega
  have hs0: ¬ (s:Int)<0:=by omega
  have hshl:IntKind.wrap .i64 (x%128*2 ^ min s IntKind.i64.bits)=x%128*128 ^ j:=V6 hj5 hs hr2 hr3;generalize hX:x%128*128 ^ j=X at hor hshl;have hna: ¬ (a:Int)<0:=by omega
  rw[hd]at h128;have h128': ¬x<128:=by omega
  simp[b263_0,  hjj,hsub,hle,hnadd,hi,hx',hwx,hr1,hor,h7,hs0,hshl,h128',hna,Ar (n:=5) hj5 (by omega)]
 have hzs:Mt none=[.v (.sc (I6 0)),.v (.sc (I6 0)),.v (.sc (.bool false))]:=rfl;have hrun:=Kq k hk hp;rcases hkn with rfl|⟨hk5,hn0⟩
 ·have hsz:= @lok _ 10000000 [0,1,7,8] b263_0 (st263 b a) 5 hstep (by simp[b263_0]);have hr:E4 b a=none:=by rw[hrun];rfl
  rw[hr,hzs];simp[p263];rw[hsz]
  ·simp[b263_0]
  ·simp
  ·simp[acc]
 ·rw[show 5 - k=5 - (k+1)+1 by omega]at hrun;rw[N9]at hrun;have hjj:((k:Nat):Int)<5:=by omega
  have hna: ¬ (a:Int)<0:=by omega
  have hsub:IntKind.wrap .i64 ((b.length:Int) - k)=(b.length:Int) - k:=AC (by omega) (by omega);by_cases hlt:a+k<b.length
  ·rw[if_pos hlt]at hrun;obtain⟨n,hn⟩: ∃n,n=a+k:=⟨_,rfl⟩;obtain⟨x,hi,hx,hx',hd⟩:=AK b (j:=n) (by omega);rw[hn]at hd;have hnadd:IntKind.wrap .i64 ((a:Int)+k)=(n:Int):=by rw[AC (by omega) (by omega)];omega
   have hxr:=hb.2 x (List.mem_of_getElem? hx);have hj5:k<5:=by omega
   have hsub:IntKind.wrap .i64 ((b.length:Int) - k)=(b.length:Int) - k:=AC (by omega) (by omega);have hwx:IntKind.wrap .i64 x=x:=AC (by omega) (by omega);have hle: ¬ (b.length:Int) - k<=a:=by omega
   have hjj:((k:Nat):Int)<5:=by omega
   have hr1:x.tmod 128=x%128:=Int.tmod_eq_emod_of_nonneg hxr.1;have hr2:=Int.emod_nonneg x (b:=128) (by omega);have hr3:=Int.emod_lt_of_pos x (b:=128) (by omega);obtain⟨ha0,ha1⟩:=MM hb a k;have hacc:acc b a (k+1)=acc b a k+x%128*128 ^ k:=by simp only[acc,hd,hr1]
   have hor:=UL hj5 ha0 ha1 hr2 hr3;rw[<-hacc]at hor;obtain⟨s,hs⟩: ∃s,s=7*k:=⟨_,rfl⟩;have h7:IntKind.wrap .i64 (7*((k:Nat):Int))=(s:Int):=by rw[AC (by omega) (by omega)];omega
   have hs0: ¬ (s:Int)<0:=by omega
   have hshl:IntKind.wrap .i64 (x%128*2 ^ min s IntKind.i64.bits)=x%128*128 ^ k:=V6 hj5 hs hr2 hr3;generalize hX:x%128*128 ^ k=X at hor hshl;have hna: ¬ (a:Int)<0:=by omega
   have hx128: ¬ 128<=x:=by
    intro h;apply hn0;unfold Ms;rw[hd];simp[hlt,h]
   have h128':x<128:=by omega
   rw[hd,if_neg hx128]at hrun;have hn1:IntKind.wrap .i64 ((n:Int)+1)=(n:Int)+1:=AC (by omega) (by omega);rw[<-hn]at hrun;by_cases hbig:2147483647<acc b a (k+1)
   ·rw[if_pos (.inr hbig)]at hrun;rw[hrun,hzs];by_cases hk0:0<k
    ·by_cases hx0:x=0
     ·subst hx0;have hsz:= @lok _ 10000000 [0,1,7,8] b263_0 (st263 b a) k hstep (by simp[b263_0,  hjj,hsub,hna,hle,hnadd,hi,hx',hwx,hr1,hor,h7,hs0,hshl,h128',hbig,hk0]);simp[p263];rw[hsz]
      ·simp[b263_0,  hjj,hsub,hna,hle,hnadd,hi,hx',hwx,hr1,hor,h7,hs0,hshl,h128',hbig,hk0]
      ·simp
      ·simp[acc]
     ·have hsz:= @lok _ 10000000 [0,1,7,8] b263_0 (st263 b a) k hstep (by simp[b263_0,  hjj,hsub,hna,hle,hnadd,hi,hx',hwx,hr1,hor,h7,hs0,hshl,h128',hbig,hk0,hx0]);simp[p263];rw[hsz]
      ·simp[b263_0,  hjj,hsub,hna,hle,hnadd,hi,hx',hwx,hr1,hor,h7,hs0,hshl,h128',hbig,hk0,hx0]
      ·simp
      ·simp[acc]
    ·have hsz:= @lok _ 10000000 [0,1,7,8] b263_0 (st263 b a) k hstep (by simp[b263_0,  hjj,hsub,hna,hle,hnadd,hi,hx',hwx,hr1,hor,h7,hs0,hshl,h128',hbig,hk0]);simp[p263];rw[hsz]
     ·simp[b263_0,  hjj,hsub,hna,hle,hnadd,hi,hx',hwx,hr1,hor,h7,hs0,hshl,h128',hbig,hk0]
     ·simp
     ·simp[acc]
   ·by_cases hk0:0<k
    ·by_cases hx0:x=0
     ·rw[if_pos (.inl ⟨hk0,hx0⟩)]at hrun;rw[hrun,hzs];subst hx0;have hsz:= @lok _ 10000000 [0,1,7,8] b263_0 (st263 b a) k hstep (by simp[b263_0,  hjj,hsub,hna,hle,hnadd,hi,hx',hwx,hr1,hor,h7,hs0,hshl,h128',hbig,hk0]);simp[p263];rw[hsz]
      ·simp[b263_0,  hjj,hsub,hna,hle,hnadd,hi,hx',hwx,hr1,hor,h7,hs0,hshl,h128',hbig,hk0]
      ·simp
      ·simp[acc]
     ·rw[if_neg (by omega)]at hrun;rw[hrun];simp only[Mt];have hsz:= @lok _ 10000000 [0,1,7,8] b263_0 (st263 b a) k hstep (by simp[b263_0,  hjj,hsub,hna,hle,hnadd,hi,hx',hwx,hr1,hor,h7,hs0,hshl,h128',hbig,hk0,hx0,hn1]);simp[p263];rw[hsz]
      ·simp[b263_0,  hjj,hsub,hna,hle,hnadd,hi,hx',hwx,hr1,hor,h7,hs0,hshl,h128',hbig,hk0,hx0,hn1]
      ·simp
      ·simp[acc]
    ·rw[if_neg (by omega)]at hrun;rw[hrun];simp only[Mt];have hsz:= @lok _ 10000000 [0,1,7,8] b263_0 (st263 b a) k hstep (by simp[b263_0,  hjj,hsub,hna,hle,hnadd,hi,hx',hwx,hr1,hor,h7,hs0,hshl,h128',hbig,hk0,hn1]);simp[p263];rw[hsz]
     ·simp[b263_0,  hjj,hsub,hna,hle,hnadd,hi,hx',hwx,hr1,hor,h7,hs0,hshl,h128',hbig,hk0,hn1]
     ·simp
     ·simp[acc]
  ·rw[if_neg hlt]at hrun;rw[hrun,hzs];have hle:(b.length:Int) - k<=a:=by omega
   have hsz:= @lok _ 10000000 [0,1,7,8] b263_0 (st263 b a) k hstep (by simp[b263_0,  hjj,hsub,hna,hle]);simp[p263];rw[hsz]
   ·simp[b263_0,  hjj,hsub,hna,hle]
   ·simp
   ·simp[acc]
@[simp] def st271 (b:LI) (a:Nat) (j:Nat):St:={n:=57,m:=0,tm:=[(0,.im 1 (enc fU b)),(1,.sc (I6 a)),(7,.sc (I6 (acc b a j))),(8,.sc (I6 (128 ^ j))),(9,.sc (I6 j))],ob:=[]}
theorem Oc [PKI] (b:LI) (a:Nat) (hb:byt b) (ha:a<=4611686018427387904):sG 271 [.v (.im 1 (enc fU b)),.v (.sc (I6 a))]=some ⟨Mt (E4 b a),[],[]⟩:=by
 refine sK p271 ?_;obtain⟨k,hk,hp,hkn⟩:=first (λj=>Ms b a j=true) 5;have hbl:=hb.1;have hna: ¬ (a:Int)<0:=by omega
 have hstep: ∀j,j<k-> ∃s',xG b271_0 (st271 b a j)=some (.normal,s')/\s'.m<=10000000/\Aa 10000000 [0,1,7,8,9] s'=st271 b a (j+1):=λj hj=>by
  have h1:=hp j hj;unfold Ms at h1;rw[Bool.and_eq_true,decide_eq_true_iff,decide_eq_true_iff]at h1;obtain⟨hlt,h128⟩:=h1;obtain⟨n,hn⟩: ∃n,n=a+j:=⟨_,rfl⟩;obtain⟨x,hi,hx,hx',hd⟩:=AK b (j:=n) (by omega);rw[hn]at hd;have hnadd:IntKind.wrap .i64 ((a:Int)+j)=(n:Int):=by rw[AC (by omega) (by omega)];omega
  have hxr:=hb.2 x (List.mem_of_getElem? hx);have hj5:j<5:=by omega
  have hsub:IntKind.wrap .i64 ((b.length:Int) - j)=(b.length:Int) - j:=AC (by omega) (by omega);have hwx:IntKind.wrap .i64 x=x:=AC (by omega) (by omega);have hjj:((j:Nat):Int)<5:=by omega
  have hr1:x.tmod 128=x%128:=Int.tmod_eq_emod_of_nonneg hxr.1;have hr2:=Int.emod_nonneg x (b:=128) (by omega);have hr3:=Int.emod_lt_of_pos x (b:=128) (by omega);obtain⟨ha0,ha1⟩:=MM hb a j;have hacc:acc b a (j+1)=acc b a j+x%128*128 ^ j:=by simp only[acc,hd,hr1]
  have hp5:=Qh hj5;have hp0:(0:Int)<128 ^ j:=Int.pow_pos (by omega);have hpe:(128:Int) ^ (j+1)=128 ^ j*128:=Int.pow_succ _ _;have hmu:IntKind.wrap .i64 (128 ^ j*128)=128 ^ (j+1):=by rw[hpe,AC (by omega) (by omega)]
  have hmx:0<=x%128*128 ^ j/\x%128*128 ^ j<=127*128 ^ j:=⟨Int.mul_nonneg hr2 (by omega),Int.mul_le_mul_of_nonneg_right (by omega) (by omega)⟩;have hmw:IntKind.wrap .i64 (x%128*128 ^ j)=x%128*128 ^ j:=AC (by omega) (by omega);have hsum:IntKind.wrap .i64 (acc b a j+x%128*128 ^ j)=acc b a (j+1):=by rw[hacc,AC (by omega) (by omega)]
  have hle2:(a:Int)<(b.length:Int) - j:=by omega
  rw[hd]at h128;have h128':128<=x:=by omega
  simp[b271_0,  hjj,hsub,hna,hle2,hnadd,hi,hx',hwx,hr1,hmu,hmw,hsum,h128',Ar (n:=5) hj5 (by omega)]
 have hzs:Mt none=[.v (.sc (I6 0)),.v (.sc (I6 0)),.v (.sc (.bool false))]:=rfl;have hrun:=Kq k hk hp;rcases hkn with rfl|⟨hk5,hn0⟩
 ·have hr:E4 b a=none:=by rw[hrun];rfl
  rw[hr,hzs];have hsz:= @lok _ 10000000 [0,1,7,8,9] b271_0 (st271 b a) 5 hstep (by simp[b271_0,  hna]);simp[p271,hna];rw[hsz]
  ·simp[b271_0,  hna]
  ·simp
  ·simp[acc]
 ·rw[show 5 - k=5 - (k+1)+1 by omega]at hrun;rw[N9]at hrun;have hjj:((k:Nat):Int)<5:=by omega
  have hsub:IntKind.wrap .i64 ((b.length:Int) - k)=(b.length:Int) - k:=AC (by omega) (by omega);by_cases hlt:a+k<b.length
  ·rw[if_pos hlt]at hrun;obtain⟨n,hn⟩: ∃n,n=a+k:=⟨_,rfl⟩;obtain⟨x,hi,hx,hx',hd⟩:=AK b (j:=n) (by omega);rw[hn]at hd;have hnadd:IntKind.wrap .i64 ((a:Int)+k)=(n:Int):=by rw[AC (by omega) (by omega)];omega
   have hxr:=hb.2 x (List.mem_of_getElem? hx);have hj5:k<5:=by omega
   have hsub:IntKind.wrap .i64 ((b.length:Int) - k)=(b.length:Int) - k:=AC (by omega) (by omega);have hwx:IntKind.wrap .i64 x=x:=AC (by omega) (by omega);have hjj:((k:Nat):Int)<5:=by omega
   have hr1:x.tmod 128=x%128:=Int.tmod_eq_emod_of_nonneg hxr.1;have hr2:=Int.emod_nonneg x (b:=128) (by omega);have hr3:=Int.emod_lt_of_pos x (b:=128) (by omega);obtain⟨ha0,ha1⟩:=MM hb a k;have hacc:acc b a (k+1)=acc b a k+x%128*128 ^ k:=by simp only[acc,hd,hr1]
   have hp5:=Qh hj5;have hp0:(0:Int)<128 ^ k:=Int.pow_pos (by omega);have hpe:(128:Int) ^ (k+1)=128 ^ k*128:=Int.pow_succ _ _;have hmu:IntKind.wrap .i64 (128 ^ k*128)=128 ^ (k+1):=by rw[hpe,AC (by omega) (by omega)]
   have hmx:0<=x%128*128 ^ k/\x%128*128 ^ k<=127*128 ^ k:=⟨Int.mul_nonneg hr2 (by omega),Int.mul_le_mul_of_nonneg_right (by omega) (by omega)⟩;have hmw:IntKind.wrap .i64 (x%128*128 ^ k)=x%128*128 ^ k:=AC (by omega) (by omega);have hsum:IntKind.wrap .i64 (acc b a k+x%128*128 ^ k)=acc b a (k+1):=by rw[hacc,AC (by omega) (by omega)]
   have hle2:(a:Int)<(b.length:Int) - k:=by omega
   have hx128: ¬ 128<=x:=by
    intro h;apply hn0;unfold Ms;rw[hd];simp[hlt,h]
   have h128': ¬ 128<=x:=by omega
   rw[hd,if_neg hx128]at hrun;have hn1:IntKind.wrap .i64 ((n:Int)+1)=(n:Int)+1:=AC (by omega) (by omega);rw[<-hn]at hrun;by_cases hbig:2147483647<acc b a (k+1)
   ·rw[if_pos (.inr hbig)]at hrun;rw[hrun,hzs];have hsz:= @lok _ 10000000 [0,1,7,8,9] b271_0 (st271 b a) k hstep (by simp[b271_0,  hjj,hsub,hna,hle2,hnadd,hi,hx',hwx,hr1,hmu,hmw,hsum,h128',hbig]);simp[p271,hna];rw[hsz]
    ·simp[b271_0,  hjj,hsub,hna,hle2,hnadd,hi,hx',hwx,hr1,hmu,hmw,hsum,h128',hbig]
    ·simp
    ·simp[acc]
   ·by_cases hx0:x=0
    ·by_cases hk0:0<k
     ·rw[if_pos (.inl ⟨hk0,hx0⟩)]at hrun;rw[hrun,hzs];have hxe:=eq_true hx0;have hsz:= @lok _ 10000000 [0,1,7,8,9] b271_0 (st271 b a) k hstep (by simp[b271_0,  hjj,hsub,hna,hle2,hnadd,hi,hx',hwx,hr1,hmu,hmw,hsum,h128',hbig,hk0,hxe]);simp[p271,hna];rw[hsz]
      ·simp[b271_0,  hjj,hsub,hna,hle2,hnadd,hi,hx',hwx,hr1,hmu,hmw,hsum,h128',hbig,hk0,hxe]
      ·simp
      ·simp[acc]
     ·rw[if_neg (by omega)]at hrun;rw[hrun];simp only[Mt];have hxe:=eq_true hx0;have hsz:= @lok _ 10000000 [0,1,7,8,9] b271_0 (st271 b a) k hstep (by simp[b271_0,  hjj,hsub,hna,hle2,hnadd,hi,hx',hwx,hr1,hmu,hmw,hsum,h128',hbig,hk0,hn1,hxe]);simp[p271,hna];rw[hsz]
      ·simp[b271_0,  hjj,hsub,hna,hle2,hnadd,hi,hx',hwx,hr1,hmu,hmw,hsum,h128',hbig,hk0,hn1,hxe]
      ·simp
      ·simp[acc]
    ·rw[if_neg (by omega)]at hrun;rw[hrun];simp only[Mt];have hsz:= @lok _ 10000000 [0,1,7,8,9] b271_0 (st271 b a) k hstep (by simp[b271_0,  hjj,hsub,hna,hle2,hnadd,hi,hx',hwx,hr1,hmu,hmw,hsum,h128',hbig,hx0,hn1]);simp[p271,hna];rw[hsz]
     ·simp[b271_0,  hjj,hsub,hna,hle2,hnadd,hi,hx',hwx,hr1,hmu,hmw,hsum,h128',hbig,hx0,hn1]
     ·simp
     ·simp[acc]
  ·rw[if_neg hlt]at hrun;rw[hrun,hzs];have hle2: ¬ (a:Int)<(b.length:Int) - k:=by omega
   have hsz:= @lok _ 10000000 [0,1,7,8,9] b271_0 (st271 b a) k hstep (by simp[b271_0,  hjj,hsub,hna,hle2]);simp[p271,hna];rw[hsz]
   ·simp[b271_0,  hjj,hsub,hna,hle2]
   ·simp
   ·simp[acc]
def pn (n:Int):Nat->Int
 |0=>n
 |j+1=>(pn n j).tdiv 128
def po (n:Int):Nat->LI
 |0=>[]
 |j+1=>po n j++[IntKind.wrap .u8 ((pn n j).tmod 128+128)]
def pnd (n:Int):Nat:=(FL (λj=>decide (127<pn n j)) 5).toNat
def Ae (n:Int):LI:=po n (pnd n)++[IntKind.wrap .u8 (pn n (pnd n))]
@[simp] theorem po_len (n:Int): ∀j,(po n j).length=j
 |0=>rfl
 |j+1=>by simp[po,po_len n j]
theorem MS {n:Int} (h0:0<=n) (h1:n<=2147483647): ∀j,0<=pn n j/\pn n j<=2147483647
 |0=>⟨h0,h1⟩
 |j+1=>by
  obtain⟨h2,h3⟩:=MS h0 h1 j;simp only[pn];rw[Int.tdiv_eq_ediv_of_nonneg h2];omega
theorem pn_4 {n:Int} (h0:0<=n) (h1:n<=2147483647):pn n 4<=127:=by
 have b0:=MS h0 h1 0;have b1:=MS h0 h1 1;have b2:=MS h0 h1 2;have b3:=MS h0 h1 3;simp only[pn]at*;generalize e1:n.tdiv 128=n1 at*;generalize e2:n1.tdiv 128=n2 at*;generalize e3:n2.tdiv 128=n3 at*;rw[Int.tdiv_eq_ediv_of_nonneg (by omega)]at e1 e2 e3 ⊢;omega
theorem Lf {n:Int} (h0:0<=n) (h1:n<=2147483647): ∃k,k<5/\(∀j,j<k->127<pn n j)/\ ¬ 127<pn n k/\pnd n=k:=by
 obtain⟨k,hk,hp,hkn⟩:=first (λj=>(decide (127<pn n j))=true) 5;rcases hkn with rfl|⟨hlt,hn⟩
 ·have:=hp 4 (by omega);have h4:=pn_4 h0 h1;simp at this;omega
 ·have hn':decide (127<pn n k)=false:=by simpa using hn
  exact⟨k,hlt,λj hj=>by simpa using hp j hj,by simpa using hn,by unfold pnd;rw[BX hlt hp hn'];rfl⟩
theorem A5 {n:Int} (h0:0<=n) (h1:n<=2147483647):(Ae n).length<=5:=by
 obtain⟨k,hk,_,_,he⟩:=Lf h0 h1;unfold Ae;simp[he];omega
@[simp] def st138 (n:Int) (j:Nat):St:={n:=25,m:=0,tm:=[(0,.sc (I6 (pn n j))),(3,.ref 10000000 [])],ob:=[(10000000,.arr 1 (enc fU (po n j)))]}
theorem BY [PKI] (n:Int) (h0:0<=n) (h1:n<=2147483647):sG 138 [.v (.sc (I6 n))]=some ⟨[.v (.own 1 (enc fU (Ae n)))],[],[]⟩:=by
 refine sK p138 ?_;obtain⟨k,hk5,hp,hn,hpk⟩:=Lf h0 h1;have e0:=Ao n 0 2147483647;have hin:inB n 0 2147483647=true:=by unfold inB;simp[h0,h1]
 rw[hin]at e0;have hstep: ∀j,j<k-> ∃s',xG b138_0 (st138 n j)=some (.normal,s')/\s'.m<=10000000/\Aa 10000000 [0,3] s'=st138 n (j+1):=λj hj=>by
  have h127:=hp j hj;obtain⟨b0,b1⟩:=MS h0 h1 j;have hw1:IntKind.wrap .i64 ((pn n j).tmod 128+128)=(pn n j).tmod 128+128:=by
   rw[Int.tmod_eq_emod_of_nonneg b0];exact AC (by omega) (by omega)
  have hw0:IntKind.wrap .i64 ((pn n j).tmod 128)=(pn n j).tmod 128:=by
   rw[Int.tmod_eq_emod_of_nonneg b0];exact AC (by omega) (by omega)
  have hw2:IntKind.wrap .i64 ((pn n j).tdiv 128)=pn n (j+1):=by
   simp only[pn];rw[Int.tdiv_eq_ediv_of_nonneg b0];exact AC (by omega) (by omega)
  have hap:enc fU (po n j)++[[T.sc (.int .u8 (IntKind.wrap .u8 ((pn n j).tmod 128+128)))]]=enc fU (po n (j+1)):=by simp[po,enc]
  have hb:j+1<=35184372088832:=by omega
  simp[b138_0,  h127,hw0,hw1,hw2,hap,hb]
 have hap:enc fU (po n k)++[[T.sc (.int .u8 (IntKind.wrap .u8 (pn n k)))]]=enc fU (Ae n):=by unfold Ae;rw[hpk];simp[enc]
 have hb:k+1<=35184372088832:=by omega
 have hsz:= @lok _ 10000000 [0,3] b138_0 (st138 n) k hstep (by simp[b138_0,hn]);have hpz:pn n 0=n:=rfl;have hoz:po n 0=[]:=rfl;simp[p138,  e0];rw[hsz]
 ·simp[b138_0,hn,hap,hb]
 ·simp
 ·simp[hpz,hoz]
@[simp] def st268 (n:Int) (j:Nat):St:={n:=27,m:=0,tm:=[(0,.sc (I6 (pn n j))),(3,.ref 10000000 [])],ob:=[(10000000,.arr 1 (enc fU (po n j)))]}
theorem IG [PKI] (n:Int) (h0:0<=n) (h1:n<=2147483647):sG 268 [.v (.sc (I6 n))]=some ⟨[.v (.own 1 (enc fU (Ae n)))],[],[]⟩:=by
 refine sK p268 ?_;obtain⟨k,hk5,hp,hn,hpk⟩:=Lf h0 h1;have hn0: ¬n<0:=by omega
 have hn1: ¬ 2147483647<n:=by omega
 have hstep: ∀j,j<k-> ∃s',xG b268_0 (st268 n j)=some (.normal,s')/\s'.m<=10000000/\Aa 10000000 [0,3] s'=st268 n (j+1):=λj hj=>by
  have h127:=hp j hj;obtain⟨b0,b1⟩:=MS h0 h1 j;have hw1:IntKind.wrap .i64 ((pn n j).tmod 128+128)=(pn n j).tmod 128+128:=by
   rw[Int.tmod_eq_emod_of_nonneg b0];exact AC (by omega) (by omega)
  have hw0:IntKind.wrap .i64 ((pn n j).tmod 128)=(pn n j).tmod 128:=by
   rw[Int.tmod_eq_emod_of_nonneg b0];exact AC (by omega) (by omega)
  have hw2:IntKind.wrap .i64 ((pn n j).tdiv 128)=pn n (j+1):=by
   simp only[pn];rw[Int.tdiv_eq_ediv_of_nonneg b0];exact AC (by omega) (by omega)
  have hap:enc fU (po n j)++[[T.sc (.int .u8 (IntKind.wrap .u8 ((pn n j).tmod 128+128)))]]=enc fU (po n (j+1)):=by simp[po,enc]
  have hb:j+1<=35184372088832:=by omega
  simp[b268_0,  h127,hw0,hw1,hw2,hap,hb]
 have hap:enc fU (po n k)++[[T.sc (.int .u8 (IntKind.wrap .u8 (pn n k)))]]=enc fU (Ae n):=by unfold Ae;rw[hpk];simp[enc]
 have hb:k+1<=35184372088832:=by omega
 have hsz:= @lok _ 10000000 [0,3] b268_0 (st268 n) k hstep (by simp[b268_0,hn]);have hpz:pn n 0=n:=rfl;have hoz:po n 0=[]:=rfl;simp[p268,  hn0,hn1];rw[hsz]
 ·simp[b268_0,hn,hap,hb]
 ·simp
 ·simp[hpz,hoz]
def num (z:Bool) (b:LI) (c:Nat×Bool):Int×(Nat×Bool):=
 if c.2 then match E4 b c.1 with
  |some (n,k)=>(n,(k,true))
  |none=>(0,(if z then 0 else c.1,false))
 else(0,(c.1,false))
@[simp] def crs (b:LI) (c:Nat×Bool):List L:=[.im 1 (enc fU b),.sc (I6 c.1),.sc (.bool c.2)]
theorem DI [PKI] (b:LI) (c:Nat×Bool) (hb:byt b) (hc:c.1<=4611686018427387904):sG 230 [.pm (crs b c)]=some ⟨[.v (.sc (I6 (num false b c).1))],[],[crs b (num false b c).2]⟩:=by
 refine sK p230 ?_;obtain⟨a,ok⟩:=c;have e:=OM b a hb hc
 cases hg:E4 b a with
 |none=>
  rw[hg]at e;simp only[Mt]at e
  cases ok with
  |true=>simp[p230,  e,num,hg]
  |false=>simp[p230,  e,num,hg]
 |some x=>
  obtain⟨n,k⟩:=x;rw[hg]at e;simp only[Mt]at e
  cases ok with
  |true=>simp[p230,  e,num,hg]
  |false=>simp[p230,  e,num,hg]
theorem HD [PKI] (b:LI) (c:Nat×Bool) (hb:byt b) (hc:c.1<=4611686018427387904):sG 239 [.pm (crs b c)]=some ⟨[.v (.sc (I6 (num true b c).1))],[],[crs b (num true b c).2]⟩:=by
 refine sK p239 ?_;obtain⟨a,ok⟩:=c;have e:=Oc b a hb hc
 cases hg:E4 b a with
 |none=>
  rw[hg]at e;simp only[Mt]at e
  cases ok with
  |true=>simp[p239,  e,num,hg]
  |false=>simp[p239,  e,num,hg]
 |some x=>
  obtain⟨n,k⟩:=x;rw[hg]at e;simp only[Mt]at e
  cases ok with
  |true=>simp[p239,  e,num,hg]
  |false=>simp[p239,  e,num,hg]
theorem Uf {b:LI} (hb:byt b) (a:Nat): ∀ (f k:Nat) n q,N9 b a f k=some (n,q)->0<=n/\n<=2147483647/\q<=b.length
 |0,k,n,q,h=>by cases h
 |f+1,k,n,q,h=>by
  simp only[N9]at h;split at h
  ·split at h
   ·exact Uf hb a f (k+1) n q h
   ·split at h
    ·cases h
    ·rename_i h1 h2 h3
     cases h
     exact⟨(MM hb a _).1,by omega,by omega⟩
  ·cases h
theorem Ql {z:Bool} {b:LI} (hb:byt b) (c:Nat×Bool) (hc:c.1<=1048576):0<=(num z b c).1/\(num z b c).1<=2147483647/\(num z b c).2.1<=1048576:=by
 have hl:=hb.1;unfold num;split
 ·cases h:E4 b c.1 with
  |none=>cases z<;>simp[hc]
  |some x=>
   obtain⟨n,q⟩:=x;obtain⟨h1,h2,h3⟩:=Uf hb c.1 5 0 n q h;exact⟨h1,h2,by show q<=1048576;omega⟩
 ·exact⟨by simp,by simp,hc⟩
def itn (z:Bool) (b:LI) (c:Nat×Bool):Nat->(Nat×Bool)×LI
 |0=>(c,[])
 |j+1=>if(itn z b c j).1.2 then((num z b (itn z b c j).1).2,(itn z b c j).2++[(num z b (itn z b c j).1).1])else itn z b c j
def rdl (z:Bool) (b:LI) (c:Nat×Bool):(Nat×Bool)×LI:=itn z b (num z b c).2 (num z b c).1.toNat
theorem TU {z:Bool} {b:LI} (hb:byt b) {c:Nat×Bool} (hc:c.1<=1048576): ∀j,(itn z b c j).1.1<=1048576/\(itn z b c j).2.length<=j/\ ∀x∈(itn z b c j).2,0<=x/\x<=2147483647
 |0=>⟨hc,Nat.le_refl _,λx hx=>by cases hx⟩
 |j+1=>by
  obtain⟨h1,h2,h3⟩:=TU (z:=z) hb hc j;simp only[itn];split
  ·obtain⟨h4,h5,h6⟩:=Ql (z:=z) hb _ h1;refine⟨h6,by simp;omega,λx hx=> ?_⟩;rcases List.mem_append.1 hx with hx|hx
   ·exact h3 x hx
   ·rw[List.mem_singleton.1 hx];exact⟨h4,h5⟩
  ·exact⟨h1,by omega,h3⟩
theorem Ik {z:Bool} {b:LI} {c:Nat×Bool} {k:Nat} (h:(itn z b c k).1.2=false): ∀d,itn z b c (k+d)=itn z b c k
 |0=>rfl
 |d+1=>by
  show itn z b c (k+d+1)=_
  have:=Ik h d;simp only[itn];rw[this,h];rfl
@[simp] def st229 (b:LI) (c:Nat×Bool) (N:Nat) (j:Nat):St:={n:=28,m:=1,tm:=[(0,.pb 0 0),(3,.ref 10000000 []),(4,.sc (I6 N)),(5,.sc (I6 j))],ob:=[(0,.box [.im 1 (enc fU b),.sc (I6 (itn false b c j).1.1),.sc (.bool (itn false b c j).1.2)]),(10000000,.arr 1 (enc fI (itn false b c j).2))]}
theorem L6 [PKI] (b:LI) (c:Nat×Bool) (hb:byt b) (hc:c.1<=1048576):sG 229 [.pm (crs b c)]=some ⟨[.v (.own 1 (enc fI (rdl false b c).2))],[],[crs b (rdl false b c).1]⟩:=by
 refine sK p229 ?_;have e0:=DI b c hb (by omega);obtain⟨m1,m2,m3⟩:=Ql (z:=false) hb c hc;obtain⟨N,hN⟩: ∃N:Nat,(num false b c).1=N:=⟨(num false b c).1.toNat,by omega⟩;rw[hN]at e0;unfold rdl;rw[hN,Int.toNat_natCast];generalize (num false b c).2=c0 at e0 m3 ⊢;obtain⟨k,hk,hp,hkn⟩:=first (λj=>(itn false b c0 j).1.2=true) N;have hstep: ∀j,j<k-> ∃s',xG b229_0 (st229 b c0 N j)=some (.normal,s')/\s'.m<=10000000/\Aa 10000000 [0,3,4,5] s'=st229 b c0 N (j+1):=λj hj=>by
  have hok:=hp j hj;obtain⟨i1,i2,_⟩:=TU (z:=false) hb m3 j;have hnx:itn false b c0 (j+1)=((num false b (itn false b c0 j).1).2,(itn false b c0 j).2++[(num false b (itn false b c0 j).1).1]):=by simp only[itn];rw[if_pos hok]
  have e:=DI b (itn false b c0 j).1 hb (by omega);simp only[crs]at e;simp only[st229];rw[hnx];generalize (num false b (itn false b c0 j).1).2=c1 at e ⊢;generalize (num false b (itn false b c0 j).1).1=v at e ⊢;rw[hok]at e ⊢;generalize (itn false b c0 j).1.1=a at e ⊢;generalize (itn false b c0 j).2=l at i2 ⊢;have hap:enc fI l++[[T.sc (I6 v)]]=enc fI (l++[v]):=by simp[enc]
  have hlt:j<N:=by omega
  have hlen:(l.length+1)*8<=35184372088832:=by omega
  have hinc:IntKind.wrap .i64 ((j:Int)+1)=(j:Int)+1:=AC (by omega) (by omega);simp[b229_0,  hlt,e,hap,hlen,hinc]
 have hfin:itn false b c0 N=itn false b c0 k:=by
  rcases hkn with rfl|⟨hlt,hn⟩
  ·rfl
  ·rw[show N=k+(N - k)by omega];exact Ik (by simpa using hn) _
 rw[hfin];have hcz:itn false b c0 0=(c0,[]):=rfl;simp only[crs]at e0;rcases hkn with rfl|⟨hlt,hn⟩
 ·have hsz:= @lok _ 10000000 [0,3,4,5] b229_0 (st229 b c0 k) k hstep (by simp[b229_0]);simp[p229,  e0];rw[hsz]
  ·simp[b229_0]
  ·simp
  ·simp[hcz]
 ·have hn':(itn false b c0 k).1.2=false:=by simpa using hn
  have hsz:= @lok _ 10000000 [0,3,4,5] b229_0 (st229 b c0 N) k hstep (by simp[b229_0,hlt,hn']);simp[p229,  e0];rw[hsz]
  ·simp[b229_0,hlt,hn']
  ·simp
  ·simp[hcz]
@[simp] def st240 (b:LI) (c:Nat×Bool) (N:Nat) (j:Nat):St:={n:=28,m:=1,tm:=[(0,.pb 0 0),(3,.ref 10000000 []),(4,.sc (I6 N)),(5,.sc (I6 j))],ob:=[(0,.box [.im 1 (enc fU b),.sc (I6 (itn true b c j).1.1),.sc (.bool (itn true b c j).1.2)]),(10000000,.arr 1 (enc fI (itn true b c j).2))]}
theorem NM [PKI] (b:LI) (c:Nat×Bool) (hb:byt b) (hc:c.1<=1048576):sG 240 [.pm (crs b c)]=some ⟨[.v (.own 1 (enc fI (rdl true b c).2))],[],[crs b (rdl true b c).1]⟩:=by
 refine sK p240 ?_;have e0:=HD b c hb (by omega);obtain⟨m1,m2,m3⟩:=Ql (z:=true) hb c hc;obtain⟨N,hN⟩: ∃N:Nat,(num true b c).1=N:=⟨(num true b c).1.toNat,by omega⟩;rw[hN]at e0;unfold rdl;rw[hN,Int.toNat_natCast];generalize (num true b c).2=c0 at e0 m3 ⊢;obtain⟨k,hk,hp,hkn⟩:=first (λj=>(itn true b c0 j).1.2=true) N;have hstep: ∀j,j<k-> ∃s',xG b240_0 (st240 b c0 N j)=some (.normal,s')/\s'.m<=10000000/\Aa 10000000 [0,3,4,5] s'=st240 b c0 N (j+1):=λj hj=>by
  have hok:=hp j hj;obtain⟨i1,i2,_⟩:=TU (z:=true) hb m3 j;have hnx:itn true b c0 (j+1)=((num true b (itn true b c0 j).1).2,(itn true b c0 j).2++[(num true b (itn true b c0 j).1).1]):=by simp only[itn];rw[if_pos hok]
  have e:=HD b (itn true b c0 j).1 hb (by omega);simp only[crs]at e;simp only[st240];rw[hnx];generalize (num true b (itn true b c0 j).1).2=c1 at e ⊢;generalize (num true b (itn true b c0 j).1).1=v at e ⊢;rw[hok]at e ⊢;generalize (itn true b c0 j).1.1=a at e ⊢;generalize (itn true b c0 j).2=l at i2 ⊢;have hap:enc fI l++[[T.sc (I6 v)]]=enc fI (l++[v]):=by simp[enc]
  have hlt:j<N:=by omega
  have hlen:(l.length+1)*8<=35184372088832:=by omega
  have hinc:IntKind.wrap .i64 ((j:Int)+1)=(j:Int)+1:=AC (by omega) (by omega);simp[b240_0,  hlt,e,hap,hlen,hinc]
 have hfin:itn true b c0 N=itn true b c0 k:=by
  rcases hkn with rfl|⟨hlt,hn⟩
  ·rfl
  ·rw[show N=k+(N - k)by omega];exact Ik (by simpa using hn) _
 rw[hfin];have hcz:itn true b c0 0=(c0,[]):=rfl;simp only[crs]at e0;rcases hkn with rfl|⟨hlt,hn⟩
 ·have hsz:= @lok _ 10000000 [0,3,4,5] b240_0 (st240 b c0 k) k hstep (by simp[b240_0]);simp[p240,  e0];rw[hsz]
  ·simp[b240_0]
  ·simp
  ·simp[hcz]
 ·have hn':(itn true b c0 k).1.2=false:=by simpa using hn
  have hsz:= @lok _ 10000000 [0,3,4,5] b240_0 (st240 b c0 N) k hstep (by simp[b240_0,hlt,hn']);simp[p240,  e0];rw[hsz]
  ·simp[b240_0,hlt,hn']
  ·simp
  ·simp[hcz]
def pns (l:LI):LI:=(l.map Ae).flatten
def inU (l:LI):Prop:= ∀x∈l,0<=x/\x<=2147483647
theorem Hl (l:LI) {j:Nat} {x:Int} (h:l[j]? =some x):pns (l.take (j+1))=pns (l.take j)++Ae x:=by
 unfold pns;rw[List.take_add_one,h];simp
theorem EH: ∀ (l:LI),inU l->(pns l).length<=5*l.length
 |[],_=>by simp[pns]
 |x::l,h=>by
  have h1:=EH l λy hy=>h y (List.mem_cons_of_mem _ hy)
  have h2:=A5 (h x List.mem_cons_self).1 (h x List.mem_cons_self).2;have h3:pns (x::l)=Ae x++pns l:=by simp[pns]
  rw[h3,List.length_append,List.length_cons];omega
theorem H1 {l:LI} (h:inU l) (j:Nat):inU (l.take j):=λx hx=>h x (List.mem_of_mem_take hx)
@[simp] def st246 (l:LI) (j:Nat):St:={n:=19,m:=0,tm:=[(3,.ref 10000000 []),(7,.im 1 (enc fI l)),(8,.sc (I6 l.length)),(9,.sc (I6 j))],ob:=[(10000000,.arr 1 (enc fU (pns (l.take j))))]}
theorem HC [PKI] (l:LI) (hl:l.length<=2097152) (hu:inU l):sG 246 [.v (.im 1 (enc fI l))]=some ⟨[.v (.own 1 (enc fU (pns l)))],[],[]⟩:=by
 refine sK p246 ?_;have hstep: ∀j,j<l.length-> ∃s',xG b246_0 (st246 l j)=some (.normal,s')/\s'.m<=10000000/\Aa 10000000 [3,7,8,9] s'=st246 l (j+1):=λj hlt=>by
  obtain⟨x,_,hx,hx',hd⟩:=AK l hlt;obtain⟨u0,u1⟩:=hu x (List.mem_of_getElem? hx);have e:=IG x u0 u1;have hpt:=Hl l hx;have hlen:=EH (l.take j) (H1 hu j);have hlj:(l.take j).length=j:=by rw[List.length_take];omega
  have hap:enc fU (pns (l.take j))++enc fU (Ae x)=enc fU (pns (l.take (j+1))):=by rw[hpt,AU]
  have hp5:=A5 u0 u1;have hb:(pns (l.take j)).length+(Ae x).length<=35184372088832:=by omega
  have hinc:IntKind.wrap .i64 ((j:Int)+1)=(j:Int)+1:=AC (by omega) (by omega);simp[b246_0,  hlt,hx',e,hap,hb,hinc]
 have hsz:= @lok _ 10000000 [3,7,8,9] b246_0 (st246 l) l.length hstep (by simp[b246_0]);have hz:pns []=[]:=rfl;simp[p246];rw[hsz]
 ·simp[b246_0]
 ·simp
 ·simp[hz]
def pl (l:LI):LI:=Ae l.length++pns l
theorem Qi (l:LI) (hl:l.length<=1048576) (hu:inU l):(pl l).length<=5*l.length+5:=by
 unfold pl;have:=EH l hu;have:=A5 (n:=l.length) (by omega) (by omega);simp;omega
theorem J6 [PKI] (l:LI) (hl:l.length<=1048576) (hu:inU l):sG 245 [.v (.im 1 (enc fI l))]=some ⟨[.v (.own 1 (enc fU (pl l)))],[],[]⟩:=by
 refine sK p245 ?_;have e1:=HC [(l.length:Int)] (by simp) (λx hx=>by rw[List.mem_singleton.1 hx];omega);have e2:=HC l (by omega) hu;have h1:pns [(l.length:Int)]=Ae l.length:=by simp[pns]
 rw[h1]at e1;simp only[BN,BA,fI]at e1;have:=EH l hu;have:=A5 (n:=l.length) (by omega) (by omega);have hb:(Ae l.length).length+(pns l).length<=35184372088832:=by omega
 have hap:enc fU (Ae l.length)++enc fU (pns l)=enc fU (pl l):=by unfold pl;rw[AU]
 simp[p245,  e1,e2,hb,hap]
def bit (b:Bool) (n:Int):Int:=if b then n else 0
theorem Dm [PKI] (b:Bool):sG 84 [.v (.sc (.bool b))]=some ⟨[.v (.sc (I6 (bit b 1)))],[],[]⟩:=by
 refine sK p84 ?_
 cases b<;>simp[p84,bit]
theorem RI [PKI] (b:Bool) (n:Int):sG 247 [.v (.sc (.bool b)),.v (.sc (I6 n))]=some ⟨[.v (.sc (I6 (bit b n)))],[],[]⟩:=by
 refine sK p247 ?_
 cases b<;>simp[p247,bit]
end Go.Proofs.YtghgecpicnfgpaaGreat.Ow
