/- Numbers out of bytes: evaluated. -/
import Derived.Lib.EndianBits
import Derived.Test.YtbolhfegdocpeaaGreatEv1
namespace Go.Proofs.YtbolhfegdocpeaaGreat.Ow
open Go
set_option linter.unusedVariables false
set_option linter.unusedSimpArgs false
set_option maxHeartbeats 4000000
variable {PK:Nat->List Arg->Option Res}
def byt (b:List Int):Prop:=b.length<=1048576/\ ∀x∈b,0<=x/\x<256
def acc (b:List Int) (a:Nat):Nat->Int
 |0=>0
 |j+1=>acc b a j+(b.getD (a+j) 0).tmod 128*128 ^ j
def Mv (b:List Int) (a:Nat):Nat->Nat->Option (Int×Nat)
 |0,_=>none
 |f+1,k=>if a+k<b.length then
   if 128<=b.getD (a+k) 0 then Mv b a f (k+1)else if(0<k/\b.getD (a+k) 0=0)\/2147483647<acc b a (k+1)then none else some (acc b a (k+1),a+k+1)
  else none
def Eb (b:List Int) (a:Nat):Option (Int×Nat):=Mv b a 5 0
def KQ:Option (Int×Nat)->List RV
 |some (n,k)=>[.v (.sc (.int .i64 n)),.v (.sc (.int .i64 k)),.v (.sc (.bool true))]
 |none=>[.v (.sc (.int .i64 0)),.v (.sc (.int .i64 0)),.v (.sc (.bool false))]
def Mu (b:List Int) (a j:Nat):Bool:=decide (a+j<b.length)&&decide (128<=b.getD (a+j) 0)
theorem Lu {b:List Int} {a:Nat}: ∀k,k<=5->(∀j,j<k->Mu b a j=true)->Eb b a=Mv b a (5 - k) k
 |0,_,_=>rfl
 |k+1,h,hp=>by
  have hg:=hp k (by omega);unfold Mu at hg;simp at hg;rw[Lu k (by omega) (fun j hj=>hp j (by omega)),show 5 - k=5 - (k+1)+1 by omega,Mv,if_pos hg.1,if_pos (by simpa[List.getD_eq_getElem?_getD]using hg.2)]
theorem UO {b:List Int} (hb:byt b) (i:Nat):0<=b.getD i 0/\b.getD i 0<256:=by
 rw[List.getD_eq_getElem?_getD];rcases Nat.lt_or_ge i b.length with h|h
 ·rw[List.getElem?_eq_getElem h];exact hb.2 _ (List.getElem_mem h)
 ·rw[List.getElem?_eq_none h];simp
theorem Jy {b:List Int} (hb:byt b) (a:Nat): ∀j,0<=acc b a j/\acc b a j<128 ^ j
 |0=>by simp[acc]
 |j+1=>by
  obtain⟨h1,h2⟩:=Jy hb a j;obtain⟨h3,h4⟩:=UO hb (a+j);have h5:(b.getD (a+j) 0).tmod 128=b.getD (a+j) 0%128:=Int.tmod_eq_emod_of_nonneg h3;have h6:=Int.emod_nonneg (b.getD (a+j) 0) (b:=128) (by omega);have h7:=Int.emod_lt_of_pos (b.getD (a+j) 0) (b:=128) (by omega);have h8:(0:Int)<128 ^ j:=Int.pow_pos (by omega);simp only[acc,h5];generalize b.getD (a+j) 0%128=d at*;generalize acc b a j=A at*;have h9:(128:Int) ^ (j+1)=128 ^ j*128:=Int.pow_succ _ _;rw[h9];generalize (128:Int) ^ j=P at*;have h10:d*P<=127*P:=Int.mul_le_mul_of_nonneg_right (by omega) (by omega);have h11:0<=d*P:=Int.mul_nonneg h6 (by omega);omega
theorem Rb {A d:Int} {j:Nat} (hj:j<5) (h0:0<=A) (h1:A<128 ^ j) (h2:0<=d) (h3:d<128):bits .or .i64 A (d*128 ^ j)=A+d*128 ^ j:=by
 have hP:(128:Int) ^ j=2 ^ (7*j):=by rw[Int.pow_mul];rfl
 have hj':(128:Int) ^ j<=268435456:=by
  rcases(by omega:j=0\/j=1\/j=2\/j=3\/j=4)with rfl|rfl|rfl|rfl|rfl<;>simp
 have h8:(0:Int)<128 ^ j:=Int.pow_pos (by omega);have hm:(d*128 ^ j)%2 ^ (7*j)=0:=by rw[←hP];exact Int.mul_emod_left _ _
 have hle:d*128 ^ j<=127*128 ^ j:=Int.mul_le_mul_of_nonneg_right (by omega) (by omega);have hge:0<=d*128 ^ j:=Int.mul_nonneg h2 (by omega);rw[hP]at h1 hle hge hj' ⊢;rw[hP]at hm;refine bits_join_low .i64 63 (by decide) (fun n hn hn'=>AC (by omega) (by omega)) (7*j) A _ h0 h1 ?_ hge hm ?_
 ·generalize (2:Int) ^ (7*j)=P at*;omega
 ·generalize (2:Int) ^ (7*j)=P at*;omega
theorem N8 {j:Nat} (hj:j<5):(128:Int) ^ j<=268435456:=by
 rcases(by omega:j=0\/j=1\/j=2\/j=3\/j=4)with rfl|rfl|rfl|rfl|rfl<;>simp
theorem TH {d:Int} {j s:Nat} (hj:j<5) (hs:s=7*j) (h2:0<=d) (h3:d<128):IntKind.wrap .i64 (d*2 ^ min s IntKind.i64.bits)=d*128 ^ j:=by
 have hP:(128:Int) ^ j=2 ^ (7*j):=by rw[Int.pow_mul];rfl
 have hm:min s IntKind.i64.bits=7*j:=by
  have:IntKind.i64.bits=64:=rfl;omega
 rw[hm,←hP];have h1:=N8 hj;have h8:(0:Int)<128 ^ j:=Int.pow_pos (by omega);generalize (128:Int) ^ j=P at*;have hle:d*P<=127*P:=Int.mul_le_mul_of_nonneg_right (by omega) (by omega);have hge:0<=d*P:=Int.mul_nonneg h2 (by omega);exact AC (by omega) (by omega)
@[simp] def st221 (b:List Int) (a:Nat) (j:Nat):St:={n:=55,m:=0,tm:=[(0,.im 1 (enc fU b)),(1,.sc (.int .i64 a)),(7,.sc (.int .i64 (acc b a j))),(8,.sc (.int .i64 j))],ob:=[]}
theorem L7 (b:List Int) (a:Nat) (hb:byt b) (ha:a<=4611686018427387904):AH G PK md 221 [.v (.im 1 (enc fU b)),.v (.sc (.int .i64 a))]=some ⟨KQ (Eb b a),[],[]⟩:=by
 refine AA (pf:=p221) rfl (by simp[p221]) ?_;obtain⟨k,hk,hp,hkn⟩:=first (fun j=>Mu b a j=true) 5;have hbl:=hb.1;have hstep: ∀j,j<k-> ∃s',An (AH G PK md) (Ag G PK md) md b221_0 (st221 b a j)=some (.normal,s')/\s'.m<=10000000/\Ai 10000000 [0,1,7,8] s'=st221 b a (j+1):=fun j hj=>by
  have h1:=hp j hj;unfold Mu at h1;rw[Bool.and_eq_true,decide_eq_true_iff,decide_eq_true_iff]at h1;obtain⟨hlt,h128⟩:=h1;obtain⟨n,hn⟩: ∃n,n=a+j:=⟨_,rfl⟩;obtain⟨x,hi,hx,hx',hd⟩:=AT b (j:=n) (by omega);rw[hn]at hd;have hnadd:IntKind.wrap .i64 ((a:Int)+j)=(n:Int):=by rw[AC (by omega) (by omega)];omega
  have hxr:=hb.2 x (List.mem_of_getElem? hx);have hj5:j<5:=by omega
  have hsub:IntKind.wrap .i64 ((b.length:Int) - j)=(b.length:Int) - j:=AC (by omega) (by omega);have hwx:IntKind.wrap .i64 x=x:=AC (by omega) (by omega);have hle: ¬ (b.length:Int) - j<=a:=by omega
  have hjj:((j:Nat):Int)<5:=by omega
  have hr1:x.tmod 128=x%128:=Int.tmod_eq_emod_of_nonneg hxr.1;have hr2:=Int.emod_nonneg x (b:=128) (by omega);have hr3:=Int.emod_lt_of_pos x (b:=128) (by omega);obtain⟨ha0,ha1⟩:=Jy hb a j;have hacc:acc b a (j+1)=acc b a j+x%128*128 ^ j:=by simp only[acc,hd,hr1]
  have hor:=Rb hj5 ha0 ha1 hr2 hr3;rw[←hacc]at hor;obtain⟨s,hs⟩: ∃s,s=7*j:=⟨_,rfl⟩;have h7:IntKind.wrap .i64 (7*((j:Nat):Int))=(s:Int):=by rw[AC (by omega) (by omega)];omega
  have hs0: ¬ (s:Int)<0:=by omega
  have hshl:IntKind.wrap .i64 (x%128*2 ^ min s IntKind.i64.bits)=x%128*128 ^ j:=TH hj5 hs hr2 hr3;generalize hX:x%128*128 ^ j=X at hor hshl;have hna: ¬ (a:Int)<0:=by omega
  rw[hd]at h128;have h128': ¬x<128:=by omega
  simp[b221_0,md,hjj,hsub,hle,hnadd,hi,hx',hwx,hr1,hor,h7,hs0,hshl,h128',hna,A2 (n:=5) hj5 (by omega)]
 have hzs:KQ none=[.v (.sc (.int .i64 0)),.v (.sc (.int .i64 0)),.v (.sc (.bool false))]:=rfl;have hrun:=Lu k hk hp;rcases hkn with rfl|⟨hk5,hn0⟩
 ·have hsz:=AL (G:=G) (PK:=PK) (md:=md) (o:=10000000) (live:=[0,1,7,8]) (c:=b221_0) (st221 b a) 5 hstep (by simp[b221_0]);have hr:Eb b a=none:=by rw[hrun];rfl
  rw[hr,hzs];simp[p221];rw[hsz]
  ·simp[b221_0]
  ·simp
  ·simp[acc]
 ·rw[show 5 - k=5 - (k+1)+1 by omega]at hrun;rw[Mv]at hrun;have hjj:((k:Nat):Int)<5:=by omega
  have hna: ¬ (a:Int)<0:=by omega
  have hsub:IntKind.wrap .i64 ((b.length:Int) - k)=(b.length:Int) - k:=AC (by omega) (by omega);by_cases hlt:a+k<b.length
  ·rw[if_pos hlt]at hrun;obtain⟨n,hn⟩: ∃n,n=a+k:=⟨_,rfl⟩;obtain⟨x,hi,hx,hx',hd⟩:=AT b (j:=n) (by omega);rw[hn]at hd;have hnadd:IntKind.wrap .i64 ((a:Int)+k)=(n:Int):=by rw[AC (by omega) (by omega)];omega
   have hxr:=hb.2 x (List.mem_of_getElem? hx);have hj5:k<5:=by omega
   have hsub:IntKind.wrap .i64 ((b.length:Int) - k)=(b.length:Int) - k:=AC (by omega) (by omega);have hwx:IntKind.wrap .i64 x=x:=AC (by omega) (by omega);have hle: ¬ (b.length:Int) - k<=a:=by omega
   have hjj:((k:Nat):Int)<5:=by omega
   have hr1:x.tmod 128=x%128:=Int.tmod_eq_emod_of_nonneg hxr.1;have hr2:=Int.emod_nonneg x (b:=128) (by omega);have hr3:=Int.emod_lt_of_pos x (b:=128) (by omega);obtain⟨ha0,ha1⟩:=Jy hb a k;have hacc:acc b a (k+1)=acc b a k+x%128*128 ^ k:=by simp only[acc,hd,hr1]
   have hor:=Rb hj5 ha0 ha1 hr2 hr3;rw[←hacc]at hor;obtain⟨s,hs⟩: ∃s,s=7*k:=⟨_,rfl⟩;have h7:IntKind.wrap .i64 (7*((k:Nat):Int))=(s:Int):=by rw[AC (by omega) (by omega)];omega
   have hs0: ¬ (s:Int)<0:=by omega
   have hshl:IntKind.wrap .i64 (x%128*2 ^ min s IntKind.i64.bits)=x%128*128 ^ k:=TH hj5 hs hr2 hr3;generalize hX:x%128*128 ^ k=X at hor hshl;have hna: ¬ (a:Int)<0:=by omega
   have hx128: ¬ 128<=x:=by
    intro h;apply hn0;unfold Mu;rw[hd];simp[hlt,h]
   have h128':x<128:=by omega
   rw[hd,if_neg hx128]at hrun;have hn1:IntKind.wrap .i64 ((n:Int)+1)=(n:Int)+1:=AC (by omega) (by omega);rw[←hn]at hrun;by_cases hbig:2147483647<acc b a (k+1)
   ·rw[if_pos (.inr hbig)]at hrun;rw[hrun,hzs];by_cases hk0:0<k
    ·by_cases hx0:x=0
     ·subst hx0;have hsz:=AL (G:=G) (PK:=PK) (md:=md) (o:=10000000) (live:=[0,1,7,8]) (c:=b221_0) (st221 b a) k hstep (by simp[b221_0,md,hjj,hsub,hna,hle,hnadd,hi,hx',hwx,hr1,hor,h7,hs0,hshl,h128',hbig,hk0]);simp[p221];rw[hsz]
      ·simp[b221_0,md,hjj,hsub,hna,hle,hnadd,hi,hx',hwx,hr1,hor,h7,hs0,hshl,h128',hbig,hk0]
      ·simp
      ·simp[acc]
     ·have hsz:=AL (G:=G) (PK:=PK) (md:=md) (o:=10000000) (live:=[0,1,7,8]) (c:=b221_0) (st221 b a) k hstep (by simp[b221_0,md,hjj,hsub,hna,hle,hnadd,hi,hx',hwx,hr1,hor,h7,hs0,hshl,h128',hbig,hk0,hx0]);simp[p221];rw[hsz]
      ·simp[b221_0,md,hjj,hsub,hna,hle,hnadd,hi,hx',hwx,hr1,hor,h7,hs0,hshl,h128',hbig,hk0,hx0]
      ·simp
      ·simp[acc]
    ·have hsz:=AL (G:=G) (PK:=PK) (md:=md) (o:=10000000) (live:=[0,1,7,8]) (c:=b221_0) (st221 b a) k hstep (by simp[b221_0,md,hjj,hsub,hna,hle,hnadd,hi,hx',hwx,hr1,hor,h7,hs0,hshl,h128',hbig,hk0]);simp[p221];rw[hsz]
     ·simp[b221_0,md,hjj,hsub,hna,hle,hnadd,hi,hx',hwx,hr1,hor,h7,hs0,hshl,h128',hbig,hk0]
     ·simp
     ·simp[acc]
   ·by_cases hk0:0<k
    ·by_cases hx0:x=0
     ·rw[if_pos (.inl ⟨hk0,hx0⟩)]at hrun;rw[hrun,hzs];subst hx0;have hsz:=AL (G:=G) (PK:=PK) (md:=md) (o:=10000000) (live:=[0,1,7,8]) (c:=b221_0) (st221 b a) k hstep (by simp[b221_0,md,hjj,hsub,hna,hle,hnadd,hi,hx',hwx,hr1,hor,h7,hs0,hshl,h128',hbig,hk0]);simp[p221];rw[hsz]
      ·simp[b221_0,md,hjj,hsub,hna,hle,hnadd,hi,hx',hwx,hr1,hor,h7,hs0,hshl,h128',hbig,hk0]
      ·simp
      ·simp[acc]
     ·rw[if_neg (by omega)]at hrun;rw[hrun];simp only[KQ];have hsz:=AL (G:=G) (PK:=PK) (md:=md) (o:=10000000) (live:=[0,1,7,8]) (c:=b221_0) (st221 b a) k hstep (by simp[b221_0,md,hjj,hsub,hna,hle,hnadd,hi,hx',hwx,hr1,hor,h7,hs0,hshl,h128',hbig,hk0,hx0,hn1]);simp[p221];rw[hsz]
      ·simp[b221_0,md,hjj,hsub,hna,hle,hnadd,hi,hx',hwx,hr1,hor,h7,hs0,hshl,h128',hbig,hk0,hx0,hn1]
      ·simp
      ·simp[acc]
    ·rw[if_neg (by omega)]at hrun;rw[hrun];simp only[KQ];have hsz:=AL (G:=G) (PK:=PK) (md:=md) (o:=10000000) (live:=[0,1,7,8]) (c:=b221_0) (st221 b a) k hstep (by simp[b221_0,md,hjj,hsub,hna,hle,hnadd,hi,hx',hwx,hr1,hor,h7,hs0,hshl,h128',hbig,hk0,hn1]);simp[p221];rw[hsz]
     ·simp[b221_0,md,hjj,hsub,hna,hle,hnadd,hi,hx',hwx,hr1,hor,h7,hs0,hshl,h128',hbig,hk0,hn1]
     ·simp
     ·simp[acc]
  ·rw[if_neg hlt]at hrun;rw[hrun,hzs];have hle:(b.length:Int) - k<=a:=by omega
   have hsz:=AL (G:=G) (PK:=PK) (md:=md) (o:=10000000) (live:=[0,1,7,8]) (c:=b221_0) (st221 b a) k hstep (by simp[b221_0,md,hjj,hsub,hna,hle]);simp[p221];rw[hsz]
   ·simp[b221_0,md,hjj,hsub,hna,hle]
   ·simp
   ·simp[acc]
@[simp] def st237 (b:List Int) (a:Nat) (j:Nat):St:={n:=57,m:=0,tm:=[(0,.im 1 (enc fU b)),(1,.sc (.int .i64 a)),(7,.sc (.int .i64 (acc b a j))),(8,.sc (.int .i64 (128 ^ j))),(9,.sc (.int .i64 j))],ob:=[]}
theorem MN (b:List Int) (a:Nat) (hb:byt b) (ha:a<=4611686018427387904):AH G PK md 237 [.v (.im 1 (enc fU b)),.v (.sc (.int .i64 a))]=some ⟨KQ (Eb b a),[],[]⟩:=by
 refine AA (pf:=p237) rfl (by simp[p237]) ?_;obtain⟨k,hk,hp,hkn⟩:=first (fun j=>Mu b a j=true) 5;have hbl:=hb.1;have hna: ¬ (a:Int)<0:=by omega
 have hstep: ∀j,j<k-> ∃s',An (AH G PK md) (Ag G PK md) md b237_0 (st237 b a j)=some (.normal,s')/\s'.m<=10000000/\Ai 10000000 [0,1,7,8,9] s'=st237 b a (j+1):=fun j hj=>by
  have h1:=hp j hj;unfold Mu at h1;rw[Bool.and_eq_true,decide_eq_true_iff,decide_eq_true_iff]at h1;obtain⟨hlt,h128⟩:=h1;obtain⟨n,hn⟩: ∃n,n=a+j:=⟨_,rfl⟩;obtain⟨x,hi,hx,hx',hd⟩:=AT b (j:=n) (by omega);rw[hn]at hd;have hnadd:IntKind.wrap .i64 ((a:Int)+j)=(n:Int):=by rw[AC (by omega) (by omega)];omega
  have hxr:=hb.2 x (List.mem_of_getElem? hx);have hj5:j<5:=by omega
  have hsub:IntKind.wrap .i64 ((b.length:Int) - j)=(b.length:Int) - j:=AC (by omega) (by omega);have hwx:IntKind.wrap .i64 x=x:=AC (by omega) (by omega);have hjj:((j:Nat):Int)<5:=by omega
  have hr1:x.tmod 128=x%128:=Int.tmod_eq_emod_of_nonneg hxr.1;have hr2:=Int.emod_nonneg x (b:=128) (by omega);have hr3:=Int.emod_lt_of_pos x (b:=128) (by omega);obtain⟨ha0,ha1⟩:=Jy hb a j;have hacc:acc b a (j+1)=acc b a j+x%128*128 ^ j:=by simp only[acc,hd,hr1]
  have hp5:=N8 hj5;have hp0:(0:Int)<128 ^ j:=Int.pow_pos (by omega);have hpe:(128:Int) ^ (j+1)=128 ^ j*128:=Int.pow_succ _ _;have hmu:IntKind.wrap .i64 (128 ^ j*128)=128 ^ (j+1):=by rw[hpe,AC (by omega) (by omega)]
  have hmx:0<=x%128*128 ^ j/\x%128*128 ^ j<=127*128 ^ j:=⟨Int.mul_nonneg hr2 (by omega),Int.mul_le_mul_of_nonneg_right (by omega) (by omega)⟩;have hmw:IntKind.wrap .i64 (x%128*128 ^ j)=x%128*128 ^ j:=AC (by omega) (by omega);have hsum:IntKind.wrap .i64 (acc b a j+x%128*128 ^ j)=acc b a (j+1):=by rw[hacc,AC (by omega) (by omega)]
  have hle2:(a:Int)<(b.length:Int) - j:=by omega
  rw[hd]at h128;have h128':128<=x:=by omega
  simp[b237_0,md,hjj,hsub,hna,hle2,hnadd,hi,hx',hwx,hr1,hmu,hmw,hsum,h128',A2 (n:=5) hj5 (by omega)]
 have hzs:KQ none=[.v (.sc (.int .i64 0)),.v (.sc (.int .i64 0)),.v (.sc (.bool false))]:=rfl;have hrun:=Lu k hk hp;rcases hkn with rfl|⟨hk5,hn0⟩
 ·have hr:Eb b a=none:=by rw[hrun];rfl
  rw[hr,hzs];have hsz:=AL (G:=G) (PK:=PK) (md:=md) (o:=10000000) (live:=[0,1,7,8,9]) (c:=b237_0) (st237 b a) 5 hstep (by simp[b237_0,md,hna]);simp[p237,hna];rw[hsz]
  ·simp[b237_0,md,hna]
  ·simp
  ·simp[acc]
 ·rw[show 5 - k=5 - (k+1)+1 by omega]at hrun;rw[Mv]at hrun;have hjj:((k:Nat):Int)<5:=by omega
  have hsub:IntKind.wrap .i64 ((b.length:Int) - k)=(b.length:Int) - k:=AC (by omega) (by omega);by_cases hlt:a+k<b.length
  ·rw[if_pos hlt]at hrun;obtain⟨n,hn⟩: ∃n,n=a+k:=⟨_,rfl⟩;obtain⟨x,hi,hx,hx',hd⟩:=AT b (j:=n) (by omega);rw[hn]at hd;have hnadd:IntKind.wrap .i64 ((a:Int)+k)=(n:Int):=by rw[AC (by omega) (by omega)];omega
   have hxr:=hb.2 x (List.mem_of_getElem? hx);have hj5:k<5:=by omega
   have hsub:IntKind.wrap .i64 ((b.length:Int) - k)=(b.length:Int) - k:=AC (by omega) (by omega);have hwx:IntKind.wrap .i64 x=x:=AC (by omega) (by omega);have hjj:((k:Nat):Int)<5:=by omega
   have hr1:x.tmod 128=x%128:=Int.tmod_eq_emod_of_nonneg hxr.1;have hr2:=Int.emod_nonneg x (b:=128) (by omega);have hr3:=Int.emod_lt_of_pos x (b:=128) (by omega);obtain⟨ha0,ha1⟩:=Jy hb a k;have hacc:acc b a (k+1)=acc b a k+x%128*128 ^ k:=by simp only[acc,hd,hr1]
   have hp5:=N8 hj5;have hp0:(0:Int)<128 ^ k:=Int.pow_pos (by omega);have hpe:(128:Int) ^ (k+1)=128 ^ k*128:=Int.pow_succ _ _;have hmu:IntKind.wrap .i64 (128 ^ k*128)=128 ^ (k+1):=by rw[hpe,AC (by omega) (by omega)]
   have hmx:0<=x%128*128 ^ k/\x%128*128 ^ k<=127*128 ^ k:=⟨Int.mul_nonneg hr2 (by omega),Int.mul_le_mul_of_nonneg_right (by omega) (by omega)⟩;have hmw:IntKind.wrap .i64 (x%128*128 ^ k)=x%128*128 ^ k:=AC (by omega) (by omega);have hsum:IntKind.wrap .i64 (acc b a k+x%128*128 ^ k)=acc b a (k+1):=by rw[hacc,AC (by omega) (by omega)]
   have hle2:(a:Int)<(b.length:Int) - k:=by omega
   have hx128: ¬ 128<=x:=by
    intro h;apply hn0;unfold Mu;rw[hd];simp[hlt,h]
   have h128': ¬ 128<=x:=by omega
   rw[hd,if_neg hx128]at hrun;have hn1:IntKind.wrap .i64 ((n:Int)+1)=(n:Int)+1:=AC (by omega) (by omega);rw[←hn]at hrun;by_cases hbig:2147483647<acc b a (k+1)
   ·rw[if_pos (.inr hbig)]at hrun;rw[hrun,hzs];have hsz:=AL (G:=G) (PK:=PK) (md:=md) (o:=10000000) (live:=[0,1,7,8,9]) (c:=b237_0) (st237 b a) k hstep (by simp[b237_0,md,hjj,hsub,hna,hle2,hnadd,hi,hx',hwx,hr1,hmu,hmw,hsum,h128',hbig]);simp[p237,hna];rw[hsz]
    ·simp[b237_0,md,hjj,hsub,hna,hle2,hnadd,hi,hx',hwx,hr1,hmu,hmw,hsum,h128',hbig]
    ·simp
    ·simp[acc]
   ·by_cases hx0:x=0
    ·by_cases hk0:0<k
     ·rw[if_pos (.inl ⟨hk0,hx0⟩)]at hrun;rw[hrun,hzs];have hxe:=eq_true hx0;have hsz:=AL (G:=G) (PK:=PK) (md:=md) (o:=10000000) (live:=[0,1,7,8,9]) (c:=b237_0) (st237 b a) k hstep (by simp[b237_0,md,hjj,hsub,hna,hle2,hnadd,hi,hx',hwx,hr1,hmu,hmw,hsum,h128',hbig,hk0,hxe]);simp[p237,hna];rw[hsz]
      ·simp[b237_0,md,hjj,hsub,hna,hle2,hnadd,hi,hx',hwx,hr1,hmu,hmw,hsum,h128',hbig,hk0,hxe]
      ·simp
      ·simp[acc]
     ·rw[if_neg (by omega)]at hrun;rw[hrun];simp only[KQ];have hxe:=eq_true hx0;have hsz:=AL (G:=G) (PK:=PK) (md:=md) (o:=10000000) (live:=[0,1,7,8,9]) (c:=b237_0) (st237 b a) k hstep (by simp[b237_0,md,hjj,hsub,hna,hle2,hnadd,hi,hx',hwx,hr1,hmu,hmw,hsum,h128',hbig,hk0,hn1,hxe]);simp[p237,hna];rw[hsz]
      ·simp[b237_0,md,hjj,hsub,hna,hle2,hnadd,hi,hx',hwx,hr1,hmu,hmw,hsum,h128',hbig,hk0,hn1,hxe]
      ·simp
      ·simp[acc]
    ·rw[if_neg (by omega)]at hrun;rw[hrun];simp only[KQ];have hsz:=AL (G:=G) (PK:=PK) (md:=md) (o:=10000000) (live:=[0,1,7,8,9]) (c:=b237_0) (st237 b a) k hstep (by simp[b237_0,md,hjj,hsub,hna,hle2,hnadd,hi,hx',hwx,hr1,hmu,hmw,hsum,h128',hbig,hx0,hn1]);simp[p237,hna];rw[hsz]
     ·simp[b237_0,md,hjj,hsub,hna,hle2,hnadd,hi,hx',hwx,hr1,hmu,hmw,hsum,h128',hbig,hx0,hn1]
     ·simp
     ·simp[acc]
  ·rw[if_neg hlt]at hrun;rw[hrun,hzs];have hle2: ¬ (a:Int)<(b.length:Int) - k:=by omega
   have hsz:=AL (G:=G) (PK:=PK) (md:=md) (o:=10000000) (live:=[0,1,7,8,9]) (c:=b237_0) (st237 b a) k hstep (by simp[b237_0,md,hjj,hsub,hna,hle2]);simp[p237,hna];rw[hsz]
   ·simp[b237_0,md,hjj,hsub,hna,hle2]
   ·simp
   ·simp[acc]
def pn (n:Int):Nat->Int
 |0=>n
 |j+1=>(pn n j).tdiv 128
def po (n:Int):Nat->List Int
 |0=>[]
 |j+1=>po n j++[IntKind.wrap .u8 ((pn n j).tmod 128+128)]
def pnd (n:Int):Nat:=(Em (fun j=>decide (127<pn n j)) 5).toNat
def Al (n:Int):List Int:=po n (pnd n)++[IntKind.wrap .u8 (pn n (pnd n))]
@[simp] theorem po_len (n:Int): ∀j,(po n j).length=j
 |0=>rfl
 |j+1=>by simp[po,po_len n j]
theorem LU {n:Int} (h0:0<=n) (h1:n<=2147483647): ∀j,0<=pn n j/\pn n j<=2147483647
 |0=>⟨h0,h1⟩
 |j+1=>by
  obtain⟨h2,h3⟩:=LU h0 h1 j;simp only[pn];rw[Int.tdiv_eq_ediv_of_nonneg h2];omega
theorem pn_4 {n:Int} (h0:0<=n) (h1:n<=2147483647):pn n 4<=127:=by
 have b0:=LU h0 h1 0;have b1:=LU h0 h1 1;have b2:=LU h0 h1 2;have b3:=LU h0 h1 3;simp only[pn]at*;generalize e1:n.tdiv 128=n1 at*;generalize e2:n1.tdiv 128=n2 at*;generalize e3:n2.tdiv 128=n3 at*;rw[Int.tdiv_eq_ediv_of_nonneg (by omega)]at e1 e2 e3 ⊢;omega
theorem LT {n:Int} (h0:0<=n) (h1:n<=2147483647): ∃k,k<5/\(∀j,j<k->127<pn n j)/\ ¬ 127<pn n k/\pnd n=k:=by
 obtain⟨k,hk,hp,hkn⟩:=first (fun j=>(decide (127<pn n j))=true) 5;rcases hkn with rfl|⟨hlt,hn⟩
 ·have:=hp 4 (by omega);have h4:=pn_4 h0 h1;simp at this;omega
 ·have hn':decide (127<pn n k)=false:=by simpa using hn
  exact⟨k,hlt,fun j hj=>by simpa using hp j hj,by simpa using hn,by unfold pnd;rw[Bq hlt hp hn'];rfl⟩
theorem A4 {n:Int} (h0:0<=n) (h1:n<=2147483647):(Al n).length<=5:=by
 obtain⟨k,hk,_,_,he⟩:=LT h0 h1;unfold Al;simp[he];omega
@[simp] def st152 (n:Int) (j:Nat):St:={n:=25,m:=0,tm:=[(0,.sc (.int .i64 (pn n j))),(3,.ref 10000000 [])],ob:=[(10000000,.arr 1 (enc fU (po n j)))]}
theorem BL (n:Int) (h0:0<=n) (h1:n<=2147483647):AH G PK md 152 [.v (.sc (.int .i64 n))]=some ⟨[.v (.own 1 (enc fU (Al n)))],[],[]⟩:=by
 refine AA (pf:=p152) rfl (by simp[p152]) ?_;obtain⟨k,hk5,hp,hn,hpk⟩:=LT h0 h1;have e0:=Aj (PK:=PK) n 0 2147483647;have hin:inB n 0 2147483647=true:=by unfold inB;simp[h0,h1]
 rw[hin]at e0;have hstep: ∀j,j<k-> ∃s',An (AH G PK md) (Ag G PK md) md b152_0 (st152 n j)=some (.normal,s')/\s'.m<=10000000/\Ai 10000000 [0,3] s'=st152 n (j+1):=fun j hj=>by
  have h127:=hp j hj;obtain⟨b0,b1⟩:=LU h0 h1 j;have hw1:IntKind.wrap .i64 ((pn n j).tmod 128+128)=(pn n j).tmod 128+128:=by
   rw[Int.tmod_eq_emod_of_nonneg b0];exact AC (by omega) (by omega)
  have hw0:IntKind.wrap .i64 ((pn n j).tmod 128)=(pn n j).tmod 128:=by
   rw[Int.tmod_eq_emod_of_nonneg b0];exact AC (by omega) (by omega)
  have hw2:IntKind.wrap .i64 ((pn n j).tdiv 128)=pn n (j+1):=by
   simp only[pn];rw[Int.tdiv_eq_ediv_of_nonneg b0];exact AC (by omega) (by omega)
  have hap:enc fU (po n j)++[[T.sc (.int .u8 (IntKind.wrap .u8 ((pn n j).tmod 128+128)))]]=enc fU (po n (j+1)):=by simp[po,enc]
  have hb:j+1<=35184372088832:=by omega
  simp[b152_0,md,h127,hw0,hw1,hw2,hap,hb]
 have hap:enc fU (po n k)++[[T.sc (.int .u8 (IntKind.wrap .u8 (pn n k)))]]=enc fU (Al n):=by unfold Al;rw[hpk];simp[enc]
 have hb:k+1<=35184372088832:=by omega
 have hsz:=AL (G:=G) (PK:=PK) (md:=md) (o:=10000000) (live:=[0,3]) (c:=b152_0) (st152 n) k hstep (by simp[b152_0,hn]);have hpz:pn n 0=n:=rfl;have hoz:po n 0=[]:=rfl;simp[p152,md,e0];rw[hsz]
 ·simp[b152_0,hn,hap,hb]
 ·simp
 ·simp[hpz,hoz]
@[simp] def st251 (n:Int) (j:Nat):St:={n:=27,m:=0,tm:=[(0,.sc (.int .i64 (pn n j))),(3,.ref 10000000 [])],ob:=[(10000000,.arr 1 (enc fU (po n j)))]}
theorem MK (n:Int) (h0:0<=n) (h1:n<=2147483647):AH G PK md 251 [.v (.sc (.int .i64 n))]=some ⟨[.v (.own 1 (enc fU (Al n)))],[],[]⟩:=by
 refine AA (pf:=p251) rfl (by simp[p251]) ?_;obtain⟨k,hk5,hp,hn,hpk⟩:=LT h0 h1;have hn0: ¬n<0:=by omega
 have hn1: ¬ 2147483647<n:=by omega
 have hstep: ∀j,j<k-> ∃s',An (AH G PK md) (Ag G PK md) md b251_0 (st251 n j)=some (.normal,s')/\s'.m<=10000000/\Ai 10000000 [0,3] s'=st251 n (j+1):=fun j hj=>by
  have h127:=hp j hj;obtain⟨b0,b1⟩:=LU h0 h1 j;have hw1:IntKind.wrap .i64 ((pn n j).tmod 128+128)=(pn n j).tmod 128+128:=by
   rw[Int.tmod_eq_emod_of_nonneg b0];exact AC (by omega) (by omega)
  have hw0:IntKind.wrap .i64 ((pn n j).tmod 128)=(pn n j).tmod 128:=by
   rw[Int.tmod_eq_emod_of_nonneg b0];exact AC (by omega) (by omega)
  have hw2:IntKind.wrap .i64 ((pn n j).tdiv 128)=pn n (j+1):=by
   simp only[pn];rw[Int.tdiv_eq_ediv_of_nonneg b0];exact AC (by omega) (by omega)
  have hap:enc fU (po n j)++[[T.sc (.int .u8 (IntKind.wrap .u8 ((pn n j).tmod 128+128)))]]=enc fU (po n (j+1)):=by simp[po,enc]
  have hb:j+1<=35184372088832:=by omega
  simp[b251_0,md,h127,hw0,hw1,hw2,hap,hb]
 have hap:enc fU (po n k)++[[T.sc (.int .u8 (IntKind.wrap .u8 (pn n k)))]]=enc fU (Al n):=by unfold Al;rw[hpk];simp[enc]
 have hb:k+1<=35184372088832:=by omega
 have hsz:=AL (G:=G) (PK:=PK) (md:=md) (o:=10000000) (live:=[0,3]) (c:=b251_0) (st251 n) k hstep (by simp[b251_0,hn]);have hpz:pn n 0=n:=rfl;have hoz:po n 0=[]:=rfl;simp[p251,md,hn0,hn1];rw[hsz]
 ·simp[b251_0,hn,hap,hb]
 ·simp
 ·simp[hpz,hoz]
def num (z:Bool) (b:List Int) (c:Nat×Bool):Int×(Nat×Bool):=
 if c.2 then match Eb b c.1 with
  |some (n,k)=>(n,(k,true))
  |none=>(0,(if z then 0 else c.1,false))
 else(0,(c.1,false))
@[simp] def crs (b:List Int) (c:Nat×Bool):List L:=[.im 1 (enc fU b),.sc (.int .i64 c.1),.sc (.bool c.2)]
theorem Cf (b:List Int) (c:Nat×Bool) (hb:byt b) (hc:c.1<=4611686018427387904):AH G PK md 198 [.pm (crs b c)]=some ⟨[.v (.sc (.int .i64 (num false b c).1))],[],[crs b (num false b c).2]⟩:=by
 refine AA (pf:=p198) rfl (by simp[p198]) ?_;obtain⟨a,ok⟩:=c;have e:=L7 (PK:=PK) b a hb hc
 cases hg:Eb b a with
 |none=>
  rw[hg]at e;simp only[KQ]at e
  cases ok with
  |true=>simp[p198,md,e,num,hg]
  |false=>simp[p198,md,e,num,hg]
 |some x=>
  obtain⟨n,k⟩:=x;rw[hg]at e;simp only[KQ]at e
  cases ok with
  |true=>simp[p198,md,e,num,hg]
  |false=>simp[p198,md,e,num,hg]
theorem Ob (b:List Int) (c:Nat×Bool) (hb:byt b) (hc:c.1<=4611686018427387904):AH G PK md 218 [.pm (crs b c)]=some ⟨[.v (.sc (.int .i64 (num true b c).1))],[],[crs b (num true b c).2]⟩:=by
 refine AA (pf:=p218) rfl (by simp[p218]) ?_;obtain⟨a,ok⟩:=c;have e:=MN (PK:=PK) b a hb hc
 cases hg:Eb b a with
 |none=>
  rw[hg]at e;simp only[KQ]at e
  cases ok with
  |true=>simp[p218,md,e,num,hg]
  |false=>simp[p218,md,e,num,hg]
 |some x=>
  obtain⟨n,k⟩:=x;rw[hg]at e;simp only[KQ]at e
  cases ok with
  |true=>simp[p218,md,e,num,hg]
  |false=>simp[p218,md,e,num,hg]
theorem Rv {b:List Int} (hb:byt b) (a:Nat): ∀ (f k:Nat) n q,Mv b a f k=some (n,q)->0<=n/\n<=2147483647/\q<=b.length
 |0,k,n,q,h=>by cases h
 |f+1,k,n,q,h=>by
  simp only[Mv]at h;split at h
  ·split at h
   ·exact Rv hb a f (k+1) n q h
   ·split at h
    ·cases h
    ·rename_i h1 h2 h3
     cases h
     exact⟨(Jy hb a _).1,by omega,by omega⟩
  ·cases h
theorem OC {z:Bool} {b:List Int} (hb:byt b) (c:Nat×Bool) (hc:c.1<=1048576):0<=(num z b c).1/\(num z b c).1<=2147483647/\(num z b c).2.1<=1048576:=by
 have hl:=hb.1;unfold num;split
 ·cases h:Eb b c.1 with
  |none=>cases z<;>simp[hc]
  |some x=>
   obtain⟨n,q⟩:=x;obtain⟨h1,h2,h3⟩:=Rv hb c.1 5 0 n q h;exact⟨h1,h2,by show q<=1048576;omega⟩
 ·exact⟨by simp,by simp,hc⟩
def itn (z:Bool) (b:List Int) (c:Nat×Bool):Nat->(Nat×Bool)×List Int
 |0=>(c,[])
 |j+1=>if(itn z b c j).1.2 then((num z b (itn z b c j).1).2,(itn z b c j).2++[(num z b (itn z b c j).1).1])else itn z b c j
def rdl (z:Bool) (b:List Int) (c:Nat×Bool):(Nat×Bool)×List Int:=itn z b (num z b c).2 (num z b c).1.toNat
theorem Qt {z:Bool} {b:List Int} (hb:byt b) {c:Nat×Bool} (hc:c.1<=1048576): ∀j,(itn z b c j).1.1<=1048576/\(itn z b c j).2.length<=j/\ ∀x∈(itn z b c j).2,0<=x/\x<=2147483647
 |0=>⟨hc,Nat.le_refl _,fun x hx=>by cases hx⟩
 |j+1=>by
  obtain⟨h1,h2,h3⟩:=Qt (z:=z) hb hc j;simp only[itn];split
  ·obtain⟨h4,h5,h6⟩:=OC (z:=z) hb _ h1;refine⟨h6,by simp;omega,fun x hx=> ?_⟩;rcases List.mem_append.1 hx with hx|hx
   ·exact h3 x hx
   ·rw[List.mem_singleton.1 hx];exact⟨h4,h5⟩
  ·exact⟨h1,by omega,h3⟩
theorem HN {z:Bool} {b:List Int} {c:Nat×Bool} {k:Nat} (h:(itn z b c k).1.2=false): ∀d,itn z b c (k+d)=itn z b c k
 |0=>rfl
 |d+1=>by
  show itn z b c (k+d+1)=_
  have:=HN h d;simp only[itn];rw[this,h];rfl
@[simp] def st197 (b:List Int) (c:Nat×Bool) (N:Nat) (j:Nat):St:={n:=28,m:=1,tm:=[(0,.pb 0 0),(3,.ref 10000000 []),(4,.sc (.int .i64 N)),(5,.sc (.int .i64 j))],ob:=[(0,.box [.im 1 (enc fU b),.sc (.int .i64 (itn false b c j).1.1),.sc (.bool (itn false b c j).1.2)]),(10000000,.arr 1 (enc fI (itn false b c j).2))]}
theorem Jo (b:List Int) (c:Nat×Bool) (hb:byt b) (hc:c.1<=1048576):AH G PK md 197 [.pm (crs b c)]=some ⟨[.v (.own 1 (enc fI (rdl false b c).2))],[],[crs b (rdl false b c).1]⟩:=by
 refine AA (pf:=p197) rfl (by simp[p197]) ?_;have e0:=Cf (PK:=PK) b c hb (by omega);obtain⟨m1,m2,m3⟩:=OC (z:=false) hb c hc;obtain⟨N,hN⟩: ∃N:Nat,(num false b c).1=N:=⟨(num false b c).1.toNat,by omega⟩;rw[hN]at e0;unfold rdl;rw[hN,Int.toNat_natCast];generalize (num false b c).2=c0 at e0 m3 ⊢;obtain⟨k,hk,hp,hkn⟩:=first (fun j=>(itn false b c0 j).1.2=true) N;have hstep: ∀j,j<k-> ∃s',An (AH G PK md) (Ag G PK md) md b197_0 (st197 b c0 N j)=some (.normal,s')/\s'.m<=10000000/\Ai 10000000 [0,3,4,5] s'=st197 b c0 N (j+1):=fun j hj=>by
  have hok:=hp j hj;obtain⟨i1,i2,_⟩:=Qt (z:=false) hb m3 j;have hnx:itn false b c0 (j+1)=((num false b (itn false b c0 j).1).2,(itn false b c0 j).2++[(num false b (itn false b c0 j).1).1]):=by simp only[itn];rw[if_pos hok]
  have e:=Cf (PK:=PK) b (itn false b c0 j).1 hb (by omega);simp only[crs]at e;simp only[st197];rw[hnx];generalize (num false b (itn false b c0 j).1).2=c1 at e ⊢;generalize (num false b (itn false b c0 j).1).1=v at e ⊢;rw[hok]at e ⊢;generalize (itn false b c0 j).1.1=a at e ⊢;generalize (itn false b c0 j).2=l at i2 ⊢;have hap:enc fI l++[[T.sc (.int .i64 v)]]=enc fI (l++[v]):=by simp[enc]
  have hlt:j<N:=by omega
  have hlen:(l.length+1)*8<=35184372088832:=by omega
  have hinc:IntKind.wrap .i64 ((j:Int)+1)=(j:Int)+1:=AC (by omega) (by omega);simp[b197_0,md,hlt,e,hap,hlen,hinc]
 have hfin:itn false b c0 N=itn false b c0 k:=by
  rcases hkn with rfl|⟨hlt,hn⟩
  ·rfl
  ·rw[show N=k+(N - k)by omega];exact HN (by simpa using hn) _
 rw[hfin];have hcz:itn false b c0 0=(c0,[]):=rfl;simp only[crs]at e0;rcases hkn with rfl|⟨hlt,hn⟩
 ·have hsz:=AL (G:=G) (PK:=PK) (md:=md) (o:=10000000) (live:=[0,3,4,5]) (c:=b197_0) (st197 b c0 k) k hstep (by simp[b197_0]);simp[p197,md,e0];rw[hsz]
  ·simp[b197_0]
  ·simp
  ·simp[hcz]
 ·have hn':(itn false b c0 k).1.2=false:=by simpa using hn
  have hsz:=AL (G:=G) (PK:=PK) (md:=md) (o:=10000000) (live:=[0,3,4,5]) (c:=b197_0) (st197 b c0 N) k hstep (by simp[b197_0,hlt,hn']);simp[p197,md,e0];rw[hsz]
  ·simp[b197_0,hlt,hn']
  ·simp
  ·simp[hcz]
@[simp] def st217 (b:List Int) (c:Nat×Bool) (N:Nat) (j:Nat):St:={n:=28,m:=1,tm:=[(0,.pb 0 0),(3,.ref 10000000 []),(4,.sc (.int .i64 N)),(5,.sc (.int .i64 j))],ob:=[(0,.box [.im 1 (enc fU b),.sc (.int .i64 (itn true b c j).1.1),.sc (.bool (itn true b c j).1.2)]),(10000000,.arr 1 (enc fI (itn true b c j).2))]}
theorem Oc (b:List Int) (c:Nat×Bool) (hb:byt b) (hc:c.1<=1048576):AH G PK md 217 [.pm (crs b c)]=some ⟨[.v (.own 1 (enc fI (rdl true b c).2))],[],[crs b (rdl true b c).1]⟩:=by
 refine AA (pf:=p217) rfl (by simp[p217]) ?_;have e0:=Ob (PK:=PK) b c hb (by omega);obtain⟨m1,m2,m3⟩:=OC (z:=true) hb c hc;obtain⟨N,hN⟩: ∃N:Nat,(num true b c).1=N:=⟨(num true b c).1.toNat,by omega⟩;rw[hN]at e0;unfold rdl;rw[hN,Int.toNat_natCast];generalize (num true b c).2=c0 at e0 m3 ⊢;obtain⟨k,hk,hp,hkn⟩:=first (fun j=>(itn true b c0 j).1.2=true) N;have hstep: ∀j,j<k-> ∃s',An (AH G PK md) (Ag G PK md) md b217_0 (st217 b c0 N j)=some (.normal,s')/\s'.m<=10000000/\Ai 10000000 [0,3,4,5] s'=st217 b c0 N (j+1):=fun j hj=>by
  have hok:=hp j hj;obtain⟨i1,i2,_⟩:=Qt (z:=true) hb m3 j;have hnx:itn true b c0 (j+1)=((num true b (itn true b c0 j).1).2,(itn true b c0 j).2++[(num true b (itn true b c0 j).1).1]):=by simp only[itn];rw[if_pos hok]
  have e:=Ob (PK:=PK) b (itn true b c0 j).1 hb (by omega);simp only[crs]at e;simp only[st217];rw[hnx];generalize (num true b (itn true b c0 j).1).2=c1 at e ⊢;generalize (num true b (itn true b c0 j).1).1=v at e ⊢;rw[hok]at e ⊢;generalize (itn true b c0 j).1.1=a at e ⊢;generalize (itn true b c0 j).2=l at i2 ⊢;have hap:enc fI l++[[T.sc (.int .i64 v)]]=enc fI (l++[v]):=by simp[enc]
  have hlt:j<N:=by omega
  have hlen:(l.length+1)*8<=35184372088832:=by omega
  have hinc:IntKind.wrap .i64 ((j:Int)+1)=(j:Int)+1:=AC (by omega) (by omega);simp[b217_0,md,hlt,e,hap,hlen,hinc]
 have hfin:itn true b c0 N=itn true b c0 k:=by
  rcases hkn with rfl|⟨hlt,hn⟩
  ·rfl
  ·rw[show N=k+(N - k)by omega];exact HN (by simpa using hn) _
 rw[hfin];have hcz:itn true b c0 0=(c0,[]):=rfl;simp only[crs]at e0;rcases hkn with rfl|⟨hlt,hn⟩
 ·have hsz:=AL (G:=G) (PK:=PK) (md:=md) (o:=10000000) (live:=[0,3,4,5]) (c:=b217_0) (st217 b c0 k) k hstep (by simp[b217_0]);simp[p217,md,e0];rw[hsz]
  ·simp[b217_0]
  ·simp
  ·simp[hcz]
 ·have hn':(itn true b c0 k).1.2=false:=by simpa using hn
  have hsz:=AL (G:=G) (PK:=PK) (md:=md) (o:=10000000) (live:=[0,3,4,5]) (c:=b217_0) (st217 b c0 N) k hstep (by simp[b217_0,hlt,hn']);simp[p217,md,e0];rw[hsz]
  ·simp[b217_0,hlt,hn']
  ·simp
  ·simp[hcz]
def pns (l:List Int):List Int:=(l.map Al).flatten
def inU (l:List Int):Prop:= ∀x∈l,0<=x/\x<=2147483647
theorem GX (l:List Int) {j:Nat} {x:Int} (h:l[j]? =some x):pns (l.take (j+1))=pns (l.take j)++Al x:=by
 unfold pns;rw[List.take_add_one,h];simp
theorem DK: ∀ (l:List Int),inU l->(pns l).length<=5*l.length
 |[],_=>by simp[pns]
 |x::l,h=>by
  have h1:=DK l fun y hy=>h y (List.mem_cons_of_mem _ hy)
  have h2:=A4 (h x List.mem_cons_self).1 (h x List.mem_cons_self).2;have h3:pns (x::l)=Al x++pns l:=by simp[pns]
  rw[h3,List.length_append,List.length_cons];omega
theorem Gm {l:List Int} (h:inU l) (j:Nat):inU (l.take j):=fun x hx=>h x (List.mem_of_mem_take hx)
@[simp] def st239 (l:List Int) (j:Nat):St:={n:=19,m:=0,tm:=[(3,.ref 10000000 []),(7,.im 1 (enc fI l)),(8,.sc (.int .i64 l.length)),(9,.sc (.int .i64 j))],ob:=[(10000000,.arr 1 (enc fU (pns (l.take j))))]}
theorem IQ (l:List Int) (hl:l.length<=2097152) (hu:inU l):AH G PK md 239 [.v (.im 1 (enc fI l))]=some ⟨[.v (.own 1 (enc fU (pns l)))],[],[]⟩:=by
 refine AA (pf:=p239) rfl (by simp[p239]) ?_;have hstep: ∀j,j<l.length-> ∃s',An (AH G PK md) (Ag G PK md) md b239_0 (st239 l j)=some (.normal,s')/\s'.m<=10000000/\Ai 10000000 [3,7,8,9] s'=st239 l (j+1):=fun j hlt=>by
  obtain⟨x,_,hx,hx',hd⟩:=AT l hlt;obtain⟨u0,u1⟩:=hu x (List.mem_of_getElem? hx);have e:=MK (PK:=PK) x u0 u1;have hpt:=GX l hx;have hlen:=DK (l.take j) (Gm hu j);have hlj:(l.take j).length=j:=by rw[List.length_take];omega
  have hap:enc fU (pns (l.take j))++enc fU (Al x)=enc fU (pns (l.take (j+1))):=by rw[hpt,Ac]
  have hp5:=A4 u0 u1;have hb:(pns (l.take j)).length+(Al x).length<=35184372088832:=by omega
  have hinc:IntKind.wrap .i64 ((j:Int)+1)=(j:Int)+1:=AC (by omega) (by omega);simp[b239_0,md,hlt,hx',e,hap,hb,hinc]
 have hsz:=AL (G:=G) (PK:=PK) (md:=md) (o:=10000000) (live:=[3,7,8,9]) (c:=b239_0) (st239 l) l.length hstep (by simp[b239_0]);have hz:pns []=[]:=rfl;simp[p239];rw[hsz]
 ·simp[b239_0]
 ·simp
 ·simp[hz]
def pl (l:List Int):List Int:=Al l.length++pns l
theorem N9 (l:List Int) (hl:l.length<=1048576) (hu:inU l):(pl l).length<=5*l.length+5:=by
 unfold pl;have:=DK l hu;have:=A4 (n:=l.length) (by omega) (by omega);simp;omega
theorem L9 (l:List Int) (hl:l.length<=1048576) (hu:inU l):AH G PK md 238 [.v (.im 1 (enc fI l))]=some ⟨[.v (.own 1 (enc fU (pl l)))],[],[]⟩:=by
 refine AA (pf:=p238) rfl (by simp[p238]) ?_;have e1:=IQ (PK:=PK) [(l.length:Int)] (by simp) (fun x hx=>by rw[List.mem_singleton.1 hx];omega);have e2:=IQ (PK:=PK) l (by omega) hu;have h1:pns [(l.length:Int)]=Al l.length:=by simp[pns]
 rw[h1]at e1;simp only[BZ,BK,fI]at e1;have:=DK l hu;have:=A4 (n:=l.length) (by omega) (by omega);have hb:(Al l.length).length+(pns l).length<=35184372088832:=by omega
 have hap:enc fU (Al l.length)++enc fU (pns l)=enc fU (pl l):=by unfold pl;rw[Ac]
 simp[p238,md,e1,e2,hb,hap]
def bit (b:Bool) (n:Int):Int:=if b then n else 0
theorem DZ (b:Bool):AH G PK md 90 [.v (.sc (.bool b))]=some ⟨[.v (.sc (.int .i64 (bit b 1)))],[],[]⟩:=by
 refine AA (pf:=p90) rfl (by simp[p90]) ?_
 cases b<;>simp[p90,bit]
theorem Oe (b:Bool) (n:Int):AH G PK md 240 [.v (.sc (.bool b)),.v (.sc (.int .i64 n))]=some ⟨[.v (.sc (.int .i64 (bit b n)))],[],[]⟩:=by
 refine AA (pf:=p240) rfl (by simp[p240]) ?_
 cases b<;>simp[p240,bit]
end Go.Proofs.YtbolhfegdocpeaaGreat.Ow
