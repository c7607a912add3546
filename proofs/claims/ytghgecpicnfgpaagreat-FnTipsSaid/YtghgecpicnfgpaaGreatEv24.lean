/- Squeezed bytes Bl again: the program's own way. -/
import Derived.Test.YtghgecpicnfgpaaGreatEv23
import Derived.Test.YtghgecpicnfgpaaGreatEv14
namespace Go.Proofs.YtghgecpicnfgpaaGreat.Ow
open Go
set_option linter.unusedVariables false
set_option linter.unusedSimpArgs false
set_option maxHeartbeats 16000000
set_option maxRecDepth 100000
def spG (b:LI) (s:Nat×LI):Option (Nat×LI):=
 if 1<=b.getD s.1 0/\b.getD s.1 0<=127 then some (s.1+1,s.2++[b.getD s.1 0])
 else if b.length<=s.1+1 then none
 else if b.getD s.1 0=0 then(if b.getD (s.1+1) 0≠0/\b.getD (s.1+1) 0<128 then none else some (s.1+2,s.2++[b.getD (s.1+1) 0]))
 else if 131<=b.getD s.1 0/\b.getD s.1 0<=228/\1<=b.getD (s.1+1) 0/\b.getD (s.1+1) 0<=s.2.length then some (s.1+2,rep s.2 (b.getD (s.1+1) 0).toNat (b.getD s.1 0 - 128).toNat)
 else none
theorem V3 {b:LI} {s s':Nat×LI} (h:spG b s=some s'):s.2.length<=s'.2.length:=by
 unfold spG at h;split at h
 ·cases h;simp
 ·split at h
  ·cases h
  ·split at h
   ·split at h
    ·cases h
    ·cases h;simp
   ·split at h
    ·cases h;simp only[Ib];omega
    ·cases h
theorem spF_spG (b:LI) (s:Nat×LI):spF b s=(match spG b s with
  |some s'=>if 3000<s'.2.length/\131<=b.getD s.1 0 then none else some s'
  |none=>none):=by
 unfold spF spG
 by_cases h1:1<=b.getD s.1 0/\b.getD s.1 0<=127
 ·rw[if_pos h1,if_pos h1]
  simp only
  rw[if_neg (by omega)]
 rw[if_neg h1,if_neg h1]
 by_cases h2:b.length<=s.1+1
 ·rw[if_pos h2,if_pos h2]
 rw[if_neg h2,if_neg h2]
 by_cases h3:b.getD s.1 0=0
 ·rw[if_pos h3,if_pos h3]
  split
  ·rfl
  ·simp only
   rw[if_neg (by omega)]
 rw[if_neg h3,if_neg h3]
 by_cases h4:131<=b.getD s.1 0/\b.getD s.1 0<=228/\1<=b.getD (s.1+1) 0/\b.getD (s.1+1) 0<=s.2.length
 ·rw[if_pos h4,if_pos h4]
  simp only
  by_cases h5:3000<(rep s.2 (b.getD (s.1+1) 0).toNat (b.getD s.1 0 - 128).toNat).length
  ·rw[if_pos h5,if_pos ⟨h5,h4.1⟩]
  ·rw[if_neg h5,if_neg (λh=>h5 h.1)]
 ·rw[if_neg h4,if_neg h4]
theorem UC {b:LI}: ∀ (n:Nat) (s r:Nat×LI),wo (λs=>decide (s.1<b.length)) (spG b) n s=some r->s.2.length<=r.2.length
 |0,s,r,h=>by simp only[wo,Option.some.injEq]at h;rw[h];exact Nat.le_refl _
 |n+1,s,r,h=>by
  simp only[wo]at h;split at h
  ·split at h
   ·rename_i s' hs;exact Nat.le_trans (V3 hs) (UC n s' r h)
   ·cases h
  ·cases h;exact Nat.le_refl _
theorem Vu {b:LI}: ∀ (n:Nat) (s:Nat×LI),(match wo (λs=>decide (s.1<b.length)) (spF b) n s with
  |some r=>if 3000<r.2.length then none else some r.2
  |none=>none)=(match wo (λs=>decide (s.1<b.length)) (spG b) n s with
  |some r=>if 3000<r.2.length then none else some r.2
  |none=>none)
 |0,s=>rfl
 |n+1,s=>by
  simp only[wo];by_cases hg:s.1<b.length
  case neg=>simp only[decide_eq_false hg,Bool.false_eq_true,if_false]
  ·simp only[decide_eq_true hg,if_true];rw[spF_spG]
   cases hs:spG b s with
   |none=>rfl
   |some s'=>
    simp only;by_cases h:3000<s'.2.length/\131<=b.getD s.1 0
    ·rw[if_pos h];simp only
     cases hw:wo (λs=>decide (s.1<b.length)) (spG b) n s' with
     |none=>rfl
     |some r=>
      have:=UC n s' r hw;simp only;rw[if_pos (by omega)]
    ·rw[if_neg h];exact Vu n s'
theorem U1 (b:LI):Bl b=(match wo (λs=>decide (s.1<b.length)) (spG b) b.length (0,[])with
  |some r=>if 3000<r.2.length then none else some r.2
  |none=>none):=Vu b.length (0,[])
@[simp] def st238_1 (b:LI) (s:Nat×LI):St:={n:=87,m:=0,tm:=[(0,.im 1 (enc fU b)),(4,.ref 10000000 []),(5,.sc (I6 s.1))],ob:=[(10000000,.arr 1 (enc fU s.2))]}
@[simp] def st238_0 (b:LI) (a e N:Int) (out:LI) (j:Nat):St:={n:=87,m:=0,tm:=[(0,.im 1 (enc fU b)),(4,.ref 10000200 []),(5,.sc (I6 a)),(7,.sc (I6 e)),(69,.sc (I6 N)),(70,.sc (I6 j))],ob:=[(10000200,.arr 1 (enc fU out))]}
theorem TR [PKI] (b:LI) (a:Int) (d e:Nat) (out:LI) (hd:131<=d/\d<=228) (he:1<=e/\e<=out.length) (hl:out.length<=200000000):
  ∀ (s:St),s.m<=10000200->Aa 10000200 [0,4,5,7,69,70] s=st238_0 b a e ((d - 128:Nat):Int) out 0->A6 G PK md 10000200 [0,4,5,7,69,70] b238_0 s=xG b238_0 (st238_0 b a e ((d - 128:Nat):Int) (rep out e (d - 128)) (d - 128)):=
 @lok _ 10000200 [0,4,5,7,69,70] b238_0 (λj=>st238_0 b a e ((d - 128:Nat):Int) (rep out e j) j) (d - 128) (λj hj=>by
  have hinc:=Ar (j:=j) (n:=1000) (by omega) (by omega);have hrl:=Ib out e j;simp only[rep];have hdd:d - 128<=100:=by omega
  generalize rep out e j=o at*;generalize d - 128=dd at*;obtain⟨q,hq⟩: ∃q,q=o.length - e:=⟨_,rfl⟩;rw[<-hq];have w2:IntKind.wrap .i64 ((o.length:Int) - e)=(q:Int):=by rw[AC (by omega) (by omega)];omega
  obtain⟨x,y1,hx,hx',hxd⟩:=AK o (j:=q) (by omega);rw[hxd];have g1:o.length+1<=35184372088832:=by omega
  simp[b238_0,  hj,w2,y1,hx',g1,hinc];simp[enc]) (by simp[b238_0])
theorem Oa [PKI] (b:LI) (hb:byt b):sG 238 [.v (.im 1 (enc fU b))]=some ⟨[.v (.own 1 (enc fU ((Bl b).getD []))),.v (.sc (.bool (Bl b).isSome))],[],[]⟩:=by
 have hbl:=hb.1;obtain⟨hok,hno⟩:= @Qq G PK md 10000000 [0,4,5] b238_1 _ (st238_1 b) (λs=>decide (s.1<b.length)) (spG b) (λs=>s.1<=b.length/\s.2.length<=100*s.1) (λs=>b.length - s.1) (λs=>s.m=0/\Aw s.tm 2= .nil 1/\Aw s.tm 3= .sc (.bool false)/\AN s.ob 90000000= .none) (λs s' hi hg hf=>by
   obtain⟨a,out⟩:=s;simp only[decide_eq_true_iff]at hi hg;obtain⟨x,y1,hx,hx',hxd⟩:=AK b hg;have hxb:=hb.2 x (List.mem_of_getElem? hx);have e1:=BF x 1 127;have w0:IntKind.wrap .i64 x=x:=AC (by omega) (by omega);have g1:out.length+1<=35184372088832:=by omega
   obtain⟨q,hq⟩: ∃q,q=a+1:=⟨_,rfl⟩;have w1:IntKind.wrap .i64 ((a:Int)+1)=(q:Int):=by rw[AC (by omega) (by omega)];omega
   have w2:IntKind.wrap .i64 ((q:Int)+1)=(a:Int)+2:=by rw[AC (by omega) (by omega)];omega
   unfold spG at hf;simp only[hxd]at hf;by_cases h1:1<=x/\x<=127
   ·rw[if_pos h1,Option.some.injEq]at hf;subst hf;have i1:inB x 1 127=true:=AP.2 h1;rw[i1]at e1;refine⟨⟨by simp only;omega,by simp only[List.length_append,List.length_cons,List.length_nil];omega⟩,by simp only;omega,?_⟩;simp[b238_1,  hg,hx',w0,e1,w1,g1];refine⟨by omega,?_⟩;simp[enc]
   rw[if_neg h1]at hf;have i1:inB x 1 127=false:=by
    cases h:inB x 1 127
    ·rfl
    ·exact absurd (AP.1 h) h1
   rw[i1]at e1;by_cases h2:b.length<=a+1
   ·rw[if_pos h2]at hf;cases hf
   rw[if_neg h2]at hf;have h2q: ¬q=b.length:=by omega
   have h2i: ¬ (q:Int)=b.length:=by omega
   have h2b:((q:Int)==(b.length:Int))=false:=beq_eq_false_iff_ne.2 h2i;obtain⟨y,y2,hy,hy',hyd⟩:=AK b (j:=q) (by omega);have hyb:=hb.2 y (List.mem_of_getElem? hy);rw[<-hq]at hf;simp only[hyd]at hf;have w3:IntKind.wrap .i64 y=y:=AC (by omega) (by omega);have e2:=BF x 131 228;have e3:=BF y 1 127;by_cases h3:x=0
   ·rw[if_pos h3]at hf;by_cases h4:y≠0/\y<128
    ·rw[if_pos h4]at hf;cases hf
    rw[if_neg h4,Option.some.injEq]at hf;subst hf;have i3:inB y 1 127=false:=by
     cases h:inB y 1 127
     ·rfl
     ·have:=AP.1 h;omega
    rw[i3]at e3;refine⟨⟨by simp only;omega,by simp only[List.length_append,List.length_cons,List.length_nil];omega⟩,by simp only;omega,?_⟩;simp[b238_1,  hg,hx',w0,e1,w1,w2,h2q,h2i,h2b,y2,hy',w3,e3,eq_true h3,g1];simp[enc]
   rw[if_neg h3]at hf;by_cases h4:131<=x/\x<=228/\1<=y/\y<=out.length
   case neg=>rw[if_neg h4]at hf;cases hf
   rw[if_pos h4,Option.some.injEq]at hf;have i2:inB x 131 228=true:=AP.2 (by omega);rw[i2]at e2;have h3b:(x != 0)=true:=by simp[h3]
   obtain⟨d,rfl⟩: ∃d:Nat,x=(d:Int):=⟨x.toNat,by omega⟩;obtain⟨e,rfl⟩: ∃e:Nat,y=(e:Int):=⟨y.toNat,by omega⟩;have ht:((d:Int) - 128).toNat=d - 128:=by omega
   simp only[Int.toNat_natCast,ht]at hf;have hlp:=TR b (q:Int) d e out (by omega) (by omega) (by omega);have hrl:=Ib out e (d - 128);have w5:IntKind.wrap .i64 ((d:Int) - 128)=((d - 128:Nat):Int):=by rw[AC (by omega) (by omega)];omega
   have hd0: ¬ (d:Int)=0:=h3;have hd0': ¬d=0:=by omega
   have he1: ¬ (e:Int)<1:=by omega
   have he2: ¬out.length<e:=by omega
   subst hf;refine⟨⟨by simp only;omega,by simp only;omega⟩,by simp only;omega,?_⟩;generalize rep out e (d - 128)=o at*;generalize d - 128=dd at*;simp[b238_1,  hg,hx',w0,e1,w1,h2q,h2i,h2b,y2,hy',w3,w5,hd0,hd0',h3b,e2,he1,he2];rw[hlp]
   ·simp[b238_0,  w2]
   ·simp
   ·simp) (λs hi hg hf=>by
   obtain⟨a,out⟩:=s;simp only[decide_eq_true_iff]at hi hg;obtain⟨x,y1,hx,hx',hxd⟩:=AK b hg;have hxb:=hb.2 x (List.mem_of_getElem? hx);have e1:=BF x 1 127;have w0:IntKind.wrap .i64 x=x:=AC (by omega) (by omega);obtain⟨q,hq⟩: ∃q,q=a+1:=⟨_,rfl⟩;have w1:IntKind.wrap .i64 ((a:Int)+1)=(q:Int):=by rw[AC (by omega) (by omega)];omega
   unfold spG at hf;simp only[hxd]at hf;by_cases h1:1<=x/\x<=127
   ·rw[if_pos h1]at hf;cases hf
   rw[if_neg h1]at hf;have i1:inB x 1 127=false:=by
    cases h:inB x 1 127
    ·rfl
    ·exact absurd (AP.1 h) h1
   rw[i1]at e1;refine⟨by simp only;omega,?_⟩;by_cases h2:b.length<=a+1
   ·have h2i:(q:Int)=b.length:=by omega
    have h2b:((q:Int)==(b.length:Int))=true:=beq_iff_eq.2 h2i;simp[b238_1,  hg,hx',w0,e1,w1,eq_true h2i,h2b]
   rw[if_neg h2]at hf;have h2q: ¬q=b.length:=by omega
   have h2i: ¬ (q:Int)=b.length:=by omega
   have h2b:((q:Int)==(b.length:Int))=false:=beq_eq_false_iff_ne.2 h2i;obtain⟨y,y2,hy,hy',hyd⟩:=AK b (j:=q) (by omega);have hyb:=hb.2 y (List.mem_of_getElem? hy);rw[<-hq]at hf;simp only[hyd]at hf;have w3:IntKind.wrap .i64 y=y:=AC (by omega) (by omega);have e2:=BF x 131 228;have e3:=BF y 1 127;by_cases h3:x=0
   ·rw[if_pos h3]at hf;by_cases h4:y≠0/\y<128
    ·have i3:inB y 1 127=true:=AP.2 (by omega);rw[i3]at e3;simp[b238_1,  hg,hx',w0,e1,w1,h2q,h2i,h2b,y2,hy',w3,e3,eq_true h3]
    ·rw[if_neg h4]at hf;cases hf
   rw[if_neg h3]at hf;have h3b:(x != 0)=true:=by simp[h3]
   by_cases h4:131<=x/\x<=228
   case neg=>
    have i2:inB x 131 228=false:=by
     cases h:inB x 131 228
     ·rfl
     ·exact absurd (AP.1 h) h4
    rw[i2]at e2;simp[b238_1,  hg,hx',w0,e1,w1,h2q,h2i,h2b,h3b,e2]
   have i2:inB x 131 228=true:=AP.2 h4;rw[i2]at e2;by_cases h5:1<=y/\y<=out.length
   ·rw[if_pos ⟨h4.1,h4.2,h5.1,h5.2⟩]at hf;cases hf
   by_cases h6:y<1
   ·simp[b238_1,  hg,hx',w0,e1,w1,h2q,h2i,h2b,y2,hy',w3,h3,h3b,e2,h6]
   ·obtain⟨e,rfl⟩: ∃e:Nat,y=(e:Int):=⟨y.toNat,by omega⟩;have h7:out.length<e:=by omega
    simp[b238_1,  hg,hx',w0,e1,w1,h2q,h2i,h2b,y2,hy',w3,h3,h3b,e2,h6,h7]) (λs hi hg=>by
   have hg': ¬s.1<b.length:=by simpa using hg
   simp[b238_1,  hg']) b.length (0,[]) ⟨by simp,by simp⟩ (by simp)
 rw[U1]
 cases hw:wo (λs=>decide (s.1<b.length)) (spG b) b.length (0,[])with
 |none=>
  obtain⟨bad,⟨hm,ho1,ho3,ho4⟩,hs⟩:=hno hw;refine sK p238 ?_;simp[p238];rw[hs]
  ·simp[hm,ho1,ho3,ho4]
  ·simp
  ·simp
 |some r=>
  obtain⟨hi,hg,hs⟩:=hok r hw;have hg': ¬r.1<b.length:=by simpa using hg
  by_cases h3:3000<r.2.length
  ·refine sK p238 ?_;simp[p238];rw[hs]
   ·have h4:(3000:Int)<r.2.length:=by omega
    simp[b238_1,  hg',h3,h4]
   ·simp
   ·simp
  ·refine sK p238 ?_;simp[p238];rw[hs]
   ·have h4: ¬ (3000:Int)<r.2.length:=by omega
    simp[b238_1,  hg',h3,h4]
   ·simp
   ·simp
end Go.Proofs.YtghgecpicnfgpaaGreat.Ow
