/- Spreading: what the reference makes. -/
import Derived.Test.YtbolhfegdocpeaaGreatEv16
namespace Go.Proofs.YtbolhfegdocpeaaGreat.Ow
open Go
set_option linter.unusedVariables false
set_option linter.unusedSimpArgs false
set_option maxHeartbeats 8000000
variable {PK:Nat->List Arg->Option Res}
def rep (out:List Int) (e:Nat):Nat->List Int
 |0=>out
 |j+1=>rep out e j++[(rep out e j).getD ((rep out e j).length - e) 0]
theorem N5 (out:List Int) (e:Nat): ∀j,(rep out e j).length=out.length+j
 |0=>rfl
 |j+1=>by simp only[rep,List.length_append,List.length_cons,List.length_nil,N5 out e j];omega
def spF (b:List Int) (s:Nat×List Int):Option (Nat×List Int):=
 if 1<=b.getD s.1 0/\b.getD s.1 0<=127 then some (s.1+1,s.2++[b.getD s.1 0])
 else if b.length<=s.1+1 then none
 else if b.getD s.1 0=0 then(if b.getD (s.1+1) 0≠0/\b.getD (s.1+1) 0<128 then none else some (s.1+2,s.2++[b.getD (s.1+1) 0]))
 else if 131<=b.getD s.1 0/\b.getD s.1 0<=228/\1<=b.getD (s.1+1) 0/\b.getD (s.1+1) 0<=s.2.length then
  (if 3000<(rep s.2 (b.getD (s.1+1) 0).toNat (b.getD s.1 0 - 128).toNat).length then none else some (s.1+2,rep s.2 (b.getD (s.1+1) 0).toNat (b.getD s.1 0 - 128).toNat))
 else none
def CG (b:List Int):Option (List Int):=
 match wo (fun s=>decide (s.1<b.length)) (spF b) b.length (0,[])with
 |some r=>if 3000<r.2.length then none else some r.2
 |none=>none
@[simp] def st241_1 (b:List Int) (s:Nat×List Int):St:={n:=96,m:=0,tm:=[(0,.im 1 (enc fU b)),(4,.ref 10000000 []),(5,.ref 10000001 []),(6,.sc (.int .i64 s.1))],ob:=[(10000000,.arr 1 []),(10000001,.arr 1 (enc fU s.2))]}
@[simp] def st241_0 (b:List Int) (a d e:Int) (out:List Int) (j:Nat):St:={n:=96,m:=0,tm:=[(0,.im 1 (enc fU b)),(4,.ref 10000200 []),(5,.ref 10000201 []),(6,.sc (.int .i64 a)),(7,.sc (.int .i64 d)),(8,.sc (.int .i64 e)),(9,.sc (.int .i64 j))],ob:=[(10000200,.arr 1 []),(10000201,.arr 1 (enc fU out))]}
theorem NM (b:List Int) (a:Int) (d e:Nat) (out:List Int) (hd:131<=d/\d<=228) (he:1<=e/\e<=out.length) (hl:out.length<=2000000):
  ∀ (s:St),s.m<=10000200->Ai 10000200 [0,4,5,6,7,8,9] s=st241_0 b a d e out 0->Ag G PK md 10000200 [0,4,5,6,7,8,9] b241_0 s=An (AH G PK md) (Ag G PK md) md b241_0 (st241_0 b a d e (rep out e (d - 128)) (d - 128)):=
 AL (G:=G) (PK:=PK) (md:=md) (o:=10000200) (live:=[0,4,5,6,7,8,9]) (c:=b241_0) (fun j=>st241_0 b a d e (rep out e j) j) (d - 128) (fun j hj=>by
  have w1:IntKind.wrap .i64 ((d:Int) - 128)=(d:Int) - 128:=AC (by omega) (by omega);have hlt:(j:Int)<(d:Int) - 128:=by omega
  have hinc:=A2 (j:=j) (n:=1000) (by omega) (by omega);have hrl:=N5 out e j;simp only[rep];generalize rep out e j=o at*;obtain⟨q,hq⟩: ∃q,q=o.length - e:=⟨_,rfl⟩;rw[←hq];have w2:IntKind.wrap .i64 ((o.length:Int) - e)=(q:Int):=by rw[AC (by omega) (by omega)];omega
  obtain⟨x,y1,hx,hx',hxd⟩:=AT o (j:=q) (by omega);rw[hxd];have g1:o.length+1<=35184372088832:=by omega
  simp[b241_0,md,w1,hlt,w2,y1,hx',g1,hinc];simp[enc]) (by
  have w1:IntKind.wrap .i64 ((d:Int) - 128)=(d:Int) - 128:=AC (by omega) (by omega);have hlt: ¬ ((d - 128:Nat):Int)<(d:Int) - 128:=by omega
  obtain⟨q,hq⟩: ∃q,q=d - 128:=⟨_,rfl⟩;rw[←hq]at hlt ⊢;simp[b241_0,md,w1,hlt])
theorem L5 (b:List Int) (hb:byt b):AH G PK md 241 [.v (.im 1 (enc fU b))]=some ⟨[.v (.own 1 (enc fU ((CG b).getD []))),.v (.sc (.bool (CG b).isSome))],[],[]⟩:=by
 refine AA (pf:=p241) rfl (by simp[p241]) ?_;have hbl:=hb.1;obtain⟨hok,hno⟩:=loop_wo (G:=G) (PK:=PK) (md:=md) (o:=10000000) (live:=[0,4,5,6]) (c:=b241_1) (st241_1 b) (fun s=>decide (s.1<b.length)) (spF b) (fun s=>s.1<=b.length/\s.2.length<=3000+s.1) (fun s=>b.length - s.1) (fun s=>s.m=0/\ ∃o,At s.tm 2= .ref o []/\AR s.ob o= .arr 1 []/\At s.tm 3= .sc (.bool false)) (fun s s' hi hg hf=>by
   obtain⟨a,out⟩:=s;simp only[decide_eq_true_iff]at hi hg;obtain⟨x,y1,hx,hx',hxd⟩:=AT b hg;have hxb:=hb.2 x (List.mem_of_getElem? hx);have e1:=Aj (PK:=PK) x 1 127;have w0:IntKind.wrap .i64 x=x:=AC (by omega) (by omega);have w1:IntKind.wrap .i64 ((a:Int)+1)=(a:Int)+1:=AC (by omega) (by omega);have w2:IntKind.wrap .i64 ((a:Int)+2)=(a:Int)+2:=AC (by omega) (by omega);have g1:out.length+1<=35184372088832:=by omega
   unfold spF at hf;simp only[hxd]at hf;by_cases h1:1<=x/\x<=127
   ·rw[if_pos h1,Option.some.injEq]at hf;subst hf;have i1:inB x 1 127=true:=Ab.2 h1;rw[i1]at e1;refine⟨⟨by simp only;omega,by simp only[List.length_append,List.length_cons,List.length_nil];omega⟩,by simp only;omega,?_⟩;simp[b241_1,md,hg,hx',w0,e1,w1,g1];simp[enc]
   rw[if_neg h1]at hf;have i1:inB x 1 127=false:=by
    cases h:inB x 1 127
    ·rfl
    ·exact absurd (Ab.1 h) h1
   rw[i1]at e1;by_cases h2:b.length<=a+1
   ·rw[if_pos h2]at hf;cases hf
   rw[if_neg h2]at hf;have h2': ¬ (b.length:Int)<=(a:Int)+1:=by omega
   obtain⟨q,hq⟩: ∃q,q=a+1:=⟨_,rfl⟩;have w1':IntKind.wrap .i64 ((a:Int)+1)=(q:Int):=by rw[w1];omega
   have h2q: ¬ (b.length:Int)<=(q:Int):=by omega
   obtain⟨y,y2,hy,hy',hyd⟩:=AT b (j:=q) (by omega);have hyb:=hb.2 y (List.mem_of_getElem? hy);rw[←hq]at hf;simp only[hyd]at hf;have w3:IntKind.wrap .i64 y=y:=AC (by omega) (by omega);have w4:IntKind.wrap .u8 y=y:=by rw[Fg];omega
   have e2:=Aj (PK:=PK) x 131 228;have e3:=Aj (PK:=PK) y 1 out.length;by_cases h3:x=0
   ·rw[if_pos h3]at hf;by_cases h4:y≠0/\y<128
    ·rw[if_pos h4]at hf;cases hf
    rw[if_neg h4,Option.some.injEq]at hf;subst hf;refine⟨⟨by simp only;omega,by simp only[List.length_append,List.length_cons,List.length_nil];omega⟩,by simp only;omega,?_⟩;by_cases h5:y=0
    ·simp[b241_1,md,hg,hx',w0,e1,w1',w2,h2q,y2,hy',w3,w4,eq_true h3,eq_true h5,g1];simp[enc]
    ·have h6: ¬y<128:=by omega
     simp[b241_1,md,hg,hx',w0,e1,w1',w2,h2q,y2,hy',w3,w4,eq_true h3,h5,h6,g1];simp[enc]
   rw[if_neg h3]at hf;by_cases h4:131<=x/\x<=228/\1<=y/\y<=out.length
   case neg=>rw[if_neg h4]at hf;cases hf
   rw[if_pos h4]at hf;have i2:inB x 131 228=true:=Ab.2 (by omega);have i3:inB y 1 out.length=true:=Ab.2 (by omega);rw[i2]at e2;rw[i3]at e3;obtain⟨d,rfl⟩: ∃d:Nat,x=(d:Int):=⟨x.toNat,by omega⟩;obtain⟨e,rfl⟩: ∃e:Nat,y=(e:Int):=⟨y.toNat,by omega⟩;have ht:((d:Int) - 128).toNat=d - 128:=by omega
   simp only[Int.toNat_natCast,ht]at hf;have hlp:=NM (PK:=PK) b ((a:Int)+2) d e out (by omega) (by omega) (by omega);have hrl:=N5 out e (d - 128);have hdd: ¬ ((d - 128:Nat):Int)<(d:Int) - 128:=by omega
   have w5:IntKind.wrap .i64 ((d:Int) - 128)=(d:Int) - 128:=AC (by omega) (by omega);have hd0: ¬ (d:Int)=0:=h3;have hd0': ¬d=0:=by omega
   generalize rep out e (d - 128)=o at*;generalize d - 128=dd at*;by_cases h5:3000<o.length
   ·rw[if_pos h5]at hf;cases hf
   rw[if_neg h5,Option.some.injEq]at hf;subst hf;have h6: ¬ (3000:Int)<o.length:=by omega
   refine⟨⟨by simp only;omega,by simp only;omega⟩,by simp only;omega,?_⟩;simp[b241_1,md,hg,hx',w0,e1,w1',w2,h2q,y2,hy',w3,w4,hd0,hd0',e2,e3];rw[hlp]
   ·simp[b241_0,md,w5,hdd,h5,h6]
   ·simp
   ·simp) (fun s hi hg hf=>by
   obtain⟨a,out⟩:=s;simp only[decide_eq_true_iff]at hi hg;obtain⟨x,y1,hx,hx',hxd⟩:=AT b hg;have hxb:=hb.2 x (List.mem_of_getElem? hx);have e1:=Aj (PK:=PK) x 1 127;have w0:IntKind.wrap .i64 x=x:=AC (by omega) (by omega);have w1:IntKind.wrap .i64 ((a:Int)+1)=(a:Int)+1:=AC (by omega) (by omega);have w2:IntKind.wrap .i64 ((a:Int)+2)=(a:Int)+2:=AC (by omega) (by omega);unfold spF at hf;simp only[hxd]at hf;by_cases h1:1<=x/\x<=127
   ·rw[if_pos h1]at hf;cases hf
   rw[if_neg h1]at hf;have i1:inB x 1 127=false:=by
    cases h:inB x 1 127
    ·rfl
    ·exact absurd (Ab.1 h) h1
   rw[i1]at e1;refine⟨by simp only;omega,?_⟩;by_cases h2:b.length<=a+1
   ·have h2':(b.length:Int)<=(a:Int)+1:=by omega
    simp[b241_1,md,hg,hx',w0,e1,w1,h2']
   rw[if_neg h2]at hf;have h2': ¬ (b.length:Int)<=(a:Int)+1:=by omega
   obtain⟨q,hq⟩: ∃q,q=a+1:=⟨_,rfl⟩;have w1':IntKind.wrap .i64 ((a:Int)+1)=(q:Int):=by rw[w1];omega
   have h2q: ¬ (b.length:Int)<=(q:Int):=by omega
   obtain⟨y,y2,hy,hy',hyd⟩:=AT b (j:=q) (by omega);have hyb:=hb.2 y (List.mem_of_getElem? hy);rw[←hq]at hf;simp only[hyd]at hf;have w3:IntKind.wrap .i64 y=y:=AC (by omega) (by omega);have e2:=Aj (PK:=PK) x 131 228;have e3:=Aj (PK:=PK) y 1 out.length;by_cases h3:x=0
   ·rw[if_pos h3]at hf;by_cases h4:y≠0/\y<128
    ·simp[b241_1,md,hg,hx',w0,e1,w1',w2,h2q,y2,hy',w3,eq_true h3,h4.1,h4.2]
    ·rw[if_neg h4]at hf;cases hf
   rw[if_neg h3]at hf;by_cases h4:131<=x/\x<=228
   case neg=>
    have i2:inB x 131 228=false:=by
     cases h:inB x 131 228
     ·rfl
     ·exact absurd (Ab.1 h) h4
    rw[i2]at e2;simp[b241_1,md,hg,hx',w0,e1,w1',w2,h2q,y2,hy',w3,h3,e2]
   have i2:inB x 131 228=true:=Ab.2 h4;rw[i2]at e2;by_cases h5:1<=y/\y<=out.length
   case neg=>
    have i3:inB y 1 out.length=false:=by
     cases h:inB y 1 out.length
     ·rfl
     ·exact absurd (Ab.1 h) h5
    rw[i3]at e3;simp[b241_1,md,hg,hx',w0,e1,w1',w2,h2q,y2,hy',w3,h3,e2,e3]
   have i3:inB y 1 out.length=true:=Ab.2 h5;rw[i3]at e3;rw[if_pos ⟨h4.1,h4.2,h5.1,h5.2⟩]at hf;obtain⟨d,rfl⟩: ∃d:Nat,x=(d:Int):=⟨x.toNat,by omega⟩;obtain⟨e,rfl⟩: ∃e:Nat,y=(e:Int):=⟨y.toNat,by omega⟩;have ht:((d:Int) - 128).toNat=d - 128:=by omega
   simp only[Int.toNat_natCast,ht]at hf;have hlp:=NM (PK:=PK) b ((a:Int)+2) d e out (by omega) (by omega) (by omega);have hdd: ¬ ((d - 128:Nat):Int)<(d:Int) - 128:=by omega
   have w5:IntKind.wrap .i64 ((d:Int) - 128)=(d:Int) - 128:=AC (by omega) (by omega);have hd0: ¬ (d:Int)=0:=h3;have hd0': ¬d=0:=by omega
   generalize rep out e (d - 128)=o at*;generalize d - 128=dd at*;by_cases h6:3000<o.length
   case neg=>rw[if_neg h6]at hf;cases hf
   have h7:(3000:Int)<o.length:=by omega
   simp[b241_1,md,hg,hx',w0,e1,w1',w2,h2q,y2,hy',w3,hd0,hd0',e2,e3];rw[hlp]
   ·simp[b241_0,md,w5,hdd,h6,h7]
   ·simp
   ·simp) (fun s hi hg=>by
   have hg': ¬s.1<b.length:=by simpa using hg
   simp[b241_1,md,hg']) b.length (0,[]) ⟨by simp,by simp⟩ (by simp)
 unfold CG
 cases hw:wo (fun s=>decide (s.1<b.length)) (spF b) b.length (0,[])with
 |none=>
  obtain⟨bad,⟨hm,o,ho1,ho2,ho3⟩,hs⟩:=hno hw;simp[p241,md];rw[hs]
  ·simp[hm,ho1,ho2,ho3]
  ·simp
  ·simp
 |some r=>
  obtain⟨hi,hg,hs⟩:=hok r hw;have hg': ¬r.1<b.length:=by simpa using hg
  simp[p241,md];rw[hs]
  ·by_cases h3:3000<r.2.length
   ·have h4:(3000:Int)<r.2.length:=by omega
    simp[b241_1,md,hg',h3,h4]
   ·have h4: ¬ (3000:Int)<r.2.length:=by omega
    simp[b241_1,md,hg',h3,h4]
  ·simp
  ·simp
end Go.Proofs.YtbolhfegdocpeaaGreat.Ow
