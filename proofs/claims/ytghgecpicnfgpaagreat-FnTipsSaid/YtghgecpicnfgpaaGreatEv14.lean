/- Functions evaluated on the small machine: Spreading: what the reference makes, Messages read: what the reference finds. -/
import Derived.Test.YtghgecpicnfgpaaGreatEv13
namespace Go.Proofs.YtghgecpicnfgpaaGreat.Ow
open Go
set_option linter.unusedVariables false
set_option linter.unusedSimpArgs false
set_option maxHeartbeats 8000000
def rep (out:LI) (e:Nat):Nat->LI
 |0=>out
 |j+1=>rep out e j++[(rep out e j).getD ((rep out e j).length - e) 0]
theorem Ib (out:LI) (e:Nat): ∀j,(rep out e j).length=out.length+j
 |0=>rfl
 |j+1=>by simp only[rep,List.length_append,List.length_cons,List.length_nil,Ib out e j];omega
def spF (b:LI) (s:Nat×LI):Option (Nat×LI):=
 if 1<=b.getD s.1 0/\b.getD s.1 0<=127 then some (s.1+1,s.2++[b.getD s.1 0])
 else if b.length<=s.1+1 then none
 else if b.getD s.1 0=0 then(if b.getD (s.1+1) 0≠0/\b.getD (s.1+1) 0<128 then none else some (s.1+2,s.2++[b.getD (s.1+1) 0]))
 else if 131<=b.getD s.1 0/\b.getD s.1 0<=228/\1<=b.getD (s.1+1) 0/\b.getD (s.1+1) 0<=s.2.length then
  (if 3000<(rep s.2 (b.getD (s.1+1) 0).toNat (b.getD s.1 0 - 128).toNat).length then none else some (s.1+2,rep s.2 (b.getD (s.1+1) 0).toNat (b.getD s.1 0 - 128).toNat))
 else none
def Bl (b:LI):Option LI:=
 match wo (λs=>decide (s.1<b.length)) (spF b) b.length (0,[])with
 |some r=>if 3000<r.2.length then none else some r.2
 |none=>none
@[simp] def st274_1 (b:LI) (s:Nat×LI):St:={n:=96,m:=0,tm:=[(0,.im 1 (enc fU b)),(4,.ref 10000000 []),(5,.ref 10000001 []),(6,.sc (I6 s.1))],ob:=[(10000000,.arr 1 []),(10000001,.arr 1 (enc fU s.2))]}
@[simp] def st274_0 (b:LI) (a d e:Int) (out:LI) (j:Nat):St:={n:=96,m:=0,tm:=[(0,.im 1 (enc fU b)),(4,.ref 10000200 []),(5,.ref 10000201 []),(6,.sc (I6 a)),(7,.sc (I6 d)),(8,.sc (I6 e)),(9,.sc (I6 j))],ob:=[(10000200,.arr 1 []),(10000201,.arr 1 (enc fU out))]}
theorem Px [PKI] (b:LI) (a:Int) (d e:Nat) (out:LI) (hd:131<=d/\d<=228) (he:1<=e/\e<=out.length) (hl:out.length<=2000000):
  ∀ (s:St),s.m<=10000200->Aa 10000200 [0,4,5,6,7,8,9] s=st274_0 b a d e out 0->A6 G PK md 10000200 [0,4,5,6,7,8,9] b274_0 s=xG b274_0 (st274_0 b a d e (rep out e (d - 128)) (d - 128)):=
 @lok _ 10000200 [0,4,5,6,7,8,9] b274_0 (λj=>st274_0 b a d e (rep out e j) j) (d - 128) (λj hj=>by
  have w1:IntKind.wrap .i64 ((d:Int) - 128)=(d:Int) - 128:=AC (by omega) (by omega);have hlt:(j:Int)<(d:Int) - 128:=by omega
  have hinc:=Ar (j:=j) (n:=1000) (by omega) (by omega);have hrl:=Ib out e j;simp only[rep];generalize rep out e j=o at*;obtain⟨q,hq⟩: ∃q,q=o.length - e:=⟨_,rfl⟩;rw[<-hq];have w2:IntKind.wrap .i64 ((o.length:Int) - e)=(q:Int):=by rw[AC (by omega) (by omega)];omega
  obtain⟨x,y1,hx,hx',hxd⟩:=AK o (j:=q) (by omega);rw[hxd];have g1:o.length+1<=35184372088832:=by omega
  simp[b274_0,  w1,hlt,w2,y1,hx',g1,hinc];simp[enc]) (by
  have w1:IntKind.wrap .i64 ((d:Int) - 128)=(d:Int) - 128:=AC (by omega) (by omega);have hlt: ¬ ((d - 128:Nat):Int)<(d:Int) - 128:=by omega
  obtain⟨q,hq⟩: ∃q,q=d - 128:=⟨_,rfl⟩;rw[<-hq]at hlt ⊢;simp[b274_0,  w1,hlt])
theorem OK [PKI] (b:LI) (hb:byt b):sG 274 [.v (.im 1 (enc fU b))]=some ⟨[.v (.own 1 (enc fU ((Bl b).getD []))),.v (.sc (.bool (Bl b).isSome))],[],[]⟩:=by
 refine sK p274 ?_;have hbl:=hb.1;obtain⟨hok,hno⟩:= @Qq G PK md 10000000 [0,4,5,6] b274_1 _ (st274_1 b) (λs=>decide (s.1<b.length)) (spF b) (λs=>s.1<=b.length/\s.2.length<=3000+s.1) (λs=>b.length - s.1) (λs=>s.m=0/\ ∃o,Aw s.tm 2= .ref o []/\AN s.ob o= .arr 1 []/\Aw s.tm 3= .sc (.bool false)) (λs s' hi hg hf=>by
   obtain⟨a,out⟩:=s;simp only[decide_eq_true_iff]at hi hg;obtain⟨x,y1,hx,hx',hxd⟩:=AK b hg;have hxb:=hb.2 x (List.mem_of_getElem? hx);have e1:=Ao x 1 127;have w0:IntKind.wrap .i64 x=x:=AC (by omega) (by omega);have w1:IntKind.wrap .i64 ((a:Int)+1)=(a:Int)+1:=AC (by omega) (by omega);have w2:IntKind.wrap .i64 ((a:Int)+2)=(a:Int)+2:=AC (by omega) (by omega);have g1:out.length+1<=35184372088832:=by omega
   unfold spF at hf;simp only[hxd]at hf;by_cases h1:1<=x/\x<=127
   ·rw[if_pos h1,Option.some.injEq]at hf;subst hf;have i1:inB x 1 127=true:=AP.2 h1;rw[i1]at e1;refine⟨⟨by simp only;omega,by simp only[List.length_append,List.length_cons,List.length_nil];omega⟩,by simp only;omega,?_⟩;simp[b274_1,  hg,hx',w0,e1,w1,g1];simp[enc]
   rw[if_neg h1]at hf;have i1:inB x 1 127=false:=by
    cases h:inB x 1 127
    ·rfl
    ·exact absurd (AP.1 h) h1
   rw[i1]at e1;by_cases h2:b.length<=a+1
   ·rw[if_pos h2]at hf;cases hf
   rw[if_neg h2]at hf;have h2': ¬ (b.length:Int)<=(a:Int)+1:=by omega
   obtain⟨q,hq⟩: ∃q,q=a+1:=⟨_,rfl⟩;have w1':IntKind.wrap .i64 ((a:Int)+1)=(q:Int):=by rw[w1];omega
   have h2q: ¬ (b.length:Int)<=(q:Int):=by omega
   obtain⟨y,y2,hy,hy',hyd⟩:=AK b (j:=q) (by omega);have hyb:=hb.2 y (List.mem_of_getElem? hy);rw[<-hq]at hf;simp only[hyd]at hf;have w3:IntKind.wrap .i64 y=y:=AC (by omega) (by omega);have w4:IntKind.wrap .u8 y=y:=by rw[Fs];omega
   have e2:=Ao x 131 228;have e3:=Ao y 1 out.length;by_cases h3:x=0
   ·rw[if_pos h3]at hf;by_cases h4:y≠0/\y<128
    ·rw[if_pos h4]at hf;cases hf
    rw[if_neg h4,Option.some.injEq]at hf;subst hf;refine⟨⟨by simp only;omega,by simp only[List.length_append,List.length_cons,List.length_nil];omega⟩,by simp only;omega,?_⟩;by_cases h5:y=0
    ·simp[b274_1,  hg,hx',w0,e1,w1',w2,h2q,y2,hy',w3,w4,eq_true h3,eq_true h5,g1];simp[enc]
    ·have h6: ¬y<128:=by omega
     simp[b274_1,  hg,hx',w0,e1,w1',w2,h2q,y2,hy',w3,w4,eq_true h3,h5,h6,g1];simp[enc]
   rw[if_neg h3]at hf;by_cases h4:131<=x/\x<=228/\1<=y/\y<=out.length
   case neg=>rw[if_neg h4]at hf;cases hf
   rw[if_pos h4]at hf;have i2:inB x 131 228=true:=AP.2 (by omega);have i3:inB y 1 out.length=true:=AP.2 (by omega);rw[i2]at e2;rw[i3]at e3;obtain⟨d,rfl⟩: ∃d:Nat,x=(d:Int):=⟨x.toNat,by omega⟩;obtain⟨e,rfl⟩: ∃e:Nat,y=(e:Int):=⟨y.toNat,by omega⟩;have ht:((d:Int) - 128).toNat=d - 128:=by omega
   simp only[Int.toNat_natCast,ht]at hf;have hlp:=Px b ((a:Int)+2) d e out (by omega) (by omega) (by omega);have hrl:=Ib out e (d - 128);have hdd: ¬ ((d - 128:Nat):Int)<(d:Int) - 128:=by omega
   have w5:IntKind.wrap .i64 ((d:Int) - 128)=(d:Int) - 128:=AC (by omega) (by omega);have hd0: ¬ (d:Int)=0:=h3;have hd0': ¬d=0:=by omega
   generalize rep out e (d - 128)=o at*;generalize d - 128=dd at*;by_cases h5:3000<o.length
   ·rw[if_pos h5]at hf;cases hf
   rw[if_neg h5,Option.some.injEq]at hf;subst hf;have h6: ¬ (3000:Int)<o.length:=by omega
   refine⟨⟨by simp only;omega,by simp only;omega⟩,by simp only;omega,?_⟩;simp[b274_1,  hg,hx',w0,e1,w1',w2,h2q,y2,hy',w3,w4,hd0,hd0',e2,e3];rw[hlp]
   ·simp[b274_0,  w5,hdd,h5,h6]
   ·simp
   ·simp) (λs hi hg hf=>by
   obtain⟨a,out⟩:=s;simp only[decide_eq_true_iff]at hi hg;obtain⟨x,y1,hx,hx',hxd⟩:=AK b hg;have hxb:=hb.2 x (List.mem_of_getElem? hx);have e1:=Ao x 1 127;have w0:IntKind.wrap .i64 x=x:=AC (by omega) (by omega);have w1:IntKind.wrap .i64 ((a:Int)+1)=(a:Int)+1:=AC (by omega) (by omega);have w2:IntKind.wrap .i64 ((a:Int)+2)=(a:Int)+2:=AC (by omega) (by omega);unfold spF at hf;simp only[hxd]at hf;by_cases h1:1<=x/\x<=127
   ·rw[if_pos h1]at hf;cases hf
   rw[if_neg h1]at hf;have i1:inB x 1 127=false:=by
    cases h:inB x 1 127
    ·rfl
    ·exact absurd (AP.1 h) h1
   rw[i1]at e1;refine⟨by simp only;omega,?_⟩;by_cases h2:b.length<=a+1
   ·have h2':(b.length:Int)<=(a:Int)+1:=by omega
    simp[b274_1,  hg,hx',w0,e1,w1,h2']
   rw[if_neg h2]at hf;have h2': ¬ (b.length:Int)<=(a:Int)+1:=by omega
   obtain⟨q,hq⟩: ∃q,q=a+1:=⟨_,rfl⟩;have w1':IntKind.wrap .i64 ((a:Int)+1)=(q:Int):=by rw[w1];omega
   have h2q: ¬ (b.length:Int)<=(q:Int):=by omega
   obtain⟨y,y2,hy,hy',hyd⟩:=AK b (j:=q) (by omega);have hyb:=hb.2 y (List.mem_of_getElem? hy);rw[<-hq]at hf;simp only[hyd]at hf;have w3:IntKind.wrap .i64 y=y:=AC (by omega) (by omega);have e2:=Ao x 131 228;have e3:=Ao y 1 out.length;by_cases h3:x=0
   ·rw[if_pos h3]at hf;by_cases h4:y≠0/\y<128
    ·simp[b274_1,  hg,hx',w0,e1,w1',w2,h2q,y2,hy',w3,eq_true h3,h4.1,h4.2]
    ·rw[if_neg h4]at hf;cases hf
   rw[if_neg h3]at hf;by_cases h4:131<=x/\x<=228
   case neg=>
    have i2:inB x 131 228=false:=by
     cases h:inB x 131 228
     ·rfl
     ·exact absurd (AP.1 h) h4
    rw[i2]at e2;simp[b274_1,  hg,hx',w0,e1,w1',w2,h2q,y2,hy',w3,h3,e2]
   have i2:inB x 131 228=true:=AP.2 h4;rw[i2]at e2;by_cases h5:1<=y/\y<=out.length
   case neg=>
    have i3:inB y 1 out.length=false:=by
     cases h:inB y 1 out.length
     ·rfl
     ·exact absurd (AP.1 h) h5
    rw[i3]at e3;simp[b274_1,  hg,hx',w0,e1,w1',w2,h2q,y2,hy',w3,h3,e2,e3]
   have i3:inB y 1 out.length=true:=AP.2 h5;rw[i3]at e3;rw[if_pos ⟨h4.1,h4.2,h5.1,h5.2⟩]at hf;obtain⟨d,rfl⟩: ∃d:Nat,x=(d:Int):=⟨x.toNat,by omega⟩;obtain⟨e,rfl⟩: ∃e:Nat,y=(e:Int):=⟨y.toNat,by omega⟩;have ht:((d:Int) - 128).toNat=d - 128:=by omega
   simp only[Int.toNat_natCast,ht]at hf;have hlp:=Px b ((a:Int)+2) d e out (by omega) (by omega) (by omega);have hdd: ¬ ((d - 128:Nat):Int)<(d:Int) - 128:=by omega
   have w5:IntKind.wrap .i64 ((d:Int) - 128)=(d:Int) - 128:=AC (by omega) (by omega);have hd0: ¬ (d:Int)=0:=h3;have hd0': ¬d=0:=by omega
   generalize rep out e (d - 128)=o at*;generalize d - 128=dd at*;by_cases h6:3000<o.length
   case neg=>rw[if_neg h6]at hf;cases hf
   have h7:(3000:Int)<o.length:=by omega
   simp[b274_1,  hg,hx',w0,e1,w1',w2,h2q,y2,hy',w3,hd0,hd0',e2,e3];rw[hlp]
   ·simp[b274_0,  w5,hdd,h6,h7]
   ·simp
   ·simp) (λs hi hg=>by
   have hg': ¬s.1<b.length:=by simpa using hg
   simp[b274_1,  hg']) b.length (0,[]) ⟨by simp,by simp⟩ (by simp)
 unfold Bl
 cases hw:wo (λs=>decide (s.1<b.length)) (spF b) b.length (0,[])with
 |none=>
  obtain⟨bad,⟨hm,o,ho1,ho2,ho3⟩,hs⟩:=hno hw;simp[p274];rw[hs]
  ·simp[hm,ho1,ho2,ho3]
  ·simp
  ·simp
 |some r=>
  obtain⟨hi,hg,hs⟩:=hok r hw;have hg': ¬r.1<b.length:=by simpa using hg
  simp[p274];rw[hs]
  ·by_cases h3:3000<r.2.length
   ·have h4:(3000:Int)<r.2.length:=by omega
    simp[b274_1,  hg',h3,h4]
   ·have h4: ¬ (3000:Int)<r.2.length:=by omega
    simp[b274_1,  hg',h3,h4]
  ·simp
  ·simp
def Fq (b:LI) (a n:Nat):LI:=(b.take (a+n)).drop a
def zMs:A2:=⟨0,0,0,0,[]⟩
structure Rd where
 k:Int
 c:Int
 v:Int
 w:Int
 g:LI
 ok:Bool
def rdG (z:Bool) (b:LI) (c:Nat×Bool):A2×Bool:=
 let k1:=num z b c
 let k2:=num z b k1.2
 let k3:=num z b k2.2
 let k4:=num z b k3.2
 let k5:=num z b k4.2
 let r:=itn z b k5.2 k5.1.toNat
 (⟨k1.1,k2.1,k3.1,k4.1,r.2⟩,r.1.2)
def Qa (b:LI) (a:Nat):Bool:=(num false b (a,true)).2.2&&decide ((num false b (a,true)).1<=(b.length:Int) - (num false b (a,true)).2.1 - 4)
def Nw (b:LI) (a:Nat) (m:A2):Bool:=decide (0<(Av m).length)&&decide ((Av m).length<=b.length - a)&&decide (Av m=Fq b a (Av m).length)
def Da (b:LI) (a:Nat):Option (A2×Nat):=
 if Qa b a&&(rdG false b (num false b (a,true)).2).2&&Nw b a (rdG false b (num false b (a,true)).2).1 then some ((rdG false b (num false b (a,true)).2).1,a+(Av (rdG false b (num false b (a,true)).2).1).length)else none
@[simp] def st249 (b:LI) (a:Nat) (k c v w:Int) (N:Nat) (r:(Nat×Bool)×LI) (j:Nat):St:=
 if j=0 then {n:=112,m:=0,tm:=[(0,.im 1 (enc fU b)),(1,.sc (I6 a)),(4,.pb 10000000 0),(7,.pb 10000001 0),(9,.pb 10000002 0),(10,.sc (I6 N)),(11,.sc (I6 j))],ob:=[(10000000,.box [.sc (I6 0),.sc (I6 0),.sc (I6 0),.sc (I6 0),.nil 1]),(10000001,.box [.im 1 (enc fU b),.sc (I6 r.1.1),.sc (.bool r.1.2)]),(10000002,.box [.sc (I6 k),.sc (I6 c),.sc (I6 v),.sc (I6 w),.nil 1])]}
 else {n:=112,m:=0,tm:=[(0,.im 1 (enc fU b)),(1,.sc (I6 a)),(4,.pb 10000000 0),(7,.pb 10000001 0),(9,.pb 10000002 0),(10,.sc (I6 N)),(11,.sc (I6 j))],ob:=[(10000000,.box [.sc (I6 0),.sc (I6 0),.sc (I6 0),.sc (I6 0),.nil 1]),(10000001,.box [.im 1 (enc fU b),.sc (I6 r.1.1),.sc (.bool r.1.2)]),(10000002,.box [.sc (I6 k),.sc (I6 c),.sc (I6 v),.sc (I6 w),.ref 10000003 []]),(10000003,.arr 1 (enc fI r.2))]}
theorem Ld {b:LI} (hb:byt b) (c:Nat×Bool) (hc:c.1<=b.length):(num false b c).2.1<=b.length/\0<=(num false b c).1/\(num false b c).1<=2147483647:=by
 have h1:=(FX (z:=false) c hc).1;have h2:=Ql (z:=false) hb c (by have:=hb.1;omega);exact⟨h1,h2.1,h2.2.1⟩
theorem JI [PKI] (b:LI) (a:Nat) (hb:byt b) (ha:a<=b.length) (hb1:b.length<=1000000):sG 249 [.v (.im 1 (enc fU b)),.v (.sc (I6 a))]=some ⟨[.a (AA (fMs (((Da b a).map Prod.fst).getD zMs))),.v (.sc (I6 (((Da b a).map Prod.snd).getD 0:Nat))),.v (.sc (.bool (Da b a).isSome))],[],[]⟩:=by
 refine sK p249 ?_;have hbl:=hb.1;have e0:=DI b (a,true) hb (by simp only;omega);obtain⟨a1,b1,c1⟩:=Ld hb (a,true) ha;unfold Da Qa rdG;generalize num false b (a,true)=k0 at*;obtain⟨sz,p0,ok0⟩:=k0;simp only[crs]at e0 a1 b1 c1 ⊢
 cases ok0
 ·simp[p249,  e0,zMs]
 have w1:IntKind.wrap .i64 ((b.length:Int) - p0)=b.length - p0:=AC (by omega) (by omega);have w2:IntKind.wrap .i64 ((b.length:Int) - p0 - 4)=b.length - p0 - 4:=AC (by omega) (by omega);by_cases hsz:sz<=(b.length:Int) - p0 - 4
 case neg=>
  have hsz':(b.length:Int) - p0 - 4<sz:=by omega
  simp[p249,  e0,w1,w2,hsz,hsz',zMs]
 have hsz': ¬ (b.length:Int) - p0 - 4<sz:=by omega
 have e1:=DI b (p0,true) hb (by simp only;omega);obtain⟨a2,b2,c2⟩:=Ld hb (p0,true) a1;generalize num false b (p0,true)=k1 at*;obtain⟨n1,d1⟩:=k1;have e2:=DI b d1 hb (by simp only at a2;omega);obtain⟨a3,b3,c3⟩:=Ld hb d1 a2;simp only at e1 a2 b2 c2 e2 a3 b3 c3 ⊢;generalize num false b d1=k2 at*;obtain⟨n2,d2⟩:=k2;have e3:=DI b d2 hb (by simp only at a3;omega);obtain⟨a4,b4,c4⟩:=Ld hb d2 a3;simp only at e2 a3 b3 c3 e3 a4 b4 c4 ⊢;generalize num false b d2=k3 at*;obtain⟨n3,d3⟩:=k3;have e4:=DI b d3 hb (by simp only at a4;omega);obtain⟨a5,b5,c5⟩:=Ld hb d3 a4;simp only at e3 a4 b4 c4 e4 a5 b5 c5 ⊢;generalize num false b d3=k4 at*;obtain⟨n4,d4⟩:=k4;have e5:=DI b d4 hb (by simp only at a5;omega);obtain⟨a6,b6,c6⟩:=Ld hb d4 a5;simp only at e4 a5 b5 c5 e5 a6 b6 c6 ⊢;generalize num false b d4=k5 at*;obtain⟨n5,d5⟩:=k5;simp only at e5 a6 b6 c6 ⊢;obtain⟨N,rfl⟩: ∃N:Nat,n5=(N:Int):=⟨n5.toNat,by omega⟩;simp only[Int.toNat_natCast];obtain⟨q1,q2,q3⟩:=Km (z:=false) (b:=b) (c:=d5) a6 N;obtain⟨k,hk,hp,hkn⟩:=first (λj=>(itn false b d5 j).1.2=true) N;have hfin:itn false b d5 N=itn false b d5 k:=by
  rcases hkn with rfl|⟨hlt,hn⟩
  ·rfl
  ·rw[show N=k+(N - k)by omega];exact Ik (by simpa using hn) _
 have hs:= @lok _ 10000000 [0,1,4,7,9,10,11] b249_0 (λj=>st249 b a n1 n2 n3 n4 N (itn false b d5 j) j) k (λj hj=>by
  have hok:=hp j hj;obtain⟨i1,i2,i3⟩:=Km (z:=false) (b:=b) (c:=d5) a6 j;have hnx:itn false b d5 (j+1)=((num false b (itn false b d5 j).1).2,(itn false b d5 j).2++[(num false b (itn false b d5 j).1).1]):=by simp only[itn];rw[if_pos hok]
  have e:=DI b (itn false b d5 j).1 hb (by omega);have hz:j=0->(itn false b d5 j).2=[]:=λh=>by subst h;rfl
  simp only[crs]at e;rw[hnx];generalize (num false b (itn false b d5 j).1).2=g1 at e ⊢;generalize (num false b (itn false b d5 j).1).1=g2 at e ⊢;generalize itn false b d5 j=r at*;obtain⟨⟨u,ok⟩,l⟩:=r;simp only at hok e i3 hz;subst hok;have hap:enc fI l++[[T.sc (I6 g2)]]=enc fI (l++[g2]):=by simp[enc]
  have hlt:j<N:=by omega
  have hlen:(l.length+1)*8<=35184372088832:=by omega
  have hinc:IntKind.wrap .i64 ((j:Int)+1)=((j+1:Nat):Int):=by rw[AC (by omega) (by omega)];rfl
  by_cases h0:j=0
  ·have hl:=hz h0;subst h0;subst hl;simp at hinc hlt;simp[b249_0,  hlt,e,hinc]
  ·simp[b249_0,  hlt,e,hap,hlen,hinc,h0]) (by
  rcases hkn with rfl|⟨hlt,hn⟩
  ·by_cases h0:k=0<;>simp[b249_0,h0]
  ·have hn':(itn false b d5 k).1.2=false:=by simpa using hn
   rcases Nat.eq_zero_or_pos k with h0|h0
   ·subst h0;simp[b249_0,hlt,hn']
   ·have h1: ¬k=0:=by omega
    simp[b249_0,hlt,hn',h1])
 rw[hfin]at q1 q2 q3 ⊢;have hz:k=0->(itn false b d5 k).2=[]:=λh=>by subst h;rfl
 have hkn2:k=N\/k<N/\(itn false b d5 k).1.2=false:=hkn.elim .inl λh=> .inr ⟨h.1,by simpa using h.2⟩
 clear hkn hfin hp;generalize hr:itn false b d5 k=r at*;obtain⟨⟨u,ok⟩,l⟩:=r;simp only at hz q1 q3 hkn2 ⊢;have e7:=DP ⟨n1,n2,n3,n4,l⟩ (by simp only;omega);have wl:=DN ⟨n1,n2,n3,n4,l⟩;have wb:=Eo ⟨n1,n2,n3,n4,l⟩;simp only[AD,lent,fMs]at e7;unfold Nw;generalize Av ⟨n1,n2,n3,n4,l⟩=want at*;have pb:by8 (Fq b a want.length):=λx hx=>hb.2 x (List.mem_of_mem_take (List.mem_of_mem_drop hx))
 have hstr:=S2 wb pb;have w3:IntKind.wrap .i64 ((b.length:Int) - a)=b.length - a:=AC (by omega) (by omega);obtain⟨en,hen⟩: ∃en,en=a+want.length:=⟨_,rfl⟩;have w4:IntKind.wrap .i64 ((a:Int)+want.length)=(en:Int):=by rw[AC (by omega) (by omega)];omega
 have hp2:Fq b a want.length=(b.take en).drop a:=by unfold Fq;rw[hen]
 rw[hp2]at hstr pb ⊢;rw[<-hen];have hae:a<=en:=by omega
 have hi0:(itn false b d5 0)=(d5,[]):=rfl;simp only[crs]at e1 e2 e3 e4 e5;simp[p249,  e0,e1,e2,e3,e4,e5,w1,w2,hsz,hsz'];rw[hs]
 ·cases ok
  ·rcases hkn2 with rfl|⟨hlt,-⟩
   ·rcases Nat.eq_zero_or_pos k with h0|h0
    ·subst h0;have hl:=hz rfl;subst hl;rw[BA]at e7;simp[b249_0,hr,e7,zMs]
    ·have h1: ¬k=0:=by omega
     simp[b249_0,h1,hr,e7,zMs]
   ·rcases Nat.eq_zero_or_pos k with h0|h0
    ·subst h0;have hl:=hz rfl;subst hl;rw[BA]at e7;simp[b249_0,hlt,hr,e7,zMs]
    ·have h1: ¬k=0:=by omega
     simp[b249_0,hlt,h1,hr,e7,zMs]
  ·have hkN:k=N:=hkn2.elim id λh=>by cases h.2
   subst hkN;by_cases h5:want.length=0
   ·rcases Nat.eq_zero_or_pos k with h0|h0
    ·subst h0;have hl:=hz rfl;subst hl;rw[BA]at e7;simp[b249_0,hr,e7,zMs,h5]
    ·have h1: ¬k=0:=by omega
     simp[b249_0,h1,hr,e7,zMs,h5]
   have h5':0<want.length:=by omega
   by_cases h6:want.length<=b.length - a
   case neg=>
    have h6':(b.length:Int) - a<want.length:=by omega
    rcases Nat.eq_zero_or_pos k with h0|h0
    ·subst h0;have hl:=hz rfl;subst hl;rw[BA]at e7;simp[b249_0,hr,e7,zMs,h5,h5',w3,h6,h6']
    ·have h1: ¬k=0:=by omega
     simp[b249_0,h1,hr,e7,zMs,h5,h5',w3,h6,h6']
   have h6': ¬ (b.length:Int) - a<want.length:=by omega
   have hel:en<=b.length:=by omega
   have hbp:CY (List.drop a (List.take en (enc fU b)))=some (u8s ((b.take en).drop a)):=by rw[Ax,CA,Bb]
   generalize (b.take en).drop a=pt at*;by_cases h7:want=pt
   ·have hu:u8s want=u8s pt:=by rw[h7]
    have hs2:(u8s want==u8s pt)=true:=by rw[hu];exact beq_self_eq_true _
    have hu:=eq_true hu;have h7':=eq_true h7;have hbw:=Bb want;rcases Nat.eq_zero_or_pos k with h0|h0
    ·subst h0;have hl:=hz rfl;subst hl;rw[BA]at e7;simp[b249_0,hr,e7,zMs,h5,h5',w3,h6,h6',w4,hae,hel,hbw,hbp,hs2,hu,h7']
    ·have h1: ¬k=0:=by omega
     simp[b249_0,h1,hr,e7,zMs,h5,h5',w3,h6,h6',w4,hae,hel,hbw,hbp,hs2,hu,h7']
   have hu: ¬u8s want=u8s pt:=λe=>h7 (Gw wb pb e)
   have hs2:(u8s want==u8s pt)=false:=by simpa using hu
   have hbw:=Bb want;rcases Nat.eq_zero_or_pos k with h0|h0
   ·subst h0;have hl:=hz rfl;subst hl;rw[BA]at e7;simp[b249_0,hr,e7,zMs,h5,h5',w3,h6,h6',w4,hae,hel,hbw,hbp,hs2,hu,h7]
   ·have h1: ¬k=0:=by omega
    simp[b249_0,h1,hr,e7,zMs,h5,h5',w3,h6,h6',w4,hae,hel,hbw,hbp,hs2,hu,h7]
 ·simp
 ·simp[hi0]
end Go.Proofs.YtghgecpicnfgpaaGreat.Ow
