/- Functions evaluated on the small machine: Messages read and packed: the program's own way, Two nodes joined: the program's own way. -/
import Derived.Test.YtghgecpicnfgpaaGreatEv24
import Derived.Test.YtghgecpicnfgpaaGreatEv15
import Derived.Test.YtghgecpicnfgpaaGreatEv21
import Derived.Test.YtghgecpicnfgpaaGreatEv11
namespace Go.Proofs.YtghgecpicnfgpaaGreat.Ow
open Go
set_option linter.unusedVariables false
set_option linter.unusedSimpArgs false
set_option maxHeartbeats 32000000
set_option maxRecDepth 100000
theorem Rg (x:Int) (h0:0<=x) (h1:x<256):IntKind.wrap .u8 x=x:=by rw[Fs];omega
theorem WR (n:Int): ∀k j,j<k->(po n k)[j]? =some (IntKind.wrap .u8 ((pn n j).tmod 128+128))
 |k+1,j,h=>by
  simp only[po];rcases Nat.lt_or_ge j k with h1|h1
  ·rw[List.getElem?_append_left (by simpa using h1)];exact WR n k j h1
  ·obtain rfl:j=k:=by omega
   rw[List.getElem?_append_right (by simp)];simp
theorem Ta {n:Int} (h0:0<=n) (h1:n<=2147483647) {b:LI} {a:Nat} (h: ∀i,i<(Ae n).length->b[a+i]? =(Ae n)[i]?):E4 b a=some (n,a+(Ae n).length):=by
 obtain⟨k,hk,hp,hnk,he⟩:=Lf h0 h1;have hl:(Ae n).length=k+1:=by unfold Ae;simp[he]
 rw[hl]at h ⊢;have hbd:=λj=>MS h0 h1 j
 have hget: ∀j,j<k->b[a+j]? =some ((pn n j)%128+128):=λj hj=>by
  rw[h j (by omega)];unfold Ae;rw[he,List.getElem?_append_left (by simpa using hj),WR n k j hj,Int.tmod_eq_emod_of_nonneg (hbd j).1,Rg _ (by omega) (by omega)]
 have hlast:b[a+k]? =some (pn n k):=by
  rw[h k (by omega)];unfold Ae;rw[he,List.getElem?_append_right (by simp)];have:=hbd k;simp[Rg (pn n k) this.1 (by omega)]
 have hgo: ∀j,j<k->Ms b a j=true:=λj hj=>by
  have h2:=hget j hj;have h3:=(List.getElem?_eq_some_iff.1 h2).1;unfold Ms;rw[BP h2];simp;omega
 have hacc: ∀j,j<=k->acc b a j+pn n j*128 ^ j=n:=by
  intro j
  induction j with
  |zero=>intro _;simp[acc,pn]
  |succ j ih=>
   intro hj;have h2:=ih (by omega);have h3:=hget j (by omega);have h4:=hbd j;simp only[acc,pn];rw[BP h3,Int.tmod_eq_emod_of_nonneg (by omega),Int.tdiv_eq_ediv_of_nonneg h4.1,show (pn n j%128+128)%128=pn n j%128 by omega,Int.pow_succ];have h5:pn n j=pn n j%128+pn n j / 128*128:=by omega
   generalize (128:Int) ^ j=P at*;generalize acc b a j=A at*;have h6:pn n j*P=(pn n j%128)*P+(pn n j / 128)*(P*128):=by
    conv=>lhs;rw[h5]
    rw[Int.add_mul,Int.mul_assoc,Int.mul_comm 128 P]
   omega
 rw[Kq k (by omega) hgo,show 5 - k=(5 - k - 1)+1 by omega,N9];have h2:=(List.getElem?_eq_some_iff.1 hlast).1;have h3:=hbd k;have h4:acc b a (k+1)=n:=by
  have h5:=hacc k (Nat.le_refl _);simp only[acc];rw[BP hlast,Int.tmod_eq_emod_of_nonneg h3.1,show pn n k%128=pn n k by omega];exact h5
 have h7: ¬ ((0<k/\pn n k=0)\/2147483647<n):=by
  rintro(⟨h8,h9⟩|h8)
  ·obtain⟨q,rfl⟩: ∃q,k=q+1:=⟨k - 1,by omega⟩;have:=hp q (by omega);have h10:=hbd q;simp only[pn]at h9;rw[Int.tdiv_eq_ediv_of_nonneg h10.1]at h9;omega
  ·omega
 rw[if_pos h2,BP hlast,if_neg (by omega),h4,if_neg h7];rfl
theorem rdG_ag (b:LI) {c d:Nat×Bool} (h:ag c d):rdG false b c=rdG true b d:=by
 obtain⟨a1,a2⟩:=GC (b:=b) h;obtain⟨b1,b2⟩:=GC (b:=b) a2;obtain⟨c1,c2⟩:=GC (b:=b) b2;obtain⟨d1,d2⟩:=GC (b:=b) c2;obtain⟨e1,e2⟩:=GC (b:=b) d2;unfold rdG;simp only;rw[a1,b1,c1,d1,e1];obtain⟨f1,f2⟩:=TV (b:=b) e2 (num true b (num true b (num true b (num true b (num true b d).2).2).2).2).1.toNat;rw[f1,f2.1]
theorem VG (b:LI) (a:Nat) (ha:a<=b.length):
  Da b a=if(rdG true b (num true b (a,true)).2).2&&Nw b a (rdG true b (num true b (a,true)).2).1 then some ((rdG true b (num true b (a,true)).2).1,a+(Av (rdG true b (num true b (a,true)).2).1).length)else none:=by
 have hag:=GC (b:=b) (c:=(a,true)) (d:=(a,true)) ⟨rfl,λ_=>rfl⟩
 have hr:=rdG_ag b hag.2
 unfold Da
 rw[hr]
 generalize rdG true b (num true b (a,true)).2=r at*
 cases hok:r.2
 ·simp
 cases hm:Nw b a r.1
 ·simp
 have hs:Qa b a=true:=by
  unfold Nw at hm;simp only[Bool.and_eq_true,decide_eq_true_iff]at hm;obtain⟨⟨m1,m2⟩,m3⟩:=hm;have hmo:C3 r.1=true:=by
   cases h:C3 r.1
   ·unfold Av at m1;rw[h]at m1;simp at m1
   ·rfl
  have hb:=Qo hmo;have bl:=LP hb;have hmb:Av r.1=Ae (body r.1).length++body r.1++ET (I8 (body r.1)):=by unfold Av;rw[if_pos hmo]
  have hlen:(Av r.1).length=(Ae (body r.1).length).length+(body r.1).length+4:=by rw[hmb];simp[ET];omega
  have hn:=Ta (n:=(body r.1).length) (by omega) (by omega) (b:=b) (a:=a) (λi hi=>by
   have h1:(Fq b a (Av r.1).length)[i]? =b[a+i]? :=by
    unfold Fq;rw[List.getElem?_drop,List.getElem?_take,if_pos (by omega)]
   rw[<-h1,<-m3,hmb,List.append_assoc,List.getElem?_append_left hi])
  unfold Qa num;simp only[if_true];rw[hn];simp only[Bool.true_and,decide_eq_true_iff];omega
 rw[hs]
 simp
theorem RN [PKI] (l m:LI) (hl: ∀x∈l,0<=x/\x<256) (hm: ∀x∈m,0<=x/\x<256):sG 241 [.v (.im 1 (enc fU l)),.v (.im 1 (enc fU m))]=some ⟨[.v (.sc (.bool (decide (m.length<=l.length)&&decide (m=l.take m.length))))],[],[]⟩:=by
 refine sK p241 ?_;by_cases h:m.length<=l.length
 ·have e:=Ej (l.take m.length) m (λx hx=>hl x (List.mem_of_mem_take hx)) hm;rw[<-Ax]at e;have hc:decide (l.take m.length=m)=decide (m=l.take m.length):=by simp only[eq_comm]
  rw[hc]at e;simp[p241,  h,e]
 ·simp[p241,  h]
theorem GH [PKI] (b:LI) (a:Nat) (hb:byt b) (ha:a<=b.length) (hb1:b.length<=1000000):sG 199 [.v (.im 1 (enc fU b)),.v (.sc (I6 a))]=some ⟨[.a (AA (fMs (((Da b a).map Prod.fst).getD zMs))),.v (.sc (I6 (((Da b a).map Prod.snd).getD 0:Nat))),.v (.sc (.bool (Da b a).isSome))],[],[]⟩:=by
 have e0:=HD b (a,true) hb (by simp only;omega);obtain⟨a1,_⟩:=FX (z:=true) (b:=b) (a,true) ha;rw[VG b a ha];unfold rdG;generalize num true b (a,true)=k0 at*;obtain⟨n0,d0⟩:=k0;simp only at a1 e0 ⊢;have e1:=HD b d0 hb (by omega);obtain⟨a2,_⟩:=FX (z:=true) (b:=b) d0 a1;generalize num true b d0=k1 at*;obtain⟨n1,d1⟩:=k1;simp only at a2 e1 ⊢;have e2:=HD b d1 hb (by omega);obtain⟨a3,_⟩:=FX (z:=true) (b:=b) d1 a2;generalize num true b d1=k2 at*;obtain⟨n2,d2⟩:=k2;simp only at a3 e2 ⊢;have e3:=HD b d2 hb (by omega);obtain⟨a4,_⟩:=FX (z:=true) (b:=b) d2 a3;generalize num true b d2=k3 at*;obtain⟨n3,d3⟩:=k3;simp only at a4 e3 ⊢;have e4:=HD b d3 hb (by omega);obtain⟨a5,_⟩:=FX (z:=true) (b:=b) d3 a4;generalize num true b d3=k4 at*;obtain⟨n4,d4⟩:=k4;simp only at a5 e4 ⊢;have e5:=NM b d4 hb (by omega);have hrd:rdl true b d4=itn true b (num true b d4).2 (num true b d4).1.toNat:=rfl;rw[<-hrd];obtain⟨a6,_⟩:=FX (z:=true) (b:=b) d4 a5;obtain⟨q1,q2,q3⟩:=Km (z:=true) (b:=b) a6 (num true b d4).1.toNat;rw[<-hrd]at q1 q2 q3;clear hrd a6;generalize rdl true b d4=r at*;obtain⟨⟨pos,ok⟩,g⟩:=r;simp only[crs]at e0 e1 e2 e3 e4 e5 q1 q2 q3 ⊢;have e6:=Ef ⟨n1,n2,n3,n4,g⟩ (by simp only;omega);simp only[AD,lent,fMs]at e6;have hmb:=Eo ⟨n1,n2,n3,n4,g⟩;have hpart:Fq b a (Av ⟨n1,n2,n3,n4,g⟩).length=(b.drop a).take (Av ⟨n1,n2,n3,n4,g⟩).length:=by
  unfold Fq;rw[List.drop_take];congr 1;omega
 have e7:=RN (b.drop a) (Av ⟨n1,n2,n3,n4,g⟩) (λx hx=>hb.2 x (List.mem_of_mem_drop hx)) hmb;rw[<-CA]at e7;unfold Nw;rw[hpart];generalize Av ⟨n1,n2,n3,n4,g⟩=mb at*;have w1:mb.length<=b.length - a->IntKind.wrap .i64 ((a:Int)+mb.length)=((a+mb.length:Nat):Int):=λh=>by rw[AC (by omega) (by omega)];rfl
 cases ok
 ·refine sK p199 ?_;simp[p199,  e0,e1,e2,e3,e4,e5,e6,zMs]
 by_cases h0:mb.length=0
 ·refine sK p199 ?_;have hn:mb=[]:=List.eq_nil_of_length_eq_zero h0;subst hn;simp[p199,  e0,e1,e2,e3,e4,e5,e6,zMs]
 have h0': ¬mb=[]:=λh=>h0 (by rw[h];rfl)
 have hdl:(b.drop a).length=b.length - a:=List.length_drop;rw[hdl]at e7;by_cases h1:mb.length<=b.length - a/\mb=(b.drop a).take mb.length
 ·have hc:(decide (mb.length<=b.length - a)&&decide (mb=(b.drop a).take mb.length))=true:=by rw[decide_eq_true h1.1,decide_eq_true h1.2];rfl
  have hc2:(decide (0<mb.length)&&decide (mb.length<=b.length - a)&&decide (mb=(b.drop a).take mb.length))=true:=by rw[decide_eq_true (show 0<mb.length by omega),decide_eq_true h1.1,decide_eq_true h1.2];rfl
  have w2:=w1 h1.1;rw[hc]at e7;rw[hc2];refine sK p199 ?_;generalize (b.drop a).take mb.length=pt at*;simp[p199,  e0,e1,e2,e3,e4,e5,e6,e7,h0,h0',ha,w2]
 ·have hc:(decide (mb.length<=b.length - a)&&decide (mb=(b.drop a).take mb.length))=false:=by
   rw[Bool.and_eq_false_iff,decide_eq_false_iff_not,decide_eq_false_iff_not];by_cases h2:mb.length<=b.length - a
   ·exact .inr λh3=>h1 ⟨h2,h3⟩
   ·exact .inl h2
  have hc2:(decide (0<mb.length)&&decide (mb.length<=b.length - a)&&decide (mb=(b.drop a).take mb.length))=false:=by rw[Bool.and_assoc,hc,Bool.and_false]
  rw[hc]at e7;rw[hc2];refine sK p199 ?_;simp[p199,  e0,e1,e2,e3,e4,e5,e6,e7,h0,h0',ha,zMs]
@[simp] def st234 (l:List A2) (out:LI) (j:Nat):St:={n:=20,m:=0,tm:=[(3,.ref 10000000 []),(7,.im 5 (enc fMs l)),(8,.sc (I6 l.length)),(9,.sc (I6 j))],ob:=[(10000000,.arr 1 (enc fU out))]}
theorem LB [PKI] (l:List A2) (hl:l.length<=10000) (hg: ∀m∈l,m.gens.length<=1048576):sG 234 [.v (.im 5 (enc fMs l))]=some ⟨[.v (.own 1 (enc fU (Lg l)))],[],[]⟩:=by
 refine sK p234 ?_;have hs:= @lok _ 10000000 [3,7,8,9] b234_0 (λj=>st234 l (DY (l.take j)) j) l.length (λj hj=>by
  obtain⟨x,hx⟩:=AF hj;obtain⟨_,hx'⟩:=BT hx;have hinc:=Ar hj (by omega);have e:=Ef x (hg x (List.mem_of_getElem? hx));simp only[AD,lent,fMs]at e;have hlen:=GW (l.take j);have ht:(l.take j).length<=10000:=by rw[List.length_take];omega
  have h2:=DN x;simp only[No hx];generalize DY (l.take j)=o at hlen ⊢;generalize Av x=mb at*;have g1:o.length+mb.length<=35184372088832:=by omega
  have g0:o.length<=35184372088832:=by omega
  simp[b234_0,  hj,hx',hinc,e,g0,g1,AU]) (by simp[b234_0])
 have hf:l.take l.length=l:=List.take_length;have hlen:=GW l;have e:=My (DY l) ⟨by omega,GX l⟩;have hz:DY []=[]:=rfl;unfold Lg;simp[p234];rw[hs]
 ·simp[b234_0,hf,e]
 ·simp
 ·simp[hz]
def unG (An:LI) (s:Nat×List A2):Option (Nat×List A2):=match Da An s.1 with
 |some (m,n)=>some (n,s.2++[m])
 |none=>none
theorem UE {α:Type} {g:α->Bool} {f:α->α} {a:α} (h:g a=false): ∀n,wh g f n a=a
 |0=>rfl
 |n+1=>by simp[wh,h]
theorem Vx (An:LI): ∀ (n a:Nat) (out:List A2),a<=An.length->An.length - a<=n->
  (match wo (λs=>decide (s.1<An.length)) (unG An) n (a,out)with
  |some q=>wh (λs:UnS=>s.ok&&decide (s.at_<An.length)) (unF An) (n+1) ⟨true,a,out⟩=⟨true,q.1,q.2⟩
  |none=>(wh (λs:UnS=>s.ok&&decide (s.at_<An.length)) (unF An) (n+1) ⟨true,a,out⟩).ok=false)
 |0,a,out,ha,hn=>by
  have hlt: ¬a<An.length:=by omega
  simp[wo,wh,hlt]
 |n+1,a,out,ha,hn=>by
  by_cases hlt:a<An.length
  ·simp only[wo,decide_eq_true hlt,if_true];rw[wh];simp only[Bool.true_and,decide_eq_true hlt,if_true];unfold unG unF;simp only
   cases hm:Da An a with
   |none=>
    simp only;rw[UE (by simp)]
   |some q=>
    obtain⟨m,k⟩:=q;obtain⟨h1,h2,_⟩:=Ht ha hm;simp only;exact Vx An n k (out++[m]) h2 (by omega)
  ·simp[wo,wh,hlt]
theorem Uy (b:LI):Ez b=(match Bl b with
  |none=>none
  |some An=>match wo (λs=>decide (s.1<An.length)) (unG An) An.length (0,[])with
   |none=>none
   |some r=>if Lg r.2=b then some r.2 else none):=by
 unfold Ez unR
 cases hs:Bl b with
 |none=>
  simp only[Option.getD_none,Option.isSome_none];have hw0:=UE (g:=λs:UnS=>s.ok&&decide (s.at_<([]:LI).length)) (f:=unF []) (a:=⟨false,0,[]⟩) (by simp) (([]:LI).length+1);simp only[hw0];simp
 |some An=>
  simp only[Option.getD_some,Option.isSome_some];have h:=Vx An An.length 0 [] (by omega) (by omega)
  cases hw:wo (λs=>decide (s.1<An.length)) (unG An) An.length (0,[])with
  |none=>
   rw[hw]at h;simp only at h;simp[h]
  |some q=>
   rw[hw]at h;simp only at h;simp only[h];simp
@[simp] def st198 (b An:LI) (s:Nat×List A2):St:={n:=43,m:=0,tm:=[(0,.im 1 (enc fU b)),(4,.ref 10000000 []),(6,.ref 10000001 []),(7,.sc (I6 s.1))],ob:=[(10000000,.arr 1 (enc fU An)),(10000001,.arr 5 (enc fMs s.2))]}
theorem OZ [PKI] (b:LI) (hb:byt b):sG 198 [.v (.im 1 (enc fU b))]=some ⟨[.v (.own 5 (enc fMs ((Ez b).getD []))),.v (.sc (.bool (Ez b).isSome))],[],[]⟩:=by
 have e1:=Oa b hb;rw[Uy]
 cases hsp:Bl b with
 |none=>
  rw[hsp]at e1;refine sK p198 ?_;simp[p198,  e1]
 |some An=>
  have hfl:An.length<=3000:=Pm hsp;have hfb:by8 An:=Pk hb.2 hsp;rw[hsp]at e1;simp only[Option.getD_some,Option.isSome_some]at e1 ⊢;obtain⟨hok,hno⟩:= @Qq G PK md 10000000 [0,4,6,7] b198_0 _ (st198 b An) (λs=>decide (s.1<An.length)) (unG An) (λs=>s.1<=An.length/\s.2.length<=s.1/\ ∀m∈s.2,m.gens.length<=12) (λs=>An.length - s.1) (λs=>s.m=0/\Aw s.tm 2= .nil 5/\Aw s.tm 3= .sc (.bool false)/\AN s.ob 90000000= .none) (λs s' hi hg hf=>by
    obtain⟨a,out⟩:=s;simp only[decide_eq_true_iff]at hi hg;obtain⟨i1,i2,i3⟩:=hi;have e:=GH An a ⟨by omega,hfb⟩ i1 (by omega);unfold unG at hf;simp only at hf
    cases hm:Da An a with
    |none=>rw[hm]at hf;cases hf
    |some q=>
     obtain⟨m,k⟩:=q;rw[hm]at hf e;simp only[Option.some.injEq]at hf;subst hf;obtain⟨q1,q2,q3,q4⟩:=Ht i1 hm;simp only[Option.map_some,Option.getD_some,Option.isSome_some,AA,AJ,fMs]at e;refine⟨⟨q2,by simp only[List.length_append,List.length_cons,List.length_nil];omega,λm' hm'=> ?_⟩,by simp only;omega,?_⟩
     ·rcases List.mem_append.1 hm' with h|h
      ·exact i3 m' h
      ·rw[List.mem_singleton.1 h];exact q4
     ·have g1:(out.length+1)*56<=35184372088832:=by omega
      simp[b198_0,  hg,e,g1];simp[enc]) (λs hi hg hf=>by
    obtain⟨a,out⟩:=s;simp only[decide_eq_true_iff]at hi hg;obtain⟨i1,i2,i3⟩:=hi;have e:=GH An a ⟨by omega,hfb⟩ i1 (by omega);unfold unG at hf;simp only at hf
    cases hm:Da An a with
    |none=>
     rw[hm]at e;simp only[Option.map_none,Option.getD_none,Option.isSome_none,zMs,AA,AJ,fMs]at e;refine⟨by simp only;omega,?_⟩;simp[b198_0,  hg,e]
    |some q=>rw[hm]at hf;cases hf) (λs hi hg=>by
    have hg': ¬s.1<An.length:=by simpa using hg
    simp[b198_0,  hg']) An.length (0,[]) ⟨by simp,by simp,λm hm=>by cases hm⟩ (by simp)
  cases hw:wo (λs=>decide (s.1<An.length)) (unG An) An.length (0,[])with
  |none=>
   obtain⟨bad,⟨hm,ho1,ho3,ho4⟩,hs⟩:=hno hw;refine sK p198 ?_;simp[p198,  e1];rw[hs]
   ·simp[hm,ho1,ho3,ho4]
   ·simp
   ·simp
  |some r=>
   obtain⟨⟨i1,i2,i3⟩,hg,hs⟩:=hok r hw;have hg': ¬r.1<An.length:=by simpa using hg
   have e2:=LB r.2 (by omega) (λm hm=>by have:=i3 m hm;omega);have pb:by8 (Lg r.2):=Jd _ (GX r.2);have e3:=Ej (Lg r.2) b pb hb.2
   try simp only
   generalize Lg r.2=pk at*;by_cases h7:pk=b
   ·rw[decide_eq_true h7]at e3;subst h7;refine sK p198 ?_;simp[p198,  e1];rw[hs]
    ·simp[b198_0,  hg',e2,e3]
    ·simp
    ·simp
   ·rw[decide_eq_false h7]at e3;refine sK p198 ?_;simp[p198,  e1];rw[hs]
    ·simp[b198_0,  hg',e2,e3,h7]
    ·simp
    ·simp
theorem Up: ∀ {l m:LI},l.Pairwise (· < ·)->m.Pairwise (· < ·)->(∀x,x∈l<->x∈m)->l=m
 |[],[],_,_,_=>rfl
 |[],y::m,_,_,h=>absurd ((h y).2 List.mem_cons_self) (by simp)
 |x::l,[],_,_,h=>absurd ((h x).1 List.mem_cons_self) (by simp)
 |x::l,y::m,h1,h2,h=>by
  rw[List.pairwise_cons]at h1 h2;have hxy:x=y:=by
   rcases List.mem_cons.1 ((h x).1 List.mem_cons_self)with h3|h3
   ·exact h3
   ·rcases List.mem_cons.1 ((h y).2 List.mem_cons_self)with h4|h4
    ·exact h4.symm
    ·have:=h2.1 x h3;have:=h1.1 y h4;omega
  subst hxy;rw[Up h1.2 h2.2 λz=>⟨λhz=>by
   rcases List.mem_cons.1 ((h z).1 (List.mem_cons_of_mem _ hz))with h3|h3
   ·have:=h1.1 z hz;omega
   ·exact h3,λhz=>by
   rcases List.mem_cons.1 ((h z).2 (List.mem_cons_of_mem _ hz))with h3|h3
   ·have:=h2.1 z hz;omega
   ·exact h3⟩]
theorem UX (l:LI) (a x:Int):x∈ins l a<->x∈l\/x=a:=by
 unfold ins;have h:=List.takeWhile_append_dropWhile (p:=λx=>decide (x<a)) (l:=l);generalize l.takeWhile (λx=>decide (x<a))=u at h ⊢;generalize l.dropWhile (λx=>decide (x<a))=v at h ⊢;rw[<-h];simp only[List.mem_append,List.mem_cons];constructor
 ·rintro(h|h|h)
  ·exact .inl (.inl h)
  ·exact .inr h
  ·exact .inl (.inr h)
 ·rintro((h|h)|h)
  ·exact .inl h
  ·exact .inr (.inr h)
  ·exact .inr (.inl h)
theorem UZ: ∀ {l:LI} {a:Int},l.Pairwise (· < ·)->a∉l->(ins l a).Pairwise (· < ·)
 |[],a,_,_=>by simp[ins]
 |x::l,a,h,ha=>by
  rw[List.pairwise_cons]at h;have hx:x≠a:=λe=>ha (e ▸ List.mem_cons_self)
  have ha':a∉l:=λe=>ha (List.mem_cons_of_mem _ e)
  by_cases hlt:x<a
  ·have e:ins (x::l) a=x::ins l a:=by unfold ins;simp[List.takeWhile,List.dropWhile,hlt]
   rw[e,List.pairwise_cons];refine⟨λy hy=> ?_,UZ h.2 ha'⟩;rcases(UX l a y).1 hy with h1|h1
   ·exact h.1 y h1
   ·omega
  ·have e:ins (x::l) a=a::x::l:=by unfold ins;simp[List.takeWhile,List.dropWhile,hlt]
   rw[e,List.pairwise_cons,List.pairwise_cons];refine⟨λy hy=> ?_,h⟩;rcases List.mem_cons.1 hy with h1|h1
   ·omega
   ·have:=h.1 y h1;omega
theorem Wi (l:LI) (a x:Int):x∈C5 l a<->x∈l\/x=a/\inB a 0 7=true:=by
 unfold C5;split
 ·rename_i h;simp only[Bool.or_eq_true,decide_eq_true_iff,Bool.not_eq_true']at h;constructor
  ·exact .inl
  ·rintro(h1|⟨h1,h2⟩)
   ·exact h1
   ·rcases h with h|h
    ·rw[h1];exact h
    ·rw[h]at h2;cases h2
 ·rename_i h;simp only[Bool.or_eq_true,decide_eq_true_iff,Bool.not_eq_true',not_or,Bool.not_eq_false]at h;rw[UX];simp[h.2]
theorem Wj {l:LI} {a:Int} (h:l.Pairwise (· < ·)):(C5 l a).Pairwise (· < ·):=by
 unfold C5;split
 ·exact h
 ·rename_i h1;simp only[Bool.or_eq_true,decide_eq_true_iff,not_or]at h1;exact UZ h h1.1
theorem Pw: ∀ (l o:LI) (x:Int),x∈l.foldl C5 o<->x∈o\/x∈l/\inB x 0 7=true
 |[],o,x=>by simp
 |y::l,o,x=>by
  rw[List.foldl_cons,Pw l (C5 o y) x,Wi];constructor
  ·rintro((h|⟨rfl,h⟩)|⟨h,h'⟩)
   ·exact .inl h
   ·exact .inr ⟨List.mem_cons_self,h⟩
   ·exact .inr ⟨List.mem_cons_of_mem _ h,h'⟩
  ·rintro(h|⟨h,h'⟩)
   ·exact .inl (.inl h)
   ·rcases List.mem_cons.1 h with rfl|h
    ·exact .inl (.inr ⟨rfl,h'⟩)
    ·exact .inr ⟨h,h'⟩
theorem Lo: ∀ (l:LI) {o:LI},o.Pairwise (· < ·)->(l.foldl C5 o).Pairwise (· < ·)
 |[],o,h=>h
 |y::l,o,h=>by rw[List.foldl_cons];exact Lo l (Wj h)
theorem uni_uni (a b:LI):uni a (uni a b)=uni a b:=by
 have h0:([]:LI).Pairwise (· < ·):=List.Pairwise.nil;refine Up (Lo _ h0) (Lo _ h0) λx=> ?_
 unfold uni;simp only[Pw,List.mem_append];constructor
 ·rintro(h|⟨h|(h|⟨h,_⟩),h'⟩)
  ·cases h
  ·exact .inr ⟨.inl h,h'⟩
  ·cases h
  ·exact .inr ⟨h,h'⟩
 ·rintro(h|⟨h,h'⟩)
  ·cases h
  ·exact .inr ⟨.inr (.inr ⟨h,h'⟩),h'⟩
theorem LE [PKI] (hK:Cm PK) (s t:AE) (hs:nB s) (ht:nB t):sG 150 [.a (AD (fN s)),.a (AD (fN t))]=some ⟨[.a (AA (fN (EK s t).1)),.a (AA (fN (EK s t).2.1)),.v (.sc (.bool (EK s t).2.2))],[],[]⟩:=by
 refine sK p150 ?_;have e0:=IE s t hs.nS ht.nS;have e1:=BH hK s hs.nS;have e2:=BH hK t ht.nS;have e3:=Od hK s t hs.nS ht.nS;have e4:=Bp hK s.mt hs.mt;have e5:=Bp hK t.mt ht.mt;have hjA:=N4 (t:=t) hs;have hjB:=N3 (s:=s) ht;have hl:=J5 s t;have hA0:nS {s with conn:=s.conn.set t.id.toNat true,copies:=s.copies.set t.id.toNat true,sync:=s.sync.set t.id.toNat (Bj s t)}:=⟨hs.nS.image,hs.nS.mt,hs.nS.sl,by simp only[List.length_set];exact hs.nS.conn,⟨by simp only[List.length_set];exact hs.nS.sync.1,λx hx=>by
  rcases List.mem_or_eq_of_mem_set hx with hx|rfl
  ·exact hs.nS.sync.2 x hx
  ·omega⟩,by simp only[List.length_set];exact hs.nS.copies,hs.nS.wait⟩
 have hB0:nS {t with conn:=t.conn.set s.id.toNat true}:=⟨ht.nS.image,ht.nS.mt,ht.nS.sl,by simp only[List.length_set];exact ht.nS.conn,ht.nS.sync,ht.nS.copies,ht.nS.wait⟩;have e6:=F4 hK {s with conn:=s.conn.set t.id.toNat true,copies:=s.copies.set t.id.toNat true,sync:=s.sync.set t.id.toNat (Bj s t)} {s.mt with bits:=s.mt.bits.set t.id.toNat (Bj s t)} hA0 hjA.mt;have e7:=F4 hK {t with conn:=t.conn.set s.id.toNat true} {t.mt with fine:=t.mt.fine&&decide ((Bj s t).length=0)} hB0 hjB.mt;rw[show A7 {s with conn:=s.conn.set t.id.toNat true,copies:=s.copies.set t.id.toNat true,sync:=s.sync.set t.id.toNat (Bj s t)} {s.mt with bits:=s.mt.bits.set t.id.toNat (Bj s t)}=HO s t from rfl]at e6;rw[show A7 {t with conn:=t.conn.set s.id.toNat true} {t.mt with fine:=t.mt.fine&&decide ((Bj s t).length=0)}=Kl s t from rfl]at e7;unfold EK;simp only[AD,lent,fN,fM,AA,AJ,kpF]at e0 e1 e2 e3 e4 e5 e6 e7;generalize HO s t=qa at*;generalize Kl s t=qb at*;by_cases hsr:EY s t=1
 ·obtain⟨o1,o2,o3,o4,o5,o6,o7⟩:=Pn (x:=s) (y:=t) (by omega);have ns:=Ai o1;have nt:=Ai o2;obtain⟨i,i3,hi⟩:=ns.nat;obtain⟨j,j3,hj⟩:=nt.nat;obtain⟨c1,q1,_,c1',_⟩:=Aj s.conn (j:=j) (by have:=ns.conn;omega);obtain⟨c2,q2,_,c2',_⟩:=Aj t.conn (j:=i) (by have:=nt.conn;omega);obtain⟨c3,q3,_,c3',_⟩:=Aj s.copies (j:=j) (by have:=ns.copies;omega);obtain⟨c4,q4,_,c4',_,_⟩:=Ah s.sync (j:=j) (by have:=ns.sync;omega);obtain⟨c5,q5,_,c5',hd5,hm5⟩:=Ah s.mt.bits (j:=j) (by have:=ns.bits3;omega);obtain⟨c6,q6,_,c6',hd6,hm6⟩:=Ah t.mt.bits (j:=i) (by have:=nt.bits3;omega);have l5:=Ec (ns.bit8 c5 hm5);have hex:Bj s t=uni c5 c6:=by
   unfold Bj;rw[o1,o2,hi,hj];simp only[Int.toNat_natCast,hd5,hd6,Bool.and_self,if_true]
  have e8:=JM hK c5 (Bj s t) (by omega) (by omega);rw[hex,uni_uni,<-hex]at e8;clear hex;generalize Bj s t=l at*;have s1:=A3 fL s.conn j true;have s2:=A3 fL t.conn i true;have s3:=A3 fL s.copies j true;have s4:=A3 fII s.sync j l;have s5:=A3 fII s.mt.bits j l;simp at s1 s2 s3 s4 s5;simp only[hi,hj,Int.toNat_natCast]at e0 e1 e2 e3 e6 e7;obtain⟨f,hf⟩: ∃f,f=(t.mt.fine&&decide (l.length=0)):=⟨_,rfl⟩;rw[<-hf]at e7;have hz:((l.length:Int)==0)=decide (l.length=0):=by
   by_cases h:l.length=0
   ·simp[h]
   ·have: ¬ (l.length:Int)=0:=by omega
    simp[h]
  cases hk:AL qa<;>rw[hk]at e6<;>cases hk2:AL qb<;>rw[hk2]at e7<;>
   cases h1:t.mt.fine<;>rw[h1]at hf e0 e2 e3 e5 e7<;>by_cases h2:l.length=0<;>simp[h2]at hf<;>subst hf<;>
    simp (maxSteps:=9999999) [p150,  hi,hj,e0,e1,e2,e3,e4,e5,e6,e7,e8,hsr,q1,q2,q3,q4,q5,c4',c5',s1,s2,s3,s4,s5,h1,h2,hz]
 ·simp (maxSteps:=9999999) [p150,  e0,e1,e2,hsr]
end Go.Proofs.YtghgecpicnfgpaaGreat.Ow
