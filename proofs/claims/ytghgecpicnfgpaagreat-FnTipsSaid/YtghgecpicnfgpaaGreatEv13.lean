/- Functions evaluated on the small machine: Writing and copying: what the reference makes of a node, and what Ms out, Runs, squeezing, spreading: what the reference makes. -/
import Derived.Test.YtghgecpicnfgpaaGreatEv12
import Derived.Test.YtghgecpicnfgpaaGreatEv0
namespace Go.Proofs.YtghgecpicnfgpaaGreat.Ow
open Go
set_option linter.unusedVariables false
set_option linter.unusedSimpArgs false
set_option maxHeartbeats 8000000
def Ew (n:AE) (cell val:Int):AE:=if n.conn.getD (Dd n.id).toNat false then {BO n n.id cell val with wait:=clr n.wait val++[val]} else BO n n.id cell val
def Bd (n:AE) (cell val:Int):AE×List Bz:=if AL n&&n.prime&&inB cell 0 7&&decide (1<=val)&&AL (Ew n cell val)then(Ew n cell val,tos (Ew n cell val) n.id ⟨1,cell,val,0,[]⟩)else(n,[])
theorem Kh {n:AE} (h:NOk n) (hp:n.prime=true): ∃k:Nat,k<2/\Dd n.id=(k:Int):=by
 have h3:=h.prime hp;have h4:n.id=0\/n.id=1:=by have:=h.id0;have:=h.id2;omega
 rcases h4 with h4|h4
 ·exact⟨1,by omega,by rw[h4];rfl⟩
 ·exact⟨0,by omega,by rw[h4];rfl⟩
theorem Pd {n:AE} {cell val:Int} (hn:nB n) (hbl: ∀x∈n.mt.bits,x.length<=800) (hw:n.wait.length<=900):nB (Ew n cell val):=by
 have h:=Iz (src:=n.id) (cell:=cell) (val:=val) hn hbl;unfold Ew;split
 ·exact⟨h.image,h.gens,h.bits,h.bit,h.sl,h.conn,h.sync,h.syn,h.copies,by have:=F6 n.wait val;simp only[List.length_append,List.length_cons,List.length_nil];omega⟩
 ·exact h
theorem JG [PKI] (n:AE) (cell val:Int) (hn:nB n) (hbl: ∀x∈n.mt.bits,x.length<=800) (hw:n.wait.length<=900):sG 217 [.a (AD (fN n)),.v (.sc (I6 cell)),.v (.sc (I6 val))]=some ⟨[.a (AA (fN (Bd n cell val).1)),.v (.own 7 (enc fP (Bd n cell val).2))],[],[]⟩:=by
 refine sK p217 ?_;have e1:=Ab n hn.nS;have e3:=Ao cell 0 7;have e4:=B5 n hn.nS;simp only[AD,lent,fN,AA,AJ]at e1 e4;unfold Bd
 cases h1:AL n
 ·simp[p217,  e1,e4,h1]
 have nn:=Ai h1
 cases h2:n.prime
 ·rw[h2]at e1 e4;simp[p217,  e1,e4,h1,h2]
 cases h3:inB cell 0 7
 ·rw[h2]at e1 e4;simp[p217,  e1,e3,e4,h1,h2,h3]
 by_cases h4:1<=val
 case neg=>
  rw[h2]at e1 e4;simp[p217,  e1,e3,e4,h1,h2,h3,h4,show val<1 by omega]
 obtain⟨k,k2,hk⟩:=Kh nn h2;obtain⟨c,q1,hc,hc',hcd⟩:=Aj n.conn (j:=k) (by have:=hn.conn;omega);have hB:=Pd (cell:=cell) (val:=val) hn hbl hw;have e5:=OP n n.id cell val hn hbl;have e6:=DQ n.id;have e7:=II n.wait val (by omega);have e8:=Ab (Ew n cell val) hB.nS;have e9:=Sc (Ew n cell val) n.id ⟨1,cell,val,0,[]⟩ hB.conn rfl;have hcl:=F6 n.wait val;have haw:(BO n n.id cell val).wait=n.wait:=rfl;rw[hk]at e6;simp only[AD,lent,fN,AA,AJ,TM]at e5 e8 e9;unfold Ew at*;rw[hk]at e8 e9 ⊢;simp only[Int.toNat_natCast,hcd]at e8 e9 ⊢;rw[h2]at e1 e4 e5;generalize BO n n.id cell val=q at*;have hvl: ¬val<1:=by omega
 have g1:(clr n.wait val).length+1<=4398046511104:=by omega
 have g2:((clr n.wait val).length+1)*8<=35184372088832:=by omega
 have hen:enc fI (clr n.wait val)++[[T.sc (I6 val)]]=enc fI (clr n.wait val++[val]):=by simp[enc]
 cases c
 ·simp only[Bool.false_eq_true,if_false]at e8 e9 ⊢
  cases h5:AL q
  ·rw[h5]at e8;simp (maxSteps:=9999999) [p217,  e1,e3,e4,e5,e6,e8,h1,h2,h3,h4,hvl,q1,hc']
  ·rw[h5]at e8;simp (maxSteps:=9999999) [p217,  e1,e3,e4,e5,e6,e8,e9,h1,h2,h3,h4,hvl,q1,hc']
 ·simp only[if_true]at e8 e9 ⊢;rw[haw]at*
  cases h5:AL {q with wait:=clr n.wait val++[val]}
  ·rw[h5]at e8;simp (maxSteps:=9999999) [p217,  e1,e3,e4,e5,e6,e7,e8,haw,h1,h2,h3,h4,hvl,q1,hc',g1,g2,hen]
  ·rw[h5]at e8;simp (maxSteps:=9999999) [p217,  e1,e3,e4,e5,e6,e7,e8,e9,haw,h1,h2,h3,h4,hvl,q1,hc',g1,g2,hen]
def Mm (n:AE) (to:Int):Ay:={n.mt with held:=n.mt.held&&decide (to≠Dd n.id)}
def IM (n:AE) (to:Int):AE:=A7 {n with copies:=n.copies.set to.toNat false} (Mm n to)
def Ep (n:AE) (to:Int):AE×List Bz:=
 if AL n&&inB to 0 2&&n.copies.getD to.toNat false then
  (if 0<(n.sync.getD to.toNat []).length then
   ({n with sync:=n.sync.set to.toNat (clr (n.sync.getD to.toNat []) ((n.sync.getD to.toNat []).getD 0 0))},[⟨n.id,to,⟨4,(n.sync.getD to.toNat []).getD 0 0,n.image.getD ((n.sync.getD to.toNat []).getD 0 0).toNat 0,0,[]⟩⟩])
  else if AL (IM n to)then(IM n to,[⟨n.id,to,⟨5,0,n.mt.last,0,n.mt.gens⟩⟩])else(n,[]))
 else(n,[])
theorem Q6 [PKI] (n:AE) (to:Int) (hn:nB n):sG 257 [.a (AD (fN n)),.v (.sc (I6 to))]=some ⟨[.a (AA (fN (Ep n to).1)),.v (.own 7 (enc fP (Ep n to).2))],[],[]⟩:=by
 refine sK p257 ?_;have e1:=Ab n hn.nS;have e2:=B5 n hn.nS;have e3:=Ao to 0 2;simp only[AD,lent,fN,AA,AJ]at e1 e2;unfold Ep
 cases h1:AL n
 ·simp[p257,  e1,e2,h1]
 have nn:=Ai h1
 cases h3:inB to 0 2
 ·simp[p257,  e1,e2,e3,h1,h3]
 have r3:=AP.1 h3;obtain⟨k,rfl⟩: ∃k:Nat,to=(k:Int):=⟨to.toNat,by omega⟩;obtain⟨c,q1,hc,hc',hcd⟩:=Aj n.copies (j:=k) (by have:=hn.copies;omega);simp only[Int.toNat_natCast,hcd]
 cases c
 ·simp[p257,  e1,e2,e3,h1,h3,q1,hc']
 obtain⟨l,q2,hl,hl',hld,hlm⟩:=Ah n.sync (j:=k) (by have:=hn.sync;omega);rw[hld];by_cases h4:0<l.length
 ·obtain⟨v,q3,hv,hv',hvd⟩:=AK l h4;have hm:=Wg (nn.syn8 l hlm) v (by rw[<-hv'];exact List.getElem_mem _);have hm7:v<=7:=by
   have:=nn.syn8 l hlm;unfold Dg at this;have:=Am this h4;unfold mkP at this;rw[hvd]at this;simp only[Bool.and_eq_true]at this;exact(AP.1 this.1).2
  rw[hvd];obtain⟨j,rfl⟩: ∃j:Nat,v=(j:Int):=⟨v.toNat,by omega⟩;have h8:=Il nn.img;obtain⟨u,q4,hu,hu',hud⟩:=AK n.image (j:=j) (by omega);simp only[Int.toNat_natCast,hud];have e5:=II l (j:Int) (by have:=Ec (nn.syn8 l hlm);omega);have s1:=A3 fII n.sync k (clr l (j:Int));simp at s1;simp (maxSteps:=9999999) [p257,  e1,e2,e3,e5,h1,h3,h4,q1,hc',q2,hl',q3,hv',q4,hu',s1]
 ·have e4:=Cc n.mt hn.mt;have e5:=DS {n with copies:=n.copies.set k false} (Mm n (k:Int)) hn.sl hn.mt;have hB:nB (IM n (k:Int)):=⟨hn.image,hn.gens,hn.bits,hn.bit,CZ hn.sl _,hn.conn,hn.sync,hn.syn,by unfold IM A7;simp only[List.length_set];exact hn.copies,hn.wait⟩;have e6:=Ab (IM n (k:Int)) hB.nS;have e7:=DQ n.id;have s1:=A3 fL n.copies k false;simp at s1;rw[show A7 {n with copies:=n.copies.set k false} (Mm n (k:Int))=IM n (k:Int)from rfl]at e5;generalize IM n (k:Int)=q at*;unfold Mm at e5;simp only[AD,lent,fN,fM,AA,AJ,kpA]at e4 e5 e6;have gl:=nn.gens12;have g1:n.mt.gens.length<=4398046511104:=by omega
  have g2:n.mt.gens.length*8<=35184372088832:=by omega
  cases hh:n.mt.held
  ·rw[hh]at e1 e2 e4 e5;simp only[Bool.false_and]at e5
   cases h5:AL q
   ·rw[h5]at e6;simp (maxSteps:=9999999) [p257,  e1,e2,e3,e4,e5,e6,h1,h3,h4,q1,hc',q2,hl',s1,hh]
   ·rw[h5]at e6;simp (maxSteps:=9999999) [p257,  e1,e2,e3,e4,e5,e6,h1,h3,h4,q1,hc',q2,hl',s1,hh,g1,g2]
  ·rw[hh]at e1 e2 e4 e5;simp only[Bool.true_and]at e5;by_cases hm:(k:Int)=Dd n.id
   ·have hd:decide ((k:Int)≠Dd n.id)=false:=by simp[hm]
    have hbn:((k:Int) != Dd n.id)=false:=by simp[hm]
    rw[hd]at e5
    cases h5:AL q
    ·rw[h5]at e6;simp (maxSteps:=9999999) [p257,  e1,e2,e3,e4,e5,e6,e7,h1,h3,h4,q1,hc',q2,hl',s1,hh,eq_true hm,hbn]
    ·rw[h5]at e6;simp (maxSteps:=9999999) [p257,  e1,e2,e3,e4,e5,e6,e7,h1,h3,h4,q1,hc',q2,hl',s1,hh,eq_true hm,hbn,g1,g2]
   ·have hd:decide ((k:Int)≠Dd n.id)=true:=by simp[hm]
    have hbn:((k:Int) != Dd n.id)=true:=by simp[hm]
    rw[hd]at e5
    cases h5:AL q
    ·rw[h5]at e6;simp (maxSteps:=9999999) [p257,  e1,e2,e3,e4,e5,e6,e7,h1,h3,h4,q1,hc',q2,hl',s1,hh,hm,hbn]
    ·rw[h5]at e6;simp (maxSteps:=9999999) [p257,  e1,e2,e3,e4,e5,e6,e7,h1,h3,h4,q1,hc',q2,hl',s1,hh,hm,hbn,g1,g2]
theorem Tf [PKI] (a b:Int):sG 282 [.v (.sc (I6 a)),.v (.sc (I6 b))]=some ⟨[.v (.sc (I6 (min a b)))],[],[]⟩:=by
 refine sK p282 ?_;by_cases h:a<b
 ·have hm:min a b=a:=by omega
  simp[p282,  h,hm]
 ·have hm:min a b=b:=by omega
  simp[p282,  h,hm]
def PG (b:LI) (a k n:Nat):Bool:=decide (a+n<b.length)&&decide (b.getD (a+n) 0=b.getD (a+n - k) 0)
def run (b:LI) (a k:Nat):Nat:=if a<b.length/\1<=k/\k<=a/\k<=255 then J2 (PG b a k) 100 0 else 0
theorem TC (b:LI) (a k:Nat):run b a k<=100/\a+run b a k<=max a b.length:=by
 unfold run;split
 ·obtain⟨n,h1,h2,h3,h4⟩:=FR (PG b a k) 100;rw[h1];refine⟨h2,?_⟩;rcases Nat.eq_zero_or_pos n with h|h
  ·omega
  ·have:=h3 (n - 1) (by omega);unfold PG at this;simp only[Bool.and_eq_true,decide_eq_true_iff]at this;omega
 ·omega
@[simp] def st291 (b:LI) (a k n:Nat):St:={n:=51,m:=0,tm:=[(0,.im 1 (enc fU b)),(1,.sc (I6 a)),(2,.sc (I6 k)),(7,.sc (I6 n))],ob:=[]}
theorem SR [PKI] (b:LI) (a k:Nat) (hb:byt b) (ha:a<=1048576) (hk:k<=1000):sG 291 [.v (.im 1 (enc fU b)),.v (.sc (I6 a)),.v (.sc (I6 k))]=some ⟨[.v (.sc (I6 (run b a k:Nat)))],[],[]⟩:=by
 refine sK p291 ?_;have hbl:=hb.1;have w1:IntKind.wrap .i64 ((b.length:Int) - 1)=b.length - 1:=AC (by omega) (by omega);have e1:=Ao a 0 ((b.length:Int) - 1);have e2:=Tf a 255;have e3:=Ao k 1 (min (a:Int) 255);unfold run;by_cases h1:a<b.length
 case neg=>
  have i1:inB (a:Int) 0 (b.length - 1)=false:=by
   cases h:inB (a:Int) 0 (b.length - 1)
   ·rfl
   ·have:=AP.1 h;omega
  rw[i1]at e1;have hn: ¬ (a<b.length/\1<=k/\k<=a/\k<=255):=by omega
  simp[p291,  w1,e1,hn]
 have i1:inB (a:Int) 0 (b.length - 1)=true:=AP.2 (by omega);rw[i1]at e1;by_cases h2:1<=k/\k<=a/\k<=255
 case neg=>
  have i3:inB (k:Int) 1 (min (a:Int) 255)=false:=by
   cases h:inB (k:Int) 1 (min (a:Int) 255)
   ·rfl
   ·have:=AP.1 h;omega
  rw[i3]at e3;rw[if_neg (by omega)];simp[p291,  w1,e1,e2,e3]
 have i3:inB (k:Int) 1 (min (a:Int) 255)=true:=AP.2 (by omega);rw[i3]at e3;rw[if_pos ⟨h1,h2⟩];obtain⟨n,hn,hn100,hp,hend⟩:=FR (PG b a k) 100;rw[hn];have step: ∀j:Nat,j<=100->IntKind.wrap .i64 ((a:Int)+j)=((a+j:Nat):Int)/\IntKind.wrap .i64 ((a:Int)+j - k)=((a+j - k:Nat):Int):=λj hj=>⟨by rw[AC (by omega) (by omega)];omega,by rw[AC (by omega) (by omega)];omega⟩
 have hs:= @lok _ 10000000 [0,1,2,7] b291_0 (λj=>st291 b a k j) n (λj hj=>by
  have hpj:=hp j hj;unfold PG at hpj;simp only[Bool.and_eq_true,decide_eq_true_iff]at hpj;obtain⟨q,hq⟩: ∃q,q=a+j:=⟨_,rfl⟩;obtain⟨r,hr⟩: ∃r,r=a+j - k:=⟨_,rfl⟩;obtain⟨s1,s2⟩:=step j (by omega);rw[<-hq]at hpj s1;rw[<-hr]at s2;rw[show q - k=r by omega]at hpj;have s3:IntKind.wrap .i64 ((q:Int) - k)=(r:Int):=by rw[AC (by omega) (by omega)];omega
  obtain⟨x,y1,hx,hx',hxd⟩:=AK b hpj.1;obtain⟨y,y2,hy,hy',hyd⟩:=AK b (j:=r) (by omega);rw[hxd,hyd]at hpj;have hxy:=hpj.2;subst hxy;have hinc:=Ar (j:=j) (n:=100) (by omega) (by omega);have hj1:(j:Int)<100:=by omega
  simp[b291_0,  hj1,s1,s3,y1,y2,hx',hy',hinc]) (by
  rcases hend with rfl|⟨hlt,hf⟩
  ·simp[b291_0]
  ·obtain⟨q,hq⟩: ∃q,q=a+n:=⟨_,rfl⟩;obtain⟨r,hr⟩: ∃r,r=a+n - k:=⟨_,rfl⟩;obtain⟨s1,s2⟩:=step n (by omega);have hj1:(n:Int)<100:=by omega
   rw[<-hq]at s1;by_cases hql:q<b.length
   ·obtain⟨x,y1,hx,hx',hxd⟩:=AK b hql;obtain⟨y,y2,hy,hy',hyd⟩:=AK b (j:=r) (by omega);have hxy: ¬x=y:=by
     unfold PG at hf;rw[<-hq,show q - k=r by omega,hxd,hyd]at hf;simpa[hql]using hf
    have s3:IntKind.wrap .i64 ((q:Int) - k)=(r:Int):=by rw[AC (by omega) (by omega)];omega
    simp[b291_0,  hj1,s1,s3,y1,y2,hx',hy',hxy]
   ·simp[b291_0,  hj1,s1,hql])
 simp[p291,  w1,e1,e2,e3];rw[hs]
 ·rcases hend with rfl|⟨hlt,hf⟩
  ·simp[b291_0]
  ·obtain⟨q,hq⟩: ∃q,q=a+n:=⟨_,rfl⟩;obtain⟨r,hr⟩: ∃r,r=a+n - k:=⟨_,rfl⟩;obtain⟨s1,s2⟩:=step n (by omega);have hj1:(n:Int)<100:=by omega
   rw[<-hq]at s1;by_cases hql:q<b.length
   ·obtain⟨x,y1,hx,hx',hxd⟩:=AK b hql;obtain⟨y,y2,hy,hy',hyd⟩:=AK b (j:=r) (by omega);have hxy: ¬x=y:=by
     unfold PG at hf;rw[<-hq,show q - k=r by omega,hxd,hyd]at hf;simpa[hql]using hf
    have s3:IntKind.wrap .i64 ((q:Int) - k)=(r:Int):=by rw[AC (by omega) (by omega)];omega
    simp[b291_0,  hj1,s1,s3,y1,y2,hx',hy',hxy]
   ·simp[b291_0,  hj1,s1,hql]
 ·simp
 ·simp
def FA (b:LI) (a:Nat):Nat->Nat×Nat
 |0=>(0,0)
 |j+1=>if(FA b a j).2<run b a (j+1)then(j+1,run b a (j+1))else FA b a j
theorem Ix (b:LI) (a:Nat): ∀j,(FA b a j).1<=j/\(FA b a j).2<=100/\a+(FA b a j).2<=max a b.length
 |0=>by simp[FA];omega
 |j+1=>by
  have h1:=Ix b a j;have h2:=TC b a (j+1);unfold FA;split
  ·simp only;omega
  ·omega
@[simp] def st287 (b:LI) (a:Nat) (r:Nat×Nat) (j:Nat):St:={n:=27,m:=0,tm:=[(0,.im 1 (enc fU b)),(1,.sc (I6 a)),(6,.sc (I6 r.1)),(7,.sc (I6 r.2)),(8,.sc (I6 j))],ob:=[]}
theorem Vc [PKI] (b:LI) (a:Nat) (hb:byt b) (ha:a<=1048576):sG 287 [.v (.im 1 (enc fU b)),.v (.sc (I6 a))]=some ⟨[.v (.sc (I6 ((FA b a (min a 255)).1:Nat))),.v (.sc (I6 ((FA b a (min a 255)).2:Nat)))],[],[]⟩:=by
 refine sK p287 ?_;have e2:=Tf a 255;obtain⟨n,hn⟩: ∃n,n=min a 255:=⟨_,rfl⟩;have hm:min (a:Int) 255=(n:Int):=by omega
 rw[hm]at e2;rw[<-hn];have hs:= @lok _ 10000000 [0,1,6,7,8] b287_0 (λj=>st287 b a (FA b a j) (j+1)) n (λj hj=>by
  have e:=SR b a (j+1) hb ha (by omega);have hrl:=TC b a (j+1);obtain⟨q,hq⟩: ∃q,q=j+1:=⟨_,rfl⟩;have hinc:=Ar (j:=q) (n:=1000) (by omega) (by omega);have hle:(q:Int)<=n:=by omega
  simp only[FA];rw[<-hq]at e ⊢;have hbd:=Ix b a j;generalize FA b a j=r at hbd ⊢;obtain⟨r1,r2⟩:=r;generalize run b a q=u at*;by_cases hlt:r2<u
  ·have hlt2:(r2:Int)<u:=by omega
   simp[b287_0,  e2,hle,e,hlt,hlt2,hinc]
  ·have hlt2: ¬ (r2:Int)<u:=by omega
   simp[b287_0,  e2,hle,e,hlt,hlt2,hinc]) (by
  have: ¬ (n:Int)+1<=n:=by omega
  simp[b287_0,  e2,this])
 have hbz:FA b a 0=(0,0):=rfl;simp[p287];rw[hs]
 ·have: ¬ (n:Int)+1<=n:=by omega
  simp[b287_0,  e2,this]
 ·simp
 ·simp[hbz]
def w8 (n:Int):Int:=IntKind.wrap .u8 n
def sqF (b:LI) (s:Nat×LI):Nat×LI:=
 if 3<=(FA b s.1 (min s.1 255)).2 then(s.1+(FA b s.1 (min s.1 255)).2,s.2++[w8 (128+(FA b s.1 (min s.1 255)).2),w8 (FA b s.1 (min s.1 255)).1])
 else(s.1+1,s.2++(if b.getD s.1 0=0\/127<b.getD s.1 0 then [0,b.getD s.1 0]else [b.getD s.1 0]))
def FI (b:LI):LI:=if 3000<b.length then []else(wh (λs=>decide (s.1<b.length)) (sqF b) b.length (0,[])).2
@[simp] def st278 (b:LI) (s:Nat×LI):St:={n:=60,m:=0,tm:=[(0,.im 1 (enc fU b)),(3,.ref 10000000 []),(4,.sc (I6 s.1))],ob:=[(10000000,.arr 1 (enc fU s.2))]}
theorem Mu [PKI] (b:LI) (hb:byt b):sG 278 [.v (.im 1 (enc fU b))]=some ⟨[.v (.own 1 (enc fU (FI b)))],[],[]⟩:=by
 refine sK p278 ?_;unfold FI;by_cases h0:3000<b.length
 ·have h1:(3000:Int)<b.length:=by omega
  simp[p278,  h0,h1]
 have h1: ¬ (3000:Int)<b.length:=by omega
 obtain⟨⟨hinv,hg⟩,hs⟩:= @Qr G PK md 10000000 [0,3,4] b278_0 _ (st278 b) (λs=>decide (s.1<b.length)) (sqF b) (λs=>s.1<=b.length/\s.2.length<=2*s.1) (λs=>b.length - s.1) (λs hi hg=>by
   obtain⟨a,out⟩:=s;simp only[decide_eq_true_iff]at hi hg;have e:=Vc b a hb (by omega);have hbd:=Ix b a (min a 255);unfold sqF;simp only;obtain⟨x,y1,hx,hx',hxd⟩:=AK b hg;rw[hxd];have hxb:=hb.2 x (List.mem_of_getElem? hx);generalize FA b a (min a 255)=r at*;obtain⟨r1,r2⟩:=r;simp only at hbd e ⊢;by_cases h3:3<=r2
   ·rw[if_pos h3];refine⟨⟨by simp only;omega,by simp only[List.length_append,List.length_cons,List.length_nil];omega⟩,by simp only;omega,?_⟩;have h3':(3:Int)<=r2:=by omega
    have w1:IntKind.wrap .i64 ((128:Int)+r2)=128+r2:=AC (by omega) (by omega);have w2:IntKind.wrap .i64 ((a:Int)+r2)=(a:Int)+r2:=AC (by omega) (by omega);have g1:out.length+2<=35184372088832:=by omega
    simp[b278_0,  hg,e,h3',w1,w2,g1,w8];simp[enc]
   ·rw[if_neg h3];have h3': ¬ (3:Int)<=r2:=by omega
    have hinc:IntKind.wrap .i64 ((a:Int)+1)=(a:Int)+1:=AC (by omega) (by omega);refine⟨⟨by simp only;omega,by split<;>simp only[List.length_append,List.length_cons,List.length_nil]<;>omega⟩,by simp only;omega,?_⟩;have g1:out.length+1<=35184372088832:=by omega
    have g2:out.length+1+1<=35184372088832:=by omega
    by_cases hz:x=0
    ·simp[b278_0,  hg,e,h3',hx',hz,hinc,g1,g2];simp[enc,hz]
    ·by_cases h7:127<x
     ·simp[b278_0,  hg,e,h3',hx',hz,h7,hinc,g1,g2];simp[enc]
     ·simp[b278_0,  hg,e,h3',hx',hz,h7,hinc,g1,g2];simp[enc]) (λs hi hg=>by
   have hg': ¬s.1<b.length:=by simpa using hg
   simp[b278_0,  hg']) b.length (0,[]) ⟨by simp,by simp⟩ (by simp)
 generalize wh (λs=>decide (s.1<b.length)) (sqF b) b.length (0,[])=r at*;have hg': ¬r.1<b.length:=by simpa using hg
 simp[p278,  h0,h1];rw[hs]
 ·simp[b278_0,  hg']
 ·simp
 ·simp
theorem Ro (b:LI):(FI b).length<=6000:=by
 unfold FI;split
 ·simp
 ·rename_i h;have key: ∀ (n:Nat) (s:Nat×LI),s.2.length<=2*s.1->s.1<=b.length->(wh (λs=>decide (s.1<b.length)) (sqF b) n s).2.length<=2*b.length:=by
   intro n
   induction n with
   |zero=>intro s h1 h2;simp only[wh];omega
   |succ n ih=>
    intro s h1 h2;unfold wh;split
    ·rename_i hg;simp only[decide_eq_true_iff]at hg;have hbd:=Ix b s.1 (min s.1 255);refine ih _ ?_ ?_
     ·unfold sqF;split
      ·simp only[List.length_append,List.length_cons,List.length_nil];omega
      ·split<;>simp only[List.length_append,List.length_cons,List.length_nil]<;>omega
     ·unfold sqF;split
      ·simp only;omega
      ·simp only;omega
    ·omega
  have:=key b.length (0,[]) (by simp) (by simp);omega
theorem Jd (b:LI) (hb:by8 b):by8 (FI b):=by
 unfold FI;split
 ·intro x hx;cases hx
 ·have key: ∀ (n:Nat) (s:Nat×LI),by8 s.2->by8 (wh (λs=>decide (s.1<b.length)) (sqF b) n s).2:=by
   intro n
   induction n with
   |zero=>intro s h1;exact h1
   |succ n ih=>
    intro s h1;unfold wh;split
    ·rename_i hg;simp only[decide_eq_true_iff]at hg;refine ih _ ?_;obtain⟨x,y1,hx,hx',hxd⟩:=AK b hg;have hxb:=hb x (List.mem_of_getElem? hx);unfold sqF;rw[hxd];split
     ·refine By h1 λy hy=> ?_
      simp only[List.mem_cons,List.not_mem_nil,or_false]at hy;rcases hy with rfl|rfl
      ·exact M6 _
      ·exact M6 _
     ·refine By h1 λy hy=> ?_
      split at hy
      ·simp only[List.mem_cons,List.not_mem_nil,or_false]at hy;omega
      ·simp only[List.mem_cons,List.not_mem_nil,or_false]at hy;omega
    ·exact h1
  exact key b.length (0,[]) (λx hx=>by cases hx)
end Go.Proofs.YtghgecpicnfgpaaGreat.Ow
