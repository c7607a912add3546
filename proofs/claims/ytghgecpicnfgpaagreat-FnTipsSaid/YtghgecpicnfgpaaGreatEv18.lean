/- Functions evaluated on the small machine: Slots torn; falling, rising, tearing, copying: what the reference makes of a world, Roles: what the reference makes of a world, What is given from a wire: the loop that tells safe what is no longer waited for. -/
import Derived.Test.YtghgecpicnfgpaaGreatEv17
import Derived.Test.YtghgecpicnfgpaaGreatEv13
import Derived.Test.YtghgecpicnfgpaaGreatEv16
namespace Go.Proofs.YtghgecpicnfgpaaGreat.Ow
open Go
set_option linter.unusedVariables false
set_option linter.unusedSimpArgs false
set_option maxHeartbeats 16000000
theorem XS [PKI] (a b:Int):sG 50 [.v (.sc (I6 a)),.v (.sc (I6 b))]=some ⟨[.v (.sc (I6 (max a b)))],[],[]⟩:=by
 refine sK p50 ?_;by_cases h:a>b
 ·have hm:max a b=a:=by omega
  simp[p50,  h,hm]
 ·have hm:max a b=b:=by omega
  simp[p50,  h,hm]
theorem QG [PKI] (was now:LI) (n:Int) (k:Nat) (hk:max 0 (min n now.length)=(k:Int)) (h1:was.length<=1048576) (h2:now.length<=1048576):sG 258 [.v (.im 1 (enc fU was)),.v (.im 1 (enc fU now)),.v (.sc (I6 n))]=some ⟨[.v (.own 1 (enc fU (EU was now k)))],[],[]⟩:=by
 refine sK p258 ?_;have e1:=Tf n now.length;have e2:=XS 0 (min n now.length);rw[hk]at e2;have hkl:k<=now.length:=by omega
 have g1:k<=35184372088832:=by omega
 have g2:k+(was.length - k)<=35184372088832:=by omega
 have g3:was.length<=35184372088832:=by omega
 have hft:An (List.take k (enc fU now))=true:=Gi (OD _);have hfd:An (List.drop k (enc fU was))=true:=Iq (OD _);unfold EU;by_cases hlt:k<was.length
 ·have h3:k<=was.length:=by omega
  simp[p258,  e1,e2,hkl,hlt,h3,g1,g2,g3,hft,hfd];simp[enc,List.map_take,List.map_drop]
 ·have h3:was.drop k=[]:=List.drop_eq_nil_of_le (by omega);simp[p258,  e1,e2,hkl,hlt,g1,hft,h3];simp[enc,List.map_take]
theorem Q0 [PKI] (s:BG) (m:Ay) (n:Int) (k:Nat) (hkn:max 0 (min n 160)=(k:Int)) (hs:slS s) (hm:mtS m):sG 223 [.a (AD (fSl s)),.a (AD (fM m)),.v (.sc (I6 n))]=some ⟨[.a (AA (fSl (I2 s m k)))],[],[]⟩:=by
 refine sK p223 ?_;have e1:=L4 s hs.1.1 hs.2.1;have e2:=Cp s m hs hm;have e3:=Dr s hs;have e4:=DH m hm;have e5:=J7 s hs;have hb:=Je s;have hA:=P5 s;have hl:=En s m;have e6:=QG s.a (G4 s m) n k (by rw[hl];exact hkn) hs.1.1 (by omega);have e7:=QG s.b (G4 s m) n k (by rw[hl];exact hkn) hs.2.1 (by omega);simp only[AD,lent,fM,fSl,AA,AJ]at e1 e2 e3 e4 e5;unfold I2;unfold Br at e2;generalize G4 s m=nb at*;unfold Jr at*;generalize hq:(Af s)=q at*;obtain⟨q1,q2,q3⟩:=q;simp only at hb
 cases hk:BU m
 ·simp[hk]at e2;simp[p223,  e1,e2,e3,e4,hk]
 by_cases hc:q2=1000000
 ·simp[hk,hc]at e2;simp[p223,  e1,e2,e3,e4,hk,hc]
 have hc2: ¬ (1000000:Int)<=q2:=by omega
 by_cases hw0:I5 s=0
 ·have hAt:isA s=true:=by rw[hA];simp[hw0]
  simp[hk,hc,hAt]at e2;simp[p223,  e1,e2,e3,e4,e5,e7,hk,hc,hc2,hw0,hAt]
 ·have hAf:isA s=false:=by rw[hA];simp[hw0]
  simp[hk,hc,hAf]at e2;simp[p223,  e1,e2,e3,e4,e5,e6,hk,hc,hc2,hw0,hAf]
theorem tear_S {s:BG} (h:slS s) (m:Ay) {k:Nat} (hk:k<=160):slS (I2 s m k):=by
 have hl:=En s m;have hby:=UR s m;have one: ∀was:LI,byt was->byt (EU was (G4 s m) k):=λwas hw=>by
  refine⟨?_,λx hx=> ?_⟩
  ·unfold EU;rw[List.length_append,List.length_take,List.length_drop];have:=hw.1;omega
  ·unfold EU at hx;rcases List.mem_append.1 hx with hx|hx
   ·exact hby x (List.mem_of_mem_take hx)
   ·exact hw.2 x (List.mem_of_mem_drop hx)
 unfold I2;split
 ·split
  ·exact⟨h.1,one _ h.2⟩
  ·exact⟨one _ h.1,h.2⟩
 ·exact h
def Hc (n:AE) (b:Int):AE:={n with sl:=I2 n.sl {n.mt with fine:= !n.mt.fine} b.toNat}
def Dx (w:AB) (a:Nat) (b:Int):AB:={w with nodes:=w.nodes.set a (Hc (nd w a) b)}
def F3 (w:AB) (kind:Int) (a:Nat) (b:Int):AB×Int:=
 if kind=5 then(if(nd w a).up then(w,3)else({w with nodes:=w.nodes.set a (KW (nd w a))},0))
 else if !(nd w a).up||decide (kind=6)&& !inB b 0 155 then(w,3)
 else(Ml (if kind=6 then Dx w a b else w) a,0)
theorem NW {n:AE} {b:Int} (h:nC n) (hb:b<=155):nC (Hc n b):=
 ⟨⟨h.b.image,h.b.gens,h.b.bits,h.b.bit,tear_S h.b.sl _ (by omega),h.b.conn,h.b.sync,h.b.syn,h.b.copies,h.b.wait⟩,h.bit,h.wait,h.gens⟩
theorem Tn [PKI] (w:AB) (kind:Int) (a:Nat) (b:Int) (ha:a<3) (hd:DnI a ⟨w,0,[]⟩): ∃fin,Tc fin/\sG 176 [.a (AA (fWo w)),.a (AD (fD ⟨kind,a,b⟩))]=some ⟨[.a (AA (fWo (F3 w kind a b).1)),.v (.sc (I6 (F3 w kind a b).2))],fin,[]⟩:=by
 have hw:WI w:=hd.w;have hn3:=hw.n3;obtain⟨x,y1,_,hx',hxd,hxm⟩:=AX w.nodes zN (j:=a) (by omega);have hxa:nd w a=x:=hxd;have hc:=hw.node x hxm;have e1:=Q1 x hc.b.nS;have e2:=Ao b 0 155;have e3:=Cc x.mt hc.b.mt;simp only[AD,lent,fN,fM,AA,AJ]at e1 e3;unfold F3;rw[hxa];have nfin:Tc [none,none,none,none]:= .inl rfl;by_cases h5:kind=5
 ·subst h5;refine⟨_,nfin,sK p176 ?_⟩;generalize KW x=q at*
  cases hu:x.up
  ·rw[hu]at e1;simp (maxSteps:=9999999) [p176,  y1,hx',e1,hu]
  ·rw[hu]at e1;simp (maxSteps:=9999999) [p176,  y1,hx',hu]
 cases hu:x.up
 ·refine⟨_,nfin,sK p176 ?_⟩;simp (maxSteps:=9999999) [p176,  y1,hx',h5,hu]
 by_cases h6:kind=6
 ·subst h6
  cases hb:inB b 0 155
  ·rw[hb]at e2;refine⟨_,nfin,sK p176 ?_⟩;simp (maxSteps:=9999999) [p176,  y1,hx',e2,hu]
  ·rw[hb]at e2;have rb:=AP.1 hb;have hT:WI (Dx w a b):=by
    have:=Qc (k:=a) (n:=Hc (nd w a) b) hw ha (NW (hw.nd ha) rb.2) (hw.id a ha);exact this
   have hdT:DnI a ⟨Dx w a b,0,[]⟩:=by
    refine⟨hT,.inl rfl,?_⟩;have h1:=hd.self;unfold EM at h1 ⊢;simp only[Int.toNat_natCast]at h1 ⊢;unfold Dx;rw[Lk hn3 ha,if_pos rfl];exact h1
   obtain⟨fin,hfin,e4⟩:=OW (Dx w a b) a ha hdT;have e5:=Q0 x.sl {x.mt with fine:= !x.mt.fine} b b.toNat (by omega) hc.b.sl hc.b.mt;refine⟨fin,hfin,sK p176 ?_⟩;have hif:(if(6:Int)=6 then Dx w a b else w)=Dx w a b:=if_pos rfl;rw[hif];generalize Ml (Dx w a b) a=v at*;unfold Dx Hc at e4;rw[hxa]at e4;have hxe:({x with sl:=I2 x.sl {x.mt with fine:= !x.mt.fine} b.toNat}:AE)=⟨x.id,true,x.prime,x.image,⟨x.mt.gens,x.mt.bits,x.mt.fine,x.mt.old,x.mt.held,x.mt.last⟩,⟨(I2 x.sl {x.mt with fine:= !x.mt.fine} b.toNat).a,(I2 x.sl {x.mt with fine:= !x.mt.fine} b.toNat).b⟩,x.conn,x.sync,x.copies,x.wait⟩:=by rw[<-hu]
   rw[hxe]at e4;simp only[AD,lent,fSl,fM,fWo,AA,AJ]at e4 e5;generalize I2 x.sl {x.mt with fine:= !x.mt.fine} b.toNat=ts at*;rcases hfin with rfl|⟨rows,rfl⟩<;>simp (maxSteps:=9999999) [p176,  y1,hx',e2,e3,e4,e5,hu]
 ·obtain⟨fin,hfin,e4⟩:=OW w a ha hd;refine⟨fin,hfin,sK p176 ?_⟩;rw[if_neg h6];generalize Ml w a=v at*;simp only[fWo,AA,AJ]at e4;rcases hfin with rfl|⟨rows,rfl⟩<;>simp (maxSteps:=9999999) [p176,  y1,hx',e4,h5,h6,hu]
theorem Ot {n:AE} {to:Int} (h:nC n):nB (Ep n to).1/\(Ep n to).1.id=n.id:=by
 have h1:nB (IM n to):=⟨h.b.image,h.b.gens,h.b.bits,h.b.bit,CZ h.b.sl _,h.b.conn,h.b.sync,h.b.syn,by unfold IM A7;simp only[List.length_set];exact h.b.copies,h.b.wait⟩;unfold Ep;split
 ·split
  ·refine⟨⟨h.b.image,h.b.gens,h.b.bits,h.b.bit,h.b.sl,h.b.conn,by simp only[List.length_set];exact h.b.sync,λx hx=> ?_,h.b.copies,h.b.wait⟩,rfl⟩;rcases List.mem_or_eq_of_mem_set hx with hx|rfl
   ·exact h.b.syn x hx
   ·have h2:=F6 (n.sync.getD to.toNat []) ((n.sync.getD to.toNat []).getD 0 0);rcases Nat.lt_or_ge to.toNat n.sync.length with h3|h3
    ·obtain⟨y,_,_,_,hyd,hym⟩:=Ah n.sync h3;rw[hyd]at h2 ⊢;have:=h.b.syn y hym;omega
    ·have:n.sync.getD to.toNat []=[]:=by rw[List.getD_eq_getElem?_getD,List.getElem?_eq_none h3];rfl
     rw[this];simp[clr]
  ·split
   ·exact⟨h1,rfl⟩
   ·exact⟨h.b,rfl⟩
 ·exact⟨h.b,rfl⟩
theorem Hw {n:AE} (h:NOk n) {k:Nat} (hk:k<3):(n.copies.getD k false=true->n.conn.getD k false=true)/\(n.conn.getD k false=true->(k:Int)≠n.id):=by
 have h1:=Am h.lk hk;unfold lk lk2 at h1;simp only[Bool.and_eq_true,Bool.not_eq_true',Bool.and_eq_false_iff,Bool.or_eq_false_iff,decide_eq_false_iff_not]at h1;refine⟨λhc=> ?_,λhc=> ?_⟩
 ·rcases h1.2.1.2 with h2|h2
  ·rw[hc]at h2;cases h2
  ·simpa using h2
 ·rcases h1.2.2 with h2|h2
  ·rw[hc]at h2;cases h2
  ·exact h2.2
theorem IL {n:AE} {i k:Nat} (hid:n.id=i) (hi:i<3) (hk:k<3) (hg:n.mt.gens.length<=1000): ∀p∈(Ep n k).2,GU p:=by
 intro p hp;unfold Ep at hp;simp only[Int.toNat_natCast]at hp;split at hp
 ·rename_i hc;simp only[Bool.and_eq_true]at hc;have nn:=Ai hc.1.1;have hne:=(Hw nn hk).2 ((Hw nn hk).1 hc.2);rw[hid]at hne;split at hp
  ·rw[List.mem_singleton.1 hp];exact⟨i,k,hi,hk,by omega,hid,rfl,by simp⟩
  ·split at hp
   ·rw[List.mem_singleton.1 hp];exact⟨i,k,hi,hk,by omega,hid,rfl,hg⟩
   ·cases hp
 ·cases hp
theorem QO {n:AE} {to:Int}:(Ep n to).2.length<=1:=by
 unfold Ep;split
 ·split
  ·simp
  ·split<;>simp
 ·simp
def EP (w:AB) (a b:Nat):AB×Int:=
 if !(nd w a).copies.getD b false then(w,3)else if 40<=w.net.length then(w,4)
 else(DA {w with nodes:=w.nodes.set a (Ep (nd w a) b).1} (Ep (nd w a) b).2,0)
theorem Q8 [PKI] (w:AB) (a b:Nat) (ha:a<3) (hb:b<3) (hw:WI w): ∃fin,Tc fin/\sG 220 [.a (AA (fWo w)),.v (.sc (I6 a)),.v (.sc (I6 b))]=some ⟨[.a (AA (fWo (EP w a b).1)),.v (.sc (I6 (EP w a b).2))],fin,[]⟩:=by
 have hn3:=hw.n3;obtain⟨x,y1,_,hx',hxd,hxm⟩:=AX w.nodes zN (j:=a) (by omega);have hxa:nd w a=x:=hxd;have hc:=hw.node x hxm;have hid:x.id=a:=by rw[<-hxa];exact hw.id a ha
 obtain⟨c,q1,_,c1',hcd⟩:=Aj x.copies (j:=b) (by have:=hc.b.copies;omega);have e1:=Q6 x b hc.b;have nfin:Tc [none,none,none,none]:= .inl rfl;unfold EP;rw[hxa,hcd]
 cases c
 ·refine⟨_,nfin,sK p220 ?_⟩;simp (maxSteps:=9999999) [p220,  y1,hx',q1,c1']
 by_cases hnl:40<=w.net.length
 ·have hnl':(40:Int)<=w.net.length:=by omega
  refine⟨_,nfin,sK p220 ?_⟩;simp (maxSteps:=9999999) [p220,  y1,hx',q1,c1',hnl,hnl']
 have hnl': ¬ (40:Int)<=w.net.length:=by omega
 have hr:=Ot (to:=(b:Int)) hc;have hps:=IL (n:=x) hid ha hb (by have:=hc.gens;omega);have hpl:=QO (n:=x) (to:=(b:Int));simp only[AD,lent,fN,AA,AJ]at e1;generalize Ep x b=r at*;obtain⟨q,ps⟩:=r;simp only at hr hps hpl e1 ⊢;obtain⟨fin,hfin,e4⟩:=Ee {w with nodes:=w.nodes.set a q} ps ⟨by simp only[List.length_set];exact hn3,λy hy=>by
    rcases List.mem_or_eq_of_mem_set hy with hy|rfl
    ·exact hw.L.c3 y hy
    ·exact⟨hr.1.conn,hr.1.copies,hr.1.sync⟩,by have:=hw.net;simp only;omega⟩ (by omega) hps
 refine⟨fin,hfin,sK p220 ?_⟩;rw[if_neg (by simp),if_neg hnl];generalize DA {w with nodes:=w.nodes.set a q} ps=v at*;simp only[fWo,AA,AJ]at e4;rcases hfin with rfl|⟨rows,rfl⟩<;>simp (maxSteps:=9999999) [p220,  y1,hx',q1,c1',hnl,hnl',e1,e4]
def Hj (w:AB):Bool:=w.net.all λx=>J4 x.src x.dst
def Hh (w:AB) (kind:Int) (a b:Nat):AB×Int:=
 if kind=10 then(if(FG (nd w a) (nd w b) w.gen).2.2 then({w with nodes:=(w.nodes.set a (FG (nd w a) (nd w b) w.gen).1).set b (FG (nd w a) (nd w b) w.gen).2.1,safe:=De w.safe (nd w a).wait,gen:=w.gen+1},0)else(w,3))
 else if kind=11 then(if(Hz (nd w a) (nd w b) (Hj w)).2 then({w with nodes:=w.nodes.set a (Hz (nd w a) (nd w b) (Hj w)).1},0)else(w,3))
 else if(Fa (nd w a)).2 then({w with nodes:=w.nodes.set a (Fa (nd w a)).1},0)else(w,3)
@[simp] def xbox (a:Nat) (n:AE):Obj:= .box [.sc (I6 n.id),.sc (.bool n.up),.sc (.bool n.prime),.ref 0 [(a,3)],.ref 0 [(a,4)],.ref 0 [(a,5)],.sc (.bool n.mt.fine),.sc (.bool n.mt.old),.sc (.bool n.mt.held),.sc (I6 n.mt.last),.ref 0 [(a,10)],.ref 0 [(a,11)],.ref 0 [(a,12)],.ref 0 [(a,13)],.ref 0 [(a,14)],.ref 0 [(a,15)]]
@[simp] def st177 (w:AB) (x y:AE) (d:CD) (a b:Nat) (q:Bool) (j:Nat):St:={n:=129,m:=4,tm:=[(2,.pb 10000100 0),(3,.pb 10000101 0),(4,.pb 10000102 0),(6,.pb 10000103 0),(7,.pb 10000104 0),(11,.sc (.bool q)),(12,.sc (I6 j))],ob:=[(0,.arr 16 (enc fN w.nodes)),(1,.arr 3 (enc fW w.net)),(2,.arr 2 (enc fR w.log)),(3,.arr 1 (enc fI w.safe)),(10000100,.box [.ref 0 [],.ref 1 [],.ref 2 [],.ref 3 [],.sc (I6 w.gen)]),(10000101,.box [.sc (I6 d.kind),.sc (I6 d.a),.sc (I6 d.b)]),(10000102,.box [.nil 16,.nil 3,.nil 2,.nil 1,.sc (I6 0)]),(10000103,xbox a x),(10000104,xbox b y)]}
theorem lp_Role [PKI] (w:AB) (x y:AE) (d:CD) (a b:Nat) (hn:w.net.length<=1000): ∀ (t:St),t.m<=10000100->Aa 10000100 [2,3,4,6,7,11,12] t=st177 w x y d a b true 0->A6 G PK md 10000100 [2,3,4,6,7,11,12] b177_0 t=xG b177_0 (st177 w x y d a b (Hj w) w.net.length):=by
 have hf:w.net.take w.net.length=w.net:=List.take_length;have h:= @lok _ 10000100 [2,3,4,6,7,11,12] b177_0 (λj=>st177 w x y d a b ((w.net.take j).all λx=>J4 x.src x.dst) j) w.net.length (λj hj=>by
  obtain⟨v,y1,hv,hv',_,hvm⟩:=AX w.net zW hj;have hinc:=Ar hj (by omega);have hsn:(w.net.take (j+1)).all (λx=>J4 x.src x.dst)=((w.net.take j).all (λx=>J4 x.src x.dst)&&J4 v.src v.dst):=by rw[DJ hv,List.all_append];simp
  rw[hsn];have e:=L7 v.src v.dst;generalize (w.net.take j).all (λx=>J4 x.src x.dst)=q
  cases q<;>simp[b177_0,  hj,hv',hinc,e]) (by simp[b177_0])
 simp only[hf]at h;exact h
theorem SZ [PKI] (w:AB) (kind b:Int):sG 177 [.a (AA (fWo w)),.a (AD (fD ⟨kind,2,b⟩))]=some ⟨[.a (AA (fWo w)),.v (.sc (I6 3))],[none,none,none,none],[]⟩:=by
 refine sK p177 ?_;simp[p177]
theorem Tj [PKI] (w:AB) (kind b0:Int) (a b:Nat) (hab:a=0/\b=1\/a=1/\b=0) (hw:WI w) (hg:0<=w.gen/\w.gen<=100000): ∃fin,SN fin/\sG 177 [.a (AA (fWo w)),.a (AD (fD ⟨kind,a,b0⟩))]=some ⟨[.a (AA (fWo (Hh w kind a b).1)),.v (.sc (I6 (Hh w kind a b).2))],fin,[]⟩:=by
 have hn3:=hw.n3;obtain⟨x,y1,_,hx',hxd,hxm⟩:=AX w.nodes zN (j:=a) (by omega);obtain⟨y,y2,_,hy',hyd,hym⟩:=AX w.nodes zN (j:=b) (by omega);have hxa:nd w a=x:=hxd;have hyb:nd w b=y:=hyd;have hcx:=hw.node x hxm;have hcy:=hw.node y hym;have hne:a≠b:=by omega
 have hne':b≠a:=by omega
 have ha2: ¬ (a:Int)=2:=by omega
 have ha2': ¬a=2:=by omega
 have w1:IntKind.wrap .i64 (1 - (a:Int))=(b:Int):=by rw[AC (by omega) (by omega)];omega
 unfold Hh;rw[hxa,hyb];by_cases h10:kind=10
 ·subst h10;have e1:=Q3 x y w.gen hcx.b hcy.b hcx.gens;simp only[AD,lent,fN,AA,AJ]at e1;generalize FG x y w.gen=r at*;obtain⟨r1,r2,r3⟩:=r;simp only at e1 ⊢
  cases r3
  ·refine⟨_,⟨none,none,rfl⟩,sK p177 ?_⟩;simp (maxSteps:=9999999) [p177,  y1,y2,hx',hy',ha2,ha2',w1,e1,hne,hne']
  ·have hwl:=hcx.wait;have w2:IntKind.wrap .i64 (w.gen+1)=w.gen+1:=AC (by omega) (by omega);obtain⟨fin,hfin,e2⟩:=IC ((enc fN w.nodes).set a [.sc (I6 x.id),.sc (.bool x.up),.sc (.bool x.prime),.sl 1 (enc fI x.image),.sl 1 (enc fI x.mt.gens),.sl 1 (enc fII x.mt.bits),.sc (.bool x.mt.fine),.sc (.bool x.mt.old),.sc (.bool x.mt.held),.sc (I6 x.mt.last),
    .sl 1 (enc fU x.sl.a),.sl 1 (enc fU x.sl.b),.sl 1 (enc fL x.conn),.sl 1 (enc fII x.sync),.sl 1 (enc fL x.copies),.hole]) w x.wait (by omega) (by have:=hw.safe;omega)
   have hst: ∀ (p q:AE),((w.nodes.set a p).set b q)=(w.nodes.set a p).set b q:=λ_ _=>rfl
   rcases hfin with ⟨rfl,_⟩|⟨rfl,_⟩
   ·refine⟨_,⟨none,none,rfl⟩,sK p177 ?_⟩;simp (maxSteps:=9999999) [p177,  y1,y2,hx',hy',ha2,ha2',w1,w2,e1,e2,hne,hne',List.getElem_set]
   ·refine⟨_,⟨none,some (enc fI w.safe),rfl⟩,sK p177 ?_⟩;simp (maxSteps:=9999999) [p177,  y1,y2,hx',hy',ha2,ha2',w1,w2,e1,e2,hne,hne',List.getElem_set]
 by_cases h11:kind=11
 ·subst h11;have e1:=Q2 x y (Hj w) hcx.b.nS hcy.b.nS;have hlp:=lp_Role w x y ⟨11,a,b0⟩ a b (by have:=hw.net;omega);simp only[AD,lent,fN,AA,AJ]at e1;generalize Hj w=qt at*;generalize Hz x y qt=r at*;obtain⟨r1,r2⟩:=r;simp only at e1 ⊢;refine⟨_,⟨none,none,rfl⟩,sK p177 ?_⟩;simp (maxSteps:=9999999) [p177,  y1,y2,hx',hy',ha2,ha2',w1,hne,hne'];rw[hlp]
  ·cases r2
   ·simp (maxSteps:=9999999) [b177_0,  y1,y2,hx',hy',ha2,ha2',w1,e1,hne,hne']
   ·simp (maxSteps:=9999999) [b177_0,  y1,y2,hx',hy',ha2,ha2',w1,e1,hne,hne']
  ·simp
  ·simp
 ·have e1:=PU x hcx.b.nS;simp only[AD,lent,fN,AA,AJ]at e1;generalize Fa x=r at*;obtain⟨r1,r2⟩:=r;simp only at e1 ⊢;refine⟨_,⟨none,none,rfl⟩,sK p177 ?_⟩
  cases r2
  ·simp (maxSteps:=9999999) [p177,  y1,y2,hx',hy',ha2,ha2',h10,h11,w1,e1,hne,hne']
  ·simp (maxSteps:=9999999) [p177,  y1,y2,hx',hy',ha2,ha2',h10,h11,w1,e1,hne,hne']
structure GvS where
 s:LI
 sh:Nat
def gvF (q:LI) (g:GvS) (x:Int):GvS:=if x∈q then g else⟨DX g.s x,if g.sh=0 then(if(DX g.s x).length=g.s.length then 2 else 1)else g.sh⟩
theorem gv_s (q:LI): ∀ (l:LI) (g:GvS),(l.foldl (gvF q) g).s=De g.s (l.filter λn=> !decide (n∈q))
 |[],g=>rfl
 |x::l,g=>by
  have h1:(x::l).foldl (gvF q) g=l.foldl (gvF q) (gvF q g x):=rfl;rw[h1,gv_s q l];by_cases hx:x∈q
  ·have h2:gvF q g x=g:=by unfold gvF;rw[if_pos hx]
   have h3:(x::l).filter (λn=> !decide (n∈q))=l.filter (λn=> !decide (n∈q)):=by simp[hx]
   rw[h2,h3]
  ·have h2:(gvF q g x).s=DX g.s x:=by unfold gvF;rw[if_neg hx]
   have h3:(x::l).filter (λn=> !decide (n∈q))=x::l.filter (λn=> !decide (n∈q)):=by simp[hx]
   rw[h2,h3];rfl
theorem Ub (q:LI) (s0:LI): ∀ (l:LI) (g:GvS),g.sh<3/\(g.sh=0->g.s=s0)->(l.foldl (gvF q) g).sh<3/\((l.foldl (gvF q) g).sh=0->(l.foldl (gvF q) g).s=s0)
 |[],g,h=>h
 |x::l,g,h=>by
  simp only[List.foldl_cons];refine Ub q s0 l _ ?_;unfold gvF;split
  ·exact h
  ·simp only;split
   ·split<;>exact⟨by omega,λh=>by omega⟩
   ·exact⟨h.1,λh2=>by omega⟩
@[simp] def Wf (n:AE) (q:Nat):Obj:= .box [.sc (I6 n.id),.sc (.bool n.up),.sc (.bool n.prime),.ref 0 [(q,3)],.ref 0 [(q,4)],.ref 0 [(q,5)],.sc (.bool n.mt.fine),.sc (.bool n.mt.old),.sc (.bool n.mt.held),.sc (I6 n.mt.last),.ref 0 [(q,10)],.ref 0 [(q,11)],.ref 0 [(q,12)],.ref 0 [(q,13)],.ref 0 [(q,14)],.ref 0 [(q,15)]]
@[simp] def obV (w:AB) (R:List (List T)) (r1:AE) (q:Nat) (wt:LI) (ps:List Bz) (g:GvS) (o:Nat):List (Nat×Obj):=
 if g.sh=0 then [(0,.arr 16 (enc fN w.nodes)),(1,.arr 3 R),(2,.arr 2 (enc fR w.log)),(3,.arr 1 (enc fI g.s)),(o,.box [.ref 0 [],.ref (o+5) [],.ref 2 [],.ref 3 [],.sc (I6 w.gen)]),(o+1,.box [.nil 16,.nil 3,.nil 2,.nil 1,.sc (I6 0)]),(o+2,.arr 1 (enc fI wt)),(o+3,Wf r1 q),(o+4,.arr 7 (enc fP ps)),(o+5,.arr 3 (enc fW w.net))]
 else if g.sh=1 then [(0,.arr 16 (enc fN w.nodes)),(1,.arr 3 R),(2,.arr 2 (enc fR w.log)),(3,.arr 1 (enc fI w.safe)),(o,.box [.ref 0 [],.ref (o+5) [],.ref 2 [],.ref (o+6) [],.sc (I6 w.gen)]),(o+1,.box [.nil 16,.nil 3,.nil 2,.nil 1,.sc (I6 0)]),(o+2,.arr 1 (enc fI wt)),(o+3,Wf r1 q),(o+4,.arr 7 (enc fP ps)),(o+5,.arr 3 (enc fW w.net)),(o+6,.arr 1 (enc fI g.s))]
 else [(0,.arr 16 (enc fN w.nodes)),(1,.arr 3 R),(2,.arr 2 (enc fR w.log)),(o,.box [.ref 0 [],.ref (o+5) [],.ref 2 [],.ref (o+6) [],.sc (I6 w.gen)]),(o+1,.box [.nil 16,.nil 3,.nil 2,.nil 1,.sc (I6 0)]),(o+2,.arr 1 (enc fI wt)),(o+3,Wf r1 q),(o+4,.arr 7 (enc fP ps)),(o+5,.arr 3 (enc fW w.net)),(o+6,.arr 1 (enc fI g.s))]
@[simp] def st173_0 (w:AB) (R:List (List T)) (r1:AE) (q:Nat) (wt:LI) (ps:List Bz) (g:GvS) (j:Nat):St:={n:=170,m:=4,tm:=[(2,.pb 10000200 0),(4,.pb 10000201 0),(11,.ref 10000202 []),(12,.pb 10000203 0),(13,.ref 10000204 []),(14,.sc (I6 j))],ob:=obV w R r1 q wt ps g 10000200}
theorem Wq [PKI] (w:AB) (R:List (List T)) (r1:AE) (q:Nat) (wt:LI) (ps:List Bz) (hq:w.nodes[q]? =some r1) (hwt:wt.length<=1000) (hr:r1.wait.length<=1000000) (hs:w.safe.length<=1000): ∀ (t:St),t.m<=10000200->Aa 10000200 [2,4,11,12,13,14] t=st173_0 w R r1 q wt ps ⟨w.safe,0⟩ 0->A6 G PK md 10000200 [2,4,11,12,13,14] b173_0 t=xG b173_0 (st173_0 w R r1 q wt ps (wt.foldl (gvF r1.wait) ⟨w.safe,0⟩) wt.length):=by
 have hf:wt.take wt.length=wt:=List.take_length;obtain⟨hq1,hq2⟩:=BT hq;have h:= @lok _ 10000200 [2,4,11,12,13,14] b173_0 (λj=>st173_0 w R r1 q wt ps ((wt.take j).foldl (gvF r1.wait) ⟨w.safe,0⟩) j) wt.length (λj hj=>by
  obtain⟨x,hx⟩:=AF hj;obtain⟨_,hx'⟩:=BT hx;have hinc:=Ar hj (by omega);have hsh:=Ub r1.wait w.safe (wt.take j) ⟨w.safe,0⟩ ⟨by simp,λ_=>rfl⟩;have hlen:((wt.take j).foldl (gvF r1.wait) ⟨w.safe,0⟩).s.length<=2000:=by
   rw[gv_s];have h1:=GQ ((wt.take j).filter λn=> !decide (n∈r1.wait)) w.safe;have h2:=List.length_filter_le (λn=> !decide (n∈r1.wait)) (wt.take j);have h3:(wt.take j).length<=wt.length:=by rw[List.length_take];omega
   simp only at h1 ⊢;omega
  rw[Bi (gvF r1.wait) _ wt hx];generalize (wt.take j).foldl (gvF r1.wait) ⟨w.safe,0⟩=g at*;obtain⟨s,sh⟩:=g;simp only at hsh hlen;have e:=Cq r1.wait x (by omega);unfold gvF;by_cases hm:x∈r1.wait
  ·obtain⟨h1,_⟩:=hsh;rcases(show sh=0\/sh=1\/sh=2 by omega)with rfl|rfl|rfl<;>simp[b173_0,  hj,hx',hq1,hq2,e,hm,hinc]
  ·obtain⟨fin,hfin,e2⟩:=IC (enc fN w.nodes) {w with safe:=s} [x] (by simp) (by simp only;omega);have hs1:De s [x]=DX s x:=rfl;simp only[hs1,BN,BA,fI]at e2 hfin;obtain⟨h1,h0⟩:=hsh;rcases(show sh=0\/sh=1\/sh=2 by omega)with rfl|rfl|rfl
   ·have:=h0 rfl;subst this;rcases hfin with ⟨rfl,h⟩|⟨rfl,h⟩<;>simp[b173_0,  hj,hx',hq1,hq2,e,e2,hm,hinc,h]
   ·rcases hfin with ⟨rfl,h⟩|⟨rfl,h⟩<;>simp[b173_0,  hj,hx',hq1,hq2,e,e2,hm,hinc,h]
   ·rcases hfin with ⟨rfl,h⟩|⟨rfl,h⟩<;>simp[b173_0,  hj,hx',hq1,hq2,e,e2,hm,hinc,h]) (by
  have hsh:=(Ub r1.wait w.safe (wt.take wt.length) ⟨w.safe,0⟩ ⟨by simp,λ_=>rfl⟩).1;generalize (wt.take wt.length).foldl (gvF r1.wait) ⟨w.safe,0⟩=g at*;obtain⟨s,sh⟩:=g;simp only at hsh;rcases(show sh=0\/sh=1\/sh=2 by omega)with rfl|rfl|rfl<;>simp[b173_0])
 simp only[hf]at h;exact h
end Go.Proofs.YtghgecpicnfgpaaGreat.Ow
