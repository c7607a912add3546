/- Functions evaluated on the small machine: Messages packed and unpacked: what the reference makes, Worlds copied, wires read, what is safe: what the reference makes, Wires read, what is safe: what the reference makes, What is told safe: what the reference makes of a world. -/
import Derived.Test.YtghgecpicnfgpaaGreatEv14
import Derived.Test.YtghgecpicnfgpaaGreatEv13
import Derived.Test.YtghgecpicnfgpaaGreatEv8
namespace Go.Proofs.YtghgecpicnfgpaaGreat.Ow
open Go
set_option linter.unusedVariables false
set_option linter.unusedSimpArgs false
set_option maxHeartbeats 8000000
def DY (l:List A2):LI:=(l.map Av).flatten
def Lg (l:List A2):LI:=FI (DY l)
theorem No {l:List A2} {j:Nat} {x:A2} (h:l[j]? =some x):DY (l.take (j+1))=DY (l.take j)++Av x:=by
 unfold DY;rw[List.take_add_one,h];simp
theorem GW: ∀l:List A2,(DY l).length<=94*l.length
 |[]=>by simp[DY]
 |m::l=>by
  have h1:=GW l;have h2:=DN m;have h3:DY (m::l)=Av m++DY l:=by simp[DY]
  rw[h3,List.length_append,List.length_cons];omega
theorem GX: ∀l:List A2,by8 (DY l)
 |[]=>λx hx=>by cases hx
 |m::l=>by
  have h3:DY (m::l)=Av m++DY l:=by simp[DY]
  rw[h3];exact By (Eo m) (GX l)
@[simp] def st251 (l:List A2) (out:LI) (j:Nat):St:={n:=21,m:=0,tm:=[(0,.im 5 (enc fMs l)),(3,.ref 10000000 []),(4,.sc (I6 j))],ob:=[(10000000,.arr 1 (enc fU out))]}
theorem Kv [PKI] (l:List A2) (hl:l.length<=10000) (hg: ∀m∈l,m.gens.length<=1048576):sG 251 [.v (.im 5 (enc fMs l))]=some ⟨[.v (.own 1 (enc fU (Lg l)))],[],[]⟩:=by
 refine sK p251 ?_;have hs:= @lok _ 10000000 [0,3,4] b251_0 (λj=>st251 l (DY (l.take j)) j) l.length (λj hj=>by
  obtain⟨x,hx⟩:=AF hj;obtain⟨_,hx'⟩:=BT hx;have hinc:=Ar hj (by omega);have e:=DP x (hg x (List.mem_of_getElem? hx));simp only[AD,lent,fMs]at e;have hlen:=GW (l.take j);have ht:(l.take j).length<=10000:=by rw[List.length_take];omega
  have h2:=DN x;simp only[No hx];generalize DY (l.take j)=o at hlen ⊢;generalize Av x=mb at*;have g1:o.length+mb.length<=35184372088832:=by omega
  simp[b251_0,  hj,hx',hinc,e,g1,AU]) (by simp[b251_0])
 have hf:l.take l.length=l:=List.take_length;have hlen:=GW l;have e:=Mu (DY l) ⟨by omega,GX l⟩;have hz:DY []=[]:=rfl;unfold Lg;simp[p251];rw[hs]
 ·simp[b251_0,hf,e]
 ·simp
 ·simp[hz]
structure UnS where
 ok:Bool
 at_:Nat
 out:List A2
def unF (An:LI) (s:UnS):UnS:=match Da An s.at_ with
 |some (m,n)=>⟨true,n,s.out++[m]⟩
 |none=>⟨false,0,s.out++[zMs]⟩
def unR (b:LI):UnS:=wh (λs=>s.ok&&decide (s.at_<((Bl b).getD []).length)) (unF ((Bl b).getD [])) (((Bl b).getD []).length+1) ⟨(Bl b).isSome,0,[]⟩
def Ez (b:LI):Option (List A2):=if(unR b).ok&&decide (Lg (unR b).out=b)then some (unR b).out else none
theorem Pm {b:LI} {r:LI} (h:Bl b=some r):r.length<=3000:=by
 unfold Bl at h;split at h
 ·split at h
  ·cases h
  ·cases h;omega
 ·cases h
theorem WE {out:LI} (h:by8 out) (e:Nat): ∀j,by8 (rep out e j)
 |0=>h
 |j+1=>by
  have ih:=WE h e j;refine By ih λx hx=> ?_
  rw[List.mem_singleton.1 hx];generalize rep out e j=o at ih ⊢;rw[List.getD_eq_getElem?_getD];rcases Nat.lt_or_ge (o.length - e) o.length with h1|h1
  ·rw[List.getElem?_eq_getElem h1];exact ih _ (List.getElem_mem h1)
  ·rw[List.getElem?_eq_none h1];exact⟨by decide,by decide⟩
theorem Ug {b:LI} (hb:by8 b) (i:Nat):0<=b.getD i 0/\b.getD i 0<256:=by
 rw[List.getD_eq_getElem?_getD];rcases Nat.lt_or_ge i b.length with h|h
 ·rw[List.getElem?_eq_getElem h];exact hb _ (List.getElem_mem h)
 ·rw[List.getElem?_eq_none h];exact⟨by decide,by decide⟩
theorem spF_by {b:LI} (hb:by8 b) {s s':Nat×LI} (hs:by8 s.2) (h:spF b s=some s'):by8 s'.2:=by
 have h1:=Ug hb s.1;have h2:=Ug hb (s.1+1);have one: ∀x:Int,0<=x/\x<256->by8 [x]:=λx hx y hy=>by rw[List.mem_singleton.1 hy];exact hx
 unfold spF at h;split at h
 ·cases h;exact By hs (one _ h1)
 ·split at h
  ·cases h
  ·split at h
   ·split at h
    ·cases h
    ·cases h;exact By hs (one _ h2)
   ·split at h
    ·split at h
     ·cases h
     ·cases h;exact WE hs _ _
    ·cases h
theorem wo_by {b:LI} (hb:by8 b) (g:Nat×LI->Bool): ∀ (n:Nat) (s r:Nat×LI),by8 s.2->wo g (spF b) n s=some r->by8 r.2
 |0,s,r,hs,h=>by simp only[wo,Option.some.injEq]at h;rw[<-h];exact hs
 |n+1,s,r,hs,h=>by
  simp only[wo]at h;split at h
  ·split at h
   ·rename_i s' hs';exact wo_by hb g n s' r (spF_by hb hs hs') h
   ·cases h
  ·cases h;exact hs
theorem Pk {b r:LI} (hb:by8 b) (h:Bl b=some r):by8 r:=by
 unfold Bl at h;split at h
 ·rename_i q hq;split at h
  ·cases h
  ·cases h
   exact wo_by hb _ _ _ _ (λx hx=>by cases hx) hq
 ·cases h
theorem Ht {b:LI} {a:Nat} {m:A2} {n:Nat} (ha:a<=b.length) (h:Da b a=some (m,n)):a<n/\n<=b.length/\C3 m=true/\m.gens.length<=12:=by
 unfold Da at h;split at h
 ·rename_i hc;simp only[Option.some.injEq,Prod.mk.injEq]at h;obtain⟨h1,h2⟩:=h;simp only[Bool.and_eq_true]at hc;have h3:=hc.2;rw[h1]at h2 h3;unfold Nw at h3;simp only[Bool.and_eq_true,decide_eq_true_iff]at h3;have hm:C3 m=true:=by
   cases hk:C3 m
   ·have:Av m=[]:=by unfold Av;rw[hk];rfl
    rw[this]at h3;simp at h3
   ·rfl
  exact⟨by omega,by omega,hm,G5 hm⟩
 ·cases h
@[simp] def st248 (b An:LI) (s:UnS):St:={n:=49,m:=0,tm:=[(0,.im 1 (enc fU b)),(4,.ref 10000000 []),(5,.ref 10000001 []),(6,.sc (.bool s.ok)),(7,.sc (I6 s.at_))],ob:=[(10000000,.arr 5 (enc fMs s.out)),(10000001,.arr 1 (enc fU An))]}
def unI (An:LI) (s:UnS):Prop:=s.at_<=An.length/\s.out.length<=(if s.ok then s.at_ else An.length+1)/\ ∀m∈s.out,m.gens.length<=12
theorem OJ [PKI] (b:LI) (hb:byt b):sG 248 [.v (.im 1 (enc fU b))]=some ⟨[.v (.own 5 (enc fMs ((Ez b).getD []))),.v (.sc (.bool (Ez b).isSome))],[],[]⟩:=by
 refine sK p248 ?_;have e1:=OK b hb;have hfl:((Bl b).getD []).length<=3000:=by
  cases h:Bl b with
  |none=>simp
  |some r=>exact Pm h
 have hfb:by8 ((Bl b).getD []):=by
  cases h:Bl b with
  |none=>intro x hx;cases hx
  |some r=>exact Pk hb.2 h
 unfold Ez unR;generalize (Bl b).getD []=An at*;generalize (Bl b).isSome=ok0 at*;obtain⟨⟨hinv,hg⟩,hs⟩:= @Qr G PK md 10000000 [0,4,5,6,7] b248_0 _ (st248 b An) (λs=>s.ok&&decide (s.at_<An.length)) (unF An) (unI An) (λs=>if s.ok then An.length - s.at_+1 else 0) (λs hi hg=>by
   obtain⟨ok,a,out⟩:=s;simp only[Bool.and_eq_true,decide_eq_true_iff]at hg;obtain⟨rfl,hlt⟩:=hg;obtain⟨i1,i2,i3⟩:=hi;simp only[if_true]at i2;have e:=JI An a ⟨by omega,hfb⟩ (by simp only at i1;omega) (by omega);have g1:(out.length+1)*56<=35184372088832:=by omega
   unfold unF;simp only
   cases hm:Da An a with
   |none=>
    rw[hm]at e;simp only[Option.map_none,Option.getD_none,Option.isSome_none,AA,AJ,fMs,zMs]at e;refine⟨⟨by simp only;omega,by simp only[List.length_append,List.length_cons,List.length_nil,Bool.false_eq_true,if_false];omega,λm hm=> ?_⟩,by simp,?_⟩
    ·rcases List.mem_append.1 hm with h|h
     ·exact i3 m h
     ·rw[List.mem_singleton.1 h];simp[zMs]
    ·simp[b248_0,  hlt,e,g1];simp[enc,zMs]
   |some q=>
    obtain⟨m,n⟩:=q;rw[hm]at e;obtain⟨q1,q2,q3,q4⟩:=Ht (by simp only at i1;omega) hm;simp only[Option.map_some,Option.getD_some,Option.isSome_some,AA,AJ,fMs]at e;refine⟨⟨q2,by simp only[List.length_append,List.length_cons,List.length_nil,if_true];omega,λm' hm'=> ?_⟩,by simp only[if_true];omega,?_⟩
    ·rcases List.mem_append.1 hm' with h|h
     ·exact i3 m' h
     ·rw[List.mem_singleton.1 h];exact q4
    ·simp[b248_0,  hlt,e,g1];simp[enc]) (λs hi hg=>by
   obtain⟨ok,a,out⟩:=s
   cases ok
   ·simp[b248_0]
   ·have hlt: ¬a<An.length:=by simpa using hg
    simp[b248_0,  hlt]) (An.length+1) ⟨ok0,0,[]⟩ ⟨by simp,by simp,λm hm=>by cases hm⟩ (by simp only;split<;>omega)
 generalize wh (λs=>s.ok&&decide (s.at_<An.length)) (unF An) (An.length+1) ⟨ok0,0,[]⟩=r at*;obtain⟨ok,a,out⟩:=r;obtain⟨i1,i2,i3⟩:=hinv;have hol:out.length<=3001:=by simp only at i1 i2;split at i2<;>omega
 have e2:=Kv out (by omega) (λm hm=>by have:=i3 m hm;omega);have pb:by8 (Lg out):=Jd _ (GX out);simp[p248,  e1];rw[hs]
 ·cases ok
  ·simp[b248_0,  CV]
  ·have hlt: ¬a<An.length:=by simpa using hg
   generalize Lg out=pk at*;have hb1:=Bb pk;have hb2:=Bb b;by_cases h7:pk=b
   ·have hu:u8s pk=u8s b:=by rw[h7]
    have hs2:(u8s pk==u8s b)=true:=by rw[hu];exact beq_self_eq_true _
    have hu:=eq_true hu;have h7':=eq_true h7;simp[b248_0,  hlt,e2,hb1,hb2,hs2,hu,h7']
   ·have hu: ¬u8s pk=u8s b:=λe=>h7 (Gw pb hb.2 e)
    have hs2:(u8s pk==u8s b)=false:=by simpa using hu
    simp[b248_0,  hlt,e2,hb1,hb2,hs2,hu,h7]
 ·simp
 ·simp
@[simp] def zwb:Obj:= .box [.nil 16,.nil 3,.nil 2,.nil 1,.sc (I6 0)]
@[simp] def st118_1 (w:AB) (j:Nat):St:=
 if j=0 then {n:=69,m:=0,tm:=[(1,.pb 10000000 0),(2,.pb 10000001 0),(3,.pb 10000002 0),(4,.sc (I6 j))],ob:=[(10000000,Ey w),(10000001,zwb),(10000002,.box [.nil 16,.nil 3,.ref 10000003 [],.ref 10000004 [],.sc (I6 w.gen)]),(10000003,.arr 2 (enc fR w.log)),(10000004,.arr 1 (enc fI w.safe))]}
 else {n:=69,m:=0,tm:=[(1,.pb 10000000 0),(2,.pb 10000001 0),(3,.pb 10000002 0),(4,.sc (I6 j))],ob:=[(10000000,Ey w),(10000001,zwb),(10000002,.box [.ref 10000003 [],.nil 3,.ref 10000004 [],.ref 10000005 [],.sc (I6 w.gen)]),(10000003,.arr 16 (enc fN (w.nodes.take j))),(10000004,.arr 2 (enc fR w.log)),(10000005,.arr 1 (enc fI w.safe))]}
@[simp] def st118_0 (w:AB) (j:Nat):St:=
 if j=0 then {n:=69,m:=0,tm:=[(1,.pb 10000200 0),(2,.pb 10000201 0),(3,.pb 10000202 0),(5,.sc (I6 j))],ob:=[(10000200,Ey w),(10000201,zwb),(10000202,.box [.ref 10000203 [],.nil 3,.ref 10000204 [],.ref 10000205 [],.sc (I6 w.gen)]),(10000203,.arr 16 (enc fN w.nodes)),(10000204,.arr 2 (enc fR w.log)),(10000205,.arr 1 (enc fI w.safe))]}
 else {n:=69,m:=0,tm:=[(1,.pb 10000200 0),(2,.pb 10000201 0),(3,.pb 10000202 0),(5,.sc (I6 j))],ob:=[(10000200,Ey w),(10000201,zwb),(10000202,.box [.ref 10000203 [],.ref 10000204 [],.ref 10000205 [],.ref 10000206 [],.sc (I6 w.gen)]),(10000203,.arr 16 (enc fN w.nodes)),(10000204,.arr 3 (enc fW (w.net.take j))),(10000205,.arr 2 (enc fR w.log)),(10000206,.arr 1 (enc fI w.safe))]}
theorem Ws [PKI] (w:AB) (hw:wS w): ∀ (s:St),s.m<=10000000->Aa 10000000 [1,2,3,4] s=st118_1 w 0->A6 G PK md 10000000 [1,2,3,4] b118_1 s=xG b118_1 (st118_1 w w.nodes.length):=
 @lok _ 10000000 [1,2,3,4] b118_1 (st118_1 w) w.nodes.length (λj hj=>by
  obtain⟨x,y1,hx,hx',_,hxm⟩:=AX w.nodes zN hj;have hinc:=Ar hj hw.nodes;have hwn:=hw.nodes;have e:=B5 x (hw.node x hxm);simp only[AD,lent,fN,AA,AJ]at e;have g5:(j+1)*248<=35184372088832:=by omega
  have hmin:min j w.nodes.length=j:=by omega
  have hen:enc fN (List.take (j+1) w.nodes)=enc fN (List.take j w.nodes)++[fN x]:=by rw[DJ hx];simp[enc]
  by_cases h0:j=0
  ·subst h0;simp at hx' hinc hen;simp (maxSteps:=9999999) [b118_1,  hj,hx',e,hinc];simpa using hen.symm
  ·simp at hen;simp (maxSteps:=9999999) [b118_1,  hj,hx',e,g5,hmin,hinc,h0,hen]) (by
  by_cases h0:w.nodes.length=0
  ·simp[b118_1,h0]
  ·simp[b118_1,h0])
theorem Wt [PKI] (w:AB) (hw:wS w): ∀ (s:St),s.m<=10000200->Aa 10000200 [1,2,3,5] s=st118_0 w 0->A6 G PK md 10000200 [1,2,3,5] b118_0 s=xG b118_0 (st118_0 w w.net.length):=
 @lok _ 10000200 [1,2,3,5] b118_0 (st118_0 w) w.net.length (λj hj=>by
  obtain⟨x,y1,hx,hx',_,hxm⟩:=AX w.net zW hj;have hinc:=Ar hj hw.net;have hwn:=hw.net;have hxl:=(hw.wire x hxm).1;have g3:x.bytes.length<=35184372088832:=by omega
  have g5:(j+1)*40<=35184372088832:=by omega
  have hmin:min j w.net.length=j:=by omega
  have hen:enc fW (List.take (j+1) w.net)=enc fW (List.take j w.net)++[fW x]:=by rw[DJ hx];simp[enc]
  by_cases h0:j=0
  ·subst h0;simp at hx' hinc hen;simp (maxSteps:=9999999) [b118_0,  hj,hx',g3,hinc];simpa using hen.symm
  ·simp at hen;simp (maxSteps:=9999999) [b118_0,  hj,hx',g3,g5,hmin,hinc,h0,hen]) (by
  by_cases h0:w.net.length=0
  ·simp[b118_0,h0]
  ·simp[b118_0,h0])
theorem Tp [PKI] (w:AB) (hw:wS w) (h3:w.nodes.length≠0):sG 118 [.a (AD (fWo w))]=some ⟨[.a (AA (fWo w))],[],[]⟩:=by
 refine sK p118 ?_;have h1:=Ws w hw;have h0:=Wt w hw;have a1:=hw.log;have a2:=hw.safe;have g1:w.log.length<=2199023255552:=by omega
 have g2:w.log.length*16<=35184372088832:=by omega
 have g3:w.safe.length<=4398046511104:=by omega
 have g4:w.safe.length*8<=35184372088832:=by omega
 have fl:An (enc fR w.log)=true:=Fh (λ_=>rfl) _;simp (maxSteps:=9999999) [p118,  g1,g2,g3,g4,fl];rw[h1]
 ·simp[b118_1,h3];rw[h0]
  ·by_cases hn:w.net.length=0
   ·have:w.net=[]:=List.eq_nil_of_length_eq_zero hn;simp[b118_0,this]
   ·simp[b118_0,hn]
  ·simp
  ·simp
 ·simp
 ·simp
def J4 (a b:Int):Bool:=decide (a=2)||decide (b=2)
theorem L7 [PKI] (a b:Int):sG 226 [.v (.sc (I6 a)),.v (.sc (I6 b))]=some ⟨[.v (.sc (.bool (J4 a b)))],[],[]⟩:=by
 refine sK p226 ?_;unfold J4;by_cases h:a=2
 ·simp[p226,  h]
 ·simp[p226,  h]
  try rfl
def Fx (x:BD):Option A2:=
 if J4 x.src x.dst then(match Ez x.bytes with
  |some [m]=>some m
  |_=>none)
 else(match Da x.bytes 0 with
  |some (m,n)=>if n=x.bytes.length then some m else none
  |none=>none)
theorem Tk [PKI] (x:BD) (hb:byt x.bytes) (hb1:x.bytes.length<=1000000):sG 211 [.a (AD (fW x))]=some ⟨[.a (AA (fMs ((Fx x).getD zMs))),.v (.sc (.bool (Fx x).isSome))],[],[]⟩:=by
 refine sK p211 ?_;have e1:=L7 x.src x.dst;have e2:=OJ x.bytes hb;have e3:=JI x.bytes 0 hb (Nat.zero_le _) hb1;unfold Fx
 cases hf:J4 x.src x.dst
 ·rw[hf]at e1;simp only[Bool.false_eq_true,if_false]
  cases hm:Da x.bytes 0 with
  |none=>
   rw[hm]at e3;simp only[Option.map_none,Option.getD_none,Option.isSome_none,AA,AJ,fMs,zMs]at e3;simp at e3;simp[p211,  e1,e3,zMs]
  |some q=>
   obtain⟨m,n⟩:=q;rw[hm]at e3;simp only[Option.map_some,Option.getD_some,Option.isSome_some,AA,AJ,fMs]at e3;simp at e3;by_cases hn:n=x.bytes.length
   ·have hn':(n:Int)=x.bytes.length:=by omega
    simp[p211,  e1,e3,eq_true hn,eq_true hn',zMs]
   ·have hn': ¬ (n:Int)=x.bytes.length:=by omega
    simp[p211,  e1,e3,hn,hn',zMs]
 ·rw[hf]at e1;simp only[if_true]
  cases hu:Ez x.bytes with
  |none=>
   rw[hu]at e2;simp only[Option.getD_none,Option.isSome_none,BA]at e2;simp[p211,  e1,e2,zMs]
  |some l=>
   rw[hu]at e2;simp only[Option.getD_some,Option.isSome_some]at e2;rcases l with _|⟨m,_|⟨m2,l⟩⟩
   ·simp at e2;simp[p211,  e1,e2,zMs]
   ·simp at e2;simp[p211,  e1,e2,zMs]
   ·have h1: ¬ ((l.length:Int)+1+1=1):=by omega
    simp at e2;simp[p211,  e1,e2,h1,zMs]
def DX (s:LI) (x:Int):LI:=if x∈s then s else ins s x
def De (s l:LI):LI:=l.foldl DX s
theorem LV (s:LI) (x:Int):(DX s x).length=if x∈s then s.length else s.length+1:=by
 unfold DX;split
 ·rfl
 ·exact UY s x
theorem GQ (l:LI): ∀s:LI,s.length<=(De s l).length/\(De s l).length<=s.length+l.length:=by
 induction l with
 |nil=>intro s;simp[De]
 |cons x l ih=>
  intro s;have h1:=ih (DX s x);have h2:=LV s x;have h3:De s (x::l)=De (DX s x) l:=rfl;rw[h3];simp only[List.length_cons];split at h2<;>omega
theorem Ph (l:LI): ∀s:LI,(De s l).length=s.length->De s l=s:=by
 induction l with
 |nil=>intro s _;rfl
 |cons x l ih=>
  intro s h;have h1:=GQ l (DX s x);have h2:=LV s x;have h3:De s (x::l)=De (DX s x) l:=rfl;rw[h3]at h ⊢;by_cases hx:x∈s
  ·have h4:DX s x=s:=by unfold DX;rw[if_pos hx]
   rw[h4]at h ⊢;exact ih s h
  ·rw[if_neg hx]at h2;omega
@[simp] def obS (N:List (List T)) (w:AB) (s:LI) (o:Nat):List (Nat×Obj):=
 if s.length=w.safe.length then [(0,.arr 1 (enc fI s)),(o,.box [.al 0 16 N,.al 1 3 (enc fW w.net),.al 2 2 (enc fR w.log),.ref 0 [],.sc (I6 w.gen)]),(o+1,.box [.nil 16,.nil 3,.nil 2,.nil 1,.sc (I6 0)])]
 else [(0,.arr 1 (enc fI w.safe)),(o,.box [.al 0 16 N,.al 1 3 (enc fW w.net),.al 2 2 (enc fR w.log),.ref (o+2) [],.sc (I6 w.gen)]),(o+1,.box [.nil 16,.nil 3,.nil 2,.nil 1,.sc (I6 0)]),(o+2,.arr 1 (enc fI s))]
@[simp] def st214_1 (N:List (List T)) (w:AB) (l s:LI) (j:Nat):St:={n:=61,m:=1,tm:=[(1,.im 1 (enc fI l)),(2,.pb 10000000 0),(4,.pb 10000001 0),(5,.sc (I6 j))],ob:=obS N w s 10000000}
@[simp] def st214_0 (N:List (List T)) (w:AB) (l s:LI) (j k:Nat):St:={n:=61,m:=1,tm:=[(1,.im 1 (enc fI l)),(2,.pb 10000200 0),(4,.pb 10000201 0),(5,.sc (I6 j)),(6,.sc (I6 k))],ob:=obS N w s 10000200}
theorem Wo [PKI] (N:List (List T)) (w:AB) (l s:LI) (j:Nat) (x:Int) (hx:l[j]? =some x) (hs:s.length<=1048576): ∃k,k<=s.length/\s.take k++[x]++s.drop k=ins s x/\ ∀ (t:St),t.m<=10000200->Aa 10000200 [1,2,4,5,6] t=st214_0 N w l s j 0->A6 G PK md 10000200 [1,2,4,5,6] b214_0 t=some (.exit 2,{st214_0 N w l s j k with tm:=(st214_0 N w l s j k).tm++[(37,.sc (.bool false))]}):=by
 obtain⟨_,hx'⟩:=BT hx;have hjl:j<l.length:=(BT hx).1;obtain⟨k,hk,hp,hkn⟩:=first (λi=>s.getD i 0<x) s.length;have hend:k<s.length-> ¬s.getD k 0<x:=λh=>by
  rcases hkn with rfl|⟨_,h2⟩
  ·omega
  ·exact h2
 have hex:xG b214_0 (st214_0 N w l s j k)=some (.exit 2,{st214_0 N w l s j k with tm:=(st214_0 N w l s j k).tm++[(37,.sc (.bool false))]}):=by
  by_cases hkl:k<s.length
  ·have h2:=hend hkl;rw[List.getD_eq_getElem?_getD,List.getElem?_eq_getElem hkl]at h2;simp only[Option.getD_some]at h2;by_cases hm:s.length=w.safe.length
   ·simp[b214_0,  hkl,h2,hjl,hx',eq_true hm]
   ·simp[b214_0,  hkl,h2,hjl,hx',hm]
  ·by_cases hm:s.length=w.safe.length
   ·simp[b214_0,  hkl,hjl,hx',eq_true hm]
   ·simp[b214_0,  hkl,hjl,hx',hm]
 refine⟨k,hk,TW hk hp hkn,λt ht hc=> ?_⟩;rw[<-hex];refine @lok _ 10000200 [1,2,4,5,6] b214_0 (λk=>st214_0 N w l s j k) k (λi hi=> ?_) ⟨_,_,hex,by simp⟩ t ht hc;have hi2:i<s.length:=by omega
 have hinc:=Ar hi2 hs;have hlt:=hp i hi;rw[List.getD_eq_getElem?_getD,List.getElem?_eq_getElem hi2]at hlt;simp only[Option.getD_some]at hlt;by_cases hm:s.length=w.safe.length
 ·simp[b214_0,  hi2,hinc,hlt,hjl,hx',eq_true hm]
 ·simp[b214_0,  hi2,hinc,hlt,hjl,hx',hm]
theorem Wn [PKI] (N:List (List T)) (w:AB) (l:LI) (hl:l.length<=1000) (hs:w.safe.length<=1000000): ∀ (t:St),t.m<=10000000->Aa 10000000 [1,2,4,5] t=st214_1 N w l w.safe 0->A6 G PK md 10000000 [1,2,4,5] b214_1 t=xG b214_1 (st214_1 N w l (De w.safe l) l.length):=by
 have hf:l.take l.length=l:=List.take_length;have h:= @lok _ 10000000 [1,2,4,5] b214_1 (λj=>st214_1 N w l (De w.safe (l.take j)) j) l.length (λj hj=>by
  obtain⟨x,hx⟩:=AF hj;obtain⟨_,hx'⟩:=BT hx;have hinc:=Ar hj (by omega);have hbd:=GQ (l.take j) w.safe;have htl:(l.take j).length<=l.length:=by rw[List.length_take];omega
  have hnx:De w.safe (l.take (j+1))=DX (De w.safe (l.take j)) x:=Bi DX w.safe l hx;have hsame:=Ph (l.take j) w.safe;simp only[hnx];generalize De w.safe (l.take j)=s at hbd hsame ⊢;have e:=Cq s x (by omega);have hfl:=LV s x;by_cases hm:x∈s
  ·have h4:DX s x=s:=by unfold DX;rw[if_pos hm]
   rw[h4];by_cases hsl:s.length=w.safe.length
   ·simp[b214_1,  hj,hx',e,hm,hinc,eq_true hsl]
   ·simp[b214_1,  hj,hx',e,hm,hinc,hsl]
  ·have h4:DX s x=ins s x:=by unfold DX;rw[if_neg hm]
   rw[if_neg hm,h4]at hfl;rw[h4];obtain⟨k,hk,hins,hlp⟩:=Wo N w l s j x hx (by omega);have hne: ¬ (ins s x).length=w.safe.length:=by omega
   have g3:k<=4398046511104:=by omega
   have g4:k*8<=35184372088832:=by omega
   have g5:(k+1)*8<=35184372088832:=by omega
   have g6:(k+1+(s.length - k))*8<=35184372088832:=by omega
   have hft:An (List.take k (enc fI s))=true:=Gi (OE _);have hfd:An (List.drop k (enc fI s))=true:=Iq (OE _);have hta:List.take s.length (enc fI s)=enc fI s:=List.take_of_length_le (by rw[Bx];omega);have hen:enc fI (ins s x)=List.take k (enc fI s)++[T.sc (I6 x)]::List.drop k (enc fI s):=by rw[<-hins];simp[enc,List.map_take,List.map_drop]
   by_cases hsl:s.length=w.safe.length
   ·simp[b214_1,  hj,hx',e,hm,eq_true hsl];rw[hlp]
    ·simp[hj,hx',hk,g3,g4,g5,g6,hft,hfd,hta,hinc,hne,hen,eq_true hsl];rw[hsame hsl]
    ·simp
    ·simp[eq_true hsl]
   ·simp[b214_1,  hj,hx',e,hm,hsl];rw[hlp]
    ·simp[hj,hx',hk,g3,g4,g5,g6,hft,hfd,hta,hinc,hne,hen,hsl]
    ·simp
    ·simp[hsl]) (by
  generalize De w.safe (l.take l.length)=s;by_cases hsl:s.length=w.safe.length
  ·simp[b214_1,eq_true hsl]
  ·simp[b214_1,hsl])
 simp only[hf]at h;exact h
def El (w:AB) (l:LI):AB:={w with safe:=De w.safe l}
theorem IC [PKI] (N:List (List T)) (w:AB) (l:LI) (hl:l.length<=1000) (hs:w.safe.length<=1000000): ∃fin,(fin=[none]/\(De w.safe l).length=w.safe.length\/fin=[some (enc fI w.safe)]/\(De w.safe l).length≠w.safe.length)/\sG 214 [.a [.al 0 16 N,.al 1 3 (enc fW w.net),.al 2 2 (enc fR w.log),.own 1 (enc fI w.safe),.sc (I6 w.gen)],.v (.im 1 (enc fI l))]=some ⟨[.a [.al 0 16 N,.al 1 3 (enc fW w.net),.al 2 2 (enc fR w.log),.own 1 (enc fI (De w.safe l)),.sc (I6 w.gen)]],fin,[]⟩:=by
 have h1:=Wn N w l hl hs;by_cases hsl:(De w.safe l).length=w.safe.length
 ·refine⟨[none],.inl ⟨rfl,hsl⟩,sK p214 ?_⟩;have hse:=Ph l w.safe hsl;rw[hse]at h1 ⊢;simp[p214];rw[h1]
  ·simp[b214_1]
  ·simp
  ·simp
 ·refine⟨[some (enc fI w.safe)],.inr ⟨rfl,hsl⟩,sK p214 ?_⟩;simp[p214];rw[h1]
  ·simp[b214_1,hsl]
  ·simp
  ·simp
theorem OU [PKI] (w:AB) (l:LI) (hl:l.length<=1000) (hs:w.safe.length<=1000000): ∃fin,(fin=[none]\/fin=[some (enc fI w.safe)])/\sG 214 [.a [.al 0 16 (enc fN w.nodes),.al 1 3 (enc fW w.net),.al 2 2 (enc fR w.log),.own 1 (enc fI w.safe),.sc (I6 w.gen)],.v (.im 1 (enc fI l))]=some ⟨[.a [.al 0 16 (enc fN w.nodes),.al 1 3 (enc fW w.net),.al 2 2 (enc fR w.log),.own 1 (enc fI (De w.safe l)),.sc (I6 w.gen)]],fin,[]⟩:=
 (IC (enc fN w.nodes) w l hl hs).imp λ_ h=>⟨h.1.imp And.left And.left,h.2⟩
end Go.Proofs.YtghgecpicnfgpaaGreat.Ow
