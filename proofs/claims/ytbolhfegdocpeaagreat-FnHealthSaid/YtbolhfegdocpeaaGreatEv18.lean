/- Functions evaluated on the small machine: Messages read: what the reference finds, Messages packed and unpacked: what the reference makes. -/
import Derived.Test.YtbolhfegdocpeaaGreatEv17
namespace Go.Proofs.YtbolhfegdocpeaaGreat.Ow
open Go
set_option linter.unusedVariables false
set_option linter.unusedSimpArgs false
set_option maxHeartbeats 8000000
variable {PK:Nat->List Arg->Option Res}
def GH (b:List Int) (a n:Nat):List Int:=(b.take (a+n)).drop a
def zMs:BI:=⟨0,0,0,0,[]⟩
structure Rd where
 k:Int
 c:Int
 v:Int
 w:Int
 g:List Int
 ok:Bool
def rdG (z:Bool) (b:List Int) (c:Nat×Bool):BI×Bool:=
 let k1:=num z b c
 let k2:=num z b k1.2
 let k3:=num z b k2.2
 let k4:=num z b k3.2
 let k5:=num z b k4.2
 let r:=itn z b k5.2 k5.1.toNat
 (⟨k1.1,k2.1,k3.1,k4.1,r.2⟩,r.1.2)
def TG (b:List Int) (a:Nat):Bool:=(num false b (a,true)).2.2&&decide ((num false b (a,true)).1<=(b.length:Int) - (num false b (a,true)).2.1 - 4)
def To (b:List Int) (a:Nat) (m:BI):Bool:=decide (0<(BE m).length)&&decide ((BE m).length<=b.length - a)&&decide (BE m=GH b a (BE m).length)
def Hh (b:List Int) (a:Nat):Option (BI×Nat):=
 if TG b a&&(rdG false b (num false b (a,true)).2).2&&To b a (rdG false b (num false b (a,true)).2).1 then some ((rdG false b (num false b (a,true)).2).1,a+(BE (rdG false b (num false b (a,true)).2).1).length)else none
@[simp] def st223 (b:List Int) (a:Nat) (k c v w:Int) (N:Nat) (r:(Nat×Bool)×List Int) (j:Nat):St:=
 if j=0 then {n:=112,m:=0,tm:=[(0,.im 1 (enc fU b)),(1,.sc (.int .i64 a)),(4,.pb 10000000 0),(7,.pb 10000001 0),(9,.pb 10000002 0),(10,.sc (.int .i64 N)),(11,.sc (.int .i64 j))],ob:=[(10000000,.box [.sc (.int .i64 0),.sc (.int .i64 0),.sc (.int .i64 0),.sc (.int .i64 0),.nil 1]),(10000001,.box [.im 1 (enc fU b),.sc (.int .i64 r.1.1),.sc (.bool r.1.2)]),(10000002,.box [.sc (.int .i64 k),.sc (.int .i64 c),.sc (.int .i64 v),.sc (.int .i64 w),.nil 1])]}
 else {n:=112,m:=0,tm:=[(0,.im 1 (enc fU b)),(1,.sc (.int .i64 a)),(4,.pb 10000000 0),(7,.pb 10000001 0),(9,.pb 10000002 0),(10,.sc (.int .i64 N)),(11,.sc (.int .i64 j))],ob:=[(10000000,.box [.sc (.int .i64 0),.sc (.int .i64 0),.sc (.int .i64 0),.sc (.int .i64 0),.nil 1]),(10000001,.box [.im 1 (enc fU b),.sc (.int .i64 r.1.1),.sc (.bool r.1.2)]),(10000002,.box [.sc (.int .i64 k),.sc (.int .i64 c),.sc (.int .i64 v),.sc (.int .i64 w),.ref 10000003 []]),(10000003,.arr 1 (enc fI r.2))]}
theorem JU {b:List Int} (hb:byt b) (c:Nat×Bool) (hc:c.1<=b.length):(num false b c).2.1<=b.length/\0<=(num false b c).1/\(num false b c).1<=2147483647:=by
 have h1:=(Lb (z:=false) c hc).1;have h2:=OC (z:=false) hb c (by have:=hb.1;omega);exact⟨h1,h2.1,h2.2.1⟩
theorem itn_nil (b:List Int) (c:Nat×Bool):itn false b c 0=(c,[]):=rfl
theorem Hn (b:List Int) (a:Nat) (hb:byt b) (ha:a<=b.length) (hb1:b.length<=1000000):AH G PK md 223 [.v (.im 1 (enc fU b)),.v (.sc (.int .i64 a))]=some ⟨[.a (AD (fMs (((Hh b a).map Prod.fst).getD zMs))),.v (.sc (.int .i64 (((Hh b a).map Prod.snd).getD 0:Nat))),.v (.sc (.bool (Hh b a).isSome))],[],[]⟩:=by
 refine AA (pf:=p223) rfl (by simp[p223]) ?_;have hbl:=hb.1;have e0:=Cf (PK:=PK) b (a,true) hb (by simp only;omega);obtain⟨a1,b1,c1⟩:=JU hb (a,true) ha;unfold Hh TG rdG;generalize num false b (a,true)=k0 at*;obtain⟨sz,p0,ok0⟩:=k0;simp only[crs]at e0 a1 b1 c1 ⊢
 cases ok0
 ·simp[p223,md,e0,zMs]
 have w1:IntKind.wrap .i64 ((b.length:Int) - p0)=b.length - p0:=AC (by omega) (by omega);have w2:IntKind.wrap .i64 ((b.length:Int) - p0 - 4)=b.length - p0 - 4:=AC (by omega) (by omega);by_cases hsz:sz<=(b.length:Int) - p0 - 4
 case neg=>
  have hsz':(b.length:Int) - p0 - 4<sz:=by omega
  simp[p223,md,e0,w1,w2,hsz,hsz',zMs]
 have hsz': ¬ (b.length:Int) - p0 - 4<sz:=by omega
 have e1:=Cf (PK:=PK) b (p0,true) hb (by simp only;omega);obtain⟨a2,b2,c2⟩:=JU hb (p0,true) a1;generalize num false b (p0,true)=k1 at*;obtain⟨n1,d1⟩:=k1;have e2:=Cf (PK:=PK) b d1 hb (by simp only at a2;omega);obtain⟨a3,b3,c3⟩:=JU hb d1 a2;simp only at e1 a2 b2 c2 e2 a3 b3 c3 ⊢;generalize num false b d1=k2 at*;obtain⟨n2,d2⟩:=k2;have e3:=Cf (PK:=PK) b d2 hb (by simp only at a3;omega);obtain⟨a4,b4,c4⟩:=JU hb d2 a3;simp only at e2 a3 b3 c3 e3 a4 b4 c4 ⊢;generalize num false b d2=k3 at*;obtain⟨n3,d3⟩:=k3;have e4:=Cf (PK:=PK) b d3 hb (by simp only at a4;omega);obtain⟨a5,b5,c5⟩:=JU hb d3 a4;simp only at e3 a4 b4 c4 e4 a5 b5 c5 ⊢;generalize num false b d3=k4 at*;obtain⟨n4,d4⟩:=k4;have e5:=Cf (PK:=PK) b d4 hb (by simp only at a5;omega);obtain⟨a6,b6,c6⟩:=JU hb d4 a5;simp only at e4 a5 b5 c5 e5 a6 b6 c6 ⊢;generalize num false b d4=k5 at*;obtain⟨n5,d5⟩:=k5;simp only at e5 a6 b6 c6 ⊢;obtain⟨N,rfl⟩: ∃N:Nat,n5=(N:Int):=⟨n5.toNat,by omega⟩;simp only[Int.toNat_natCast];obtain⟨q1,q2,q3⟩:=Km (z:=false) (b:=b) (c:=d5) a6 N;obtain⟨k,hk,hp,hkn⟩:=first (fun j=>(itn false b d5 j).1.2=true) N;have hfin:itn false b d5 N=itn false b d5 k:=by
  rcases hkn with rfl|⟨hlt,hn⟩
  ·rfl
  ·rw[show N=k+(N - k)by omega];exact HN (by simpa using hn) _
 have hs:=AL (G:=G) (PK:=PK) (md:=md) (o:=10000000) (live:=[0,1,4,7,9,10,11]) (c:=b223_0) (fun j=>st223 b a n1 n2 n3 n4 N (itn false b d5 j) j) k (fun j hj=>by
  have hok:=hp j hj;obtain⟨i1,i2,i3⟩:=Km (z:=false) (b:=b) (c:=d5) a6 j;have hnx:itn false b d5 (j+1)=((num false b (itn false b d5 j).1).2,(itn false b d5 j).2++[(num false b (itn false b d5 j).1).1]):=by simp only[itn];rw[if_pos hok]
  have e:=Cf (PK:=PK) b (itn false b d5 j).1 hb (by omega);have hz:j=0->(itn false b d5 j).2=[]:=fun h=>by subst h;rfl
  simp only[crs]at e;rw[hnx];generalize (num false b (itn false b d5 j).1).2=g1 at e ⊢;generalize (num false b (itn false b d5 j).1).1=g2 at e ⊢;generalize itn false b d5 j=r at*;obtain⟨⟨u,ok⟩,l⟩:=r;simp only at hok e i3 hz;subst hok;have hap:enc fI l++[[T.sc (.int .i64 g2)]]=enc fI (l++[g2]):=by simp[enc]
  have hlt:j<N:=by omega
  have hlen:(l.length+1)*8<=35184372088832:=by omega
  have hinc:IntKind.wrap .i64 ((j:Int)+1)=((j+1:Nat):Int):=by rw[AC (by omega) (by omega)];rfl
  by_cases h0:j=0
  ·have hl:=hz h0;subst h0;subst hl;simp at hinc hlt;simp[b223_0,md,hlt,e,hinc]
  ·simp[b223_0,md,hlt,e,hap,hlen,hinc,h0]) (by
  rcases hkn with rfl|⟨hlt,hn⟩
  ·by_cases h0:k=0<;>simp[b223_0,h0]
  ·have hn':(itn false b d5 k).1.2=false:=by simpa using hn
   rcases Nat.eq_zero_or_pos k with h0|h0
   ·subst h0;simp[b223_0,hlt,hn']
   ·have h1: ¬k=0:=by omega
    simp[b223_0,hlt,hn',h1])
 rw[hfin]at q1 q2 q3 ⊢;have hz:k=0->(itn false b d5 k).2=[]:=fun h=>by subst h;rfl
 have hkn2:k=N\/k<N/\(itn false b d5 k).1.2=false:=hkn.elim .inl fun h=> .inr ⟨h.1,by simpa using h.2⟩
 clear hkn hfin hp;generalize hr:itn false b d5 k=r at*;obtain⟨⟨u,ok⟩,l⟩:=r;simp only at hz q1 q3 hkn2 ⊢;have e7:=Co (PK:=PK) ⟨n1,n2,n3,n4,l⟩ (by simp only;omega);have wl:=DM ⟨n1,n2,n3,n4,l⟩;have wb:=Eu ⟨n1,n2,n3,n4,l⟩;simp only[AJ,lent,fMs]at e7;unfold To;generalize BE ⟨n1,n2,n3,n4,l⟩=want at*;have pb:by8 (GH b a want.length):=fun x hx=>hb.2 x (List.mem_of_mem_take (List.mem_of_mem_drop hx))
 have hstr:=QP wb pb;have w3:IntKind.wrap .i64 ((b.length:Int) - a)=b.length - a:=AC (by omega) (by omega);obtain⟨en,hen⟩: ∃en,en=a+want.length:=⟨_,rfl⟩;have w4:IntKind.wrap .i64 ((a:Int)+want.length)=(en:Int):=by rw[AC (by omega) (by omega)];omega
 have hp2:GH b a want.length=(b.take en).drop a:=by unfold GH;rw[hen]
 rw[hp2]at hstr pb ⊢;rw[←hen];have hae:a<=en:=by omega
 have hi0:(itn false b d5 0)=(d5,[]):=rfl;simp only[crs]at e1 e2 e3 e4 e5;simp[p223,md,e0,e1,e2,e3,e4,e5,w1,w2,hsz,hsz'];rw[hs]
 ·cases ok
  ·rcases hkn2 with rfl|⟨hlt,-⟩
   ·rcases Nat.eq_zero_or_pos k with h0|h0
    ·subst h0;have hl:=hz rfl;subst hl;rw[BK]at e7;simp[b223_0,hr,e7,zMs,AF]
    ·have h1: ¬k=0:=by omega
     simp[b223_0,h1,hr,e7,zMs,AF]
   ·rcases Nat.eq_zero_or_pos k with h0|h0
    ·subst h0;have hl:=hz rfl;subst hl;rw[BK]at e7;simp[b223_0,hlt,hr,e7,zMs,AF]
    ·have h1: ¬k=0:=by omega
     simp[b223_0,hlt,h1,hr,e7,zMs,AF]
  ·have hkN:k=N:=hkn2.elim id fun h=>by cases h.2
   subst hkN;by_cases h5:want.length=0
   ·rcases Nat.eq_zero_or_pos k with h0|h0
    ·subst h0;have hl:=hz rfl;subst hl;rw[BK]at e7;simp[b223_0,hr,e7,zMs,AF,h5]
    ·have h1: ¬k=0:=by omega
     simp[b223_0,h1,hr,e7,zMs,AF,h5]
   have h5':0<want.length:=by omega
   by_cases h6:want.length<=b.length - a
   case neg=>
    have h6':(b.length:Int) - a<want.length:=by omega
    rcases Nat.eq_zero_or_pos k with h0|h0
    ·subst h0;have hl:=hz rfl;subst hl;rw[BK]at e7;simp[b223_0,hr,e7,zMs,AF,h5,h5',w3,h6,h6']
    ·have h1: ¬k=0:=by omega
     simp[b223_0,h1,hr,e7,zMs,AF,h5,h5',w3,h6,h6']
   have h6': ¬ (b.length:Int) - a<want.length:=by omega
   have hel:en<=b.length:=by omega
   have hbp:B5 (List.drop a (List.take en (enc fU b)))=some (u8s ((b.take en).drop a)):=by rw[A5,CM,BN]
   generalize (b.take en).drop a=pt at*;by_cases h7:want=pt
   ·have hu:u8s want=u8s pt:=by rw[h7]
    have hs2:(u8s want==u8s pt)=true:=by rw[hu];exact beq_self_eq_true _
    have hu:=eq_true hu;have h7':=eq_true h7;have hbw:=BN want;rcases Nat.eq_zero_or_pos k with h0|h0
    ·subst h0;have hl:=hz rfl;subst hl;rw[BK]at e7;simp[b223_0,hr,e7,zMs,AF,h5,h5',w3,h6,h6',w4,hae,hel,hbw,hbp,hs2,hu,h7']
    ·have h1: ¬k=0:=by omega
     simp[b223_0,h1,hr,e7,zMs,AF,h5,h5',w3,h6,h6',w4,hae,hel,hbw,hbp,hs2,hu,h7']
   have hu: ¬u8s want=u8s pt:=fun e=>h7 (Fh wb pb e)
   have hs2:(u8s want==u8s pt)=false:=by simpa using hu
   have hbw:=BN want;rcases Nat.eq_zero_or_pos k with h0|h0
   ·subst h0;have hl:=hz rfl;subst hl;rw[BK]at e7;simp[b223_0,hr,e7,zMs,AF,h5,h5',w3,h6,h6',w4,hae,hel,hbw,hbp,hs2,hu,h7]
   ·have h1: ¬k=0:=by omega
    simp[b223_0,h1,hr,e7,zMs,AF,h5,h5',w3,h6,h6',w4,hae,hel,hbw,hbp,hs2,hu,h7]
 ·simp
 ·simp[hi0]
def Dg (l:List BI):List Int:=(l.map BE).flatten
def Qm (l:List BI):List Int:=Fj (Dg l)
theorem Ql {l:List BI} {j:Nat} {x:BI} (h:l[j]? =some x):Dg (l.take (j+1))=Dg (l.take j)++BE x:=by
 unfold Dg;rw[List.take_add_one,h];simp
theorem JV: ∀l:List BI,(Dg l).length<=94*l.length
 |[]=>by simp[Dg]
 |m::l=>by
  have h1:=JV l;have h2:=DM m;have h3:Dg (m::l)=BE m++Dg l:=by simp[Dg]
  rw[h3,List.length_append,List.length_cons];omega
theorem Ir: ∀l:List BI,by8 (Dg l)
 |[]=>fun x hx=>by cases hx
 |m::l=>by
  have h3:Dg (m::l)=BE m++Dg l:=by simp[Dg]
  rw[h3];exact Bk (Eu m) (Ir l)
@[simp] def st225 (l:List BI) (out:List Int) (j:Nat):St:={n:=21,m:=0,tm:=[(0,.im 5 (enc fMs l)),(3,.ref 10000000 []),(4,.sc (.int .i64 j))],ob:=[(10000000,.arr 1 (enc fU out))]}
theorem I7 (l:List BI) (hl:l.length<=10000) (hg: ∀m∈l,m.gens.length<=1048576):AH G PK md 225 [.v (.im 5 (enc fMs l))]=some ⟨[.v (.own 1 (enc fU (Qm l)))],[],[]⟩:=by
 refine AA (pf:=p225) rfl (by simp[p225]) ?_;have hs:=AL (G:=G) (PK:=PK) (md:=md) (o:=10000000) (live:=[0,3,4]) (c:=b225_0) (fun j=>st225 l (Dg (l.take j)) j) l.length (fun j hj=>by
  obtain⟨x,hx⟩:=AE hj;obtain⟨_,hx'⟩:=Ba hx;have hinc:=A2 hj (by omega);have e:=Co (PK:=PK) x (hg x (List.mem_of_getElem? hx));simp only[AJ,lent,fMs]at e;have hlen:=JV (l.take j);have ht:(l.take j).length<=10000:=by rw[List.length_take];omega
  have h2:=DM x;simp only[Ql hx];generalize Dg (l.take j)=o at hlen ⊢;generalize BE x=mb at*;have g1:o.length+mb.length<=35184372088832:=by omega
  simp[b225_0,md,hj,hx',hinc,e,g1,Ac]) (by simp[b225_0])
 have hf:l.take l.length=l:=List.take_length;have hlen:=JV l;have e:=KT (PK:=PK) (Dg l) ⟨by omega,Ir l⟩;have hz:Dg []=[]:=rfl;unfold Qm;simp[p225,md];rw[hs]
 ·simp[b225_0,hf,e,md]
 ·simp
 ·simp[hz]
structure UnS where
 ok:Bool
 at_:Nat
 out:List BI
def unF (BA:List Int) (s:UnS):UnS:=match Hh BA s.at_ with
 |some (m,n)=>⟨true,n,s.out++[m]⟩
 |none=>⟨false,0,s.out++[zMs]⟩
def unR (b:List Int):UnS:=wh (fun s=>s.ok&&decide (s.at_<((CG b).getD []).length)) (unF ((CG b).getD [])) (((CG b).getD []).length+1) ⟨(CG b).isSome,0,[]⟩
def Hy (b:List Int):Option (List BI):=if(unR b).ok&&decide (Qm (unR b).out=b)then some (unR b).out else none
theorem SJ {b:List Int} {r:List Int} (h:CG b=some r):r.length<=3000:=by
 unfold CG at h;split at h
 ·split at h
  ·cases h
  ·cases h;omega
 ·cases h
theorem TO {out:List Int} (h:by8 out) (e:Nat): ∀j,by8 (rep out e j)
 |0=>h
 |j+1=>by
  have ih:=TO h e j;refine Bk ih fun x hx=> ?_
  rw[List.mem_singleton.1 hx];generalize rep out e j=o at ih ⊢;rw[List.getD_eq_getElem?_getD];rcases Nat.lt_or_ge (o.length - e) o.length with h1|h1
  ·rw[List.getElem?_eq_getElem h1];exact ih _ (List.getElem_mem h1)
  ·rw[List.getElem?_eq_none h1];exact⟨by decide,by decide⟩
theorem Rw {b:List Int} (hb:by8 b) (i:Nat):0<=b.getD i 0/\b.getD i 0<256:=by
 rw[List.getD_eq_getElem?_getD];rcases Nat.lt_or_ge i b.length with h|h
 ·rw[List.getElem?_eq_getElem h];exact hb _ (List.getElem_mem h)
 ·rw[List.getElem?_eq_none h];exact⟨by decide,by decide⟩
theorem spF_by {b:List Int} (hb:by8 b) {s s':Nat×List Int} (hs:by8 s.2) (h:spF b s=some s'):by8 s'.2:=by
 have h1:=Rw hb s.1;have h2:=Rw hb (s.1+1);have one: ∀x:Int,0<=x/\x<256->by8 [x]:=fun x hx y hy=>by rw[List.mem_singleton.1 hy];exact hx
 unfold spF at h;split at h
 ·cases h;exact Bk hs (one _ h1)
 ·split at h
  ·cases h
  ·split at h
   ·split at h
    ·cases h
    ·cases h;exact Bk hs (one _ h2)
   ·split at h
    ·split at h
     ·cases h
     ·cases h;exact TO hs _ _
    ·cases h
theorem wo_by {b:List Int} (hb:by8 b) (g:Nat×List Int->Bool): ∀ (n:Nat) (s r:Nat×List Int),by8 s.2->wo g (spF b) n s=some r->by8 r.2
 |0,s,r,hs,h=>by simp only[wo,Option.some.injEq]at h;rw[←h];exact hs
 |n+1,s,r,hs,h=>by
  simp only[wo]at h;split at h
  ·split at h
   ·rename_i s' hs';exact wo_by hb g n s' r (spF_by hb hs hs') h
   ·cases h
  ·cases h;exact hs
theorem SI {b r:List Int} (hb:by8 b) (h:CG b=some r):by8 r:=by
 unfold CG at h;split at h
 ·rename_i q hq;split at h
  ·cases h
  ·cases h
   exact wo_by hb _ _ _ _ (fun x hx=>by cases hx) hq
 ·cases h
theorem Ld {b:List Int} {a:Nat} {m:BI} {n:Nat} (ha:a<=b.length) (h:Hh b a=some (m,n)):a<n/\n<=b.length/\EX m=true/\m.gens.length<=12:=by
 unfold Hh at h;split at h
 ·rename_i hc;simp only[Option.some.injEq,Prod.mk.injEq]at h;obtain⟨h1,h2⟩:=h;simp only[Bool.and_eq_true]at hc;have h3:=hc.2;rw[h1]at h2 h3;unfold To at h3;simp only[Bool.and_eq_true,decide_eq_true_iff]at h3;have hm:EX m=true:=by
   cases hk:EX m
   ·have:BE m=[]:=by unfold BE;rw[hk];rfl
    rw[this]at h3;simp at h3
   ·rfl
  exact⟨by omega,by omega,hm,IC hm⟩
 ·cases h
@[simp] def st222 (b BA:List Int) (s:UnS):St:={n:=49,m:=0,tm:=[(0,.im 1 (enc fU b)),(4,.ref 10000000 []),(5,.ref 10000001 []),(6,.sc (.bool s.ok)),(7,.sc (.int .i64 s.at_))],ob:=[(10000000,.arr 5 (enc fMs s.out)),(10000001,.arr 1 (enc fU BA))]}
def unI (BA:List Int) (s:UnS):Prop:=s.at_<=BA.length/\s.out.length<=(if s.ok then s.at_ else BA.length+1)/\ ∀m∈s.out,m.gens.length<=12
theorem L4 (b:List Int) (hb:byt b):AH G PK md 222 [.v (.im 1 (enc fU b))]=some ⟨[.v (.own 5 (enc fMs ((Hy b).getD []))),.v (.sc (.bool (Hy b).isSome))],[],[]⟩:=by
 refine AA (pf:=p222) rfl (by simp[p222]) ?_;have e1:=L5 (PK:=PK) b hb;have hfl:((CG b).getD []).length<=3000:=by
  cases h:CG b with
  |none=>simp
  |some r=>exact SJ h
 have hfb:by8 ((CG b).getD []):=by
  cases h:CG b with
  |none=>intro x hx;cases hx
  |some r=>exact SI hb.2 h
 unfold Hy unR;generalize (CG b).getD []=BA at*;generalize (CG b).isSome=ok0 at*;obtain⟨⟨hinv,hg⟩,hs⟩:=Rk (G:=G) (PK:=PK) (md:=md) (o:=10000000) (live:=[0,4,5,6,7]) (c:=b222_0) (st222 b BA) (fun s=>s.ok&&decide (s.at_<BA.length)) (unF BA) (unI BA) (fun s=>if s.ok then BA.length - s.at_+1 else 0) (fun s hi hg=>by
   obtain⟨ok,a,out⟩:=s;simp only[Bool.and_eq_true,decide_eq_true_iff]at hg;obtain⟨rfl,hlt⟩:=hg;obtain⟨i1,i2,i3⟩:=hi;simp only[if_true]at i2;have e:=Hn (PK:=PK) BA a ⟨by omega,hfb⟩ (by simp only at i1;omega) (by omega);have g1:(out.length+1)*56<=35184372088832:=by omega
   unfold unF;simp only
   cases hm:Hh BA a with
   |none=>
    rw[hm]at e;simp only[Option.map_none,Option.getD_none,Option.isSome_none,AD,AX,fMs,zMs]at e;refine⟨⟨by simp only;omega,by simp only[List.length_append,List.length_cons,List.length_nil,Bool.false_eq_true,if_false];omega,fun m hm=> ?_⟩,by simp,?_⟩
    ·rcases List.mem_append.1 hm with h|h
     ·exact i3 m h
     ·rw[List.mem_singleton.1 h];simp[zMs]
    ·simp[b222_0,md,hlt,e,g1];simp[enc,zMs]
   |some q=>
    obtain⟨m,n⟩:=q;rw[hm]at e;obtain⟨q1,q2,q3,q4⟩:=Ld (by simp only at i1;omega) hm;simp only[Option.map_some,Option.getD_some,Option.isSome_some,AD,AX,fMs]at e;refine⟨⟨q2,by simp only[List.length_append,List.length_cons,List.length_nil,if_true];omega,fun m' hm'=> ?_⟩,by simp only[if_true];omega,?_⟩
    ·rcases List.mem_append.1 hm' with h|h
     ·exact i3 m' h
     ·rw[List.mem_singleton.1 h];exact q4
    ·simp[b222_0,md,hlt,e,g1];simp[enc]) (fun s hi hg=>by
   obtain⟨ok,a,out⟩:=s
   cases ok
   ·simp[b222_0,md]
   ·have hlt: ¬a<BA.length:=by simpa using hg
    simp[b222_0,md,hlt]) (BA.length+1) ⟨ok0,0,[]⟩ ⟨by simp,by simp,fun m hm=>by cases hm⟩ (by simp only;split<;>omega)
 generalize wh (fun s=>s.ok&&decide (s.at_<BA.length)) (unF BA) (BA.length+1) ⟨ok0,0,[]⟩=r at*;obtain⟨ok,a,out⟩:=r;obtain⟨i1,i2,i3⟩:=hinv;have hol:out.length<=3001:=by simp only at i1 i2;split at i2<;>omega
 have e2:=I7 (PK:=PK) out (by omega) (fun m hm=>by have:=i3 m hm;omega);have pb:by8 (Qm out):=LA _ (Ir out);simp[p222,md,e1];rw[hs]
 ·cases ok
  ·simp[b222_0,md,AF]
  ·have hlt: ¬a<BA.length:=by simpa using hg
   generalize Qm out=pk at*;have hb1:=BN pk;have hb2:=BN b;by_cases h7:pk=b
   ·have hu:u8s pk=u8s b:=by rw[h7]
    have hs2:(u8s pk==u8s b)=true:=by rw[hu];exact beq_self_eq_true _
    have hu:=eq_true hu;have h7':=eq_true h7;simp[b222_0,md,hlt,e2,hb1,hb2,hs2,hu,h7',AF]
   ·have hu: ¬u8s pk=u8s b:=fun e=>h7 (Fh pb hb.2 e)
    have hs2:(u8s pk==u8s b)=false:=by simpa using hu
    simp[b222_0,md,hlt,e2,hb1,hb2,hs2,hu,h7,AF]
 ·simp
 ·simp
end Go.Proofs.YtbolhfegdocpeaaGreat.Ow
