/- Functions evaluated on the small machine: Falling: what the reference makes of a world, Slots torn; falling, rising, tearing, copying: what the reference makes of a world. -/
import Derived.Test.YtbolhfegdocpeaaGreatEv21
import Derived.Test.YtbolhfegdocpeaaGreatEv16
import Derived.Test.YtbolhfegdocpeaaGreatEv15
namespace Go.Proofs.YtbolhfegdocpeaaGreat.Ow
open Go
set_option linter.unusedVariables false
set_option linter.unusedSimpArgs false
set_option maxHeartbeats 16000000
variable {PK:Nat->List Arg->Option Res}
def dnF (a:Nat) (s:SdS) (k:Nat):SdS:=if Jf s.w a k then⟨Db s.w a k,2,if s.sh=0 then EH s.w.net a k s.w.net.length else s.rows⟩else s
def Nn (w:AB) (a:Nat):SdS:=(List.range 3).foldl (dnF a) ⟨w,0,[]⟩
def No (w:AB) (a:Nat):AB:={(Nn w a).w with nodes:=(Nn w a).w.nodes.set a (Nd (nd (Nn w a).w a))}
structure DnI (a:Nat) (s:SdS):Prop where
 w:WI s.w
 sh:s.sh=0\/s.sh=2
 self:Jf s.w a a=false
theorem cn_cut {w:AB} {a b:Nat} (h:WI w) (ha:a<3) (hb:b<3) (hab:a≠b):Jf (Db w a b) a a=Jf w a a:=by
 unfold Jf;simp only[Int.toNat_natCast];rw[Tm h.n3 ha hab];unfold E5;simp only[List.getD_eq_getElem?_getD,List.getElem?_set];rw[if_neg hab.symm]
theorem dnF_I {a:Nat} (ha:a<3) {s:SdS} (h:DnI a s) {k:Nat} (hk:k<3):DnI a (dnF a s k):=by
 unfold dnF;split
 ·rename_i hc;have hak:a≠k:=fun e=>by subst e;rw[h.self]at hc;cases hc
  exact⟨Oi h.w ha hk hak,.inr rfl,by rw[cn_cut h.w ha hk hak];exact h.self⟩
 ·exact h
theorem GV {β:Type} (f:β->Nat->β) (o:β) (j:Nat):(List.range (j+1)).foldl f o=f ((List.range j).foldl f o) j:=by rw[List.range_succ,List.foldl_append];rfl
theorem Ko {w:AB} {a:Nat} (ha:a<3) (h:DnI a ⟨w,0,[]⟩): ∀j,j<=3->DnI a ((List.range j).foldl (dnF a) ⟨w,0,[]⟩)
 |0,_=>h
 |j+1,hj=>by rw[GV];exact dnF_I ha (Ko ha h j (by omega)) (by omega)
@[simp] def st212 (a:Int) (s:SdS) (j:Nat):St:={n:=34,m:=4,tm:=[(1,.sc (.int .i64 a)),(2,.pb 10000000 0),(4,.pb 10000001 0),(5,.sc (.int .i64 j))],ob:=obW s.w s.sh s.rows 10000000}
theorem lp_Down (w:AB) (a:Nat) (ha:a<3) (h:DnI a ⟨w,0,[]⟩): ∀ (t:St),t.m<=10000000->Ai 10000000 [1,2,4,5] t=st212 a ⟨w,0,[]⟩ 0->Ag G PK md 10000000 [1,2,4,5] b212_0 t=An (AH G PK md) (Ag G PK md) md b212_0 (st212 a (Nn w a) 3):=
 AL (G:=G) (PK:=PK) (md:=md) (o:=10000000) (live:=[1,2,4,5]) (c:=b212_0) (fun j=>st212 a ((List.range j).foldl (dnF a) ⟨w,0,[]⟩) j) 3 (fun j hj=>by
  have hi:=Ko ha h j (by omega);simp only[GV];generalize (List.range j).foldl (dnF a) ⟨w,0,[]⟩=s at*;obtain⟨v,sh,rows⟩:=s;obtain⟨hW,hsh,hself⟩:=hi;simp only at hW hsh hself;have hinc:=A2 hj (by omega);have hn3:=hW.n3;obtain⟨x,y1,hxi,hxi',hxd,hxm⟩:=Ay v.nodes zN (j:=a) (by omega);have hxn:nd v a=x:=hxd;obtain⟨c,q1,_,c1',hcd⟩:=A1 x.conn (j:=j) (by have:=(hW.node x hxm).b.conn;omega);have hcn:Jf v a j=c:=by unfold Jf;simp only[Int.toNat_natCast];rw[hxn,hcd]
  have hj3:(j:Int)<3:=by omega
  unfold dnF;simp only[hcn]
  cases c
  ·rcases hsh with rfl|rfl<;>simp[b212_0,md,hj3,y1,hxi',q1,c1',hinc]
  ·have hak:a≠j:=fun e=>by subst e;rw[hself]at hcn;cases hcn
   have e1:=FV (PK:=PK) v a j hn3 ha hj hak (by have:=hW.net;omega) hW.L.c3;simp only[AD,AX,fWo]at e1;generalize Db v a j=cw at*;generalize EH v.net a j v.net.length=hr at*;rcases hsh with rfl|rfl<;>simp[b212_0,md,hj3,y1,hxi',q1,c1',hinc,e1]) (by
  have hi:=Ko ha h 3 (by omega);generalize (List.range 3).foldl (dnF a) ⟨w,0,[]⟩=s at*;obtain⟨v,sh,rows⟩:=s;rcases hi.sh with h1|h1<;>simp only at h1<;>subst h1<;>simp[b212_0])
theorem MI (w:AB) (a:Nat) (ha:a<3) (h:DnI a ⟨w,0,[]⟩): ∃fin,Qw fin/\AH G PK md 212 [.a (AD (fWo w)),.v (.sc (.int .i64 a))]=some ⟨[.a (AD (fWo (No w a)))],fin,[]⟩:=by
 have h1:=lp_Down (PK:=PK) w a ha h;have hi:=Ko ha h 3 (by omega);unfold No;unfold Nn at*;generalize (List.range 3).foldl (dnF a) ⟨w,0,[]⟩=s at*;obtain⟨v,sh,rows⟩:=s;obtain⟨hW,hsh,hself⟩:=hi;simp only at hW hsh hself ⊢;obtain⟨x,y1,hxi,hxi',hxd,hxm⟩:=Ay v.nodes zN (j:=a) (by have:=hW.n3;omega);have hxn:nd v a=x:=hxd;rw[hxn];have e1:=OY (PK:=PK) x (hW.node x hxm).b.nS;simp only[AJ,lent,fN,AD,AX]at e1;generalize Nd x=q at*;rcases hsh with rfl|rfl
 ·refine⟨[none,none,none,none],.inl rfl,AA (pf:=p212) rfl (by simp[p212]) ?_⟩;simp[p212,md];rw[h1]
  ·simp (config:={maxSteps:=10000000}) [b212_0,y1,hxi',e1,md,AF]
  ·simp
  ·simp
 ·refine⟨[none,some rows,none,none],.inr ⟨_,rfl⟩,AA (pf:=p212) rfl (by simp[p212]) ?_⟩;simp[p212,md];rw[h1]
  ·simp (config:={maxSteps:=10000000}) [b212_0,y1,hxi',e1,md,AF]
  ·simp
  ·simp
theorem UT (a b:Int):AH G PK md 110 [.v (.sc (.int .i64 a)),.v (.sc (.int .i64 b))]=some ⟨[.v (.sc (.int .i64 (max a b)))],[],[]⟩:=by
 refine AA (pf:=p110) rfl (by simp[p110]) ?_;by_cases h:a>b
 ·have hm:max a b=a:=by omega
  simp[p110,md,h,hm]
 ·have hm:max a b=b:=by omega
  simp[p110,md,h,hm]
theorem Ni (was now:List Int) (n:Int) (k:Nat) (hk:max 0 (min n now.length)=(k:Int)) (h1:was.length<=1048576) (h2:now.length<=1048576):AH G PK md 232 [.v (.im 1 (enc fU was)),.v (.im 1 (enc fU now)),.v (.sc (.int .i64 n))]=some ⟨[.v (.own 1 (enc fU (GP was now k)))],[],[]⟩:=by
 refine AA (pf:=p232) rfl (by simp[p232]) ?_;have e1:=Qz (PK:=PK) n now.length;have e2:=UT (PK:=PK) 0 (min n now.length);rw[hk]at e2;have hkl:k<=now.length:=by omega
 have g1:k<=35184372088832:=by omega
 have g2:k+(was.length - k)<=35184372088832:=by omega
 have g3:was.length<=35184372088832:=by omega
 have hft:BA (List.take k (enc fU now))=true:=FT (Lx _);have hfd:BA (List.drop k (enc fU was))=true:=HR (Lx _);unfold GP;by_cases hlt:k<was.length
 ·have h3:k<=was.length:=by omega
  simp[p232,md,e1,e2,hkl,hlt,h3,g1,g2,g3,hft,hfd];simp[enc,List.map_take,List.map_drop]
 ·have h3:was.drop k=[]:=List.drop_eq_nil_of_le (by omega);simp[p232,md,e1,e2,hkl,hlt,g1,hft,h3];simp[enc,List.map_take]
theorem OT (s:A8) (m:Av) (n:Int) (k:Nat) (hkn:max 0 (min n 160)=(k:Int)) (hs:slS s) (hm:mtS m):AH G PK md 211 [.a (AJ (fSl s)),.a (AJ (fM m)),.v (.sc (.int .i64 n))]=some ⟨[.a (AD (fSl (N0 s m k)))],[],[]⟩:=by
 refine AA (pf:=p211) rfl (by simp[p211]) ?_;have e1:=Jm (PK:=PK) s hs.1.1 hs.2.1;have e2:=CL (PK:=PK) s m hs hm;have e3:=C1 (PK:=PK) s hs;have e4:=Ce (PK:=PK) m hm;have e5:=IR (PK:=PK) s hs;have hb:=LC s;have hA:=NV s;have hl:=FK s m;have e6:=Ni (PK:=PK) s.a (JY s m) n k (by rw[hl];exact hkn) hs.1.1 (by omega);have e7:=Ni (PK:=PK) s.b (JY s m) n k (by rw[hl];exact hkn) hs.2.1 (by omega);simp only[AJ,lent,fM,fSl,AD,AX]at e1 e2 e3 e4 e5;unfold N0;unfold B4 at e2;generalize JY s m=nb at*;unfold OK at*;generalize hq:(Ak s)=q at*;obtain⟨q1,q2,q3⟩:=q;simp only at hb
 cases hk:BP m
 ·simp[hk]at e2;simp[p211,md,e1,e2,e3,e4,hk]
 by_cases hc:q2=1000000
 ·simp[hk,hc]at e2;simp[p211,md,e1,e2,e3,e4,hk,hc]
 have hc2: ¬ (1000000:Int)<=q2:=by omega
 by_cases hw0:Hb s=0
 ·have hAt:isA s=true:=by rw[hA];simp[hw0]
  simp[hk,hc,hAt]at e2;simp[p211,md,e1,e2,e3,e4,e5,e7,hk,hc,hc2,hw0,hAt]
 ·have hAf:isA s=false:=by rw[hA];simp[hw0]
  simp[hk,hc,hAf]at e2;simp[p211,md,e1,e2,e3,e4,e5,e6,hk,hc,hc2,hw0,hAf]
theorem tear_S {s:A8} (h:slS s) (m:Av) {k:Nat} (hk:k<=160):slS (N0 s m k):=by
 have hl:=FK s m;have hby:=Ri s m;have one: ∀was:List Int,byt was->byt (GP was (JY s m) k):=fun was hw=>by
  refine⟨?_,fun x hx=> ?_⟩
  ·unfold GP;rw[List.length_append,List.length_take,List.length_drop];have:=hw.1;omega
  ·unfold GP at hx;rcases List.mem_append.1 hx with hx|hx
   ·exact hby x (List.mem_of_mem_take hx)
   ·exact hw.2 x (List.mem_of_mem_drop hx)
 unfold N0;split
 ·split
  ·exact⟨h.1,one _ h.2⟩
  ·exact⟨one _ h.1,h.2⟩
 ·exact h
def RT (n:AG) (b:Int):AG:={n with sl:=N0 n.sl {n.mt with fine:= !n.mt.fine} b.toNat}
def Ih (w:AB) (a:Nat) (b:Int):AB:={w with nodes:=w.nodes.set a (RT (nd w a) b)}
def L1 (w:AB) (kind:Int) (a:Nat) (b:Int):AB×Int:=
 if kind=5 then(if(nd w a).up then(w,3)else({w with nodes:=w.nodes.set a (NF (nd w a))},0))
 else if !(nd w a).up||decide (kind=6)&& !inB b 0 155 then(w,3)
 else(No (if kind=6 then Ih w a b else w) a,0)
theorem O3 {n:AG} {b:Int} (h:nC n) (hb:b<=155):nC (RT n b):=
 ⟨⟨h.b.image,h.b.gens,h.b.bits,h.b.bit,tear_S h.b.sl _ (by omega),h.b.conn,h.b.sync,h.b.syn,h.b.copies,h.b.wait⟩,h.bit,h.wait,h.gens⟩
theorem Q5 (w:AB) (kind:Int) (a:Nat) (b:Int) (ha:a<3) (hd:DnI a ⟨w,0,[]⟩): ∃fin,Qw fin/\AH G PK md 189 [.a (AD (fWo w)),.a (AJ (fD ⟨kind,a,b⟩))]=some ⟨[.a (AD (fWo (L1 w kind a b).1)),.v (.sc (.int .i64 (L1 w kind a b).2))],fin,[]⟩:=by
 have hw:WI w:=hd.w;have hn3:=hw.n3;obtain⟨x,y1,_,hx',hxd,hxm⟩:=Ay w.nodes zN (j:=a) (by omega);have hxa:nd w a=x:=hxd;have hc:=hw.node x hxm;have e1:=OU (PK:=PK) x hc.b.nS;have e2:=Aj (PK:=PK) b 0 155;have e3:=B8 (PK:=PK) x.mt hc.b.mt;simp only[AJ,lent,fN,fM,AD,AX]at e1 e3;unfold L1;rw[hxa];have nfin:Qw [none,none,none,none]:= .inl rfl;by_cases h5:kind=5
 ·subst h5;refine⟨_,nfin,AA (pf:=p189) rfl (by simp[p189]) ?_⟩;generalize NF x=q at*
  cases hu:x.up
  ·rw[hu]at e1;simp (config:={maxSteps:=10000000}) [p189,md,y1,hx',e1,hu,AF]
  ·rw[hu]at e1;simp (config:={maxSteps:=10000000}) [p189,md,y1,hx',hu]
 cases hu:x.up
 ·refine⟨_,nfin,AA (pf:=p189) rfl (by simp[p189]) ?_⟩;simp (config:={maxSteps:=10000000}) [p189,md,y1,hx',h5,hu]
 by_cases h6:kind=6
 ·subst h6
  cases hb:inB b 0 155
  ·rw[hb]at e2;refine⟨_,nfin,AA (pf:=p189) rfl (by simp[p189]) ?_⟩;simp (config:={maxSteps:=10000000}) [p189,md,y1,hx',e2,hu]
  ·rw[hb]at e2;have rb:=Ab.1 hb;have hT:WI (Ih w a b):=by
    have:=QV (k:=a) (n:=RT (nd w a) b) hw ha (O3 (hw.nd ha) rb.2) (hw.id a ha);exact this
   have hdT:DnI a ⟨Ih w a b,0,[]⟩:=by
    refine⟨hT,.inl rfl,?_⟩;have h1:=hd.self;unfold Jf at h1 ⊢;simp only[Int.toNat_natCast]at h1 ⊢;unfold Ih;rw[OG hn3 ha,if_pos rfl];exact h1
   obtain⟨fin,hfin,e4⟩:=MI (PK:=PK) (Ih w a b) a ha hdT;have e5:=OT (PK:=PK) x.sl {x.mt with fine:= !x.mt.fine} b b.toNat (by omega) hc.b.sl hc.b.mt;refine⟨fin,hfin,AA (pf:=p189) rfl (by simp[p189]) ?_⟩;have hif:(if(6:Int)=6 then Ih w a b else w)=Ih w a b:=if_pos rfl;rw[hif];generalize No (Ih w a b) a=v at*;unfold Ih RT at e4;rw[hxa]at e4;have hxe:({x with sl:=N0 x.sl {x.mt with fine:= !x.mt.fine} b.toNat}:AG)=⟨x.id,true,x.prime,x.image,⟨x.mt.gens,x.mt.bits,x.mt.fine,x.mt.old,x.mt.held,x.mt.last⟩,⟨(N0 x.sl {x.mt with fine:= !x.mt.fine} b.toNat).a,(N0 x.sl {x.mt with fine:= !x.mt.fine} b.toNat).b⟩,x.conn,x.sync,x.copies,x.wait⟩:=by rw[←hu]
   rw[hxe]at e4;simp only[AJ,lent,fSl,fM,fWo,AD,AX]at e4 e5;generalize N0 x.sl {x.mt with fine:= !x.mt.fine} b.toNat=ts at*;rcases hfin with rfl|⟨rows,rfl⟩<;>simp (config:={maxSteps:=10000000}) [p189,md,y1,hx',e2,e3,e4,e5,hu,AF]
 ·obtain⟨fin,hfin,e4⟩:=MI (PK:=PK) w a ha hd;refine⟨fin,hfin,AA (pf:=p189) rfl (by simp[p189]) ?_⟩;rw[if_neg h6];generalize No w a=v at*;simp only[fWo,AD,AX]at e4;rcases hfin with rfl|⟨rows,rfl⟩<;>simp (config:={maxSteps:=10000000}) [p189,md,y1,hx',e4,h5,h6,hu,AF]
theorem P8 {n:AG} {to:Int} (h:nC n):nB (FZ n to).1/\(FZ n to).1.id=n.id:=by
 have h1:nB (JC n to):=⟨h.b.image,h.b.gens,h.b.bits,h.b.bit,CO h.b.sl _,h.b.conn,h.b.sync,h.b.syn,by unfold JC Bb;simp only[List.length_set];exact h.b.copies,h.b.wait⟩;unfold FZ;split
 ·split
  ·refine⟨⟨h.b.image,h.b.gens,h.b.bits,h.b.bit,h.b.sl,h.b.conn,by simp only[List.length_set];exact h.b.sync,fun x hx=> ?_,h.b.copies,h.b.wait⟩,rfl⟩;rcases List.mem_or_eq_of_mem_set hx with hx|rfl
   ·exact h.b.syn x hx
   ·have h2:=F0 (n.sync.getD to.toNat []) ((n.sync.getD to.toNat []).getD 0 0);rcases Nat.lt_or_ge to.toNat n.sync.length with h3|h3
    ·obtain⟨y,_,_,_,hyd,hym⟩:=Ax n.sync h3;rw[hyd]at h2 ⊢;have:=h.b.syn y hym;omega
    ·have:n.sync.getD to.toNat []=[]:=by rw[List.getD_eq_getElem?_getD,List.getElem?_eq_none h3];rfl
     rw[this];simp[clr]
  ·split
   ·exact⟨h1,rfl⟩
   ·exact⟨h.b,rfl⟩
 ·exact⟨h.b,rfl⟩
theorem Li {n:AG} (h:NOk n) {k:Nat} (hk:k<3):(n.copies.getD k false=true->n.conn.getD k false=true)/\(n.conn.getD k false=true->(k:Int)≠n.id):=by
 have h1:=Ar h.lk hk;unfold lk lk2 at h1;simp only[Bool.and_eq_true,Bool.not_eq_true',Bool.and_eq_false_iff,Bool.or_eq_false_iff,decide_eq_false_iff_not]at h1;refine⟨fun hc=> ?_,fun hc=> ?_⟩
 ·rcases h1.2.1.2 with h2|h2
  ·rw[hc]at h2;cases h2
  ·simpa using h2
 ·rcases h1.2.2 with h2|h2
  ·rw[hc]at h2;cases h2
  ·exact h2.2
theorem KK {n:AG} {i k:Nat} (hid:n.id=i) (hi:i<3) (hk:k<3) (hg:n.mt.gens.length<=1000): ∀p∈(FZ n k).2,Hd p:=by
 intro p hp;unfold FZ at hp;simp only[Int.toNat_natCast]at hp;split at hp
 ·rename_i hc;simp only[Bool.and_eq_true]at hc;have nn:=A3 hc.1.1;have hne:=(Li nn hk).2 ((Li nn hk).1 hc.2);rw[hid]at hne;split at hp
  ·rw[List.mem_singleton.1 hp];exact⟨i,k,hi,hk,by omega,hid,rfl,by simp⟩
  ·split at hp
   ·rw[List.mem_singleton.1 hp];exact⟨i,k,hi,hk,by omega,hid,rfl,hg⟩
   ·cases hp
 ·cases hp
theorem Sy {n:AG} {to:Int}:(FZ n to).2.length<=1:=by
 unfold FZ;split
 ·split
  ·simp
  ·split<;>simp
 ·simp
def Fx (w:AB) (a b:Nat):AB×Int:=
 if !(nd w a).copies.getD b false then(w,3)else if 40<=w.net.length then(w,4)
 else(F7 {w with nodes:=w.nodes.set a (FZ (nd w a) b).1} (FZ (nd w a) b).2,0)
theorem Od (w:AB) (a b:Nat) (ha:a<3) (hb:b<3) (hw:WI w): ∃fin,Qw fin/\AH G PK md 208 [.a (AD (fWo w)),.v (.sc (.int .i64 a)),.v (.sc (.int .i64 b))]=some ⟨[.a (AD (fWo (Fx w a b).1)),.v (.sc (.int .i64 (Fx w a b).2))],fin,[]⟩:=by
 have hn3:=hw.n3;obtain⟨x,y1,_,hx',hxd,hxm⟩:=Ay w.nodes zN (j:=a) (by omega);have hxa:nd w a=x:=hxd;have hc:=hw.node x hxm;have hid:x.id=a:=by rw[←hxa];exact hw.id a ha
 obtain⟨c,q1,_,c1',hcd⟩:=A1 x.copies (j:=b) (by have:=hc.b.copies;omega);have e1:=OZ (PK:=PK) x b hc.b;have nfin:Qw [none,none,none,none]:= .inl rfl;unfold Fx;rw[hxa,hcd]
 cases c
 ·refine⟨_,nfin,AA (pf:=p208) rfl (by simp[p208]) ?_⟩;simp (config:={maxSteps:=10000000}) [p208,md,y1,hx',q1,c1']
 by_cases hnl:40<=w.net.length
 ·have hnl':(40:Int)<=w.net.length:=by omega
  refine⟨_,nfin,AA (pf:=p208) rfl (by simp[p208]) ?_⟩;simp (config:={maxSteps:=10000000}) [p208,md,y1,hx',q1,c1',hnl,hnl']
 have hnl': ¬ (40:Int)<=w.net.length:=by omega
 have hr:=P8 (to:=(b:Int)) hc;have hps:=KK (n:=x) hid ha hb (by have:=hc.gens;omega);have hpl:=Sy (n:=x) (to:=(b:Int));simp only[AJ,lent,fN,AD,AX]at e1;generalize FZ x b=r at*;obtain⟨q,ps⟩:=r;simp only at hr hps hpl e1 ⊢;obtain⟨fin,hfin,e4⟩:=Dq (PK:=PK) {w with nodes:=w.nodes.set a q} ps ⟨by simp only[List.length_set];exact hn3,fun y hy=>by
    rcases List.mem_or_eq_of_mem_set hy with hy|rfl
    ·exact hw.L.c3 y hy
    ·exact⟨hr.1.conn,hr.1.copies,hr.1.sync⟩,by have:=hw.net;simp only;omega⟩ (by omega) hps
 refine⟨fin,hfin,AA (pf:=p208) rfl (by simp[p208]) ?_⟩;rw[if_neg (by simp),if_neg hnl];generalize F7 {w with nodes:=w.nodes.set a q} ps=v at*;simp only[fWo,AD,AX]at e4;rcases hfin with rfl|⟨rows,rfl⟩<;>simp (config:={maxSteps:=10000000}) [p208,md,y1,hx',q1,c1',hnl,hnl',e1,e4,AF]
end Go.Proofs.YtbolhfegdocpeaaGreat.Ow
