/- FnCommon: evaluated. -/
import Derived.Test.YtghgecpicnfgpaaGreatEv36
namespace Go.Proofs.YtghgecpicnfgpaaGreat.Ow
open Go
set_option linter.unusedVariables false
set_option linter.unusedSimpArgs false
set_option maxHeartbeats 16000000
set_option maxRecDepth 100000
theorem ev_law [PKI] (hK:Cm PK) (hD:X0 PK) (x:LI) (hx:okU x):sG 6 [.v (.im 1 (enc fU x))]=some yes:=by
 refine sK p6 ?_;have e0:=ev_big x hx.1;by_cases hbig:1048576<x.length
 ·rw[decide_eq_true hbig]at e0;simp[p6,  e0,yes]
 rw[decide_eq_false hbig]at e0;have hb:=okU_byt hx (by omega);obtain⟨l,hl,e1⟩:=ev_DrawPlayed x hb;have e2:=Vg hK.cu;have e3:=ev_DoAllW hK hD Lj l newW_DR.ok newW_DR.S (by omega);obtain⟨g1,g2⟩:=doAllW_ok (l:=l) newW_DR.ok newW_DR.S;obtain⟨w,n,m,hw,e4⟩:=ev_DrawCommon x hb;obtain⟨v,p,q,hv,e5⟩:=ev_DrawOnly x hb;have e6:=XU w n m hw.S.log;have e7:=XO w n m hw.S.log;have e8:=ev_impl_Only v p q hv.S.log;have e9:=ev_spec_Only v p q hv.S.log;have hol:(only v.log p q).length<=1048576:=Nat.le_trans (List.length_filter_le _ _) (by have:=D6 v.log p;have:=hv.S.log;omega);have e10:=ev_sameInts (only v.log p q) hol;simp only[AD,lent,AA,AJ,fWo]at e2 e3 e4 e5 e6 e7 e8 e9;generalize ME Lj l=r at*;obtain⟨g,cs⟩:=r;simp only at g1 g2 e3;generalize Lj=nw at*;generalize Cj w.log n m=c1 at*;generalize only v.log p q=o1 at*;have hlog:=(A9 g1 g2).log;by_cases h0:g.log.length=0
 ·simp (maxSteps:=9999999) [p6,  e0,e1,e2,e3,e4,e5,e6,e7,e8,e9,e10,h0,yes]
 have h0i: ¬ (g.log.length:Int)=0:=by omega
 obtain⟨u1,hu1,a1⟩:=ev_at x 1 hb (by omega);obtain⟨u2,hu2,a2⟩:=ev_at x 2 hb (by omega);rw[show ((1:Nat):Int)=1 from rfl]at a1;rw[show ((2:Nat):Int)=2 from rfl]at a2;have t1:(u1:Int).tmod (g.log.length:Int)=((u1%g.log.length:Nat):Int):=rfl;have t2:(u2:Int).tmod (g.log.length:Int)=((u2%g.log.length:Nat):Int):=rfl;have m1:u1%g.log.length<g.log.length:=Nat.mod_lt _ (by omega);have m2:u2%g.log.length<g.log.length:=Nat.mod_lt _ (by omega);generalize u1%g.log.length=r1 at*;generalize u2%g.log.length=r2 at*;have w1:IntKind.wrap .i64 (r1:Int)=(r1:Int):=AC (by omega) (by omega);have w2:IntKind.wrap .i64 (r2:Int)=(r2:Int):=AC (by omega) (by omega);obtain⟨A,hA⟩: ∃A:Int,A=1+(r1:Int):=⟨_,rfl⟩;obtain⟨B,hB⟩: ∃B:Int,B=1+(r2:Int):=⟨_,rfl⟩;have w3:IntKind.wrap .i64 (1+(r1:Int))=A:=by rw[hA];exact AC (by omega) (by omega)
 have w4:IntKind.wrap .i64 (1+(r2:Int))=B:=by rw[hB];exact AC (by omega) (by omega)
 have hA1:1<=A/\A<=g.log.length:=by omega
 have hups:=worldOk_ups g1;have b1:=XU g A B g2.log;have b2:=XU g B A g2.log;have b3:=XU g A A g2.log;rw[<-common_comm hups]at b2;rw[common_self hups hA1.1 hA1.2]at b3;have b4:=XT g (Cj g.log A B) A g2.log;have b5:=XT g (Cj g.log A B) B g2.log;have b6:=Ct g (Cj g.log A B) g2.log;have b7:=ev_impl_Only g A B g2.log;have b8:=Ct g A g2.log;have hca:=D6 g.log A;have b9:=ev_sameInts (chain g.log A) (by omega);have hco:=common_only hups A B;have hcl:=D6 g.log (Cj g.log A B);have hen:enc fI (chain g.log (Cj g.log A B))++enc fI (only g.log A B)=enc fI (chain g.log A):=by rw[AU,hco]
 have hsum:(chain g.log (Cj g.log A B)).length+(only g.log A B).length=(chain g.log A).length:=by rw[<-hco,List.length_append]
 have hwi:0<Cj g.log A B->Cj g.log A B∈chain g.log A/\Cj g.log A B∈chain g.log B:=λh=>by
  rcases FO (log:=g.log) A B with ⟨k,_⟩|⟨k1,k2,_⟩
  ·omega
  ·exact⟨k1,k2⟩
 simp only[AD,lent,fWo]at b1 b2 b3 b4 b5 b6 b7 b8;have q1:(chain g.log (Cj g.log A B)).length*8<=35184372088832:=by omega
 have q2:((chain g.log (Cj g.log A B)).length+(only g.log A B).length)*8<=35184372088832:=by omega
 by_cases hc:0<Cj g.log A B
 ·rw[decide_eq_true (hwi hc).1]at b4;rw[decide_eq_true (hwi hc).2]at b5;generalize chain g.log (Cj g.log A B)=cc at*;generalize only g.log A B=oo at*;generalize Cj g.log A B=C at*;generalize chain g.log A=ca at*;simp (maxSteps:=9999999) [p6,  e0,e1,e2,e3,e4,e5,e6,e7,e8,e9,e10,h0,h0i,a1,a2,t1,t2,w1,w2,w3,w4,b1,b2,b3,b4,b5,b6,b7,b8,b9,hen,q1,q2,hc,yes]
 ·generalize chain g.log (Cj g.log A B)=cc at*;generalize only g.log A B=oo at*;generalize Cj g.log A B=C at*;generalize chain g.log A=ca at*;simp (maxSteps:=9999999) [p6,  e0,e1,e2,e3,e4,e5,e6,e7,e8,e9,e10,h0,h0i,a1,a2,t1,t2,w1,w2,w3,w4,b1,b2,b3,b6,b7,b8,b9,hen,q1,q2,hc,yes]
end Go.Proofs.YtghgecpicnfgpaaGreat.Ow
