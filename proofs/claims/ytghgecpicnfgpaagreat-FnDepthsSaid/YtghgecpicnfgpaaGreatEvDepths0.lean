/- FnDepths: evaluated. -/
import Derived.Test.YtghgecpicnfgpaaGreatEv35
namespace Go.Proofs.YtghgecpicnfgpaaGreat.Ow
open Go
set_option linter.unusedVariables false
set_option linter.unusedSimpArgs false
set_option maxHeartbeats 16000000
set_option maxRecDepth 100000
@[simp] def st4 (g:AB) (j:Nat):St:={n:=103,m:=0,tm:=[(3,.pb 10000000 0),(10,.sc (I6 ((j:Int)+1)))],ob:=[(10000000,.box [.ref 10000001 [],.ref 10000002 [],.ref 10000003 [],.ref 10000004 [],.sc (I6 g.gen)]),(10000001,.arr 16 (enc fN g.nodes)),(10000002,.arr 3 (enc fW g.net)),(10000003,.arr 2 (enc fR g.log)),(10000004,.arr 1 (enc fI g.safe))]}
theorem lp_Depths [PKI] (g:AB) (hok:Ap g=true) (hw:wS g): ∀ (t:St),t.m<=10000000->Aa 10000000 [3,10] t=st4 g 0->A6 G PK md 10000000 [3,10] b4_0 t=xG b4_0 (st4 g g.log.length):=
 @lok _ 10000000 [3,10] b4_0 (st4 g) g.log.length (λj hj=>by
  obtain⟨r,hr,_,hup,hr0,hr1⟩:=Sy hok hj;obtain⟨_,hr'⟩:=BT hr;have hll:=hw.log;have hch:=Oz (log:=g.log) (n:=(j:Int)+1) (by omega) (by omega) (by rw[hup];exact hr0) (by rw[hup];exact hr1);rw[hup]at hch;have e1:=ev_impl_Depth g ((j:Int)+1) hll;have e2:=ev_impl_Depth g r.up hll;have e3:=XT g ((j:Int)+1) ((j:Int)+1) hll;have e4:=XT g r.up ((j:Int)+1) hll;have e5:=XT g ((j:Int)+1) r.up hll;have hlen:=D6 g.log r.up;have hno: ¬ ((j:Int)+1∈chain g.log r.up):=λh=>by have:=Iv h;omega
  have hin:0<r.up->r.up∈chain g.log ((j:Int)+1):=λh=>by
   rw[hch];obtain⟨k,hk⟩: ∃k:Nat,r.up=(k:Int)+1:=⟨(r.up - 1).toNat,by omega⟩;obtain⟨r2,_,_,hup2,hr2,hr3⟩:=Sy hok (j:=k) (by omega);have h2:=Oz (log:=g.log) (n:=r.up) (by omega) (by omega) (by rw[hk,hup2];exact hr2) (by rw[hk,hup2];exact hr3);rw[h2];simp
  rw[hch]at e1 e3 e4 hin;rw[decide_eq_true (by simp)]at e3;rw[decide_eq_false hno]at e5;simp only[List.length_append,List.length_cons,List.length_nil,Nat.zero_add]at e1;generalize chain g.log r.up=c at*;have w0:IntKind.wrap .i64 (j:Int)=(j:Int):=AC (by omega) (by omega);have w1:IntKind.wrap .i64 ((c.length:Int)+1)=(c.length:Int)+1:=AC (by omega) (by omega);have w2:IntKind.wrap .i64 ((j:Int)+1+1)=(j:Int)+1+1:=AC (by omega) (by omega);have hle:(j:Int)+1<=g.log.length:=by omega
  rw[show ((c.length+1:Nat):Int)=(c.length:Int)+1 from rfl]at e1;simp only[AD,lent,fWo]at e1 e2 e3 e4 e5;by_cases h0:0<r.up
  ·rw[decide_eq_true (hin h0)]at e4;simp (maxSteps:=9999999) [b4_0,  hle,hj,hr',w0,w1,w2,e1,e2,e3,e4,e5,h0]
  ·simp (maxSteps:=9999999) [b4_0,  hle,hj,hr',w0,w1,w2,e1,e2,e3,h0]) (by
  have hle: ¬ (g.log.length:Int)+1<=g.log.length:=by omega
  simp[b4_0,hle])
theorem ev_law [PKI] (hK:Cm PK) (hD:X0 PK) (x:LI) (hx:okU x):sG 4 [.v (.im 1 (enc fU x))]=some yes:=by
 refine sK p4 ?_;have e0:=ev_big x hx.1;by_cases hbig:1048576<x.length
 ·rw[decide_eq_true hbig]at e0;simp[p4,  e0,yes]
 rw[decide_eq_false hbig]at e0;have hb:=okU_byt hx (by omega);obtain⟨l,hl,e1⟩:=ev_DrawPlayed x hb;have e2:=Vg hK.cu;have e3:=ev_DoAllW hK hD Lj l newW_DR.ok newW_DR.S (by omega);obtain⟨g1,g2⟩:=doAllW_ok (l:=l) newW_DR.ok newW_DR.S;obtain⟨w,n,hw,e4⟩:=ev_DrawDepth x hb;obtain⟨v,a,b,hv,e5⟩:=ev_DrawWithin x hb;have e6:=ev_impl_Depth w n hw.S.log;have e7:=ev_spec_Depth w n hw.S.log;have e8:=XT v a b hv.S.log;have e9:=H7 v a b hv.S.log;have h1:=lp_Depths (ME Lj l).1 g1 g2;have e10:=ev_impl_Depth (ME Lj l).1 0 g2.log;rw[Gn (by omega)]at e10;simp only[AD,lent,AA,AJ,fWo]at e2 e3 e4 e5 e6 e7 e8 e9 e10;generalize ME Lj l=r at*;obtain⟨g,cs⟩:=r;simp only at h1 e3 e10;generalize Lj=nw at*;generalize chain w.log n=c1 at*;generalize chain v.log b=c2 at*;simp (maxSteps:=9999999) [p4,  e0,e1,e2,e3,e4,e5,e6,e7,e8,e9];rw[h1]
 ·have hle: ¬ (g.log.length:Int)+1<=g.log.length:=by omega
  simp (maxSteps:=9999999) [b4_0,  hle,e10,yes]
 ·simp
 ·simp
end Go.Proofs.YtghgecpicnfgpaaGreat.Ow
