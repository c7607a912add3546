/- FnLinks: evaluated. -/
import Derived.Test.YtghgecpicnfgpaaGreatEvLinks0
import Derived.Test.YtghgecpicnfgpaaGreatEv32
import Derived.Test.YtghgecpicnfgpaaGreatEv30
import Derived.Test.YtghgecpicnfgpaaGreatEv34
namespace Go.Proofs.YtghgecpicnfgpaaGreat.Ow
open Go
set_option linter.unusedVariables false
set_option linter.unusedSimpArgs false
set_option maxHeartbeats 16000000
set_option maxRecDepth 100000
theorem newW_CP:CP Lj:=λi k hi hk h=>by
 rcases(by omega:i=0\/i=1\/i=2)with rfl|rfl|rfl<;>rcases(by omega:k=0\/k=1\/k=2)with rfl|rfl|rfl<;>rfl
theorem Vd [PKI] (x:LI) (a b:Nat) (hx:x.length<=1048576) (ha:a<=1000) (hb:b<=1000): ∃n:Nat,n<=b/\sG 40 [.v (.im 1 (enc fU x)),.v (.sc (I6 a)),.v (.sc (I6 b))]=some ⟨[.v (.sc (I6 n))],[],[]⟩:=by
 obtain⟨q,hq⟩: ∃q:Nat,q=x.length / 4:=⟨_,rfl⟩;have h4:((x.length:Int)).tdiv 4=(q:Int):=by rw[hq];rfl
 have w1:IntKind.wrap .i64 (q:Int)=(q:Int):=AC (by omega) (by omega);obtain⟨s,hs⟩: ∃s:Nat,s=a+q:=⟨_,rfl⟩;have w2:IntKind.wrap .i64 ((a:Int)+q)=(s:Int):=by rw[AC (by omega) (by omega)];omega
 by_cases h:b<s
 ·have h':(b:Int)<s:=by omega
  refine⟨b,Nat.le_refl _,sK p40 ?_⟩;simp[p40,  h4,w1,w2,h,h']
 ·have h': ¬ (b:Int)<s:=by omega
  refine⟨s,by omega,sK p40 ?_⟩;simp[p40,  h4,w1,w2,h,h']
theorem ev_DrawPlayed [PKI] (x:LI) (hb:byt x): ∃l:List CD,l.length<=1000/\sG 10 [.v (.im 1 (enc fU x))]=some ⟨[.v (.own 3 (enc fD l))],[],[]⟩:=by
 obtain⟨c,hc,e1⟩:=SX x hb;obtain⟨n,hn,e2⟩:=Vd x 110 200 hb.1 (by omega) (by omega);obtain⟨l,w,c',hl,hw,hc',e3⟩:=JK x c n hb hc (by omega);rw[show ((110:Nat):Int)=110 from rfl,show ((200:Nat):Int)=200 from rfl]at e2;refine⟨l,hl,sK p10 ?_⟩;simp only[cur,AA,AJ,fWo]at e1 e2 e3;simp[p10,  e1,e2,e3]
def lT (c p q:Bool):ByteArray:=if c then(if p then⟨#[102,114,111,109]⟩else if q then⟨#[116,111]⟩else⟨#[106,111,105,110,101,100]⟩)else⟨#[97,112,97,114,116]⟩
theorem link_same {g:AB} {i:Nat}:linkText (nd g i) (nd g i)=⟨#[110,111,110,101]⟩:=by
 unfold linkText;rw[if_neg (λh=>h.2.2 rfl)]
theorem link_of {g:AB} (hok:Ap g=true) {i k:Nat} (hi:i<3) (hk:k<3) (hik:i≠k):linkText (nd g i) (nd g k)=lT (cn g i k) (cpy g i k) (cpy g k i):=by
 have hN:=F7 hok;have hi1:=hN.id i hi;have hk1:=hN.id k hk;have h:=hok;unfold Ap Kk FD at h;simp only[Bool.and_eq_true]at h;have hn: ∀j,j<3->AL (nd g j)=true:=λj hj=>by
  have h1:=Am h.1.1.1.2 hj;simp only[Bool.and_eq_true]at h1;exact h1.1.1.2
 have hs0:=Am h.2.1.1 hi;have hs0:Ac (F8 g i) 3=true:=hs0;have hsy:=Am hs0 hk;unfold F8 at hsy;rw[beq_iff_eq]at hsy;unfold linkText lT;rw[if_pos ⟨hn i hi,hn k hk,by omega⟩,hi1,hk1];simp only[Int.toNat_natCast];rw[show (nd g i).conn.getD k false=cn g i k from rfl,show (nd g k).conn.getD i false=cn g k i from rfl,<-hsy,Bool.and_self];rfl
@[simp] def st3_0 (g:AB) (i k:Nat):St:={n:=89,m:=0,tm:=[(3,.pb 10000200 0),(5,.sc (I6 i)),(6,.sc (I6 k))],ob:=[(10000200,.box [.ref 10000201 [],.ref 10000202 [],.ref 10000203 [],.ref 10000204 [],.sc (I6 g.gen)]),(10000201,.arr 16 (enc fN g.nodes)),(10000202,.arr 3 (enc fW g.net)),(10000203,.arr 2 (enc fR g.log)),(10000204,.arr 1 (enc fI g.safe))]}
@[simp] def st3_1 (g:AB) (i:Nat):St:={n:=89,m:=0,tm:=[(3,.pb 10000000 0),(5,.sc (I6 i))],ob:=[(10000000,.box [.ref 10000001 [],.ref 10000002 [],.ref 10000003 [],.ref 10000004 [],.sc (I6 g.gen)]),(10000001,.arr 16 (enc fN g.nodes)),(10000002,.arr 3 (enc fW g.net)),(10000003,.arr 2 (enc fR g.log)),(10000004,.arr 1 (enc fI g.safe))]}
theorem lp_Links0 [PKI] (g : AB) (hok : Ap g = true) (hw : wS g) (hc : CP g) (i : Nat) (hi : i < 3) : ∀ (t : St), t.m <= 10000200 -> Aa 10000200 [3, 5, 6] t = st3_0 g i 0 -> A6 G PK md 10000200 [3, 5, 6] b3_0 t = xG b3_0 (st3_0 g i 3) :=
  @lok _ 10000200 [3, 5, 6] b3_0 (st3_0 g i) 3 (λk hk => by
    have hWI := A9 hok hw;have hn3 := hWI.n3;obtain ⟨x, y1, _, hx', hxd, hxm⟩ := AX g.nodes zN (j := i) (by omega);obtain ⟨y, y2, _, hy', hyd, hym⟩ := AX g.nodes zN (j := k) (by omega);have hxa : nd g i = x := hxd;have hya : nd g k = y := hyd;have hinc := Ar hk (by omega);have hk3 : (k : Int) < 3 := by omega
    have e1 := ev_impl_LinkText x y (hw.node x hxm) (hw.node y hym);have e2 := ev_impl_LinkText y x (hw.node y hym) (hw.node x hxm);have e3 := ev_spec_LinkText x y (hw.node x hxm) (hw.node y hym);simp only [AD, lent, fN] at e1 e2 e3;by_cases hik : i = k
    · have h1 := link_same (g := g) (i := i)
      have hyx : y = x := by rw [<-hxa, <-hya, hik]
      subst hyx
      rw [hxa] at h1
      rw [h1] at e1 e2 e3
      have hb : ((i : Int) == (k : Int)) = true := by simp [hik]
      have hp : ((i : Int) = (k : Int)) = True := eq_true (by omega)
      simp (maxSteps := 9999999) [b3_0,  hk3, y1, y2, hx', hy', e1, e2, e3, hb, hp, hinc]
    · have h1 := link_of hok hi hk hik
      have h2 := link_of hok hk hi (Ne.symm hik)
      have hN := F7 hok
      rw [hxa, hya] at h1 h2
      have hsy : cn g k i = cn g i k := by
        have h := hok;unfold Ap Kk at h;simp only [Bool.and_eq_true] at h;have hs0 := Am h.2.1.1 hi;have hs0 : Ac (F8 g i) 3 = true := hs0;have hsy := Am hs0 hk;unfold F8 at hsy;rw [beq_iff_eq] at hsy;exact hsy.symm
      rw [hsy] at h2
      have hcp := hc i k hi hk
      rw [h1] at e1 e3
      rw [h2] at e2
      have hb : ((i : Int) == (k : Int)) = false := beq_eq_false_iff_ne.2 (by omega)
      have hp : ((i : Int) = (k : Int)) = False := eq_false (by omega)
      generalize cn g i k = c at *
      generalize cpy g i k = p at *
      generalize cpy g k i = q at *
      cases c <;> cases p <;> cases q <;> first
        | exact absurd (hcp rfl) (by decide)
        | (simp only [lT, if_true, if_false, Bool.false_eq_true] at e1 e2 e3
           simp (maxSteps := 9999999) [b3_0,  hk3, y1, y2, hx', hy', e1, e2, e3, hb, hp, hinc]; done)) (by simp [b3_0])
theorem lp_Links1 [PKI] (g:AB) (hok:Ap g=true) (hw:wS g) (hc:CP g): ∀ (t:St),t.m<=10000000->Aa 10000000 [3,5] t=st3_1 g 0->A6 G PK md 10000000 [3,5] b3_1 t=xG b3_1 (st3_1 g 3):=
 @lok _ 10000000 [3,5] b3_1 (st3_1 g) 3 (λi hi=>by
  have hinc:=Ar hi (by omega);have hi3:(i:Int)<3:=by omega
  have h0:=lp_Links0 g hok hw hc i hi;simp (maxSteps:=9999999) [b3_1,  hi3];rw[h0]
  ·simp (maxSteps:=9999999) [b3_0,  hinc]
  ·simp
  ·simp) (by simp[b3_1])
theorem ev_law [PKI] (hK:Cm PK) (hD:X0 PK) (x:LI) (hx:okU x):sG 3 [.v (.im 1 (enc fU x))]=some yes:=by
 refine sK p3 ?_;have e0:=ev_big x hx.1;by_cases hbig:1048576<x.length
 ·rw[decide_eq_true hbig]at e0;simp[p3,  e0,yes]
 rw[decide_eq_false hbig]at e0;have hb:=okU_byt hx (by omega);obtain⟨l,hl,e1⟩:=ev_DrawPlayed x hb;have e2:=Vg hK.cu;have e3:=ev_DoAllW hK hD Lj l newW_DR.ok newW_DR.S (by omega);obtain⟨g1,g2,g3⟩:=doAllW_I (l:=l) newW_DR.ok newW_DR.S newW_CP;have h1:=lp_Links1 (ME Lj l).1 g1 g2 g3;simp only[AD,lent,AA,AJ,fWo]at e2 e3;generalize ME Lj l=r at*;obtain⟨g,cs⟩:=r;simp only at h1 e3;generalize Lj=nw at*;simp (maxSteps:=9999999) [p3,  e0,e1,e2,e3];rw[h1]
 ·simp[b3_1,yes]
 ·simp
 ·simp
end Go.Proofs.YtghgecpicnfgpaaGreat.Ow
