/- Cells, chains, moments: evaluated. -/
import Derived.Test.YtjnmfihnioajaaaGreatEvMomentOf1
namespace Go.Proofs.YtjnmfihnioajaaaGreat.Ow
open Go
set_option linter.unusedVariables false
set_option linter.unusedSimpArgs false
variable {PK : Nat → List Arg → Option Res}
@[simp] def wbox (w : WorldD) : Obj := .box [.im 16 (enc fN w.nodes), .im 3 (enc fW w.net), .im 2 (enc fR w.log), .im 1 (enc fI w.safe), .sc (.int .i64 w.gen)]
/-! ### Numbers in a span -/
def inB (x lo hi : Int) : Bool := decide (x ≥ lo) && decide (x ≤ hi)
theorem ev_l1In (x lo hi : Int) : semK G PK md 56 [.v (.sc (.int .i64 x)), .v (.sc (.int .i64 lo)), .v (.sc (.int .i64 hi))] = some ⟨[.v (.sc (.bool (inB x lo hi)))], [], []⟩ := by
  refine semK_of (pf := p56) rfl (by simp [p56]) ?_
  unfold inB
  by_cases h1 : x ≥ lo
  · by_cases h2 : x ≤ hi <;> simp [p56, h1, h2]
  · simp [p56, h1]
theorem ev_from (x lo hi : Int) : semK G PK md 85 [.v (.sc (.int .i64 x)), .v (.sc (.int .i64 lo)), .v (.sc (.int .i64 hi))] = some ⟨[.v (.sc (.bool (inB x lo hi)))], [], []⟩ := by
  refine semK_of (pf := p85) rfl (by simp [p85]) ?_
  unfold inB
  by_cases h1 : x ≥ lo
  · by_cases h2 : x ≤ hi <;> simp [p85, h1, h2]
  · simp [p85, h1]
theorem ev_spec_ImageNew : semK G PK md 123 [] = some ⟨[.v (.own 1 (enc fI (List.replicate 8 0)))], [], []⟩ := by
  refine semK_of (pf := p123) rfl (by simp [p123]) ?_
  simp [p123, enc]
theorem ev_impl_ImageNew : semK G PK md 125 [] = some ⟨[.v (.own 1 (enc fI (List.replicate 8 0)))], [], []⟩ := by
  refine semK_of (pf := p125) rfl (by simp [p125]) ?_
  simp [p125, enc]
/-! ### A cell is put -/
def putAt (m : List Int) (at_ n : Int) : List Int := if 0 ≤ at_ ∧ at_ < m.length then m.set at_.toNat n else m
theorem ev_spec_Put (m : List Int) (at_ n : Int) (hm : m.length ≤ 1048576) : semK G PK md 124 [.v (.im 1 (enc fI m)), .v (.sc (.int .i64 at_)), .v (.sc (.int .i64 n))] = some ⟨[.v (.own 1 (enc fI (putAt m at_ n)))], [], []⟩ := by
  refine semK_of (pf := p124) rfl (by simp [p124]) ?_
  have hw : IntKind.wrap .i64 ((m.length : Int) - 1) = m.length - 1 := wrap_id (by omega) (by omega)
  have e1 := ev_l1In (PK := PK) at_ 0 (m.length - 1)
  have hb : m.length * 8 ≤ 35184372088832 := by omega
  by_cases h : 0 ≤ at_ ∧ at_ < m.length
  · have h1 : inB at_ 0 (m.length - 1) = true := by unfold inB; simp; omega
    rw [h1] at e1
    obtain ⟨i, hi⟩ := Int.eq_ofNat_of_zero_le h.1
    subst hi
    have hlt : i < m.length := by omega
    have hs := enc_set fI m i n
    simp only [fI] at hs
    have hp : putAt m (i : Int) n = m.set i n := by unfold putAt; rw [if_pos h]; rfl
    rw [hp]
    simp [p124, md, hw, e1, hb, hlt, hs]
  · have h1 : inB at_ 0 (m.length - 1) = false := by unfold inB; simp; omega
    rw [h1] at e1
    have hp : putAt m at_ n = m := by unfold putAt; rw [if_neg h]
    rw [hp]
    simp [p124, md, hw, e1, hb]
theorem ev_impl_Put (hC : ∀ l : List Int, l.length ≤ 1048576 → semK G PK md 62 [.v (.im 1 (enc fI l))] = some ⟨[.v (.own 1 (enc fI l))], [], []⟩) (m : List Int) (at_ n : Int) (hm : m.length ≤ 1048576) :
    semK G PK md 126 [.v (.im 1 (enc fI m)), .v (.sc (.int .i64 at_)), .v (.sc (.int .i64 n))] = some ⟨[.v (.own 1 (enc fI (putAt m at_ n)))], [], []⟩ := by
  refine semK_of (pf := p126) rfl (by simp [p126]) ?_
  have hw : IntKind.wrap .i64 ((m.length : Int) - 1) = m.length - 1 := wrap_id (by omega) (by omega)
  have e1 := ev_from (PK := PK) at_ 0 (m.length - 1)
  have e2 := hC m hm
  by_cases h : 0 ≤ at_ ∧ at_ < m.length
  · have h1 : inB at_ 0 (m.length - 1) = true := by unfold inB; simp; omega
    rw [h1] at e1
    obtain ⟨i, hi⟩ := Int.eq_ofNat_of_zero_le h.1
    subst hi
    have hlt : i < m.length := by omega
    have hs := enc_set fI m i n
    simp only [fI] at hs
    have hp : putAt m (i : Int) n = m.set i n := by unfold putAt; rw [if_pos h]; rfl
    rw [hp]
    simp [p126, md, hw, e1, e2, hlt, hs]
  · have h1 : inB at_ 0 (m.length - 1) = false := by unfold inB; simp; omega
    rw [h1] at e1
    have hp : putAt m at_ n = m := by unfold putAt; rw [if_neg h]
    rw [hp]
    simp [p126, md, hw, e1, e2]
theorem putAt_len (m : List Int) (at_ n : Int) : (putAt m at_ n).length = m.length := by unfold putAt; split <;> simp
end Go.Proofs.YtjnmfihnioajaaaGreat.Ow
