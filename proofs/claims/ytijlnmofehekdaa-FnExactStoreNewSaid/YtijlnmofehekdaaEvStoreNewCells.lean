/- Cells, chains, moments: evaluated. -/
import Derived.Test.YtijlnmofehekdaaEvStoreNew0
namespace Go.Proofs.Ytijlnmofehekdaa.Ow
open Go
set_option linter.unusedVariables false
set_option linter.unusedSimpArgs false
variable {PK : Nat → List Arg → Option Res}
@[simp] def wbox (w : WorldD) : Obj := .box [.im 16 (enc fN w.nodes), .im 3 (enc fW w.net), .im 2 (enc fR w.log), .im 1 (enc fI w.safe), .sc (.int .i64 w.gen)]
/-! ### Numbers in a span -/
def inB (x lo hi : Int) : Bool := decide (x ≥ lo) && decide (x ≤ hi)
theorem ev_l1In (x lo hi : Int) : semK G PK md 41 [.v (.sc (.int .i64 x)), .v (.sc (.int .i64 lo)), .v (.sc (.int .i64 hi))] = some ⟨[.v (.sc (.bool (inB x lo hi)))], [], []⟩ := by
  refine semK_of (pf := p41) rfl (by simp [p41]) ?_
  unfold inB
  by_cases h1 : x ≥ lo
  · by_cases h2 : x ≤ hi <;> simp [p41, h1, h2]
  · simp [p41, h1]
theorem ev_from (x lo hi : Int) : semK G PK md 76 [.v (.sc (.int .i64 x)), .v (.sc (.int .i64 lo)), .v (.sc (.int .i64 hi))] = some ⟨[.v (.sc (.bool (inB x lo hi)))], [], []⟩ := by
  refine semK_of (pf := p76) rfl (by simp [p76]) ?_
  unfold inB
  by_cases h1 : x ≥ lo
  · by_cases h2 : x ≤ hi <;> simp [p76, h1, h2]
  · simp [p76, h1]
theorem ev_spec_ImageNew : semK G PK md 87 [] = some ⟨[.v (.own 1 (enc fI (List.replicate 8 0)))], [], []⟩ := by
  refine semK_of (pf := p87) rfl (by simp [p87]) ?_
  simp [p87, enc]
theorem ev_impl_ImageNew : semK G PK md 90 [] = some ⟨[.v (.own 1 (enc fI (List.replicate 8 0)))], [], []⟩ := by
  refine semK_of (pf := p90) rfl (by simp [p90]) ?_
  simp [p90, enc]
/-! ### A cell is put -/
def putAt (m : List Int) (at_ n : Int) : List Int := if 0 ≤ at_ ∧ at_ < m.length then m.set at_.toNat n else m
theorem putAt_len (m : List Int) (at_ n : Int) : (putAt m at_ n).length = m.length := by unfold putAt; split <;> simp
end Go.Proofs.Ytijlnmofehekdaa.Ow
