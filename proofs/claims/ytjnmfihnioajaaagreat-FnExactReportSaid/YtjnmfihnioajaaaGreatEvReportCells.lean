/- Cells, chains, moments: evaluated. -/
import Derived.Test.YtjnmfihnioajaaaGreatEvReport1
namespace Go.Proofs.YtjnmfihnioajaaaGreat.Ow
open Go
set_option linter.unusedVariables false
set_option linter.unusedSimpArgs false
variable {PK : Nat → List Arg → Option Res}
@[simp] def wbox (w : WorldD) : Obj := .box [.im 16 (enc fN w.nodes), .im 3 (enc fW w.net), .im 2 (enc fR w.log), .im 1 (enc fI w.safe), .sc (.int .i64 w.gen)]
/-! ### Numbers in a span -/
def inB (x lo hi : Int) : Bool := decide (x ≥ lo) && decide (x ≤ hi)
theorem ev_l1In (x lo hi : Int) : semK G PK md 56 [.v (.sc (.int .i64 x)), .v (.sc (.int .i64 lo)), .v (.sc (.int .i64 hi))] = some ⟨[.v (.sc (.bool (inB x lo hi)))], [], []⟩ := by
  refine semK_of (pf := p56) rfl (by simp [p56]) ?_
  unfold inB
  by_cases h1 : x ≥ lo
  · by_cases h2 : x ≤ hi <;> simp [p56, h1, h2]
  · simp [p56, h1]
theorem ev_from (x lo hi : Int) : semK G PK md 85 [.v (.sc (.int .i64 x)), .v (.sc (.int .i64 lo)), .v (.sc (.int .i64 hi))] = some ⟨[.v (.sc (.bool (inB x lo hi)))], [], []⟩ := by
  refine semK_of (pf := p85) rfl (by simp [p85]) ?_
  unfold inB
  by_cases h1 : x ≥ lo
  · by_cases h2 : x ≤ hi <;> simp [p85, h1, h2]
  · simp [p85, h1]
/-! ### A cell is put -/
def putAt (m : List Int) (at_ n : Int) : List Int := if 0 ≤ at_ ∧ at_ < m.length then m.set at_.toNat n else m
theorem putAt_len (m : List Int) (at_ n : Int) : (putAt m at_ n).length = m.length := by unfold putAt; split <;> simp
end Go.Proofs.YtjnmfihnioajaaaGreat.Ow
