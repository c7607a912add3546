/- The law Report: evaluated. -/
import Derived.Test.YtjnmfihnioajaaaGreatEvReportSizedW
namespace Go.Proofs.YtjnmfihnioajaaaGreat.Ow
open Go
set_option linter.unusedVariables false
set_option linter.unusedSimpArgs false
set_option maxHeartbeats 4000000
variable {PK : Nat → List Arg → Option Res}
theorem ev_law (hJ0 : ∀ xs : List ByteArray, xs.length ≤ 1000 → (joinB xs sp).size ≤ 1000000 → semK G PK md 104 [.v (.im 1 (enc fS xs)), .v (.sc (.string sp))] = some ⟨[.v (.sc (.string (joinB xs sp)))], [], []⟩) (w : WorldD) (hw : okWo w) : semK G PK md 8 [.a (lents (fWo w))] = some yes := by
  refine semK_of (pf := p8) rfl (by simp [p8]) ?_
  have e1 := ev_szWorld (PK := PK) w 1048576 (by omega) (by omega) hw.sh
  simp only [lents, lent, fWo] at e1
  by_cases c : (1048576 : Int) < szWo w
  · rw [szr_lt c] at e1
    simp [p8, md, e1, yes]
  have d1 : ¬ (1048576 : Int) - szWo w < 0 := by omega
  rw [szr_ge c] at e1
  have hl : szWo w ≤ 1048576 := by omega
  have hS := wS_of hw hl
  have e2 := ev_toWorld (PK := PK) w hl
  have e3 := ev_eqWorld (PK := PK) w w hl
  have e4 := ev_spec_Report (PK := PK) w hS
  have e5 := ev_impl_Report (PK := PK) (ev_spaced hJ0) w hS
  simp only [lents, lent, fWo, owneds, owned, decide_true] at e2 e3 e4 e5
  simp [p8, md, e1, d1, e2, e3, e4, e5, yes]
end Go.Proofs.YtjnmfihnioajaaaGreat.Ow
