/- The law Owed: evaluated. -/
import Derived.Test.YtjnmfihnioajaaaGreatEvOwedSizedW
namespace Go.Proofs.YtjnmfihnioajaaaGreat.Ow
open Go
set_option linter.unusedVariables false
set_option linter.unusedSimpArgs false
set_option maxHeartbeats 4000000
variable {PK : Nat → List Arg → Option Res}
theorem oN_le (x : NodeD) : oN x ≤ szN x := by unfold oN szN szs; omega
theorem sum_oN : ∀ l : List NodeD, sumN (l.map oN) ≤ sumN (l.map szN)
  | [] => Nat.le_refl _
  | x :: l => by
    have h1 := oN_le x
    have h2 := sum_oN l
    simp only [List.map_cons, sumN]
    omega
theorem ev_law (w : WorldD) (hw : okWo w) : semK G PK md 3 [.a (lents (fWo w))] = some yes := by
  refine semK_of (pf := p3) rfl (by simp [p3]) ?_
  have e1 := ev_szWorld (PK := PK) w 1048576 (by omega) (by omega) hw.sh
  simp only [lents, lent, fWo] at e1
  by_cases c : (1048576 : Int) < szWo w
  · rw [szr_lt c] at e1
    simp [p3, md, e1, yes]
  have d1 : ¬ (1048576 : Int) - szWo w < 0 := by omega
  rw [szr_ge c] at e1
  have hl : szWo w ≤ 1048576 := by omega
  have hS := wS_of hw hl
  have e2 := ev_toWorld (PK := PK) w hl
  have e3 := ev_eqWorld (PK := PK) w w hl
  have hB : sumN (w.nodes.map oN) ≤ 1152921504606846976 := by
    have := sum_oN w.nodes
    unfold szWo szs at hl
    omega
  have e4 := ev_spec_Owed (PK := PK) w hS hB
  have e5 := ev_impl_Owed (PK := PK) w hS hB
  simp only [lents, lent, fWo, owneds, owned, decide_true] at e2 e3 e4 e5
  simp [p3, md, e1, d1, e2, e3, e4, e5, yes]
end Go.Proofs.YtjnmfihnioajaaaGreat.Ow
