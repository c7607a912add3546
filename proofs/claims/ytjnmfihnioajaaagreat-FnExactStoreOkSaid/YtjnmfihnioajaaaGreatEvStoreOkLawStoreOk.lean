/- The law StoreOk: evaluated. -/
import Derived.Test.YtjnmfihnioajaaaGreatEvStoreOkSizedS
namespace Go.Proofs.YtjnmfihnioajaaaGreat.Ow
open Go
set_option linter.unusedVariables false
set_option linter.unusedSimpArgs false
set_option maxHeartbeats 4000000
variable {PK : Nat → List Arg → Option Res}
theorem ev_law (s : StoreD) (hs : okSt s) : semK G PK md 4 [.a (lents (fSt s))] = some yes := by
  refine semK_of (pf := p4) rfl (by simp [p4]) ?_
  have e1 := ev_szStore (PK := PK) s 1048576 (by omega) (by omega) hs.sh
  simp only [lents, lent, fSt] at e1
  by_cases c : (1048576 : Int) < szSt s
  · rw [szr_lt c] at e1
    simp [p4, md, e1, yes]
  have d1 : ¬ (1048576 : Int) - szSt s < 0 := by omega
  rw [szr_ge c] at e1
  have hl : szSt s ≤ 1048576 := by omega
  have hS := stS_of hs hl
  have e2 := ev_toStore (PK := PK) s hl
  have e3 := ev_eqStore (PK := PK) s s hl
  have e4 := ev_spec_StoreOk (PK := PK) s hS
  have e5 := ev_impl_StoreOk (PK := PK) s hS
  simp only [lents, lent, fSt, owneds, owned, decide_true] at e2 e3 e4 e5
  simp [p4, md, e1, d1, e2, e3, e4, e5, yes]
end Go.Proofs.YtjnmfihnioajaaaGreat.Ow
