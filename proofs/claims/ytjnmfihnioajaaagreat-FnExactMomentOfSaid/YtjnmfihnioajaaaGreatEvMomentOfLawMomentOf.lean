/- The law MomentOf: evaluated. -/
import Derived.Test.YtjnmfihnioajaaaGreatEvMomentOfSizedW
namespace Go.Proofs.YtjnmfihnioajaaaGreat.Ow
open Go
set_option linter.unusedVariables false
set_option linter.unusedSimpArgs false
set_option maxHeartbeats 4000000
variable {PK : Nat → List Arg → Option Res}
theorem ev_law (hC : ∀ l : List Int, l.length ≤ 1048576 → semK G PK md 62 [.v (.im 1 (enc fI l))] = some ⟨[.v (.own 1 (enc fI l))], [], []⟩) (w : WorldD) (m : List Int) (hw : okWo w) : semK G PK md 5 [.a (lents (fWo w)), .v (.im 1 (enc fI m))] = some yes := by
  refine semK_of (pf := p5) rfl (by simp [p5]) ?_
  by_cases cm : (1048576 : Int) < m.length
  · simp [p5, md, cm, yes]
  have hm : m.length ≤ 1048576 := by omega
  have e1 := ev_szWorld (PK := PK) w 1048576 (by omega) (by omega) hw.sh
  simp only [lents, lent, fWo] at e1
  by_cases c : (1048576 : Int) < szWo w
  · rw [szr_lt c] at e1
    simp [p5, md, e1, yes, cm]
  have d1 : ¬ (1048576 : Int) - szWo w < 0 := by omega
  rw [szr_ge c] at e1
  have hl : szWo w ≤ 1048576 := by omega
  have hS := wS_of hw hl
  have e2 := ev_toWorld (PK := PK) w hl
  have e3 := ev_eqWorld (PK := PK) w w hl
  have e4 := ev_spec_MomentOf (PK := PK) w m hS hm
  have e5 := ev_impl_MomentOf (PK := PK) hC w m hS hm
  have e6 := ev_toIntS (PK := PK) m hm
  have e7 := ev_eqIntS (PK := PK) m m hm
  simp only [lents, lent, fWo, owneds, owned, decide_true] at e2 e3 e4 e5 e6 e7
  simp [p5, md, cm, e1, d1, e2, e3, e4, e5, e6, e7, yes]
end Go.Proofs.YtjnmfihnioajaaaGreat.Ow
