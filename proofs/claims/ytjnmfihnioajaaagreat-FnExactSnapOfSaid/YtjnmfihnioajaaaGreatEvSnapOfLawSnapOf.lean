/- The law SnapOf: evaluated. -/
import Derived.Test.YtjnmfihnioajaaaGreatEvSnapOfSizedW
namespace Go.Proofs.YtjnmfihnioajaaaGreat.Ow
open Go
set_option linter.unusedVariables false
set_option linter.unusedSimpArgs false
set_option maxHeartbeats 4000000
variable {PK : Nat → List Arg → Option Res}
theorem snapOf_len (w : WorldD) (a : Int) : (snapOf w a).1.image.length ≤ 8 := by
  unfold snapOf
  split
  · rename_i h
    rw [Bool.and_eq_true, Bool.and_eq_true] at h
    have ra := inB_iff.1 h.1.2
    have := ((worldOk_nodes h.1.1).ok a.toNat (by omega)).img8
    simp [this]
  · simp
theorem ev_law (hC : ∀ l : List Int, l.length ≤ 1048576 → semK G PK md 62 [.v (.im 1 (enc fI l))] = some ⟨[.v (.own 1 (enc fI l))], [], []⟩) (w : WorldD) (n : Int) (hw : okWo w) : semK G PK md 7 [.a (lents (fWo w)), .v (.sc (.int .i64 n))] = some yes := by
  refine semK_of (pf := p7) rfl (by simp [p7]) ?_
  have e1 := ev_szWorld (PK := PK) w 1048576 (by omega) (by omega) hw.sh
  simp only [lents, lent, fWo] at e1
  by_cases c : (1048576 : Int) < szWo w
  · rw [szr_lt c] at e1
    simp [p7, md, e1, yes]
  have d1 : ¬ (1048576 : Int) - szWo w < 0 := by omega
  rw [szr_ge c] at e1
  have hl : szWo w ≤ 1048576 := by omega
  have hS := wS_of hw hl
  have e2 := ev_toWorld (PK := PK) w hl
  have e3 := ev_eqWorld (PK := PK) w w hl
  have hsl := snapOf_len w n
  have e5 := ev_spec_SnapOf (PK := PK) w n hS
  have e6 := ev_impl_SnapOf (PK := PK) hC w n hS
  have e8 := ev_eqSnap (PK := PK) (snapOf w n).1 (snapOf w n).1 (by unfold szSn; omega)
  have e9 := ev_markWorld (PK := PK) w 1 hl (by omega)
  have e10 := ev_markSnap (PK := PK) (snapOf w n).1 1 (by omega) (by omega)
  have hl2 := rI_len (snapOf w n).1.image 1
  have e11 := ev_heldSnap (PK := PK) ⟨(snapOf w n).1.last, rI (snapOf w n).1.image 1⟩ 1 (by rw [hl2]; omega) (by omega) (rI_held _ _)
  rw [show ci 1 = 1 from rfl] at e9 e10 e11
  have d2 : ¬ ci (1 + cWo w) < 0 := by unfold ci; omega
  have d3 : ¬ ci (1 + (snapOf w n).1.image.length) < 0 := by unfold ci; omega
  simp only [lents, lent, fWo, fSn, owneds, owned, decide_true, hl2] at e2 e3 e5 e6 e8 e9 e10 e11
  generalize (snapOf w n).2 = b at e5 e6
  simp [p7, md, e1, d1, e2, e3, e5, e6, e8, e9, e10, e11, d2, d3, yes]
end Go.Proofs.YtjnmfihnioajaaaGreat.Ow
