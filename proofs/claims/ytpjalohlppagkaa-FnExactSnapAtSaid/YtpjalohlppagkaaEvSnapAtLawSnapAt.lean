/- The law SnapAt: evaluated. -/
import Derived.Test.YtpjalohlppagkaaEvSnapAtMarksW
namespace Go.Proofs.Ytpjalohlppagkaa.Ow
open Go
set_option linter.unusedVariables false
set_option linter.unusedSimpArgs false
variable {PK : Nat → List Arg → Option Res}
theorem ev_law (hC : ∀ l : List Int, l.length ≤ 1048576 → semK G PK md 74 [.v (.im 1 (enc fI l))] = some ⟨[.v (.own 1 (enc fI l))], [], []⟩) (w : WorldD) (n : Int) (hw : shWo w) :
    semK G PK md 4 [.a (lents (fWo w)), .v (.sc (.int .i64 n))] = some yes := by
  refine semK_of (pf := p4) rfl (by simp [p4]) ?_
  have e1 := ev_szWorld (PK := PK) w 1048576 (by omega) (by omega) hw
  simp only [lents, lent, fWo] at e1
  by_cases c : (1048576 : Int) < szWo w
  · rw [szr_lt c] at e1
    simp [p4, md, e1, yes]
  have d1 : ¬ (1048576 : Int) - szWo w < 0 := by omega
  rw [szr_ge c] at e1
  have hlw : szWo w ≤ 1048576 := by omega
  have hlog : w.log.length ≤ 1048576 := by unfold szWo at hlw; omega
  have hsl := snapAt_len w n
  have e3 := ev_toWorld (PK := PK) w hlw
  have e5 := ev_spec_SnapAt (PK := PK) w n hlog
  have e6 := ev_impl_SnapAt (PK := PK) hC w n hlog
  have e7 := ev_eqWorld (PK := PK) w w hlw
  have e8 := ev_eqSnap (PK := PK) (snapAt w n).1 (snapAt w n).1 (by unfold szSn; omega)
  have e9 := ev_markWorld (PK := PK) w 1 hlw (by omega)
  have e10 := ev_markSnap (PK := PK) (snapAt w n).1 1 (by omega) (by omega)
  have hl2 := rI_len (snapAt w n).1.image 1
  have e11 := ev_heldSnap (PK := PK) ⟨(snapAt w n).1.last, rI (snapAt w n).1.image 1⟩ 1 (by rw [hl2]; omega) (by omega) (rI_held _ _)
  rw [show ci 1 = 1 from rfl] at e9 e10 e11
  have d2 : ¬ ci (1 + cWo w) < 0 := by unfold ci; omega
  have d3 : ¬ ci (1 + (snapAt w n).1.image.length) < 0 := by unfold ci; omega
  simp only [lents, lent, fWo, fSn, owneds, owned, decide_true, hl2] at e3 e5 e6 e7 e8 e9 e10 e11
  generalize (snapAt w n).2 = b at e5 e6
  simp [p4, md, e1, d1, e3, e5, e6, e7, e8, e9, e10, e11, d2, d3, yes]
end Go.Proofs.Ytpjalohlppagkaa.Ow
