/- Moments: evaluated; the law SnapOk. -/
import Derived.Test.YtpjalohlppagkaaEvSnapOkSnap
namespace Go.Proofs.Ytpjalohlppagkaa.Ow
open Go
set_option linter.unusedVariables false
set_option linter.unusedSimpArgs false
variable {PK : Nat → List Arg → Option Res}
theorem ev_law (hC : ∀ l : List Int, l.length ≤ 1048576 → semK G PK md 74 [.v (.im 1 (enc fI l))] = some ⟨[.v (.own 1 (enc fI l))], [], []⟩) (w : WorldD) (s : SnapD) (hw : shWo w) (hs : shSn s) :
    semK G PK md 3 [.a (lents (fWo w)), .a (lents (fSn s))] = some yes := by
  refine semK_of (pf := p3) rfl (by simp [p3]) ?_
  have e1 := ev_szWorld (PK := PK) w 1048576 (by omega) (by omega) hw
  simp only [lents, lent, fWo] at e1
  by_cases c : (1048576 : Int) < szWo w
  · rw [szr_lt c] at e1
    simp [p3, md, e1, yes]
  have d1 : ¬ (1048576 : Int) - szWo w < 0 := by omega
  rw [szr_ge c] at e1
  have e2 := ev_szSnap (PK := PK) s (1048576 - szWo w) (by omega) (by omega) hs
  simp only [lents, lent, fSn] at e2
  by_cases c2 : (1048576 : Int) - szWo w < szSn s
  · rw [szr_lt c2] at e2
    simp [p3, md, e1, d1, e2, yes]
  have d2 : ¬ (1048576 : Int) - szWo w - szSn s < 0 := by omega
  rw [szr_ge c2] at e2
  have hlw : szWo w ≤ 1048576 := by omega
  have hls : szSn s ≤ 1048576 := by omega
  have hlog : w.log.length ≤ 1048576 := by unfold szWo at hlw; omega
  have e3 := ev_toWorld (PK := PK) w hlw
  have e4 := ev_toSnap (PK := PK) s hls
  have e5 := ev_spec_SnapOk (PK := PK) w s hlog
  have e6 := ev_impl_SnapOk (PK := PK) hC w s hlog
  have e7 := ev_eqWorld (PK := PK) w w hlw
  have e8 := ev_eqSnap (PK := PK) s s hls
  simp only [lents, lent, fWo, fSn, owneds, owned, decide_true] at e3 e4 e5 e6 e7 e8
  simp [p3, md, e1, d1, e2, d2, e3, e4, e5, e6, e7, e8, yes]
end Go.Proofs.Ytpjalohlppagkaa.Ow
