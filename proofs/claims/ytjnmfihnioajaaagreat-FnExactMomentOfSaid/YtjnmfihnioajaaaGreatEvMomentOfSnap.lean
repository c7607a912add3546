/- Moments: evaluated; the law SnapOk. -/
import Derived.Test.YtjnmfihnioajaaaGreatEvMomentOfChain
namespace Go.Proofs.YtjnmfihnioajaaaGreat.Ow
open Go
set_option linter.unusedVariables false
set_option linter.unusedSimpArgs false
variable {PK : Nat → List Arg → Option Res}
def snapAt (w : WorldD) (n : Int) : SnapD × Bool := if 0 ≤ n ∧ n ≤ w.log.length then (⟨n, replay w.log (chain w.log n)⟩, true) else (⟨0, []⟩, false)
theorem ev_spec_SnapAt (w : WorldD) (n : Int) (hlog : w.log.length ≤ 1048576) : semK G PK md 52 [.a (lents (fWo w)), .v (.sc (.int .i64 n))] = some ⟨[.a (owneds (fSn (snapAt w n).1)), .v (.sc (.bool (snapAt w n).2))], [], []⟩ := by
  refine semK_of (pf := p52) rfl (by simp [p52]) ?_
  have e1 := ev_l1In (PK := PK) n 0 w.log.length
  have e2 := ev_spec_Chain (PK := PK) w n hlog
  have e3 := ev_spec_Replay (PK := PK) w (chain w.log n) (Nat.le_trans (chain_len _ _) hlog) hlog
  simp only [lents, lent, fWo] at e2 e3
  by_cases h : 0 ≤ n ∧ n ≤ w.log.length
  · have h1 : inB n 0 w.log.length = true := by unfold inB; simp; omega
    rw [h1] at e1
    have hs : snapAt w n = (⟨n, replay w.log (chain w.log n)⟩, true) := by unfold snapAt; rw [if_pos h]
    rw [hs]
    simp [p52, md, e1, e2, e3]
  · have h1 : inB n 0 w.log.length = false := by unfold inB; simp; omega
    rw [h1] at e1
    have hs : snapAt w n = (⟨0, []⟩, false) := by unfold snapAt; rw [if_neg h]
    rw [hs]
    simp [p52, md, e1]
theorem ev_impl_SnapAt (hC : ∀ l : List Int, l.length ≤ 1048576 → semK G PK md 62 [.v (.im 1 (enc fI l))] = some ⟨[.v (.own 1 (enc fI l))], [], []⟩) (w : WorldD) (n : Int) (hlog : w.log.length ≤ 1048576) :
    semK G PK md 54 [.a (lents (fWo w)), .v (.sc (.int .i64 n))] = some ⟨[.a (owneds (fSn (snapAt w n).1)), .v (.sc (.bool (snapAt w n).2))], [], []⟩ := by
  refine semK_of (pf := p54) rfl (by simp [p54]) ?_
  have e1 := ev_from (PK := PK) n 0 w.log.length
  have e2 := ev_impl_Chain (PK := PK) w n hlog
  have e3 := ev_impl_Replay (PK := PK) hC w (chain w.log n) (Nat.le_trans (chain_len _ _) hlog) hlog
  simp only [lents, lent, fWo] at e2 e3
  by_cases h : 0 ≤ n ∧ n ≤ w.log.length
  · have h1 : inB n 0 w.log.length = true := by unfold inB; simp; omega
    rw [h1] at e1
    have hs : snapAt w n = (⟨n, replay w.log (chain w.log n)⟩, true) := by unfold snapAt; rw [if_pos h]
    rw [hs]
    simp [p54, md, e1, e2, e3]
  · have h1 : inB n 0 w.log.length = false := by unfold inB; simp; omega
    rw [h1] at e1
    have hs : snapAt w n = (⟨0, []⟩, false) := by unfold snapAt; rw [if_neg h]
    rw [hs]
    simp [p54, md, e1]
theorem snapAt_len (w : WorldD) (n : Int) : (snapAt w n).1.image.length ≤ 8 := by
  unfold snapAt
  split
  · simp [replay_len]
  · simp
def snapOk (w : WorldD) (s : SnapD) : Bool := (snapAt w s.last).2 && decide ((snapAt w s.last).1.image = s.image)
end Go.Proofs.YtjnmfihnioajaaaGreat.Ow
