/- The law GetBytes: evaluated. -/
import Derived.Test.YtcbcackolaphhaaGreatEvGetBytesSizedS
namespace Go.Proofs.YtcbcackolaphhaaGreat.Ow
open Go
set_option linter.unusedVariables false
set_option linter.unusedSimpArgs false
set_option maxHeartbeats 4000000
variable {PK : Nat → List Arg → Option Res}
theorem getBytes_len (s : StoreD) (a f n : Int) : (getBytes s a f n).1.length ≤ 64 := by
  unfold getBytes
  split
  · rename_i h1
    split
    · rename_i h2
      split
      · rw [Bool.and_eq_true] at h2
        unfold inVol at h2
        rw [Bool.and_eq_true] at h2
        have r1 := inB_iff.1 h2.1.1
        have r2 := inB_iff.1 h2.1.2
        have ra := inB_iff.1 h2.2
        unfold getB
        simp only [List.length_drop, List.length_take]
        omega
      · simp
    · simp
  · simp
theorem ev_law (hCU : ∀ l : List Int, l.length ≤ 1048576 → semK G PK md 41 [.v (.im 1 (enc fU l))] = some ⟨[.v (.own 1 (enc fU l))], [], []⟩) (s : StoreD) (a f n : Int) (hs : okSt s) : semK G PK md 4 [.a (lents (fSt s)), .v (.sc (.int .i64 a)), .v (.sc (.int .i64 f)), .v (.sc (.int .i64 n))] = some yes := by
  refine semK_of (pf := p4) rfl (by simp [p4]) ?_
  have e1 := ev_szStore (PK := PK) s 1048576 (by omega) (by omega) hs.sh
  simp only [lents, lent, fSt] at e1
  by_cases cc : (1048576 : Int) < szSt s
  · rw [szr_lt cc] at e1
    simp [p4, md, e1, yes]
  have d1 : ¬ (1048576 : Int) - szSt s < 0 := by omega
  rw [szr_ge cc] at e1
  have hl : szSt s ≤ 1048576 := by omega
  have hS := stS_of hs hl
  have e2 := ev_toStore (PK := PK) s hl
  have e3 := ev_eqStore (PK := PK) s s hl
  have hB := getBytes_len s a f n
  have e4 := ev_spec_GetBytes (PK := PK) s a f n hS
  have e5 := ev_impl_GetBytes (PK := PK) hCU s a f n hS
  generalize (getBytes s a f n).1 = B at hB e4 e5
  generalize (getBytes s a f n).2 = code at e4 e5
  have e6 := ev_eqByteS (PK := PK) B B (by omega)
  obtain ⟨r1, r2, r3, r4, r5, e7⟩ := ev_markStore (PK := PK) s 1 hl (by omega)
  have e8 := ev_markByteS (PK := PK) B 1 (by omega) (by omega)
  have hlU := rU_len B 1
  have e9 := ev_heldByteS (PK := PK) (rU B 1) 1 (by omega) (by omega) (rU_held _ _)
  rw [show rmp (gU8 1) B B.length = rU B 1 from rfl] at e8
  rw [hlU] at e9
  rw [show ci 1 = 1 from rfl] at e7 e8 e9
  have d2 : ¬ ci (1 + cSt s) < 0 := by unfold ci; omega
  have d3 : ¬ ci (1 + B.length) < 0 := by unfold ci; omega
  simp only [lents, lent, fSt, owneds, owned, decide_true] at e2 e3 e4 e5 e6 e7 e8 e9
  simp [p4, md, e1, d1, e2, e3, e4, e5, e6, e7, e8, e9, d2, d3, yes]
end Go.Proofs.YtcbcackolaphhaaGreat.Ow
