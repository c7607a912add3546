/- The law Trouble: evaluated. -/
import Derived.Test.YtcbcackolaphhaaGreatEvTroubleSizedW
namespace Go.Proofs.YtcbcackolaphhaaGreat.Ow
open Go
set_option linter.unusedVariables false
set_option linter.unusedSimpArgs false
set_option maxHeartbeats 4000000
variable {PK : Nat → List Arg → Option Res}
theorem rmp_len2 {α : Type} (g : Nat → α) (l : List α) (j : Nat) : (rmp g l j).length = l.length := rmp_len g l j
theorem ev_law (hJ0 : ∀ xs : List ByteArray, xs.length ≤ 1000 → (joinB xs sp).size ≤ 1000000 → semK G PK md 87 [.v (.im 1 (enc fS xs)), .v (.sc (.string sp))] = some ⟨[.v (.sc (.string (joinB xs sp)))], [], []⟩) (w : WorldD) (hw : okWo w) : semK G PK md 5 [.a (lents (fWo w))] = some yes := by
  refine semK_of (pf := p5) rfl (by simp [p5]) ?_
  have e1 := ev_szWorld (PK := PK) w 1048576 (by omega) (by omega) hw.sh
  simp only [lents, lent, fWo] at e1
  by_cases c : (1048576 : Int) < szWo w
  · rw [szr_lt c] at e1
    simp [p5, md, e1, yes]
  have d1 : ¬ (1048576 : Int) - szWo w < 0 := by omega
  rw [szr_ge c] at e1
  have hl : szWo w ≤ 1048576 := by omega
  have hS := wS_of hw hl
  have e2 := ev_toWorld (PK := PK) w hl
  have e3 := ev_eqWorld (PK := PK) w w hl
  have hB : (trouble w).length ≤ 3 := by
    unfold trouble
    split
    · exact trb_len w 3
    · simp
  have e4 := ev_spec_Trouble (PK := PK) w hS
  have e5 := ev_impl_Trouble (PK := PK) (ev_spaced hJ0) w hS
  generalize trouble w = B at hB e4 e5
  have e6 := ev_eqStringS (PK := PK) B (by omega)
  have e7 := ev_markWorld (PK := PK) w 1 hl (by omega)
  have e8 := ev_markStringS (PK := PK) B 1 (by omega) (by omega)
  have hlU := rmp_len2 (fun i => mtx (1 + i)) B B.length
  have e9 := ev_heldStringS (PK := PK) (rmp (fun i => mtx (1 + i)) B B.length) 1 (by omega) (by omega) (fun p hp => by
    rw [hlU] at hp
    exact rmp_lt _ B _ p hp hp)
  rw [hlU] at e9
  rw [show ci 1 = 1 from rfl] at e7 e8 e9
  have d2 : ¬ ci (1 + cWo w) < 0 := by unfold ci; omega
  have d3 : ¬ ci (1 + B.length) < 0 := by unfold ci; omega
  simp only [lents, lent, fWo, owneds, owned, decide_true] at e2 e3 e4 e5 e6 e7 e8 e9
  simp [p5, md, e1, d1, e2, e3, e4, e5, e6, e7, e8, e9, d2, d3, yes]
end Go.Proofs.YtcbcackolaphhaaGreat.Ow
