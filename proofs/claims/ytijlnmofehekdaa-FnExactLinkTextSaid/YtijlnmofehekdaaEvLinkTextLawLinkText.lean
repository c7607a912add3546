/- The law LinkText: evaluated. -/
import Derived.Test.YtijlnmofehekdaaEvLinkTextLink
namespace Go.Proofs.Ytijlnmofehekdaa.Ow
open Go
set_option linter.unusedVariables false
set_option linter.unusedSimpArgs false
set_option maxHeartbeats 4000000
variable {PK : Nat → List Arg → Option Res}
theorem u8_wf {n : Int} (h : (Lit.int .u8 n).wf = true) : 0 ≤ n ∧ n < 256 := by
  have h1 : IntKind.u8.min = 0 := rfl
  have h2 : IntKind.u8.max = 255 := rfl
  unfold Lit.wf at h
  rw [Bool.and_eq_true, decide_eq_true_iff, decide_eq_true_iff, h1, h2] at h
  omega
theorem okU_byt {l : List Int} (h : okU l) (hl : l.length ≤ 1048576) : byt l := ⟨hl, fun x hx => u8_wf (h.2 x hx)⟩
theorem szs_in {ll : List (List Int)} (h : szs List.length ll ≤ 1048576) : lls ll := by
  unfold szs at h
  refine ⟨by omega, fun x hx => ?_⟩
  have := sumN_mem (l := ll.map List.length) (List.mem_map.2 ⟨x, hx, rfl⟩)
  omega
theorem nS_of {x : NodeD} (ok : okN x) (h : szN x ≤ 1048576) : nS x := by
  unfold szN szM szSl at h
  exact ⟨by omega, ⟨by omega, szs_in (by omega)⟩, ⟨okU_byt ok.a (by omega), okU_byt ok.b (by omega)⟩, by omega, szs_in (by omega), by omega, by omega⟩
theorem ev_law (x y : NodeD) (hx : okN x) (hy : okN y) : semK G PK md 3 [.a (lents (fN x)), .a (lents (fN y))] = some yes := by
  refine semK_of (pf := p3) rfl (by simp [p3]) ?_
  have e1 := ev_szNode (PK := PK) x 1048576 (by omega) (by omega) hx.sh
  simp only [lents, lent, fN] at e1
  by_cases c : (1048576 : Int) < szN x
  · rw [szr_lt c] at e1
    simp [p3, md, e1, yes]
  have hl : szN x ≤ 1048576 := by omega
  have d : ¬ (1048576 : Int) - szN x < 0 := by omega
  rw [szr_ge c] at e1
  have e2 := ev_szNode (PK := PK) y (1048576 - szN x) (by omega) (by omega) hy.sh
  simp only [lents, lent, fN] at e2
  by_cases c2 : (1048576 : Int) - szN x < szN y
  · rw [szr_lt c2] at e2
    simp [p3, md, e1, d, e2, yes]
  have hl2 : szN y ≤ 1048576 := by omega
  have d2 : ¬ (1048576 : Int) - szN x - szN y < 0 := by omega
  rw [szr_ge c2] at e2
  have e3 := ev_toNode (PK := PK) x hl
  have e4 := ev_toNode (PK := PK) y hl2
  have e5 := ev_spec_LinkText (PK := PK) x y (nS_of hx hl) (nS_of hy hl2)
  have e6 := ev_impl_LinkText (PK := PK) x y (nS_of hx hl) (nS_of hy hl2)
  have e7 := ev_eqNode (PK := PK) x x hl
  have e8 := ev_eqNode (PK := PK) y y hl2
  simp only [lents, lent, fN, owneds, owned, decide_true] at e3 e4 e5 e6 e7 e8
  simp [p3, md, e1, d, e2, d2, e3, e4, e5, e6, e7, e8, yes]
end Go.Proofs.Ytijlnmofehekdaa.Ow
