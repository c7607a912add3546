/- Arguments of a law have sizes: nodes. -/
import Derived.Test.YtjnmfihnioajaaaGreatEvReportRepI
namespace Go.Proofs.YtjnmfihnioajaaaGreat.Ow
open Go
set_option linter.unusedVariables false
set_option linter.unusedSimpArgs false
set_option maxHeartbeats 4000000
variable {PK : Nat → List Arg → Option Res}
theorem u8_wf {n : Int} (h : (Lit.int .u8 n).wf = true) : 0 ≤ n ∧ n < 256 := by
  have h1 : IntKind.u8.min = 0 := rfl
  have h2 : IntKind.u8.max = 255 := rfl
  unfold Lit.wf at h
  rw [Bool.and_eq_true, decide_eq_true_iff, decide_eq_true_iff, h1, h2] at h
  omega
theorem okU_byt {l : List Int} (h : okU l) (hl : l.length ≤ 1048576) : byt l := ⟨hl, fun x hx => u8_wf (h.2 x hx)⟩
theorem szs_in {ll : List (List Int)} (h : szs List.length ll ≤ 1048576) : lls ll := by
  unfold szs at h
  refine ⟨by omega, fun x hx => ?_⟩
  have := sumN_mem (l := ll.map List.length) (List.mem_map.2 ⟨x, hx, rfl⟩)
  omega
theorem nS_of {x : NodeD} (ok : okN x) (h : szN x ≤ 1048576) : nS x := by
  unfold szN szM szSl at h
  exact ⟨by omega, ⟨by omega, szs_in (by omega)⟩, ⟨okU_byt ok.a (by omega), okU_byt ok.b (by omega)⟩, by omega, szs_in (by omega), by omega, by omega⟩
end Go.Proofs.YtjnmfihnioajaaaGreat.Ow
