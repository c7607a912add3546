/- Arguments of a law have sizes: worlds. -/
import Derived.Test.YtjnmfihnioajaaaGreatEvReportSizedN
namespace Go.Proofs.YtjnmfihnioajaaaGreat.Ow
open Go
set_option linter.unusedVariables false
set_option linter.unusedSimpArgs false
set_option maxHeartbeats 4000000
variable {PK : Nat → List Arg → Option Res}
theorem szs_mem {α : Type} {f : α → Nat} {l : List α} {B : Nat} (h : szs f l ≤ B) : l.length ≤ B ∧ ∀ x ∈ l, f x ≤ B := by
  unfold szs at h
  refine ⟨by omega, fun x hx => ?_⟩
  have := sumN_mem (l := l.map f) (List.mem_map.2 ⟨x, hx, rfl⟩)
  omega
theorem wS_of {w : WorldD} (ok : okWo w) (h : szWo w ≤ 1048576) : wS w := by
  unfold szWo at h
  have h1 := szs_mem (f := szN) (l := w.nodes) (B := 1048576) (by omega)
  have h2 := szs_mem (f := szW) (l := w.net) (B := 1048576) (by omega)
  exact ⟨h1.1, fun x hx => nS_of (ok.nodes.2 x hx) (h1.2 x hx), h2.1, fun x hx => okU_byt (ok.net.2 x hx).bytes (h2.2 x hx), by omega, by omega⟩
end Go.Proofs.YtjnmfihnioajaaaGreat.Ow
