/- Arguments of a law have sizes: stores. -/
import Derived.Test.YtcbcackolaphhaaGreatEvGetBytesSizedW
namespace Go.Proofs.YtcbcackolaphhaaGreat.Ow
open Go
set_option linter.unusedVariables false
set_option linter.unusedSimpArgs false
set_option maxHeartbeats 4000000
variable {PK : Nat → List Arg → Option Res}
theorem stS_of {s : StoreD} (ok : okSt s) (h : szSt s ≤ 1048576) : stS s := by
  unfold szSt at h
  have h2 := szs_mem (f := List.length) (l := s.blocks) (B := 1048576) (by omega)
  exact ⟨wS_of ok.w (by omega), h2.1, fun x hx => okU_byt (ok.blocks.2 x hx) (h2.2 x hx)⟩
end Go.Proofs.YtcbcackolaphhaaGreat.Ow
