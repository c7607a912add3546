/- New nodes. -/
import Derived.Test.YtijlnmofehekdaaEvStoreNewSlotPut
namespace Go.Proofs.Ytijlnmofehekdaa.Ow
open Go
set_option linter.unusedVariables false
set_option linter.unusedSimpArgs false
set_option maxHeartbeats 4000000
variable {PK : Nat → List Arg → Option Res}
def newM : MetaD := ⟨[1], [[], [], []], true, false, false, 0⟩
theorem newM_S : mtS newM := by
  refine ⟨by decide, by decide, ?_⟩
  intro l hl
  simp [newM] at hl
  subst hl
  exact Nat.zero_le _
theorem newM_ok : metaOk newM = true := by decide
theorem ev_spec_MetaNew : semK G PK md 86 [.v (.sc (.int .i64 1))] = some ⟨[.a (owneds (fM newM))], [], []⟩ := by
  refine semK_of (pf := p86) rfl (by simp [p86]) ?_
  have e := ev_spec_MetaOk (PK := PK) newM newM_S
  rw [newM_ok] at e
  simp only [lents, lent, fM, newM, List.map, enc, fII, fI] at e
  simp [p86, md, newM, enc, fII, List.replicate, e]
theorem ev_impl_MetaNew : semK G PK md 89 [.v (.sc (.int .i64 1))] = some ⟨[.a (owneds (fM newM))], [], []⟩ := by
  refine semK_of (pf := p89) rfl (by simp [p89]) ?_
  have e := ev_impl_MetaOk (PK := PK) newM newM_S
  rw [newM_ok] at e
  simp only [lents, lent, fM, newM, List.map, enc, fII, fI] at e
  simp [p89, md, newM, enc, fII, List.replicate, e]
end Go.Proofs.Ytijlnmofehekdaa.Ow
