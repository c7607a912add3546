/- Metas alike: evaluated. -/
import Derived.Test.YtijlnmofehekdaaEvStoreNewNodeD
namespace Go.Proofs.Ytijlnmofehekdaa.Ow
open Go
set_option maxHeartbeats 4000000
set_option linter.unusedVariables false
set_option linter.unusedSimpArgs false
variable {PK : Nat → List Arg → Option Res}
theorem meta_eq (a b : MetaD) : decide (a = b) = (decide (a.gens = b.gens) && decide (a.bits = b.bits) && (a.fine == b.fine) && (a.old == b.old) && (a.held == b.held) && (a.last == b.last)) := by
  obtain ⟨g, l, f, o, h, n⟩ := a
  obtain ⟨g', l', f', o', h', n'⟩ := b
  simp only [MetaD.mk.injEq, Bool.decide_and, Bool.and_assoc]
  rfl
end Go.Proofs.Ytijlnmofehekdaa.Ow
