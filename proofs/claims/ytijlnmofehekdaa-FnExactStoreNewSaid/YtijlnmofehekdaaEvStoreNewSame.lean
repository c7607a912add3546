/- Lists alike, a list backwards: evaluated. -/
import Derived.Test.YtijlnmofehekdaaEvStoreNewCells
namespace Go.Proofs.Ytijlnmofehekdaa.Ow
open Go
set_option linter.unusedVariables false
set_option linter.unusedSimpArgs false
variable {PK : Nat → List Arg → Option Res}
/-! ### Alike -/
end Go.Proofs.Ytijlnmofehekdaa.Ow
