/- Lists alike, a list backwards: evaluated. -/
import Derived.Test.YtpjalohlppagkaaEvSnapAtCells
namespace Go.Proofs.Ytpjalohlppagkaa.Ow
open Go
set_option linter.unusedVariables false
set_option linter.unusedSimpArgs false
variable {PK : Nat → List Arg → Option Res}
/-! ### Alike -/
end Go.Proofs.Ytpjalohlppagkaa.Ow
