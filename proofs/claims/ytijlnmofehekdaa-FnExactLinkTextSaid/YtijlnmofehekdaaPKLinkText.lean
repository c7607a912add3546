/- What the small machine takes from outside: slices.Clone. -/
import Derived.Test.YtijlnmofehekdaaBaseC
namespace Go.Proofs.Ytijlnmofehekdaa.Ow
open Go
def PKc : Nat → List Arg → Option Res
  | _, _ => none
end Go.Proofs.Ytijlnmofehekdaa.Ow
