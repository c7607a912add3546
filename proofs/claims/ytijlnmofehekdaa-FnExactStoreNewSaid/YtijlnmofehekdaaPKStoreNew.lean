/- What the small machine takes from outside: slices.Clone. -/
import Derived.Test.YtijlnmofehekdaaBaseC
namespace Go.Proofs.Ytijlnmofehekdaa.Ow
open Go
def PKc : Nat → List Arg → Option Res
  | 125, [.v (.im k rows)] => if k = 1 ∧ flat rows = true ∧ rows.length * 1 ≤ 35184372088832 then some { out := [.v (.own k rows)], fin := [], pfin := [] } else none
  | _, _ => none
end Go.Proofs.Ytijlnmofehekdaa.Ow
