/- What the small machine takes from outside: slices.Clone. -/
import Derived.Test.YtjnmfihnioajaaaGreatBaseC
namespace Go.Proofs.YtjnmfihnioajaaaGreat.Ow
open Go
def PKc : Nat → List Arg → Option Res
  | _, _ => none
end Go.Proofs.YtjnmfihnioajaaaGreat.Ow
