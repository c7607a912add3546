/- What the small machine takes from outside: slices.Clone. -/
import Derived.Test.YtjnmfihnioajaaaGreatJoinM
namespace Go.Proofs.YtjnmfihnioajaaaGreat.Ow
open Go
def PKc : Nat → List Arg → Option Res
  | 104, args => joinK args
  | _, _ => none
end Go.Proofs.YtjnmfihnioajaaaGreat.Ow
