/- What the small machine takes from outside: slices.Clone. -/
import Derived.Test.YtcbcackolaphhaaGreatJoinM
namespace Go.Proofs.YtcbcackolaphhaaGreat.Ow
open Go
def PKc : Nat → List Arg → Option Res
  | 87, args => joinK args
  | _, _ => none
end Go.Proofs.YtcbcackolaphhaaGreat.Ow
