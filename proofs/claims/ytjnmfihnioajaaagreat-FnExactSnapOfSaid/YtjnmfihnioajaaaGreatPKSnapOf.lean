/- What the small machine takes from outside: slices.Clone. -/
import Derived.Test.YtjnmfihnioajaaaGreatBaseC
namespace Go.Proofs.YtjnmfihnioajaaaGreat.Ow
open Go
def PKc : Nat → List Arg → Option Res
  | 62, [.v (.im k rows)] => if k = 1 ∧ flat rows = true ∧ rows.length * 8 ≤ 35184372088832 then some { out := [.v (.own k rows)], fin := [], pfin := [] } else none
  | _, _ => none
end Go.Proofs.YtjnmfihnioajaaaGreat.Ow
