/- The cells that a list of writes leaves: evaluated. -/
import Derived.Test.YtjnmfihnioajaaaGreatEvSureRev
namespace Go.Proofs.YtjnmfihnioajaaaGreat.Ow
open Go
set_option linter.unusedVariables false
set_option linter.unusedSimpArgs false
variable {PK : Nat → List Arg → Option Res}
def rstep (log : List RecD) (m : List Int) (n : Int) : List Int := if 1 ≤ n ∧ n ≤ log.length then putAt m (log.getD (n - 1).toNat zR).cell n else m
def replay (log : List RecD) (list : List Int) : List Int := list.foldl (rstep log) (List.replicate 8 0)
theorem rstep_len (log : List RecD) (m : List Int) (n : Int) : (rstep log m n).length = m.length := by unfold rstep; split <;> simp [putAt_len]
theorem fold_len (log : List RecD) : ∀ (list : List Int) (m : List Int), (list.foldl (rstep log) m).length = m.length
  | [], m => rfl
  | n :: l, m => by simp only [List.foldl_cons]; rw [fold_len log l, rstep_len]
theorem replay_len (log : List RecD) (list : List Int) : (replay log list).length = 8 := by unfold replay; rw [fold_len]; simp
theorem replay_take (log : List RecD) (list : List Int) {j : Nat} {x : Int} (h : list[j]? = some x) : replay log (list.take (j + 1)) = rstep log (replay log (list.take j)) x := by
  unfold replay
  rw [List.take_add_one, h]
  simp
end Go.Proofs.YtjnmfihnioajaaaGreat.Ow
