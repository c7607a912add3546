/- What the small machine takes from outside: slices.Clone. -/
import Derived.Test.YtbolhfegdocpeaaGreatPF
import Derived.Test.YtbolhfegdocpeaaGreatJoinM
import Derived.Test.YtbolhfegdocpeaaGreatJoin
import Derived.KernelRfl
namespace Go.Proofs.YtbolhfegdocpeaaGreat.Ow
open Go
def PKc : Nat → List Arg → Option Res
  | 77, [.v (.im k rows)] => if k = 1 ∧ BA rows = true ∧ rows.length * 1 ≤ 35184372088832 then some { out := [.v (.own k rows)], fin := [], pfin := [] } else none
  | 135, [.v (.im k rows)] => if k = 1 ∧ BA rows = true ∧ rows.length * 8 ≤ 35184372088832 then some { out := [.v (.own k rows)], fin := [], pfin := [] } else none
  | 122, args => joinK args
  | _, _ => none
set_option maxRecDepth 100000
theorem pk_ok : KOk Tryz.prog PKc := fun f args r h => by
  unfold PKc at h
  split at h
  · obtain ⟨⟨hk, h1, h2⟩, h⟩ := A7 h
    subst hk
    cases h
    exact clone_ok (t := 22) (b := 4) (el := 5) Tryz.func77 (by decide +kernel) rfl rfl rfl Tryz.underlying22 (by kernel_rfl) (by kernel_rfl) (by kernel_rfl) (by omega) h1 h2
  · obtain ⟨⟨hk, h1, h2⟩, h⟩ := A7 h
    subst hk
    cases h
    exact clone_ok (t := 27) (b := 4) (el := 3) Tryz.func135 (by decide +kernel) rfl rfl rfl Tryz.underlying27 (by kernel_rfl) (by kernel_rfl) (by kernel_rfl) (by omega) h1 h2
  · exact joinK_ok ⟨_, Tryz.func122, by decide +kernel, fun h => Option.some_ne_none _ h⟩ ⟨Tryz.strings_Join_none, Tryz.strings_Join⟩ h
  · cases h
end Go.Proofs.YtbolhfegdocpeaaGreat.Ow
