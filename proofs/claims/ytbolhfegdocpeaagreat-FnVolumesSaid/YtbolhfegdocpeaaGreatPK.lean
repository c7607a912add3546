/- What the small machine takes from outside: slices.Clone. -/
import Derived.Test.YtbolhfegdocpeaaGreatPF
import Derived.KernelRfl
namespace Go.Proofs.YtbolhfegdocpeaaGreat.Ow
open Go
def PKc : Nat → List Arg → Option Res
  | 77, [.v (.im k rows)] => if k = 1 ∧ flat rows = true ∧ rows.length * 1 ≤ 35184372088832 then some { out := [.v (.own k rows)], fin := [], pfin := [] } else none
  | 135, [.v (.im k rows)] => if k = 1 ∧ flat rows = true ∧ rows.length * 8 ≤ 35184372088832 then some { out := [.v (.own k rows)], fin := [], pfin := [] } else none
  | _, _ => none
set_option maxRecDepth 100000
theorem pk_ok : KOk Tryz.prog PKc := fun f args r h => by
  unfold PKc at h
  split at h
  · obtain ⟨⟨hk, h1, h2⟩, h⟩ := ite_some h
    subst hk
    cases h
    exact clone_ok (t := 22) (b := 4) (el := 5) Tryz.func77 (by decide +kernel) rfl rfl rfl Tryz.underlying22 (by kernel_rfl) (by kernel_rfl) (by kernel_rfl) (by omega) h1 h2
  · obtain ⟨⟨hk, h1, h2⟩, h⟩ := ite_some h
    subst hk
    cases h
    exact clone_ok (t := 27) (b := 4) (el := 3) Tryz.func135 (by decide +kernel) rfl rfl rfl Tryz.underlying27 (by kernel_rfl) (by kernel_rfl) (by kernel_rfl) (by omega) h1 h2
  · cases h
end Go.Proofs.YtbolhfegdocpeaaGreat.Ow
