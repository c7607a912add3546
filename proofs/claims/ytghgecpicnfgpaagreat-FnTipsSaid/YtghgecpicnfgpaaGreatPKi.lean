/- What the small machine takes from outside: slices.Clone. -/
import Derived.Test.YtghgecpicnfgpaaGreatPF
import Derived.Test.YtghgecpicnfgpaaGreatDel
import Derived.Test.YtghgecpicnfgpaaGreatIns
import Derived.KernelRfl
namespace Go.Proofs.YtghgecpicnfgpaaGreat.Ow
open Go
def PKc : Nat → List Arg → Option Res
  | 55, [.v (.im k rows)] => if k = 2 ∧ An rows = true ∧ rows.length * 16 ≤ 35184372088832 then some { out := [.v (.own k rows)], fin := [], pfin := [] } else none
  | 56, [.v (.im k rows)] => if k = 1 ∧ An rows = true ∧ rows.length * 8 ≤ 35184372088832 then some { out := [.v (.own k rows)], fin := [], pfin := [] } else none
  | 58, [.v (.im k rows)] => if k = 1 ∧ An rows = true ∧ rows.length * 1 ≤ 35184372088832 then some { out := [.v (.own k rows)], fin := [], pfin := [] } else none
  | 97, [.v (.im k rows)] => if k = 1 ∧ An rows = true ∧ rows.length * 1 ≤ 35184372088832 then some { out := [.v (.own k rows)], fin := [], pfin := [] } else none
  | 233, args => insK args
  | 157, args => delK 3 args
  | _, _ => none
set_option maxRecDepth 100000
theorem pk_ok : KOk Tryz.prog PKc := λf args r h => by
  unfold PKc at h
  split at h
  · obtain ⟨⟨hk, h1, h2⟩, h⟩ := A8 h
    subst hk
    cases h
    exact clone_ok (t := 26) (b := 4) (el := 51) Tryz.func55 (by decide +kernel) rfl rfl rfl Tryz.underlying26 (by kernel_rfl) (by kernel_rfl) (by kernel_rfl) (by omega) h1 h2
  · obtain ⟨⟨hk, h1, h2⟩, h⟩ := A8 h
    subst hk
    cases h
    exact clone_ok (t := 27) (b := 4) (el := 3) Tryz.func56 (by decide +kernel) rfl rfl rfl Tryz.underlying27 (by kernel_rfl) (by kernel_rfl) (by kernel_rfl) (by omega) h1 h2
  · obtain ⟨⟨hk, h1, h2⟩, h⟩ := A8 h
    subst hk
    cases h
    exact clone_ok (t := 22) (b := 4) (el := 5) Tryz.func58 (by decide +kernel) rfl rfl rfl Tryz.underlying22 (by kernel_rfl) (by kernel_rfl) (by kernel_rfl) (by omega) h1 h2
  · obtain ⟨⟨hk, h1, h2⟩, h⟩ := A8 h
    subst hk
    cases h
    exact clone_ok (t := 41) (b := 4) (el := 4) Tryz.func97 (by decide +kernel) rfl rfl rfl Tryz.underlying41 (by kernel_rfl) (by kernel_rfl) (by kernel_rfl) (by omega) h1 h2
  · exact insK_ok (el := 3) ⟨_, Tryz.func233, by decide +kernel, λh => Option.some_ne_none _ h⟩ ⟨Any2.slices_Insert_int_shift Tryz.laysNm2_21, Any2.slices_Insert_int_end_room Tryz.laysNm2_21, Any2.slices_Insert_int_end_grow Tryz.laysNm2_21, Any2.slices_Insert_int_grow Tryz.laysNm2_21⟩ h
  · exact delK_ok ⟨_, Tryz.func157, by decide +kernel, λh => Option.some_ne_none _ h⟩ delC h
  · cases h
end Go.Proofs.YtghgecpicnfgpaaGreat.Ow
