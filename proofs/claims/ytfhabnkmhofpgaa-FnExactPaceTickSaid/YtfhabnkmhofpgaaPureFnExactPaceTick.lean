/- For every Pace the program's PaceTick returns what the reference's PaceTick returns: plain part of FnExactPaceTick. -/
import Derived.Test.YtfhabnkmhofpgaaPFnExactPaceTickx1
namespace Go.Proofs.Ytfhabnkmhofpgaa.Pure
open Go.RowKit Go.Proofs.Ytfhabnkmhofpgaa.PFnExactPaceTick Go.Proofs.YtfhabnkmhofpgaaW.PrintWords Go.Proofs.YtfhabnkmhofpgaaW.PrintLast

namespace PaceTick
theorem from_eq (a b c : Int) : impl_from.f a b c = spec_l1In.f a b c := rfl
theorem ok_eq (a b c : Int) : impl_PaceOk.f a b c = spec_PaceOk.f a b c := rfl
theorem in_some (a b c : Int) : ∃ r, spec_l1In.f a b c = some r := by
  unfold spec_l1In.f; split <;> exact ⟨_, rfl⟩
theorem ok_some (a b c : Int) : ∃ r, spec_PaceOk.f a b c = some r := by
  unfold spec_PaceOk.f
  obtain ⟨r1, h1⟩ := in_some b 1 100
  obtain ⟨r2, h2⟩ := in_some c 1 b
  obtain ⟨r3, h3⟩ := in_some a 0 b
  rw [h1, h2, h3]
  cases r1 <;> cases r2 <;> simp
theorem min_eq (a b : Int) : spec_l1Min.f a b = some (mn a b) := by
  unfold spec_l1Min.f mn
  split <;> split <;> first | rfl | (congr 1; omega)
theorem tick_eq (a b c : Int) : impl_PaceTick.f a b c = spec_PaceTick.f a b c := by
  unfold impl_PaceTick.f spec_PaceTick.f
  simp only [min_eq, Option.bind_some]
  rfl
theorem tick_some (a b c : Int) : ∃ r, spec_PaceTick.f a b c = some r := by
  unfold spec_PaceTick.f
  obtain ⟨r, h⟩ := ok_some a b c
  rw [h, min_eq]
  cases r <;> simp
end PaceTick

theorem FnExactPaceTick (a b c : Int) : laws_FnExactPaceTick.f a b c = some true := by
  unfold laws_FnExactPaceTick.f laws_toPace.f
  obtain ⟨r, h⟩ := PaceTick.tick_some a b c
  simp only [Option.bind_some, PaceTick.tick_eq, h]
  simp [laws_eqPace.f]

end Go.Proofs.Ytfhabnkmhofpgaa.Pure
