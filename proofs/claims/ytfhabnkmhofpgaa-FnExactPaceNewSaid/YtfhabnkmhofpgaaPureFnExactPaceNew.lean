/- For every pair of whole numbers the program's PaceNew returns what the reference's PaceNew returns: FnExactPaceNew is true of every input. -/
import Derived.Test.YtfhabnkmhofpgaaPFnExactPaceNewx1
namespace Go.Proofs.Ytfhabnkmhofpgaa.Pure
open Go.RowKit Go.Proofs.Ytfhabnkmhofpgaa.PFnExactPaceNew Go.Proofs.YtfhabnkmhofpgaaW.PrintWords Go.Proofs.YtfhabnkmhofpgaaW.PrintLast

theorem from_eq (a b c : Int) : impl_from.f a b c = spec_l1In.f a b c := rfl
theorem ok_eq (a b c : Int) : impl_PaceOk.f a b c = spec_PaceOk.f a b c := rfl
theorem new_eq (a b : Int) : impl_PaceNew.f a b = spec_PaceNew.f a b := rfl
theorem in_some (a b c : Int) : ∃ r, spec_l1In.f a b c = some r := by
  unfold spec_l1In.f; split <;> exact ⟨_, rfl⟩
theorem ok_some (a b c : Int) : ∃ r, spec_PaceOk.f a b c = some r := by
  unfold spec_PaceOk.f
  obtain ⟨r1, h1⟩ := in_some b 1 100
  obtain ⟨r2, h2⟩ := in_some c 1 b
  obtain ⟨r3, h3⟩ := in_some a 0 b
  rw [h1, h2, h3]
  cases r1 <;> cases r2 <;> simp
theorem new_some (a b : Int) : ∃ r, spec_PaceNew.f a b = some r := by
  unfold spec_PaceNew.f
  obtain ⟨r, h⟩ := ok_some a a b
  rw [h]
  cases r <;> simp

theorem FnExactPaceNew : laws_FnExactPaceNew.Pure := by
  intro a0 a1 _ _
  unfold laws_FnExactPaceNew.f
  rw [new_eq]
  obtain ⟨r, h⟩ := new_some a0 a1
  rw [h]
  simp [laws_eqPace.f]

end Go.Proofs.Ytfhabnkmhofpgaa.Pure
