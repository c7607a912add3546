/- For every Pace the program's PaceOk returns what the reference's PaceOk returns: FnExactPaceOk is true of every input. -/
import Derived.Test.YtfhabnkmhofpgaaPFnExactPaceOkx1
namespace Go.Proofs.Ytfhabnkmhofpgaa.Pure
open Go.RowKit Go.Proofs.Ytfhabnkmhofpgaa.PFnExactPaceOk Go.Proofs.YtfhabnkmhofpgaaW.PrintWords Go.Proofs.YtfhabnkmhofpgaaW.PrintLast

namespace PaceOk
theorem from_eq (a b c : Int) : impl_from.f a b c = spec_l1In.f a b c := rfl
theorem ok_eq (a b c : Int) : impl_PaceOk.f a b c = spec_PaceOk.f a b c := rfl
theorem in_some (a b c : Int) : ∃ r, spec_l1In.f a b c = some r := by
  unfold spec_l1In.f; split <;> exact ⟨_, rfl⟩
theorem ok_some (a b c : Int) : ∃ r, spec_PaceOk.f a b c = some r := by
  unfold spec_PaceOk.f
  obtain ⟨r1, h1⟩ := in_some b 1 100
  obtain ⟨r2, h2⟩ := in_some c 1 b
  obtain ⟨r3, h3⟩ := in_some a 0 b
  rw [h1, h2, h3]
  cases r1 <;> cases r2 <;> simp
end PaceOk

theorem FnExactPaceOk (a b c : Int) : laws_FnExactPaceOk.f a b c = some true := by
  unfold laws_FnExactPaceOk.f laws_toPace.f
  obtain ⟨r, h⟩ := PaceOk.ok_some a b c
  simp only [Option.bind_some, PaceOk.ok_eq, h]
  simp

end Go.Proofs.Ytfhabnkmhofpgaa.Pure
