/- For every Pace and every whole number the program's Spend returns what the reference's Spend returns: plain part of FnExactSpend. -/
import Derived.Test.YtfhabnkmhofpgaaPFnExactSpendx1
namespace Go.Proofs.Ytfhabnkmhofpgaa.Pure
open Go.RowKit Go.Proofs.Ytfhabnkmhofpgaa.PFnExactSpend Go.Proofs.YtfhabnkmhofpgaaW.PrintWords Go.Proofs.YtfhabnkmhofpgaaW.PrintLast

namespace Spend
theorem from_eq (a b c : Int) : impl_from.f a b c = spec_l1In.f a b c := rfl
theorem ok_eq (a b c : Int) : impl_PaceOk.f a b c = spec_PaceOk.f a b c := rfl
theorem in_some (a b c : Int) : ∃ r, spec_l1In.f a b c = some r := by
  unfold spec_l1In.f; split <;> exact ⟨_, rfl⟩
theorem ok_some (a b c : Int) : ∃ r, spec_PaceOk.f a b c = some r := by
  unfold spec_PaceOk.f
  obtain ⟨r1, h1⟩ := in_some b 1 100
  obtain ⟨r2, h2⟩ := in_some c 1 b
  obtain ⟨r3, h3⟩ := in_some a 0 b
  rw [h1, h2, h3]
  cases r1 <;> cases r2 <;> simp
theorem spend_eq (a b c d : Int) : impl_Spend.f a b c d = spec_Spend.f a b c d := rfl
theorem spend_some (a b c d : Int) : ∃ r, spec_Spend.f a b c d = some r := by
  unfold spec_Spend.f
  obtain ⟨r, h⟩ := ok_some a b c
  obtain ⟨r', h'⟩ := in_some d 0 a
  rw [h, h']
  cases r <;> cases r' <;> simp
end Spend

theorem FnExactSpend (a b c d : Int) : laws_FnExactSpend.f a b c d = some true := by
  unfold laws_FnExactSpend.f laws_toPace.f
  obtain ⟨r, h⟩ := Spend.spend_some a b c d
  simp only [Option.bind_some, Spend.spend_eq, h]
  simp [laws_eqPace.f]

end Go.Proofs.Ytfhabnkmhofpgaa.Pure
