/- For every Ask the program's AskOk returns what the reference's AskOk returns, and leaves its argument as it was: plain part of FnExactAskOk. -/
import Derived.Test.YtfhabnkmhofpgaaPFnExactAskOkx2
namespace Go.Proofs.Ytfhabnkmhofpgaa.Pure
open Go.RowKit Go.Proofs.Ytfhabnkmhofpgaa.PFnExactAskOk Go.Proofs.YtfhabnkmhofpgaaW.PrintWords Go.Proofs.YtfhabnkmhofpgaaW.PrintLast

namespace AskOk
theorem ok_eq (a b c : Int) (l : List Int) : impl_AskOk.f a b c l = spec_AskOk.f a b c l := rfl
theorem in_some (a b c : Int) : ∃ r, spec_l1In.f a b c = some r := by
  unfold spec_l1In.f; split <;> exact ⟨_, rfl⟩
theorem ok_some (a b c : Int) (l : List Int) : ∃ r, spec_AskOk.f a b c l = some r := by
  unfold spec_AskOk.f
  obtain ⟨r1, h1⟩ := in_some b 0 63
  obtain ⟨r2, h2⟩ := in_some l.length 1 16
  obtain ⟨r3, h3⟩ := in_some c 1 64
  rw [h1, h2, h3]
  simp only [Option.bind_some]
  repeat' split
  all_goals exact ⟨_, rfl⟩
theorem wrap_small {x : Int} (h0 : 0 ≤ x) (h1 : x ≤ 4611686018427387904) : wrap64 x = x := by
  unfold wrap64; omega
theorem copy_loop (l : List Int) (hl : l.length ≤ 1048576) : ∀ (m i : Nat), i + m = l.length → ∀ k, m < k →
    laws_toByteS.l0 k l (l.take i ++ List.replicate m 0) (i : Int) = some l
  | 0, i, h, k + 1, _ => by
    unfold laws_toByteS.l0
    rw [if_neg (by omega)]
    simp [show i = l.length by omega]
  | m + 1, i, h, k + 1, hk => by
    unfold laws_toByteS.l0
    rw [if_pos (by omega), if_pos (by omega), if_pos (by simp; omega), wrap_small (by omega) (by omega)]
    have := copy_loop l hl m (i + 1) (by omega) k (by omega)
    rw [show ((i : Int) + 1) = ((i + 1 : Nat) : Int) by omega]
    rw [← this]
    congr 1
    rw [show ((i : Int)).toNat = i by omega]
    unfold rd
    rw [show ((i : Int)).toNat = i by omega]
    apply List.ext_getElem?
    intro j
    by_cases h1 : j < i
    · simp [List.getElem?_set, List.getElem?_append, List.getElem?_take, List.getElem?_replicate, List.length_take]
      grind
    · simp [List.getElem?_set, List.getElem?_append, List.getElem?_take, List.getElem?_replicate, List.length_take]
      grind
theorem copy (l : List Int) (hl : l.length ≤ 1048576) (k : Nat) (hk : l.length < k) : laws_toByteS.f k l = some l := by
  unfold laws_toByteS.f
  rw [if_pos (by omega), if_pos (by omega)]
  have := copy_loop l hl l.length 0 (by omega) k hk
  simpa using this
theorem eq_loop (l : List Int) (hl : l.length ≤ 1048576) : ∀ (m i : Nat), i + m = l.length → ∀ k, m < k →
    laws_eqByteS.l0 k l l (i : Int) = some true
  | 0, i, h, k + 1, _ => by
    unfold laws_eqByteS.l0
    rw [if_neg (by omega)]
  | m + 1, i, h, k + 1, hk => by
    unfold laws_eqByteS.l0
    rw [if_pos (by omega), if_pos (by omega), if_pos (by omega), if_pos rfl, wrap_small (by omega) (by omega)]
    have := eq_loop l hl m (i + 1) (by omega) k (by omega)
    rw [show ((i : Int) + 1) = ((i + 1 : Nat) : Int) by omega]
    exact this
theorem same (l : List Int) (hl : l.length ≤ 1048576) (k : Nat) (hk : l.length < k) : laws_eqByteS.f k l l = some true := by
  unfold laws_eqByteS.f
  rw [if_pos rfl]
  exact eq_loop l hl l.length 0 (by omega) k hk
end AskOk

theorem FnExactAskOk (a b c : Int) (l : List Int) (hm : l.length ≤ 9223372036854775807) : laws_FnExactAskOk.f (l.length + 1) a b c l = some true := by
  unfold laws_FnExactAskOk.f laws_szAsk.f laws_szByteS.f
  by_cases h : l.length ≤ 1048576
  · have hw : wrap64 (1048576 - (l.length : Int)) = 1048576 - (l.length : Int) := AskOk.wrap_small (by omega) (by omega)
    rw [hw, if_neg (by omega)]
    simp only [Option.bind_some]
    rw [if_neg (by omega)]
    simp only [Option.bind_some]
    rw [if_neg (by omega)]
    unfold laws_toAsk.f
    obtain ⟨r, hr⟩ := AskOk.ok_some a b c l
    simp only [AskOk.copy l h _ (Nat.lt_succ_self _), Option.bind_some, AskOk.ok_eq, hr]
    simp [laws_eqAsk.f, AskOk.same l h _ (Nat.lt_succ_self _)]
  · have hw : wrap64 (1048576 - (l.length : Int)) = 1048576 - (l.length : Int) := by unfold wrap64; omega
    rw [hw, if_pos (by omega)]
    simp

end Go.Proofs.Ytfhabnkmhofpgaa.Pure
