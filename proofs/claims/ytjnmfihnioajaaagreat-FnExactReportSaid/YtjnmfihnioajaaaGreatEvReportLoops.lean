/- Loops that look for a place where something fails. -/
import Derived.Test.YtjnmfihnioajaaaGreatEvReportNodeE
namespace Go.Proofs.YtjnmfihnioajaaaGreat.Ow
open Go
set_option maxHeartbeats 4000000
set_option linter.unusedVariables false
variable {G : Nat → Option PF} {PK : Nat → List Arg → Option Res} {md : Nat → List Nat}
@[simp] def stepOk (o : Nat) (live : List Nat) (nxt : St) (p : Bool) (Bad : St → Prop) : Option (Ex × St) → Prop
  | some (.normal, s') => p = true ∧ s'.m ≤ o ∧ canon o live s' = nxt
  | some (.ret, s') => p = false ∧ Bad s'
  | _ => False
theorem loop_all {o : Nat} {live : List Nat} {c : C} (ST : Nat → St) (p : Nat → Bool) (n : Nat) (Bad : St → Prop)
    (h : ∀ j, j < n → stepOk o live (ST (j + 1)) (p j) Bad (exec (semK G PK md) (semL G PK md) md c (ST j)))
    (hend : ∃ ex s', exec (semK G PK md) (semL G PK md) md c (ST n) = some (ex, s') ∧ ex ≠ .normal) :
    ∃ bad, (allB p n = false → Bad bad) ∧ ∀ (s : St), s.m ≤ o → canon o live s = ST 0 → semL G PK md o live c s = if allB p n = true then exec (semK G PK md) (semL G PK md) md c (ST n) else some (.ret, bad) := by
  obtain ⟨k, hk, hp, hkn⟩ := first (fun j => p j = true) n
  have hstep : ∀ j, j < k → ∃ s', exec (semK G PK md) (semL G PK md) md c (ST j) = some (.normal, s') ∧ s'.m ≤ o ∧ canon o live s' = ST (j + 1) := fun j hj => by
    have h1 := h j (by omega)
    generalize exec (semK G PK md) (semL G PK md) md c (ST j) = r at h1 ⊢
    unfold stepOk at h1
    split at h1
    · exact ⟨_, rfl, h1.2⟩
    · have := hp j hj; rw [this] at h1; cases h1.1
    · exact h1.elim
  rcases hkn with rfl | ⟨hlt, hn⟩
  · refine ⟨ST k, fun hf => ?_, fun s hm hs => ?_⟩
    · rw [allB_true hp] at hf; cases hf
    · rw [if_pos (allB_true hp)]
      exact loop_ok ST k hstep hend s hm hs
  · have hn' : p k = false := by simpa using hn
    obtain ⟨s', h1, hb⟩ : ∃ s', exec (semK G PK md) (semL G PK md) md c (ST k) = some (.ret, s') ∧ Bad s' := by
      have h1 := h k hlt
      generalize exec (semK G PK md) (semL G PK md) md c (ST k) = r at h1 ⊢
      unfold stepOk at h1
      split at h1
      · rw [hn'] at h1; cases h1.1
      · exact ⟨_, rfl, h1.2⟩
      · exact h1.elim
    refine ⟨s', fun _ => hb, fun s hm hs => ?_⟩
    rw [if_neg (by rw [allB_false hlt hn']; simp), ← h1]
    exact loop_ok ST k hstep ⟨_, _, h1, by simp⟩ s hm hs
theorem loop_find {o : Nat} {live : List Nat} {c : C} (ST : Nat → St) (p : Nat → Bool) (n : Nat) (Bad : Nat → St → Prop)
    (h : ∀ j, j < n → stepOk o live (ST (j + 1)) (p j) (Bad j) (exec (semK G PK md) (semL G PK md) md c (ST j)))
    (hend : ∃ ex s', exec (semK G PK md) (semL G PK md) md c (ST n) = some (ex, s') ∧ ex ≠ .normal) :
    ∃ bad, (allB p n = false → ∃ k, k < n ∧ (∀ j, j < k → p j = true) ∧ p k = false ∧ Bad k bad) ∧ ∀ (s : St), s.m ≤ o → canon o live s = ST 0 → semL G PK md o live c s = if allB p n = true then exec (semK G PK md) (semL G PK md) md c (ST n) else some (.ret, bad) := by
  obtain ⟨k, hk, hp, hkn⟩ := first (fun j => p j = true) n
  have hstep : ∀ j, j < k → ∃ s', exec (semK G PK md) (semL G PK md) md c (ST j) = some (.normal, s') ∧ s'.m ≤ o ∧ canon o live s' = ST (j + 1) := fun j hj => by
    have h1 := h j (by omega)
    generalize exec (semK G PK md) (semL G PK md) md c (ST j) = r at h1 ⊢
    unfold stepOk at h1
    split at h1
    · exact ⟨_, rfl, h1.2⟩
    · have := hp j hj; rw [this] at h1; cases h1.1
    · exact h1.elim
  rcases hkn with rfl | ⟨hlt, hn⟩
  · refine ⟨ST k, fun hf => ?_, fun s hm hs => ?_⟩
    · rw [allB_true hp] at hf; cases hf
    · rw [if_pos (allB_true hp)]
      exact loop_ok ST k hstep hend s hm hs
  · have hn' : p k = false := by simpa using hn
    obtain ⟨s', h1, hb⟩ : ∃ s', exec (semK G PK md) (semL G PK md) md c (ST k) = some (.ret, s') ∧ Bad k s' := by
      have h1 := h k hlt
      generalize exec (semK G PK md) (semL G PK md) md c (ST k) = r at h1 ⊢
      unfold stepOk at h1
      split at h1
      · rw [hn'] at h1; cases h1.1
      · exact ⟨_, rfl, h1.2⟩
      · exact h1.elim
    refine ⟨s', fun _ => ⟨k, hlt, hp, hn', hb⟩, fun s hm hs => ?_⟩
    rw [if_neg (by rw [allB_false hlt hn']; simp), ← h1]
    exact loop_ok ST k hstep ⟨_, _, h1, by simp⟩ s hm hs
end Go.Proofs.YtjnmfihnioajaaaGreat.Ow
