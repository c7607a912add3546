/- For every two moments the program's Between returns what the reference's Between returns, in memory of its own: plain part of FnExactBetween. -/
import Derived.Test.YtfhabnkmhofpgaaPFnExactBetweenx3
namespace Go.Proofs.Ytfhabnkmhofpgaa.Pure
open Go.RowKit Go.Proofs.Ytfhabnkmhofpgaa.PFnExactBetween Go.Proofs.YtfhabnkmhofpgaaW.PrintWords Go.Proofs.YtfhabnkmhofpgaaW.PrintLast

namespace Between
theorem w64 {x : Int} (h0 : 0 ≤ x) (h1 : x ≤ 4611686018427387904) : wrap64 (x + 1) = x + 1 := by
  unfold wrap64; omega
/-- Does place i differ? -/
def dif (a b : List Int) (i : Int) : Bool :=
  if i < (a.length : Int) then (if i < (b.length : Int) then !(rd a i == rd b i) else true) else decide (i < (b.length : Int))
theorem dif_comm (a b : List Int) (i : Int) : dif a b i = dif b a i := by
  unfold dif
  by_cases h1 : i < (a.length : Int) <;> by_cases h2 : i < (b.length : Int) <;> simp [h1, h2, Bool.beq_comm]
theorem dif_self (a : List Int) (i : Int) : dif a a i = false := by
  unfold dif
  by_cases h1 : i < (a.length : Int) <;> simp [h1]
def rest (a b : List Int) : Nat → List Int
  | 0 => []
  | d + 1 => (if dif a b (7 - d) then [(7 - d : Int)] else []) ++ rest a b d
theorem rest_comm (a b : List Int) : ∀ d, rest a b d = rest b a d
  | 0 => rfl
  | d + 1 => by simp only [rest]; rw [dif_comm, rest_comm a b d]
theorem rest_self (a : List Int) : ∀ d, rest a a d = []
  | 0 => rfl
  | d + 1 => by simp only [rest]; rw [dif_self, rest_self a d]; rfl
theorem impl_loop (a b : List Int) : ∀ (d k : Nat) (out : List Int), d ≤ 8 → d < k → out.length + d ≤ 8 → impl_Differ.l0 k a b out (8 - d) = some (out ++ rest a b d)
  | 0, k, out, _, hk, _ => by
    obtain ⟨k, rfl⟩ : ∃ m, k = m + 1 := ⟨k - 1, by omega⟩
    simp only [impl_Differ.l0]; rw [if_neg (by omega)]; simp [rest]
  | d + 1, k, out, hd, hk, ho => by
    obtain ⟨k, rfl⟩ : ∃ m, k = m + 1 := ⟨k - 1, by omega⟩
    have e : (8 : Int) - ((d + 1 : Nat) : Int) = 7 - d := by omega
    have ew : wrap64 ((7 : Int) - d + 1) = 8 - d := by rw [w64 (by omega) (by omega)]; omega
    rw [e]
    simp only [impl_Differ.l0]
    rw [if_pos (by omega : (7 : Int) - d < 8), ew]
    simp only [rest, dif]
    by_cases h1 : (7 : Int) - d < (a.length : Int) <;> by_cases h2 : (7 : Int) - d < (b.length : Int)
    · by_cases h3 : rd a (7 - d) = rd b (7 - d)
      · simp only [h1, h2, h3]
        simp
        exact ⟨by omega, impl_loop a b d k out (by omega) (by omega) (by omega)⟩
      · simp [h1, h2, h3]
        refine ⟨by omega, by omega, ?_⟩
        rw [impl_loop a b d k _ (by omega) (by omega) (by simp; omega)]; simp
    · simp [h1, h2]
      refine ⟨by omega, ?_⟩
      rw [impl_loop a b d k _ (by omega) (by omega) (by simp; omega)]; simp
    · simp [h1, h2]
      refine ⟨by omega, ?_⟩
      rw [impl_loop a b d k _ (by omega) (by omega) (by simp; omega)]; simp
    · simp [h1, h2]
      exact impl_loop a b d k out (by omega) (by omega) (by omega)
theorem spec_loop (a b : List Int) : ∀ (d k : Nat) (out : List Int), d ≤ 8 → d < k → out.length + d ≤ 8 → spec_Differ.l0 k a b out (8 - d) = some (out ++ rest a b d)
  | 0, k, out, _, hk, _ => by
    obtain ⟨k, rfl⟩ : ∃ m, k = m + 1 := ⟨k - 1, by omega⟩
    simp only [spec_Differ.l0]; rw [if_neg (by omega)]; simp [rest]
  | d + 1, k, out, hd, hk, ho => by
    obtain ⟨k, rfl⟩ : ∃ m, k = m + 1 := ⟨k - 1, by omega⟩
    have e : (8 : Int) - ((d + 1 : Nat) : Int) = 7 - d := by omega
    have ew : wrap64 ((7 : Int) - d + 1) = 8 - d := by rw [w64 (by omega) (by omega)]; omega
    rw [e]
    simp only [spec_Differ.l0]
    rw [if_pos (by omega : (7 : Int) - d < 8), ew]
    simp only [rest, dif]
    by_cases h1 : (7 : Int) - d < (a.length : Int) <;> by_cases h2 : (7 : Int) - d < (b.length : Int)
    · by_cases h3 : rd a (7 - d) = rd b (7 - d)
      · simp only [h1, h2, h3]
        simp
        exact ⟨by omega, spec_loop a b d k out (by omega) (by omega) (by omega)⟩
      · simp [h1, h2, h3]
        refine ⟨by omega, by omega, ?_⟩
        rw [spec_loop a b d k _ (by omega) (by omega) (by simp; omega)]; simp
    · simp [h1, h2]
      refine ⟨by omega, ?_⟩
      rw [spec_loop a b d k _ (by omega) (by omega) (by simp; omega)]; simp
    · simp [h1, h2]
      refine ⟨by omega, ?_⟩
      rw [spec_loop a b d k _ (by omega) (by omega) (by simp; omega)]; simp
    · simp [h1, h2]
      exact spec_loop a b d k out (by omega) (by omega) (by omega)
theorem impl_differ (a b : List Int) (k : Nat) (hk : 8 < k) : impl_Differ.f k a b = some (rest a b 8) := by
  have := impl_loop a b 8 k [] (by decide) hk (by decide)
  simpa [impl_Differ.f] using this
theorem spec_differ (a b : List Int) (k : Nat) (hk : 8 < k) : spec_Differ.f k a b = some (rest a b 8) := by
  have := spec_loop a b 8 k [] (by decide) hk (by decide)
  simpa [spec_Differ.f] using this
theorem rest_len (a b : List Int) : ∀ d, (rest a b d).length ≤ d
  | 0 => by simp [rest]
  | d + 1 => by
    have := rest_len a b d
    simp only [rest]; split <;> simp <;> omega
theorem wrap_small {x : Int} (h0 : 0 ≤ x) (h1 : x ≤ 4611686018427387904) : wrap64 x = x := by
  unfold wrap64; omega
theorem copy_loop (l : List Int) (hl : l.length ≤ 1048576) : ∀ (m i : Nat), i + m = l.length → ∀ k, m < k →
    laws_toIntS.l0 k l (l.take i ++ List.replicate m 0) (i : Int) = some l
  | 0, i, h, k + 1, _ => by
    unfold laws_toIntS.l0
    rw [if_neg (by omega)]
    simp [show i = l.length by omega]
  | m + 1, i, h, k + 1, hk => by
    unfold laws_toIntS.l0
    rw [if_pos (by omega), if_pos (by omega), if_pos (by simp; omega), wrap_small (by omega) (by omega)]
    have := copy_loop l hl m (i + 1) (by omega) k (by omega)
    rw [show ((i : Int) + 1) = ((i + 1 : Nat) : Int) by omega]
    rw [← this]
    congr 1
    rw [show ((i : Int)).toNat = i by omega]
    unfold rd
    rw [show ((i : Int)).toNat = i by omega]
    apply List.ext_getElem?
    intro j
    by_cases h1 : j < i
    · simp [List.getElem?_set, List.getElem?_append, List.getElem?_take, List.getElem?_replicate, List.length_take]
      grind
    · simp [List.getElem?_set, List.getElem?_append, List.getElem?_take, List.getElem?_replicate, List.length_take]
      grind
theorem copy (l : List Int) (hl : l.length ≤ 1048576) (k : Nat) (hk : l.length < k) : laws_toIntS.f k l = some l := by
  unfold laws_toIntS.f
  rw [if_pos (by omega), if_pos (by omega)]
  have := copy_loop l hl l.length 0 (by omega) k hk
  simpa using this
theorem eq_loop (l : List Int) (hl : l.length ≤ 1048576) : ∀ (m i : Nat), i + m = l.length → ∀ k, m < k →
    laws_eqIntS.l0 k l l (i : Int) = some true
  | 0, i, h, k + 1, _ => by
    unfold laws_eqIntS.l0
    rw [if_neg (by omega)]
  | m + 1, i, h, k + 1, hk => by
    unfold laws_eqIntS.l0
    rw [if_pos (by omega), if_pos (by omega), if_pos (by omega), if_pos rfl, wrap_small (by omega) (by omega)]
    have := eq_loop l hl m (i + 1) (by omega) k (by omega)
    rw [show ((i : Int) + 1) = ((i + 1 : Nat) : Int) by omega]
    exact this
theorem same (l : List Int) (hl : l.length ≤ 1048576) (k : Nat) (hk : l.length < k) : laws_eqIntS.f k l l = some true := by
  unfold laws_eqIntS.f
  rw [if_pos rfl]
  exact eq_loop l hl l.length 0 (by omega) k hk

def seq (a : Int) : Nat → List Int
  | 0 => []
  | n + 1 => a :: seq (a + 1) n
theorem seq_len : ∀ (n : Nat) (a : Int), (seq a n).length = n
  | 0, _ => rfl
  | n + 1, a => by simp [seq, seq_len n]
theorem seq_get : ∀ (n : Nat) (a : Int) (i : Nat), i < n → (seq a n)[i]? = some (a + i)
  | n + 1, a, 0, _ => by simp [seq]
  | n + 1, a, i + 1, h => by
    rw [seq, List.getElem?_cons_succ, seq_get n (a + 1) i (by omega)]
    congr 1; omega
theorem mark_loop (l : List Int) (a : Int) (ha : 0 ≤ a) (ha1 : a ≤ 4294967296) (hl : l.length ≤ 1048576) : ∀ (m i : Nat), i + m = l.length → ∀ k, m < k →
    laws_markIntS.l0 k (seq a i ++ l.drop i) (a + i) (i : Int) = some (a + l.length, seq a l.length)
  | 0, i, h, k + 1, _ => by
    unfold laws_markIntS.l0
    have e : (seq a i ++ l.drop i).length = l.length := by rw [List.length_append, seq_len, List.length_drop]; omega
    rw [e, if_neg (by omega)]
    have : i = l.length := by omega
    subst this
    simp
  | m + 1, i, h, k + 1, hk => by
    unfold laws_markIntS.l0
    have e : (seq a i ++ l.drop i).length = l.length := by rw [List.length_append, seq_len, List.length_drop]; omega
    rw [e, if_pos (by omega), if_pos (by omega), wrap_small (by omega) (by omega), wrap_small (by omega) (by omega)]
    have := mark_loop l a ha ha1 hl m (i + 1) (by omega) k (by omega)
    rw [show ((i : Int) + 1) = ((i + 1 : Nat) : Int) by omega, show (a + (i : Int) + 1) = a + ((i + 1 : Nat) : Int) by omega, ← this]
    congr 1
    rw [show ((i : Int)).toNat = i by omega]
    apply List.ext_getElem?
    intro j
    rw [List.getElem?_set, List.getElem?_append, List.getElem?_append, List.length_append, seq_len, seq_len, List.length_drop, List.getElem?_drop, List.getElem?_drop]
    by_cases hj : i = j
    · subst hj
      rw [if_pos rfl, if_pos (by omega), if_pos (by omega), seq_get _ _ _ (by omega)]
    · rw [if_neg hj]
      by_cases hj2 : j < i
      · rw [if_pos hj2, if_pos (by omega), seq_get _ _ _ hj2, seq_get _ _ _ (by omega)]
      · rw [if_neg hj2, if_neg (by omega)]
        congr 1; omega
theorem mark (l : List Int) (a : Int) (ha : 0 ≤ a) (ha1 : a ≤ 4294967296) (hl : l.length ≤ 1048576) (k : Nat) (hk : l.length < k) :
    laws_markIntS.f k l a = some (a + l.length, seq a l.length) := by
  unfold laws_markIntS.f
  have := mark_loop l a ha ha1 hl l.length 0 (by omega) k hk
  simpa [seq] using this
theorem held_loop (n : Nat) (a : Int) (ha : 0 ≤ a) (ha1 : a ≤ 4294967296) (hn : n ≤ 1048576) : ∀ (m i : Nat), i + m = n → ∀ k, m < k →
    laws_heldIntS.l0 k (seq a n) (a + i) (i : Int) = some (a + n)
  | 0, i, h, k + 1, _ => by
    unfold laws_heldIntS.l0
    rw [seq_len, if_neg (by omega)]
    have : i = n := by omega
    subst this; rfl
  | m + 1, i, h, k + 1, hk => by
    unfold laws_heldIntS.l0
    have hr : rd (seq a n) (i : Int) = a + i := by
      unfold rd
      rw [show ((i : Int)).toNat = i by omega, List.getD_eq_getElem?_getD, seq_get _ _ _ (by omega)]; rfl
    rw [seq_len, if_pos (by omega), if_pos (by omega), hr, if_pos rfl, wrap_small (by omega) (by omega), wrap_small (by omega) (by omega)]
    have := held_loop n a ha ha1 hn m (i + 1) (by omega) k (by omega)
    rw [show ((i : Int) + 1) = ((i + 1 : Nat) : Int) by omega, show (a + (i : Int) + 1) = a + ((i + 1 : Nat) : Int) by omega]
    exact this
theorem held (n : Nat) (a : Int) (ha : 0 ≤ a) (ha1 : a ≤ 4294967296) (hn : n ≤ 1048576) (k : Nat) (hk : n < k) : laws_heldIntS.f k (seq a n) a = some (a + n) := by
  unfold laws_heldIntS.f
  have := held_loop n a ha ha1 hn n 0 (by omega) k hk
  simpa using this
theorem sz (a : Int) (l : List Int) (b : Int) (hb : 0 ≤ b) (hb1 : b ≤ 1048576) (hm : l.length ≤ 9223372036854775807) :
    laws_szSnap.f a l b = if (l.length : Int) ≤ b then some (b - l.length) else some (-1) := by
  unfold laws_szSnap.f laws_szIntS.f
  have hw : wrap64 (b - (l.length : Int)) = b - (l.length : Int) := by unfold wrap64; omega
  rw [hw]
  by_cases h : (l.length : Int) ≤ b
  · rw [if_pos h, if_neg (by omega)]
    simp only [Option.bind_some]
    rw [if_neg (by omega)]
  · rw [if_neg h, if_pos (by omega)]
    simp
end Between

theorem FnExactBetween (a : Int) (l : List Int) (b : Int) (m : List Int) (hl : l.length ≤ 9223372036854775807) (hm : m.length ≤ 9223372036854775807) :
    laws_FnExactBetween.f (l.length + m.length + 20) a l b m = some true := by
  generalize hk : l.length + m.length + 20 = k
  unfold laws_FnExactBetween.f
  rw [Between.sz a l 1048576 (by decide) (by decide) hl]
  by_cases h1 : (l.length : Int) ≤ 1048576
  · rw [if_pos h1]
    simp only [Option.bind_some]
    rw [if_neg (by omega), Between.sz b m _ (by omega) (by omega) hm]
    by_cases h2 : (m.length : Int) ≤ 1048576 - l.length
    · rw [if_pos h2]
      simp only [Option.bind_some]
      rw [if_neg (by omega)]
      have hr := Between.rest_len l m 8
      have c1 : laws_toSnap.f k a l = some (a, l) := by
        unfold laws_toSnap.f; rw [Between.copy l (by omega) k (by omega)]; rfl
      have c2 : laws_toSnap.f k b m = some (b, m) := by
        unfold laws_toSnap.f; rw [Between.copy m (by omega) k (by omega)]; rfl
      have d1 : spec_Between.f k a l b m = some (Between.rest l m 8) := by
        unfold spec_Between.f; rw [Between.spec_differ l m k (by omega)]; rfl
      have d2 : ∀ k, 8 < k → impl_Between.f k a l b m = some (Between.rest l m 8) := by
        intro k hk; unfold impl_Between.f; rw [Between.impl_differ l m k hk]; rfl
      have e1 : ∀ k, 8 < k → laws_eqIntS.f k (Between.rest l m 8) (Between.rest l m 8) = some true := fun k hk => Between.same _ (by omega) k (by omega)
      have e2 : laws_eqSnap.f k a l a l = some true := by
        unfold laws_eqSnap.f; rw [if_pos rfl, Between.same l (by omega) k (by omega)]; rfl
      have e3 : laws_eqSnap.f k b m b m = some true := by
        unfold laws_eqSnap.f; rw [if_pos rfl, Between.same m (by omega) k (by omega)]; rfl
      have m1 : laws_markSnap.f k a l 1 = some (1 + (l.length : Int), Between.seq 1 l.length) := by
        unfold laws_markSnap.f; rw [Between.mark l 1 (by decide) (by decide) (by omega) k (by omega)]; rfl
      have m2 : laws_markSnap.f k b m (1 + (l.length : Int)) = some (1 + (l.length : Int) + (m.length : Int), Between.seq (1 + (l.length : Int)) m.length) := by
        unfold laws_markSnap.f; rw [Between.mark m _ (by omega) (by omega) (by omega) k (by omega)]; rfl
      simp only [c1, c2, d1, d2 k (by omega), e1 k (by omega), e2, e3, m1, m2, Option.bind_some, if_true]
      rw [if_neg (by omega)]
      obtain ⟨k, rfl⟩ : ∃ j, k = j + 1 := ⟨k - 1, by omega⟩
      unfold laws_FnExactBetween.j0
      have c3 : laws_toSnap.f k a l = some (a, l) := by
        unfold laws_toSnap.f; rw [Between.copy l (by omega) k (by omega)]; rfl
      have c4 : laws_toSnap.f k b m = some (b, m) := by
        unfold laws_toSnap.f; rw [Between.copy m (by omega) k (by omega)]; rfl
      have m3 := Between.mark (Between.rest l m 8) 1 (by decide) (by decide) (by omega) k (by omega)
      have h3 := Between.held (Between.rest l m 8).length 1 (by decide) (by decide) (by omega) k (by omega)
      simp only [c3, c4, d2 k (by omega), e1 k (by omega), m3, h3, Option.bind_some, if_true, Bool.not_true, Bool.false_eq_true, if_false]
      rw [if_neg (by omega), if_neg (by omega)]
    · rw [if_neg h2]
      simp
  · rw [if_neg h1]
    simp

end Go.Proofs.Ytfhabnkmhofpgaa.Pure
