/- For every drawn pair of moments: what lies between them is what the reference tells, the same from both sides, and nothing between a moment and itself: FnBetween is true of every input. -/
import Derived.Test.YtfhabnkmhofpgaaPFnBetweenx2
namespace Go.Proofs.Ytfhabnkmhofpgaa.Pure
set_option linter.unusedVariables false
open Go.RowKit Go.Proofs.Ytfhabnkmhofpgaa.PFnBetween Go.Proofs.YtfhabnkmhofpgaaW.PrintWords Go.Proofs.YtfhabnkmhofpgaaW.PrintLast

theorem band (x : Int) (c : Nat) (hc : c < 2^62) : 0 ≤ Go.bits .and .i64 x c ∧ Go.bits .and .i64 x c ≤ c := by
  have h1 : (c % 2 ^ IntKind.i64.bits) = c := Nat.mod_eq_of_lt (by simp [IntKind.bits]; omega)
  have h2 : (BitVec.ofInt IntKind.i64.bits x &&& BitVec.ofInt IntKind.i64.bits (c:Int)).toNat ≤ c := by
    rw [BitVec.toNat_and, BitVec.ofInt_natCast, BitVec.toNat_ofNat, h1]
    exact Nat.and_le_right
  unfold bits
  simp only []
  generalize (BitVec.ofInt IntKind.i64.bits x &&& BitVec.ofInt IntKind.i64.bits (c:Int)).toNat = n at *
  rw [IntKind.wrap_i64]
  omega
theorem w64 {x : Int} (h0 : 0 ≤ x) (h1 : x ≤ 9223372036854775806) : wrap64 (x + 1) = x + 1 := by
  unfold wrap64; omega

/-- The reader of draws: a byte, the place then. -/
theorem byte_some (b : List Int) (i h : Int) (h0 : 0 ≤ i) (hl : b.length ≤ 140737488351232) (hi : i ≤ b.length) :
    ∃ r i' h', spec_l1Byte.f b i h = some (r, i', h') ∧ 0 ≤ r ∧ r ≤ 255 ∧ 0 ≤ i' ∧ i' ≤ b.length := by
  unfold spec_l1Byte.f
  by_cases hlt : i < (b.length : Int)
  · rw [if_pos hlt, if_pos h0]
    refine ⟨_, _, _, rfl, (band _ 255 (by decide)).1, (band _ 255 (by decide)).2, ?_, ?_⟩ <;> rw [w64 h0 (by omega)] <;> omega
  · rw [if_neg hlt]
    exact ⟨_, _, _, rfl, (band _ 255 (by decide)).1, (band _ 255 (by decide)).2, h0, hi⟩
theorem below_some (b : List Int) (i h n : Int) (hn : 0 < n) (hn2 : n ≤ 256) (h0 : 0 ≤ i) (hl : b.length ≤ 140737488351232) (hi : i ≤ b.length) :
    ∃ r i' h', spec_l1Below.f b i h n = some (r, i', h') ∧ 0 ≤ r ∧ r < n ∧ 0 ≤ i' ∧ i' ≤ b.length := by
  unfold spec_l1Below.f
  rw [if_neg (by omega), if_pos hn2]
  obtain ⟨r, i', h', e, r0, r1, i0, i1⟩ := byte_some b i h h0 hl hi
  rw [e]
  simp only [Option.bind_some]
  rw [if_neg (by omega)]
  refine ⟨_, _, _, rfl, ?_, ?_, i0, i1⟩
  · rw [Int.tmod_eq_emod_of_nonneg r0]; exact Int.emod_nonneg _ (by omega)
  · rw [Int.tmod_eq_emod_of_nonneg r0]; exact Int.emod_lt_of_pos _ hn
theorem pick_some (b : List Int) (i h : Int) (l : List Int) (hn : 0 < l.length) (hn2 : l.length ≤ 256) (h0 : 0 ≤ i) (hl : b.length ≤ 140737488351232) (hi : i ≤ b.length) :
    ∃ r i' h', spec_l1PickInt.f b i h l = some (r, i', h') ∧ 0 ≤ i' ∧ i' ≤ b.length := by
  unfold spec_l1PickInt.f
  obtain ⟨r, i', h', e, r0, r1, i0, i1⟩ := below_some b i h (l.length : Int) (by omega) (by omega) h0 hl hi
  rw [e]
  simp only [Option.bind_some]
  rw [if_pos r0, if_pos r1]
  exact ⟨_, _, _, rfl, i0, i1⟩
theorem new_some (b : List Int) (hl : b.length ≤ 140737488351232) (d : Nat) : ∀ (k : Nat) (h i : Int), 0 ≤ i → 4000 - i ≤ d → d < k →
    ∃ h', spec_l1New.l0 k b h i = some (b, 0, h') := by
  induction d with
  | zero =>
    intro k h i h0 hd hk
    obtain ⟨k, rfl⟩ : ∃ m, k = m + 1 := ⟨k - 1, by omega⟩
    simp only [spec_l1New.l0]
    by_cases c : i < (b.length : Int)
    · rw [if_pos c, if_neg (by omega)]; exact ⟨_, rfl⟩
    · rw [if_neg c]; exact ⟨_, rfl⟩
  | succ d ih =>
    intro k h i h0 hd hk
    obtain ⟨k, rfl⟩ : ∃ m, k = m + 1 := ⟨k - 1, by omega⟩
    simp only [spec_l1New.l0]
    by_cases c : i < (b.length : Int)
    · by_cases c2 : i < 4000
      · rw [if_pos c, if_pos c2, if_pos h0, w64 h0 (by omega)]
        exact ih k _ _ (by omega) (by omega) (by omega)
      · rw [if_pos c, if_neg c2]; exact ⟨_, rfl⟩
    · rw [if_neg c]; exact ⟨_, rfl⟩
theorem image_some (b : List Int) (hl : b.length ≤ 140737488351232) (d : Nat) : ∀ (k : Nat) (m : List Int) (j i h : Int), m.length = 8 → 0 ≤ j → 6 - j ≤ d → d < k → 0 ≤ i → i ≤ b.length →
    ∃ r i' h', spec_l2DrawImage.l0 k m j b i h = some (r, i', h') ∧ 0 ≤ i' ∧ i' ≤ b.length := by
  have tail : ∀ (m : List Int) (i h : Int), m.length = 8 → 0 ≤ i → i ≤ b.length → ∃ r i' h', ((spec_l1Below.f b i h 12).bind fun bt140 => (if bt140.1 = 0 then (if m.length < 17592186044416 then (some ((m ++ [1]), bt140.2.1, bt140.2.2)) else (none)) else (if bt140.1 = 1 then ((spec_l1PickInt.f b bt140.2.1 bt140.2.2 (([(-1), 200, 201] : List Int))).bind fun bt149 => (if 0 < (m.length : Int) then (some ((m.set (0 : Int).toNat bt149.1), bt149.2.1, bt149.2.2)) else (none))) else (if bt140.1 = 2 then (if 3 ≤ (m.length : Int) then (some ((m.take (3 : Int).toNat), bt140.2.1, bt140.2.2)) else (none)) else (some (m, bt140.2.1, bt140.2.2)))))) = some (r, i', h') ∧ 0 ≤ i' ∧ i' ≤ b.length := by
    intro m i h hm h0 hi
    obtain ⟨r, i1, h1, e, r0, r1, i0, i2⟩ := below_some b i h 12 (by decide) (by decide) h0 hl hi
    rw [e]
    simp only [Option.bind_some]
    by_cases c0 : r = 0
    · rw [if_pos c0, if_pos (by omega)]; exact ⟨_, _, _, rfl, i0, i2⟩
    · rw [if_neg c0]
      by_cases c1 : r = 1
      · rw [if_pos c1]
        obtain ⟨x, i3, h3, e3, i4, i5⟩ := pick_some b i1 h1 [(-1), 200, 201] (by decide) (by decide) i0 hl i2
        rw [e3]
        simp only [Option.bind_some]
        rw [if_pos (by omega)]; exact ⟨_, _, _, rfl, i4, i5⟩
      · rw [if_neg c1]
        by_cases c2 : r = 2
        · rw [if_pos c2, if_pos (by omega)]; exact ⟨_, _, _, rfl, i0, i2⟩
        · rw [if_neg c2]; exact ⟨_, _, _, rfl, i0, i2⟩
  induction d with
  | zero =>
    intro k m j i h hm hj hd hk h0 hi
    obtain ⟨k, rfl⟩ : ∃ m, k = m + 1 := ⟨k - 1, by omega⟩
    obtain ⟨r, i1, h1, e, r0, r1, i2, i3⟩ := below_some b i h 6 (by decide) (by decide) h0 hl hi
    simp only [spec_l2DrawImage.l0]
    rw [e]
    simp only [Option.bind_some]
    rw [if_neg (by omega)]
    exact tail m i1 h1 hm i2 i3
  | succ d ih =>
    intro k m j i h hm hj hd hk h0 hi
    obtain ⟨k, rfl⟩ : ∃ m, k = m + 1 := ⟨k - 1, by omega⟩
    obtain ⟨r, i1, h1, e, r0, r1, i2, i3⟩ := below_some b i h 6 (by decide) (by decide) h0 hl hi
    simp only [spec_l2DrawImage.l0]
    rw [e]
    simp only [Option.bind_some]
    by_cases c : j < r
    · rw [if_pos c]
      obtain ⟨p, i4, h4, e4, p0, p1, i5, i6⟩ := below_some b i1 h1 8 (by decide) (by decide) i2 hl i3
      rw [e4]
      simp only [Option.bind_some]
      obtain ⟨q, i7, h7, e7, q0, q1, i8, i9⟩ := below_some b i4 h4 9 (by decide) (by decide) i5 hl i6
      rw [e7]
      simp only [Option.bind_some]
      rw [if_pos p0, if_pos (by omega), w64 hj (by omega)]
      exact ih k _ _ _ _ (by simpa using hm) (by omega) (by omega) (by omega) i8 i9
    · rw [if_neg c]
      exact tail m i1 h1 hm i2 i3
theorem draw_some (b : List Int) (hl : b.length ≤ 140737488351232) (k : Nat) (hk : 4000 < k) :
    ∃ s x t y, spec_DrawBetween.f k b = some (s, x, t, y) := by
  unfold spec_DrawBetween.f spec_l1New.f
  obtain ⟨h, e⟩ := new_some b hl 4000 k (wrap64 (24770 + (b.length : Int))) 0 (by decide) (by decide) hk
  rw [e]
  simp only [Option.bind_some]
  obtain ⟨r, i1, h1, e1, r0, r1, i2, i3⟩ := below_some b 0 h 4 (by decide) (by decide) (by decide) hl (by omega)
  rw [e1]
  simp only [Option.bind_some]
  have im : ∀ (i h : Int), 0 ≤ i → i ≤ b.length → ∃ r i' h', spec_l2DrawImage.f k b i h = some (r, i', h') ∧ 0 ≤ i' ∧ i' ≤ b.length := by
    intro i h h0 hi
    unfold spec_l2DrawImage.f spec_ImageNew.f
    rw [if_pos (by decide)]
    simp only [Option.bind_some]
    exact image_some b hl 6 k _ 0 i h (by simp) (by decide) (by decide) (by omega) h0 hi
  obtain ⟨x, i4, h4, e4, i5, i6⟩ := im i1 h1 i2 i3
  rw [e4]
  simp only [Option.bind_some]
  obtain ⟨t, i7, h7, e7, t0, t1, i8, i9⟩ := below_some b i4 h4 4 (by decide) (by decide) i5 hl i6
  rw [e7]
  simp only [Option.bind_some]
  obtain ⟨y, i10, h10, e10, i11, i12⟩ := im i7 h7 i8 i9
  rw [e10]
  exact ⟨_, _, _, _, rfl⟩

/-- Does place i differ? -/
def dif (a b : List Int) (i : Int) : Bool :=
  if i < (a.length : Int) then (if i < (b.length : Int) then !(rd a i == rd b i) else true) else decide (i < (b.length : Int))
theorem dif_comm (a b : List Int) (i : Int) : dif a b i = dif b a i := by
  unfold dif
  by_cases h1 : i < (a.length : Int) <;> by_cases h2 : i < (b.length : Int) <;> simp [h1, h2, Bool.beq_comm]
theorem dif_self (a : List Int) (i : Int) : dif a a i = false := by
  unfold dif
  by_cases h1 : i < (a.length : Int) <;> simp [h1]
def rest (a b : List Int) : Nat → List Int
  | 0 => []
  | d + 1 => (if dif a b (7 - d) then [(7 - d : Int)] else []) ++ rest a b d
theorem rest_comm (a b : List Int) : ∀ d, rest a b d = rest b a d
  | 0 => rfl
  | d + 1 => by simp only [rest]; rw [dif_comm, rest_comm a b d]
theorem rest_self (a : List Int) : ∀ d, rest a a d = []
  | 0 => rfl
  | d + 1 => by simp only [rest]; rw [dif_self, rest_self a d]; rfl
theorem impl_loop (a b : List Int) : ∀ (d k : Nat) (out : List Int), d ≤ 8 → d < k → out.length + d ≤ 8 → impl_Differ.l0 k a b out (8 - d) = some (out ++ rest a b d)
  | 0, k, out, _, hk, _ => by
    obtain ⟨k, rfl⟩ : ∃ m, k = m + 1 := ⟨k - 1, by omega⟩
    simp only [impl_Differ.l0]; rw [if_neg (by omega)]; simp [rest]
  | d + 1, k, out, hd, hk, ho => by
    obtain ⟨k, rfl⟩ : ∃ m, k = m + 1 := ⟨k - 1, by omega⟩
    have e : (8 : Int) - ((d + 1 : Nat) : Int) = 7 - d := by omega
    have ew : wrap64 ((7 : Int) - d + 1) = 8 - d := by rw [w64 (by omega) (by omega)]; omega
    rw [e]
    simp only [impl_Differ.l0]
    rw [if_pos (by omega : (7 : Int) - d < 8), ew]
    simp only [rest, dif]
    by_cases h1 : (7 : Int) - d < (a.length : Int) <;> by_cases h2 : (7 : Int) - d < (b.length : Int)
    · by_cases h3 : rd a (7 - d) = rd b (7 - d)
      · simp only [h1, h2, h3]
        simp
        exact ⟨by omega, impl_loop a b d k out (by omega) (by omega) (by omega)⟩
      · simp [h1, h2, h3]
        refine ⟨by omega, by omega, ?_⟩
        rw [impl_loop a b d k _ (by omega) (by omega) (by simp; omega)]; simp
    · simp [h1, h2]
      refine ⟨by omega, ?_⟩
      rw [impl_loop a b d k _ (by omega) (by omega) (by simp; omega)]; simp
    · simp [h1, h2]
      refine ⟨by omega, ?_⟩
      rw [impl_loop a b d k _ (by omega) (by omega) (by simp; omega)]; simp
    · simp [h1, h2]
      exact impl_loop a b d k out (by omega) (by omega) (by omega)
theorem spec_loop (a b : List Int) : ∀ (d k : Nat) (out : List Int), d ≤ 8 → d < k → out.length + d ≤ 8 → spec_Differ.l0 k a b out (8 - d) = some (out ++ rest a b d)
  | 0, k, out, _, hk, _ => by
    obtain ⟨k, rfl⟩ : ∃ m, k = m + 1 := ⟨k - 1, by omega⟩
    simp only [spec_Differ.l0]; rw [if_neg (by omega)]; simp [rest]
  | d + 1, k, out, hd, hk, ho => by
    obtain ⟨k, rfl⟩ : ∃ m, k = m + 1 := ⟨k - 1, by omega⟩
    have e : (8 : Int) - ((d + 1 : Nat) : Int) = 7 - d := by omega
    have ew : wrap64 ((7 : Int) - d + 1) = 8 - d := by rw [w64 (by omega) (by omega)]; omega
    rw [e]
    simp only [spec_Differ.l0]
    rw [if_pos (by omega : (7 : Int) - d < 8), ew]
    simp only [rest, dif]
    by_cases h1 : (7 : Int) - d < (a.length : Int) <;> by_cases h2 : (7 : Int) - d < (b.length : Int)
    · by_cases h3 : rd a (7 - d) = rd b (7 - d)
      · simp only [h1, h2, h3]
        simp
        exact ⟨by omega, spec_loop a b d k out (by omega) (by omega) (by omega)⟩
      · simp [h1, h2, h3]
        refine ⟨by omega, by omega, ?_⟩
        rw [spec_loop a b d k _ (by omega) (by omega) (by simp; omega)]; simp
    · simp [h1, h2]
      refine ⟨by omega, ?_⟩
      rw [spec_loop a b d k _ (by omega) (by omega) (by simp; omega)]; simp
    · simp [h1, h2]
      refine ⟨by omega, ?_⟩
      rw [spec_loop a b d k _ (by omega) (by omega) (by simp; omega)]; simp
    · simp [h1, h2]
      exact spec_loop a b d k out (by omega) (by omega) (by omega)
theorem impl_differ (a b : List Int) (k : Nat) (hk : 8 < k) : impl_Differ.f k a b = some (rest a b 8) := by
  have := impl_loop a b 8 k [] (by decide) hk (by decide)
  simpa [impl_Differ.f] using this
theorem spec_differ (a b : List Int) (k : Nat) (hk : 8 < k) : spec_Differ.f k a b = some (rest a b 8) := by
  have := spec_loop a b 8 k [] (by decide) hk (by decide)
  simpa [spec_Differ.f] using this
theorem rest_len (a b : List Int) : ∀ d, (rest a b d).length ≤ d
  | 0 => by simp [rest]
  | d + 1 => by
    have := rest_len a b d
    simp only [rest]; split <;> simp <;> omega
theorem same_loop (l : List Int) (hl : l.length ≤ 8) : ∀ (d k : Nat) (i : Int), 0 ≤ i → (l.length : Int) - i ≤ d → d < k → laws_sameInts.l0 k l l i = some true
  | 0, k, i, h0, hd, hk => by
    obtain ⟨k, rfl⟩ : ∃ m, k = m + 1 := ⟨k - 1, by omega⟩
    simp only [laws_sameInts.l0]; rw [if_neg (by omega)]
  | d + 1, k, i, h0, hd, hk => by
    obtain ⟨k, rfl⟩ : ∃ m, k = m + 1 := ⟨k - 1, by omega⟩
    simp only [laws_sameInts.l0]
    by_cases c : i < (l.length : Int)
    · rw [if_pos c, if_pos h0, if_pos c, w64 h0 (by omega)]
      exact same_loop l hl d k (i + 1) (by omega) (by omega) (by omega)
    · rw [if_neg c]
theorem same_some (l : List Int) (hl : l.length ≤ 8) (k : Nat) (hk : 8 < k) : laws_sameInts.f k l l = some true := by
  unfold laws_sameInts.f
  rw [if_pos rfl]
  exact same_loop l hl 8 k 0 (by decide) (by omega) hk

theorem FnBetween : laws_FnBetween.Pure := by
  intro l0 _ hl _
  refine ⟨4001, ?_⟩
  obtain ⟨s, x, t, y, e⟩ := draw_some l0 (by omega) 4001 (by decide)
  unfold laws_FnBetween.f laws_big.f
  simp only [Option.bind_some]
  split
  · rfl
  · rw [e]
    simp only [Option.bind_some, impl_Between.f, spec_Between.f]
    rw [impl_differ x y 4001 (by decide), spec_differ x y 4001 (by decide), impl_differ y x 4001 (by decide), impl_differ x x 4001 (by decide), rest_comm y x, rest_self]
    simp only [Option.bind_some]
    rw [same_some _ (rest_len x y 8) 4001 (by decide)]
    rfl

end Go.Proofs.Ytfhabnkmhofpgaa.Pure
