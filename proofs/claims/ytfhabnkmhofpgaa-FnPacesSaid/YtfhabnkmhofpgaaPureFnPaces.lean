/- For every code: of the drawn paces no more is spent than there is, and there is never more than may be: plain part of FnPaces. -/
import Derived.Test.YtfhabnkmhofpgaaPFnPacesx3
namespace Go.Proofs.Ytfhabnkmhofpgaa.Pure
set_option linter.unusedVariables false
open Go.RowKit Go.Proofs.Ytfhabnkmhofpgaa.PFnPaces Go.Proofs.YtfhabnkmhofpgaaW.PrintWords Go.Proofs.YtfhabnkmhofpgaaW.PrintLast

namespace Paces
theorem band (x : Int) (c : Nat) (hc : c < 2^62) : 0 ≤ Go.bits .and .i64 x c ∧ Go.bits .and .i64 x c ≤ c := by
  have h1 : (c % 2 ^ IntKind.i64.bits) = c := Nat.mod_eq_of_lt (by simp [IntKind.bits]; omega)
  have h2 : (BitVec.ofInt IntKind.i64.bits x &&& BitVec.ofInt IntKind.i64.bits (c:Int)).toNat ≤ c := by
    rw [BitVec.toNat_and, BitVec.ofInt_natCast, BitVec.toNat_ofNat, h1]
    exact Nat.and_le_right
  unfold bits
  simp only []
  generalize (BitVec.ofInt IntKind.i64.bits x &&& BitVec.ofInt IntKind.i64.bits (c:Int)).toNat = n at *
  rw [IntKind.wrap_i64]
  omega
theorem w64 {x : Int} (h0 : 0 ≤ x) (h1 : x ≤ 9223372036854775806) : wrap64 (x + 1) = x + 1 := by
  unfold wrap64; omega

/-- The reader of draws: a byte, the place then. -/
theorem byte_some (b : List Int) (i h : Int) (h0 : 0 ≤ i) (hl : b.length ≤ 140737488351232) (hi : i ≤ b.length) :
    ∃ r i' h', spec_l1Byte.f b i h = some (r, i', h') ∧ 0 ≤ r ∧ r ≤ 255 ∧ 0 ≤ i' ∧ i' ≤ b.length := by
  unfold spec_l1Byte.f
  by_cases hlt : i < (b.length : Int)
  · rw [if_pos hlt, if_pos h0]
    refine ⟨_, _, _, rfl, (band _ 255 (by decide)).1, (band _ 255 (by decide)).2, ?_, ?_⟩ <;> rw [w64 h0 (by omega)] <;> omega
  · rw [if_neg hlt]
    exact ⟨_, _, _, rfl, (band _ 255 (by decide)).1, (band _ 255 (by decide)).2, h0, hi⟩
theorem below_some (b : List Int) (i h n : Int) (hn : 0 < n) (hn2 : n ≤ 256) (h0 : 0 ≤ i) (hl : b.length ≤ 140737488351232) (hi : i ≤ b.length) :
    ∃ r i' h', spec_l1Below.f b i h n = some (r, i', h') ∧ 0 ≤ r ∧ r < n ∧ 0 ≤ i' ∧ i' ≤ b.length := by
  unfold spec_l1Below.f
  rw [if_neg (by omega), if_pos hn2]
  obtain ⟨r, i', h', e, r0, r1, i0, i1⟩ := byte_some b i h h0 hl hi
  rw [e]
  simp only [Option.bind_some]
  rw [if_neg (by omega)]
  refine ⟨_, _, _, rfl, ?_, ?_, i0, i1⟩
  · rw [Int.tmod_eq_emod_of_nonneg r0]; exact Int.emod_nonneg _ (by omega)
  · rw [Int.tmod_eq_emod_of_nonneg r0]; exact Int.emod_lt_of_pos _ hn
theorem pick_some (b : List Int) (i h : Int) (l : List Int) (hn : 0 < l.length) (hn2 : l.length ≤ 256) (h0 : 0 ≤ i) (hl : b.length ≤ 140737488351232) (hi : i ≤ b.length) :
    ∃ r i' h', spec_l1PickInt.f b i h l = some (r, i', h') ∧ r ∈ l ∧ 0 ≤ i' ∧ i' ≤ b.length := by
  unfold spec_l1PickInt.f
  obtain ⟨r, i', h', e, r0, r1, i0, i1⟩ := below_some b i h (l.length : Int) (by omega) (by omega) h0 hl hi
  rw [e]
  simp only [Option.bind_some]
  rw [if_pos r0, if_pos r1]
  refine ⟨_, _, _, rfl, ?_, i0, i1⟩
  unfold rd
  have : r.toNat < l.length := by omega
  rw [List.getD_eq_getElem?_getD, List.getElem?_eq_getElem this]
  exact List.getElem_mem this
theorem new_some (b : List Int) (hl : b.length ≤ 140737488351232) (d : Nat) : ∀ (k : Nat) (h i : Int), 0 ≤ i → 4000 - i ≤ d → d < k →
    ∃ h', spec_l1New.l0 k b h i = some (b, 0, h') := by
  induction d with
  | zero =>
    intro k h i h0 hd hk
    obtain ⟨k, rfl⟩ : ∃ m, k = m + 1 := ⟨k - 1, by omega⟩
    simp only [spec_l1New.l0]
    by_cases c : i < (b.length : Int)
    · rw [if_pos c, if_neg (by omega)]; exact ⟨_, rfl⟩
    · rw [if_neg c]; exact ⟨_, rfl⟩
  | succ d ih =>
    intro k h i h0 hd hk
    obtain ⟨k, rfl⟩ : ∃ m, k = m + 1 := ⟨k - 1, by omega⟩
    simp only [spec_l1New.l0]
    by_cases c : i < (b.length : Int)
    · by_cases c2 : i < 4000
      · rw [if_pos c, if_pos c2, if_pos h0, w64 h0 (by omega)]
        exact ih k _ _ (by omega) (by omega) (by omega)
      · rw [if_pos c, if_neg c2]; exact ⟨_, rfl⟩
    · rw [if_neg c]; exact ⟨_, rfl⟩
theorem below_any (b : List Int) (i h n : Int) (hn2 : n ≤ 256) (h0 : 0 ≤ i) (hl : b.length ≤ 140737488351232) (hi : i ≤ b.length) :
    ∃ r i' h', spec_l1Below.f b i h n = some (r, i', h') ∧ 0 ≤ i' ∧ i' ≤ b.length := by
  by_cases hn : 0 < n
  · obtain ⟨r, i', h', e, _, _, i0, i1⟩ := below_some b i h n hn hn2 h0 hl hi
    exact ⟨r, i', h', e, i0, i1⟩
  · unfold spec_l1Below.f
    rw [if_pos (by omega)]
    exact ⟨_, _, _, rfl, h0, hi⟩

def okB (a b c : Int) : Bool := decide (1 ≤ b ∧ b ≤ 100 ∧ 1 ≤ c ∧ c ≤ b ∧ 0 ≤ a ∧ a ≤ b)
theorem in_val (a b c : Int) : spec_l1In.f a b c = some (decide (b ≤ a ∧ a ≤ c)) := by
  unfold spec_l1In.f
  by_cases h : a ≥ b
  · rw [if_pos h]; simp [show b ≤ a from h]
  · rw [if_neg h]; simp [show ¬ b ≤ a from h]
theorem ok_val (a b c : Int) : spec_PaceOk.f a b c = some (okB a b c) := by
  unfold spec_PaceOk.f okB
  simp only [in_val, Option.bind_some]
  by_cases h1 : 1 ≤ b ∧ b ≤ 100 <;> by_cases h2 : 1 ≤ c ∧ c ≤ b <;> by_cases h3 : 0 ≤ a ∧ a ≤ b <;> simp [h1, h2, h3]
  all_goals omega
theorem iok_val (a b c : Int) : impl_PaceOk.f a b c = some (okB a b c) := ok_val a b c
theorem new_val (m k : Int) : spec_PaceNew.f m k = some (if okB m m k = true then (m, m, k, true) else (0, 0, 0, false)) := by
  unfold spec_PaceNew.f
  rw [ok_val, Option.bind_some]
  split <;> rfl
theorem inew_val (m k : Int) : impl_PaceNew.f m k = some (if okB m m k = true then (m, m, k, true) else (0, 0, 0, false)) := new_val m k
theorem spend_val (a b c n : Int) : spec_Spend.f a b c n = some (if okB a b c = true ∧ 0 ≤ n ∧ n ≤ a then (wrap64 (a - n), b, c, true) else (a, b, c, false)) := by
  unfold spec_Spend.f
  simp only [ok_val, in_val, Option.bind_some]
  cases h1 : okB a b c <;> by_cases h2 : 0 ≤ n ∧ n ≤ a <;> simp [h2]
theorem ispend_val (a b c n : Int) : impl_Spend.f a b c n = some (if okB a b c = true ∧ 0 ≤ n ∧ n ≤ a then (wrap64 (a - n), b, c, true) else (a, b, c, false)) := spend_val a b c n
theorem tick_val (a b c : Int) : spec_PaceTick.f a b c = some (if okB a b c = true then (mn (wrap64 (a + c)) b, b, c) else (a, b, c)) := by
  unfold spec_PaceTick.f
  have hm : ∀ x y : Int, spec_l1Min.f x y = some (mn x y) := by
    intro x y
    unfold spec_l1Min.f mn
    split <;> split <;> first | rfl | (congr 1; omega)
  simp only [ok_val, hm, Option.bind_some]
  split <;> rfl
theorem itick_val (a b c : Int) : impl_PaceTick.f a b c = some (if okB a b c = true then (mn (wrap64 (a + c)) b, b, c) else (a, b, c)) := by
  unfold impl_PaceTick.f
  simp only [iok_val, Option.bind_some]
  split <;> rfl

theorem pace_some (b : List Int) (hl : b.length ≤ 140737488351232) (i h : Int) (h0 : 0 ≤ i) (hi : i ≤ b.length) :
    ∃ x y z i' h', spec_l25DrawPace.f b i h = some (x, y, z, i', h') ∧ 0 ≤ i' ∧ i' ≤ b.length := by
  unfold spec_l25DrawPace.f
  obtain ⟨m, i1, h1, e1, hm, i2, i3⟩ := pick_some b i h [1, 3, 10, 100] (by decide) (by decide) h0 hl hi
  rw [e1]
  simp only [Option.bind_some, new_val]
  have hm2 : 1 ≤ m ∧ m ≤ 100 := by
    simp at hm
    omega
  rw [if_pos (by simp [okB]; omega)]
  simp only []
  obtain ⟨r, i4, h4, e4, i5, i6⟩ := below_any b i1 h1 (wrap64 (m + 1)) (by unfold wrap64; omega) i2 hl i3
  rw [e4]
  simp only [Option.bind_some]
  obtain ⟨q, i7, h7, e7, i8, i9⟩ := below_any b i4 h4 8 (by decide) i5 hl i6
  rw [e7]
  simp only [Option.bind_some]
  split
  · obtain ⟨u, i10, h10, e10, _, i11, i12⟩ := pick_some b i7 h7 [0, (-1), 101] (by decide) (by decide) i8 hl i9
    rw [e10]
    exact ⟨_, _, _, _, _, rfl, i11, i12⟩
  · split
    · obtain ⟨u, i10, h10, e10, _, i11, i12⟩ := pick_some b i7 h7 [0, m, wrap64 (m + 1)] (by simp) (by simp) i8 hl i9
      rw [e10]
      exact ⟨_, _, _, _, _, rfl, i11, i12⟩
    · split
      · obtain ⟨u, i10, h10, e10, _, i11, i12⟩ := pick_some b i7 h7 [(-1), m, wrap64 (m + 1)] (by simp) (by simp) i8 hl i9
        rw [e10]
        exact ⟨_, _, _, _, _, rfl, i11, i12⟩
      · exact ⟨_, _, _, _, _, rfl, i8, i9⟩
section
variable (b : List Int) (hl : b.length ≤ 140737488351232) (k : Nat) (hk : 4000 < k)
include hl hk
theorem cur_some : ∃ h, spec_l1New.f k b = some (b, 0, h) := by
  unfold spec_l1New.f
  exact new_some b hl 4000 k (wrap64 (24770 + (b.length : Int))) 0 (by decide) (by decide) hk
theorem spend_draw : ∃ x y z n, spec_DrawSpend.f k b = some (x, y, z, n) := by
  unfold spec_DrawSpend.f
  obtain ⟨h, e⟩ := cur_some b hl k hk
  rw [e]
  simp only [Option.bind_some]
  obtain ⟨x, y, z, i1, h1, e1, i2, i3⟩ := pace_some b hl 0 h (by decide) (by omega)
  rw [e1]
  simp only [Option.bind_some]
  obtain ⟨n, i4, h4, e4, _, _, _⟩ := pick_some b i1 h1 [0, 1, 2, 10, (-1), 9223372036854775807] (by decide) (by decide) i2 hl i3
  rw [e4]
  exact ⟨_, _, _, _, rfl⟩
theorem tick_draw : ∃ x y z, spec_DrawPaceTick.f k b = some (x, y, z) := by
  unfold spec_DrawPaceTick.f
  obtain ⟨h, e⟩ := cur_some b hl k hk
  rw [e]
  simp only [Option.bind_some]
  obtain ⟨x, y, z, i1, h1, e1, i2, i3⟩ := pace_some b hl 0 h (by decide) (by omega)
  rw [e1]
  exact ⟨_, _, _, rfl⟩
theorem ok_draw : ∃ x y z, spec_DrawPaceOk.f k b = some (x, y, z) := by
  unfold spec_DrawPaceOk.f
  obtain ⟨h, e⟩ := cur_some b hl k hk
  rw [e]
  simp only [Option.bind_some]
  obtain ⟨x, y, z, i1, h1, e1, i2, i3⟩ := pace_some b hl 0 h (by decide) (by omega)
  rw [e1]
  exact ⟨_, _, _, rfl⟩
theorem new_draw : ∃ m n, spec_DrawPaceNew.f k b = some (m, n) := by
  unfold spec_DrawPaceNew.f
  obtain ⟨h, e⟩ := cur_some b hl k hk
  rw [e]
  simp only [Option.bind_some]
  obtain ⟨m, i1, h1, e1, _, i2, i3⟩ := pick_some b 0 h [1, 5, 100, 101, 0, (-1)] (by decide) (by decide) (by decide) hl (by omega)
  rw [e1]
  simp only [Option.bind_some]
  obtain ⟨n, i4, h4, e4, _, _, _⟩ := pick_some b i1 h1 [1, 3, 5, 0, (-1)] (by decide) (by decide) i2 hl i3
  rw [e4]
  exact ⟨_, _, rfl⟩
end
theorem last (k : Nat) (n : Int) (x y z : Int) :
    laws_FnPaces.j1 (k + 1) n (if okB x y z = true ∧ 0 ≤ n ∧ n ≤ x then (wrap64 (x - n), y, z, true) else (x, y, z, false)).2.2.2 false x y z
      (if okB x y z = true ∧ 0 ≤ n ∧ n ≤ x then (wrap64 (x - n), y, z, true) else (x, y, z, false)).1
      (if okB x y z = true ∧ 0 ≤ n ∧ n ≤ x then (wrap64 (x - n), y, z, true) else (x, y, z, false)).2.1
      (if okB x y z = true ∧ 0 ≤ n ∧ n ≤ x then (wrap64 (x - n), y, z, true) else (x, y, z, false)).2.2.1 = some true := by
  unfold laws_FnPaces.j1
  by_cases h : okB x y z = true ∧ 0 ≤ n ∧ n ≤ x
  · simp only [if_pos h, iok_val, Option.bind_some, if_true, Bool.false_eq_true, if_false]
    have h1 := of_decide_eq_true h.1
    have e : wrap64 (x - n) = x - n := by unfold wrap64; omega
    rw [if_pos (by simp [okB, e]; omega)]
    simp
  · simp only [if_neg h, Bool.false_eq_true, if_false]
    simp
end Paces

theorem FnPaces : laws_FnPaces.Pure := by
  intro l0 _ hl _
  refine ⟨4003, ?_⟩
  obtain ⟨x, y, z, n, e1⟩ := Paces.spend_draw l0 (by omega) 4003 (by decide)
  obtain ⟨t0, t1, t2, e2⟩ := Paces.tick_draw l0 (by omega) 4003 (by decide)
  obtain ⟨o0, o1, o2, e3⟩ := Paces.ok_draw l0 (by omega) 4003 (by decide)
  obtain ⟨m, q, e4⟩ := Paces.new_draw l0 (by omega) 4003 (by decide)
  unfold laws_FnPaces.f laws_big.f
  simp only [Option.bind_some]
  split
  · rfl
  · simp only [e1, e2, e3, e4, Option.bind_some, Paces.ispend_val, Paces.spend_val, Paces.inew_val, Paces.new_val, Paces.itick_val, Paces.tick_val, Paces.iok_val, Paces.ok_val]
    simp only [beq_self_eq_true, Bool.not_true, Bool.or_self, Bool.false_eq_true, if_false, bne_self_eq_false]
    unfold laws_FnPaces.j0
    simp only [Paces.iok_val, Option.bind_some, Bool.false_eq_true, if_false]
    by_cases ht : Paces.okB t0 t1 t2 = true
    · have h1 := of_decide_eq_true ht
      have e : wrap64 (t0 + t2) = t0 + t2 := by unfold wrap64; omega
      simp only [if_pos ht]
      have hm : t0 ≤ mn (wrap64 (t0 + t2)) t1 ∧ mn (wrap64 (t0 + t2)) t1 ≤ t1 := by unfold mn; rw [e]; split <;> omega
      rw [if_pos (by simp [Paces.okB]; omega), if_neg (by omega), if_neg (by omega)]
      by_cases hn : Paces.okB m m q = true
      · simp only [if_pos hn, if_true, bne_self_eq_false]
        exact Paces.last _ n x y z
      · simp only [if_neg hn, Bool.false_eq_true, if_false]
        exact Paces.last _ n x y z
    · simp only [if_neg ht, beq_self_eq_true, Bool.not_true, Bool.or_self, Bool.false_eq_true, if_false]
      by_cases hn : Paces.okB m m q = true
      · simp only [if_pos hn, if_true, bne_self_eq_false]
        exact Paces.last _ n x y z
      · simp only [if_neg hn, Bool.false_eq_true, if_false]
        exact Paces.last _ n x y z

end Go.Proofs.Ytfhabnkmhofpgaa.Pure
