/- For every moment the program's SnapText returns what the reference's SnapText returns, and leaves its argument as it was: plain part of FnExactSnapText. -/
import Derived.Test.YtfhabnkmhofpgaaPFnExactSnapTextx2
namespace Go.Proofs.Ytfhabnkmhofpgaa.Pure
set_option linter.unusedVariables false
set_option linter.unusedSectionVars false
open Go.RowKit Go.Proofs.Ytfhabnkmhofpgaa.PFnExactSnapText Go.Proofs.YtfhabnkmhofpgaaW.PrintWords Go.Proofs.YtfhabnkmhofpgaaW.PrintLast

namespace SnapText
theorem wrap_id {x : Int} (h0 : -9223372036854775808 ≤ x) (h1 : x ≤ 9223372036854775807) : wrap64 x = x := by
  unfold wrap64; omega
/-! decimal digits -/
def d1 (m : Nat) : ByteArray := ⟨#[UInt8.ofNat (48 + m)]⟩
def nd (m : Nat) : ByteArray := if m < 10 then d1 m else nd (m / 10) ++ d1 (m % 10)
termination_by m
decreasing_by omega
def dec (n : Int) : ByteArray := if n < 0 then (⟨#[45]⟩ : ByteArray) ++ nd n.natAbs else nd n.natAbs
theorem nd_small {m : Nat} (h : m < 10) : nd m = d1 m := by rw [nd, if_pos h]
theorem nd_big {m : Nat} (h : ¬ m < 10) : nd m = nd (m / 10) ++ d1 (m % 10) := by rw [nd, if_neg h]
theorem nd_size : ∀ (j m : Nat), m < 10 ^ (j + 1) → (nd m).size ≤ j + 1
  | 0, m, h => by
    rw [nd_small (by omega)]; exact Nat.le_refl 1
  | j + 1, m, h => by
    by_cases c : m < 10
    · rw [nd_small c]; show 1 ≤ j + 1 + 1; omega
    · rw [nd_big c, ByteArray.size_append]
      have := nd_size j (m / 10) (by rw [Nat.pow_succ] at h; omega)
      have e : (d1 (m % 10)).size = 1 := rfl
      omega
theorem dec_size (x : Int) (h0 : -9223372036854775808 ≤ x) (h1 : x ≤ 9223372036854775807) : (dec x).size ≤ 21 := by
  have h := nd_size 19 x.natAbs (by omega)
  unfold dec
  split
  · rw [ByteArray.size_append]
    have e : (⟨#[45]⟩ : ByteArray).size = 1 := rfl
    omega
  · omega
theorem sgn {m : Int} (h0 : 0 ≤ m) (h1 : m < 10) : Utf8.encode (Go.RowKit.wrap32 (wrap64 (48 + m))) = d1 m.natAbs := by
  have : m = 0 ∨ m = 1 ∨ m = 2 ∨ m = 3 ∨ m = 4 ∨ m = 5 ∨ m = 6 ∨ m = 7 ∨ m = 8 ∨ m = 9 := by omega
  rcases this with rfl | rfl | rfl | rfl | rfl | rfl | rfl | rfl | rfl | rfl <;> decide +kernel
theorem tdiv_abs (x : Int) : (Int.tdiv x 10).natAbs = x.natAbs / 10 := by
  rw [Int.natAbs_tdiv]; rfl
theorem tmod_abs (x : Int) : (Int.tmod x 10).natAbs = x.natAbs % 10 := by
  rw [Int.natAbs_tmod]; rfl
theorem tdiv_neg {x : Int} (h : x < 0) : Int.tdiv x 10 ≤ 0 := by
  have := Int.tdiv_nonneg (a := -x) (b := 10) (by omega) (by omega)
  rw [Int.neg_tdiv] at this
  omega
theorem tdiv_pos {x : Int} (h : 0 ≤ x) : 0 ≤ Int.tdiv x 10 := Int.tdiv_nonneg h (by omega)
theorem tmod_neg {x : Int} (h : x < 0) : Int.tmod x 10 ≤ 0 := by
  have := tdiv_neg h
  have e := Int.mul_tdiv_add_tmod x 10
  have a := tmod_abs x
  have b := tdiv_abs x
  omega
theorem tmod_pos {x : Int} (h : 0 ≤ x) : 0 ≤ Int.tmod x 10 := Int.tmod_nonneg _ h
theorem impl_nat : ∀ (j k : Nat) (x : Int), 0 ≤ x → x < 10 ^ (j + 1) → x ≤ 9223372036854775807 → 2 * j + 2 ≤ k → j ≤ 30 → impl_Digits.f k x = some (nd x.natAbs) := by
  intro j
  induction j with
  | zero =>
    intro k x h0 h1 h2 hk hj
    obtain ⟨k, rfl⟩ : ∃ q, k = q + 2 := ⟨k - 2, by omega⟩
    simp only [impl_Digits.f, impl_Digits.j0]
    rw [if_neg (by omega), if_neg (by decide), if_neg (by omega), if_pos (by omega), sgn h0 (by omega), nd_small (by omega)]
  | succ j ih =>
    intro k x h0 h1 h2 hk hj
    obtain ⟨k, rfl⟩ : ∃ q, k = q + 2 := ⟨k - 2, by omega⟩
    simp only [impl_Digits.f, impl_Digits.j0]
    rw [if_neg (by omega), if_neg (by decide), if_neg (by omega)]
    by_cases c : x < 10
    · rw [if_pos c, sgn h0 c, nd_small (by omega)]
    · have a := tdiv_abs x
      have p := tdiv_pos h0
      have b := tmod_abs x
      have q := tmod_pos h0
      have hx : x / 10 < 10 ^ (j + 1) := by
        rw [Int.pow_succ] at h1; omega
      have i := ih k (Int.tdiv x 10) p (by omega) (by omega) (by omega) (by omega)
      rw [if_neg c, wrap_id (by omega) (by omega), i, sgn q (by omega), a, b]
      simp only [Option.bind_some]
      have hs := nd_size 32 (x.natAbs / 10) (by omega)
      have e : (d1 (x.natAbs % 10)).size = 1 := rfl
      rw [if_pos (by omega), nd_big (m := x.natAbs) (by omega)]
theorem impl_int : ∀ (j k : Nat) (x : Int), x.natAbs < 10 ^ (j + 1) → -9223372036854775808 ≤ x → x ≤ 9223372036854775807 → 2 * j + 4 ≤ k → j ≤ 30 → impl_Digits.f k x = some (dec x) := by
  intro j
  induction j with
  | zero =>
    intro k x h1 h2 h3 hk hj
    by_cases c : x < 0
    · obtain ⟨k, rfl⟩ : ∃ q, k = q + 2 := ⟨k - 2, by omega⟩
      simp only [impl_Digits.f, impl_Digits.j0]
      rw [if_pos c, if_pos (decide_eq_true (by omega)), wrap_id (by omega) (by omega), impl_nat 0 k (-x) (by omega) (by omega) (by omega) (by omega) (by omega)]
      simp only [Option.bind_some]
      have e : (-x).natAbs = x.natAbs := by omega
      rw [e, nd_small (by omega), if_pos (by show 1 + 1 ≤ 9223372036854775807; omega)]
      unfold dec
      rw [if_pos c, nd_small (by omega)]
    · rw [impl_nat 0 k x (by omega) (by omega) h3 (by omega) (by omega)]
      unfold dec; rw [if_neg c]
  | succ j ih =>
    intro k x h1 h2 h3 hk hj
    by_cases c : x < 0
    · obtain ⟨k, rfl⟩ : ∃ q, k = q + 2 := ⟨k - 2, by omega⟩
      simp only [impl_Digits.f, impl_Digits.j0]
      rw [if_pos c]
      by_cases c2 : x > -10
      · rw [if_pos (decide_eq_true c2), wrap_id (by omega) (by omega), impl_nat 0 k (-x) (by omega) (by omega) (by omega) (by omega) (by omega)]
        simp only [Option.bind_some]
        have e : (-x).natAbs = x.natAbs := by omega
        rw [e, nd_small (by omega), if_pos (by show 1 + 1 ≤ 9223372036854775807; omega)]
        unfold dec
        rw [if_pos c, nd_small (by omega)]
      · have a := tdiv_abs x
        have b := tmod_abs x
        have p := tdiv_neg c
        have q := tmod_neg c
        have hd : dec (Int.tdiv x 10) = (⟨#[45]⟩ : ByteArray) ++ nd (x.natAbs / 10) := by
          unfold dec; rw [if_pos (by omega), a]
        have hx : x.natAbs / 10 < 10 ^ (j + 1) := by
          rw [Nat.pow_succ] at h1; omega
        rw [if_neg (by simp; omega), if_pos c, wrap_id (by omega) (by omega), ih k (Int.tdiv x 10) (by omega) (by omega) (by omega) (by omega) (by omega),
          wrap_id (by omega) (by omega), impl_nat 0 k (-(Int.tmod x 10)) (by omega) (by omega) (by omega) (by omega) (by omega), hd]
        simp only [Option.bind_some]
        have e : (-(Int.tmod x 10)).natAbs = x.natAbs % 10 := by omega
        have hs := nd_size 19 (x.natAbs / 10) (by omega)
        have e1 : (d1 (x.natAbs % 10)).size = 1 := rfl
        have e2 : (⟨#[45]⟩ : ByteArray).size = 1 := rfl
        rw [e, nd_small (m := x.natAbs % 10) (by omega), if_pos (by rw [ByteArray.size_append]; omega)]
        unfold dec
        rw [if_pos c, nd_big (m := x.natAbs) (by omega), ByteArray.append_assoc]
    · rw [impl_nat (j + 1) k x (by omega) (by have : ((10 : Int) ^ (j + 1 + 1)) = ((10 ^ (j + 1 + 1) : Nat) : Int) := by push_cast; rfl
                                              omega) h3 (by omega) (by omega)]
      unfold dec; rw [if_neg c]
theorem impl_dec (x : Int) (h0 : -9223372036854775808 ≤ x) (h1 : x ≤ 9223372036854775807) (k : Nat) (hk : 50 ≤ k) : impl_Digits.f k x = some (dec x) :=
  impl_int 19 k x (by omega) h0 h1 (by omega) (by omega)
theorem one_num (m : Nat) (h : m < 10) (v : Int) (hv : v = 48 + (m : Int)) : strOfNums [v] = d1 m := by
  subst hv
  unfold strOfNums d1
  simp only [List.map_cons, List.map_nil]
  rw [show ((48 : Int) + (m : Int)).toNat = 48 + m by omega]
theorem spec_loop : ∀ (j : Nat) (x : Int) (b : Bool) (acc : ByteArray) (k : Nat), x.natAbs < 10 ^ j → -9223372036854775808 ≤ x → x ≤ 9223372036854775807 → acc.size + j ≤ 100 → j < k →
    spec_Digits.l0 k x b acc = some ((if b = true then (⟨#[45]⟩ : ByteArray) else ByteArray.empty) ++ ((if x = 0 then ByteArray.empty else nd x.natAbs) ++ acc)) := by
  intro j
  induction j with
  | zero =>
    intro x b acc k h1 h2 h3 h4 hk
    obtain ⟨k, rfl⟩ : ∃ q, k = q + 1 := ⟨k - 1, by omega⟩
    have : x = 0 := by simp at h1; omega
    subst this
    simp only [spec_Digits.l0, if_true]
    cases b
    · simp
    · rw [if_pos rfl, if_pos (by omega)]; simp
  | succ j ih =>
    intro x b acc k h1 h2 h3 h4 hk
    obtain ⟨k, rfl⟩ : ∃ q, k = q + 1 := ⟨k - 1, by omega⟩
    simp only [spec_Digits.l0]
    by_cases c : x = 0
    · rw [if_pos c, if_pos c]
      cases b
      · simp
      · rw [if_pos rfl, if_pos (by omega)]; simp
    · rw [if_neg c, if_neg c]
      have a := tdiv_abs x
      have bb := tmod_abs x
      have hx : x.natAbs / 10 < 10 ^ j := by
        rw [Nat.pow_succ] at h1; omega
      have hsz : (d1 (x.natAbs % 10)).size = 1 := rfl
      have rc := ih (Int.tdiv x 10) b (d1 (x.natAbs % 10) ++ acc) k (by omega) (by omega) (by omega) (by rw [ByteArray.size_append]; omega) (by omega)
      have fin : (if Int.tdiv x 10 = 0 then ByteArray.empty else nd (Int.tdiv x 10).natAbs) ++ (d1 (x.natAbs % 10) ++ acc) = nd x.natAbs ++ acc := by
        by_cases z : x.natAbs < 10
        · rw [if_pos (by omega), nd_small z, show x.natAbs % 10 = x.natAbs by omega, ByteArray.empty_append]
        · rw [if_neg (by omega), nd_big z, a, ByteArray.append_assoc]
      rw [fin] at rc
      by_cases s : Int.tmod x 10 < 0
      · rw [if_pos s]
        simp only [Option.bind_some]
        rw [one_num (x.natAbs % 10) (by omega) _ (by rw [wrap_id (x := -(Int.tmod x 10)) (by omega) (by omega), wrap_id (by omega) (by omega)]; omega), if_pos (by omega), wrap_id (by omega) (by omega)]
        exact rc
      · rw [if_neg s]
        simp only [Option.bind_some]
        rw [one_num (x.natAbs % 10) (by omega) _ (by rw [wrap_id (by omega) (by omega)]; omega), if_pos (by omega), wrap_id (by omega) (by omega)]
        exact rc
theorem spec_dec (x : Int) (h0 : -9223372036854775808 ≤ x) (h1 : x ≤ 9223372036854775807) (k : Nat) (hk : 50 ≤ k) : spec_Digits.f k x = some (dec x) := by
  unfold spec_Digits.f
  by_cases c : x = 0
  · subst c
    rw [if_pos rfl]
    unfold dec
    rw [if_neg (by omega), nd_small (by decide)]
    rfl
  · rw [if_neg c, spec_loop 20 x _ _ k (by omega) h0 h1 (by decide) (by omega), if_neg c]
    unfold dec
    have e : (⟨#[]⟩ : ByteArray) = ByteArray.empty := rfl
    rw [e, ByteArray.append_empty]
    by_cases s : x < 0
    · rw [if_pos s, if_pos (decide_eq_true s)]
    · rw [if_neg s, if_neg (by simp; omega), ByteArray.empty_append]
theorem wrap_small {x : Int} (h0 : 0 ≤ x) (h1 : x ≤ 4611686018427387904) : wrap64 x = x := by
  unfold wrap64; omega
theorem copy_loop (l : List Int) (hl : l.length ≤ 1048576) : ∀ (m i : Nat), i + m = l.length → ∀ k, m < k →
    laws_toIntS.l0 k l (l.take i ++ List.replicate m 0) (i : Int) = some l
  | 0, i, h, k + 1, _ => by
    unfold laws_toIntS.l0
    rw [if_neg (by omega)]
    simp [show i = l.length by omega]
  | m + 1, i, h, k + 1, hk => by
    unfold laws_toIntS.l0
    rw [if_pos (by omega), if_pos (by omega), if_pos (by simp; omega), wrap_small (by omega) (by omega)]
    have := copy_loop l hl m (i + 1) (by omega) k (by omega)
    rw [show ((i : Int) + 1) = ((i + 1 : Nat) : Int) by omega]
    rw [← this]
    congr 1
    rw [show ((i : Int)).toNat = i by omega]
    unfold rd
    rw [show ((i : Int)).toNat = i by omega]
    apply List.ext_getElem?
    intro j
    by_cases h1 : j < i
    · simp [List.getElem?_set, List.getElem?_append, List.getElem?_take, List.getElem?_replicate, List.length_take]
      grind
    · simp [List.getElem?_set, List.getElem?_append, List.getElem?_take, List.getElem?_replicate, List.length_take]
      grind
theorem copy (l : List Int) (hl : l.length ≤ 1048576) (k : Nat) (hk : l.length < k) : laws_toIntS.f k l = some l := by
  unfold laws_toIntS.f
  rw [if_pos (by omega), if_pos (by omega)]
  have := copy_loop l hl l.length 0 (by omega) k hk
  simpa using this
theorem eq_loop (l : List Int) (hl : l.length ≤ 1048576) : ∀ (m i : Nat), i + m = l.length → ∀ k, m < k →
    laws_eqIntS.l0 k l l (i : Int) = some true
  | 0, i, h, k + 1, _ => by
    unfold laws_eqIntS.l0
    rw [if_neg (by omega)]
  | m + 1, i, h, k + 1, hk => by
    unfold laws_eqIntS.l0
    rw [if_pos (by omega), if_pos (by omega), if_pos (by omega), if_pos rfl, wrap_small (by omega) (by omega)]
    have := eq_loop l hl m (i + 1) (by omega) k (by omega)
    rw [show ((i : Int) + 1) = ((i + 1 : Nat) : Int) by omega]
    exact this
theorem same (l : List Int) (hl : l.length ≤ 1048576) (k : Nat) (hk : l.length < k) : laws_eqIntS.f k l l = some true := by
  unfold laws_eqIntS.f
  rw [if_pos rfl]
  exact eq_loop l hl l.length 0 (by omega) k hk

def snap (a : Int) (l : List Int) : ByteArray := l.foldl (fun s x => s ++ ((⟨#[32]⟩ : ByteArray) ++ dec x)) (dec a ++ (⟨#[58]⟩ : ByteArray))
theorem snap_take (a : Int) (l : List Int) (i : Nat) (hi : i < l.length) : snap a (l.take (i + 1)) = snap a (l.take i) ++ ((⟨#[32]⟩ : ByteArray) ++ dec (rd l i)) := by
  have e : rd l (i : Int) = l[i] := by
    unfold rd
    rw [show ((i : Int)).toNat = i by omega, List.getD_eq_getElem?_getD, List.getElem?_eq_getElem hi]; rfl
  unfold snap
  rw [e, List.take_add_one, List.getElem?_eq_getElem hi, Option.toList_some, List.foldl_append, List.foldl_cons, List.foldl_nil]
theorem rd_mem (l : List Int) (i : Nat) (hi : i < l.length) : rd l i ∈ l := by
  unfold rd
  rw [show ((i : Int)).toNat = i by omega, List.getD_eq_getElem?_getD, List.getElem?_eq_getElem hi]
  exact List.getElem_mem hi
theorem int_of {x : Int} (h : (Lit.int .i64 x).wf = true) : -9223372036854775808 ≤ x ∧ x ≤ 9223372036854775807 := by
  have h' : (decide (IntKind.i64.min ≤ x) && decide (x ≤ IntKind.i64.max)) = true := h
  simp [IntKind.min, IntKind.max, IntKind.signed, IntKind.bits] at h'
  omega
section
variable (a : Int) (l : List Int) (hl : l.length ≤ 1048576) (ha : (Lit.int .i64 a).wf = true) (hb : ∀ x ∈ l, (Lit.int .i64 x).wf = true)
include hl ha hb
theorem snap_size : ∀ i, i ≤ l.length → (snap a (l.take i)).size ≤ 22 + 22 * i
  | 0, _ => by
    have := dec_size a (int_of ha).1 (int_of ha).2
    have e : (⟨#[58]⟩ : ByteArray).size = 1 := rfl
    simp only [snap, List.take_zero, List.foldl_nil, ByteArray.size_append]
    omega
  | i + 1, h => by
    have h1 := snap_size i (by omega)
    have hx := int_of (hb _ (rd_mem l i (by omega)))
    have h2 := dec_size _ hx.1 hx.2
    have e : (⟨#[32]⟩ : ByteArray).size = 1 := rfl
    rw [snap_take a l i (by omega), ByteArray.size_append, ByteArray.size_append]
    omega
theorem spec_go : ∀ (m i : Nat), i + m = l.length → ∀ k, m + 60 < k → spec_SnapText.l0 k (snap a (l.take i)) (i : Int) a l = some (snap a l)
  | 0, i, h, k + 1, _ => by
    unfold spec_SnapText.l0
    rw [if_neg (by omega), List.take_of_length_le (by omega)]
  | m + 1, i, h, k + 1, hk => by
    have hs := snap_size a l hl ha hb i (by omega)
    have hx := int_of (hb _ (rd_mem l i (by omega)))
    have h2 := dec_size _ hx.1 hx.2
    have e : (⟨#[32]⟩ : ByteArray).size = 1 := rfl
    unfold spec_SnapText.l0
    rw [if_pos (by omega), if_pos (by omega), if_pos (by omega), spec_dec _ hx.1 hx.2 k (by omega)]
    simp only [Option.bind_some]
    rw [if_pos (by rw [ByteArray.size_append]; omega), wrap_small (by omega) (by omega), ByteArray.append_assoc, ← snap_take a l i (by omega)]
    have := spec_go m (i + 1) (by omega) k (by omega)
    rw [show ((i : Int) + 1) = ((i + 1 : Nat) : Int) by omega]
    exact this
theorem impl_go : ∀ (m i : Nat), i + m = l.length → ∀ k, m + 60 < k → impl_SnapText.l0 k (snap a (l.take i)) l (l.length : Int) (i : Int) = some (snap a l)
  | 0, i, h, k + 1, _ => by
    unfold impl_SnapText.l0
    rw [if_neg (by omega), List.take_of_length_le (by omega)]
  | m + 1, i, h, k + 1, hk => by
    have hs := snap_size a l hl ha hb i (by omega)
    have hx := int_of (hb _ (rd_mem l i (by omega)))
    have h2 := dec_size _ hx.1 hx.2
    have e : (⟨#[32]⟩ : ByteArray).size = 1 := rfl
    unfold impl_SnapText.l0
    rw [if_pos (by omega), if_pos (by omega), if_pos (by omega), impl_dec _ hx.1 hx.2 k (by omega)]
    simp only [Option.bind_some]
    rw [if_pos (by omega), if_pos (by rw [ByteArray.size_append]; omega), wrap_small (by omega) (by omega), ← snap_take a l i (by omega)]
    have := impl_go m (i + 1) (by omega) k (by omega)
    rw [show ((i : Int) + 1) = ((i + 1 : Nat) : Int) by omega]
    exact this
theorem spec_text (k : Nat) (hk : l.length + 60 < k) : spec_SnapText.f k a l = some (snap a l) := by
  have h2 := dec_size a (int_of ha).1 (int_of ha).2
  unfold spec_SnapText.f
  rw [spec_dec a (int_of ha).1 (int_of ha).2 k (by omega)]
  simp only [Option.bind_some]
  rw [if_pos (by omega)]
  exact spec_go a l hl ha hb l.length 0 (by omega) k (by omega)
theorem impl_text (k : Nat) (hk : l.length + 60 < k) : impl_SnapText.f k a l = some (snap a l) := by
  have h2 := dec_size a (int_of ha).1 (int_of ha).2
  unfold impl_SnapText.f
  rw [impl_dec a (int_of ha).1 (int_of ha).2 k (by omega)]
  simp only [Option.bind_some]
  rw [if_pos (by omega)]
  exact impl_go a l hl ha hb l.length 0 (by omega) k (by omega)
end
end SnapText

theorem FnExactSnapText (a : Int) (l : List Int) (hm : l.length ≤ 9223372036854775807) (ha : (Lit.int .i64 a).wf = true) (hb : ∀ x ∈ l, (Lit.int .i64 x).wf = true) : laws_FnExactSnapText.f (l.length + 61) a l = some true := by
  unfold laws_FnExactSnapText.f laws_szSnap.f laws_szIntS.f
  by_cases h : l.length ≤ 1048576
  · have hw : wrap64 (1048576 - (l.length : Int)) = 1048576 - (l.length : Int) := SnapText.wrap_small (by omega) (by omega)
    rw [hw, if_neg (by omega)]
    simp only [Option.bind_some]
    rw [if_neg (by omega)]
    simp only [Option.bind_some]
    rw [if_neg (by omega)]
    unfold laws_toSnap.f
    have c1 := SnapText.copy l h (l.length + 61) (by omega)
    have i1 := SnapText.impl_text a l h ha hb (l.length + 61) (by omega)
    have s1 := SnapText.spec_text a l h ha hb (l.length + 61) (by omega)
    simp only [c1, Option.bind_some, i1, s1, if_true]
    simp [laws_eqSnap.f, SnapText.same l h (l.length + 61) (by omega)]
  · have hw : wrap64 (1048576 - (l.length : Int)) = 1048576 - (l.length : Int) := by unfold wrap64; omega
    rw [hw, if_pos (by omega)]
    simp

end Go.Proofs.Ytfhabnkmhofpgaa.Pure
