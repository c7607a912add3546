/- For every Ask the program's AskText returns what the reference's AskText returns, and leaves its argument as it was: plain part of FnExactAskText. -/
import Derived.Test.YtfhabnkmhofpgaaPFnExactAskTextx4
import Derived.Laws.BitsLemmas
namespace Go.Proofs.Ytfhabnkmhofpgaa.Pure
set_option linter.unusedVariables false
open Go.RowKit Go.Proofs.Ytfhabnkmhofpgaa.PFnExactAskText Go.Proofs.YtfhabnkmhofpgaaW.PrintWords Go.Proofs.YtfhabnkmhofpgaaW.PrintLast

namespace AskText
theorem wrap_small {x : Int} (h0 : 0 ≤ x) (h1 : x ≤ 4611686018427387904) : wrap64 x = x := by
  unfold wrap64; omega
/-! bytes as two signs each -/
def all : ByteArray := ⟨#[48, 49, 50, 51, 52, 53, 54, 55, 56, 57, 97, 98, 99, 100, 101, 102]⟩
def pair (x : Int) : List Int := [bt all (x / 16), bt all (Go.bits .and .u8 x 15)]
def hex (l : List Int) : List Int := l.flatMap pair
theorem hex_len : ∀ l, (hex l).length = 2 * l.length
  | [] => rfl
  | x :: l => by
    have := hex_len l
    simp only [hex, List.flatMap_cons, List.length_append] at *
    rw [this]; simp [pair]; omega
theorem hex_take (l : List Int) (i : Nat) (hi : i < l.length) : hex (l.take (i + 1)) = hex (l.take i) ++ pair (rd l i) := by
  have e : rd l (i : Int) = l[i] := by
    unfold rd
    rw [show ((i : Int)).toNat = i by omega, List.getD_eq_getElem?_getD, List.getElem?_eq_getElem hi]; rfl
  unfold hex
  rw [e, List.take_add_one, List.getElem?_eq_getElem hi, Option.toList_some, List.flatMap_append, List.flatMap_cons, List.flatMap_nil, List.append_nil]
theorem rd_mem (l : List Int) (i : Nat) (hi : i < l.length) : rd l i ∈ l := by
  unfold rd
  rw [show ((i : Int)).toNat = i by omega, List.getD_eq_getElem?_getD, List.getElem?_eq_getElem hi]
  exact List.getElem_mem hi
theorem byte_of {x : Int} (h : (Lit.int .u8 x).wf = true) : 0 ≤ x ∧ x ≤ 255 := by
  have h' : (decide (IntKind.u8.min ≤ x) && decide (x ≤ IntKind.u8.max)) = true := h
  simp [IntKind.min, IntKind.max, IntKind.signed, IntKind.bits] at h'
  omega
theorem and15 {x : Int} (h0 : 0 ≤ x) (h1 : x ≤ 255) : 0 ≤ Go.bits .and .u8 x 15 ∧ Go.bits .and .u8 x 15 < 16 := by
  rw [u8_and15 x h0 (by omega)]
  omega
theorem spec_hex (l : List Int) (hl : l.length ≤ 1048576) (hb : ∀ x ∈ l, (Lit.int .u8 x).wf = true) : ∀ (m i : Nat), i + m = l.length → ∀ k, m < k →
    spec_l24Hex.l0 k l all (hex (l.take i)) (i : Int) = some (strOfNums (hex l))
  | 0, i, h, k + 1, _ => by
    unfold spec_l24Hex.l0
    rw [if_neg (by omega), List.take_of_length_le (by omega)]
  | m + 1, i, h, k + 1, hk => by
    have hx := byte_of (hb _ (rd_mem l i (by omega)))
    have ha := and15 hx.1 hx.2
    have hs : (all.size : Int) = 16 := rfl
    unfold spec_l24Hex.l0
    have hn : (hex (l.take i)).length + 2 < 140737488355328 := by rw [hex_len, List.length_take]; omega
    rw [if_pos (by omega), if_pos (by omega), if_pos (by omega), if_pos (by omega), if_pos ha.1, if_pos (by omega)]
    simp only [Option.bind_some]
    rw [if_pos (by simpa using hn), wrap_small (by omega) (by omega)]
    have := spec_hex l hl hb m (i + 1) (by omega) k (by omega)
    rw [hex_take l i (by omega)] at this
    rw [show ((i : Int) + 1) = ((i + 1 : Nat) : Int) by omega]
    exact this
theorem spec_hexes (l : List Int) (hl : l.length ≤ 1048576) (hb : ∀ x ∈ l, (Lit.int .u8 x).wf = true) (k : Nat) (hk : l.length < k) :
    spec_l24Hex.f k l = some (strOfNums (hex l)) := by
  unfold spec_l24Hex.f
  exact spec_hex l hl hb l.length 0 (by omega) k hk
theorem impl_hex (l : List Int) (hl : l.length ≤ 1048576) (hb : ∀ x ∈ l, (Lit.int .u8 x).wf = true) : ∀ (m i : Nat), i + m = l.length → ∀ k, m < k →
    impl_signs.l0 k (hex (l.take i)) l (l.length : Int) (i : Int) = some (strOfNums (hex l))
  | 0, i, h, k + 1, _ => by
    unfold impl_signs.l0
    rw [if_neg (by omega), List.take_of_length_le (by omega)]
  | m + 1, i, h, k + 1, hk => by
    have hx := byte_of (hb _ (rd_mem l i (by omega)))
    have ha := and15 hx.1 hx.2
    unfold impl_signs.l0
    have hn : (hex (l.take i)).length + 2 < 140737488355328 := by rw [hex_len, List.length_take]; omega
    rw [if_pos (by omega), if_pos (by omega), if_pos (by omega), if_pos (by omega), if_pos (by omega), if_pos ha.1, if_pos (by omega)]
    simp only [Option.bind_some]
    rw [if_pos (by simpa using hn), wrap_small (by omega) (by omega)]
    have := impl_hex l hl hb m (i + 1) (by omega) k (by omega)
    rw [hex_take l i (by omega)] at this
    rw [show ((i : Int) + 1) = ((i + 1 : Nat) : Int) by omega]
    exact this
theorem impl_hexes (l : List Int) (hl : l.length ≤ 1048576) (hb : ∀ x ∈ l, (Lit.int .u8 x).wf = true) (k : Nat) (hk : l.length < k) :
    impl_signs.f k l = some (strOfNums (hex l)) := by
  unfold impl_signs.f
  exact impl_hex l hl hb l.length 0 (by omega) k hk
theorem str_size (xs : List Int) : (strOfNums xs).size = xs.length := by
  simp [strOfNums, ByteArray.size]
theorem copy_loop (l : List Int) (hl : l.length ≤ 1048576) : ∀ (m i : Nat), i + m = l.length → ∀ k, m < k →
    laws_toByteS.l0 k l (l.take i ++ List.replicate m 0) (i : Int) = some l
  | 0, i, h, k + 1, _ => by
    unfold laws_toByteS.l0
    rw [if_neg (by omega)]
    simp [show i = l.length by omega]
  | m + 1, i, h, k + 1, hk => by
    unfold laws_toByteS.l0
    rw [if_pos (by omega), if_pos (by omega), if_pos (by simp; omega), wrap_small (by omega) (by omega)]
    have := copy_loop l hl m (i + 1) (by omega) k (by omega)
    rw [show ((i : Int) + 1) = ((i + 1 : Nat) : Int) by omega]
    rw [← this]
    congr 1
    rw [show ((i : Int)).toNat = i by omega]
    unfold rd
    rw [show ((i : Int)).toNat = i by omega]
    apply List.ext_getElem?
    intro j
    by_cases h1 : j < i
    · simp [List.getElem?_set, List.getElem?_append, List.getElem?_take, List.getElem?_replicate, List.length_take]
      grind
    · simp [List.getElem?_set, List.getElem?_append, List.getElem?_take, List.getElem?_replicate, List.length_take]
      grind
theorem copy (l : List Int) (hl : l.length ≤ 1048576) (k : Nat) (hk : l.length < k) : laws_toByteS.f k l = some l := by
  unfold laws_toByteS.f
  rw [if_pos (by omega), if_pos (by omega)]
  have := copy_loop l hl l.length 0 (by omega) k hk
  simpa using this
theorem eq_loop (l : List Int) (hl : l.length ≤ 1048576) : ∀ (m i : Nat), i + m = l.length → ∀ k, m < k →
    laws_eqByteS.l0 k l l (i : Int) = some true
  | 0, i, h, k + 1, _ => by
    unfold laws_eqByteS.l0
    rw [if_neg (by omega)]
  | m + 1, i, h, k + 1, hk => by
    unfold laws_eqByteS.l0
    rw [if_pos (by omega), if_pos (by omega), if_pos (by omega), if_pos rfl, wrap_small (by omega) (by omega)]
    have := eq_loop l hl m (i + 1) (by omega) k (by omega)
    rw [show ((i : Int) + 1) = ((i + 1 : Nat) : Int) by omega]
    exact this
theorem same (l : List Int) (hl : l.length ≤ 1048576) (k : Nat) (hk : l.length < k) : laws_eqByteS.f k l l = some true := by
  unfold laws_eqByteS.f
  rw [if_pos rfl]
  exact eq_loop l hl l.length 0 (by omega) k hk

theorem wrap_id {x : Int} (h0 : -9223372036854775808 ≤ x) (h1 : x ≤ 9223372036854775807) : wrap64 x = x := by
  unfold wrap64; omega
/-! decimal digits -/
def d1 (m : Nat) : ByteArray := ⟨#[UInt8.ofNat (48 + m)]⟩
def nd (m : Nat) : ByteArray := if m < 10 then d1 m else nd (m / 10) ++ d1 (m % 10)
termination_by m
decreasing_by omega
def dec (n : Int) : ByteArray := if n < 0 then (⟨#[45]⟩ : ByteArray) ++ nd n.natAbs else nd n.natAbs
theorem nd_small {m : Nat} (h : m < 10) : nd m = d1 m := by rw [nd, if_pos h]
theorem nd_big {m : Nat} (h : ¬ m < 10) : nd m = nd (m / 10) ++ d1 (m % 10) := by rw [nd, if_neg h]
theorem nd_size : ∀ (j m : Nat), m < 10 ^ (j + 1) → (nd m).size ≤ j + 1
  | 0, m, h => by
    rw [nd_small (by omega)]; exact Nat.le_refl 1
  | j + 1, m, h => by
    by_cases c : m < 10
    · rw [nd_small c]; show 1 ≤ j + 1 + 1; omega
    · rw [nd_big c, ByteArray.size_append]
      have := nd_size j (m / 10) (by rw [Nat.pow_succ] at h; omega)
      have e : (d1 (m % 10)).size = 1 := rfl
      omega
theorem dec_size (x : Int) (h0 : -9223372036854775808 ≤ x) (h1 : x ≤ 9223372036854775807) : (dec x).size ≤ 21 := by
  have h := nd_size 19 x.natAbs (by omega)
  unfold dec
  split
  · rw [ByteArray.size_append]
    have e : (⟨#[45]⟩ : ByteArray).size = 1 := rfl
    omega
  · omega
theorem sgn {m : Int} (h0 : 0 ≤ m) (h1 : m < 10) : Utf8.encode (Go.RowKit.wrap32 (wrap64 (48 + m))) = d1 m.natAbs := by
  have : m = 0 ∨ m = 1 ∨ m = 2 ∨ m = 3 ∨ m = 4 ∨ m = 5 ∨ m = 6 ∨ m = 7 ∨ m = 8 ∨ m = 9 := by omega
  rcases this with rfl | rfl | rfl | rfl | rfl | rfl | rfl | rfl | rfl | rfl <;> decide +kernel
theorem tdiv_abs (x : Int) : (Int.tdiv x 10).natAbs = x.natAbs / 10 := by
  rw [Int.natAbs_tdiv]; rfl
theorem tmod_abs (x : Int) : (Int.tmod x 10).natAbs = x.natAbs % 10 := by
  rw [Int.natAbs_tmod]; rfl
theorem tdiv_neg {x : Int} (h : x < 0) : Int.tdiv x 10 ≤ 0 := by
  have := Int.tdiv_nonneg (a := -x) (b := 10) (by omega) (by omega)
  rw [Int.neg_tdiv] at this
  omega
theorem tdiv_pos {x : Int} (h : 0 ≤ x) : 0 ≤ Int.tdiv x 10 := Int.tdiv_nonneg h (by omega)
theorem tmod_neg {x : Int} (h : x < 0) : Int.tmod x 10 ≤ 0 := by
  have := tdiv_neg h
  have e := Int.mul_tdiv_add_tmod x 10
  have a := tmod_abs x
  have b := tdiv_abs x
  omega
theorem tmod_pos {x : Int} (h : 0 ≤ x) : 0 ≤ Int.tmod x 10 := Int.tmod_nonneg _ h
theorem impl_nat : ∀ (j k : Nat) (x : Int), 0 ≤ x → x < 10 ^ (j + 1) → x ≤ 9223372036854775807 → 2 * j + 2 ≤ k → j ≤ 30 → impl_Digits.f k x = some (nd x.natAbs) := by
  intro j
  induction j with
  | zero =>
    intro k x h0 h1 h2 hk hj
    obtain ⟨k, rfl⟩ : ∃ q, k = q + 2 := ⟨k - 2, by omega⟩
    simp only [impl_Digits.f, impl_Digits.j0]
    rw [if_neg (by omega), if_neg (by decide), if_neg (by omega), if_pos (by omega), sgn h0 (by omega), nd_small (by omega)]
  | succ j ih =>
    intro k x h0 h1 h2 hk hj
    obtain ⟨k, rfl⟩ : ∃ q, k = q + 2 := ⟨k - 2, by omega⟩
    simp only [impl_Digits.f, impl_Digits.j0]
    rw [if_neg (by omega), if_neg (by decide), if_neg (by omega)]
    by_cases c : x < 10
    · rw [if_pos c, sgn h0 c, nd_small (by omega)]
    · have a := tdiv_abs x
      have p := tdiv_pos h0
      have b := tmod_abs x
      have q := tmod_pos h0
      have hx : x / 10 < 10 ^ (j + 1) := by
        rw [Int.pow_succ] at h1; omega
      have i := ih k (Int.tdiv x 10) p (by omega) (by omega) (by omega) (by omega)
      rw [if_neg c, wrap_id (by omega) (by omega), i, sgn q (by omega), a, b]
      simp only [Option.bind_some]
      have hs := nd_size 32 (x.natAbs / 10) (by omega)
      have e : (d1 (x.natAbs % 10)).size = 1 := rfl
      rw [if_pos (by omega), nd_big (m := x.natAbs) (by omega)]
theorem impl_int : ∀ (j k : Nat) (x : Int), x.natAbs < 10 ^ (j + 1) → -9223372036854775808 ≤ x → x ≤ 9223372036854775807 → 2 * j + 4 ≤ k → j ≤ 30 → impl_Digits.f k x = some (dec x) := by
  intro j
  induction j with
  | zero =>
    intro k x h1 h2 h3 hk hj
    by_cases c : x < 0
    · obtain ⟨k, rfl⟩ : ∃ q, k = q + 2 := ⟨k - 2, by omega⟩
      simp only [impl_Digits.f, impl_Digits.j0]
      rw [if_pos c, if_pos (decide_eq_true (by omega)), wrap_id (by omega) (by omega), impl_nat 0 k (-x) (by omega) (by omega) (by omega) (by omega) (by omega)]
      simp only [Option.bind_some]
      have e : (-x).natAbs = x.natAbs := by omega
      rw [e, nd_small (by omega), if_pos (by show 1 + 1 ≤ 9223372036854775807; omega)]
      unfold dec
      rw [if_pos c, nd_small (by omega)]
    · rw [impl_nat 0 k x (by omega) (by omega) h3 (by omega) (by omega)]
      unfold dec; rw [if_neg c]
  | succ j ih =>
    intro k x h1 h2 h3 hk hj
    by_cases c : x < 0
    · obtain ⟨k, rfl⟩ : ∃ q, k = q + 2 := ⟨k - 2, by omega⟩
      simp only [impl_Digits.f, impl_Digits.j0]
      rw [if_pos c]
      by_cases c2 : x > -10
      · rw [if_pos (decide_eq_true c2), wrap_id (by omega) (by omega), impl_nat 0 k (-x) (by omega) (by omega) (by omega) (by omega) (by omega)]
        simp only [Option.bind_some]
        have e : (-x).natAbs = x.natAbs := by omega
        rw [e, nd_small (by omega), if_pos (by show 1 + 1 ≤ 9223372036854775807; omega)]
        unfold dec
        rw [if_pos c, nd_small (by omega)]
      · have a := tdiv_abs x
        have b := tmod_abs x
        have p := tdiv_neg c
        have q := tmod_neg c
        have hd : dec (Int.tdiv x 10) = (⟨#[45]⟩ : ByteArray) ++ nd (x.natAbs / 10) := by
          unfold dec; rw [if_pos (by omega), a]
        have hx : x.natAbs / 10 < 10 ^ (j + 1) := by
          rw [Nat.pow_succ] at h1; omega
        rw [if_neg (by simp; omega), if_pos c, wrap_id (by omega) (by omega), ih k (Int.tdiv x 10) (by omega) (by omega) (by omega) (by omega) (by omega),
          wrap_id (by omega) (by omega), impl_nat 0 k (-(Int.tmod x 10)) (by omega) (by omega) (by omega) (by omega) (by omega), hd]
        simp only [Option.bind_some]
        have e : (-(Int.tmod x 10)).natAbs = x.natAbs % 10 := by omega
        have hs := nd_size 19 (x.natAbs / 10) (by omega)
        have e1 : (d1 (x.natAbs % 10)).size = 1 := rfl
        have e2 : (⟨#[45]⟩ : ByteArray).size = 1 := rfl
        rw [e, nd_small (m := x.natAbs % 10) (by omega), if_pos (by rw [ByteArray.size_append]; omega)]
        unfold dec
        rw [if_pos c, nd_big (m := x.natAbs) (by omega), ByteArray.append_assoc]
    · rw [impl_nat (j + 1) k x (by omega) (by have : ((10 : Int) ^ (j + 1 + 1)) = ((10 ^ (j + 1 + 1) : Nat) : Int) := by push_cast; rfl
                                              omega) h3 (by omega) (by omega)]
      unfold dec; rw [if_neg c]
theorem impl_dec (x : Int) (h0 : -9223372036854775808 ≤ x) (h1 : x ≤ 9223372036854775807) (k : Nat) (hk : 50 ≤ k) : impl_Digits.f k x = some (dec x) :=
  impl_int 19 k x (by omega) h0 h1 (by omega) (by omega)
theorem one_num (m : Nat) (h : m < 10) (v : Int) (hv : v = 48 + (m : Int)) : strOfNums [v] = d1 m := by
  subst hv
  unfold strOfNums d1
  simp only [List.map_cons, List.map_nil]
  rw [show ((48 : Int) + (m : Int)).toNat = 48 + m by omega]
theorem spec_loop : ∀ (j : Nat) (x : Int) (b : Bool) (acc : ByteArray) (k : Nat), x.natAbs < 10 ^ j → -9223372036854775808 ≤ x → x ≤ 9223372036854775807 → acc.size + j ≤ 100 → j < k →
    spec_Digits.l0 k x b acc = some ((if b = true then (⟨#[45]⟩ : ByteArray) else ByteArray.empty) ++ ((if x = 0 then ByteArray.empty else nd x.natAbs) ++ acc)) := by
  intro j
  induction j with
  | zero =>
    intro x b acc k h1 h2 h3 h4 hk
    obtain ⟨k, rfl⟩ : ∃ q, k = q + 1 := ⟨k - 1, by omega⟩
    have : x = 0 := by simp at h1; omega
    subst this
    simp only [spec_Digits.l0, if_true]
    cases b
    · simp
    · rw [if_pos rfl, if_pos (by omega)]; simp
  | succ j ih =>
    intro x b acc k h1 h2 h3 h4 hk
    obtain ⟨k, rfl⟩ : ∃ q, k = q + 1 := ⟨k - 1, by omega⟩
    simp only [spec_Digits.l0]
    by_cases c : x = 0
    · rw [if_pos c, if_pos c]
      cases b
      · simp
      · rw [if_pos rfl, if_pos (by omega)]; simp
    · rw [if_neg c, if_neg c]
      have a := tdiv_abs x
      have bb := tmod_abs x
      have hx : x.natAbs / 10 < 10 ^ j := by
        rw [Nat.pow_succ] at h1; omega
      have hsz : (d1 (x.natAbs % 10)).size = 1 := rfl
      have rc := ih (Int.tdiv x 10) b (d1 (x.natAbs % 10) ++ acc) k (by omega) (by omega) (by omega) (by rw [ByteArray.size_append]; omega) (by omega)
      have fin : (if Int.tdiv x 10 = 0 then ByteArray.empty else nd (Int.tdiv x 10).natAbs) ++ (d1 (x.natAbs % 10) ++ acc) = nd x.natAbs ++ acc := by
        by_cases z : x.natAbs < 10
        · rw [if_pos (by omega), nd_small z, show x.natAbs % 10 = x.natAbs by omega, ByteArray.empty_append]
        · rw [if_neg (by omega), nd_big z, a, ByteArray.append_assoc]
      rw [fin] at rc
      by_cases s : Int.tmod x 10 < 0
      · rw [if_pos s]
        simp only [Option.bind_some]
        rw [one_num (x.natAbs % 10) (by omega) _ (by rw [wrap_id (x := -(Int.tmod x 10)) (by omega) (by omega), wrap_id (by omega) (by omega)]; omega), if_pos (by omega), wrap_id (by omega) (by omega)]
        exact rc
      · rw [if_neg s]
        simp only [Option.bind_some]
        rw [one_num (x.natAbs % 10) (by omega) _ (by rw [wrap_id (by omega) (by omega)]; omega), if_pos (by omega), wrap_id (by omega) (by omega)]
        exact rc
theorem spec_dec (x : Int) (h0 : -9223372036854775808 ≤ x) (h1 : x ≤ 9223372036854775807) (k : Nat) (hk : 50 ≤ k) : spec_Digits.f k x = some (dec x) := by
  unfold spec_Digits.f
  by_cases c : x = 0
  · subst c
    rw [if_pos rfl]
    unfold dec
    rw [if_neg (by omega), nd_small (by decide)]
    rfl
  · rw [if_neg c, spec_loop 20 x _ _ k (by omega) h0 h1 (by decide) (by omega), if_neg c]
    unfold dec
    have e : (⟨#[]⟩ : ByteArray) = ByteArray.empty := rfl
    rw [e, ByteArray.append_empty]
    by_cases s : x < 0
    · rw [if_pos s, if_pos (decide_eq_true s)]
    · rw [if_neg s, if_neg (by simp; omega), ByteArray.empty_append]
theorem ok_eq (a b c : Int) (l : List Int) : impl_AskOk.f a b c l = spec_AskOk.f a b c l := rfl
theorem in_some (a b c : Int) : ∃ r, spec_l1In.f a b c = some r := by
  unfold spec_l1In.f; split <;> exact ⟨_, rfl⟩
theorem ok_some (a b c : Int) (l : List Int) : ∃ r, spec_AskOk.f a b c l = some r := by
  unfold spec_AskOk.f
  obtain ⟨r1, h1⟩ := in_some b 0 63
  obtain ⟨r2, h2⟩ := in_some l.length 1 16
  obtain ⟨r3, h3⟩ := in_some c 1 64
  rw [h1, h2, h3]
  simp only [Option.bind_some]
  repeat' split
  all_goals exact ⟨_, rfl⟩
theorem spaced3 (s t u : ByteArray) (h : s.size + t.size + u.size ≤ 4611686018) : impl_spaced.f [s, t, u] = some (s ++ (⟨#[32]⟩ : ByteArray) ++ t ++ (⟨#[32]⟩ : ByteArray) ++ u) := by
  unfold impl_spaced.f
  have e : Lib.join ([s, t, u].map (·.data.toList)) [32] = s.data.toList ++ ([32] ++ (t.data.toList ++ ([32] ++ u.data.toList))) := by
    simp [Lib.join, List.intercalate]
  rw [e, if_pos]
  · congr 1
    apply ByteArray.ext
    simp [ByteArray.data_append]
  · refine ⟨by simp, ?_⟩
    have h1 : s.data.toList.length = s.size := rfl
    have h2 : t.data.toList.length = t.size := rfl
    have h3 : u.data.toList.length = u.size := rfl
    simp only [List.length_append, List.length_cons, List.length_nil, h1, h2, h3]
    omega
theorem int_of {x : Int} (h : (Lit.int .i64 x).wf = true) : -9223372036854775808 ≤ x ∧ x ≤ 9223372036854775807 := by
  have h' : (decide (IntKind.i64.min ≤ x) && decide (x ≤ IntKind.i64.max)) = true := h
  simp [IntKind.min, IntKind.max, IntKind.signed, IntKind.bits] at h'
  omega
theorem texts (a b c : Int) (l : List Int) (hl : l.length ≤ 1048576) (h1 : (Lit.int .i64 b).wf = true) (h2 : (Lit.int .i64 c).wf = true) (hb : ∀ x ∈ l, (Lit.int .u8 x).wf = true) (k : Nat) (hk : l.length + 60 < k) :
    ∃ x : ByteArray, spec_AskText.f k a b c l = some x ∧ impl_AskText.f k a b c l = some x := by
  obtain ⟨r, hr⟩ := ok_some a b c l
  have db := dec_size b (int_of h1).1 (int_of h1).2
  have dc := dec_size c (int_of h2).1 (int_of h2).2
  have hs : (strOfNums (hex l)).size ≤ 2097152 := by rw [str_size, hex_len]; omega
  have sb := spec_dec b (int_of h1).1 (int_of h1).2 k (by omega)
  have sc := spec_dec c (int_of h2).1 (int_of h2).2 k (by omega)
  have ib := impl_dec b (int_of h1).1 (int_of h1).2 k (by omega)
  have ic := impl_dec c (int_of h2).1 (int_of h2).2 k (by omega)
  have sh := spec_hexes l hl hb k (by omega)
  have ih := impl_hexes l hl hb k (by omega)
  have ep : (⟨#[112, 117, 116, 32]⟩ : ByteArray) = (⟨#[112, 117, 116]⟩ : ByteArray) ++ (⟨#[32]⟩ : ByteArray) := by decide +kernel
  have eg : (⟨#[103, 101, 116, 32]⟩ : ByteArray) = (⟨#[103, 101, 116]⟩ : ByteArray) ++ (⟨#[32]⟩ : ByteArray) := by decide +kernel
  have zp : (⟨#[112, 117, 116, 32]⟩ : ByteArray).size = 4 := rfl
  have zg : (⟨#[103, 101, 116, 32]⟩ : ByteArray).size = 4 := rfl
  have zq : (⟨#[112, 117, 116]⟩ : ByteArray).size = 3 := rfl
  have zh : (⟨#[103, 101, 116]⟩ : ByteArray).size = 3 := rfl
  have zs : (⟨#[32]⟩ : ByteArray).size = 1 := rfl
  unfold spec_AskText.f impl_AskText.f
  rw [ok_eq, hr]
  simp only [Option.bind_some]
  cases r
  · exact ⟨_, rfl, rfl⟩
  · rw [if_pos rfl, if_pos rfl]
    by_cases c1 : a = 1
    · rw [if_pos c1, if_pos c1, sb, ib, sh, ih]
      simp only [Option.bind_some]
      rw [spaced3 _ _ _ (by omega), if_pos (by omega), if_pos (by rw [ByteArray.size_append]; omega), if_pos (by simp only [ByteArray.size_append]; omega), ep]
      exact ⟨_, rfl, rfl⟩
    · rw [if_neg c1, if_neg c1]
      by_cases c2 : a = 2
      · rw [if_pos c2, if_pos c2, sb, ib, sc, ic]
        simp only [Option.bind_some]
        rw [spaced3 _ _ _ (by omega), if_pos (by omega), if_pos (by rw [ByteArray.size_append]; omega), if_pos (by simp only [ByteArray.size_append]; omega), eg]
        exact ⟨_, rfl, rfl⟩
      · rw [if_neg c2, if_neg c2]
        exact ⟨_, rfl, rfl⟩
end AskText

theorem FnExactAskText (a b c : Int) (l : List Int) (hm : l.length ≤ 9223372036854775807) (h1 : (Lit.int .i64 b).wf = true) (h2 : (Lit.int .i64 c).wf = true) (hb : ∀ x ∈ l, (Lit.int .u8 x).wf = true) : laws_FnExactAskText.f (l.length + 61) a b c l = some true := by
  unfold laws_FnExactAskText.f laws_szAsk.f laws_szByteS.f
  by_cases h : l.length ≤ 1048576
  · have hw : wrap64 (1048576 - (l.length : Int)) = 1048576 - (l.length : Int) := AskText.wrap_small (by omega) (by omega)
    rw [hw, if_neg (by omega)]
    simp only [Option.bind_some]
    rw [if_neg (by omega)]
    simp only [Option.bind_some]
    rw [if_neg (by omega)]
    unfold laws_toAsk.f
    have c1 := AskText.copy l h (l.length + 61) (by omega)
    obtain ⟨x, s1, i1⟩ := AskText.texts a b c l h h1 h2 hb (l.length + 61) (by omega)
    simp only [c1, Option.bind_some, i1, s1, if_true]
    simp [laws_eqAsk.f, AskText.same l h (l.length + 61) (by omega)]
  · have hw : wrap64 (1048576 - (l.length : Int)) = 1048576 - (l.length : Int) := by unfold wrap64; omega
    rw [hw, if_pos (by omega)]
    simp

end Go.Proofs.Ytfhabnkmhofpgaa.Pure
