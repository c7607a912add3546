/- For every code: the drawn asks and answers are shown as the chapter says, by the program as by the reference: plain part of FnAskTexts. -/
import Derived.Test.YtfhabnkmhofpgaaPFnAskTextsx7
import Derived.Laws.BitsLemmas
namespace Go.Proofs.Ytfhabnkmhofpgaa.Pure
set_option linter.unusedVariables false
set_option linter.unusedSectionVars false
open Go.RowKit Go.Proofs.Ytfhabnkmhofpgaa.PFnAskTexts Go.Proofs.YtfhabnkmhofpgaaW.PrintWords Go.Proofs.YtfhabnkmhofpgaaW.PrintLast

namespace AskTexts
theorem toList_data (s : ByteArray) : s.toList = s.data.toList := ByteArray.toList_eq s
theorem wrap_small {x : Int} (h0 : 0 ≤ x) (h1 : x ≤ 4611686018427387904) : wrap64 x = x := by
  unfold wrap64; omega
/-! bytes as two signs each -/
def all : ByteArray := ⟨#[48, 49, 50, 51, 52, 53, 54, 55, 56, 57, 97, 98, 99, 100, 101, 102]⟩
def pair (x : Int) : List Int := [bt all (x / 16), bt all (Go.bits .and .u8 x 15)]
def hex (l : List Int) : List Int := l.flatMap pair
theorem hex_len : ∀ l, (hex l).length = 2 * l.length
  | [] => rfl
  | x :: l => by
    have := hex_len l
    simp only [hex, List.flatMap_cons, List.length_append] at *
    rw [this]; simp [pair]; omega
theorem hex_take (l : List Int) (i : Nat) (hi : i < l.length) : hex (l.take (i + 1)) = hex (l.take i) ++ pair (rd l i) := by
  have e : rd l (i : Int) = l[i] := by
    unfold rd
    rw [show ((i : Int)).toNat = i by omega, List.getD_eq_getElem?_getD, List.getElem?_eq_getElem hi]; rfl
  unfold hex
  rw [e, List.take_add_one, List.getElem?_eq_getElem hi, Option.toList_some, List.flatMap_append, List.flatMap_cons, List.flatMap_nil, List.append_nil]
theorem rd_mem (l : List Int) (i : Nat) (hi : i < l.length) : rd l i ∈ l := by
  unfold rd
  rw [show ((i : Int)).toNat = i by omega, List.getD_eq_getElem?_getD, List.getElem?_eq_getElem hi]
  exact List.getElem_mem hi
theorem byte_of {x : Int} (h : (Lit.int .u8 x).wf = true) : 0 ≤ x ∧ x ≤ 255 := by
  have h' : (decide (IntKind.u8.min ≤ x) && decide (x ≤ IntKind.u8.max)) = true := h
  simp [IntKind.min, IntKind.max, IntKind.signed, IntKind.bits] at h'
  omega
theorem and15 {x : Int} (h0 : 0 ≤ x) (h1 : x ≤ 255) : 0 ≤ Go.bits .and .u8 x 15 ∧ Go.bits .and .u8 x 15 < 16 := by
  rw [u8_and15 x h0 (by omega)]
  omega
theorem spec_hex (l : List Int) (hl : l.length ≤ 1048576) (hb : ∀ x ∈ l, (Lit.int .u8 x).wf = true) : ∀ (m i : Nat), i + m = l.length → ∀ k, m < k →
    spec_l24Hex.l0 k l all (hex (l.take i)) (i : Int) = some (strOfNums (hex l))
  | 0, i, h, k + 1, _ => by
    unfold spec_l24Hex.l0
    rw [if_neg (by omega), List.take_of_length_le (by omega)]
  | m + 1, i, h, k + 1, hk => by
    have hx := byte_of (hb _ (rd_mem l i (by omega)))
    have ha := and15 hx.1 hx.2
    have hs : (all.size : Int) = 16 := rfl
    unfold spec_l24Hex.l0
    have hn : (hex (l.take i)).length + 2 < 140737488355328 := by rw [hex_len, List.length_take]; omega
    rw [if_pos (by omega), if_pos (by omega), if_pos (by omega), if_pos (by omega), if_pos ha.1, if_pos (by omega)]
    simp only [Option.bind_some]
    rw [if_pos (by simpa using hn), wrap_small (by omega) (by omega)]
    have := spec_hex l hl hb m (i + 1) (by omega) k (by omega)
    rw [hex_take l i (by omega)] at this
    rw [show ((i : Int) + 1) = ((i + 1 : Nat) : Int) by omega]
    exact this
theorem spec_hexes (l : List Int) (hl : l.length ≤ 1048576) (hb : ∀ x ∈ l, (Lit.int .u8 x).wf = true) (k : Nat) (hk : l.length < k) :
    spec_l24Hex.f k l = some (strOfNums (hex l)) := by
  unfold spec_l24Hex.f
  exact spec_hex l hl hb l.length 0 (by omega) k hk
theorem impl_hex (l : List Int) (hl : l.length ≤ 1048576) (hb : ∀ x ∈ l, (Lit.int .u8 x).wf = true) : ∀ (m i : Nat), i + m = l.length → ∀ k, m < k →
    impl_signs.l0 k (hex (l.take i)) l (l.length : Int) (i : Int) = some (strOfNums (hex l))
  | 0, i, h, k + 1, _ => by
    unfold impl_signs.l0
    rw [if_neg (by omega), List.take_of_length_le (by omega)]
  | m + 1, i, h, k + 1, hk => by
    have hx := byte_of (hb _ (rd_mem l i (by omega)))
    have ha := and15 hx.1 hx.2
    unfold impl_signs.l0
    have hn : (hex (l.take i)).length + 2 < 140737488355328 := by rw [hex_len, List.length_take]; omega
    rw [if_pos (by omega), if_pos (by omega), if_pos (by omega), if_pos (by omega), if_pos (by omega), if_pos ha.1, if_pos (by omega)]
    simp only [Option.bind_some]
    rw [if_pos (by simpa using hn), wrap_small (by omega) (by omega)]
    have := impl_hex l hl hb m (i + 1) (by omega) k (by omega)
    rw [hex_take l i (by omega)] at this
    rw [show ((i : Int) + 1) = ((i + 1 : Nat) : Int) by omega]
    exact this
theorem impl_hexes (l : List Int) (hl : l.length ≤ 1048576) (hb : ∀ x ∈ l, (Lit.int .u8 x).wf = true) (k : Nat) (hk : l.length < k) :
    impl_signs.f k l = some (strOfNums (hex l)) := by
  unfold impl_signs.f
  exact impl_hex l hl hb l.length 0 (by omega) k hk
theorem str_size (xs : List Int) : (strOfNums xs).size = xs.length := by
  simp [strOfNums, ByteArray.size]
theorem wrap_id {x : Int} (h0 : -9223372036854775808 ≤ x) (h1 : x ≤ 9223372036854775807) : wrap64 x = x := by
  unfold wrap64; omega
/-! decimal digits -/
def d1 (m : Nat) : ByteArray := ⟨#[UInt8.ofNat (48 + m)]⟩
def nd (m : Nat) : ByteArray := if m < 10 then d1 m else nd (m / 10) ++ d1 (m % 10)
termination_by m
decreasing_by omega
def dec (n : Int) : ByteArray := if n < 0 then (⟨#[45]⟩ : ByteArray) ++ nd n.natAbs else nd n.natAbs
theorem nd_small {m : Nat} (h : m < 10) : nd m = d1 m := by rw [nd, if_pos h]
theorem nd_big {m : Nat} (h : ¬ m < 10) : nd m = nd (m / 10) ++ d1 (m % 10) := by rw [nd, if_neg h]
theorem nd_size : ∀ (j m : Nat), m < 10 ^ (j + 1) → (nd m).size ≤ j + 1
  | 0, m, h => by
    rw [nd_small (by omega)]; exact Nat.le_refl 1
  | j + 1, m, h => by
    by_cases c : m < 10
    · rw [nd_small c]; show 1 ≤ j + 1 + 1; omega
    · rw [nd_big c, ByteArray.size_append]
      have := nd_size j (m / 10) (by rw [Nat.pow_succ] at h; omega)
      have e : (d1 (m % 10)).size = 1 := rfl
      omega
theorem dec_size (x : Int) (h0 : -9223372036854775808 ≤ x) (h1 : x ≤ 9223372036854775807) : (dec x).size ≤ 21 := by
  have h := nd_size 19 x.natAbs (by omega)
  unfold dec
  split
  · rw [ByteArray.size_append]
    have e : (⟨#[45]⟩ : ByteArray).size = 1 := rfl
    omega
  · omega
theorem sgn {m : Int} (h0 : 0 ≤ m) (h1 : m < 10) : Utf8.encode (Go.RowKit.wrap32 (wrap64 (48 + m))) = d1 m.natAbs := by
  have : m = 0 ∨ m = 1 ∨ m = 2 ∨ m = 3 ∨ m = 4 ∨ m = 5 ∨ m = 6 ∨ m = 7 ∨ m = 8 ∨ m = 9 := by omega
  rcases this with rfl | rfl | rfl | rfl | rfl | rfl | rfl | rfl | rfl | rfl <;> decide +kernel
theorem tdiv_abs (x : Int) : (Int.tdiv x 10).natAbs = x.natAbs / 10 := by
  rw [Int.natAbs_tdiv]; rfl
theorem tmod_abs (x : Int) : (Int.tmod x 10).natAbs = x.natAbs % 10 := by
  rw [Int.natAbs_tmod]; rfl
theorem tdiv_neg {x : Int} (h : x < 0) : Int.tdiv x 10 ≤ 0 := by
  have := Int.tdiv_nonneg (a := -x) (b := 10) (by omega) (by omega)
  rw [Int.neg_tdiv] at this
  omega
theorem tdiv_pos {x : Int} (h : 0 ≤ x) : 0 ≤ Int.tdiv x 10 := Int.tdiv_nonneg h (by omega)
theorem tmod_neg {x : Int} (h : x < 0) : Int.tmod x 10 ≤ 0 := by
  have := tdiv_neg h
  have e := Int.mul_tdiv_add_tmod x 10
  have a := tmod_abs x
  have b := tdiv_abs x
  omega
theorem tmod_pos {x : Int} (h : 0 ≤ x) : 0 ≤ Int.tmod x 10 := Int.tmod_nonneg _ h
theorem impl_nat : ∀ (j k : Nat) (x : Int), 0 ≤ x → x < 10 ^ (j + 1) → x ≤ 9223372036854775807 → 2 * j + 2 ≤ k → j ≤ 30 → impl_Digits.f k x = some (nd x.natAbs) := by
  intro j
  induction j with
  | zero =>
    intro k x h0 h1 h2 hk hj
    obtain ⟨k, rfl⟩ : ∃ q, k = q + 2 := ⟨k - 2, by omega⟩
    simp only [impl_Digits.f, impl_Digits.j0]
    rw [if_neg (by omega), if_neg (by decide), if_neg (by omega), if_pos (by omega), sgn h0 (by omega), nd_small (by omega)]
  | succ j ih =>
    intro k x h0 h1 h2 hk hj
    obtain ⟨k, rfl⟩ : ∃ q, k = q + 2 := ⟨k - 2, by omega⟩
    simp only [impl_Digits.f, impl_Digits.j0]
    rw [if_neg (by omega), if_neg (by decide), if_neg (by omega)]
    by_cases c : x < 10
    · rw [if_pos c, sgn h0 c, nd_small (by omega)]
    · have a := tdiv_abs x
      have p := tdiv_pos h0
      have b := tmod_abs x
      have q := tmod_pos h0
      have hx : x / 10 < 10 ^ (j + 1) := by
        rw [Int.pow_succ] at h1; omega
      have i := ih k (Int.tdiv x 10) p (by omega) (by omega) (by omega) (by omega)
      rw [if_neg c, wrap_id (by omega) (by omega), i, sgn q (by omega), a, b]
      simp only [Option.bind_some]
      have hs := nd_size 32 (x.natAbs / 10) (by omega)
      have e : (d1 (x.natAbs % 10)).size = 1 := rfl
      rw [if_pos (by omega), nd_big (m := x.natAbs) (by omega)]
theorem impl_int : ∀ (j k : Nat) (x : Int), x.natAbs < 10 ^ (j + 1) → -9223372036854775808 ≤ x → x ≤ 9223372036854775807 → 2 * j + 4 ≤ k → j ≤ 30 → impl_Digits.f k x = some (dec x) := by
  intro j
  induction j with
  | zero =>
    intro k x h1 h2 h3 hk hj
    by_cases c : x < 0
    · obtain ⟨k, rfl⟩ : ∃ q, k = q + 2 := ⟨k - 2, by omega⟩
      simp only [impl_Digits.f, impl_Digits.j0]
      rw [if_pos c, if_pos (decide_eq_true (by omega)), wrap_id (by omega) (by omega), impl_nat 0 k (-x) (by omega) (by omega) (by omega) (by omega) (by omega)]
      simp only [Option.bind_some]
      have e : (-x).natAbs = x.natAbs := by omega
      rw [e, nd_small (by omega), if_pos (by show 1 + 1 ≤ 9223372036854775807; omega)]
      unfold dec
      rw [if_pos c, nd_small (by omega)]
    · rw [impl_nat 0 k x (by omega) (by omega) h3 (by omega) (by omega)]
      unfold dec; rw [if_neg c]
  | succ j ih =>
    intro k x h1 h2 h3 hk hj
    by_cases c : x < 0
    · obtain ⟨k, rfl⟩ : ∃ q, k = q + 2 := ⟨k - 2, by omega⟩
      simp only [impl_Digits.f, impl_Digits.j0]
      rw [if_pos c]
      by_cases c2 : x > -10
      · rw [if_pos (decide_eq_true c2), wrap_id (by omega) (by omega), impl_nat 0 k (-x) (by omega) (by omega) (by omega) (by omega) (by omega)]
        simp only [Option.bind_some]
        have e : (-x).natAbs = x.natAbs := by omega
        rw [e, nd_small (by omega), if_pos (by show 1 + 1 ≤ 9223372036854775807; omega)]
        unfold dec
        rw [if_pos c, nd_small (by omega)]
      · have a := tdiv_abs x
        have b := tmod_abs x
        have p := tdiv_neg c
        have q := tmod_neg c
        have hd : dec (Int.tdiv x 10) = (⟨#[45]⟩ : ByteArray) ++ nd (x.natAbs / 10) := by
          unfold dec; rw [if_pos (by omega), a]
        have hx : x.natAbs / 10 < 10 ^ (j + 1) := by
          rw [Nat.pow_succ] at h1; omega
        rw [if_neg (by simp; omega), if_pos c, wrap_id (by omega) (by omega), ih k (Int.tdiv x 10) (by omega) (by omega) (by omega) (by omega) (by omega),
          wrap_id (by omega) (by omega), impl_nat 0 k (-(Int.tmod x 10)) (by omega) (by omega) (by omega) (by omega) (by omega), hd]
        simp only [Option.bind_some]
        have e : (-(Int.tmod x 10)).natAbs = x.natAbs % 10 := by omega
        have hs := nd_size 19 (x.natAbs / 10) (by omega)
        have e1 : (d1 (x.natAbs % 10)).size = 1 := rfl
        have e2 : (⟨#[45]⟩ : ByteArray).size = 1 := rfl
        rw [e, nd_small (m := x.natAbs % 10) (by omega), if_pos (by rw [ByteArray.size_append]; omega)]
        unfold dec
        rw [if_pos c, nd_big (m := x.natAbs) (by omega), ByteArray.append_assoc]
    · rw [impl_nat (j + 1) k x (by omega) (by have : ((10 : Int) ^ (j + 1 + 1)) = ((10 ^ (j + 1 + 1) : Nat) : Int) := by push_cast; rfl
                                              omega) h3 (by omega) (by omega)]
      unfold dec; rw [if_neg c]
theorem impl_dec (x : Int) (h0 : -9223372036854775808 ≤ x) (h1 : x ≤ 9223372036854775807) (k : Nat) (hk : 50 ≤ k) : impl_Digits.f k x = some (dec x) :=
  impl_int 19 k x (by omega) h0 h1 (by omega) (by omega)
theorem one_num (m : Nat) (h : m < 10) (v : Int) (hv : v = 48 + (m : Int)) : strOfNums [v] = d1 m := by
  subst hv
  unfold strOfNums d1
  simp only [List.map_cons, List.map_nil]
  rw [show ((48 : Int) + (m : Int)).toNat = 48 + m by omega]
theorem spec_loop : ∀ (j : Nat) (x : Int) (b : Bool) (acc : ByteArray) (k : Nat), x.natAbs < 10 ^ j → -9223372036854775808 ≤ x → x ≤ 9223372036854775807 → acc.size + j ≤ 100 → j < k →
    spec_Digits.l0 k x b acc = some ((if b = true then (⟨#[45]⟩ : ByteArray) else ByteArray.empty) ++ ((if x = 0 then ByteArray.empty else nd x.natAbs) ++ acc)) := by
  intro j
  induction j with
  | zero =>
    intro x b acc k h1 h2 h3 h4 hk
    obtain ⟨k, rfl⟩ : ∃ q, k = q + 1 := ⟨k - 1, by omega⟩
    have : x = 0 := by simp at h1; omega
    subst this
    simp only [spec_Digits.l0, if_true]
    cases b
    · simp
    · rw [if_pos rfl, if_pos (by omega)]; simp
  | succ j ih =>
    intro x b acc k h1 h2 h3 h4 hk
    obtain ⟨k, rfl⟩ : ∃ q, k = q + 1 := ⟨k - 1, by omega⟩
    simp only [spec_Digits.l0]
    by_cases c : x = 0
    · rw [if_pos c, if_pos c]
      cases b
      · simp
      · rw [if_pos rfl, if_pos (by omega)]; simp
    · rw [if_neg c, if_neg c]
      have a := tdiv_abs x
      have bb := tmod_abs x
      have hx : x.natAbs / 10 < 10 ^ j := by
        rw [Nat.pow_succ] at h1; omega
      have hsz : (d1 (x.natAbs % 10)).size = 1 := rfl
      have rc := ih (Int.tdiv x 10) b (d1 (x.natAbs % 10) ++ acc) k (by omega) (by omega) (by omega) (by rw [ByteArray.size_append]; omega) (by omega)
      have fin : (if Int.tdiv x 10 = 0 then ByteArray.empty else nd (Int.tdiv x 10).natAbs) ++ (d1 (x.natAbs % 10) ++ acc) = nd x.natAbs ++ acc := by
        by_cases z : x.natAbs < 10
        · rw [if_pos (by omega), nd_small z, show x.natAbs % 10 = x.natAbs by omega, ByteArray.empty_append]
        · rw [if_neg (by omega), nd_big z, a, ByteArray.append_assoc]
      rw [fin] at rc
      by_cases s : Int.tmod x 10 < 0
      · rw [if_pos s]
        simp only [Option.bind_some]
        rw [one_num (x.natAbs % 10) (by omega) _ (by rw [wrap_id (x := -(Int.tmod x 10)) (by omega) (by omega), wrap_id (by omega) (by omega)]; omega), if_pos (by omega), wrap_id (by omega) (by omega)]
        exact rc
      · rw [if_neg s]
        simp only [Option.bind_some]
        rw [one_num (x.natAbs % 10) (by omega) _ (by rw [wrap_id (by omega) (by omega)]; omega), if_pos (by omega), wrap_id (by omega) (by omega)]
        exact rc
theorem spec_dec (x : Int) (h0 : -9223372036854775808 ≤ x) (h1 : x ≤ 9223372036854775807) (k : Nat) (hk : 50 ≤ k) : spec_Digits.f k x = some (dec x) := by
  unfold spec_Digits.f
  by_cases c : x = 0
  · subst c
    rw [if_pos rfl]
    unfold dec
    rw [if_neg (by omega), nd_small (by decide)]
    rfl
  · rw [if_neg c, spec_loop 20 x _ _ k (by omega) h0 h1 (by decide) (by omega), if_neg c]
    unfold dec
    have e : (⟨#[]⟩ : ByteArray) = ByteArray.empty := rfl
    rw [e, ByteArray.append_empty]
    by_cases s : x < 0
    · rw [if_pos s, if_pos (decide_eq_true s)]
    · rw [if_neg s, if_neg (by simp; omega), ByteArray.empty_append]
theorem ok_eq (a b c : Int) (l : List Int) : impl_AskOk.f a b c l = spec_AskOk.f a b c l := rfl
theorem in_some (a b c : Int) : ∃ r, spec_l1In.f a b c = some r := by
  unfold spec_l1In.f; split <;> exact ⟨_, rfl⟩
theorem ok_some (a b c : Int) (l : List Int) : ∃ r, spec_AskOk.f a b c l = some r := by
  unfold spec_AskOk.f
  obtain ⟨r1, h1⟩ := in_some b 0 63
  obtain ⟨r2, h2⟩ := in_some l.length 1 16
  obtain ⟨r3, h3⟩ := in_some c 1 64
  rw [h1, h2, h3]
  simp only [Option.bind_some]
  repeat' split
  all_goals exact ⟨_, rfl⟩
theorem spaced2 (s t : ByteArray) (h : s.size + t.size ≤ 4611686018) : impl_spaced.f [s, t] = some (s ++ (⟨#[32]⟩ : ByteArray) ++ t) := by
  unfold impl_spaced.f
  have e : Lib.join ([s, t].map (·.data.toList)) [32] = s.data.toList ++ ([32] ++ t.data.toList) := by
    simp [Lib.join, List.intercalate]
  rw [e, if_pos]
  · congr 1
    apply ByteArray.ext
    simp [ByteArray.data_append]
  · refine ⟨by simp, ?_⟩
    have h1 : s.data.toList.length = s.size := rfl
    have h2 : t.data.toList.length = t.size := rfl
    simp only [List.length_append, List.length_cons, List.length_nil, h1, h2]
    omega
def name (c : Int) : ByteArray :=
  if c = 0 then ⟨#[100, 111, 110, 101]⟩ else if c = 1 then ⟨#[98, 97, 100]⟩ else if c = 2 then ⟨#[110, 111, 110, 101]⟩ else if c = 3 then ⟨#[105, 100, 108, 101]⟩ else if c = 4 then ⟨#[102, 117, 108, 108]⟩ else ⟨#[119, 104, 97, 116]⟩
theorem name_size (c : Int) : (name c).size ≤ 4 := by
  unfold name
  repeat' split
  all_goals decide
def full (c : Int) (l : List Int) : ByteArray := if 0 < l.length then name c ++ (⟨#[32]⟩ : ByteArray) ++ strOfNums (hex l) else name c
section
variable (c : Int) (l : List Int) (hl : l.length ≤ 1048576) (hb : ∀ x ∈ l, (Lit.int .u8 x).wf = true)
include hl hb
theorem impl_tail (k : Nat) (hk : l.length < k) : impl_AnswerText.j0 (k + 1) (name c) c l = some (full c l) := by
  simp only [impl_AnswerText.j0]
  unfold full
  by_cases h : 0 < l.length
  · rw [if_pos (by omega), if_pos h, impl_hexes l hl hb k hk]
    simp only [Option.bind_some]
    have := name_size c
    rw [spaced2 _ _ (by rw [str_size, hex_len]; omega)]
    rfl
  · rw [if_neg (by omega), if_neg h]
theorem impl_text (k : Nat) (hk : l.length < k) : impl_AnswerText.f (k + 1) c l = some (full c l) := by
  have h := impl_tail c l hl hb k hk
  unfold impl_AnswerText.f
  unfold name at h
  by_cases c0 : c = 0
  · subst c0; simpa using h
  by_cases c1 : c = 1
  · subst c1; simpa [impl_codeText.f] using h
  by_cases c2 : c = 2
  · subst c2; simpa [impl_codeText.f] using h
  by_cases c3 : c = 3
  · subst c3; simpa [impl_codeText.f] using h
  by_cases c4 : c = 4
  · subst c4; simpa [impl_codeText.f] using h
  simpa [c0, c1, c2, c3, c4] using h
theorem spec_text (k : Nat) (hk : l.length < k) : spec_AnswerText.f k c l = some (full c l) := by
  have hx := spec_hexes l hl hb k hk
  have hs : (strOfNums (hex l)).size ≤ 4194304 := by rw [str_size, hex_len]; omega
  unfold spec_AnswerText.f full
  simp only [Option.bind_some, spec_l1In.f]
  have hw : wrap64 (((([(⟨#[100, 111, 110, 101]⟩ : ByteArray), (⟨#[98, 97, 100]⟩ : ByteArray), (⟨#[110, 111, 110, 101]⟩ : ByteArray), (⟨#[105, 100, 108, 101]⟩ : ByteArray), (⟨#[102, 117, 108, 108]⟩ : ByteArray), (⟨#[119, 104, 97, 116]⟩ : ByteArray)] : List ByteArray).length : Nat) : Int) - 1) = 5 := (wrap_small (x := 5) (by decide) (by decide) : wrap64 5 = 5)
  rw [hw]
  have key : ∀ (i : Int), 0 ≤ i → i ≤ 5 → name i = rdOf ByteArray.empty [(⟨#[100, 111, 110, 101]⟩ : ByteArray), (⟨#[98, 97, 100]⟩ : ByteArray), (⟨#[110, 111, 110, 101]⟩ : ByteArray), (⟨#[105, 100, 108, 101]⟩ : ByteArray), (⟨#[102, 117, 108, 108]⟩ : ByteArray), (⟨#[119, 104, 97, 116]⟩ : ByteArray)] i := by
    intro i h0 h1
    have : i = 0 ∨ i = 1 ∨ i = 2 ∨ i = 3 ∨ i = 4 ∨ i = 5 := by omega
    rcases this with rfl | rfl | rfl | rfl | rfl | rfl <;> rfl
  have len6 : (([(⟨#[100, 111, 110, 101]⟩ : ByteArray), (⟨#[98, 97, 100]⟩ : ByteArray), (⟨#[110, 111, 110, 101]⟩ : ByteArray), (⟨#[105, 100, 108, 101]⟩ : ByteArray), (⟨#[102, 117, 108, 108]⟩ : ByteArray), (⟨#[119, 104, 97, 116]⟩ : ByteArray)] : List ByteArray).length : Int) = 6 := rfl
  have sz1 : ∀ s : ByteArray, (s ++ (⟨#[32]⟩ : ByteArray)).size = s.size + 1 := fun s => by rw [ByteArray.size_append]; rfl
  generalize hy : [(⟨#[100, 111, 110, 101]⟩ : ByteArray), (⟨#[98, 97, 100]⟩ : ByteArray), (⟨#[110, 111, 110, 101]⟩ : ByteArray), (⟨#[105, 100, 108, 101]⟩ : ByteArray), (⟨#[102, 117, 108, 108]⟩ : ByteArray), (⟨#[119, 104, 97, 116]⟩ : ByteArray)] = y at *
  by_cases hr : 0 ≤ c ∧ c ≤ 5
  · rw [if_pos (show c ≥ 0 from hr.1)]
    simp only [Option.bind_some, decide_eq_true_eq]
    rw [if_pos hr.2]
    have hn := name_size c
    rw [key c hr.1 hr.2] at hn ⊢
    by_cases h : 0 < l.length
    · rw [if_pos (by omega), if_pos hr.1, if_pos (by omega), if_pos (by omega), hx, if_pos h]
      simp only [Option.bind_some]
      rw [if_pos (by rw [sz1]; omega)]
    · rw [if_neg (by omega), if_pos hr.1, if_pos (by omega), if_neg h]
  · have e5 : name c = name 5 := by
      unfold name
      rw [if_neg (by omega), if_neg (by omega), if_neg (by omega), if_neg (by omega), if_neg (by omega)]
      rfl
    have e : ((if c ≥ 0 then (some (decide (c ≤ 5))) else (some false)) : Option Bool) = some false := by
      split
      · congr 1; simp; omega
      · rfl
    rw [e, e5, key 5 (by decide) (by decide)]
    have hn := name_size 5
    rw [key 5 (by decide) (by decide)] at hn
    simp only [Option.bind_some, Bool.false_eq_true, if_false]
    by_cases h : 0 < l.length
    · rw [if_pos (by omega), if_pos (by decide), if_pos (by omega), if_pos (by omega), hx, if_pos h]
      simp only [Option.bind_some]
      rw [if_pos (by rw [sz1]; omega)]
    · rw [if_neg (by omega), if_pos (by decide), if_pos (by omega), if_neg h]
end
theorem spaced3 (s t u : ByteArray) (h : s.size + t.size + u.size ≤ 4611686018) : impl_spaced.f [s, t, u] = some (s ++ (⟨#[32]⟩ : ByteArray) ++ t ++ (⟨#[32]⟩ : ByteArray) ++ u) := by
  unfold impl_spaced.f
  have e : Lib.join ([s, t, u].map (·.data.toList)) [32] = s.data.toList ++ ([32] ++ (t.data.toList ++ ([32] ++ u.data.toList))) := by
    simp [Lib.join, List.intercalate]
  rw [e, if_pos]
  · congr 1
    apply ByteArray.ext
    simp [ByteArray.data_append]
  · refine ⟨by simp, ?_⟩
    have h1 : s.data.toList.length = s.size := rfl
    have h2 : t.data.toList.length = t.size := rfl
    have h3 : u.data.toList.length = u.size := rfl
    simp only [List.length_append, List.length_cons, List.length_nil, h1, h2, h3]
    omega
theorem int_of {x : Int} (h : (Lit.int .i64 x).wf = true) : -9223372036854775808 ≤ x ∧ x ≤ 9223372036854775807 := by
  have h' : (decide (IntKind.i64.min ≤ x) && decide (x ≤ IntKind.i64.max)) = true := h
  simp [IntKind.min, IntKind.max, IntKind.signed, IntKind.bits] at h'
  omega
theorem texts (a b c : Int) (l : List Int) (hl : l.length ≤ 1048576) (h1 : (Lit.int .i64 b).wf = true) (h2 : (Lit.int .i64 c).wf = true) (hb : ∀ x ∈ l, (Lit.int .u8 x).wf = true) (k : Nat) (hk : l.length + 60 < k) :
    ∃ (x : ByteArray) (r : Bool), spec_AskText.f k a b c l = some x ∧ impl_AskText.f k a b c l = some x ∧ impl_AskOk.f a b c l = some r ∧ (x.toList == ([110, 111, 110, 101] : List UInt8)) = !r := by
  obtain ⟨r, hr⟩ := ok_some a b c l
  have hi : impl_AskOk.f a b c l = some r := hr
  have hd : ∀ (s t : ByteArray) (u : UInt8) (us : List UInt8), s.data.toList = u :: us → u ≠ 110 → ((s ++ t).toList == ([110, 111, 110, 101] : List UInt8)) = false := by
    intro s t u us h hu
    rw [toList_data, ByteArray.data_append, Array.toList_append, h]
    simp [hu]
  have db := dec_size b (int_of h1).1 (int_of h1).2
  have dc := dec_size c (int_of h2).1 (int_of h2).2
  have hs : (strOfNums (hex l)).size ≤ 2097152 := by rw [str_size, hex_len]; omega
  have sb := spec_dec b (int_of h1).1 (int_of h1).2 k (by omega)
  have sc := spec_dec c (int_of h2).1 (int_of h2).2 k (by omega)
  have ib := impl_dec b (int_of h1).1 (int_of h1).2 k (by omega)
  have ic := impl_dec c (int_of h2).1 (int_of h2).2 k (by omega)
  have sh := spec_hexes l hl hb k (by omega)
  have ih := impl_hexes l hl hb k (by omega)
  have ep : (⟨#[112, 117, 116, 32]⟩ : ByteArray) = (⟨#[112, 117, 116]⟩ : ByteArray) ++ (⟨#[32]⟩ : ByteArray) := by decide +kernel
  have eg : (⟨#[103, 101, 116, 32]⟩ : ByteArray) = (⟨#[103, 101, 116]⟩ : ByteArray) ++ (⟨#[32]⟩ : ByteArray) := by decide +kernel
  have zp : (⟨#[112, 117, 116, 32]⟩ : ByteArray).size = 4 := rfl
  have zg : (⟨#[103, 101, 116, 32]⟩ : ByteArray).size = 4 := rfl
  have zq : (⟨#[112, 117, 116]⟩ : ByteArray).size = 3 := rfl
  have zh : (⟨#[103, 101, 116]⟩ : ByteArray).size = 3 := rfl
  have zs : (⟨#[32]⟩ : ByteArray).size = 1 := rfl
  unfold spec_AskText.f impl_AskText.f
  rw [ok_eq, hr]
  simp only [Option.bind_some]
  cases r
  · refine ⟨_, _, rfl, rfl, rfl, ?_⟩
    rw [toList_data]; rfl
  · rw [if_pos rfl, if_pos rfl]
    by_cases c1 : a = 1
    · rw [if_pos c1, if_pos c1, sb, ib, sh, ih]
      simp only [Option.bind_some]
      rw [spaced3 _ _ _ (by omega), if_pos (by omega), if_pos (by rw [ByteArray.size_append]; omega), if_pos (by simp only [ByteArray.size_append]; omega), ep]
      refine ⟨_, _, rfl, rfl, rfl, ?_⟩
      rw [ByteArray.append_assoc, ByteArray.append_assoc, ByteArray.append_assoc]
      exact hd _ _ 112 _ rfl (by decide)
    · rw [if_neg c1, if_neg c1]
      by_cases c2 : a = 2
      · rw [if_pos c2, if_pos c2, sb, ib, sc, ic]
        simp only [Option.bind_some]
        rw [spaced3 _ _ _ (by omega), if_pos (by omega), if_pos (by rw [ByteArray.size_append]; omega), if_pos (by simp only [ByteArray.size_append]; omega), eg]
        refine ⟨_, _, rfl, rfl, rfl, ?_⟩
        rw [ByteArray.append_assoc, ByteArray.append_assoc, ByteArray.append_assoc]
        exact hd _ _ 103 _ rfl (by decide)
      · rw [if_neg c2, if_neg c2]
        refine ⟨_, _, rfl, rfl, rfl, ?_⟩
        rw [toList_data]; rfl
theorem band (x : Int) (c : Nat) (hc : c < 2^62) : 0 ≤ Go.bits .and .i64 x c ∧ Go.bits .and .i64 x c ≤ c := by
  have h1 : (c % 2 ^ IntKind.i64.bits) = c := Nat.mod_eq_of_lt (by simp [IntKind.bits]; omega)
  have h2 : (BitVec.ofInt IntKind.i64.bits x &&& BitVec.ofInt IntKind.i64.bits (c:Int)).toNat ≤ c := by
    rw [BitVec.toNat_and, BitVec.ofInt_natCast, BitVec.toNat_ofNat, h1]
    exact Nat.and_le_right
  unfold bits
  simp only []
  generalize (BitVec.ofInt IntKind.i64.bits x &&& BitVec.ofInt IntKind.i64.bits (c:Int)).toNat = n at *
  rw [IntKind.wrap_i64]
  omega
theorem w64 {x : Int} (h0 : 0 ≤ x) (h1 : x ≤ 9223372036854775806) : wrap64 (x + 1) = x + 1 := by
  unfold wrap64; omega

/-- The reader of draws: a byte, the place then. -/
theorem byte_some (b : List Int) (i h : Int) (h0 : 0 ≤ i) (hl : b.length ≤ 140737488351232) (hi : i ≤ b.length) :
    ∃ r i' h', spec_l1Byte.f b i h = some (r, i', h') ∧ 0 ≤ r ∧ r ≤ 255 ∧ 0 ≤ i' ∧ i' ≤ b.length := by
  unfold spec_l1Byte.f
  by_cases hlt : i < (b.length : Int)
  · rw [if_pos hlt, if_pos h0]
    refine ⟨_, _, _, rfl, (band _ 255 (by decide)).1, (band _ 255 (by decide)).2, ?_, ?_⟩ <;> rw [w64 h0 (by omega)] <;> omega
  · rw [if_neg hlt]
    exact ⟨_, _, _, rfl, (band _ 255 (by decide)).1, (band _ 255 (by decide)).2, h0, hi⟩
theorem below_some (b : List Int) (i h n : Int) (hn : 0 < n) (hn2 : n ≤ 256) (h0 : 0 ≤ i) (hl : b.length ≤ 140737488351232) (hi : i ≤ b.length) :
    ∃ r i' h', spec_l1Below.f b i h n = some (r, i', h') ∧ 0 ≤ r ∧ r < n ∧ 0 ≤ i' ∧ i' ≤ b.length := by
  unfold spec_l1Below.f
  rw [if_neg (by omega), if_pos hn2]
  obtain ⟨r, i', h', e, r0, r1, i0, i1⟩ := byte_some b i h h0 hl hi
  rw [e]
  simp only [Option.bind_some]
  rw [if_neg (by omega)]
  refine ⟨_, _, _, rfl, ?_, ?_, i0, i1⟩
  · rw [Int.tmod_eq_emod_of_nonneg r0]; exact Int.emod_nonneg _ (by omega)
  · rw [Int.tmod_eq_emod_of_nonneg r0]; exact Int.emod_lt_of_pos _ hn
theorem pick_some (b : List Int) (i h : Int) (l : List Int) (hn : 0 < l.length) (hn2 : l.length ≤ 256) (h0 : 0 ≤ i) (hl : b.length ≤ 140737488351232) (hi : i ≤ b.length) :
    ∃ r i' h', spec_l1PickInt.f b i h l = some (r, i', h') ∧ r ∈ l ∧ 0 ≤ i' ∧ i' ≤ b.length := by
  unfold spec_l1PickInt.f
  obtain ⟨r, i', h', e, r0, r1, i0, i1⟩ := below_some b i h (l.length : Int) (by omega) (by omega) h0 hl hi
  rw [e]
  simp only [Option.bind_some]
  rw [if_pos r0, if_pos r1]
  refine ⟨_, _, _, rfl, ?_, i0, i1⟩
  unfold rd
  have : r.toNat < l.length := by omega
  rw [List.getD_eq_getElem?_getD, List.getElem?_eq_getElem this]
  exact List.getElem_mem this
theorem new_some (b : List Int) (hl : b.length ≤ 140737488351232) (d : Nat) : ∀ (k : Nat) (h i : Int), 0 ≤ i → 4000 - i ≤ d → d < k →
    ∃ h', spec_l1New.l0 k b h i = some (b, 0, h') := by
  induction d with
  | zero =>
    intro k h i h0 hd hk
    obtain ⟨k, rfl⟩ : ∃ m, k = m + 1 := ⟨k - 1, by omega⟩
    simp only [spec_l1New.l0]
    by_cases c : i < (b.length : Int)
    · rw [if_pos c, if_neg (by omega)]; exact ⟨_, rfl⟩
    · rw [if_neg c]; exact ⟨_, rfl⟩
  | succ d ih =>
    intro k h i h0 hd hk
    obtain ⟨k, rfl⟩ : ∃ m, k = m + 1 := ⟨k - 1, by omega⟩
    simp only [spec_l1New.l0]
    by_cases c : i < (b.length : Int)
    · by_cases c2 : i < 4000
      · rw [if_pos c, if_pos c2, if_pos h0, w64 h0 (by omega)]
        exact ih k _ _ (by omega) (by omega) (by omega)
      · rw [if_pos c, if_neg c2]; exact ⟨_, rfl⟩
    · rw [if_neg c]; exact ⟨_, rfl⟩
theorem wf64 {x : Int} (h0 : -1000 ≤ x) (h1 : x ≤ 1000) : (Lit.int .i64 x).wf = true := by
  show (decide (IntKind.i64.min ≤ x) && decide (x ≤ IntKind.i64.max)) = true
  simp [IntKind.min, IntKind.max, IntKind.signed, IntKind.bits]; omega
theorem wf8 {x : Int} (h0 : 0 ≤ x) (h1 : x ≤ 255) : (Lit.int .u8 x).wf = true := by
  show (decide (IntKind.u8.min ≤ x) && decide (x ≤ IntKind.u8.max)) = true
  simp [IntKind.min, IntKind.max, IntKind.signed, IntKind.bits]; omega
theorem data_loop (b : List Int) (hl : b.length ≤ 140737488351232) : ∀ (d k : Nat) (acc : List Int) (m j i h : Int), 0 ≤ j → m - j ≤ d → d < k → acc.length + d ≤ 100 → m ≤ 50 → (∀ x ∈ acc, (Lit.int .u8 x).wf = true) → 0 ≤ i → i ≤ b.length →
    ∃ r i' h', spec_l17DrawData.l0 k acc m j b i h = some (r, i', h') ∧ r.length ≤ acc.length + d ∧ (∀ x ∈ r, (Lit.int .u8 x).wf = true) ∧ 0 ≤ i' ∧ i' ≤ b.length
  | 0, k, acc, m, j, i, h, h0, hd, hk, ha, hm, hb, hi0, hi1 => by
    obtain ⟨k, rfl⟩ : ∃ q, k = q + 1 := ⟨k - 1, by omega⟩
    simp only [spec_l17DrawData.l0]
    rw [if_neg (by omega)]
    exact ⟨_, _, _, rfl, by omega, hb, hi0, hi1⟩
  | d + 1, k, acc, m, j, i, h, h0, hd, hk, ha, hm, hb, hi0, hi1 => by
    obtain ⟨k, rfl⟩ : ∃ q, k = q + 1 := ⟨k - 1, by omega⟩
    simp only [spec_l17DrawData.l0]
    by_cases c : j < m
    · rw [if_pos c]
      obtain ⟨r, i1, h1, e, r0, r1, i2, i3⟩ := below_some b i h 26 (by decide) (by decide) hi0 hl hi1
      rw [e]
      simp only [Option.bind_some]
      rw [if_pos (by omega), wrap_small (x := j + 1) (by omega) (by omega), wrap_small (x := 97 + r) (by omega) (by omega)]
      obtain ⟨q, i4, h4, e4, q1, q2, q3, q4⟩ := data_loop b hl d k (acc ++ [(97 + r) % 256]) m (j + 1) i1 h1 (by omega) (by omega) (by omega) (by rw [List.length_append]; simp; omega) hm (by
        intro x hx
        rcases List.mem_append.1 hx with hx | hx
        · exact hb x hx
        · rw [List.mem_singleton.1 hx]; exact wf8 (by omega) (by omega)) i2 i3
      refine ⟨q, i4, h4, e4, ?_, q2, q3, q4⟩
      rw [List.length_append] at q1; simp at q1; omega
    · rw [if_neg c]
      exact ⟨_, _, _, rfl, by omega, hb, hi0, hi1⟩
theorem data_some (b : List Int) (hl : b.length ≤ 140737488351232) (n : Int) (h0 : 0 ≤ n) (h1 : n ≤ 40) (k : Nat) (hk : 50 < k) (i h : Int) (hi0 : 0 ≤ i) (hi1 : i ≤ b.length) :
    ∃ r i' h', spec_l17DrawData.f k b i h n = some (r, i', h') ∧ r.length ≤ 50 ∧ (∀ x ∈ r, (Lit.int .u8 x).wf = true) ∧ 0 ≤ i' ∧ i' ≤ b.length := by
  unfold spec_l17DrawData.f
  rw [wrap_small (x := n + 1) (by omega) (by omega)]
  obtain ⟨m, i1, h1', e, r0, r1, i2, i3⟩ := below_some b i h (n + 1) (by omega) (by omega) hi0 hl hi1
  rw [e]
  simp only [Option.bind_some]
  obtain ⟨q, i4, h4, e4, q1, q2, q3, q4⟩ := data_loop b hl 50 k [] m 0 i1 h1' (by omega) (by omega) hk (by simp) (by omega) (by simp) i2 i3
  exact ⟨q, i4, h4, e4, by simpa using q1, q2, q3, q4⟩
theorem ask_tail (s : List Int) (hl : s.length ≤ 140737488351232) (k : Nat) (i h a b c : Int) (d : List Int) (hi0 : 0 ≤ i) (hi1 : i ≤ s.length) (hb0 : -1 ≤ b) (hb1 : b ≤ 64) (hc0 : -1 ≤ c) (hc1 : c ≤ 65) (hd : d.length ≤ 60) (hw : ∀ x ∈ d, (Lit.int .u8 x).wf = true) :
    ∃ a' b' c' d' i' h', spec_l24DrawAsk.j0 (k + 1) s i h a b c d = some (a', b', c', d', i', h') ∧ -1 ≤ b' ∧ b' ≤ 64 ∧ -1 ≤ c' ∧ c' ≤ 65 ∧ d'.length ≤ 61 ∧ (∀ x ∈ d', (Lit.int .u8 x).wf = true) := by
  simp only [spec_l24DrawAsk.j0]
  obtain ⟨r, i1, h1, e, r0, r1, i2, i3⟩ := below_some s i h 16 (by decide) (by decide) hi0 hl hi1
  rw [e]
  simp only [Option.bind_some]
  split
  · obtain ⟨q, i4, h4, e4, _, _, _, _⟩ := below_some s i1 h1 6 (by decide) (by decide) i2 hl i3
    rw [e4]
    exact ⟨_, _, _, _, _, _, rfl, hb0, hb1, hc0, hc1, by omega, hw⟩
  · split
    · obtain ⟨q, i4, h4, e4, hq, _, _⟩ := pick_some s i1 h1 [(-1), 63, 64] (by decide) (by decide) i2 hl i3
      rw [e4]
      simp at hq
      exact ⟨_, _, _, _, _, _, rfl, by omega, by omega, hc0, hc1, by omega, hw⟩
    · split
      · obtain ⟨q, i4, h4, e4, hq, _, _⟩ := pick_some s i1 h1 [(-1), 0, 64, 65] (by decide) (by decide) i2 hl i3
        rw [e4]
        simp at hq
        exact ⟨_, _, _, _, _, _, rfl, hb0, hb1, by omega, by omega, by omega, hw⟩
      · split
        · rw [if_pos (by omega)]
          refine ⟨_, _, _, _, _, _, rfl, hb0, hb1, hc0, hc1, by rw [List.length_append]; simp; omega, ?_⟩
          intro x hx
          rcases List.mem_append.1 hx with hx | hx
          · exact hw x hx
          · rw [List.mem_singleton.1 hx]; exact wf8 (by decide) (by decide)
        · exact ⟨_, _, _, _, _, _, rfl, hb0, hb1, hc0, hc1, by omega, hw⟩
theorem ask_draw (s : List Int) (hl : s.length ≤ 140737488351232) (k : Nat) (hk : 4000 < k) :
    ∃ a b c d, spec_DrawAskText.f k s = some (a, b, c, d) ∧ -1 ≤ b ∧ b ≤ 64 ∧ -1 ≤ c ∧ c ≤ 65 ∧ d.length ≤ 61 ∧ (∀ x ∈ d, (Lit.int .u8 x).wf = true) := by
  unfold spec_DrawAskText.f spec_l1New.f
  obtain ⟨h, e⟩ := new_some s hl 4000 k (wrap64 (24770 + (s.length : Int))) 0 (by decide) (by decide) hk
  rw [e]
  simp only [Option.bind_some]
  have core : ∃ a' b' c' d' i' h', spec_l24DrawAsk.f k s 0 h = some (a', b', c', d', i', h') ∧ -1 ≤ b' ∧ b' ≤ 64 ∧ -1 ≤ c' ∧ c' ≤ 65 ∧ d'.length ≤ 61 ∧ (∀ x ∈ d', (Lit.int .u8 x).wf = true) := by
    obtain ⟨k, rfl⟩ : ∃ q, k = q + 1 := ⟨k - 1, by omega⟩
    unfold spec_l24DrawAsk.f
    obtain ⟨a, i1, h1, e1, _, i2, i3⟩ := pick_some s 0 h [1, 1, 1, 2, 2, 3] (by decide) (by decide) (by decide) hl (by omega)
    rw [e1]
    simp only [Option.bind_some]
    split
    · obtain ⟨b, i4, h4, e4, b0, b1, i5, i6⟩ := below_some s i1 h1 64 (by decide) (by decide) i2 hl i3
      rw [e4]
      simp only [Option.bind_some]
      obtain ⟨d, i7, h7, e7, d0, d1, i8, i9⟩ := data_some s hl 9 (by decide) (by decide) (k + 1) (by omega) i4 h4 i5 i6
      rw [e7]
      simp only [Option.bind_some]
      rw [if_pos (by omega)]
      exact ask_tail s hl k i7 h7 a b 0 (d ++ [120]) i8 i9 (by omega) (by omega) (by decide) (by decide) (by rw [List.length_append]; simp; omega) (by
        intro x hx
        rcases List.mem_append.1 hx with hx | hx
        · exact d1 x hx
        · rw [List.mem_singleton.1 hx]; exact wf8 (by decide) (by decide))
    · split
      · obtain ⟨b, i4, h4, e4, b0, b1, i5, i6⟩ := below_some s i1 h1 60 (by decide) (by decide) i2 hl i3
        rw [e4]
        simp only [Option.bind_some]
        obtain ⟨c, i7, h7, e7, c0, c1, i8, i9⟩ := below_some s i4 h4 4 (by decide) (by decide) i5 hl i6
        rw [e7]
        simp only [Option.bind_some]
        rw [wrap_small (x := 1 + c) (by omega) (by omega)]
        exact ask_tail s hl k i7 h7 a b (1 + c) [] i8 i9 (by omega) (by omega) (by omega) (by omega) (by simp) (by simp)
      · exact ask_tail s hl k i1 h1 a 0 0 [] i2 i3 (by decide) (by decide) (by decide) (by decide) (by simp) (by simp)
  obtain ⟨a, b, c, d, i, h', e2, r⟩ := core
  rw [e2]
  exact ⟨a, b, c, d, rfl, r⟩
theorem answer_draw (s : List Int) (hl : s.length ≤ 140737488351232) (k : Nat) (hk : 4000 < k) :
    ∃ c d, spec_DrawAnswerText.f k s = some (c, d) ∧ d.length ≤ 50 ∧ (∀ x ∈ d, (Lit.int .u8 x).wf = true) := by
  unfold spec_DrawAnswerText.f spec_l1New.f
  obtain ⟨h, e⟩ := new_some s hl 4000 k (wrap64 (24770 + (s.length : Int))) 0 (by decide) (by decide) hk
  rw [e]
  simp only [Option.bind_some]
  obtain ⟨b, i4, h4, e4, b0, b1, i5, i6⟩ := below_some s 0 h 8 (by decide) (by decide) (by decide) hl (by omega)
  rw [e4]
  simp only [Option.bind_some]
  obtain ⟨d, i7, h7, e7, d0, d1, i8, i9⟩ := data_some s hl 3 (by decide) (by decide) k (by omega) i4 h4 i5 i6
  rw [e7]
  exact ⟨_, _, rfl, d0, d1⟩
theorem full_ne (c : Int) (l : List Int) : ¬ (full c l).toList = ([] : List UInt8) := by
  rw [toList_data]
  have hn : ¬ (name c).data.toList = [] := by
    unfold name
    repeat' split
    all_goals decide
  unfold full
  split
  · rw [ByteArray.data_append, ByteArray.data_append]
    simp [hn]
  · exact hn
end AskTexts

theorem FnAskTexts : laws_FnAskTexts.Pure := by
  intro l0 _ hl _
  refine ⟨4200, ?_⟩
  obtain ⟨a, b, c, d, e1, b0, b1, c0, c1, d0, d1⟩ := AskTexts.ask_draw l0 (by omega) 4200 (by decide)
  obtain ⟨n, m, e2, m0, m1⟩ := AskTexts.answer_draw l0 (by omega) 4200 (by decide)
  obtain ⟨x, r, s1, i1, k1, t1⟩ := AskTexts.texts a b c d (by omega) (AskTexts.wf64 (by omega) (by omega)) (AskTexts.wf64 (by omega) (by omega)) d1 4200 (by omega)
  have s2 := AskTexts.spec_text n m (by omega) m1 4200 (by omega)
  have i2 := AskTexts.impl_text n m (by omega) m1 4199 (by omega)
  unfold laws_FnAskTexts.f laws_big.f
  simp only [Option.bind_some]
  split
  · rfl
  · simp only [e1, e2, Option.bind_some, s1, i1, s2, i2, if_true, k1, t1]
    rw [if_neg (AskTexts.full_ne n m)]
    simp

end Go.Proofs.Ytfhabnkmhofpgaa.Pure
