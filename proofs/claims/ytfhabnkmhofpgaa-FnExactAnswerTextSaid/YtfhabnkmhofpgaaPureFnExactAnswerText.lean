/- For every Answer the program's AnswerText returns what the reference's AnswerText returns, and leaves its argument as it was: plain part of FnExactAnswerText. -/
import Derived.Test.YtfhabnkmhofpgaaPFnExactAnswerTextx3
import Derived.Laws.BitsLemmas
namespace Go.Proofs.Ytfhabnkmhofpgaa.Pure
set_option linter.unusedVariables false
open Go.RowKit Go.Proofs.Ytfhabnkmhofpgaa.PFnExactAnswerText Go.Proofs.YtfhabnkmhofpgaaW.PrintWords Go.Proofs.YtfhabnkmhofpgaaW.PrintLast

namespace AnswerText
theorem wrap_small {x : Int} (h0 : 0 ≤ x) (h1 : x ≤ 4611686018427387904) : wrap64 x = x := by
  unfold wrap64; omega
/-! bytes as two signs each -/
def all : ByteArray := ⟨#[48, 49, 50, 51, 52, 53, 54, 55, 56, 57, 97, 98, 99, 100, 101, 102]⟩
def pair (x : Int) : List Int := [bt all (x / 16), bt all (Go.bits .and .u8 x 15)]
def hex (l : List Int) : List Int := l.flatMap pair
theorem hex_len : ∀ l, (hex l).length = 2 * l.length
  | [] => rfl
  | x :: l => by
    have := hex_len l
    simp only [hex, List.flatMap_cons, List.length_append] at *
    rw [this]; simp [pair]; omega
theorem hex_take (l : List Int) (i : Nat) (hi : i < l.length) : hex (l.take (i + 1)) = hex (l.take i) ++ pair (rd l i) := by
  have e : rd l (i : Int) = l[i] := by
    unfold rd
    rw [show ((i : Int)).toNat = i by omega, List.getD_eq_getElem?_getD, List.getElem?_eq_getElem hi]; rfl
  unfold hex
  rw [e, List.take_add_one, List.getElem?_eq_getElem hi, Option.toList_some, List.flatMap_append, List.flatMap_cons, List.flatMap_nil, List.append_nil]
theorem rd_mem (l : List Int) (i : Nat) (hi : i < l.length) : rd l i ∈ l := by
  unfold rd
  rw [show ((i : Int)).toNat = i by omega, List.getD_eq_getElem?_getD, List.getElem?_eq_getElem hi]
  exact List.getElem_mem hi
theorem byte_of {x : Int} (h : (Lit.int .u8 x).wf = true) : 0 ≤ x ∧ x ≤ 255 := by
  have h' : (decide (IntKind.u8.min ≤ x) && decide (x ≤ IntKind.u8.max)) = true := h
  simp [IntKind.min, IntKind.max, IntKind.signed, IntKind.bits] at h'
  omega
theorem and15 {x : Int} (h0 : 0 ≤ x) (h1 : x ≤ 255) : 0 ≤ Go.bits .and .u8 x 15 ∧ Go.bits .and .u8 x 15 < 16 := by
  rw [u8_and15 x h0 (by omega)]
  omega
theorem spec_hex (l : List Int) (hl : l.length ≤ 1048576) (hb : ∀ x ∈ l, (Lit.int .u8 x).wf = true) : ∀ (m i : Nat), i + m = l.length → ∀ k, m < k →
    spec_l24Hex.l0 k l all (hex (l.take i)) (i : Int) = some (strOfNums (hex l))
  | 0, i, h, k + 1, _ => by
    unfold spec_l24Hex.l0
    rw [if_neg (by omega), List.take_of_length_le (by omega)]
  | m + 1, i, h, k + 1, hk => by
    have hx := byte_of (hb _ (rd_mem l i (by omega)))
    have ha := and15 hx.1 hx.2
    have hs : (all.size : Int) = 16 := rfl
    unfold spec_l24Hex.l0
    have hn : (hex (l.take i)).length + 2 < 140737488355328 := by rw [hex_len, List.length_take]; omega
    rw [if_pos (by omega), if_pos (by omega), if_pos (by omega), if_pos (by omega), if_pos ha.1, if_pos (by omega)]
    simp only [Option.bind_some]
    rw [if_pos (by simpa using hn), wrap_small (by omega) (by omega)]
    have := spec_hex l hl hb m (i + 1) (by omega) k (by omega)
    rw [hex_take l i (by omega)] at this
    rw [show ((i : Int) + 1) = ((i + 1 : Nat) : Int) by omega]
    exact this
theorem spec_hexes (l : List Int) (hl : l.length ≤ 1048576) (hb : ∀ x ∈ l, (Lit.int .u8 x).wf = true) (k : Nat) (hk : l.length < k) :
    spec_l24Hex.f k l = some (strOfNums (hex l)) := by
  unfold spec_l24Hex.f
  exact spec_hex l hl hb l.length 0 (by omega) k hk
theorem impl_hex (l : List Int) (hl : l.length ≤ 1048576) (hb : ∀ x ∈ l, (Lit.int .u8 x).wf = true) : ∀ (m i : Nat), i + m = l.length → ∀ k, m < k →
    impl_signs.l0 k (hex (l.take i)) l (l.length : Int) (i : Int) = some (strOfNums (hex l))
  | 0, i, h, k + 1, _ => by
    unfold impl_signs.l0
    rw [if_neg (by omega), List.take_of_length_le (by omega)]
  | m + 1, i, h, k + 1, hk => by
    have hx := byte_of (hb _ (rd_mem l i (by omega)))
    have ha := and15 hx.1 hx.2
    unfold impl_signs.l0
    have hn : (hex (l.take i)).length + 2 < 140737488355328 := by rw [hex_len, List.length_take]; omega
    rw [if_pos (by omega), if_pos (by omega), if_pos (by omega), if_pos (by omega), if_pos (by omega), if_pos ha.1, if_pos (by omega)]
    simp only [Option.bind_some]
    rw [if_pos (by simpa using hn), wrap_small (by omega) (by omega)]
    have := impl_hex l hl hb m (i + 1) (by omega) k (by omega)
    rw [hex_take l i (by omega)] at this
    rw [show ((i : Int) + 1) = ((i + 1 : Nat) : Int) by omega]
    exact this
theorem impl_hexes (l : List Int) (hl : l.length ≤ 1048576) (hb : ∀ x ∈ l, (Lit.int .u8 x).wf = true) (k : Nat) (hk : l.length < k) :
    impl_signs.f k l = some (strOfNums (hex l)) := by
  unfold impl_signs.f
  exact impl_hex l hl hb l.length 0 (by omega) k hk
theorem str_size (xs : List Int) : (strOfNums xs).size = xs.length := by
  simp [strOfNums, ByteArray.size]
theorem copy_loop (l : List Int) (hl : l.length ≤ 1048576) : ∀ (m i : Nat), i + m = l.length → ∀ k, m < k →
    laws_toByteS.l0 k l (l.take i ++ List.replicate m 0) (i : Int) = some l
  | 0, i, h, k + 1, _ => by
    unfold laws_toByteS.l0
    rw [if_neg (by omega)]
    simp [show i = l.length by omega]
  | m + 1, i, h, k + 1, hk => by
    unfold laws_toByteS.l0
    rw [if_pos (by omega), if_pos (by omega), if_pos (by simp; omega), wrap_small (by omega) (by omega)]
    have := copy_loop l hl m (i + 1) (by omega) k (by omega)
    rw [show ((i : Int) + 1) = ((i + 1 : Nat) : Int) by omega]
    rw [← this]
    congr 1
    rw [show ((i : Int)).toNat = i by omega]
    unfold rd
    rw [show ((i : Int)).toNat = i by omega]
    apply List.ext_getElem?
    intro j
    by_cases h1 : j < i
    · simp [List.getElem?_set, List.getElem?_append, List.getElem?_take, List.getElem?_replicate, List.length_take]
      grind
    · simp [List.getElem?_set, List.getElem?_append, List.getElem?_take, List.getElem?_replicate, List.length_take]
      grind
theorem copy (l : List Int) (hl : l.length ≤ 1048576) (k : Nat) (hk : l.length < k) : laws_toByteS.f k l = some l := by
  unfold laws_toByteS.f
  rw [if_pos (by omega), if_pos (by omega)]
  have := copy_loop l hl l.length 0 (by omega) k hk
  simpa using this
theorem eq_loop (l : List Int) (hl : l.length ≤ 1048576) : ∀ (m i : Nat), i + m = l.length → ∀ k, m < k →
    laws_eqByteS.l0 k l l (i : Int) = some true
  | 0, i, h, k + 1, _ => by
    unfold laws_eqByteS.l0
    rw [if_neg (by omega)]
  | m + 1, i, h, k + 1, hk => by
    unfold laws_eqByteS.l0
    rw [if_pos (by omega), if_pos (by omega), if_pos (by omega), if_pos rfl, wrap_small (by omega) (by omega)]
    have := eq_loop l hl m (i + 1) (by omega) k (by omega)
    rw [show ((i : Int) + 1) = ((i + 1 : Nat) : Int) by omega]
    exact this
theorem same (l : List Int) (hl : l.length ≤ 1048576) (k : Nat) (hk : l.length < k) : laws_eqByteS.f k l l = some true := by
  unfold laws_eqByteS.f
  rw [if_pos rfl]
  exact eq_loop l hl l.length 0 (by omega) k hk

theorem spaced2 (s t : ByteArray) (h : s.size + t.size ≤ 4611686018) : impl_spaced.f [s, t] = some (s ++ (⟨#[32]⟩ : ByteArray) ++ t) := by
  unfold impl_spaced.f
  have e : Lib.join ([s, t].map (·.data.toList)) [32] = s.data.toList ++ ([32] ++ t.data.toList) := by
    simp [Lib.join, List.intercalate]
  rw [e, if_pos]
  · congr 1
    apply ByteArray.ext
    simp [ByteArray.data_append]
  · refine ⟨by simp, ?_⟩
    have h1 : s.data.toList.length = s.size := rfl
    have h2 : t.data.toList.length = t.size := rfl
    simp only [List.length_append, List.length_cons, List.length_nil, h1, h2]
    omega
def name (c : Int) : ByteArray :=
  if c = 0 then ⟨#[100, 111, 110, 101]⟩ else if c = 1 then ⟨#[98, 97, 100]⟩ else if c = 2 then ⟨#[110, 111, 110, 101]⟩ else if c = 3 then ⟨#[105, 100, 108, 101]⟩ else if c = 4 then ⟨#[102, 117, 108, 108]⟩ else ⟨#[119, 104, 97, 116]⟩
theorem name_size (c : Int) : (name c).size ≤ 4 := by
  unfold name
  repeat' split
  all_goals decide
def full (c : Int) (l : List Int) : ByteArray := if 0 < l.length then name c ++ (⟨#[32]⟩ : ByteArray) ++ strOfNums (hex l) else name c
section
variable (c : Int) (l : List Int) (hl : l.length ≤ 1048576) (hb : ∀ x ∈ l, (Lit.int .u8 x).wf = true)
include hl hb
theorem impl_tail (k : Nat) (hk : l.length < k) : impl_AnswerText.j0 (k + 1) (name c) c l = some (full c l) := by
  simp only [impl_AnswerText.j0]
  unfold full
  by_cases h : 0 < l.length
  · rw [if_pos (by omega), if_pos h, impl_hexes l hl hb k hk]
    simp only [Option.bind_some]
    have := name_size c
    rw [spaced2 _ _ (by rw [str_size, hex_len]; omega)]
    rfl
  · rw [if_neg (by omega), if_neg h]
theorem impl_text (k : Nat) (hk : l.length < k) : impl_AnswerText.f (k + 1) c l = some (full c l) := by
  have h := impl_tail c l hl hb k hk
  unfold impl_AnswerText.f
  unfold name at h
  by_cases c0 : c = 0
  · subst c0; simpa using h
  by_cases c1 : c = 1
  · subst c1; simpa [impl_codeText.f] using h
  by_cases c2 : c = 2
  · subst c2; simpa [impl_codeText.f] using h
  by_cases c3 : c = 3
  · subst c3; simpa [impl_codeText.f] using h
  by_cases c4 : c = 4
  · subst c4; simpa [impl_codeText.f] using h
  simpa [c0, c1, c2, c3, c4] using h
theorem spec_text (k : Nat) (hk : l.length < k) : spec_AnswerText.f k c l = some (full c l) := by
  have hx := spec_hexes l hl hb k hk
  have hs : (strOfNums (hex l)).size ≤ 4194304 := by rw [str_size, hex_len]; omega
  unfold spec_AnswerText.f full
  simp only [Option.bind_some, spec_l1In.f]
  have hw : wrap64 (((([(⟨#[100, 111, 110, 101]⟩ : ByteArray), (⟨#[98, 97, 100]⟩ : ByteArray), (⟨#[110, 111, 110, 101]⟩ : ByteArray), (⟨#[105, 100, 108, 101]⟩ : ByteArray), (⟨#[102, 117, 108, 108]⟩ : ByteArray), (⟨#[119, 104, 97, 116]⟩ : ByteArray)] : List ByteArray).length : Nat) : Int) - 1) = 5 := (wrap_small (x := 5) (by decide) (by decide) : wrap64 5 = 5)
  rw [hw]
  have key : ∀ (i : Int), 0 ≤ i → i ≤ 5 → name i = rdOf ByteArray.empty [(⟨#[100, 111, 110, 101]⟩ : ByteArray), (⟨#[98, 97, 100]⟩ : ByteArray), (⟨#[110, 111, 110, 101]⟩ : ByteArray), (⟨#[105, 100, 108, 101]⟩ : ByteArray), (⟨#[102, 117, 108, 108]⟩ : ByteArray), (⟨#[119, 104, 97, 116]⟩ : ByteArray)] i := by
    intro i h0 h1
    have : i = 0 ∨ i = 1 ∨ i = 2 ∨ i = 3 ∨ i = 4 ∨ i = 5 := by omega
    rcases this with rfl | rfl | rfl | rfl | rfl | rfl <;> rfl
  have len6 : (([(⟨#[100, 111, 110, 101]⟩ : ByteArray), (⟨#[98, 97, 100]⟩ : ByteArray), (⟨#[110, 111, 110, 101]⟩ : ByteArray), (⟨#[105, 100, 108, 101]⟩ : ByteArray), (⟨#[102, 117, 108, 108]⟩ : ByteArray), (⟨#[119, 104, 97, 116]⟩ : ByteArray)] : List ByteArray).length : Int) = 6 := rfl
  have sz1 : ∀ s : ByteArray, (s ++ (⟨#[32]⟩ : ByteArray)).size = s.size + 1 := fun s => by rw [ByteArray.size_append]; rfl
  generalize hy : [(⟨#[100, 111, 110, 101]⟩ : ByteArray), (⟨#[98, 97, 100]⟩ : ByteArray), (⟨#[110, 111, 110, 101]⟩ : ByteArray), (⟨#[105, 100, 108, 101]⟩ : ByteArray), (⟨#[102, 117, 108, 108]⟩ : ByteArray), (⟨#[119, 104, 97, 116]⟩ : ByteArray)] = y at *
  by_cases hr : 0 ≤ c ∧ c ≤ 5
  · rw [if_pos (show c ≥ 0 from hr.1)]
    simp only [Option.bind_some, decide_eq_true_eq]
    rw [if_pos hr.2]
    have hn := name_size c
    rw [key c hr.1 hr.2] at hn ⊢
    by_cases h : 0 < l.length
    · rw [if_pos (by omega), if_pos hr.1, if_pos (by omega), if_pos (by omega), hx, if_pos h]
      simp only [Option.bind_some]
      rw [if_pos (by rw [sz1]; omega)]
    · rw [if_neg (by omega), if_pos hr.1, if_pos (by omega), if_neg h]
  · have e5 : name c = name 5 := by
      unfold name
      rw [if_neg (by omega), if_neg (by omega), if_neg (by omega), if_neg (by omega), if_neg (by omega)]
      rfl
    have e : ((if c ≥ 0 then (some (decide (c ≤ 5))) else (some false)) : Option Bool) = some false := by
      split
      · congr 1; simp; omega
      · rfl
    rw [e, e5, key 5 (by decide) (by decide)]
    have hn := name_size 5
    rw [key 5 (by decide) (by decide)] at hn
    simp only [Option.bind_some, Bool.false_eq_true, if_false]
    by_cases h : 0 < l.length
    · rw [if_pos (by omega), if_pos (by decide), if_pos (by omega), if_pos (by omega), hx, if_pos h]
      simp only [Option.bind_some]
      rw [if_pos (by rw [sz1]; omega)]
    · rw [if_neg (by omega), if_pos (by decide), if_pos (by omega), if_neg h]
end
end AnswerText

theorem FnExactAnswerText (c : Int) (l : List Int) (hm : l.length ≤ 9223372036854775807) (hb : ∀ x ∈ l, (Lit.int .u8 x).wf = true) : laws_FnExactAnswerText.f (l.length + 2) c l = some true := by
  unfold laws_FnExactAnswerText.f laws_szAnswer.f laws_szByteS.f
  by_cases h : l.length ≤ 1048576
  · have hw : wrap64 (1048576 - (l.length : Int)) = 1048576 - (l.length : Int) := AnswerText.wrap_small (by omega) (by omega)
    rw [hw, if_neg (by omega)]
    simp only [Option.bind_some]
    rw [if_neg (by omega)]
    simp only [Option.bind_some]
    rw [if_neg (by omega)]
    unfold laws_toAnswer.f
    have c1 := AnswerText.copy l h (l.length + 2) (by omega)
    have i1 := AnswerText.impl_text c l h hb (l.length + 1) (by omega)
    have s1 := AnswerText.spec_text c l h hb (l.length + 2) (by omega)
    simp only [c1, Option.bind_some, i1, s1, if_true]
    simp [laws_eqAnswer.f, AnswerText.same l h (l.length + 2) (by omega)]
  · have hw : wrap64 (1048576 - (l.length : Int)) = 1048576 - (l.length : Int) := by unfold wrap64; omega
    rw [hw, if_pos (by omega)]
    simp

end Go.Proofs.Ytfhabnkmhofpgaa.Pure
