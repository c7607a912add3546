/- A list backwards; the cells that a list of writes leaves: evaluated. -/
import Derived.Test.YtjnmfihnioajaaaGreatEvMomentOfWorldI
namespace Go.Proofs.YtjnmfihnioajaaaGreat.Ow
open Go
set_option linter.unusedVariables false
set_option linter.unusedSimpArgs false
variable {PK : Nat → List Arg → Option Res}
/-! ### Backwards -/
def rv (l : List Int) : Nat → List Int
  | 0 => l
  | i + 1 => ((rv l i).set i (l.getD (l.length - 1 - i) 0)).set (l.length - 1 - i) (l.getD i 0)
theorem rv_len (l : List Int) : ∀ i, (rv l i).length = l.length
  | 0 => rfl
  | i + 1 => by simp [rv, rv_len l i]
theorem rv_get (l : List Int) : ∀ i, 2 * i ≤ l.length → ∀ p, p < l.length → (rv l i)[p]? = if p < i ∨ l.length - i ≤ p then l[l.length - 1 - p]? else l[p]?
  | 0, _, p, hp => by simp [rv]; omega
  | i + 1, hi, p, hp => by
    have ih := rv_get l i (by omega) p hp
    simp only [rv, List.getElem?_set, List.length_set, rv_len]
    by_cases h1 : l.length - 1 - i = p
    · subst h1
      rw [if_pos rfl, if_pos (by omega), if_pos (by omega), show l.length - 1 - (l.length - 1 - i) = i by omega, List.getD_eq_getElem?_getD, List.getElem?_eq_getElem (by omega)]
      rfl
    · rw [if_neg h1]
      by_cases h2 : i = p
      · subst h2
        rw [if_pos rfl, if_pos (by omega), if_pos (by omega), List.getD_eq_getElem?_getD, List.getElem?_eq_getElem (by omega)]
        rfl
      · rw [if_neg h2, ih]
        by_cases h3 : p < i ∨ l.length - i ≤ p
        · rw [if_pos h3, if_pos (by omega)]
        · rw [if_neg h3, if_neg (by omega)]
theorem rv_end (l : List Int) : rv l (l.length / 2) = l.reverse := by
  apply List.ext_getElem?
  intro p
  rcases Nat.lt_or_ge p l.length with hp | hp
  · rw [rv_get l _ (by omega) p hp, List.getElem?_reverse hp]
    split
    · rfl
    · have : l.length - 1 - p = p := by omega
      rw [this]
  · rw [List.getElem?_eq_none (by rw [rv_len]; exact hp), List.getElem?_eq_none (by simpa using hp)]
@[simp] def st99 (l : List Int) (j : Nat) : St := { n := 28, m := 1, tm := [(0, .ref 0 []), (2, .sc (.int .i64 j)), (3, .sc (.int .i64 ((l.length : Int) - 1 - j)))], ob := [(0, .arr 1 (enc fI (rv l j)))] }
theorem ev_Reverse (l : List Int) (hl : l.length ≤ 1048576) : semK G PK md 99 [.v (.own 1 (enc fI l))] = some ⟨[], [some (enc fI l.reverse)], []⟩ := by
  refine semK_of (pf := p99) rfl (by simp [p99]) ?_
  have hw : IntKind.wrap .i64 ((l.length : Int) - 1) = l.length - 1 := wrap_id (by omega) (by omega)
  have hstep : ∀ j, j < l.length / 2 → ∃ s', exec (semK G PK md) (semL G PK md) md b99_0 (st99 l j) = some (.normal, s') ∧ s'.m ≤ 10000000 ∧ canon 10000000 [0, 2, 3] s' = st99 l (j + 1) := fun j hj => by
    have h1 : (j : Int) < (l.length : Int) - 1 - j := by omega
    have h2 : (l.length : Int) - 1 - j = ((l.length - 1 - j : Nat) : Int) := by omega
    have hw1 : IntKind.wrap .i64 (((l.length - 1 - j : Nat) : Int) - 1) = (l.length : Int) - 1 - ((j : Int) + 1) := by rw [wrap_id (by omega) (by omega)]; omega
    have h3 : (j : Int) < ((l.length - 1 - j : Nat) : Int) := by omega
    have h3' : j < l.length - 1 - j := by omega
    have g1 : (rv l j)[j]? = l[j]? := by rw [rv_get l j (by omega) j (by omega), if_neg (by omega)]
    have g2 : (rv l j)[l.length - 1 - j]? = l[l.length - 1 - j]? := by rw [rv_get l j (by omega) _ (by omega), if_neg (by omega)]
    obtain ⟨x, hx⟩ := getElem?_of_lt (l := l) (i := j) (by omega)
    obtain ⟨y, hy⟩ := getElem?_of_lt (l := l) (i := l.length - 1 - j) (by omega)
    obtain ⟨a1, a2⟩ := at_of (g1.trans hx)
    obtain ⟨b1, b2⟩ := at_of (g2.trans hy)
    have e1 := enc_set fI (rv l j) j y
    have e2 := enc_set fI ((rv l j).set j y) (l.length - 1 - j) x
    simp only [fI] at e1 e2
    have hlen := rv_len l j
    have hrv : ((rv l j).set j y).set (l.length - 1 - j) x = rv l (j + 1) := by
      simp only [rv, List.getD_eq_getElem?_getD, hx, hy, Option.getD_some]
    have hj1 : j < l.length := by omega
    have hj2 : l.length - 1 - j < l.length := by omega
    have hne : ¬ j = l.length - 1 - j := by omega
    have bb3 : ((rv l j).set j y)[l.length - 1 - j]'(by simp; omega) = y := by rw [List.getElem_set, if_neg hne]; exact b2
    simp only [st99, h2]
    simp [b99_0, h1, h3, h3', hw1, a2, b2, bb3, e1, e2, hrv, hlen, hj1, hj2, incr hj1 hl]
  have hend : ¬ ((l.length / 2 : Nat) : Int) < (l.length : Int) - 1 - (l.length / 2 : Nat) := by omega
  have hsz := loop_ok (G := G) (PK := PK) (md := md) (o := 10000000) (live := [0, 2, 3]) (c := b99_0) (st99 l) (l.length / 2) hstep (by
    simp only [st99]
    generalize ((l.length / 2 : Nat) : Int) = z at hend
    simp [b99_0, hend])
  simp [p99, hw]
  rw [hsz]
  · simp only [st99]
    rw [rv_end]
    generalize ((l.length / 2 : Nat) : Int) = z at hend
    simp [b99_0, hend]
  · simp
  · simp [rv]
end Go.Proofs.YtjnmfihnioajaaaGreat.Ow
