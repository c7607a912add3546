/- Lists alike, a list backwards: evaluated. -/
import Derived.Test.YtjnmfihnioajaaaGreatEvReportCells
namespace Go.Proofs.YtjnmfihnioajaaaGreat.Ow
open Go
set_option linter.unusedVariables false
set_option linter.unusedSimpArgs false
variable {PK : Nat → List Arg → Option Res}
/-! ### Alike -/
@[simp] def st53 (l m : List Int) (j : Nat) : St := { n := 32, m := 0, tm := [(0, .im 1 (enc fI l)), (1, .im 1 (enc fI m)), (5, .sc (.int .i64 j))], ob := [] }
theorem ev_l5Same (l m : List Int) (hl : l.length ≤ 1048576) : semK G PK md 53 [.v (.im 1 (enc fI l)), .v (.im 1 (enc fI m))] = some ⟨[.v (.sc (.bool (decide (l = m))))], [], []⟩ := by
  refine semK_of (pf := p53) rfl (by simp [p53]) ?_
  obtain ⟨k, hk, hp, hkn⟩ := first (fun j => l[j]? = m[j]?) (min l.length m.length)
  have hstep : ∀ j, j < k → ∃ s', exec (semK G PK md) (semL G PK md) md b53_0 (st53 l m j) = some (.normal, s') ∧ s'.m ≤ 10000000 ∧ canon 10000000 [0, 1, 5] s' = st53 l m (j + 1) := fun j hj => by
    have hlt : j < l.length := by omega
    have hlt2 : j < m.length := by omega
    obtain ⟨x, hx1⟩ := getElem?_of_lt hlt
    have hy1 : m[j]? = some x := (hp j hj).symm.trans hx1
    obtain ⟨_, hx'⟩ := at_of hx1
    obtain ⟨_, hy'⟩ := at_of hy1
    simp [b53_0, hlt, hlt2, hx', hy', incr hlt hl]
  rcases hkn with rfl | ⟨hlt, hn⟩
  · have hsz := loop_ok (G := G) (PK := PK) (md := md) (o := 10000000) (live := [0, 1, 5]) (c := b53_0) (st53 l m) (min l.length m.length) hstep (by
      by_cases h1 : l.length ≤ m.length
      · simp [b53_0, Nat.min_eq_left h1]
      · have h2 : m.length ≤ l.length := by omega
        have h3 : m.length < l.length := by omega
        simp [b53_0, Nat.min_eq_right h2, h3])
    have hd : decide (l = m) = decide (l.length = m.length) := by
      by_cases hlen : l.length = m.length
      · have : l = m := List.ext_getElem? fun i => by
          rcases Nat.lt_or_ge i l.length with h | h
          · exact hp i (by omega)
          · rw [List.getElem?_eq_none h, List.getElem?_eq_none (by omega)]
        simp [this]
      · have : ¬ l = m := fun h => hlen (by rw [h])
        simp [this, hlen]
    rw [hd]
    simp [p53]
    rw [hsz]
    · by_cases h1 : l.length ≤ m.length
      · by_cases h2 : l.length = m.length
        · simp [b53_0, Nat.min_eq_left h1, h2]
        · have h5 : ¬ (l.length : Int) = m.length := by omega
          simp [b53_0, Nat.min_eq_left h1, h2, h5]
      · have h2 : m.length ≤ l.length := by omega
        have h3 : m.length < l.length := by omega
        have h4 : ¬ l.length = m.length := by omega
        have h5 : ¬ (l.length : Int) = m.length := by omega
        simp [b53_0, Nat.min_eq_right h2, h3, h4, h5]
    · simp
    · simp
  · have hlt1 : k < l.length := by omega
    have hlt2 : k < m.length := by omega
    obtain ⟨x, hx1⟩ := getElem?_of_lt hlt1
    obtain ⟨y, hy1⟩ := getElem?_of_lt hlt2
    obtain ⟨_, hx'⟩ := at_of hx1
    obtain ⟨_, hy'⟩ := at_of hy1
    have hxy : ¬ x = y := fun h => hn (by rw [hx1, hy1, h])
    have hsz := loop_ok (G := G) (PK := PK) (md := md) (o := 10000000) (live := [0, 1, 5]) (c := b53_0) (st53 l m) k hstep (by simp [b53_0, hlt1, hlt2, hx', hy', hxy])
    have hlm : ¬ l = m := fun h => hn (by rw [h])
    simp only [hlm, decide_false]
    simp [p53]
    rw [hsz]
    · simp [b53_0, hlt1, hlt2, hx', hy', hxy]
    · simp
    · simp
@[simp] def st55 (l m : List Int) (j : Nat) : St := { n := 26, m := 0, tm := [(0, .im 1 (enc fI l)), (1, .im 1 (enc fI m)), (12, .sc (.int .i64 l.length)), (13, .sc (.int .i64 j))], ob := [] }
theorem ev_Equal (l m : List Int) (hl : l.length ≤ 1048576) : semK G PK md 55 [.v (.im 1 (enc fI l)), .v (.im 1 (enc fI m))] = some ⟨[.v (.sc (.bool (decide (l = m))))], [], []⟩ := by
  refine semK_of (pf := p55) rfl (by simp [p55]) ?_
  by_cases hlen : l.length = m.length
  · have hlen' : (l.length : Int) = m.length := by omega
    obtain ⟨k, hk, hp, hkn⟩ := first (fun j => l[j]? = m[j]?) l.length
    have hstep : ∀ j, j < k → ∃ s', exec (semK G PK md) (semL G PK md) md b55_0 (st55 l m j) = some (.normal, s') ∧ s'.m ≤ 10000000 ∧ canon 10000000 [0, 1, 12, 13] s' = st55 l m (j + 1) := fun j hj => by
      have hlt : j < l.length := by omega
      have hlt2 : j < m.length := by omega
      obtain ⟨x, hx1⟩ := getElem?_of_lt hlt
      have hy1 : m[j]? = some x := (hp j hj).symm.trans hx1
      obtain ⟨_, hx'⟩ := at_of hx1
      obtain ⟨_, hy'⟩ := at_of hy1
      simp [b55_0, hlt, hlt2, hx', hy', incr hlt hl]
    rcases hkn with rfl | ⟨hlt, hn⟩
    · have hsz := loop_ok (G := G) (PK := PK) (md := md) (o := 10000000) (live := [0, 1, 12, 13]) (c := b55_0) (st55 l m) l.length hstep (by simp [b55_0])
      have hlm : l = m := List.ext_getElem? fun i => by
        rcases Nat.lt_or_ge i l.length with h | h
        · exact hp i h
        · rw [List.getElem?_eq_none h, List.getElem?_eq_none (by omega)]
      subst hlm
      simp only [decide_true]
      simp [p55]
      rw [hsz]
      · simp [b55_0]
      · simp
      · simp
    · have hlt2 : k < m.length := by omega
      obtain ⟨x, hx1⟩ := getElem?_of_lt hlt
      obtain ⟨y, hy1⟩ := getElem?_of_lt hlt2
      obtain ⟨_, hx'⟩ := at_of hx1
      obtain ⟨_, hy'⟩ := at_of hy1
      have hxy : ¬ x = y := fun h => hn (by rw [hx1, hy1, h])
      have hsz := loop_ok (G := G) (PK := PK) (md := md) (o := 10000000) (live := [0, 1, 12, 13]) (c := b55_0) (st55 l m) k hstep (by simp [b55_0, hlt, hlt2, hx', hy', hxy])
      have hlm : ¬ l = m := fun h => hn (by rw [h])
      simp only [hlm, decide_false]
      simp [p55, hlen']
      rw [hsz]
      · simp [b55_0, hlt, hlt2, hx', hy', hxy]
      · simp
      · simp [hlen']
  · have hlen' : ¬ (l.length : Int) = m.length := by omega
    have hlm : ¬ l = m := fun h => hlen (by rw [h])
    simp only [hlm, decide_false]
    simp [p55, hlen, hlen']
end Go.Proofs.YtjnmfihnioajaaaGreat.Ow
