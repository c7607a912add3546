/- Sizes, copies, comparisons: evaluated. -/
import Derived.Test.YtoadbdeklcmdpaaEvA
namespace Go.Proofs.Ytoadbdeklcmdpaa.Ow
open Go
variable {PK : Nat → List Arg → Option Res}
@[simp] def st22 (l m : List (Int)) (j : Nat) : St := { n := 26, m := 0, tm := [(0, .im 1 (enc fI l)), (1, .im 1 (enc fI m)), (5, .sc (.int .i64 j))], ob := [] }
theorem ev_eqIntS (l m : List (Int)) (hl : l.length ≤ 1048576) : semK G PK md 22 [.v (.im 1 (enc fI l)), .v (.im 1 (enc fI m))] = some ⟨[.v (.sc (.bool (decide (l = m))))], [], []⟩ := by
  refine semK_of (pf := p22) rfl (by simp [p22]) ?_
  by_cases hlen : l.length = m.length
  · have hlen' : (l.length : Int) = m.length := by omega
    obtain ⟨k, hk, hp, hkn⟩ := first (fun j => l[j]? = m[j]?) l.length
    have hstep : ∀ j, j < k → ∃ s', exec (semK G PK md) (semL G PK md) md b22_0 (st22 l m j) = some (.normal, s') ∧ s'.m ≤ 10000000 ∧ canon 10000000 [0, 1, 5] s' = st22 l m (j + 1) := fun j hj => by
      have hlt : j < l.length := by omega
      have hlt2 : j < m.length := by omega
      obtain ⟨x, hx1⟩ := getElem?_of_lt hlt
      have hy1 : m[j]? = some x := (hp j hj).symm.trans hx1
      obtain ⟨_, hx'⟩ := at_of hx1
      obtain ⟨_, hy'⟩ := at_of hy1
      simp [b22_0, hlt, hlt2, hx', hy', incr hlt hl]
    rcases hkn with rfl | ⟨hlt, hn⟩
    · have hsz := loop_ok (G := G) (PK := PK) (md := md) (o := 10000000) (live := [0, 1, 5]) (c := b22_0) (st22 l m) l.length hstep (by simp [b22_0])
      have hlm : l = m := List.ext_getElem? fun i => by
        rcases Nat.lt_or_ge i l.length with h | h
        · exact hp i h
        · rw [List.getElem?_eq_none h, List.getElem?_eq_none (by omega)]
      subst hlm
      simp only [decide_true]
      simp [p22]
      rw [hsz]
      · simp [b22_0]
      · simp
      · simp
    · have hlt2 : k < m.length := by omega
      obtain ⟨x, hx1⟩ := getElem?_of_lt hlt
      obtain ⟨y, hy1⟩ := getElem?_of_lt hlt2
      obtain ⟨_, hx'⟩ := at_of hx1
      obtain ⟨_, hy'⟩ := at_of hy1
      have hxy : ¬ x = y := fun h => hn (by rw [hx1, hy1, h])
      have hsz := loop_ok (G := G) (PK := PK) (md := md) (o := 10000000) (live := [0, 1, 5]) (c := b22_0) (st22 l m) k hstep (by simp [b22_0, hlt, hlt2, hx', hy', hxy])
      have hlm : ¬ l = m := fun h => hn (by rw [h])
      simp only [hlm, decide_false]
      simp [p22, hlen']
      rw [hsz]
      · simp [b22_0, hlt, hlt2, hx', hy', hxy]
      · simp
      · simp
  · have hlen' : ¬ (l.length : Int) = m.length := by omega
    have hlm : ¬ l = m := fun h => hlen (by rw [h])
    simp only [hlm, decide_false]
    simp [p22, hlen, hlen']
@[simp] def st29 (l m : List (Int)) (j : Nat) : St := { n := 26, m := 0, tm := [(0, .im 1 (enc fU l)), (1, .im 1 (enc fU m)), (5, .sc (.int .i64 j))], ob := [] }
theorem ev_eqByteS (l m : List (Int)) (hl : l.length ≤ 1048576) : semK G PK md 29 [.v (.im 1 (enc fU l)), .v (.im 1 (enc fU m))] = some ⟨[.v (.sc (.bool (decide (l = m))))], [], []⟩ := by
  refine semK_of (pf := p29) rfl (by simp [p29]) ?_
  by_cases hlen : l.length = m.length
  · have hlen' : (l.length : Int) = m.length := by omega
    obtain ⟨k, hk, hp, hkn⟩ := first (fun j => l[j]? = m[j]?) l.length
    have hstep : ∀ j, j < k → ∃ s', exec (semK G PK md) (semL G PK md) md b29_0 (st29 l m j) = some (.normal, s') ∧ s'.m ≤ 10000000 ∧ canon 10000000 [0, 1, 5] s' = st29 l m (j + 1) := fun j hj => by
      have hlt : j < l.length := by omega
      have hlt2 : j < m.length := by omega
      obtain ⟨x, hx1⟩ := getElem?_of_lt hlt
      have hy1 : m[j]? = some x := (hp j hj).symm.trans hx1
      obtain ⟨_, hx'⟩ := at_of hx1
      obtain ⟨_, hy'⟩ := at_of hy1
      simp [b29_0, hlt, hlt2, hx', hy', incr hlt hl]
    rcases hkn with rfl | ⟨hlt, hn⟩
    · have hsz := loop_ok (G := G) (PK := PK) (md := md) (o := 10000000) (live := [0, 1, 5]) (c := b29_0) (st29 l m) l.length hstep (by simp [b29_0])
      have hlm : l = m := List.ext_getElem? fun i => by
        rcases Nat.lt_or_ge i l.length with h | h
        · exact hp i h
        · rw [List.getElem?_eq_none h, List.getElem?_eq_none (by omega)]
      subst hlm
      simp only [decide_true]
      simp [p29]
      rw [hsz]
      · simp [b29_0]
      · simp
      · simp
    · have hlt2 : k < m.length := by omega
      obtain ⟨x, hx1⟩ := getElem?_of_lt hlt
      obtain ⟨y, hy1⟩ := getElem?_of_lt hlt2
      obtain ⟨_, hx'⟩ := at_of hx1
      obtain ⟨_, hy'⟩ := at_of hy1
      have hxy : ¬ x = y := fun h => hn (by rw [hx1, hy1, h])
      have hsz := loop_ok (G := G) (PK := PK) (md := md) (o := 10000000) (live := [0, 1, 5]) (c := b29_0) (st29 l m) k hstep (by simp [b29_0, hlt, hlt2, hx', hy', hxy])
      have hlm : ¬ l = m := fun h => hn (by rw [h])
      simp only [hlm, decide_false]
      simp [p29, hlen']
      rw [hsz]
      · simp [b29_0, hlt, hlt2, hx', hy', hxy]
      · simp
      · simp
  · have hlen' : ¬ (l.length : Int) = m.length := by omega
    have hlm : ¬ l = m := fun h => hlen (by rw [h])
    simp only [hlm, decide_false]
    simp [p29, hlen, hlen']
@[simp] def st25 (l m : List (Bool)) (j : Nat) : St := { n := 26, m := 0, tm := [(0, .im 1 (enc fL l)), (1, .im 1 (enc fL m)), (5, .sc (.int .i64 j))], ob := [] }
theorem ev_eqBoolS (l m : List (Bool)) (hl : l.length ≤ 1048576) : semK G PK md 25 [.v (.im 1 (enc fL l)), .v (.im 1 (enc fL m))] = some ⟨[.v (.sc (.bool (decide (l = m))))], [], []⟩ := by
  refine semK_of (pf := p25) rfl (by simp [p25]) ?_
  by_cases hlen : l.length = m.length
  · have hlen' : (l.length : Int) = m.length := by omega
    obtain ⟨k, hk, hp, hkn⟩ := first (fun j => l[j]? = m[j]?) l.length
    have hstep : ∀ j, j < k → ∃ s', exec (semK G PK md) (semL G PK md) md b25_0 (st25 l m j) = some (.normal, s') ∧ s'.m ≤ 10000000 ∧ canon 10000000 [0, 1, 5] s' = st25 l m (j + 1) := fun j hj => by
      have hlt : j < l.length := by omega
      have hlt2 : j < m.length := by omega
      obtain ⟨x, hx1⟩ := getElem?_of_lt hlt
      have hy1 : m[j]? = some x := (hp j hj).symm.trans hx1
      obtain ⟨_, hx'⟩ := at_of hx1
      obtain ⟨_, hy'⟩ := at_of hy1
      simp [b25_0, hlt, hlt2, hx', hy', incr hlt hl]
    rcases hkn with rfl | ⟨hlt, hn⟩
    · have hsz := loop_ok (G := G) (PK := PK) (md := md) (o := 10000000) (live := [0, 1, 5]) (c := b25_0) (st25 l m) l.length hstep (by simp [b25_0])
      have hlm : l = m := List.ext_getElem? fun i => by
        rcases Nat.lt_or_ge i l.length with h | h
        · exact hp i h
        · rw [List.getElem?_eq_none h, List.getElem?_eq_none (by omega)]
      subst hlm
      simp only [decide_true]
      simp [p25]
      rw [hsz]
      · simp [b25_0]
      · simp
      · simp
    · have hlt2 : k < m.length := by omega
      obtain ⟨x, hx1⟩ := getElem?_of_lt hlt
      obtain ⟨y, hy1⟩ := getElem?_of_lt hlt2
      obtain ⟨_, hx'⟩ := at_of hx1
      obtain ⟨_, hy'⟩ := at_of hy1
      have hxy : ¬ x = y := fun h => hn (by rw [hx1, hy1, h])
      have hsz := loop_ok (G := G) (PK := PK) (md := md) (o := 10000000) (live := [0, 1, 5]) (c := b25_0) (st25 l m) k hstep (by simp [b25_0, hlt, hlt2, hx', hy', hxy])
      have hlm : ¬ l = m := fun h => hn (by rw [h])
      simp only [hlm, decide_false]
      simp [p25, hlen']
      rw [hsz]
      · simp [b25_0, hlt, hlt2, hx', hy', hxy]
      · simp
      · simp
  · have hlen' : ¬ (l.length : Int) = m.length := by omega
    have hlm : ¬ l = m := fun h => hlen (by rw [h])
    simp only [hlm, decide_false]
    simp [p25, hlen, hlen']
@[simp] def st26 (l m : List (List Int)) (j : Nat) : St := { n := 27, m := 0, tm := [(0, .im 1 (enc fII l)), (1, .im 1 (enc fII m)), (5, .sc (.int .i64 j))], ob := [] }
theorem ev_eqIntSS (l m : List (List Int)) (hl : l.length ≤ 1048576) (hx : ∀ x ∈ l, x.length ≤ 1048576) : semK G PK md 26 [.v (.im 1 (enc fII l)), .v (.im 1 (enc fII m))] = some ⟨[.v (.sc (.bool (decide (l = m))))], [], []⟩ := by
  refine semK_of (pf := p26) rfl (by simp [p26]) ?_
  by_cases hlen : l.length = m.length
  · have hlen' : (l.length : Int) = m.length := by omega
    obtain ⟨k, hk, hp, hkn⟩ := first (fun j => l[j]? = m[j]?) l.length
    have hstep : ∀ j, j < k → ∃ s', exec (semK G PK md) (semL G PK md) md b26_0 (st26 l m j) = some (.normal, s') ∧ s'.m ≤ 10000000 ∧ canon 10000000 [0, 1, 5] s' = st26 l m (j + 1) := fun j hj => by
      have hlt : j < l.length := by omega
      have hlt2 : j < m.length := by omega
      obtain ⟨x, hx1⟩ := getElem?_of_lt hlt
      have hy1 : m[j]? = some x := (hp j hj).symm.trans hx1
      obtain ⟨_, hx'⟩ := at_of hx1
      obtain ⟨_, hy'⟩ := at_of hy1
      have he := ev_eqIntS (PK := PK) x x (hx x (List.mem_of_getElem? hx1))
      skip
      simp [b26_0, hlt, hlt2, hx', hy', incr hlt hl, he, md]
    rcases hkn with rfl | ⟨hlt, hn⟩
    · have hsz := loop_ok (G := G) (PK := PK) (md := md) (o := 10000000) (live := [0, 1, 5]) (c := b26_0) (st26 l m) l.length hstep (by simp [b26_0])
      have hlm : l = m := List.ext_getElem? fun i => by
        rcases Nat.lt_or_ge i l.length with h | h
        · exact hp i h
        · rw [List.getElem?_eq_none h, List.getElem?_eq_none (by omega)]
      subst hlm
      simp only [decide_true]
      simp [p26]
      rw [hsz]
      · simp [b26_0]
      · simp
      · simp
    · have hlt2 : k < m.length := by omega
      obtain ⟨x, hx1⟩ := getElem?_of_lt hlt
      obtain ⟨y, hy1⟩ := getElem?_of_lt hlt2
      obtain ⟨_, hx'⟩ := at_of hx1
      obtain ⟨_, hy'⟩ := at_of hy1
      have hxy : ¬ x = y := fun h => hn (by rw [hx1, hy1, h])
      have he := ev_eqIntS (PK := PK) x y (hx x (List.mem_of_getElem? hx1))
      skip
      have hsz := loop_ok (G := G) (PK := PK) (md := md) (o := 10000000) (live := [0, 1, 5]) (c := b26_0) (st26 l m) k hstep (by simp [b26_0, hlt, hlt2, hx', hy', hxy, he, md])
      have hlm : ¬ l = m := fun h => hn (by rw [h])
      simp only [hlm, decide_false]
      simp [p26, hlen']
      rw [hsz]
      · simp [b26_0, hlt, hlt2, hx', hy', hxy, he, md]
      · simp
      · simp
  · have hlen' : ¬ (l.length : Int) = m.length := by omega
    have hlm : ¬ l = m := fun h => hlen (by rw [h])
    simp only [hlm, decide_false]
    simp [p26, hlen, hlen']
theorem ev_eqMeta (x y : MetaD) (hl : szM x ≤ 1048576) : semK G PK md 23 [.a (lents (fM x)), .a (lents (fM y))] = some ⟨[.v (.sc (.bool (decide (x = y))))], [], []⟩ := by
  refine semK_of (pf := p23) rfl (by simp [p23]) ?_
  unfold szM at hl
  have e0 := ev_eqIntS (PK := PK) x.gens y.gens (by omega)
  by_cases c0 : x.gens = y.gens
  case neg =>
    have hd : ¬ x = y := fun h => c0 (by rw [h])
    simp only [c0, decide_false] at e0
    simp [p23, md, hd, e0]
  simp only [c0, decide_true] at e0
  have e1 := ev_eqIntSS (PK := PK) x.bits y.bits (by have h_ := hl; simp only [szs] at h_; omega) (fun z hz => by have h_ := hl; have g_ := sumN_mem (List.mem_map_of_mem (f := List.length) hz); simp only [szs] at h_; omega)
  by_cases c1 : x.bits = y.bits
  case neg =>
    have hd : ¬ x = y := fun h => c1 (by rw [h])
    simp only [c1, decide_false] at e1
    simp [p23, md, hd, e0, c0, e1]
  simp only [c1, decide_true] at e1
  by_cases c2 : x.fine = y.fine
  case neg =>
    have hd : ¬ x = y := fun h => c2 (by rw [h])
    simp [p23, md, hd, e0, c0, e1, c1, c2]
  by_cases c3 : x.old = y.old
  case neg =>
    have hd : ¬ x = y := fun h => c3 (by rw [h])
    simp [p23, md, hd, e0, c0, e1, c1, c2, c3]
  by_cases c4 : x.held = y.held
  case neg =>
    have hd : ¬ x = y := fun h => c4 (by rw [h])
    simp [p23, md, hd, e0, c0, e1, c1, c2, c3, c4]
  by_cases c5 : x.last = y.last
  case neg =>
    have hd : ¬ x = y := fun h => c5 (by rw [h])
    simp [p23, md, hd, e0, c0, e1, c1, c2, c3, c4, c5]
  have hd : x = y := by cases x; cases y; simp_all
  simp [p23, md, e0, c0, e1, c1, c2, c3, c4, c5, decide_eq_true hd]
theorem ev_eqSlots (x y : SlotsD) (hl : szSl x ≤ 1048576) : semK G PK md 24 [.a (lents (fSl x)), .a (lents (fSl y))] = some ⟨[.v (.sc (.bool (decide (x = y))))], [], []⟩ := by
  refine semK_of (pf := p24) rfl (by simp [p24]) ?_
  unfold szSl at hl
  have e0 := ev_eqByteS (PK := PK) x.a y.a (by omega)
  by_cases c0 : x.a = y.a
  case neg =>
    have hd : ¬ x = y := fun h => c0 (by rw [h])
    simp only [c0, decide_false] at e0
    simp [p24, md, hd, e0]
  simp only [c0, decide_true] at e0
  have e1 := ev_eqByteS (PK := PK) x.b y.b (by omega)
  by_cases c1 : x.b = y.b
  case neg =>
    have hd : ¬ x = y := fun h => c1 (by rw [h])
    simp only [c1, decide_false] at e1
    simp [p24, md, hd, e0, c0, e1]
  simp only [c1, decide_true] at e1
  have hd : x = y := by cases x; cases y; simp_all
  simp [p24, md, e0, c0, e1, c1, decide_eq_true hd]
theorem ev_eqNode (x y : NodeD) (hl : szN x ≤ 1048576) : semK G PK md 9 [.a (lents (fN x)), .a (lents (fN y))] = some ⟨[.v (.sc (.bool (decide (x = y))))], [], []⟩ := by
  refine semK_of (pf := p9) rfl (by simp [p9]) ?_
  unfold szN at hl
  by_cases c0 : x.id = y.id
  case neg =>
    have hd : ¬ x = y := fun h => c0 (by rw [h])
    simp [p9, md, hd, c0]
  by_cases c1 : x.up = y.up
  case neg =>
    have hd : ¬ x = y := fun h => c1 (by rw [h])
    simp [p9, md, hd, c0, c1]
  by_cases c2 : x.prime = y.prime
  case neg =>
    have hd : ¬ x = y := fun h => c2 (by rw [h])
    simp [p9, md, hd, c0, c1, c2]
  have e3 := ev_eqIntS (PK := PK) x.image y.image (by omega)
  by_cases c3 : x.image = y.image
  case neg =>
    have hd : ¬ x = y := fun h => c3 (by rw [h])
    simp only [c3, decide_false] at e3
    simp [p9, md, hd, c0, c1, c2, e3]
  simp only [c3, decide_true] at e3
  have e4 := ev_eqMeta (PK := PK) x.mt y.mt (by omega)
  simp only [lents, lent, fM] at e4
  by_cases c4 : x.mt = y.mt
  case neg =>
    have hd : ¬ x = y := fun h => c4 (by rw [h])
    simp only [c4, decide_false] at e4
    simp [p9, md, hd, c0, c1, c2, e3, c3, e4]
  simp only [c4, decide_true] at e4
  have e5 := ev_eqSlots (PK := PK) x.sl y.sl (by omega)
  simp only [lents, lent, fSl] at e5
  by_cases c5 : x.sl = y.sl
  case neg =>
    have hd : ¬ x = y := fun h => c5 (by rw [h])
    simp only [c5, decide_false] at e5
    simp [p9, md, hd, c0, c1, c2, e3, c3, e4, c4, e5]
  simp only [c5, decide_true] at e5
  have e6 := ev_eqBoolS (PK := PK) x.conn y.conn (by omega)
  by_cases c6 : x.conn = y.conn
  case neg =>
    have hd : ¬ x = y := fun h => c6 (by rw [h])
    simp only [c6, decide_false] at e6
    simp [p9, md, hd, c0, c1, c2, e3, c3, e4, c4, e5, c5, e6]
  simp only [c6, decide_true] at e6
  have e7 := ev_eqIntSS (PK := PK) x.sync y.sync (by have h_ := hl; simp only [szs] at h_; omega) (fun z hz => by have h_ := hl; have g_ := sumN_mem (List.mem_map_of_mem (f := List.length) hz); simp only [szs] at h_; omega)
  by_cases c7 : x.sync = y.sync
  case neg =>
    have hd : ¬ x = y := fun h => c7 (by rw [h])
    simp only [c7, decide_false] at e7
    simp [p9, md, hd, c0, c1, c2, e3, c3, e4, c4, e5, c5, e6, c6, e7]
  simp only [c7, decide_true] at e7
  have e8 := ev_eqBoolS (PK := PK) x.copies y.copies (by omega)
  by_cases c8 : x.copies = y.copies
  case neg =>
    have hd : ¬ x = y := fun h => c8 (by rw [h])
    simp only [c8, decide_false] at e8
    simp [p9, md, hd, c0, c1, c2, e3, c3, e4, c4, e5, c5, e6, c6, e7, c7, e8]
  simp only [c8, decide_true] at e8
  have e9 := ev_eqIntS (PK := PK) x.wait y.wait (by omega)
  by_cases c9 : x.wait = y.wait
  case neg =>
    have hd : ¬ x = y := fun h => c9 (by rw [h])
    simp only [c9, decide_false] at e9
    simp [p9, md, hd, c0, c1, c2, e3, c3, e4, c4, e5, c5, e6, c6, e7, c7, e8, c8, e9]
  simp only [c9, decide_true] at e9
  have hd : x = y := by cases x; cases y; simp_all
  simp [p9, md, c0, c1, c2, e3, c3, e4, c4, e5, c5, e6, c6, e7, c7, e8, c8, e9, c9, decide_eq_true hd]
end Go.Proofs.Ytoadbdeklcmdpaa.Ow
