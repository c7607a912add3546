/- Sizes, copies, comparisons: evaluated. -/
import Derived.Test.YtijlnmofehekdaaPFStoreNew
set_option linter.unusedVariables false
set_option linter.unusedSimpArgs false
namespace Go.Proofs.Ytijlnmofehekdaa.Ow
open Go
variable {PK : Nat → List Arg → Option Res}
@[simp] def st27 (l m : List (Int)) (j : Nat) : St := { n := 26, m := 0, tm := [(0, .im 1 (enc fI l)), (1, .im 1 (enc fI m)), (5, .sc (.int .i64 j))], ob := [] }
theorem ev_eqIntS (l m : List (Int)) (hl : l.length ≤ 1048576) : semK G PK md 27 [.v (.im 1 (enc fI l)), .v (.im 1 (enc fI m))] = some ⟨[.v (.sc (.bool (decide (l = m))))], [], []⟩ := by
  refine semK_of (pf := p27) rfl (by simp [p27]) ?_
  by_cases hlen : l.length = m.length
  · have hlen' : (l.length : Int) = m.length := by omega
    obtain ⟨k, hk, hp, hkn⟩ := first (fun j => l[j]? = m[j]?) l.length
    have hstep : ∀ j, j < k → ∃ s', exec (semK G PK md) (semL G PK md) md b27_0 (st27 l m j) = some (.normal, s') ∧ s'.m ≤ 10000000 ∧ canon 10000000 [0, 1, 5] s' = st27 l m (j + 1) := fun j hj => by
      have hlt : j < l.length := by omega
      have hlt2 : j < m.length := by omega
      obtain ⟨x, hx1⟩ := getElem?_of_lt hlt
      have hy1 : m[j]? = some x := (hp j hj).symm.trans hx1
      obtain ⟨_, hx'⟩ := at_of hx1
      obtain ⟨_, hy'⟩ := at_of hy1
      simp [b27_0, hlt, hlt2, hx', hy', incr hlt hl]
    rcases hkn with rfl | ⟨hlt, hn⟩
    · have hsz := loop_ok (G := G) (PK := PK) (md := md) (o := 10000000) (live := [0, 1, 5]) (c := b27_0) (st27 l m) l.length hstep (by simp [b27_0])
      have hlm : l = m := List.ext_getElem? fun i => by
        rcases Nat.lt_or_ge i l.length with h | h
        · exact hp i h
        · rw [List.getElem?_eq_none h, List.getElem?_eq_none (by omega)]
      subst hlm
      simp only [decide_true]
      simp [p27]
      rw [hsz]
      · simp [b27_0]
      · simp
      · simp
    · have hlt2 : k < m.length := by omega
      obtain ⟨x, hx1⟩ := getElem?_of_lt hlt
      obtain ⟨y, hy1⟩ := getElem?_of_lt hlt2
      obtain ⟨_, hx'⟩ := at_of hx1
      obtain ⟨_, hy'⟩ := at_of hy1
      have hxy : ¬ x = y := fun h => hn (by rw [hx1, hy1, h])
      have hsz := loop_ok (G := G) (PK := PK) (md := md) (o := 10000000) (live := [0, 1, 5]) (c := b27_0) (st27 l m) k hstep (by simp [b27_0, hlt, hlt2, hx', hy', hxy])
      have hlm : ¬ l = m := fun h => hn (by rw [h])
      simp only [hlm, decide_false]
      simp [p27, hlen']
      rw [hsz]
      · simp [b27_0, hlt, hlt2, hx', hy', hxy]
      · simp
      · simp
  · have hlen' : ¬ (l.length : Int) = m.length := by omega
    have hlm : ¬ l = m := fun h => hlen (by rw [h])
    simp only [hlm, decide_false]
    simp [p27, hlen, hlen']
@[simp] def st55 (l m : List (Int)) (j : Nat) : St := { n := 26, m := 0, tm := [(0, .im 1 (enc fU l)), (1, .im 1 (enc fU m)), (5, .sc (.int .i64 j))], ob := [] }
theorem ev_eqByteS (l m : List (Int)) (hl : l.length ≤ 1048576) : semK G PK md 55 [.v (.im 1 (enc fU l)), .v (.im 1 (enc fU m))] = some ⟨[.v (.sc (.bool (decide (l = m))))], [], []⟩ := by
  refine semK_of (pf := p55) rfl (by simp [p55]) ?_
  by_cases hlen : l.length = m.length
  · have hlen' : (l.length : Int) = m.length := by omega
    obtain ⟨k, hk, hp, hkn⟩ := first (fun j => l[j]? = m[j]?) l.length
    have hstep : ∀ j, j < k → ∃ s', exec (semK G PK md) (semL G PK md) md b55_0 (st55 l m j) = some (.normal, s') ∧ s'.m ≤ 10000000 ∧ canon 10000000 [0, 1, 5] s' = st55 l m (j + 1) := fun j hj => by
      have hlt : j < l.length := by omega
      have hlt2 : j < m.length := by omega
      obtain ⟨x, hx1⟩ := getElem?_of_lt hlt
      have hy1 : m[j]? = some x := (hp j hj).symm.trans hx1
      obtain ⟨_, hx'⟩ := at_of hx1
      obtain ⟨_, hy'⟩ := at_of hy1
      simp [b55_0, hlt, hlt2, hx', hy', incr hlt hl]
    rcases hkn with rfl | ⟨hlt, hn⟩
    · have hsz := loop_ok (G := G) (PK := PK) (md := md) (o := 10000000) (live := [0, 1, 5]) (c := b55_0) (st55 l m) l.length hstep (by simp [b55_0])
      have hlm : l = m := List.ext_getElem? fun i => by
        rcases Nat.lt_or_ge i l.length with h | h
        · exact hp i h
        · rw [List.getElem?_eq_none h, List.getElem?_eq_none (by omega)]
      subst hlm
      simp only [decide_true]
      simp [p55]
      rw [hsz]
      · simp [b55_0]
      · simp
      · simp
    · have hlt2 : k < m.length := by omega
      obtain ⟨x, hx1⟩ := getElem?_of_lt hlt
      obtain ⟨y, hy1⟩ := getElem?_of_lt hlt2
      obtain ⟨_, hx'⟩ := at_of hx1
      obtain ⟨_, hy'⟩ := at_of hy1
      have hxy : ¬ x = y := fun h => hn (by rw [hx1, hy1, h])
      have hsz := loop_ok (G := G) (PK := PK) (md := md) (o := 10000000) (live := [0, 1, 5]) (c := b55_0) (st55 l m) k hstep (by simp [b55_0, hlt, hlt2, hx', hy', hxy])
      have hlm : ¬ l = m := fun h => hn (by rw [h])
      simp only [hlm, decide_false]
      simp [p55, hlen']
      rw [hsz]
      · simp [b55_0, hlt, hlt2, hx', hy', hxy]
      · simp
      · simp
  · have hlen' : ¬ (l.length : Int) = m.length := by omega
    have hlm : ¬ l = m := fun h => hlen (by rw [h])
    simp only [hlm, decide_false]
    simp [p55, hlen, hlen']
@[simp] def st30 (l m : List (Bool)) (j : Nat) : St := { n := 26, m := 0, tm := [(0, .im 1 (enc fL l)), (1, .im 1 (enc fL m)), (5, .sc (.int .i64 j))], ob := [] }
theorem ev_eqBoolS (l m : List (Bool)) (hl : l.length ≤ 1048576) : semK G PK md 30 [.v (.im 1 (enc fL l)), .v (.im 1 (enc fL m))] = some ⟨[.v (.sc (.bool (decide (l = m))))], [], []⟩ := by
  refine semK_of (pf := p30) rfl (by simp [p30]) ?_
  by_cases hlen : l.length = m.length
  · have hlen' : (l.length : Int) = m.length := by omega
    obtain ⟨k, hk, hp, hkn⟩ := first (fun j => l[j]? = m[j]?) l.length
    have hstep : ∀ j, j < k → ∃ s', exec (semK G PK md) (semL G PK md) md b30_0 (st30 l m j) = some (.normal, s') ∧ s'.m ≤ 10000000 ∧ canon 10000000 [0, 1, 5] s' = st30 l m (j + 1) := fun j hj => by
      have hlt : j < l.length := by omega
      have hlt2 : j < m.length := by omega
      obtain ⟨x, hx1⟩ := getElem?_of_lt hlt
      have hy1 : m[j]? = some x := (hp j hj).symm.trans hx1
      obtain ⟨_, hx'⟩ := at_of hx1
      obtain ⟨_, hy'⟩ := at_of hy1
      simp [b30_0, hlt, hlt2, hx', hy', incr hlt hl]
    rcases hkn with rfl | ⟨hlt, hn⟩
    · have hsz := loop_ok (G := G) (PK := PK) (md := md) (o := 10000000) (live := [0, 1, 5]) (c := b30_0) (st30 l m) l.length hstep (by simp [b30_0])
      have hlm : l = m := List.ext_getElem? fun i => by
        rcases Nat.lt_or_ge i l.length with h | h
        · exact hp i h
        · rw [List.getElem?_eq_none h, List.getElem?_eq_none (by omega)]
      subst hlm
      simp only [decide_true]
      simp [p30]
      rw [hsz]
      · simp [b30_0]
      · simp
      · simp
    · have hlt2 : k < m.length := by omega
      obtain ⟨x, hx1⟩ := getElem?_of_lt hlt
      obtain ⟨y, hy1⟩ := getElem?_of_lt hlt2
      obtain ⟨_, hx'⟩ := at_of hx1
      obtain ⟨_, hy'⟩ := at_of hy1
      have hxy : ¬ x = y := fun h => hn (by rw [hx1, hy1, h])
      have hsz := loop_ok (G := G) (PK := PK) (md := md) (o := 10000000) (live := [0, 1, 5]) (c := b30_0) (st30 l m) k hstep (by simp [b30_0, hlt, hlt2, hx', hy', hxy])
      have hlm : ¬ l = m := fun h => hn (by rw [h])
      simp only [hlm, decide_false]
      simp [p30, hlen']
      rw [hsz]
      · simp [b30_0, hlt, hlt2, hx', hy', hxy]
      · simp
      · simp
  · have hlen' : ¬ (l.length : Int) = m.length := by omega
    have hlm : ¬ l = m := fun h => hlen (by rw [h])
    simp only [hlm, decide_false]
    simp [p30, hlen, hlen']
@[simp] def st31 (l m : List (List Int)) (j : Nat) : St := { n := 27, m := 0, tm := [(0, .im 1 (enc fII l)), (1, .im 1 (enc fII m)), (5, .sc (.int .i64 j))], ob := [] }
theorem ev_eqIntSS (l m : List (List Int)) (hl : l.length ≤ 1048576) (hx : ∀ x ∈ l, x.length ≤ 1048576) : semK G PK md 31 [.v (.im 1 (enc fII l)), .v (.im 1 (enc fII m))] = some ⟨[.v (.sc (.bool (decide (l = m))))], [], []⟩ := by
  refine semK_of (pf := p31) rfl (by simp [p31]) ?_
  by_cases hlen : l.length = m.length
  · have hlen' : (l.length : Int) = m.length := by omega
    obtain ⟨k, hk, hp, hkn⟩ := first (fun j => l[j]? = m[j]?) l.length
    have hstep : ∀ j, j < k → ∃ s', exec (semK G PK md) (semL G PK md) md b31_0 (st31 l m j) = some (.normal, s') ∧ s'.m ≤ 10000000 ∧ canon 10000000 [0, 1, 5] s' = st31 l m (j + 1) := fun j hj => by
      have hlt : j < l.length := by omega
      have hlt2 : j < m.length := by omega
      obtain ⟨x, hx1⟩ := getElem?_of_lt hlt
      have hy1 : m[j]? = some x := (hp j hj).symm.trans hx1
      obtain ⟨_, hx'⟩ := at_of hx1
      obtain ⟨_, hy'⟩ := at_of hy1
      have he := ev_eqIntS (PK := PK) x x (hx x (List.mem_of_getElem? hx1))
      skip
      simp [b31_0, hlt, hlt2, hx', hy', incr hlt hl, he, md]
    rcases hkn with rfl | ⟨hlt, hn⟩
    · have hsz := loop_ok (G := G) (PK := PK) (md := md) (o := 10000000) (live := [0, 1, 5]) (c := b31_0) (st31 l m) l.length hstep (by simp [b31_0])
      have hlm : l = m := List.ext_getElem? fun i => by
        rcases Nat.lt_or_ge i l.length with h | h
        · exact hp i h
        · rw [List.getElem?_eq_none h, List.getElem?_eq_none (by omega)]
      subst hlm
      simp only [decide_true]
      simp [p31]
      rw [hsz]
      · simp [b31_0]
      · simp
      · simp
    · have hlt2 : k < m.length := by omega
      obtain ⟨x, hx1⟩ := getElem?_of_lt hlt
      obtain ⟨y, hy1⟩ := getElem?_of_lt hlt2
      obtain ⟨_, hx'⟩ := at_of hx1
      obtain ⟨_, hy'⟩ := at_of hy1
      have hxy : ¬ x = y := fun h => hn (by rw [hx1, hy1, h])
      have he := ev_eqIntS (PK := PK) x y (hx x (List.mem_of_getElem? hx1))
      skip
      have hsz := loop_ok (G := G) (PK := PK) (md := md) (o := 10000000) (live := [0, 1, 5]) (c := b31_0) (st31 l m) k hstep (by simp [b31_0, hlt, hlt2, hx', hy', hxy, he, md])
      have hlm : ¬ l = m := fun h => hn (by rw [h])
      simp only [hlm, decide_false]
      simp [p31, hlen']
      rw [hsz]
      · simp [b31_0, hlt, hlt2, hx', hy', hxy, he, md]
      · simp
      · simp
  · have hlen' : ¬ (l.length : Int) = m.length := by omega
    have hlm : ¬ l = m := fun h => hlen (by rw [h])
    simp only [hlm, decide_false]
    simp [p31, hlen, hlen']
@[simp] def st35 (l m : List (List Int)) (j : Nat) : St := { n := 27, m := 0, tm := [(0, .im 1 (enc fUU l)), (1, .im 1 (enc fUU m)), (5, .sc (.int .i64 j))], ob := [] }
theorem ev_eqByteSS (l m : List (List Int)) (hl : l.length ≤ 1048576) (hx : ∀ x ∈ l, x.length ≤ 1048576) : semK G PK md 35 [.v (.im 1 (enc fUU l)), .v (.im 1 (enc fUU m))] = some ⟨[.v (.sc (.bool (decide (l = m))))], [], []⟩ := by
  refine semK_of (pf := p35) rfl (by simp [p35]) ?_
  by_cases hlen : l.length = m.length
  · have hlen' : (l.length : Int) = m.length := by omega
    obtain ⟨k, hk, hp, hkn⟩ := first (fun j => l[j]? = m[j]?) l.length
    have hstep : ∀ j, j < k → ∃ s', exec (semK G PK md) (semL G PK md) md b35_0 (st35 l m j) = some (.normal, s') ∧ s'.m ≤ 10000000 ∧ canon 10000000 [0, 1, 5] s' = st35 l m (j + 1) := fun j hj => by
      have hlt : j < l.length := by omega
      have hlt2 : j < m.length := by omega
      obtain ⟨x, hx1⟩ := getElem?_of_lt hlt
      have hy1 : m[j]? = some x := (hp j hj).symm.trans hx1
      obtain ⟨_, hx'⟩ := at_of hx1
      obtain ⟨_, hy'⟩ := at_of hy1
      have he := ev_eqByteS (PK := PK) x x (hx x (List.mem_of_getElem? hx1))
      skip
      simp [b35_0, hlt, hlt2, hx', hy', incr hlt hl, he, md]
    rcases hkn with rfl | ⟨hlt, hn⟩
    · have hsz := loop_ok (G := G) (PK := PK) (md := md) (o := 10000000) (live := [0, 1, 5]) (c := b35_0) (st35 l m) l.length hstep (by simp [b35_0])
      have hlm : l = m := List.ext_getElem? fun i => by
        rcases Nat.lt_or_ge i l.length with h | h
        · exact hp i h
        · rw [List.getElem?_eq_none h, List.getElem?_eq_none (by omega)]
      subst hlm
      simp only [decide_true]
      simp [p35]
      rw [hsz]
      · simp [b35_0]
      · simp
      · simp
    · have hlt2 : k < m.length := by omega
      obtain ⟨x, hx1⟩ := getElem?_of_lt hlt
      obtain ⟨y, hy1⟩ := getElem?_of_lt hlt2
      obtain ⟨_, hx'⟩ := at_of hx1
      obtain ⟨_, hy'⟩ := at_of hy1
      have hxy : ¬ x = y := fun h => hn (by rw [hx1, hy1, h])
      have he := ev_eqByteS (PK := PK) x y (hx x (List.mem_of_getElem? hx1))
      skip
      have hsz := loop_ok (G := G) (PK := PK) (md := md) (o := 10000000) (live := [0, 1, 5]) (c := b35_0) (st35 l m) k hstep (by simp [b35_0, hlt, hlt2, hx', hy', hxy, he, md])
      have hlm : ¬ l = m := fun h => hn (by rw [h])
      simp only [hlm, decide_false]
      simp [p35, hlen']
      rw [hsz]
      · simp [b35_0, hlt, hlt2, hx', hy', hxy, he, md]
      · simp
      · simp
  · have hlen' : ¬ (l.length : Int) = m.length := by omega
    have hlm : ¬ l = m := fun h => hlen (by rw [h])
    simp only [hlm, decide_false]
    simp [p35, hlen, hlen']
theorem ev_eqMeta (x y : MetaD) (hl : szM x ≤ 1048576) : semK G PK md 28 [.a (lents (fM x)), .a (lents (fM y))] = some ⟨[.v (.sc (.bool (decide (x = y))))], [], []⟩ := by
  refine semK_of (pf := p28) rfl (by simp [p28]) ?_
  unfold szM at hl
  have e0 := ev_eqIntS (PK := PK) x.gens y.gens (by omega)
  by_cases c0 : x.gens = y.gens
  case neg =>
    have hd : ¬ x = y := fun h => c0 (by rw [h])
    simp only [c0, decide_false] at e0
    simp [p28, md, hd, e0]
  simp only [c0, decide_true] at e0
  have e1 := ev_eqIntSS (PK := PK) x.bits y.bits (by have h_ := hl; simp only [szs] at h_; omega) (fun z hz => by have h_ := hl; have g_ := sumN_mem (List.mem_map_of_mem (f := List.length) hz); simp only [szs] at h_; omega)
  by_cases c1 : x.bits = y.bits
  case neg =>
    have hd : ¬ x = y := fun h => c1 (by rw [h])
    simp only [c1, decide_false] at e1
    simp [p28, md, hd, e0, c0, e1]
  simp only [c1, decide_true] at e1
  by_cases c2 : x.fine = y.fine
  case neg =>
    have hd : ¬ x = y := fun h => c2 (by rw [h])
    simp [p28, md, hd, e0, c0, e1, c1, c2]
  by_cases c3 : x.old = y.old
  case neg =>
    have hd : ¬ x = y := fun h => c3 (by rw [h])
    simp [p28, md, hd, e0, c0, e1, c1, c2, c3]
  by_cases c4 : x.held = y.held
  case neg =>
    have hd : ¬ x = y := fun h => c4 (by rw [h])
    simp [p28, md, hd, e0, c0, e1, c1, c2, c3, c4]
  by_cases c5 : x.last = y.last
  case neg =>
    have hd : ¬ x = y := fun h => c5 (by rw [h])
    simp [p28, md, hd, e0, c0, e1, c1, c2, c3, c4, c5]
  have hd : x = y := by cases x; cases y; simp_all
  simp [p28, md, e0, c0, e1, c1, c2, c3, c4, c5, decide_eq_true hd]
theorem ev_eqSlots (x y : SlotsD) (hl : szSl x ≤ 1048576) : semK G PK md 29 [.a (lents (fSl x)), .a (lents (fSl y))] = some ⟨[.v (.sc (.bool (decide (x = y))))], [], []⟩ := by
  refine semK_of (pf := p29) rfl (by simp [p29]) ?_
  unfold szSl at hl
  have e0 := ev_eqByteS (PK := PK) x.a y.a (by omega)
  by_cases c0 : x.a = y.a
  case neg =>
    have hd : ¬ x = y := fun h => c0 (by rw [h])
    simp only [c0, decide_false] at e0
    simp [p29, md, hd, e0]
  simp only [c0, decide_true] at e0
  have e1 := ev_eqByteS (PK := PK) x.b y.b (by omega)
  by_cases c1 : x.b = y.b
  case neg =>
    have hd : ¬ x = y := fun h => c1 (by rw [h])
    simp only [c1, decide_false] at e1
    simp [p29, md, hd, e0, c0, e1]
  simp only [c1, decide_true] at e1
  have hd : x = y := by cases x; cases y; simp_all
  simp [p29, md, e0, c0, e1, c1, decide_eq_true hd]
theorem ev_eqNode (x y : NodeD) (hl : szN x ≤ 1048576) : semK G PK md 9 [.a (lents (fN x)), .a (lents (fN y))] = some ⟨[.v (.sc (.bool (decide (x = y))))], [], []⟩ := by
  refine semK_of (pf := p9) rfl (by simp [p9]) ?_
  unfold szN at hl
  by_cases c0 : x.id = y.id
  case neg =>
    have hd : ¬ x = y := fun h => c0 (by rw [h])
    simp [p9, md, hd, c0]
  by_cases c1 : x.up = y.up
  case neg =>
    have hd : ¬ x = y := fun h => c1 (by rw [h])
    simp [p9, md, hd, c0, c1]
  by_cases c2 : x.prime = y.prime
  case neg =>
    have hd : ¬ x = y := fun h => c2 (by rw [h])
    simp [p9, md, hd, c0, c1, c2]
  have e3 := ev_eqIntS (PK := PK) x.image y.image (by omega)
  by_cases c3 : x.image = y.image
  case neg =>
    have hd : ¬ x = y := fun h => c3 (by rw [h])
    simp only [c3, decide_false] at e3
    simp [p9, md, hd, c0, c1, c2, e3]
  simp only [c3, decide_true] at e3
  have e4 := ev_eqMeta (PK := PK) x.mt y.mt (by omega)
  simp only [lents, lent, fM] at e4
  by_cases c4 : x.mt = y.mt
  case neg =>
    have hd : ¬ x = y := fun h => c4 (by rw [h])
    simp only [c4, decide_false] at e4
    simp [p9, md, hd, c0, c1, c2, e3, c3, e4]
  simp only [c4, decide_true] at e4
  have e5 := ev_eqSlots (PK := PK) x.sl y.sl (by omega)
  simp only [lents, lent, fSl] at e5
  by_cases c5 : x.sl = y.sl
  case neg =>
    have hd : ¬ x = y := fun h => c5 (by rw [h])
    simp only [c5, decide_false] at e5
    simp [p9, md, hd, c0, c1, c2, e3, c3, e4, c4, e5]
  simp only [c5, decide_true] at e5
  have e6 := ev_eqBoolS (PK := PK) x.conn y.conn (by omega)
  by_cases c6 : x.conn = y.conn
  case neg =>
    have hd : ¬ x = y := fun h => c6 (by rw [h])
    simp only [c6, decide_false] at e6
    simp [p9, md, hd, c0, c1, c2, e3, c3, e4, c4, e5, c5, e6]
  simp only [c6, decide_true] at e6
  have e7 := ev_eqIntSS (PK := PK) x.sync y.sync (by have h_ := hl; simp only [szs] at h_; omega) (fun z hz => by have h_ := hl; have g_ := sumN_mem (List.mem_map_of_mem (f := List.length) hz); simp only [szs] at h_; omega)
  by_cases c7 : x.sync = y.sync
  case neg =>
    have hd : ¬ x = y := fun h => c7 (by rw [h])
    simp only [c7, decide_false] at e7
    simp [p9, md, hd, c0, c1, c2, e3, c3, e4, c4, e5, c5, e6, c6, e7]
  simp only [c7, decide_true] at e7
  have e8 := ev_eqBoolS (PK := PK) x.copies y.copies (by omega)
  by_cases c8 : x.copies = y.copies
  case neg =>
    have hd : ¬ x = y := fun h => c8 (by rw [h])
    simp only [c8, decide_false] at e8
    simp [p9, md, hd, c0, c1, c2, e3, c3, e4, c4, e5, c5, e6, c6, e7, c7, e8]
  simp only [c8, decide_true] at e8
  have e9 := ev_eqIntS (PK := PK) x.wait y.wait (by omega)
  by_cases c9 : x.wait = y.wait
  case neg =>
    have hd : ¬ x = y := fun h => c9 (by rw [h])
    simp only [c9, decide_false] at e9
    simp [p9, md, hd, c0, c1, c2, e3, c3, e4, c4, e5, c5, e6, c6, e7, c7, e8, c8, e9]
  simp only [c9, decide_true] at e9
  have hd : x = y := by cases x; cases y; simp_all
  simp [p9, md, c0, c1, c2, e3, c3, e4, c4, e5, c5, e6, c6, e7, c7, e8, c8, e9, c9, decide_eq_true hd]
@[simp] def st58 (l m : List (NodeD)) (j : Nat) : St := { n := 27, m := 0, tm := [(0, .im 16 (enc fN l)), (1, .im 16 (enc fN m)), (5, .sc (.int .i64 j))], ob := [] }
theorem ev_eqNodeS (l m : List (NodeD)) (hl : l.length ≤ 1048576) (hx : ∀ x ∈ l, szN x ≤ 1048576) : semK G PK md 58 [.v (.im 16 (enc fN l)), .v (.im 16 (enc fN m))] = some ⟨[.v (.sc (.bool (decide (l = m))))], [], []⟩ := by
  refine semK_of (pf := p58) rfl (by simp [p58]) ?_
  by_cases hlen : l.length = m.length
  · have hlen' : (l.length : Int) = m.length := by omega
    obtain ⟨k, hk, hp, hkn⟩ := first (fun j => l[j]? = m[j]?) l.length
    have hstep : ∀ j, j < k → ∃ s', exec (semK G PK md) (semL G PK md) md b58_0 (st58 l m j) = some (.normal, s') ∧ s'.m ≤ 10000000 ∧ canon 10000000 [0, 1, 5] s' = st58 l m (j + 1) := fun j hj => by
      have hlt : j < l.length := by omega
      have hlt2 : j < m.length := by omega
      obtain ⟨x, hx1⟩ := getElem?_of_lt hlt
      have hy1 : m[j]? = some x := (hp j hj).symm.trans hx1
      obtain ⟨_, hx'⟩ := at_of hx1
      obtain ⟨_, hy'⟩ := at_of hy1
      have he := ev_eqNode (PK := PK) x x (hx x (List.mem_of_getElem? hx1))
      simp only [lents, lent, fN] at he
      simp [b58_0, hlt, hlt2, hx', hy', incr hlt hl, he, md]
    rcases hkn with rfl | ⟨hlt, hn⟩
    · have hsz := loop_ok (G := G) (PK := PK) (md := md) (o := 10000000) (live := [0, 1, 5]) (c := b58_0) (st58 l m) l.length hstep (by simp [b58_0])
      have hlm : l = m := List.ext_getElem? fun i => by
        rcases Nat.lt_or_ge i l.length with h | h
        · exact hp i h
        · rw [List.getElem?_eq_none h, List.getElem?_eq_none (by omega)]
      subst hlm
      simp only [decide_true]
      simp [p58]
      rw [hsz]
      · simp [b58_0]
      · simp
      · simp
    · have hlt2 : k < m.length := by omega
      obtain ⟨x, hx1⟩ := getElem?_of_lt hlt
      obtain ⟨y, hy1⟩ := getElem?_of_lt hlt2
      obtain ⟨_, hx'⟩ := at_of hx1
      obtain ⟨_, hy'⟩ := at_of hy1
      have hxy : ¬ x = y := fun h => hn (by rw [hx1, hy1, h])
      have he := ev_eqNode (PK := PK) x y (hx x (List.mem_of_getElem? hx1))
      simp only [lents, lent, fN] at he
      have hsz := loop_ok (G := G) (PK := PK) (md := md) (o := 10000000) (live := [0, 1, 5]) (c := b58_0) (st58 l m) k hstep (by simp [b58_0, hlt, hlt2, hx', hy', hxy, he, md])
      have hlm : ¬ l = m := fun h => hn (by rw [h])
      simp only [hlm, decide_false]
      simp [p58, hlen']
      rw [hsz]
      · simp [b58_0, hlt, hlt2, hx', hy', hxy, he, md]
      · simp
      · simp
  · have hlen' : ¬ (l.length : Int) = m.length := by omega
    have hlm : ¬ l = m := fun h => hlen (by rw [h])
    simp only [hlm, decide_false]
    simp [p58, hlen, hlen']
theorem ev_eqWire (x y : WireD) (hl : szW x ≤ 1048576) : semK G PK md 92 [.a (lents (fW x)), .a (lents (fW y))] = some ⟨[.v (.sc (.bool (decide (x = y))))], [], []⟩ := by
  refine semK_of (pf := p92) rfl (by simp [p92]) ?_
  unfold szW at hl
  by_cases c0 : x.src = y.src
  case neg =>
    have hd : ¬ x = y := fun h => c0 (by rw [h])
    simp [p92, md, hd, c0]
  by_cases c1 : x.dst = y.dst
  case neg =>
    have hd : ¬ x = y := fun h => c1 (by rw [h])
    simp [p92, md, hd, c0, c1]
  have e2 := ev_eqByteS (PK := PK) x.bytes y.bytes (by omega)
  by_cases c2 : x.bytes = y.bytes
  case neg =>
    have hd : ¬ x = y := fun h => c2 (by rw [h])
    simp only [c2, decide_false] at e2
    simp [p92, md, hd, c0, c1, e2]
  simp only [c2, decide_true] at e2
  have hd : x = y := by cases x; cases y; simp_all
  simp [p92, md, c0, c1, e2, c2, decide_eq_true hd]
@[simp] def st59 (l m : List (WireD)) (j : Nat) : St := { n := 27, m := 0, tm := [(0, .im 3 (enc fW l)), (1, .im 3 (enc fW m)), (5, .sc (.int .i64 j))], ob := [] }
theorem ev_eqWireS (l m : List (WireD)) (hl : l.length ≤ 1048576) (hx : ∀ x ∈ l, szW x ≤ 1048576) : semK G PK md 59 [.v (.im 3 (enc fW l)), .v (.im 3 (enc fW m))] = some ⟨[.v (.sc (.bool (decide (l = m))))], [], []⟩ := by
  refine semK_of (pf := p59) rfl (by simp [p59]) ?_
  by_cases hlen : l.length = m.length
  · have hlen' : (l.length : Int) = m.length := by omega
    obtain ⟨k, hk, hp, hkn⟩ := first (fun j => l[j]? = m[j]?) l.length
    have hstep : ∀ j, j < k → ∃ s', exec (semK G PK md) (semL G PK md) md b59_0 (st59 l m j) = some (.normal, s') ∧ s'.m ≤ 10000000 ∧ canon 10000000 [0, 1, 5] s' = st59 l m (j + 1) := fun j hj => by
      have hlt : j < l.length := by omega
      have hlt2 : j < m.length := by omega
      obtain ⟨x, hx1⟩ := getElem?_of_lt hlt
      have hy1 : m[j]? = some x := (hp j hj).symm.trans hx1
      obtain ⟨_, hx'⟩ := at_of hx1
      obtain ⟨_, hy'⟩ := at_of hy1
      have he := ev_eqWire (PK := PK) x x (hx x (List.mem_of_getElem? hx1))
      simp only [lents, lent, fW] at he
      simp [b59_0, hlt, hlt2, hx', hy', incr hlt hl, he, md]
    rcases hkn with rfl | ⟨hlt, hn⟩
    · have hsz := loop_ok (G := G) (PK := PK) (md := md) (o := 10000000) (live := [0, 1, 5]) (c := b59_0) (st59 l m) l.length hstep (by simp [b59_0])
      have hlm : l = m := List.ext_getElem? fun i => by
        rcases Nat.lt_or_ge i l.length with h | h
        · exact hp i h
        · rw [List.getElem?_eq_none h, List.getElem?_eq_none (by omega)]
      subst hlm
      simp only [decide_true]
      simp [p59]
      rw [hsz]
      · simp [b59_0]
      · simp
      · simp
    · have hlt2 : k < m.length := by omega
      obtain ⟨x, hx1⟩ := getElem?_of_lt hlt
      obtain ⟨y, hy1⟩ := getElem?_of_lt hlt2
      obtain ⟨_, hx'⟩ := at_of hx1
      obtain ⟨_, hy'⟩ := at_of hy1
      have hxy : ¬ x = y := fun h => hn (by rw [hx1, hy1, h])
      have he := ev_eqWire (PK := PK) x y (hx x (List.mem_of_getElem? hx1))
      simp only [lents, lent, fW] at he
      have hsz := loop_ok (G := G) (PK := PK) (md := md) (o := 10000000) (live := [0, 1, 5]) (c := b59_0) (st59 l m) k hstep (by simp [b59_0, hlt, hlt2, hx', hy', hxy, he, md])
      have hlm : ¬ l = m := fun h => hn (by rw [h])
      simp only [hlm, decide_false]
      simp [p59, hlen']
      rw [hsz]
      · simp [b59_0, hlt, hlt2, hx', hy', hxy, he, md]
      · simp
      · simp
  · have hlen' : ¬ (l.length : Int) = m.length := by omega
    have hlm : ¬ l = m := fun h => hlen (by rw [h])
    simp only [hlm, decide_false]
    simp [p59, hlen, hlen']
theorem ev_eqRec (x y : RecD) : semK G PK md 93 [.a (lents (fR x)), .a (lents (fR y))] = some ⟨[.v (.sc (.bool (decide (x = y))))], [], []⟩ := by
  refine semK_of (pf := p93) rfl (by simp [p93]) ?_
  by_cases c0 : x.cell = y.cell
  case neg =>
    have hd : ¬ x = y := fun h => c0 (by rw [h])
    simp [p93, md, hd, c0]
  by_cases c1 : x.up = y.up
  case neg =>
    have hd : ¬ x = y := fun h => c1 (by rw [h])
    simp [p93, md, hd, c0, c1]
  have hd : x = y := by cases x; cases y; simp_all
  simp [p93, md, c0, c1, decide_eq_true hd]
@[simp] def st60 (l m : List (RecD)) (j : Nat) : St := { n := 27, m := 0, tm := [(0, .im 2 (enc fR l)), (1, .im 2 (enc fR m)), (5, .sc (.int .i64 j))], ob := [] }
theorem ev_eqRecS (l m : List (RecD)) (hl : l.length ≤ 1048576) : semK G PK md 60 [.v (.im 2 (enc fR l)), .v (.im 2 (enc fR m))] = some ⟨[.v (.sc (.bool (decide (l = m))))], [], []⟩ := by
  refine semK_of (pf := p60) rfl (by simp [p60]) ?_
  by_cases hlen : l.length = m.length
  · have hlen' : (l.length : Int) = m.length := by omega
    obtain ⟨k, hk, hp, hkn⟩ := first (fun j => l[j]? = m[j]?) l.length
    have hstep : ∀ j, j < k → ∃ s', exec (semK G PK md) (semL G PK md) md b60_0 (st60 l m j) = some (.normal, s') ∧ s'.m ≤ 10000000 ∧ canon 10000000 [0, 1, 5] s' = st60 l m (j + 1) := fun j hj => by
      have hlt : j < l.length := by omega
      have hlt2 : j < m.length := by omega
      obtain ⟨x, hx1⟩ := getElem?_of_lt hlt
      have hy1 : m[j]? = some x := (hp j hj).symm.trans hx1
      obtain ⟨_, hx'⟩ := at_of hx1
      obtain ⟨_, hy'⟩ := at_of hy1
      have he := ev_eqRec (PK := PK) x x 
      simp only [lents, lent, fR] at he
      simp [b60_0, hlt, hlt2, hx', hy', incr hlt hl, he, md]
    rcases hkn with rfl | ⟨hlt, hn⟩
    · have hsz := loop_ok (G := G) (PK := PK) (md := md) (o := 10000000) (live := [0, 1, 5]) (c := b60_0) (st60 l m) l.length hstep (by simp [b60_0])
      have hlm : l = m := List.ext_getElem? fun i => by
        rcases Nat.lt_or_ge i l.length with h | h
        · exact hp i h
        · rw [List.getElem?_eq_none h, List.getElem?_eq_none (by omega)]
      subst hlm
      simp only [decide_true]
      simp [p60]
      rw [hsz]
      · simp [b60_0]
      · simp
      · simp
    · have hlt2 : k < m.length := by omega
      obtain ⟨x, hx1⟩ := getElem?_of_lt hlt
      obtain ⟨y, hy1⟩ := getElem?_of_lt hlt2
      obtain ⟨_, hx'⟩ := at_of hx1
      obtain ⟨_, hy'⟩ := at_of hy1
      have hxy : ¬ x = y := fun h => hn (by rw [hx1, hy1, h])
      have he := ev_eqRec (PK := PK) x y 
      simp only [lents, lent, fR] at he
      have hsz := loop_ok (G := G) (PK := PK) (md := md) (o := 10000000) (live := [0, 1, 5]) (c := b60_0) (st60 l m) k hstep (by simp [b60_0, hlt, hlt2, hx', hy', hxy, he, md])
      have hlm : ¬ l = m := fun h => hn (by rw [h])
      simp only [hlm, decide_false]
      simp [p60, hlen']
      rw [hsz]
      · simp [b60_0, hlt, hlt2, hx', hy', hxy, he, md]
      · simp
      · simp
  · have hlen' : ¬ (l.length : Int) = m.length := by omega
    have hlm : ¬ l = m := fun h => hlen (by rw [h])
    simp only [hlm, decide_false]
    simp [p60, hlen, hlen']
theorem ev_eqWorld (x y : WorldD) (hl : szWo x ≤ 1048576) : semK G PK md 34 [.a (lents (fWo x)), .a (lents (fWo y))] = some ⟨[.v (.sc (.bool (decide (x = y))))], [], []⟩ := by
  refine semK_of (pf := p34) rfl (by simp [p34]) ?_
  unfold szWo at hl
  have e0 := ev_eqNodeS (PK := PK) x.nodes y.nodes (by have h_ := hl; simp only [szs] at h_; omega) (fun z hz => by have h_ := hl; have g_ := sumN_mem (List.mem_map_of_mem (f := szN) hz); simp only [szs] at h_; omega)
  by_cases c0 : x.nodes = y.nodes
  case neg =>
    have hd : ¬ x = y := fun h => c0 (by rw [h])
    simp only [c0, decide_false] at e0
    simp [p34, md, hd, e0]
  simp only [c0, decide_true] at e0
  have e1 := ev_eqWireS (PK := PK) x.net y.net (by have h_ := hl; simp only [szs] at h_; omega) (fun z hz => by have h_ := hl; have g_ := sumN_mem (List.mem_map_of_mem (f := szW) hz); simp only [szs] at h_; omega)
  by_cases c1 : x.net = y.net
  case neg =>
    have hd : ¬ x = y := fun h => c1 (by rw [h])
    simp only [c1, decide_false] at e1
    simp [p34, md, hd, e0, c0, e1]
  simp only [c1, decide_true] at e1
  have e2 := ev_eqRecS (PK := PK) x.log y.log (by omega)
  by_cases c2 : x.log = y.log
  case neg =>
    have hd : ¬ x = y := fun h => c2 (by rw [h])
    simp only [c2, decide_false] at e2
    simp [p34, md, hd, e0, c0, e1, c1, e2]
  simp only [c2, decide_true] at e2
  have e3 := ev_eqIntS (PK := PK) x.safe y.safe (by omega)
  by_cases c3 : x.safe = y.safe
  case neg =>
    have hd : ¬ x = y := fun h => c3 (by rw [h])
    simp only [c3, decide_false] at e3
    simp [p34, md, hd, e0, c0, e1, c1, e2, c2, e3]
  simp only [c3, decide_true] at e3
  by_cases c4 : x.gen = y.gen
  case neg =>
    have hd : ¬ x = y := fun h => c4 (by rw [h])
    simp [p34, md, hd, e0, c0, e1, c1, e2, c2, e3, c3, c4]
  have hd : x = y := by cases x; cases y; simp_all
  simp [p34, md, e0, c0, e1, c1, e2, c2, e3, c3, c4, decide_eq_true hd]
theorem ev_eqStore (x y : StoreD) (hl : szSt x ≤ 1048576) : semK G PK md 12 [.a (lents (fSt x)), .a (lents (fSt y))] = some ⟨[.v (.sc (.bool (decide (x = y))))], [], []⟩ := by
  refine semK_of (pf := p12) rfl (by simp [p12]) ?_
  unfold szSt at hl
  have e0 := ev_eqWorld (PK := PK) x.w y.w (by omega)
  simp only [lents, lent, fWo] at e0
  by_cases c0 : x.w = y.w
  case neg =>
    have hd : ¬ x = y := fun h => c0 (by rw [h])
    simp only [c0, decide_false] at e0
    simp [p12, md, hd, e0]
  simp only [c0, decide_true] at e0
  have e1 := ev_eqByteSS (PK := PK) x.blocks y.blocks (by have h_ := hl; simp only [szs] at h_; omega) (fun z hz => by have h_ := hl; have g_ := sumN_mem (List.mem_map_of_mem (f := List.length) hz); simp only [szs] at h_; omega)
  by_cases c1 : x.blocks = y.blocks
  case neg =>
    have hd : ¬ x = y := fun h => c1 (by rw [h])
    simp only [c1, decide_false] at e1
    simp [p12, md, hd, e0, c0, e1]
  simp only [c1, decide_true] at e1
  have hd : x = y := by cases x; cases y; simp_all
  simp [p12, md, e0, c0, e1, c1, decide_eq_true hd]
end Go.Proofs.Ytijlnmofehekdaa.Ow
