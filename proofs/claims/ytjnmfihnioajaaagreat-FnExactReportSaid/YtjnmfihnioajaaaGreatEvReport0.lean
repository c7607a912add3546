/- Sizes, copies, comparisons: evaluated. -/
import Derived.Test.YtjnmfihnioajaaaGreatPFReport
set_option linter.unusedVariables false
set_option linter.unusedSimpArgs false
namespace Go.Proofs.YtjnmfihnioajaaaGreat.Ow
open Go
variable {PK : Nat → List Arg → Option Res}
theorem ev_szIntS (rows : List (List T)) (left : Int) (h0 : 0 ≤ left) (h1 : left ≤ 1048576) (hr : rows.length ≤ 9223372036854775807) :
    semK G PK md 36 [.v (.im 1 rows), .v (.sc (.int .i64 left))] = some ⟨[.v (.sc (.int .i64 (szr left rows.length)))], [], []⟩ := by
  have hw : IntKind.wrap .i64 (left - (rows.length : Int)) = left - rows.length := wrap_id (by omega) (by omega)
  refine semK_of (pf := p36) rfl (by simp [p36]) ?_
  by_cases h : left < rows.length
  · have h' : left - (rows.length : Int) < 0 := by omega
    simp [p36, hw, h', szr, h]
  · have h' : ¬ left - (rows.length : Int) < 0 := by omega
    simp [p36, hw, h', szr, h]
@[simp] def st20 (l : List (Int)) (j : Nat) : St := { n := 22, m := 0, tm := [(0, .im 1 (enc fI l)), (3, .ref 10000000 []), (4, .sc (.int .i64 j))], ob := [(10000000, .arr 1 (enc fI (cp 0 l j)))] }
theorem ev_toIntS (l : List (Int)) (hl : l.length ≤ 1048576) : semK G PK md 20 [.v (.im 1 (enc fI l))] = some ⟨[.v (.own 1 (enc fI l))], [], []⟩ := by
  refine semK_of (pf := p20) rfl (by simp [p20]) ?_
  have hstep : ∀ j, j < l.length → ∃ s', exec (semK G PK md) (semL G PK md) md b20_0 (st20 l j) = some (.normal, s') ∧ s'.m ≤ 10000000 ∧ canon 10000000 [0, 3, 4] s' = st20 l (j + 1) := fun j hlt => by
    obtain ⟨x, hx1⟩ := getElem?_of_lt hlt
    obtain ⟨_, hx'⟩ := at_of hx1
    have hc := cp_len 0 l (Nat.le_of_lt hlt)
    have hg := cp_at 0 l hlt
    have hset := cp_set 0 l hx1
    have hes := enc_set fI (cp 0 l j) j x
    simp only [fI] at hes
    simp [b20_0, hlt, hx', incr hlt hl, hc, hg, hes, hset]
  have hsz := loop_ok (G := G) (PK := PK) (md := md) (o := 10000000) (live := [0, 3, 4]) (c := b20_0) (st20 l) l.length hstep (by simp [b20_0])
  have hb : l.length * 8 ≤ 35184372088832 := by omega
  have hb1 : l.length ≤ 35184372088832 := by omega
  have hrep : enc fI (cp 0 l 0) = List.replicate l.length (fI 0) := by rw [cp_zero, enc_rep]
  simp only [fI] at hrep
  simp [p20, hb, hb1, hrep, hsz]
  simp [b20_0, cp_all]
@[simp] def st22 (l m : List (Int)) (j : Nat) : St := { n := 26, m := 0, tm := [(0, .im 1 (enc fI l)), (1, .im 1 (enc fI m)), (5, .sc (.int .i64 j))], ob := [] }
theorem ev_eqIntS (l m : List (Int)) (hl : l.length ≤ 1048576) : semK G PK md 22 [.v (.im 1 (enc fI l)), .v (.im 1 (enc fI m))] = some ⟨[.v (.sc (.bool (decide (l = m))))], [], []⟩ := by
  refine semK_of (pf := p22) rfl (by simp [p22]) ?_
  by_cases hlen : l.length = m.length
  · have hlen' : (l.length : Int) = m.length := by omega
    obtain ⟨k, hk, hp, hkn⟩ := first (fun j => l[j]? = m[j]?) l.length
    have hstep : ∀ j, j < k → ∃ s', exec (semK G PK md) (semL G PK md) md b22_0 (st22 l m j) = some (.normal, s') ∧ s'.m ≤ 10000000 ∧ canon 10000000 [0, 1, 5] s' = st22 l m (j + 1) := fun j hj => by
      have hlt : j < l.length := by omega
      have hlt2 : j < m.length := by omega
      obtain ⟨x, hx1⟩ := getElem?_of_lt hlt
      have hy1 : m[j]? = some x := (hp j hj).symm.trans hx1
      obtain ⟨_, hx'⟩ := at_of hx1
      obtain ⟨_, hy'⟩ := at_of hy1
      simp [b22_0, hlt, hlt2, hx', hy', incr hlt hl]
    rcases hkn with rfl | ⟨hlt, hn⟩
    · have hsz := loop_ok (G := G) (PK := PK) (md := md) (o := 10000000) (live := [0, 1, 5]) (c := b22_0) (st22 l m) l.length hstep (by simp [b22_0])
      have hlm : l = m := List.ext_getElem? fun i => by
        rcases Nat.lt_or_ge i l.length with h | h
        · exact hp i h
        · rw [List.getElem?_eq_none h, List.getElem?_eq_none (by omega)]
      subst hlm
      simp only [decide_true]
      simp [p22]
      rw [hsz]
      · simp [b22_0]
      · simp
      · simp
    · have hlt2 : k < m.length := by omega
      obtain ⟨x, hx1⟩ := getElem?_of_lt hlt
      obtain ⟨y, hy1⟩ := getElem?_of_lt hlt2
      obtain ⟨_, hx'⟩ := at_of hx1
      obtain ⟨_, hy'⟩ := at_of hy1
      have hxy : ¬ x = y := fun h => hn (by rw [hx1, hy1, h])
      have hsz := loop_ok (G := G) (PK := PK) (md := md) (o := 10000000) (live := [0, 1, 5]) (c := b22_0) (st22 l m) k hstep (by simp [b22_0, hlt, hlt2, hx', hy', hxy])
      have hlm : ¬ l = m := fun h => hn (by rw [h])
      simp only [hlm, decide_false]
      simp [p22, hlen']
      rw [hsz]
      · simp [b22_0, hlt, hlt2, hx', hy', hxy]
      · simp
      · simp
  · have hlen' : ¬ (l.length : Int) = m.length := by omega
    have hlm : ¬ l = m := fun h => hlen (by rw [h])
    simp only [hlm, decide_false]
    simp [p22, hlen, hlen']
theorem ev_szByteS (rows : List (List T)) (left : Int) (h0 : 0 ≤ left) (h1 : left ≤ 1048576) (hr : rows.length ≤ 9223372036854775807) :
    semK G PK md 90 [.v (.im 1 rows), .v (.sc (.int .i64 left))] = some ⟨[.v (.sc (.int .i64 (szr left rows.length)))], [], []⟩ := by
  have hw : IntKind.wrap .i64 (left - (rows.length : Int)) = left - rows.length := wrap_id (by omega) (by omega)
  refine semK_of (pf := p90) rfl (by simp [p90]) ?_
  by_cases h : left < rows.length
  · have h' : left - (rows.length : Int) < 0 := by omega
    simp [p90, hw, h', szr, h]
  · have h' : ¬ left - (rows.length : Int) < 0 := by omega
    simp [p90, hw, h', szr, h]
@[simp] def st91 (l : List (Int)) (j : Nat) : St := { n := 22, m := 0, tm := [(0, .im 1 (enc fU l)), (3, .ref 10000000 []), (4, .sc (.int .i64 j))], ob := [(10000000, .arr 1 (enc fU (cp 0 l j)))] }
theorem ev_toByteS (l : List (Int)) (hl : l.length ≤ 1048576) : semK G PK md 91 [.v (.im 1 (enc fU l))] = some ⟨[.v (.own 1 (enc fU l))], [], []⟩ := by
  refine semK_of (pf := p91) rfl (by simp [p91]) ?_
  have hstep : ∀ j, j < l.length → ∃ s', exec (semK G PK md) (semL G PK md) md b91_0 (st91 l j) = some (.normal, s') ∧ s'.m ≤ 10000000 ∧ canon 10000000 [0, 3, 4] s' = st91 l (j + 1) := fun j hlt => by
    obtain ⟨x, hx1⟩ := getElem?_of_lt hlt
    obtain ⟨_, hx'⟩ := at_of hx1
    have hc := cp_len 0 l (Nat.le_of_lt hlt)
    have hg := cp_at 0 l hlt
    have hset := cp_set 0 l hx1
    have hes := enc_set fU (cp 0 l j) j x
    simp only [fU] at hes
    simp [b91_0, hlt, hx', incr hlt hl, hc, hg, hes, hset]
  have hsz := loop_ok (G := G) (PK := PK) (md := md) (o := 10000000) (live := [0, 3, 4]) (c := b91_0) (st91 l) l.length hstep (by simp [b91_0])
  have hb : l.length * 1 ≤ 35184372088832 := by omega
  have hb1 : l.length ≤ 35184372088832 := by omega
  have hrep : enc fU (cp 0 l 0) = List.replicate l.length (fU 0) := by rw [cp_zero, enc_rep]
  simp only [fU] at hrep
  simp [p91, hb, hb1, hrep, hsz]
  simp [b91_0, cp_all]
@[simp] def st93 (l m : List (Int)) (j : Nat) : St := { n := 26, m := 0, tm := [(0, .im 1 (enc fU l)), (1, .im 1 (enc fU m)), (5, .sc (.int .i64 j))], ob := [] }
theorem ev_eqByteS (l m : List (Int)) (hl : l.length ≤ 1048576) : semK G PK md 93 [.v (.im 1 (enc fU l)), .v (.im 1 (enc fU m))] = some ⟨[.v (.sc (.bool (decide (l = m))))], [], []⟩ := by
  refine semK_of (pf := p93) rfl (by simp [p93]) ?_
  by_cases hlen : l.length = m.length
  · have hlen' : (l.length : Int) = m.length := by omega
    obtain ⟨k, hk, hp, hkn⟩ := first (fun j => l[j]? = m[j]?) l.length
    have hstep : ∀ j, j < k → ∃ s', exec (semK G PK md) (semL G PK md) md b93_0 (st93 l m j) = some (.normal, s') ∧ s'.m ≤ 10000000 ∧ canon 10000000 [0, 1, 5] s' = st93 l m (j + 1) := fun j hj => by
      have hlt : j < l.length := by omega
      have hlt2 : j < m.length := by omega
      obtain ⟨x, hx1⟩ := getElem?_of_lt hlt
      have hy1 : m[j]? = some x := (hp j hj).symm.trans hx1
      obtain ⟨_, hx'⟩ := at_of hx1
      obtain ⟨_, hy'⟩ := at_of hy1
      simp [b93_0, hlt, hlt2, hx', hy', incr hlt hl]
    rcases hkn with rfl | ⟨hlt, hn⟩
    · have hsz := loop_ok (G := G) (PK := PK) (md := md) (o := 10000000) (live := [0, 1, 5]) (c := b93_0) (st93 l m) l.length hstep (by simp [b93_0])
      have hlm : l = m := List.ext_getElem? fun i => by
        rcases Nat.lt_or_ge i l.length with h | h
        · exact hp i h
        · rw [List.getElem?_eq_none h, List.getElem?_eq_none (by omega)]
      subst hlm
      simp only [decide_true]
      simp [p93]
      rw [hsz]
      · simp [b93_0]
      · simp
      · simp
    · have hlt2 : k < m.length := by omega
      obtain ⟨x, hx1⟩ := getElem?_of_lt hlt
      obtain ⟨y, hy1⟩ := getElem?_of_lt hlt2
      obtain ⟨_, hx'⟩ := at_of hx1
      obtain ⟨_, hy'⟩ := at_of hy1
      have hxy : ¬ x = y := fun h => hn (by rw [hx1, hy1, h])
      have hsz := loop_ok (G := G) (PK := PK) (md := md) (o := 10000000) (live := [0, 1, 5]) (c := b93_0) (st93 l m) k hstep (by simp [b93_0, hlt, hlt2, hx', hy', hxy])
      have hlm : ¬ l = m := fun h => hn (by rw [h])
      simp only [hlm, decide_false]
      simp [p93, hlen']
      rw [hsz]
      · simp [b93_0, hlt, hlt2, hx', hy', hxy]
      · simp
      · simp
  · have hlen' : ¬ (l.length : Int) = m.length := by omega
    have hlm : ¬ l = m := fun h => hlen (by rw [h])
    simp only [hlm, decide_false]
    simp [p93, hlen, hlen']
theorem ev_szBoolS (rows : List (List T)) (left : Int) (h0 : 0 ≤ left) (h1 : left ≤ 1048576) (hr : rows.length ≤ 9223372036854775807) :
    semK G PK md 107 [.v (.im 1 rows), .v (.sc (.int .i64 left))] = some ⟨[.v (.sc (.int .i64 (szr left rows.length)))], [], []⟩ := by
  have hw : IntKind.wrap .i64 (left - (rows.length : Int)) = left - rows.length := wrap_id (by omega) (by omega)
  refine semK_of (pf := p107) rfl (by simp [p107]) ?_
  by_cases h : left < rows.length
  · have h' : left - (rows.length : Int) < 0 := by omega
    simp [p107, hw, h', szr, h]
  · have h' : ¬ left - (rows.length : Int) < 0 := by omega
    simp [p107, hw, h', szr, h]
@[simp] def st116 (l : List (Bool)) (j : Nat) : St := { n := 22, m := 0, tm := [(0, .im 1 (enc fL l)), (3, .ref 10000000 []), (4, .sc (.int .i64 j))], ob := [(10000000, .arr 1 (enc fL (cp false l j)))] }
theorem ev_toBoolS (l : List (Bool)) (hl : l.length ≤ 1048576) : semK G PK md 116 [.v (.im 1 (enc fL l))] = some ⟨[.v (.own 1 (enc fL l))], [], []⟩ := by
  refine semK_of (pf := p116) rfl (by simp [p116]) ?_
  have hstep : ∀ j, j < l.length → ∃ s', exec (semK G PK md) (semL G PK md) md b116_0 (st116 l j) = some (.normal, s') ∧ s'.m ≤ 10000000 ∧ canon 10000000 [0, 3, 4] s' = st116 l (j + 1) := fun j hlt => by
    obtain ⟨x, hx1⟩ := getElem?_of_lt hlt
    obtain ⟨_, hx'⟩ := at_of hx1
    have hc := cp_len false l (Nat.le_of_lt hlt)
    have hg := cp_at false l hlt
    have hset := cp_set false l hx1
    have hes := enc_set fL (cp false l j) j x
    simp only [fL] at hes
    simp [b116_0, hlt, hx', incr hlt hl, hc, hg, hes, hset]
  have hsz := loop_ok (G := G) (PK := PK) (md := md) (o := 10000000) (live := [0, 3, 4]) (c := b116_0) (st116 l) l.length hstep (by simp [b116_0])
  have hb : l.length * 1 ≤ 35184372088832 := by omega
  have hb1 : l.length ≤ 35184372088832 := by omega
  have hrep : enc fL (cp false l 0) = List.replicate l.length (fL false) := by rw [cp_zero, enc_rep]
  simp only [fL] at hrep
  simp [p116, hb, hb1, hrep, hsz]
  simp [b116_0, cp_all]
@[simp] def st121 (l m : List (Bool)) (j : Nat) : St := { n := 26, m := 0, tm := [(0, .im 1 (enc fL l)), (1, .im 1 (enc fL m)), (5, .sc (.int .i64 j))], ob := [] }
theorem ev_eqBoolS (l m : List (Bool)) (hl : l.length ≤ 1048576) : semK G PK md 121 [.v (.im 1 (enc fL l)), .v (.im 1 (enc fL m))] = some ⟨[.v (.sc (.bool (decide (l = m))))], [], []⟩ := by
  refine semK_of (pf := p121) rfl (by simp [p121]) ?_
  by_cases hlen : l.length = m.length
  · have hlen' : (l.length : Int) = m.length := by omega
    obtain ⟨k, hk, hp, hkn⟩ := first (fun j => l[j]? = m[j]?) l.length
    have hstep : ∀ j, j < k → ∃ s', exec (semK G PK md) (semL G PK md) md b121_0 (st121 l m j) = some (.normal, s') ∧ s'.m ≤ 10000000 ∧ canon 10000000 [0, 1, 5] s' = st121 l m (j + 1) := fun j hj => by
      have hlt : j < l.length := by omega
      have hlt2 : j < m.length := by omega
      obtain ⟨x, hx1⟩ := getElem?_of_lt hlt
      have hy1 : m[j]? = some x := (hp j hj).symm.trans hx1
      obtain ⟨_, hx'⟩ := at_of hx1
      obtain ⟨_, hy'⟩ := at_of hy1
      simp [b121_0, hlt, hlt2, hx', hy', incr hlt hl]
    rcases hkn with rfl | ⟨hlt, hn⟩
    · have hsz := loop_ok (G := G) (PK := PK) (md := md) (o := 10000000) (live := [0, 1, 5]) (c := b121_0) (st121 l m) l.length hstep (by simp [b121_0])
      have hlm : l = m := List.ext_getElem? fun i => by
        rcases Nat.lt_or_ge i l.length with h | h
        · exact hp i h
        · rw [List.getElem?_eq_none h, List.getElem?_eq_none (by omega)]
      subst hlm
      simp only [decide_true]
      simp [p121]
      rw [hsz]
      · simp [b121_0]
      · simp
      · simp
    · have hlt2 : k < m.length := by omega
      obtain ⟨x, hx1⟩ := getElem?_of_lt hlt
      obtain ⟨y, hy1⟩ := getElem?_of_lt hlt2
      obtain ⟨_, hx'⟩ := at_of hx1
      obtain ⟨_, hy'⟩ := at_of hy1
      have hxy : ¬ x = y := fun h => hn (by rw [hx1, hy1, h])
      have hsz := loop_ok (G := G) (PK := PK) (md := md) (o := 10000000) (live := [0, 1, 5]) (c := b121_0) (st121 l m) k hstep (by simp [b121_0, hlt, hlt2, hx', hy', hxy])
      have hlm : ¬ l = m := fun h => hn (by rw [h])
      simp only [hlm, decide_false]
      simp [p121, hlen']
      rw [hsz]
      · simp [b121_0, hlt, hlt2, hx', hy', hxy]
      · simp
      · simp
  · have hlen' : ¬ (l.length : Int) = m.length := by omega
    have hlm : ¬ l = m := fun h => hlen (by rw [h])
    simp only [hlm, decide_false]
    simp [p121, hlen, hlen']
@[simp] def st108 (ll : List (List Int)) (left : Int) (j : Nat) : St := { n := 27, m := 0, tm := [(0, .im 1 (enc fII ll)), (1, .sc (.int .i64 (left - ll.length - (sumN ((ll.map List.length).take j) : Nat)))), (5, .sc (.int .i64 j))], ob := [] }
theorem ev_szIntSS (ll : List (List Int)) (left : Int) (h0 : 0 ≤ left) (h1 : left ≤ 1048576) (hf : shorts short ll) :
    semK G PK md 108 [.v (.im 1 (enc fII ll)), .v (.sc (.int .i64 left))] = some ⟨[.v (.sc (.int .i64 (szr left (szs List.length ll))))], [], []⟩ := by
  obtain ⟨hr, hrr⟩ := hf
  have hr : ll.length ≤ 9223372036854775807 := hr
  have hw : IntKind.wrap .i64 (left - (ll.length : Int)) = left - ll.length := wrap_id (by omega) (by omega)
  refine semK_of (pf := p108) rfl (by simp [p108]) ?_
  by_cases h : left < ll.length
  · have h' : left - (ll.length : Int) < 0 := by omega
    have h2 : left < (szs List.length ll : Nat) := by unfold szs; omega
    simp [p108, hw, h', szr, h2]
  · have h' : ¬ left - (ll.length : Int) < 0 := by omega
    obtain ⟨k, hk, hp, hkn⟩ := first (fun j => ((sumN ((ll.map List.length).take (j + 1)) : Nat) : Int) ≤ left - ll.length) ll.length
    have hstep : ∀ j, j < k → ∃ s', exec (semK G PK md) (semL G PK md) md b108_0 (st108 ll left j) = some (.normal, s') ∧ s'.m ≤ 10000000 ∧ canon 10000000 [0, 1, 5] s' = st108 ll left (j + 1) := fun j hj => by
      have hlt : j < ll.length := by omega
      obtain ⟨x, hx⟩ := getElem?_of_lt hlt
      obtain ⟨_, hx'⟩ := at_of hx
      have hs := sumN_take (ll.map List.length) (j := j) (x := x.length) (by simp [hx])
      have hpj := hp j hj
      simp only [hs] at hpj
      have he := ev_szIntS (PK := PK) (enc fI x) (left - ll.length - (sumN ((ll.map List.length).take j) : Nat)) (by omega) (by omega) (by rw [enc_len]; exact hrr x (List.mem_of_getElem? hx))
      have hz : szr (left - ll.length - (sumN ((ll.map List.length).take j) : Nat)) (x.length) = left - ll.length - (sumN ((ll.map List.length).take (j + 1)) : Nat) := by unfold szr; rw [if_neg (by omega), hs]; omega
      have hz2 : ¬ left - ll.length - (sumN ((ll.map List.length).take (j + 1)) : Nat) < 0 := by rw [hs]; omega
      simp only [enc_len] at he
      rw [hz] at he
      simp [b108_0, hlt, hx', incr hlt (by omega), he, hz2, md]
    rcases hkn with rfl | ⟨hlt, hn⟩
    · have hsz := loop_ok (G := G) (PK := PK) (md := md) (o := 10000000) (live := [0, 1, 5]) (c := b108_0) (st108 ll left) ll.length hstep (by simp [b108_0])
      have hall : szr left (szs List.length ll) = left - ll.length - (sumN ((ll.map List.length).take ll.length) : Nat) := by
        have : (ll.map List.length).take ll.length = ll.map List.length := by rw [← List.length_map (f := List.length)]; exact List.take_length
        rw [this]
        unfold szr szs
        have hlast : ((sumN (ll.map List.length) : Nat) : Int) ≤ left - ll.length := by
          cases hn : ll.length with
          | zero =>
            have : ll = [] := List.eq_nil_of_length_eq_zero hn
            subst this
            simp [sumN] <;> omega
          | succ n =>
            have := hp n (by omega)
            rwa [show n + 1 = ll.length by omega, ‹List.take _ _ = _›, hn] at this
        rw [if_neg (by omega)]
        omega
      rw [hall]
      simp [p108, hw, h', hsz, sumN]
      simp [b108_0]
    · obtain ⟨x, hx⟩ := getElem?_of_lt hlt
      obtain ⟨_, hx'⟩ := at_of hx
      have hs := sumN_take (ll.map List.length) (j := k) (x := x.length) (by simp [hx])
      have hle := sumN_le (ll.map List.length) (k + 1)
      rw [hs] at hn hle
      have hpk : 0 ≤ left - ll.length - (sumN ((ll.map List.length).take k) : Nat) := by
        cases k with
        | zero => simp [sumN] <;> omega
        | succ k => have := hp k (by omega); omega
      have he := ev_szIntS (PK := PK) (enc fI x) (left - ll.length - (sumN ((ll.map List.length).take k) : Nat)) hpk (by omega) (by rw [enc_len]; exact hrr x (List.mem_of_getElem? hx))
      have hz : szr (left - ll.length - (sumN ((ll.map List.length).take k) : Nat)) (x.length) = -1 := by unfold szr; rw [if_pos (by omega)]
      simp only [enc_len] at he
      rw [hz] at he
      have hsz := loop_ok (G := G) (PK := PK) (md := md) (o := 10000000) (live := [0, 1, 5]) (c := b108_0) (st108 ll left) k hstep (by simp [b108_0, hlt, hx', he, md])
      have hall : szr left (szs List.length ll) = -1 := by unfold szr szs; rw [if_pos (by omega)]
      rw [hall]
      simp [p108, hw, h', hsz, sumN]
      simp [b108_0, hlt, hx', he, md]
@[simp] def st117 (l : List (List Int)) (j : Nat) : St := { n := 23, m := 0, tm := [(0, .im 1 (enc fII l)), (3, .ref 10000000 []), (4, .sc (.int .i64 j))], ob := [(10000000, .arr 1 (enc fII (cp [] l j)))] }
theorem ev_toIntSS (l : List (List Int)) (hl : l.length ≤ 1048576) (hx : ∀ x ∈ l, x.length ≤ 1048576) : semK G PK md 117 [.v (.im 1 (enc fII l))] = some ⟨[.v (.own 1 (enc fII l))], [], []⟩ := by
  refine semK_of (pf := p117) rfl (by simp [p117]) ?_
  have hstep : ∀ j, j < l.length → ∃ s', exec (semK G PK md) (semL G PK md) md b117_0 (st117 l j) = some (.normal, s') ∧ s'.m ≤ 10000000 ∧ canon 10000000 [0, 3, 4] s' = st117 l (j + 1) := fun j hlt => by
    obtain ⟨x, hx1⟩ := getElem?_of_lt hlt
    obtain ⟨_, hx'⟩ := at_of hx1
    have hc := cp_len [] l (Nat.le_of_lt hlt)
    have hg := cp_at [] l hlt
    have hset := cp_set [] l hx1
    have hes := enc_set fII (cp [] l j) j x
    simp only [fII] at hes
    have he := ev_toIntS (PK := PK) x (hx x (List.mem_of_getElem? hx1))
    simp [b117_0, hlt, hx', incr hlt hl, hc, hg, hes, hset, he, md]
  have hsz := loop_ok (G := G) (PK := PK) (md := md) (o := 10000000) (live := [0, 3, 4]) (c := b117_0) (st117 l) l.length hstep (by simp [b117_0])
  have hb : l.length * 24 ≤ 35184372088832 := by omega
  have hb1 : l.length ≤ 35184372088832 := by omega
  have hrep : enc fII (cp [] l 0) = List.replicate l.length (fII []) := by rw [cp_zero, enc_rep]
  simp only [fII] at hrep
  simp [p117, hb, hb1, hrep, hsz]
  simp [b117_0, cp_all]
@[simp] def st122 (l m : List (List Int)) (j : Nat) : St := { n := 27, m := 0, tm := [(0, .im 1 (enc fII l)), (1, .im 1 (enc fII m)), (5, .sc (.int .i64 j))], ob := [] }
theorem ev_eqIntSS (l m : List (List Int)) (hl : l.length ≤ 1048576) (hx : ∀ x ∈ l, x.length ≤ 1048576) : semK G PK md 122 [.v (.im 1 (enc fII l)), .v (.im 1 (enc fII m))] = some ⟨[.v (.sc (.bool (decide (l = m))))], [], []⟩ := by
  refine semK_of (pf := p122) rfl (by simp [p122]) ?_
  by_cases hlen : l.length = m.length
  · have hlen' : (l.length : Int) = m.length := by omega
    obtain ⟨k, hk, hp, hkn⟩ := first (fun j => l[j]? = m[j]?) l.length
    have hstep : ∀ j, j < k → ∃ s', exec (semK G PK md) (semL G PK md) md b122_0 (st122 l m j) = some (.normal, s') ∧ s'.m ≤ 10000000 ∧ canon 10000000 [0, 1, 5] s' = st122 l m (j + 1) := fun j hj => by
      have hlt : j < l.length := by omega
      have hlt2 : j < m.length := by omega
      obtain ⟨x, hx1⟩ := getElem?_of_lt hlt
      have hy1 : m[j]? = some x := (hp j hj).symm.trans hx1
      obtain ⟨_, hx'⟩ := at_of hx1
      obtain ⟨_, hy'⟩ := at_of hy1
      have he := ev_eqIntS (PK := PK) x x (hx x (List.mem_of_getElem? hx1))
      skip
      simp [b122_0, hlt, hlt2, hx', hy', incr hlt hl, he, md]
    rcases hkn with rfl | ⟨hlt, hn⟩
    · have hsz := loop_ok (G := G) (PK := PK) (md := md) (o := 10000000) (live := [0, 1, 5]) (c := b122_0) (st122 l m) l.length hstep (by simp [b122_0])
      have hlm : l = m := List.ext_getElem? fun i => by
        rcases Nat.lt_or_ge i l.length with h | h
        · exact hp i h
        · rw [List.getElem?_eq_none h, List.getElem?_eq_none (by omega)]
      subst hlm
      simp only [decide_true]
      simp [p122]
      rw [hsz]
      · simp [b122_0]
      · simp
      · simp
    · have hlt2 : k < m.length := by omega
      obtain ⟨x, hx1⟩ := getElem?_of_lt hlt
      obtain ⟨y, hy1⟩ := getElem?_of_lt hlt2
      obtain ⟨_, hx'⟩ := at_of hx1
      obtain ⟨_, hy'⟩ := at_of hy1
      have hxy : ¬ x = y := fun h => hn (by rw [hx1, hy1, h])
      have he := ev_eqIntS (PK := PK) x y (hx x (List.mem_of_getElem? hx1))
      skip
      have hsz := loop_ok (G := G) (PK := PK) (md := md) (o := 10000000) (live := [0, 1, 5]) (c := b122_0) (st122 l m) k hstep (by simp [b122_0, hlt, hlt2, hx', hy', hxy, he, md])
      have hlm : ¬ l = m := fun h => hn (by rw [h])
      simp only [hlm, decide_false]
      simp [p122, hlen']
      rw [hsz]
      · simp [b122_0, hlt, hlt2, hx', hy', hxy, he, md]
      · simp
      · simp
  · have hlen' : ¬ (l.length : Int) = m.length := by omega
    have hlm : ¬ l = m := fun h => hlen (by rw [h])
    simp only [hlm, decide_false]
    simp [p122, hlen, hlen']
theorem ev_szMeta (x : MetaD) (left : Int) (h0 : 0 ≤ left) (h1 : left ≤ 1048576) (hf : shM x) :
    semK G PK md 105 [.a (lents (fM x)), .v (.sc (.int .i64 left))] = some ⟨[.v (.sc (.int .i64 (szr left (szM x))))], [], []⟩ := by
  refine semK_of (pf := p105) rfl (by simp [p105]) ?_
  unfold szM
  have e0 := ev_szIntS (PK := PK) (enc fI x.gens) (left) h0 h1 (by rw [enc_len]; exact hf.1)
  simp only [enc_len] at e0
  by_cases c0 : left < (x.gens.length : Nat)
  · rw [szr_lt c0] at e0
    rw [szr_lt (by omega)]
    simp [p105, md, e0]
  rw [szr_ge c0] at e0
  have d0 : ¬ left - (x.gens.length : Nat) < 0 := by omega
  have e1 := ev_szIntSS (PK := PK) x.bits (left - (x.gens.length : Nat)) (by omega) (by omega) hf.2
  by_cases c1 : left - (x.gens.length : Nat) < (szs List.length x.bits : Nat)
  · rw [szr_lt c1] at e1
    rw [szr_lt (by omega)]
    simp [p105, md, e0, d0, e1]
  rw [szr_ge c1] at e1
  have d1 : ¬ left - (x.gens.length : Nat) - (szs List.length x.bits : Nat) < 0 := by omega
  have hz : szr left (x.gens.length + szs List.length x.bits) = left - (x.gens.length : Nat) - (szs List.length x.bits : Nat) := by rw [szr_ge (by omega)]; all_goals omega
  rw [hz]
  simp [p105, md, e0, d0, e1, d1]
theorem ev_toMeta (x : MetaD) (hl : szM x ≤ 1048576) : semK G PK md 114 [.a (lents (fM x))] = some ⟨[.a (owneds (fM x))], [], []⟩ := by
  refine semK_of (pf := p114) rfl (by simp [p114]) ?_
  unfold szM at hl
  have e0 := ev_toIntS (PK := PK) x.gens (by omega)
  have e1 := ev_toIntSS (PK := PK) x.bits (by have h_ := hl; simp only [szs] at h_; omega) (fun z hz => by have h_ := hl; have g_ := sumN_mem (List.mem_map_of_mem (f := List.length) hz); simp only [szs] at h_; omega)
  simp [p114, md, e0, e1]
theorem ev_eqMeta (x y : MetaD) (hl : szM x ≤ 1048576) : semK G PK md 119 [.a (lents (fM x)), .a (lents (fM y))] = some ⟨[.v (.sc (.bool (decide (x = y))))], [], []⟩ := by
  refine semK_of (pf := p119) rfl (by simp [p119]) ?_
  unfold szM at hl
  have e0 := ev_eqIntS (PK := PK) x.gens y.gens (by omega)
  by_cases c0 : x.gens = y.gens
  case neg =>
    have hd : ¬ x = y := fun h => c0 (by rw [h])
    simp only [c0, decide_false] at e0
    simp [p119, md, hd, e0]
  simp only [c0, decide_true] at e0
  have e1 := ev_eqIntSS (PK := PK) x.bits y.bits (by have h_ := hl; simp only [szs] at h_; omega) (fun z hz => by have h_ := hl; have g_ := sumN_mem (List.mem_map_of_mem (f := List.length) hz); simp only [szs] at h_; omega)
  by_cases c1 : x.bits = y.bits
  case neg =>
    have hd : ¬ x = y := fun h => c1 (by rw [h])
    simp only [c1, decide_false] at e1
    simp [p119, md, hd, e0, c0, e1]
  simp only [c1, decide_true] at e1
  by_cases c2 : x.fine = y.fine
  case neg =>
    have hd : ¬ x = y := fun h => c2 (by rw [h])
    simp [p119, md, hd, e0, c0, e1, c1, c2]
  by_cases c3 : x.old = y.old
  case neg =>
    have hd : ¬ x = y := fun h => c3 (by rw [h])
    simp [p119, md, hd, e0, c0, e1, c1, c2, c3]
  by_cases c4 : x.held = y.held
  case neg =>
    have hd : ¬ x = y := fun h => c4 (by rw [h])
    simp [p119, md, hd, e0, c0, e1, c1, c2, c3, c4]
  by_cases c5 : x.last = y.last
  case neg =>
    have hd : ¬ x = y := fun h => c5 (by rw [h])
    simp [p119, md, hd, e0, c0, e1, c1, c2, c3, c4, c5]
  have hd : x = y := by cases x; cases y; simp_all
  simp [p119, md, e0, c0, e1, c1, c2, c3, c4, c5, decide_eq_true hd]
theorem ev_szSlots (x : SlotsD) (left : Int) (h0 : 0 ≤ left) (h1 : left ≤ 1048576) (hf : shSl x) :
    semK G PK md 106 [.a (lents (fSl x)), .v (.sc (.int .i64 left))] = some ⟨[.v (.sc (.int .i64 (szr left (szSl x))))], [], []⟩ := by
  refine semK_of (pf := p106) rfl (by simp [p106]) ?_
  unfold szSl
  have e0 := ev_szByteS (PK := PK) (enc fU x.a) (left) h0 h1 (by rw [enc_len]; exact hf.1)
  simp only [enc_len] at e0
  by_cases c0 : left < (x.a.length : Nat)
  · rw [szr_lt c0] at e0
    rw [szr_lt (by omega)]
    simp [p106, md, e0]
  rw [szr_ge c0] at e0
  have d0 : ¬ left - (x.a.length : Nat) < 0 := by omega
  have e1 := ev_szByteS (PK := PK) (enc fU x.b) (left - (x.a.length : Nat)) (by omega) (by omega) (by rw [enc_len]; exact hf.2)
  simp only [enc_len] at e1
  by_cases c1 : left - (x.a.length : Nat) < (x.b.length : Nat)
  · rw [szr_lt c1] at e1
    rw [szr_lt (by omega)]
    simp [p106, md, e0, d0, e1]
  rw [szr_ge c1] at e1
  have d1 : ¬ left - (x.a.length : Nat) - (x.b.length : Nat) < 0 := by omega
  have hz : szr left (x.a.length + x.b.length) = left - (x.a.length : Nat) - (x.b.length : Nat) := by rw [szr_ge (by omega)]; all_goals omega
  rw [hz]
  simp [p106, md, e0, d0, e1, d1]
theorem ev_toSlots (x : SlotsD) (hl : szSl x ≤ 1048576) : semK G PK md 115 [.a (lents (fSl x))] = some ⟨[.a (owneds (fSl x))], [], []⟩ := by
  refine semK_of (pf := p115) rfl (by simp [p115]) ?_
  unfold szSl at hl
  have e0 := ev_toByteS (PK := PK) x.a (by omega)
  have e1 := ev_toByteS (PK := PK) x.b (by omega)
  simp [p115, md, e0, e1]
theorem ev_eqSlots (x y : SlotsD) (hl : szSl x ≤ 1048576) : semK G PK md 120 [.a (lents (fSl x)), .a (lents (fSl y))] = some ⟨[.v (.sc (.bool (decide (x = y))))], [], []⟩ := by
  refine semK_of (pf := p120) rfl (by simp [p120]) ?_
  unfold szSl at hl
  have e0 := ev_eqByteS (PK := PK) x.a y.a (by omega)
  by_cases c0 : x.a = y.a
  case neg =>
    have hd : ¬ x = y := fun h => c0 (by rw [h])
    simp only [c0, decide_false] at e0
    simp [p120, md, hd, e0]
  simp only [c0, decide_true] at e0
  have e1 := ev_eqByteS (PK := PK) x.b y.b (by omega)
  by_cases c1 : x.b = y.b
  case neg =>
    have hd : ¬ x = y := fun h => c1 (by rw [h])
    simp only [c1, decide_false] at e1
    simp [p120, md, hd, e0, c0, e1]
  simp only [c1, decide_true] at e1
  have hd : x = y := by cases x; cases y; simp_all
  simp [p120, md, e0, c0, e1, c1, decide_eq_true hd]
theorem ev_szNode (x : NodeD) (left : Int) (h0 : 0 ≤ left) (h1 : left ≤ 1048576) (hf : shN x) :
    semK G PK md 77 [.a (lents (fN x)), .v (.sc (.int .i64 left))] = some ⟨[.v (.sc (.int .i64 (szr left (szN x))))], [], []⟩ := by
  refine semK_of (pf := p77) rfl (by simp [p77]) ?_
  unfold szN
  have e0 := ev_szIntS (PK := PK) (enc fI x.image) (left) h0 h1 (by rw [enc_len]; exact hf.1)
  simp only [enc_len] at e0
  by_cases c0 : left < (x.image.length : Nat)
  · rw [szr_lt c0] at e0
    rw [szr_lt (by omega)]
    simp [p77, md, e0]
  rw [szr_ge c0] at e0
  have d0 : ¬ left - (x.image.length : Nat) < 0 := by omega
  have e1 := ev_szMeta (PK := PK) x.mt (left - (x.image.length : Nat)) (by omega) (by omega) hf.2.1
  simp only [lents, lent, fM] at e1
  by_cases c1 : left - (x.image.length : Nat) < (szM x.mt : Nat)
  · rw [szr_lt c1] at e1
    rw [szr_lt (by omega)]
    simp [p77, md, e0, d0, e1]
  rw [szr_ge c1] at e1
  have d1 : ¬ left - (x.image.length : Nat) - (szM x.mt : Nat) < 0 := by omega
  have e2 := ev_szSlots (PK := PK) x.sl (left - (x.image.length : Nat) - (szM x.mt : Nat)) (by omega) (by omega) hf.2.2.1
  simp only [lents, lent, fSl] at e2
  by_cases c2 : left - (x.image.length : Nat) - (szM x.mt : Nat) < (szSl x.sl : Nat)
  · rw [szr_lt c2] at e2
    rw [szr_lt (by omega)]
    simp [p77, md, e0, d0, e1, d1, e2]
  rw [szr_ge c2] at e2
  have d2 : ¬ left - (x.image.length : Nat) - (szM x.mt : Nat) - (szSl x.sl : Nat) < 0 := by omega
  have e3 := ev_szBoolS (PK := PK) (enc fL x.conn) (left - (x.image.length : Nat) - (szM x.mt : Nat) - (szSl x.sl : Nat)) (by omega) (by omega) (by rw [enc_len]; exact hf.2.2.2.1)
  simp only [enc_len] at e3
  by_cases c3 : left - (x.image.length : Nat) - (szM x.mt : Nat) - (szSl x.sl : Nat) < (x.conn.length : Nat)
  · rw [szr_lt c3] at e3
    rw [szr_lt (by omega)]
    simp [p77, md, e0, d0, e1, d1, e2, d2, e3]
  rw [szr_ge c3] at e3
  have d3 : ¬ left - (x.image.length : Nat) - (szM x.mt : Nat) - (szSl x.sl : Nat) - (x.conn.length : Nat) < 0 := by omega
  have e4 := ev_szIntSS (PK := PK) x.sync (left - (x.image.length : Nat) - (szM x.mt : Nat) - (szSl x.sl : Nat) - (x.conn.length : Nat)) (by omega) (by omega) hf.2.2.2.2.1
  by_cases c4 : left - (x.image.length : Nat) - (szM x.mt : Nat) - (szSl x.sl : Nat) - (x.conn.length : Nat) < (szs List.length x.sync : Nat)
  · rw [szr_lt c4] at e4
    rw [szr_lt (by omega)]
    simp [p77, md, e0, d0, e1, d1, e2, d2, e3, d3, e4]
  rw [szr_ge c4] at e4
  have d4 : ¬ left - (x.image.length : Nat) - (szM x.mt : Nat) - (szSl x.sl : Nat) - (x.conn.length : Nat) - (szs List.length x.sync : Nat) < 0 := by omega
  have e5 := ev_szBoolS (PK := PK) (enc fL x.copies) (left - (x.image.length : Nat) - (szM x.mt : Nat) - (szSl x.sl : Nat) - (x.conn.length : Nat) - (szs List.length x.sync : Nat)) (by omega) (by omega) (by rw [enc_len]; exact hf.2.2.2.2.2.1)
  simp only [enc_len] at e5
  by_cases c5 : left - (x.image.length : Nat) - (szM x.mt : Nat) - (szSl x.sl : Nat) - (x.conn.length : Nat) - (szs List.length x.sync : Nat) < (x.copies.length : Nat)
  · rw [szr_lt c5] at e5
    rw [szr_lt (by omega)]
    simp [p77, md, e0, d0, e1, d1, e2, d2, e3, d3, e4, d4, e5]
  rw [szr_ge c5] at e5
  have d5 : ¬ left - (x.image.length : Nat) - (szM x.mt : Nat) - (szSl x.sl : Nat) - (x.conn.length : Nat) - (szs List.length x.sync : Nat) - (x.copies.length : Nat) < 0 := by omega
  have e6 := ev_szIntS (PK := PK) (enc fI x.wait) (left - (x.image.length : Nat) - (szM x.mt : Nat) - (szSl x.sl : Nat) - (x.conn.length : Nat) - (szs List.length x.sync : Nat) - (x.copies.length : Nat)) (by omega) (by omega) (by rw [enc_len]; exact hf.2.2.2.2.2.2)
  simp only [enc_len] at e6
  by_cases c6 : left - (x.image.length : Nat) - (szM x.mt : Nat) - (szSl x.sl : Nat) - (x.conn.length : Nat) - (szs List.length x.sync : Nat) - (x.copies.length : Nat) < (x.wait.length : Nat)
  · rw [szr_lt c6] at e6
    rw [szr_lt (by omega)]
    simp [p77, md, e0, d0, e1, d1, e2, d2, e3, d3, e4, d4, e5, d5, e6]
  rw [szr_ge c6] at e6
  have d6 : ¬ left - (x.image.length : Nat) - (szM x.mt : Nat) - (szSl x.sl : Nat) - (x.conn.length : Nat) - (szs List.length x.sync : Nat) - (x.copies.length : Nat) - (x.wait.length : Nat) < 0 := by omega
  have hz : szr left (x.image.length + (szM x.mt) + (szSl x.sl) + x.conn.length + szs List.length x.sync + x.copies.length + x.wait.length) = left - (x.image.length : Nat) - (szM x.mt : Nat) - (szSl x.sl : Nat) - (x.conn.length : Nat) - (szs List.length x.sync : Nat) - (x.copies.length : Nat) - (x.wait.length : Nat) := by rw [szr_ge (by omega)]; all_goals omega
  rw [hz]
  simp [p77, md, e0, d0, e1, d1, e2, d2, e3, d3, e4, d4, e5, d5, e6, d6]
theorem ev_toNode (x : NodeD) (hl : szN x ≤ 1048576) : semK G PK md 81 [.a (lents (fN x))] = some ⟨[.a (owneds (fN x))], [], []⟩ := by
  refine semK_of (pf := p81) rfl (by simp [p81]) ?_
  unfold szN at hl
  have e3 := ev_toIntS (PK := PK) x.image (by omega)
  have e4 := ev_toMeta (PK := PK) x.mt (by omega)
  simp only [lents, lent, fM, owneds, owned] at e4
  have e5 := ev_toSlots (PK := PK) x.sl (by omega)
  simp only [lents, lent, fSl, owneds, owned] at e5
  have e6 := ev_toBoolS (PK := PK) x.conn (by omega)
  have e7 := ev_toIntSS (PK := PK) x.sync (by have h_ := hl; simp only [szs] at h_; omega) (fun z hz => by have h_ := hl; have g_ := sumN_mem (List.mem_map_of_mem (f := List.length) hz); simp only [szs] at h_; omega)
  have e8 := ev_toBoolS (PK := PK) x.copies (by omega)
  have e9 := ev_toIntS (PK := PK) x.wait (by omega)
  simp [p81, md, e3, e4, e5, e6, e7, e8, e9]
theorem ev_eqNode (x y : NodeD) (hl : szN x ≤ 1048576) : semK G PK md 87 [.a (lents (fN x)), .a (lents (fN y))] = some ⟨[.v (.sc (.bool (decide (x = y))))], [], []⟩ := by
  refine semK_of (pf := p87) rfl (by simp [p87]) ?_
  unfold szN at hl
  by_cases c0 : x.id = y.id
  case neg =>
    have hd : ¬ x = y := fun h => c0 (by rw [h])
    simp [p87, md, hd, c0]
  by_cases c1 : x.up = y.up
  case neg =>
    have hd : ¬ x = y := fun h => c1 (by rw [h])
    simp [p87, md, hd, c0, c1]
  by_cases c2 : x.prime = y.prime
  case neg =>
    have hd : ¬ x = y := fun h => c2 (by rw [h])
    simp [p87, md, hd, c0, c1, c2]
  have e3 := ev_eqIntS (PK := PK) x.image y.image (by omega)
  by_cases c3 : x.image = y.image
  case neg =>
    have hd : ¬ x = y := fun h => c3 (by rw [h])
    simp only [c3, decide_false] at e3
    simp [p87, md, hd, c0, c1, c2, e3]
  simp only [c3, decide_true] at e3
  have e4 := ev_eqMeta (PK := PK) x.mt y.mt (by omega)
  simp only [lents, lent, fM] at e4
  by_cases c4 : x.mt = y.mt
  case neg =>
    have hd : ¬ x = y := fun h => c4 (by rw [h])
    simp only [c4, decide_false] at e4
    simp [p87, md, hd, c0, c1, c2, e3, c3, e4]
  simp only [c4, decide_true] at e4
  have e5 := ev_eqSlots (PK := PK) x.sl y.sl (by omega)
  simp only [lents, lent, fSl] at e5
  by_cases c5 : x.sl = y.sl
  case neg =>
    have hd : ¬ x = y := fun h => c5 (by rw [h])
    simp only [c5, decide_false] at e5
    simp [p87, md, hd, c0, c1, c2, e3, c3, e4, c4, e5]
  simp only [c5, decide_true] at e5
  have e6 := ev_eqBoolS (PK := PK) x.conn y.conn (by omega)
  by_cases c6 : x.conn = y.conn
  case neg =>
    have hd : ¬ x = y := fun h => c6 (by rw [h])
    simp only [c6, decide_false] at e6
    simp [p87, md, hd, c0, c1, c2, e3, c3, e4, c4, e5, c5, e6]
  simp only [c6, decide_true] at e6
  have e7 := ev_eqIntSS (PK := PK) x.sync y.sync (by have h_ := hl; simp only [szs] at h_; omega) (fun z hz => by have h_ := hl; have g_ := sumN_mem (List.mem_map_of_mem (f := List.length) hz); simp only [szs] at h_; omega)
  by_cases c7 : x.sync = y.sync
  case neg =>
    have hd : ¬ x = y := fun h => c7 (by rw [h])
    simp only [c7, decide_false] at e7
    simp [p87, md, hd, c0, c1, c2, e3, c3, e4, c4, e5, c5, e6, c6, e7]
  simp only [c7, decide_true] at e7
  have e8 := ev_eqBoolS (PK := PK) x.copies y.copies (by omega)
  by_cases c8 : x.copies = y.copies
  case neg =>
    have hd : ¬ x = y := fun h => c8 (by rw [h])
    simp only [c8, decide_false] at e8
    simp [p87, md, hd, c0, c1, c2, e3, c3, e4, c4, e5, c5, e6, c6, e7, c7, e8]
  simp only [c8, decide_true] at e8
  have e9 := ev_eqIntS (PK := PK) x.wait y.wait (by omega)
  by_cases c9 : x.wait = y.wait
  case neg =>
    have hd : ¬ x = y := fun h => c9 (by rw [h])
    simp only [c9, decide_false] at e9
    simp [p87, md, hd, c0, c1, c2, e3, c3, e4, c4, e5, c5, e6, c6, e7, c7, e8, c8, e9]
  simp only [c9, decide_true] at e9
  have hd : x = y := by cases x; cases y; simp_all
  simp [p87, md, c0, c1, c2, e3, c3, e4, c4, e5, c5, e6, c6, e7, c7, e8, c8, e9, c9, decide_eq_true hd]
@[simp] def st33 (ll : List (NodeD)) (left : Int) (j : Nat) : St := { n := 27, m := 0, tm := [(0, .im 16 (enc fN ll)), (1, .sc (.int .i64 (left - ll.length - (sumN ((ll.map szN).take j) : Nat)))), (5, .sc (.int .i64 j))], ob := [] }
theorem ev_szNodeS (ll : List (NodeD)) (left : Int) (h0 : 0 ≤ left) (h1 : left ≤ 1048576) (hf : shorts shN ll) :
    semK G PK md 33 [.v (.im 16 (enc fN ll)), .v (.sc (.int .i64 left))] = some ⟨[.v (.sc (.int .i64 (szr left (szs szN ll))))], [], []⟩ := by
  obtain ⟨hr, hrr⟩ := hf
  have hr : ll.length ≤ 9223372036854775807 := hr
  have hw : IntKind.wrap .i64 (left - (ll.length : Int)) = left - ll.length := wrap_id (by omega) (by omega)
  refine semK_of (pf := p33) rfl (by simp [p33]) ?_
  by_cases h : left < ll.length
  · have h' : left - (ll.length : Int) < 0 := by omega
    have h2 : left < (szs szN ll : Nat) := by unfold szs; omega
    simp [p33, hw, h', szr, h2]
  · have h' : ¬ left - (ll.length : Int) < 0 := by omega
    obtain ⟨k, hk, hp, hkn⟩ := first (fun j => ((sumN ((ll.map szN).take (j + 1)) : Nat) : Int) ≤ left - ll.length) ll.length
    have hstep : ∀ j, j < k → ∃ s', exec (semK G PK md) (semL G PK md) md b33_0 (st33 ll left j) = some (.normal, s') ∧ s'.m ≤ 10000000 ∧ canon 10000000 [0, 1, 5] s' = st33 ll left (j + 1) := fun j hj => by
      have hlt : j < ll.length := by omega
      obtain ⟨x, hx⟩ := getElem?_of_lt hlt
      obtain ⟨_, hx'⟩ := at_of hx
      have hs := sumN_take (ll.map szN) (j := j) (x := szN x) (by simp [hx])
      have hpj := hp j hj
      simp only [hs] at hpj
      have he := ev_szNode (PK := PK) x (left - ll.length - (sumN ((ll.map szN).take j) : Nat)) (by omega) (by omega) (by simpa using hrr x (List.mem_of_getElem? hx))
      have hz : szr (left - ll.length - (sumN ((ll.map szN).take j) : Nat)) (szN x) = left - ll.length - (sumN ((ll.map szN).take (j + 1)) : Nat) := by unfold szr; rw [if_neg (by omega), hs]; omega
      have hz2 : ¬ left - ll.length - (sumN ((ll.map szN).take (j + 1)) : Nat) < 0 := by rw [hs]; omega
      simp only [lents, lent, fN] at he
      rw [hz] at he
      simp [b33_0, hlt, hx', incr hlt (by omega), he, hz2, md]
    rcases hkn with rfl | ⟨hlt, hn⟩
    · have hsz := loop_ok (G := G) (PK := PK) (md := md) (o := 10000000) (live := [0, 1, 5]) (c := b33_0) (st33 ll left) ll.length hstep (by simp [b33_0])
      have hall : szr left (szs szN ll) = left - ll.length - (sumN ((ll.map szN).take ll.length) : Nat) := by
        have : (ll.map szN).take ll.length = ll.map szN := by rw [← List.length_map (f := szN)]; exact List.take_length
        rw [this]
        unfold szr szs
        have hlast : ((sumN (ll.map szN) : Nat) : Int) ≤ left - ll.length := by
          cases hn : ll.length with
          | zero =>
            have : ll = [] := List.eq_nil_of_length_eq_zero hn
            subst this
            simp [sumN] <;> omega
          | succ n =>
            have := hp n (by omega)
            rwa [show n + 1 = ll.length by omega, ‹List.take _ _ = _›, hn] at this
        rw [if_neg (by omega)]
        omega
      rw [hall]
      simp [p33, hw, h', hsz, sumN]
      simp [b33_0]
    · obtain ⟨x, hx⟩ := getElem?_of_lt hlt
      obtain ⟨_, hx'⟩ := at_of hx
      have hs := sumN_take (ll.map szN) (j := k) (x := szN x) (by simp [hx])
      have hle := sumN_le (ll.map szN) (k + 1)
      rw [hs] at hn hle
      have hpk : 0 ≤ left - ll.length - (sumN ((ll.map szN).take k) : Nat) := by
        cases k with
        | zero => simp [sumN] <;> omega
        | succ k => have := hp k (by omega); omega
      have he := ev_szNode (PK := PK) x (left - ll.length - (sumN ((ll.map szN).take k) : Nat)) hpk (by omega) (by simpa using hrr x (List.mem_of_getElem? hx))
      have hz : szr (left - ll.length - (sumN ((ll.map szN).take k) : Nat)) (szN x) = -1 := by unfold szr; rw [if_pos (by omega)]
      simp only [lents, lent, fN] at he
      rw [hz] at he
      have hsz := loop_ok (G := G) (PK := PK) (md := md) (o := 10000000) (live := [0, 1, 5]) (c := b33_0) (st33 ll left) k hstep (by simp [b33_0, hlt, hx', he, md])
      have hall : szr left (szs szN ll) = -1 := by unfold szr szs; rw [if_pos (by omega)]
      rw [hall]
      simp [p33, hw, h', hsz, sumN]
      simp [b33_0, hlt, hx', he, md]
@[simp] def st38 (l : List (NodeD)) (j : Nat) : St := { n := 23, m := 0, tm := [(0, .im 16 (enc fN l)), (3, .ref 10000000 []), (4, .sc (.int .i64 j))], ob := [(10000000, .arr 16 (enc fN (cp zN l j)))] }
theorem ev_toNodeS (l : List (NodeD)) (hl : l.length ≤ 1048576) (hx : ∀ x ∈ l, szN x ≤ 1048576) : semK G PK md 38 [.v (.im 16 (enc fN l))] = some ⟨[.v (.own 16 (enc fN l))], [], []⟩ := by
  refine semK_of (pf := p38) rfl (by simp [p38]) ?_
  have hstep : ∀ j, j < l.length → ∃ s', exec (semK G PK md) (semL G PK md) md b38_0 (st38 l j) = some (.normal, s') ∧ s'.m ≤ 10000000 ∧ canon 10000000 [0, 3, 4] s' = st38 l (j + 1) := fun j hlt => by
    obtain ⟨x, hx1⟩ := getElem?_of_lt hlt
    obtain ⟨_, hx'⟩ := at_of hx1
    have hc := cp_len zN l (Nat.le_of_lt hlt)
    have hg := cp_at zN l hlt
    have hset := cp_set zN l hx1
    have hes := enc_set fN (cp zN l j) j x
    simp only [fN] at hes
    have he := ev_toNode (PK := PK) x (hx x (List.mem_of_getElem? hx1))
    simp only [lents, lent, fN, owneds, owned] at he
    simp [b38_0, hlt, hx', incr hlt hl, hc, hg, hes, hset, he, md]
  have hsz := loop_ok (G := G) (PK := PK) (md := md) (o := 10000000) (live := [0, 3, 4]) (c := b38_0) (st38 l) l.length hstep (by simp [b38_0])
  have hb : l.length * 248 ≤ 35184372088832 := by omega
  have hb1 : l.length ≤ 35184372088832 := by omega
  have hrep : enc fN (cp zN l 0) = List.replicate l.length (fN zN) := by rw [cp_zero, enc_rep]
  simp only [fN, zN0, zN1, zN2, zN3, zN4, zN5, zN6, zN7, zN8, zN9, zN10, zN11, zN12, zN13, zN14, zN15, enc_nil] at hrep
  simp [p38, hb, hb1, hrep, hsz]
  simp [b38_0, cp_all]
@[simp] def st42 (l m : List (NodeD)) (j : Nat) : St := { n := 27, m := 0, tm := [(0, .im 16 (enc fN l)), (1, .im 16 (enc fN m)), (5, .sc (.int .i64 j))], ob := [] }
theorem ev_eqNodeS (l m : List (NodeD)) (hl : l.length ≤ 1048576) (hx : ∀ x ∈ l, szN x ≤ 1048576) : semK G PK md 42 [.v (.im 16 (enc fN l)), .v (.im 16 (enc fN m))] = some ⟨[.v (.sc (.bool (decide (l = m))))], [], []⟩ := by
  refine semK_of (pf := p42) rfl (by simp [p42]) ?_
  by_cases hlen : l.length = m.length
  · have hlen' : (l.length : Int) = m.length := by omega
    obtain ⟨k, hk, hp, hkn⟩ := first (fun j => l[j]? = m[j]?) l.length
    have hstep : ∀ j, j < k → ∃ s', exec (semK G PK md) (semL G PK md) md b42_0 (st42 l m j) = some (.normal, s') ∧ s'.m ≤ 10000000 ∧ canon 10000000 [0, 1, 5] s' = st42 l m (j + 1) := fun j hj => by
      have hlt : j < l.length := by omega
      have hlt2 : j < m.length := by omega
      obtain ⟨x, hx1⟩ := getElem?_of_lt hlt
      have hy1 : m[j]? = some x := (hp j hj).symm.trans hx1
      obtain ⟨_, hx'⟩ := at_of hx1
      obtain ⟨_, hy'⟩ := at_of hy1
      have he := ev_eqNode (PK := PK) x x (hx x (List.mem_of_getElem? hx1))
      simp only [lents, lent, fN] at he
      simp [b42_0, hlt, hlt2, hx', hy', incr hlt hl, he, md]
    rcases hkn with rfl | ⟨hlt, hn⟩
    · have hsz := loop_ok (G := G) (PK := PK) (md := md) (o := 10000000) (live := [0, 1, 5]) (c := b42_0) (st42 l m) l.length hstep (by simp [b42_0])
      have hlm : l = m := List.ext_getElem? fun i => by
        rcases Nat.lt_or_ge i l.length with h | h
        · exact hp i h
        · rw [List.getElem?_eq_none h, List.getElem?_eq_none (by omega)]
      subst hlm
      simp only [decide_true]
      simp [p42]
      rw [hsz]
      · simp [b42_0]
      · simp
      · simp
    · have hlt2 : k < m.length := by omega
      obtain ⟨x, hx1⟩ := getElem?_of_lt hlt
      obtain ⟨y, hy1⟩ := getElem?_of_lt hlt2
      obtain ⟨_, hx'⟩ := at_of hx1
      obtain ⟨_, hy'⟩ := at_of hy1
      have hxy : ¬ x = y := fun h => hn (by rw [hx1, hy1, h])
      have he := ev_eqNode (PK := PK) x y (hx x (List.mem_of_getElem? hx1))
      simp only [lents, lent, fN] at he
      have hsz := loop_ok (G := G) (PK := PK) (md := md) (o := 10000000) (live := [0, 1, 5]) (c := b42_0) (st42 l m) k hstep (by simp [b42_0, hlt, hlt2, hx', hy', hxy, he, md])
      have hlm : ¬ l = m := fun h => hn (by rw [h])
      simp only [hlm, decide_false]
      simp [p42, hlen']
      rw [hsz]
      · simp [b42_0, hlt, hlt2, hx', hy', hxy, he, md]
      · simp
      · simp
  · have hlen' : ¬ (l.length : Int) = m.length := by omega
    have hlm : ¬ l = m := fun h => hlen (by rw [h])
    simp only [hlm, decide_false]
    simp [p42, hlen, hlen']
theorem ev_szWire (x : WireD) (left : Int) (h0 : 0 ≤ left) (h1 : left ≤ 1048576) (hf : shW x) :
    semK G PK md 78 [.a (lents (fW x)), .v (.sc (.int .i64 left))] = some ⟨[.v (.sc (.int .i64 (szr left (szW x))))], [], []⟩ := by
  refine semK_of (pf := p78) rfl (by simp [p78]) ?_
  unfold szW
  have e0 := ev_szByteS (PK := PK) (enc fU x.bytes) (left) h0 h1 (by rw [enc_len]; exact hf)
  simp only [enc_len] at e0
  by_cases c0 : left < (x.bytes.length : Nat)
  · rw [szr_lt c0] at e0
    rw [szr_lt (by omega)]
    simp [p78, md, e0]
  rw [szr_ge c0] at e0
  have d0 : ¬ left - (x.bytes.length : Nat) < 0 := by omega
  have hz : szr left (x.bytes.length) = left - (x.bytes.length : Nat) := by rw [szr_ge (by omega)]; all_goals omega
  rw [hz]
  simp [p78, md, e0, d0]
theorem ev_toWire (x : WireD) (hl : szW x ≤ 1048576) : semK G PK md 82 [.a (lents (fW x))] = some ⟨[.a (owneds (fW x))], [], []⟩ := by
  refine semK_of (pf := p82) rfl (by simp [p82]) ?_
  unfold szW at hl
  have e2 := ev_toByteS (PK := PK) x.bytes (by omega)
  simp [p82, md, e2]
theorem ev_eqWire (x y : WireD) (hl : szW x ≤ 1048576) : semK G PK md 88 [.a (lents (fW x)), .a (lents (fW y))] = some ⟨[.v (.sc (.bool (decide (x = y))))], [], []⟩ := by
  refine semK_of (pf := p88) rfl (by simp [p88]) ?_
  unfold szW at hl
  by_cases c0 : x.src = y.src
  case neg =>
    have hd : ¬ x = y := fun h => c0 (by rw [h])
    simp [p88, md, hd, c0]
  by_cases c1 : x.dst = y.dst
  case neg =>
    have hd : ¬ x = y := fun h => c1 (by rw [h])
    simp [p88, md, hd, c0, c1]
  have e2 := ev_eqByteS (PK := PK) x.bytes y.bytes (by omega)
  by_cases c2 : x.bytes = y.bytes
  case neg =>
    have hd : ¬ x = y := fun h => c2 (by rw [h])
    simp only [c2, decide_false] at e2
    simp [p88, md, hd, c0, c1, e2]
  simp only [c2, decide_true] at e2
  have hd : x = y := by cases x; cases y; simp_all
  simp [p88, md, c0, c1, e2, c2, decide_eq_true hd]
@[simp] def st34 (ll : List (WireD)) (left : Int) (j : Nat) : St := { n := 27, m := 0, tm := [(0, .im 3 (enc fW ll)), (1, .sc (.int .i64 (left - ll.length - (sumN ((ll.map szW).take j) : Nat)))), (5, .sc (.int .i64 j))], ob := [] }
theorem ev_szWireS (ll : List (WireD)) (left : Int) (h0 : 0 ≤ left) (h1 : left ≤ 1048576) (hf : shorts shW ll) :
    semK G PK md 34 [.v (.im 3 (enc fW ll)), .v (.sc (.int .i64 left))] = some ⟨[.v (.sc (.int .i64 (szr left (szs szW ll))))], [], []⟩ := by
  obtain ⟨hr, hrr⟩ := hf
  have hr : ll.length ≤ 9223372036854775807 := hr
  have hw : IntKind.wrap .i64 (left - (ll.length : Int)) = left - ll.length := wrap_id (by omega) (by omega)
  refine semK_of (pf := p34) rfl (by simp [p34]) ?_
  by_cases h : left < ll.length
  · have h' : left - (ll.length : Int) < 0 := by omega
    have h2 : left < (szs szW ll : Nat) := by unfold szs; omega
    simp [p34, hw, h', szr, h2]
  · have h' : ¬ left - (ll.length : Int) < 0 := by omega
    obtain ⟨k, hk, hp, hkn⟩ := first (fun j => ((sumN ((ll.map szW).take (j + 1)) : Nat) : Int) ≤ left - ll.length) ll.length
    have hstep : ∀ j, j < k → ∃ s', exec (semK G PK md) (semL G PK md) md b34_0 (st34 ll left j) = some (.normal, s') ∧ s'.m ≤ 10000000 ∧ canon 10000000 [0, 1, 5] s' = st34 ll left (j + 1) := fun j hj => by
      have hlt : j < ll.length := by omega
      obtain ⟨x, hx⟩ := getElem?_of_lt hlt
      obtain ⟨_, hx'⟩ := at_of hx
      have hs := sumN_take (ll.map szW) (j := j) (x := szW x) (by simp [hx])
      have hpj := hp j hj
      simp only [hs] at hpj
      have he := ev_szWire (PK := PK) x (left - ll.length - (sumN ((ll.map szW).take j) : Nat)) (by omega) (by omega) (by simpa using hrr x (List.mem_of_getElem? hx))
      have hz : szr (left - ll.length - (sumN ((ll.map szW).take j) : Nat)) (szW x) = left - ll.length - (sumN ((ll.map szW).take (j + 1)) : Nat) := by unfold szr; rw [if_neg (by omega), hs]; omega
      have hz2 : ¬ left - ll.length - (sumN ((ll.map szW).take (j + 1)) : Nat) < 0 := by rw [hs]; omega
      simp only [lents, lent, fW] at he
      rw [hz] at he
      simp [b34_0, hlt, hx', incr hlt (by omega), he, hz2, md]
    rcases hkn with rfl | ⟨hlt, hn⟩
    · have hsz := loop_ok (G := G) (PK := PK) (md := md) (o := 10000000) (live := [0, 1, 5]) (c := b34_0) (st34 ll left) ll.length hstep (by simp [b34_0])
      have hall : szr left (szs szW ll) = left - ll.length - (sumN ((ll.map szW).take ll.length) : Nat) := by
        have : (ll.map szW).take ll.length = ll.map szW := by rw [← List.length_map (f := szW)]; exact List.take_length
        rw [this]
        unfold szr szs
        have hlast : ((sumN (ll.map szW) : Nat) : Int) ≤ left - ll.length := by
          cases hn : ll.length with
          | zero =>
            have : ll = [] := List.eq_nil_of_length_eq_zero hn
            subst this
            simp [sumN] <;> omega
          | succ n =>
            have := hp n (by omega)
            rwa [show n + 1 = ll.length by omega, ‹List.take _ _ = _›, hn] at this
        rw [if_neg (by omega)]
        omega
      rw [hall]
      simp [p34, hw, h', hsz, sumN]
      simp [b34_0]
    · obtain ⟨x, hx⟩ := getElem?_of_lt hlt
      obtain ⟨_, hx'⟩ := at_of hx
      have hs := sumN_take (ll.map szW) (j := k) (x := szW x) (by simp [hx])
      have hle := sumN_le (ll.map szW) (k + 1)
      rw [hs] at hn hle
      have hpk : 0 ≤ left - ll.length - (sumN ((ll.map szW).take k) : Nat) := by
        cases k with
        | zero => simp [sumN] <;> omega
        | succ k => have := hp k (by omega); omega
      have he := ev_szWire (PK := PK) x (left - ll.length - (sumN ((ll.map szW).take k) : Nat)) hpk (by omega) (by simpa using hrr x (List.mem_of_getElem? hx))
      have hz : szr (left - ll.length - (sumN ((ll.map szW).take k) : Nat)) (szW x) = -1 := by unfold szr; rw [if_pos (by omega)]
      simp only [lents, lent, fW] at he
      rw [hz] at he
      have hsz := loop_ok (G := G) (PK := PK) (md := md) (o := 10000000) (live := [0, 1, 5]) (c := b34_0) (st34 ll left) k hstep (by simp [b34_0, hlt, hx', he, md])
      have hall : szr left (szs szW ll) = -1 := by unfold szr szs; rw [if_pos (by omega)]
      rw [hall]
      simp [p34, hw, h', hsz, sumN]
      simp [b34_0, hlt, hx', he, md]
@[simp] def st39 (l : List (WireD)) (j : Nat) : St := { n := 23, m := 0, tm := [(0, .im 3 (enc fW l)), (3, .ref 10000000 []), (4, .sc (.int .i64 j))], ob := [(10000000, .arr 3 (enc fW (cp zW l j)))] }
theorem ev_toWireS (l : List (WireD)) (hl : l.length ≤ 1048576) (hx : ∀ x ∈ l, szW x ≤ 1048576) : semK G PK md 39 [.v (.im 3 (enc fW l))] = some ⟨[.v (.own 3 (enc fW l))], [], []⟩ := by
  refine semK_of (pf := p39) rfl (by simp [p39]) ?_
  have hstep : ∀ j, j < l.length → ∃ s', exec (semK G PK md) (semL G PK md) md b39_0 (st39 l j) = some (.normal, s') ∧ s'.m ≤ 10000000 ∧ canon 10000000 [0, 3, 4] s' = st39 l (j + 1) := fun j hlt => by
    obtain ⟨x, hx1⟩ := getElem?_of_lt hlt
    obtain ⟨_, hx'⟩ := at_of hx1
    have hc := cp_len zW l (Nat.le_of_lt hlt)
    have hg := cp_at zW l hlt
    have hset := cp_set zW l hx1
    have hes := enc_set fW (cp zW l j) j x
    simp only [fW] at hes
    have he := ev_toWire (PK := PK) x (hx x (List.mem_of_getElem? hx1))
    simp only [lents, lent, fW, owneds, owned] at he
    simp [b39_0, hlt, hx', incr hlt hl, hc, hg, hes, hset, he, md]
  have hsz := loop_ok (G := G) (PK := PK) (md := md) (o := 10000000) (live := [0, 3, 4]) (c := b39_0) (st39 l) l.length hstep (by simp [b39_0])
  have hb : l.length * 40 ≤ 35184372088832 := by omega
  have hb1 : l.length ≤ 35184372088832 := by omega
  have hrep : enc fW (cp zW l 0) = List.replicate l.length (fW zW) := by rw [cp_zero, enc_rep]
  simp only [fW, zW0, zW1, zW2, enc_nil] at hrep
  simp [p39, hb, hb1, hrep, hsz]
  simp [b39_0, cp_all]
@[simp] def st43 (l m : List (WireD)) (j : Nat) : St := { n := 27, m := 0, tm := [(0, .im 3 (enc fW l)), (1, .im 3 (enc fW m)), (5, .sc (.int .i64 j))], ob := [] }
theorem ev_eqWireS (l m : List (WireD)) (hl : l.length ≤ 1048576) (hx : ∀ x ∈ l, szW x ≤ 1048576) : semK G PK md 43 [.v (.im 3 (enc fW l)), .v (.im 3 (enc fW m))] = some ⟨[.v (.sc (.bool (decide (l = m))))], [], []⟩ := by
  refine semK_of (pf := p43) rfl (by simp [p43]) ?_
  by_cases hlen : l.length = m.length
  · have hlen' : (l.length : Int) = m.length := by omega
    obtain ⟨k, hk, hp, hkn⟩ := first (fun j => l[j]? = m[j]?) l.length
    have hstep : ∀ j, j < k → ∃ s', exec (semK G PK md) (semL G PK md) md b43_0 (st43 l m j) = some (.normal, s') ∧ s'.m ≤ 10000000 ∧ canon 10000000 [0, 1, 5] s' = st43 l m (j + 1) := fun j hj => by
      have hlt : j < l.length := by omega
      have hlt2 : j < m.length := by omega
      obtain ⟨x, hx1⟩ := getElem?_of_lt hlt
      have hy1 : m[j]? = some x := (hp j hj).symm.trans hx1
      obtain ⟨_, hx'⟩ := at_of hx1
      obtain ⟨_, hy'⟩ := at_of hy1
      have he := ev_eqWire (PK := PK) x x (hx x (List.mem_of_getElem? hx1))
      simp only [lents, lent, fW] at he
      simp [b43_0, hlt, hlt2, hx', hy', incr hlt hl, he, md]
    rcases hkn with rfl | ⟨hlt, hn⟩
    · have hsz := loop_ok (G := G) (PK := PK) (md := md) (o := 10000000) (live := [0, 1, 5]) (c := b43_0) (st43 l m) l.length hstep (by simp [b43_0])
      have hlm : l = m := List.ext_getElem? fun i => by
        rcases Nat.lt_or_ge i l.length with h | h
        · exact hp i h
        · rw [List.getElem?_eq_none h, List.getElem?_eq_none (by omega)]
      subst hlm
      simp only [decide_true]
      simp [p43]
      rw [hsz]
      · simp [b43_0]
      · simp
      · simp
    · have hlt2 : k < m.length := by omega
      obtain ⟨x, hx1⟩ := getElem?_of_lt hlt
      obtain ⟨y, hy1⟩ := getElem?_of_lt hlt2
      obtain ⟨_, hx'⟩ := at_of hx1
      obtain ⟨_, hy'⟩ := at_of hy1
      have hxy : ¬ x = y := fun h => hn (by rw [hx1, hy1, h])
      have he := ev_eqWire (PK := PK) x y (hx x (List.mem_of_getElem? hx1))
      simp only [lents, lent, fW] at he
      have hsz := loop_ok (G := G) (PK := PK) (md := md) (o := 10000000) (live := [0, 1, 5]) (c := b43_0) (st43 l m) k hstep (by simp [b43_0, hlt, hlt2, hx', hy', hxy, he, md])
      have hlm : ¬ l = m := fun h => hn (by rw [h])
      simp only [hlm, decide_false]
      simp [p43, hlen']
      rw [hsz]
      · simp [b43_0, hlt, hlt2, hx', hy', hxy, he, md]
      · simp
      · simp
  · have hlen' : ¬ (l.length : Int) = m.length := by omega
    have hlm : ¬ l = m := fun h => hlen (by rw [h])
    simp only [hlm, decide_false]
    simp [p43, hlen, hlen']
theorem ev_toRec (x : RecD) : semK G PK md 83 [.a (lents (fR x))] = some ⟨[.a (owneds (fR x))], [], []⟩ := by
  refine semK_of (pf := p83) rfl (by simp [p83]) ?_
  simp [p83, md]
theorem ev_eqRec (x y : RecD) : semK G PK md 89 [.a (lents (fR x)), .a (lents (fR y))] = some ⟨[.v (.sc (.bool (decide (x = y))))], [], []⟩ := by
  refine semK_of (pf := p89) rfl (by simp [p89]) ?_
  by_cases c0 : x.cell = y.cell
  case neg =>
    have hd : ¬ x = y := fun h => c0 (by rw [h])
    simp [p89, md, hd, c0]
  by_cases c1 : x.up = y.up
  case neg =>
    have hd : ¬ x = y := fun h => c1 (by rw [h])
    simp [p89, md, hd, c0, c1]
  have hd : x = y := by cases x; cases y; simp_all
  simp [p89, md, c0, c1, decide_eq_true hd]
theorem ev_szRecS (rows : List (List T)) (left : Int) (h0 : 0 ≤ left) (h1 : left ≤ 1048576) (hr : rows.length ≤ 9223372036854775807) :
    semK G PK md 35 [.v (.im 2 rows), .v (.sc (.int .i64 left))] = some ⟨[.v (.sc (.int .i64 (szr left rows.length)))], [], []⟩ := by
  have hw : IntKind.wrap .i64 (left - (rows.length : Int)) = left - rows.length := wrap_id (by omega) (by omega)
  refine semK_of (pf := p35) rfl (by simp [p35]) ?_
  by_cases h : left < rows.length
  · have h' : left - (rows.length : Int) < 0 := by omega
    simp [p35, hw, h', szr, h]
  · have h' : ¬ left - (rows.length : Int) < 0 := by omega
    simp [p35, hw, h', szr, h]
@[simp] def st40 (l : List (RecD)) (j : Nat) : St := { n := 23, m := 0, tm := [(0, .im 2 (enc fR l)), (3, .ref 10000000 []), (4, .sc (.int .i64 j))], ob := [(10000000, .arr 2 (enc fR (cp zR l j)))] }
theorem ev_toRecS (l : List (RecD)) (hl : l.length ≤ 1048576) : semK G PK md 40 [.v (.im 2 (enc fR l))] = some ⟨[.v (.own 2 (enc fR l))], [], []⟩ := by
  refine semK_of (pf := p40) rfl (by simp [p40]) ?_
  have hstep : ∀ j, j < l.length → ∃ s', exec (semK G PK md) (semL G PK md) md b40_0 (st40 l j) = some (.normal, s') ∧ s'.m ≤ 10000000 ∧ canon 10000000 [0, 3, 4] s' = st40 l (j + 1) := fun j hlt => by
    obtain ⟨x, hx1⟩ := getElem?_of_lt hlt
    obtain ⟨_, hx'⟩ := at_of hx1
    have hc := cp_len zR l (Nat.le_of_lt hlt)
    have hg := cp_at zR l hlt
    have hset := cp_set zR l hx1
    have hes := enc_set fR (cp zR l j) j x
    simp only [fR] at hes
    have he := ev_toRec (PK := PK) x 
    simp only [lents, lent, fR, owneds, owned] at he
    simp [b40_0, hlt, hx', incr hlt hl, hc, hg, hes, hset, he, md]
  have hsz := loop_ok (G := G) (PK := PK) (md := md) (o := 10000000) (live := [0, 3, 4]) (c := b40_0) (st40 l) l.length hstep (by simp [b40_0])
  have hb : l.length * 16 ≤ 35184372088832 := by omega
  have hb1 : l.length ≤ 35184372088832 := by omega
  have hrep : enc fR (cp zR l 0) = List.replicate l.length (fR zR) := by rw [cp_zero, enc_rep]
  simp only [fR, zR0, zR1] at hrep
  simp [p40, hb, hb1, hrep, hsz]
  simp [b40_0, cp_all]
end Go.Proofs.YtjnmfihnioajaaaGreat.Ow
