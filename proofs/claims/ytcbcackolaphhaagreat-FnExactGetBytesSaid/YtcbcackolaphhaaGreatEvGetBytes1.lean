/- Sizes, copies, comparisons: evaluated. -/
import Derived.Test.YtcbcackolaphhaaGreatEvGetBytes0
set_option linter.unusedVariables false
set_option linter.unusedSimpArgs false
namespace Go.Proofs.YtcbcackolaphhaaGreat.Ow
open Go
variable {PK : Nat → List Arg → Option Res}
@[simp] def st43 (ll : List (WireD)) (left : Int) (j : Nat) : St := { n := 27, m := 0, tm := [(0, .im 3 (enc fW ll)), (1, .sc (.int .i64 (left - ll.length - (sumN ((ll.map szW).take j) : Nat)))), (5, .sc (.int .i64 j))], ob := [] }
theorem ev_szWireS (ll : List (WireD)) (left : Int) (h0 : 0 ≤ left) (h1 : left ≤ 1048576) (hf : shorts shW ll) :
    semK G PK md 43 [.v (.im 3 (enc fW ll)), .v (.sc (.int .i64 left))] = some ⟨[.v (.sc (.int .i64 (szr left (szs szW ll))))], [], []⟩ := by
  obtain ⟨hr, hrr⟩ := hf
  have hr : ll.length ≤ 9223372036854775807 := hr
  have hw : IntKind.wrap .i64 (left - (ll.length : Int)) = left - ll.length := wrap_id (by omega) (by omega)
  refine semK_of (pf := p43) rfl (by simp [p43]) ?_
  by_cases h : left < ll.length
  · have h' : left - (ll.length : Int) < 0 := by omega
    have h2 : left < (szs szW ll : Nat) := by unfold szs; omega
    simp [p43, hw, h', szr, h2]
  · have h' : ¬ left - (ll.length : Int) < 0 := by omega
    obtain ⟨k, hk, hp, hkn⟩ := first (fun j => ((sumN ((ll.map szW).take (j + 1)) : Nat) : Int) ≤ left - ll.length) ll.length
    have hstep : ∀ j, j < k → ∃ s', exec (semK G PK md) (semL G PK md) md b43_0 (st43 ll left j) = some (.normal, s') ∧ s'.m ≤ 10000000 ∧ canon 10000000 [0, 1, 5] s' = st43 ll left (j + 1) := fun j hj => by
      have hlt : j < ll.length := by omega
      obtain ⟨x, hx⟩ := getElem?_of_lt hlt
      obtain ⟨_, hx'⟩ := at_of hx
      have hs := sumN_take (ll.map szW) (j := j) (x := szW x) (by simp [hx])
      have hpj := hp j hj
      simp only [hs] at hpj
      have he := ev_szWire (PK := PK) x (left - ll.length - (sumN ((ll.map szW).take j) : Nat)) (by omega) (by omega) (by simpa using hrr x (List.mem_of_getElem? hx))
      have hz : szr (left - ll.length - (sumN ((ll.map szW).take j) : Nat)) (szW x) = left - ll.length - (sumN ((ll.map szW).take (j + 1)) : Nat) := by unfold szr; rw [if_neg (by omega), hs]; omega
      have hz2 : ¬ left - ll.length - (sumN ((ll.map szW).take (j + 1)) : Nat) < 0 := by rw [hs]; omega
      simp only [lents, lent, fW] at he
      rw [hz] at he
      simp [b43_0, hlt, hx', incr hlt (by omega), he, hz2, md]
    rcases hkn with rfl | ⟨hlt, hn⟩
    · have hsz := loop_ok (G := G) (PK := PK) (md := md) (o := 10000000) (live := [0, 1, 5]) (c := b43_0) (st43 ll left) ll.length hstep (by simp [b43_0])
      have hall : szr left (szs szW ll) = left - ll.length - (sumN ((ll.map szW).take ll.length) : Nat) := by
        have : (ll.map szW).take ll.length = ll.map szW := by rw [← List.length_map (f := szW)]; exact List.take_length
        rw [this]
        unfold szr szs
        have hlast : ((sumN (ll.map szW) : Nat) : Int) ≤ left - ll.length := by
          cases hn : ll.length with
          | zero =>
            have : ll = [] := List.eq_nil_of_length_eq_zero hn
            subst this
            simp [sumN] <;> omega
          | succ n =>
            have := hp n (by omega)
            rwa [show n + 1 = ll.length by omega, ‹List.take _ _ = _›, hn] at this
        rw [if_neg (by omega)]
        omega
      rw [hall]
      simp [p43, hw, h', hsz, sumN]
      simp [b43_0]
    · obtain ⟨x, hx⟩ := getElem?_of_lt hlt
      obtain ⟨_, hx'⟩ := at_of hx
      have hs := sumN_take (ll.map szW) (j := k) (x := szW x) (by simp [hx])
      have hle := sumN_le (ll.map szW) (k + 1)
      rw [hs] at hn hle
      have hpk : 0 ≤ left - ll.length - (sumN ((ll.map szW).take k) : Nat) := by
        cases k with
        | zero => simp [sumN] <;> omega
        | succ k => have := hp k (by omega); omega
      have he := ev_szWire (PK := PK) x (left - ll.length - (sumN ((ll.map szW).take k) : Nat)) hpk (by omega) (by simpa using hrr x (List.mem_of_getElem? hx))
      have hz : szr (left - ll.length - (sumN ((ll.map szW).take k) : Nat)) (szW x) = -1 := by unfold szr; rw [if_pos (by omega)]
      simp only [lents, lent, fW] at he
      rw [hz] at he
      have hsz := loop_ok (G := G) (PK := PK) (md := md) (o := 10000000) (live := [0, 1, 5]) (c := b43_0) (st43 ll left) k hstep (by simp [b43_0, hlt, hx', he, md])
      have hall : szr left (szs szW ll) = -1 := by unfold szr szs; rw [if_pos (by omega)]
      rw [hall]
      simp [p43, hw, h', hsz, sumN]
      simp [b43_0, hlt, hx', he, md]
@[simp] def st50 (l : List (WireD)) (j : Nat) : St := { n := 23, m := 0, tm := [(0, .im 3 (enc fW l)), (3, .ref 10000000 []), (4, .sc (.int .i64 j))], ob := [(10000000, .arr 3 (enc fW (cp zW l j)))] }
theorem ev_toWireS (l : List (WireD)) (hl : l.length ≤ 1048576) (hx : ∀ x ∈ l, szW x ≤ 1048576) : semK G PK md 50 [.v (.im 3 (enc fW l))] = some ⟨[.v (.own 3 (enc fW l))], [], []⟩ := by
  refine semK_of (pf := p50) rfl (by simp [p50]) ?_
  have hstep : ∀ j, j < l.length → ∃ s', exec (semK G PK md) (semL G PK md) md b50_0 (st50 l j) = some (.normal, s') ∧ s'.m ≤ 10000000 ∧ canon 10000000 [0, 3, 4] s' = st50 l (j + 1) := fun j hlt => by
    obtain ⟨x, hx1⟩ := getElem?_of_lt hlt
    obtain ⟨_, hx'⟩ := at_of hx1
    have hc := cp_len zW l (Nat.le_of_lt hlt)
    have hg := cp_at zW l hlt
    have hset := cp_set zW l hx1
    have hes := enc_set fW (cp zW l j) j x
    simp only [fW] at hes
    have he := ev_toWire (PK := PK) x (hx x (List.mem_of_getElem? hx1))
    simp only [lents, lent, fW, owneds, owned] at he
    simp [b50_0, hlt, hx', incr hlt hl, hc, hg, hes, hset, he, md]
  have hsz := loop_ok (G := G) (PK := PK) (md := md) (o := 10000000) (live := [0, 3, 4]) (c := b50_0) (st50 l) l.length hstep (by simp [b50_0])
  have hb : l.length * 40 ≤ 35184372088832 := by omega
  have hb1 : l.length ≤ 35184372088832 := by omega
  have hrep : enc fW (cp zW l 0) = List.replicate l.length (fW zW) := by rw [cp_zero, enc_rep]
  simp only [fW, zW0, zW1, zW2, enc_nil] at hrep
  simp [p50, hb, hb1, hrep, hsz]
  simp [b50_0, cp_all]
@[simp] def st58 (l m : List (WireD)) (j : Nat) : St := { n := 27, m := 0, tm := [(0, .im 3 (enc fW l)), (1, .im 3 (enc fW m)), (5, .sc (.int .i64 j))], ob := [] }
theorem ev_eqWireS (l m : List (WireD)) (hl : l.length ≤ 1048576) (hx : ∀ x ∈ l, szW x ≤ 1048576) : semK G PK md 58 [.v (.im 3 (enc fW l)), .v (.im 3 (enc fW m))] = some ⟨[.v (.sc (.bool (decide (l = m))))], [], []⟩ := by
  refine semK_of (pf := p58) rfl (by simp [p58]) ?_
  by_cases hlen : l.length = m.length
  · have hlen' : (l.length : Int) = m.length := by omega
    obtain ⟨k, hk, hp, hkn⟩ := first (fun j => l[j]? = m[j]?) l.length
    have hstep : ∀ j, j < k → ∃ s', exec (semK G PK md) (semL G PK md) md b58_0 (st58 l m j) = some (.normal, s') ∧ s'.m ≤ 10000000 ∧ canon 10000000 [0, 1, 5] s' = st58 l m (j + 1) := fun j hj => by
      have hlt : j < l.length := by omega
      have hlt2 : j < m.length := by omega
      obtain ⟨x, hx1⟩ := getElem?_of_lt hlt
      have hy1 : m[j]? = some x := (hp j hj).symm.trans hx1
      obtain ⟨_, hx'⟩ := at_of hx1
      obtain ⟨_, hy'⟩ := at_of hy1
      have he := ev_eqWire (PK := PK) x x (hx x (List.mem_of_getElem? hx1))
      simp only [lents, lent, fW] at he
      simp [b58_0, hlt, hlt2, hx', hy', incr hlt hl, he, md]
    rcases hkn with rfl | ⟨hlt, hn⟩
    · have hsz := loop_ok (G := G) (PK := PK) (md := md) (o := 10000000) (live := [0, 1, 5]) (c := b58_0) (st58 l m) l.length hstep (by simp [b58_0])
      have hlm : l = m := List.ext_getElem? fun i => by
        rcases Nat.lt_or_ge i l.length with h | h
        · exact hp i h
        · rw [List.getElem?_eq_none h, List.getElem?_eq_none (by omega)]
      subst hlm
      simp only [decide_true]
      simp [p58]
      rw [hsz]
      · simp [b58_0]
      · simp
      · simp
    · have hlt2 : k < m.length := by omega
      obtain ⟨x, hx1⟩ := getElem?_of_lt hlt
      obtain ⟨y, hy1⟩ := getElem?_of_lt hlt2
      obtain ⟨_, hx'⟩ := at_of hx1
      obtain ⟨_, hy'⟩ := at_of hy1
      have hxy : ¬ x = y := fun h => hn (by rw [hx1, hy1, h])
      have he := ev_eqWire (PK := PK) x y (hx x (List.mem_of_getElem? hx1))
      simp only [lents, lent, fW] at he
      have hsz := loop_ok (G := G) (PK := PK) (md := md) (o := 10000000) (live := [0, 1, 5]) (c := b58_0) (st58 l m) k hstep (by simp [b58_0, hlt, hlt2, hx', hy', hxy, he, md])
      have hlm : ¬ l = m := fun h => hn (by rw [h])
      simp only [hlm, decide_false]
      simp [p58, hlen']
      rw [hsz]
      · simp [b58_0, hlt, hlt2, hx', hy', hxy, he, md]
      · simp
      · simp
  · have hlen' : ¬ (l.length : Int) = m.length := by omega
    have hlm : ¬ l = m := fun h => hlen (by rw [h])
    simp only [hlm, decide_false]
    simp [p58, hlen, hlen']
theorem ev_toRec (x : RecD) : semK G PK md 83 [.a (lents (fR x))] = some ⟨[.a (owneds (fR x))], [], []⟩ := by
  refine semK_of (pf := p83) rfl (by simp [p83]) ?_
  simp [p83, md]
theorem ev_eqRec (x y : RecD) : semK G PK md 90 [.a (lents (fR x)), .a (lents (fR y))] = some ⟨[.v (.sc (.bool (decide (x = y))))], [], []⟩ := by
  refine semK_of (pf := p90) rfl (by simp [p90]) ?_
  by_cases c0 : x.cell = y.cell
  case neg =>
    have hd : ¬ x = y := fun h => c0 (by rw [h])
    simp [p90, md, hd, c0]
  by_cases c1 : x.up = y.up
  case neg =>
    have hd : ¬ x = y := fun h => c1 (by rw [h])
    simp [p90, md, hd, c0, c1]
  have hd : x = y := by cases x; cases y; simp_all
  simp [p90, md, c0, c1, decide_eq_true hd]
theorem ev_szRecS (rows : List (List T)) (left : Int) (h0 : 0 ≤ left) (h1 : left ≤ 1048576) (hr : rows.length ≤ 9223372036854775807) :
    semK G PK md 44 [.v (.im 2 rows), .v (.sc (.int .i64 left))] = some ⟨[.v (.sc (.int .i64 (szr left rows.length)))], [], []⟩ := by
  have hw : IntKind.wrap .i64 (left - (rows.length : Int)) = left - rows.length := wrap_id (by omega) (by omega)
  refine semK_of (pf := p44) rfl (by simp [p44]) ?_
  by_cases h : left < rows.length
  · have h' : left - (rows.length : Int) < 0 := by omega
    simp [p44, hw, h', szr, h]
  · have h' : ¬ left - (rows.length : Int) < 0 := by omega
    simp [p44, hw, h', szr, h]
@[simp] def st51 (l : List (RecD)) (j : Nat) : St := { n := 23, m := 0, tm := [(0, .im 2 (enc fR l)), (3, .ref 10000000 []), (4, .sc (.int .i64 j))], ob := [(10000000, .arr 2 (enc fR (cp zR l j)))] }
theorem ev_toRecS (l : List (RecD)) (hl : l.length ≤ 1048576) : semK G PK md 51 [.v (.im 2 (enc fR l))] = some ⟨[.v (.own 2 (enc fR l))], [], []⟩ := by
  refine semK_of (pf := p51) rfl (by simp [p51]) ?_
  have hstep : ∀ j, j < l.length → ∃ s', exec (semK G PK md) (semL G PK md) md b51_0 (st51 l j) = some (.normal, s') ∧ s'.m ≤ 10000000 ∧ canon 10000000 [0, 3, 4] s' = st51 l (j + 1) := fun j hlt => by
    obtain ⟨x, hx1⟩ := getElem?_of_lt hlt
    obtain ⟨_, hx'⟩ := at_of hx1
    have hc := cp_len zR l (Nat.le_of_lt hlt)
    have hg := cp_at zR l hlt
    have hset := cp_set zR l hx1
    have hes := enc_set fR (cp zR l j) j x
    simp only [fR] at hes
    have he := ev_toRec (PK := PK) x 
    simp only [lents, lent, fR, owneds, owned] at he
    simp [b51_0, hlt, hx', incr hlt hl, hc, hg, hes, hset, he, md]
  have hsz := loop_ok (G := G) (PK := PK) (md := md) (o := 10000000) (live := [0, 3, 4]) (c := b51_0) (st51 l) l.length hstep (by simp [b51_0])
  have hb : l.length * 16 ≤ 35184372088832 := by omega
  have hb1 : l.length ≤ 35184372088832 := by omega
  have hrep : enc fR (cp zR l 0) = List.replicate l.length (fR zR) := by rw [cp_zero, enc_rep]
  simp only [fR, zR0, zR1] at hrep
  simp [p51, hb, hb1, hrep, hsz]
  simp [b51_0, cp_all]
@[simp] def st59 (l m : List (RecD)) (j : Nat) : St := { n := 27, m := 0, tm := [(0, .im 2 (enc fR l)), (1, .im 2 (enc fR m)), (5, .sc (.int .i64 j))], ob := [] }
theorem ev_eqRecS (l m : List (RecD)) (hl : l.length ≤ 1048576) : semK G PK md 59 [.v (.im 2 (enc fR l)), .v (.im 2 (enc fR m))] = some ⟨[.v (.sc (.bool (decide (l = m))))], [], []⟩ := by
  refine semK_of (pf := p59) rfl (by simp [p59]) ?_
  by_cases hlen : l.length = m.length
  · have hlen' : (l.length : Int) = m.length := by omega
    obtain ⟨k, hk, hp, hkn⟩ := first (fun j => l[j]? = m[j]?) l.length
    have hstep : ∀ j, j < k → ∃ s', exec (semK G PK md) (semL G PK md) md b59_0 (st59 l m j) = some (.normal, s') ∧ s'.m ≤ 10000000 ∧ canon 10000000 [0, 1, 5] s' = st59 l m (j + 1) := fun j hj => by
      have hlt : j < l.length := by omega
      have hlt2 : j < m.length := by omega
      obtain ⟨x, hx1⟩ := getElem?_of_lt hlt
      have hy1 : m[j]? = some x := (hp j hj).symm.trans hx1
      obtain ⟨_, hx'⟩ := at_of hx1
      obtain ⟨_, hy'⟩ := at_of hy1
      have he := ev_eqRec (PK := PK) x x 
      simp only [lents, lent, fR] at he
      simp [b59_0, hlt, hlt2, hx', hy', incr hlt hl, he, md]
    rcases hkn with rfl | ⟨hlt, hn⟩
    · have hsz := loop_ok (G := G) (PK := PK) (md := md) (o := 10000000) (live := [0, 1, 5]) (c := b59_0) (st59 l m) l.length hstep (by simp [b59_0])
      have hlm : l = m := List.ext_getElem? fun i => by
        rcases Nat.lt_or_ge i l.length with h | h
        · exact hp i h
        · rw [List.getElem?_eq_none h, List.getElem?_eq_none (by omega)]
      subst hlm
      simp only [decide_true]
      simp [p59]
      rw [hsz]
      · simp [b59_0]
      · simp
      · simp
    · have hlt2 : k < m.length := by omega
      obtain ⟨x, hx1⟩ := getElem?_of_lt hlt
      obtain ⟨y, hy1⟩ := getElem?_of_lt hlt2
      obtain ⟨_, hx'⟩ := at_of hx1
      obtain ⟨_, hy'⟩ := at_of hy1
      have hxy : ¬ x = y := fun h => hn (by rw [hx1, hy1, h])
      have he := ev_eqRec (PK := PK) x y 
      simp only [lents, lent, fR] at he
      have hsz := loop_ok (G := G) (PK := PK) (md := md) (o := 10000000) (live := [0, 1, 5]) (c := b59_0) (st59 l m) k hstep (by simp [b59_0, hlt, hlt2, hx', hy', hxy, he, md])
      have hlm : ¬ l = m := fun h => hn (by rw [h])
      simp only [hlm, decide_false]
      simp [p59, hlen']
      rw [hsz]
      · simp [b59_0, hlt, hlt2, hx', hy', hxy, he, md]
      · simp
      · simp
  · have hlen' : ¬ (l.length : Int) = m.length := by omega
    have hlm : ¬ l = m := fun h => hlen (by rw [h])
    simp only [hlm, decide_false]
    simp [p59, hlen, hlen']
theorem ev_szWorld (x : WorldD) (left : Int) (h0 : 0 ≤ left) (h1 : left ≤ 1048576) (hf : shWo x) :
    semK G PK md 17 [.a (lents (fWo x)), .v (.sc (.int .i64 left))] = some ⟨[.v (.sc (.int .i64 (szr left (szWo x))))], [], []⟩ := by
  refine semK_of (pf := p17) rfl (by simp [p17]) ?_
  unfold szWo
  have e0 := ev_szNodeS (PK := PK) x.nodes (left) h0 h1 hf.1
  by_cases c0 : left < (szs szN x.nodes : Nat)
  · rw [szr_lt c0] at e0
    rw [szr_lt (by omega)]
    simp [p17, md, e0]
  rw [szr_ge c0] at e0
  have d0 : ¬ left - (szs szN x.nodes : Nat) < 0 := by omega
  have e1 := ev_szWireS (PK := PK) x.net (left - (szs szN x.nodes : Nat)) (by omega) (by omega) hf.2.1
  by_cases c1 : left - (szs szN x.nodes : Nat) < (szs szW x.net : Nat)
  · rw [szr_lt c1] at e1
    rw [szr_lt (by omega)]
    simp [p17, md, e0, d0, e1]
  rw [szr_ge c1] at e1
  have d1 : ¬ left - (szs szN x.nodes : Nat) - (szs szW x.net : Nat) < 0 := by omega
  have e2 := ev_szRecS (PK := PK) (enc fR x.log) (left - (szs szN x.nodes : Nat) - (szs szW x.net : Nat)) (by omega) (by omega) (by rw [enc_len]; exact hf.2.2.1)
  simp only [enc_len] at e2
  by_cases c2 : left - (szs szN x.nodes : Nat) - (szs szW x.net : Nat) < (x.log.length : Nat)
  · rw [szr_lt c2] at e2
    rw [szr_lt (by omega)]
    simp [p17, md, e0, d0, e1, d1, e2]
  rw [szr_ge c2] at e2
  have d2 : ¬ left - (szs szN x.nodes : Nat) - (szs szW x.net : Nat) - (x.log.length : Nat) < 0 := by omega
  have e3 := ev_szIntS (PK := PK) (enc fI x.safe) (left - (szs szN x.nodes : Nat) - (szs szW x.net : Nat) - (x.log.length : Nat)) (by omega) (by omega) (by rw [enc_len]; exact hf.2.2.2)
  simp only [enc_len] at e3
  by_cases c3 : left - (szs szN x.nodes : Nat) - (szs szW x.net : Nat) - (x.log.length : Nat) < (x.safe.length : Nat)
  · rw [szr_lt c3] at e3
    rw [szr_lt (by omega)]
    simp [p17, md, e0, d0, e1, d1, e2, d2, e3]
  rw [szr_ge c3] at e3
  have d3 : ¬ left - (szs szN x.nodes : Nat) - (szs szW x.net : Nat) - (x.log.length : Nat) - (x.safe.length : Nat) < 0 := by omega
  have hz : szr left ((szs szN x.nodes) + (szs szW x.net) + x.log.length + x.safe.length) = left - (szs szN x.nodes : Nat) - (szs szW x.net : Nat) - (x.log.length : Nat) - (x.safe.length : Nat) := by rw [szr_ge (by omega)]; all_goals omega
  rw [hz]
  simp [p17, md, e0, d0, e1, d1, e2, d2, e3, d3]
theorem ev_toWorld (x : WorldD) (hl : szWo x ≤ 1048576) : semK G PK md 19 [.a (lents (fWo x))] = some ⟨[.a (owneds (fWo x))], [], []⟩ := by
  refine semK_of (pf := p19) rfl (by simp [p19]) ?_
  unfold szWo at hl
  have e0 := ev_toNodeS (PK := PK) x.nodes (by have h_ := hl; simp only [szs] at h_; omega) (fun z hz => by have h_ := hl; have g_ := sumN_mem (List.mem_map_of_mem (f := szN) hz); simp only [szs] at h_; omega)
  have e1 := ev_toWireS (PK := PK) x.net (by have h_ := hl; simp only [szs] at h_; omega) (fun z hz => by have h_ := hl; have g_ := sumN_mem (List.mem_map_of_mem (f := szW) hz); simp only [szs] at h_; omega)
  have e2 := ev_toRecS (PK := PK) x.log (by omega)
  have e3 := ev_toIntS (PK := PK) x.safe (by omega)
  simp [p19, md, e0, e1, e2, e3]
theorem ev_eqWorld (x y : WorldD) (hl : szWo x ≤ 1048576) : semK G PK md 22 [.a (lents (fWo x)), .a (lents (fWo y))] = some ⟨[.v (.sc (.bool (decide (x = y))))], [], []⟩ := by
  refine semK_of (pf := p22) rfl (by simp [p22]) ?_
  unfold szWo at hl
  have e0 := ev_eqNodeS (PK := PK) x.nodes y.nodes (by have h_ := hl; simp only [szs] at h_; omega) (fun z hz => by have h_ := hl; have g_ := sumN_mem (List.mem_map_of_mem (f := szN) hz); simp only [szs] at h_; omega)
  by_cases c0 : x.nodes = y.nodes
  case neg =>
    have hd : ¬ x = y := fun h => c0 (by rw [h])
    simp only [c0, decide_false] at e0
    simp [p22, md, hd, e0]
  simp only [c0, decide_true] at e0
  have e1 := ev_eqWireS (PK := PK) x.net y.net (by have h_ := hl; simp only [szs] at h_; omega) (fun z hz => by have h_ := hl; have g_ := sumN_mem (List.mem_map_of_mem (f := szW) hz); simp only [szs] at h_; omega)
  by_cases c1 : x.net = y.net
  case neg =>
    have hd : ¬ x = y := fun h => c1 (by rw [h])
    simp only [c1, decide_false] at e1
    simp [p22, md, hd, e0, c0, e1]
  simp only [c1, decide_true] at e1
  have e2 := ev_eqRecS (PK := PK) x.log y.log (by omega)
  by_cases c2 : x.log = y.log
  case neg =>
    have hd : ¬ x = y := fun h => c2 (by rw [h])
    simp only [c2, decide_false] at e2
    simp [p22, md, hd, e0, c0, e1, c1, e2]
  simp only [c2, decide_true] at e2
  have e3 := ev_eqIntS (PK := PK) x.safe y.safe (by omega)
  by_cases c3 : x.safe = y.safe
  case neg =>
    have hd : ¬ x = y := fun h => c3 (by rw [h])
    simp only [c3, decide_false] at e3
    simp [p22, md, hd, e0, c0, e1, c1, e2, c2, e3]
  simp only [c3, decide_true] at e3
  by_cases c4 : x.gen = y.gen
  case neg =>
    have hd : ¬ x = y := fun h => c4 (by rw [h])
    simp [p22, md, hd, e0, c0, e1, c1, e2, c2, e3, c3, c4]
  have hd : x = y := by cases x; cases y; simp_all
  simp [p22, md, e0, c0, e1, c1, e2, c2, e3, c3, c4, decide_eq_true hd]
theorem ev_szStore (x : StoreD) (left : Int) (h0 : 0 ≤ left) (h1 : left ≤ 1048576) (hf : shSt x) :
    semK G PK md 6 [.a (lents (fSt x)), .v (.sc (.int .i64 left))] = some ⟨[.v (.sc (.int .i64 (szr left (szSt x))))], [], []⟩ := by
  refine semK_of (pf := p6) rfl (by simp [p6]) ?_
  unfold szSt
  have e0 := ev_szWorld (PK := PK) x.w (left) h0 h1 hf.1
  simp only [lents, lent, fWo] at e0
  by_cases c0 : left < (szWo x.w : Nat)
  · rw [szr_lt c0] at e0
    rw [szr_lt (by omega)]
    simp [p6, md, e0]
  rw [szr_ge c0] at e0
  have d0 : ¬ left - (szWo x.w : Nat) < 0 := by omega
  have e1 := ev_szByteSS (PK := PK) x.blocks (left - (szWo x.w : Nat)) (by omega) (by omega) hf.2
  by_cases c1 : left - (szWo x.w : Nat) < (szs List.length x.blocks : Nat)
  · rw [szr_lt c1] at e1
    rw [szr_lt (by omega)]
    simp [p6, md, e0, d0, e1]
  rw [szr_ge c1] at e1
  have d1 : ¬ left - (szWo x.w : Nat) - (szs List.length x.blocks : Nat) < 0 := by omega
  have hz : szr left ((szWo x.w) + szs List.length x.blocks) = left - (szWo x.w : Nat) - (szs List.length x.blocks : Nat) := by rw [szr_ge (by omega)]; all_goals omega
  rw [hz]
  simp [p6, md, e0, d0, e1, d1]
theorem ev_toStore (x : StoreD) (hl : szSt x ≤ 1048576) : semK G PK md 8 [.a (lents (fSt x))] = some ⟨[.a (owneds (fSt x))], [], []⟩ := by
  refine semK_of (pf := p8) rfl (by simp [p8]) ?_
  unfold szSt at hl
  have e0 := ev_toWorld (PK := PK) x.w (by omega)
  simp only [lents, lent, fWo, owneds, owned] at e0
  have e1 := ev_toByteSS (PK := PK) x.blocks (by have h_ := hl; simp only [szs] at h_; omega) (fun z hz => by have h_ := hl; have g_ := sumN_mem (List.mem_map_of_mem (f := List.length) hz); simp only [szs] at h_; omega)
  simp [p8, md, e0, e1]
theorem ev_eqStore (x y : StoreD) (hl : szSt x ≤ 1048576) : semK G PK md 11 [.a (lents (fSt x)), .a (lents (fSt y))] = some ⟨[.v (.sc (.bool (decide (x = y))))], [], []⟩ := by
  refine semK_of (pf := p11) rfl (by simp [p11]) ?_
  unfold szSt at hl
  have e0 := ev_eqWorld (PK := PK) x.w y.w (by omega)
  simp only [lents, lent, fWo] at e0
  by_cases c0 : x.w = y.w
  case neg =>
    have hd : ¬ x = y := fun h => c0 (by rw [h])
    simp only [c0, decide_false] at e0
    simp [p11, md, hd, e0]
  simp only [c0, decide_true] at e0
  have e1 := ev_eqByteSS (PK := PK) x.blocks y.blocks (by have h_ := hl; simp only [szs] at h_; omega) (fun z hz => by have h_ := hl; have g_ := sumN_mem (List.mem_map_of_mem (f := List.length) hz); simp only [szs] at h_; omega)
  by_cases c1 : x.blocks = y.blocks
  case neg =>
    have hd : ¬ x = y := fun h => c1 (by rw [h])
    simp only [c1, decide_false] at e1
    simp [p11, md, hd, e0, c0, e1]
  simp only [c1, decide_true] at e1
  have hd : x = y := by cases x; cases y; simp_all
  simp [p11, md, e0, c0, e1, c1, decide_eq_true hd]
end Go.Proofs.YtcbcackolaphhaaGreat.Ow
