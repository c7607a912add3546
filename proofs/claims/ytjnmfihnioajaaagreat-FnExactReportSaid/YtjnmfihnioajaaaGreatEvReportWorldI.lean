/- A world that is right, the code: evaluated. -/
import Derived.Test.YtjnmfihnioajaaaGreatEvReportWorld
namespace Go.Proofs.YtjnmfihnioajaaaGreat.Ow
open Go
set_option linter.unusedVariables false
set_option linter.unusedSimpArgs false
set_option maxHeartbeats 4000000
variable {PK : Nat → List Arg → Option Res}
def impP (w : WorldD) (i k : Nat) : Bool := !(cn w i k && !cn w k i)
theorem imp_sym (w : WorldD) : allB (fun i => allB (impP w i) 3) 3 = allB (fun i => allB (symP w i) 3) 3 := by
  cases h : allB (fun i => allB (symP w i) 3) 3
  · cases h2 : allB (fun i => allB (impP w i) 3) 3
    · rfl
    · exfalso
      rw [allB_true (fun i hi => allB_true fun k hk => ?_)] at h
      · cases h
      · have h3 : impP w i k = true := allB_get (p := impP w i) (allB_get (p := fun i => allB (impP w i) 3) h2 hi) hk
        have h4 : impP w k i = true := allB_get (p := impP w k) (allB_get (p := fun i => allB (impP w i) 3) h2 hk) hi
        unfold impP at h3 h4
        unfold symP
        revert h3 h4
        cases cn w i k <;> cases cn w k i <;> simp
  · refine allB_true fun i hi => allB_true fun k hk => ?_
    have h3 : symP w i k = true := allB_get (p := symP w i) (allB_get (p := fun i => allB (symP w i) 3) h hi) hk
    unfold symP at h3
    unfold impP
    revert h3
    cases cn w i k <;> cases cn w k i <;> simp
def nodesB (w : WorldD) : Bool := decide (w.nodes.length = 3) && allB (nodeP w) 3 && allB (fun i => allB (symP w i) 3) 3
theorem any_img (w : WorldD) (n : NodeD) (h8 : n.image.length = 8) : n.image.any (fun x => decide ((w.log.length : Int) < x)) = !allB (imgP w n) 8 := by
  cases h : allB (imgP w n) 8
  · unfold allB at h
    rw [List.all_eq_false] at h
    obtain ⟨k, hk, h2⟩ := h
    have hk := List.mem_range.1 hk
    obtain ⟨x, y1, hx, hx', hxd, hxm⟩ := get_ex n.image 0 (j := k) (by omega)
    unfold imgP at h2
    rw [hxd, decide_eq_true_iff] at h2
    exact List.any_eq_true.2 ⟨x, hxm, by simp; omega⟩
  · refine List.any_eq_false.2 fun x hx => ?_
    obtain ⟨j, hj⟩ := List.getElem?_of_mem hx
    have h2 := allB_get h (j := j) (by rw [← h8]; exact (List.getElem?_eq_some_iff.1 hj).1)
    unfold imgP at h2
    rw [getD_of hj, decide_eq_true_iff] at h2
    simp
    omega
theorem ev_nodesOk1 (w : WorldD) (x : Int) : semK G PK md 118 [.v (.sc (.int .i64 x)), .pi (fWo w)] = some ⟨[.v (.sc (.bool (decide ((w.log.length : Int) < x))))], [], []⟩ := by
  refine semK_of (pf := p118) rfl (by simp [p118]) ?_
  simp [p118, md]
@[simp] def st84_2 (w : WorldD) (j : Nat) : St := { n := 75, m := 0, tm := [(1, .pb 10000000 0), (13, .im 16 (enc fN w.nodes)), (14, .sc (.int .i64 w.nodes.length)), (15, .sc (.int .i64 j))], ob := [(10000000, wbox w)] }
@[simp] def st84_1 (w : WorldD) (j : Nat) : St := { n := 75, m := 0, tm := [(1, .pb 10000200 0), (46, .im 16 (enc fN w.nodes)), (47, .sc (.int .i64 w.nodes.length)), (48, .sc (.int .i64 j))], ob := [(10000200, wbox w)] }
@[simp] def st84_0 (w : WorldD) (n : NodeD) (i j : Nat) : St := { n := 75, m := 0, tm := [(1, .pb 10000400 0), (5, .sc (.int .i64 i)), (6, .pb 10000401 0), (46, .im 16 (enc fN w.nodes)), (47, .sc (.int .i64 w.nodes.length)), (48, .sc (.int .i64 i)), (53, .sc (.int .i64 j))], ob := [(10000400, wbox w), (10000401, nbox n)] }
theorem lp84_2 (w : WorldD) (h3 : w.nodes.length = 3) (hw : wS w) : ∃ bad, (allB (nodeP w) 3 = false → bad.m = 0 ∧ getT bad.tm 2 = .sc (.bool false)) ∧ ∀ (s : St), s.m ≤ 10000000 → canon 10000000 [1, 13, 14, 15] s = st84_2 w 0 → semL G PK md 10000000 [1, 13, 14, 15] b84_2 s = if allB (nodeP w) 3 = true then exec (semK G PK md) (semL G PK md) md b84_2 (st84_2 w 3) else some (.ret, bad) :=
  loop_all (G := G) (PK := PK) (md := md) (o := 10000000) (live := [1, 13, 14, 15]) (c := b84_2) (st84_2 w) (nodeP w) (3) (fun s => s.m = 0 ∧ getT s.tm 2 = .sc (.bool false)) (fun j hj => by
    obtain ⟨x, y1, hx, hx', hxd, hxm⟩ := get_ex w.nodes zN (j := j) (by omega)
    have hj3 : ((j : Nat) : Int) < 3 := by omega
    have hinc := incr (n := 3) (j := j) (by omega) (by omega)
    have e := ev_impl_NodeOk (PK := PK) x (hw.node x hxm)
    simp only [lents, lent, fN] at e
    unfold nodeP nd
    rw [hxd]
    cases hok : nodeOk x
    · rw [hok] at e
      simp [b84_2, md, h3, hj, hj3, y1, hx', e]
    rw [hok] at e
    by_cases hid : x.id = j
    case neg => simp [b84_2, md, h3, hj, hj3, y1, hx', e, hid]
    rw [hid] at e
    by_cases hl : x.mt.last ≤ w.log.length
    case neg =>
      have hl2 : (w.log.length : Int) < x.mt.last := by omega
      simp [b84_2, md, h3, hj, hj3, y1, hx', hid, e, hl, hl2]
    have hl2 : ¬ (w.log.length : Int) < x.mt.last := by omega
    have nx := nodeOk_of hok
    have e2 := ev_HasI1 (PK := PK) 118 (fWo w) (fun x => decide ((w.log.length : Int) < x)) x.image (by have := nx.img8; omega) rfl (fun x _ => ev_nodesOk1 w x)
    rw [any_img w x nx.img8] at e2
    simp only [fWo] at e2
    cases hp : allB (imgP w x) 8
    · rw [hp] at e2
      simp [b84_2, md, h3, hj, hj3, y1, hx', hid, e, hl, hl2, e2]
    · rw [hp] at e2
      simp [b84_2, md, h3, hj, hj3, y1, hx', hid, e, hl, hl2, e2, hinc]) (by simp [b84_2, h3])
theorem lp84_0 (w : WorldD) (hN : NodesOk w) (i : Nat) (hi : i < 3) : ∃ bad, (allB (impP w i) 3 = false → bad.m = 0 ∧ getT bad.tm 2 = .sc (.bool false)) ∧ ∀ (s : St), s.m ≤ 10000400 → canon 10000400 [1, 5, 6, 46, 47, 48, 53] s = st84_0 w (nd w i) i 0 → semL G PK md 10000400 [1, 5, 6, 46, 47, 48, 53] b84_0 s = if allB (impP w i) 3 = true then exec (semK G PK md) (semL G PK md) md b84_0 (st84_0 w (nd w i) i 3) else some (.ret, bad) :=
  loop_all (G := G) (PK := PK) (md := md) (o := 10000400) (live := [1, 5, 6, 46, 47, 48, 53]) (c := b84_0) (st84_0 w (nd w i) i) (impP w i) (3) (fun s => s.m = 0 ∧ getT s.tm 2 = .sc (.bool false)) (fun j hj => by
    obtain ⟨y, y2, hy, hy', hyd, hym⟩ := get_ex w.nodes zN (j := j) (by rw [hN.len]; omega)
    have nx := hN.ok i hi
    have ny := hN.ok j hj
    unfold impP cn
    generalize nd w i = x at nx ⊢
    unfold nd at ny ⊢
    rw [hyd] at ny ⊢
    obtain ⟨c1, z1, _, a1, d1⟩ := getB_ex x.conn (j := j) (by rw [nx.conn]; omega)
    obtain ⟨c2, z2, _, a2, d2⟩ := getB_ex y.conn (j := i) (by rw [ny.conn]; omega)
    have hj3 : ((j : Nat) : Int) < 3 := by omega
    have hinc := incr (n := 3) (j := j) (by omega) (by omega)
    rw [d1, d2]
    cases c1
    · simp [b84_0, md, hj3, hinc, z1, a1]
    cases c2 <;> simp [b84_0, md, hj3, hinc, y2, hy', z1, z2, a1, a2]) (by simp [b84_0])
theorem lp84_1 (w : WorldD) (hN : NodesOk w) : ∃ bad, (allB (fun i => allB (impP w i) 3) 3 = false → bad.m = 0 ∧ getT bad.tm 2 = .sc (.bool false)) ∧ ∀ (s : St), s.m ≤ 10000200 → canon 10000200 [1, 46, 47, 48] s = st84_1 w 0 → semL G PK md 10000200 [1, 46, 47, 48] b84_1 s = if allB (fun i => allB (impP w i) 3) 3 = true then exec (semK G PK md) (semL G PK md) md b84_1 (st84_1 w 3) else some (.ret, bad) :=
  loop_all (G := G) (PK := PK) (md := md) (o := 10000200) (live := [1, 46, 47, 48]) (c := b84_1) (st84_1 w) (fun i => allB (impP w i) 3) (3) (fun s => s.m = 0 ∧ getT s.tm 2 = .sc (.bool false)) (fun j hj => by
    obtain ⟨x, y1, hx, hx', hxd, hxm⟩ := get_ex w.nodes zN (j := j) (by rw [hN.len]; omega)
    obtain ⟨bad, hb, hsz⟩ := lp84_0 (PK := PK) w hN j hj
    rw [show nd w j = x from hxd] at hsz
    have hj3 : ((j : Nat) : Int) < 3 := by omega
    have hinc := incr (n := 3) (j := j) (by omega) (by omega)
    have h3 := hN.len
    cases hp : allB (impP w j) 3
    · obtain ⟨g1, g2⟩ := hb hp
      simp only [hp] at hsz
      simp [b84_1, md, h3, hj, hj3, y1, hx']
      rw [hsz]
      · simp [g1, g2, hp]
      · simp
      · simp [h3]
    · simp only [hp] at hsz
      simp [b84_1, md, h3, hj, hj3, y1, hx']
      rw [hsz]
      · simp [b84_0, hp, hinc, h3]
      · simp
      · simp [h3]) (by simp [b84_1, hN.len])
theorem ev_nodesOk (w : WorldD) (hw : wS w) : semK G PK md 84 [.a (lents (fWo w))] = some ⟨[.v (.sc (.bool (nodesB w)))], [], []⟩ := by
  refine semK_of (pf := p84) rfl (by simp [p84]) ?_
  unfold nodesB
  by_cases h3 : w.nodes.length = 3
  case neg =>
    have h3' : ¬ (w.nodes.length : Int) = 3 := by omega
    simp [p84, md, h3, h3']
  obtain ⟨bad2, hb2, hs2⟩ := lp84_2 (PK := PK) w h3 hw
  cases q2 : allB (nodeP w) 3
  · obtain ⟨g1, g2⟩ := hb2 q2
    simp only [q2] at hs2
    simp [p84, md, h3]
    rw [hs2]
    · simp [g1, g2]
    · simp
    · simp [h3]
  have hN := nodesOk_of h3 q2
  obtain ⟨bad1, hb1, hs1⟩ := lp84_1 (PK := PK) w hN
  simp only [q2] at hs2
  rw [← imp_sym]
  cases q1 : allB (fun i => allB (impP w i) 3) 3
  · obtain ⟨g1, g2⟩ := hb1 q1
    simp only [q1] at hs1
    simp [p84, md, h3]
    rw [hs2]
    · simp [b84_2, h3]
      rw [hs1]
      · simp [g1, g2]
      · simp
      · simp [h3]
    · simp
    · simp [h3]
  simp only [q1] at hs1
  simp [p84, md, h3]
  rw [hs2]
  · simp [b84_2, h3]
    rw [hs1]
    · simp [b84_1, h3]
    · simp
    · simp [h3]
  · simp
  · simp [h3]
@[simp] def st41_2 (w : WorldD) (j : Nat) : St := { n := 124, m := 0, tm := [(1, .pb 10000000 0), (31, .im 3 (enc fW w.net)), (32, .sc (.int .i64 w.net.length)), (33, .sc (.int .i64 j))], ob := [(10000000, wbox w)] }
@[simp] def st41_1 (w : WorldD) (j : Nat) : St := { n := 124, m := 0, tm := [(1, .pb 10000200 0), (76, .im 2 (enc fR w.log)), (77, .sc (.int .i64 w.log.length)), (78, .sc (.int .i64 j))], ob := [(10000200, wbox w)] }
@[simp] def st41_0 (w : WorldD) (j : Nat) : St := { n := 124, m := 0, tm := [(1, .pb 10000400 0), (96, .im 1 (enc fI w.safe)), (97, .sc (.int .i64 w.safe.length)), (98, .sc (.int .i64 j))], ob := [(10000400, wbox w)] }
theorem lp41_2 (w : WorldD) (hN : NodesOk w) (hw : wS w) : ∃ bad, (allB (wireP w) w.net.length = false → bad.m = 0 ∧ getT bad.tm 2 = .sc (.bool false)) ∧ ∀ (s : St), s.m ≤ 10000000 → canon 10000000 [1, 31, 32, 33] s = st41_2 w 0 → semL G PK md 10000000 [1, 31, 32, 33] b41_2 s = if allB (wireP w) w.net.length = true then exec (semK G PK md) (semL G PK md) md b41_2 (st41_2 w w.net.length) else some (.ret, bad) :=
  loop_all (G := G) (PK := PK) (md := md) (o := 10000000) (live := [1, 31, 32, 33]) (c := b41_2) (st41_2 w) (wireP w) (w.net.length) (fun s => s.m = 0 ∧ getT s.tm 2 = .sc (.bool false)) (fun j hj => by
    obtain ⟨x, y1, hx, hx', hxd, hxm⟩ := get_ex w.net zW hj
    have e1 := ev_isNode (PK := PK) x.src
    have e2 := ev_isNode (PK := PK) x.dst
    have hinc := incr hj hw.net
    unfold wireP cn nd
    rw [hxd]
    cases b1 : inB x.src 0 2
    · rw [b1] at e1
      simp [b41_2, md, hj, hx', e1]
    rw [b1] at e1
    cases b2 : inB x.dst 0 2
    · rw [b2] at e2
      simp [b41_2, md, hj, hx', e1, e2]
    rw [b2] at e2
    by_cases hsd : x.src = x.dst
    · simp [b41_2, md, hj, hx', e1, e2, eq_true hsd]
    have r1 := inB_iff.1 b1
    have r2 := inB_iff.1 b2
    obtain ⟨i, hi⟩ : ∃ i : Nat, x.src = (i : Int) := ⟨x.src.toNat, by omega⟩
    obtain ⟨k, hk⟩ : ∃ k : Nat, x.dst = (k : Int) := ⟨x.dst.toNat, by omega⟩
    obtain ⟨y, y2, hy, hy', hyd, hym⟩ := get_ex w.nodes zN (j := i) (by rw [hN.len]; omega)
    have ny := hN.ok i (by omega)
    unfold nd at ny
    rw [hyd] at ny
    obtain ⟨c1, z1, _, a1, d1⟩ := getB_ex y.conn (j := k) (by rw [ny.conn]; omega)
    have hik : ¬ (i : Int) = k := by rw [← hi, ← hk]; exact hsd
    rw [hi] at e1
    rw [hk] at e2
    simp only [hi, hk, Int.toNat_natCast, hyd, d1]
    cases c1
    · simp [b41_2, md, hj, hx', e1, e2, hi, hk, hik, y2, hy', z1, a1]
    by_cases hlen : x.bytes.length ≤ 400
    · have hl2 : ¬ (400 : Int) < x.bytes.length := by omega
      simp [b41_2, md, hj, hx', e1, e2, hi, hk, hik, y2, hy', z1, a1, hlen, hl2, hinc]
    · have hl2 : (400 : Int) < x.bytes.length := by omega
      simp [b41_2, md, hj, hx', e1, e2, hi, hk, hik, y2, hy', z1, a1, hlen, hl2]) (by simp [b41_2])
theorem lp41_1 (w : WorldD) (hw : wS w) : ∃ bad, (allB (recP w.log) w.log.length = false → bad.m = 0 ∧ getT bad.tm 2 = .sc (.bool false)) ∧ ∀ (s : St), s.m ≤ 10000200 → canon 10000200 [1, 76, 77, 78] s = st41_1 w 0 → semL G PK md 10000200 [1, 76, 77, 78] b41_1 s = if allB (recP w.log) w.log.length = true then exec (semK G PK md) (semL G PK md) md b41_1 (st41_1 w w.log.length) else some (.ret, bad) :=
  loop_all (G := G) (PK := PK) (md := md) (o := 10000200) (live := [1, 76, 77, 78]) (c := b41_1) (st41_1 w) (recP w.log) (w.log.length) (fun s => s.m = 0 ∧ getT s.tm 2 = .sc (.bool false)) (fun j hj => by
    obtain ⟨x, y1, hx, hx', hxd, hxm⟩ := get_ex w.log zR hj
    have hinc := incr hj hw.log
    have e1 := ev_isCell (PK := PK) x.cell
    have e2 := ev_from (PK := PK) x.up 0 j
    unfold recP
    rw [hxd]
    generalize inB x.cell 0 7 = b1 at e1 ⊢
    cases b1
    · simp [b41_1, md, hj, hx', e1]
    generalize inB x.up 0 j = b2 at e2 ⊢
    cases b2
    · simp [b41_1, md, hj, hx', e1, e2]
    simp [b41_1, md, hj, hx', e1, e2, hinc]) (by simp [b41_1])
theorem lp41_0 (w : WorldD) (hw : wS w) : ∃ bad, (allB (ascP 1 w.log.length w.safe) w.safe.length = false → bad.m = 0 ∧ getT bad.tm 2 = .sc (.bool false)) ∧ ∀ (s : St), s.m ≤ 10000400 → canon 10000400 [1, 96, 97, 98] s = st41_0 w 0 → semL G PK md 10000400 [1, 96, 97, 98] b41_0 s = if allB (ascP 1 w.log.length w.safe) w.safe.length = true then exec (semK G PK md) (semL G PK md) md b41_0 (st41_0 w w.safe.length) else some (.ret, bad) :=
  loop_all (G := G) (PK := PK) (md := md) (o := 10000400) (live := [1, 96, 97, 98]) (c := b41_0) (st41_0 w) (ascP 1 w.log.length w.safe) (w.safe.length) (fun s => s.m = 0 ∧ getT s.tm 2 = .sc (.bool false)) (fun j hj => by
    obtain ⟨x, y1, hx, hx', hxd, hxm⟩ := get_ex w.safe 0 hj
    have e := ev_from (PK := PK) x 1 w.log.length
    have hi := incr hj hw.safe
    unfold ascP
    rw [hxd]
    generalize inB x 1 w.log.length = b1 at e ⊢
    cases b1
    · simp [b41_0, md, hj, hx', e]
    rcases Nat.eq_zero_or_pos j with hz | hz
    · subst hz
      simp at hi
      simp [b41_0, md, hj, hx', e, hi]
    · have hz0 : ¬ j = 0 := by omega
      obtain ⟨i, hij⟩ : ∃ i, j = i + 1 := ⟨j - 1, by omega⟩
      obtain ⟨x2, y2, hx2, hx2', hxd2, _⟩ := get_ex w.safe 0 (j := i) (by omega)
      have hwr : IntKind.wrap .i64 ((j : Int) - 1) = (i : Int) := by rw [wrap_id (by omega) (by have := hw.safe; omega)]; omega
      have hpos : (0 : Int) < j := by omega
      rw [show j - 1 = i by omega, hxd2]
      by_cases hlt : x2 < x
      · have hge : ¬ x ≤ x2 := by omega
        simp [b41_0, md, hj, hz0, hz, hx', e, hi, hwr, hpos, y2, hx2', hlt, hge]
      · have hge : x ≤ x2 := by omega
        simp [b41_0, md, hj, hz0, hz, hx', e, hi, hwr, hpos, y2, hx2', hlt, hge]) (by simp [b41_0])
theorem worldOk_eq (w : WorldD) : worldOk w = (nodesB w && decide (w.net.length ≤ 40) && decide (w.log.length ≤ 200) && inB w.gen 2 100000 && allB (wireP w) w.net.length && allB (recP w.log) w.log.length && allB (ascP 1 w.log.length w.safe) w.safe.length) := by
  unfold worldOk nodesB lines
  cases decide (w.nodes.length = 3) <;> cases decide (w.net.length ≤ 40) <;> cases decide (w.log.length ≤ 200) <;> cases inB w.gen 2 100000 <;> cases allB (nodeP w) 3 <;> cases allB (fun i => allB (symP w i) 3) 3 <;> simp [Bool.and_comm, Bool.and_left_comm, Bool.and_assoc]
theorem nodesB_of {w : WorldD} (h : nodesB w = true) : NodesOk w := by
  unfold nodesB at h
  simp only [Bool.and_eq_true, decide_eq_true_iff] at h
  exact nodesOk_of h.1.1 h.1.2
theorem ev_impl_WorldOk (w : WorldD) (hw : wS w) : semK G PK md 41 [.a (lents (fWo w))] = some ⟨[.v (.sc (.bool (worldOk w)))], [], []⟩ := by
  refine semK_of (pf := p41) rfl (by simp [p41]) ?_
  have e0 := ev_nodesOk (PK := PK) w hw
  have e1 := ev_from (PK := PK) w.gen 2 100000
  simp only [lents, lent, fWo] at e0
  rw [worldOk_eq]
  cases hn : nodesB w
  · rw [hn] at e0
    simp [p41, md, e0]
  rw [hn] at e0
  have hN := nodesB_of hn
  by_cases hnet : w.net.length ≤ 40
  case neg =>
    have hnet' : (40 : Int) < w.net.length := by omega
    simp [p41, md, e0, hnet, hnet']
  have hnet' : ¬ (40 : Int) < w.net.length := by omega
  by_cases hlog : w.log.length ≤ 200
  case neg =>
    have hlog' : (200 : Int) < w.log.length := by omega
    simp [p41, md, e0, hnet, hnet', hlog, hlog']
  have hlog' : ¬ (200 : Int) < w.log.length := by omega
  generalize inB w.gen 2 100000 = b0 at e1 ⊢
  cases b0
  · simp [p41, md, e0, hnet, hnet', hlog, hlog', e1]
  obtain ⟨bad2, hb2, hs2⟩ := lp41_2 (PK := PK) w hN hw
  obtain ⟨bad1, hb1, hs1⟩ := lp41_1 (PK := PK) w hw
  obtain ⟨bad0, hb0, hs0⟩ := lp41_0 (PK := PK) w hw
  cases q2 : allB (wireP w) w.net.length
  · obtain ⟨g1, g2⟩ := hb2 q2
    simp only [q2] at hs2
    simp [p41, md, e0, hnet, hnet', hlog, hlog', e1]
    rw [hs2]
    · simp [g1, g2]
    · simp
    · simp
  simp only [q2] at hs2
  cases q1 : allB (recP w.log) w.log.length
  · obtain ⟨g1, g2⟩ := hb1 q1
    simp only [q1] at hs1
    simp [p41, md, e0, hnet, hnet', hlog, hlog', e1]
    rw [hs2]
    · simp [b41_2]
      rw [hs1]
      · simp [g1, g2]
      · simp
      · simp
    · simp
    · simp
  simp only [q1] at hs1
  cases q0 : allB (ascP 1 w.log.length w.safe) w.safe.length
  · obtain ⟨g1, g2⟩ := hb0 q0
    simp only [q0] at hs0
    simp [p41, md, e0, hnet, hnet', hlog, hlog', e1]
    rw [hs2]
    · simp [b41_2]
      rw [hs1]
      · simp [b41_1]
        rw [hs0]
        · simp [g1, g2]
        · simp
        · simp
      · simp
      · simp
    · simp
    · simp
  simp only [q0] at hs0
  simp [p41, md, e0, hnet, hnet', hlog, hlog', e1]
  rw [hs2]
  · simp [b41_2]
    rw [hs1]
    · simp [b41_1]
      rw [hs0]
      · simp [b41_0]
      · simp
      · simp
    · simp
    · simp
  · simp
  · simp
theorem worldOk_nodes {w : WorldD} (h : worldOk w = true) : NodesOk w := by
  rw [worldOk_eq] at h
  simp only [Bool.and_eq_true] at h
  exact nodesB_of h.1.1.1.1.1.1
end Go.Proofs.YtjnmfihnioajaaaGreat.Ow
