/- A node that is right, the code: evaluated. -/
import Derived.Test.YtjnmfihnioajaaaGreatEvReportNodeF
namespace Go.Proofs.YtjnmfihnioajaaaGreat.Ow
open Go
set_option linter.unusedVariables false
set_option linter.unusedSimpArgs false
set_option maxHeartbeats 4000000
variable {PK : Nat → List Arg → Option Res}
theorem ev_isNode (x : Int) : semK G PK md 59 [.v (.sc (.int .i64 x))] = some ⟨[.v (.sc (.bool (inB x 0 2)))], [], []⟩ := by
  refine semK_of (pf := p59) rfl (by simp [p59]) ?_
  have e := ev_from (PK := PK) x 0 2
  simp [p59, md, e]
theorem ev_isWrite (x : Int) : semK G PK md 134 [.v (.sc (.int .i64 x))] = some ⟨[.v (.sc (.bool (inB x 1 200)))], [], []⟩ := by
  refine semK_of (pf := p134) rfl (by simp [p134]) ?_
  have e := ev_from (PK := PK) x 1 200
  simp [p134, md, e]
theorem allB_and (p q : Nat → Bool) (n : Nat) : allB (fun j => p j && q j) n = (allB p n && allB q n) := by
  unfold allB
  rw [Bool.eq_iff_iff]
  simp only [Bool.and_eq_true, List.all_eq_true]
  exact ⟨fun h => ⟨fun x hx => (h x hx).1, fun x hx => (h x hx).2⟩, fun h x hx => ⟨h.1 x hx, h.2 x hx⟩⟩
theorem links_eq (n : NodeD) : links n = (decide (n.conn.length = 3) && (((n.sync.length : Int) == 3) && bitsOk n.sync) && decide (n.copies.length = 3) && allB (lk2 n) 3) := by
  unfold links
  rw [show lk n = fun j => mkOk (n.sync.getD j []) && lk2 n j from rfl, allB_and]
  unfold bitsOk
  by_cases h : n.sync.length = 3
  · have h' : (n.sync.length : Int) = 3 := by omega
    rw [h]
    simp only [h', decide_true, Bool.and_true, beq_self_eq_true, Bool.true_and]
    cases decide (n.conn.length = 3) <;> cases decide (n.copies.length = 3) <;> cases allB (fun j => mkOk (n.sync.getD j [])) 3 <;> simp
  · have h' : ¬ (n.sync.length : Int) = 3 := by omega
    simp [h, h']
@[simp] def st26_1 (n : NodeD) (j : Nat) : St := { n := 164, m := 0, tm := [(1, .pb 10000000 0), (85, .sc (.int .i64 j))], ob := [(10000000, nbox n)] }
@[simp] def st26_0 (n : NodeD) (j : Nat) : St := { n := 164, m := 0, tm := [(1, .pb 10000200 0), (139, .im 1 (enc fI n.wait)), (140, .sc (.int .i64 n.wait.length)), (141, .sc (.int .i64 j))], ob := [(10000200, nbox n)] }
theorem lp26_1 (n : NodeD) (hn : nS n) (l1 : n.conn.length = 3) (l2 : n.sync.length = 3) (l3 : n.copies.length = 3) : ∃ bad, (allB (lk2 n) 3 = false → bad.m = 0 ∧ getT bad.tm 2 = .sc (.bool false)) ∧ ∀ (s : St), s.m ≤ 10000000 → canon 10000000 [1, 85] s = st26_1 n 0 → semL G PK md 10000000 [1, 85] b103_1 s = if allB (lk2 n) 3 = true then exec (semK G PK md) (semL G PK md) md b103_1 (st26_1 n 3) else some (.ret, bad) :=
  loop_all (G := G) (PK := PK) (md := md) (o := 10000000) (live := [1, 85]) (c := b103_1) (st26_1 n) (lk2 n) 3 (fun s => s.m = 0 ∧ getT s.tm 2 = .sc (.bool false)) (fun j hj => by
    obtain ⟨x, y1, hx, hx', hxd, hm⟩ := getDD_ex n.sync (j := j) (by omega)
    obtain ⟨cb, y2, hc, hc', hcd⟩ := getB_ex n.conn (j := j) (by omega)
    obtain ⟨pb, y3, hq, hq', hqd⟩ := getB_ex n.copies (j := j) (by omega)
    have hj3 : ((j : Nat) : Int) < 3 := by omega
    have hi := incr (n := 3) (j := j) (by omega) (by omega)
    unfold lk2
    rw [hxd, hcd, hqd]
    by_cases hid : ((j : Nat) : Int) = n.id
    · cases hu : n.up <;> cases cb <;> cases pb <;> by_cases hx0 : 0 < x.length <;> simp [b103_1, md, y1, y2, y3, hx', hc', hq', hj3, hx0, hi, hu, hid.symm]
    · cases hu : n.up <;> cases cb <;> cases pb <;> by_cases hx0 : 0 < x.length <;> simp [b103_1, md, y1, y2, y3, hx', hc', hq', hj3, hx0, hi, hu, hid]) (by simp [b103_1])
theorem lp26_0 (n : NodeD) (hn : nS n) : ∃ bad, (allB (ascP 1 200 n.wait) n.wait.length = false → bad.m = 0 ∧ getT bad.tm 2 = .sc (.bool false)) ∧ ∀ (s : St), s.m ≤ 10000200 → canon 10000200 [1, 139, 140, 141] s = st26_0 n 0 → semL G PK md 10000200 [1, 139, 140, 141] b103_0 s = if allB (ascP 1 200 n.wait) n.wait.length = true then exec (semK G PK md) (semL G PK md) md b103_0 (st26_0 n n.wait.length) else some (.ret, bad) :=
  loop_all (G := G) (PK := PK) (md := md) (o := 10000200) (live := [1, 139, 140, 141]) (c := b103_0) (st26_0 n) (ascP 1 200 n.wait) n.wait.length (fun s => s.m = 0 ∧ getT s.tm 2 = .sc (.bool false)) (fun j hj => by
    obtain ⟨x, y1, hx, hx', hxd⟩ := getD_ex n.wait (j := j) (by omega)
    have e := ev_isWrite (PK := PK) x
    have hi := incr hj hn.wait
    unfold ascP
    rw [hxd]
    generalize inB x 1 200 = b1 at e ⊢
    cases b1
    · simp [b103_0, md, hj, hx', e]
    rcases Nat.eq_zero_or_pos j with hz | hz
    · subst hz
      simp at hi
      simp [b103_0, md, hj, hx', e, hi]
    · have hz0 : ¬ j = 0 := by omega
      obtain ⟨i, hij⟩ : ∃ i, j = i + 1 := ⟨j - 1, by omega⟩
      obtain ⟨x2, y2, hx2, hx2', hxd2⟩ := getD_ex n.wait (j := i) (by omega)
      have hw : IntKind.wrap .i64 ((j : Int) - 1) = (i : Int) := by rw [wrap_id (by omega) (by have := hn.wait; omega)]; omega
      have hpos : (0 : Int) < j := by omega
      rw [show j - 1 = i by omega, hxd2]
      by_cases hlt : x2 < x
      · have hge : ¬ x ≤ x2 := by omega
        simp [b103_0, md, hj, hz0, hz, hx', e, hi, hw, hpos, y2, hx2', hlt, hge]
      · have hge : x ≤ x2 := by omega
        simp [b103_0, md, hj, hz0, hz, hx', e, hi, hw, hpos, y2, hx2', hlt, hge]) (by simp [b103_0])
theorem ev_impl_NodeOk (n : NodeD) (hn : nS n) : semK G PK md 103 [.a (lents (fN n))] = some ⟨[.v (.sc (.bool (nodeOk n)))], [], []⟩ := by
  refine semK_of (pf := p103) rfl (by simp [p103]) ?_
  have e0 := ev_isNode (PK := PK) n.id
  have e1 := ev_impl_ImageOk (PK := PK) n.image hn.image
  have e2 := ev_impl_MetaOk (PK := PK) n.mt hn.mt
  have e3 := ev_marksAll (PK := PK) n.sync hn.sync
  have e4 := ev_impl_SlotGet (PK := PK) n.sl hn.sl
  have e5 := ev_impl_SameMeta (PK := PK) (slotGet n.sl).1 n.mt (slotGet_mt hn.sl)
  simp only [lents, lent, fM, fN, fSl, owneds, owned] at e1 e2 e3 e4 e5
  unfold nodeOk
  rw [links_eq]
  generalize inB n.id 0 2 = b0 at e0 ⊢
  cases b0
  · simp [p103, md, e0]
  generalize imgOk n.image = b0 at e1 ⊢
  cases b0
  · simp [p103, md, e0, e1]
  generalize metaOk n.mt = b0 at e2 ⊢
  cases b0
  · simp [p103, md, e0, e1, e2]
  by_cases l1 : n.conn.length = 3
  case neg =>
    have l1' : ¬ (n.conn.length : Int) = 3 := by omega
    simp [p103, md, e0, e1, e2, l1, l1']
  have l2 : (((n.sync.length : Int) == 3) && bitsOk n.sync) = true → n.sync.length = 3 := fun h => by
    rw [Bool.and_eq_true, beq_iff_eq] at h; omega
  generalize (((n.sync.length : Int) == 3) && bitsOk n.sync) = b0 at e3 l2 ⊢
  cases b0
  · simp [p103, md, e0, e1, e2, e3, l1]
  have l2 := l2 rfl
  by_cases l3 : n.copies.length = 3
  case neg =>
    have l3' : ¬ (n.copies.length : Int) = 3 := by omega
    simp [p103, md, e0, e1, e2, e3, l1, l3, l3']
  obtain ⟨bad1, hb1, hs1⟩ := lp26_1 (PK := PK) n hn l1 l2 l3
  obtain ⟨bad0, hb0, hs0⟩ := lp26_0 (PK := PK) n hn
  by_cases hw0 : 0 < n.wait.length
  · cases hpr : n.prime <;> cases hu : n.up
    · simp [p103, md, e0, e1, e2, e3, l1, l3, hpr, hu, hw0]
    · skip
      cases hok : (slotGet n.sl).2.2
      · rw [hok] at e4
        simp [p103, md, e0, e1, e2, e3, l1, l3, hpr, hu, hw0, e4]
      rw [hok] at e4
      cases hsm : decide ((slotGet n.sl).1 = n.mt)
      · rw [hsm] at e5
        simp [p103, md, e0, e1, e2, e3, l1, l3, hpr, hu, hw0, e4, e5]
      rw [hsm] at e5
      cases hq1 : allB (lk2 n) 3
      · obtain ⟨g1, g2⟩ := hb1 hq1
        simp only [hq1] at hs1
        simp [p103, md, e0, e1, e2, e3, l1, l3, hpr, hu, hw0, e4, e5]
        rw [hs1]
        · simp [g1, g2]
        · simp
        · simp [hpr, hu, hw0]
      simp only [hq1] at hs1
      cases hq0 : allB (ascP 1 200 n.wait) n.wait.length
      · obtain ⟨g1, g2⟩ := hb0 hq0
        simp only [hq0] at hs0
        simp [p103, md, e0, e1, e2, e3, l1, l3, hpr, hu, hw0, e4, e5]
        rw [hs1]
        · simp [b103_1]
          rw [hs0]
          · simp [g1, g2]
          · simp
          · simp [hpr, hu, hw0]
        · simp
        · simp [hpr, hu, hw0]
      · simp only [hq0] at hs0
        simp [p103, md, e0, e1, e2, e3, l1, l3, hpr, hu, hw0, e4, e5]
        rw [hs1]
        · simp [b103_1]
          rw [hs0]
          · simp [b103_0, hpr, hu, hw0]
          · simp
          · simp [hpr, hu, hw0]
        · simp
        · simp [hpr, hu, hw0]
    · simp [p103, md, e0, e1, e2, e3, l1, l3, hpr, hu, hw0]
    · by_cases hid : n.id = 2
      · simp [p103, md, e0, e1, e2, e3, l1, l3, hpr, hu, hw0, eq_true hid]
      · skip
        cases hok : (slotGet n.sl).2.2
        · rw [hok] at e4
          simp [p103, md, e0, e1, e2, e3, l1, l3, hpr, hu, hw0, hid, e4]
        rw [hok] at e4
        cases hsm : decide ((slotGet n.sl).1 = n.mt)
        · rw [hsm] at e5
          simp [p103, md, e0, e1, e2, e3, l1, l3, hpr, hu, hw0, hid, e4, e5]
        rw [hsm] at e5
        cases hq1 : allB (lk2 n) 3
        · obtain ⟨g1, g2⟩ := hb1 hq1
          simp only [hq1] at hs1
          simp [p103, md, e0, e1, e2, e3, l1, l3, hpr, hu, hw0, hid, e4, e5]
          rw [hs1]
          · simp [g1, g2]
          · simp
          · simp [hpr, hu, hw0, hid]
        simp only [hq1] at hs1
        cases hq0 : allB (ascP 1 200 n.wait) n.wait.length
        · obtain ⟨g1, g2⟩ := hb0 hq0
          simp only [hq0] at hs0
          simp [p103, md, e0, e1, e2, e3, l1, l3, hpr, hu, hw0, hid, e4, e5]
          rw [hs1]
          · simp [b103_1]
            rw [hs0]
            · simp [g1, g2]
            · simp
            · simp [hpr, hu, hw0, hid]
          · simp
          · simp [hpr, hu, hw0, hid]
        · simp only [hq0] at hs0
          simp [p103, md, e0, e1, e2, e3, l1, l3, hpr, hu, hw0, hid, e4, e5]
          rw [hs1]
          · simp [b103_1]
            rw [hs0]
            · simp [b103_0, hpr, hu, hw0, hid]
            · simp
            · simp [hpr, hu, hw0, hid]
          · simp
          · simp [hpr, hu, hw0, hid]
  · cases hpr : n.prime <;> cases hu : n.up
    · skip
      cases hok : (slotGet n.sl).2.2
      · rw [hok] at e4
        simp [p103, md, e0, e1, e2, e3, l1, l3, hpr, hu, hw0, e4]
      rw [hok] at e4
      cases hsm : decide ((slotGet n.sl).1 = n.mt)
      · rw [hsm] at e5
        simp [p103, md, e0, e1, e2, e3, l1, l3, hpr, hu, hw0, e4, e5]
      rw [hsm] at e5
      cases hq1 : allB (lk2 n) 3
      · obtain ⟨g1, g2⟩ := hb1 hq1
        simp only [hq1] at hs1
        simp [p103, md, e0, e1, e2, e3, l1, l3, hpr, hu, hw0, e4, e5]
        rw [hs1]
        · simp [g1, g2]
        · simp
        · simp [hpr, hu, hw0]
      simp only [hq1] at hs1
      cases hq0 : allB (ascP 1 200 n.wait) n.wait.length
      · obtain ⟨g1, g2⟩ := hb0 hq0
        simp only [hq0] at hs0
        simp [p103, md, e0, e1, e2, e3, l1, l3, hpr, hu, hw0, e4, e5]
        rw [hs1]
        · simp [b103_1]
          rw [hs0]
          · simp [g1, g2]
          · simp
          · simp [hpr, hu, hw0]
        · simp
        · simp [hpr, hu, hw0]
      · simp only [hq0] at hs0
        simp [p103, md, e0, e1, e2, e3, l1, l3, hpr, hu, hw0, e4, e5]
        rw [hs1]
        · simp [b103_1]
          rw [hs0]
          · simp [b103_0, hpr, hu, hw0]
          · simp
          · simp [hpr, hu, hw0]
        · simp
        · simp [hpr, hu, hw0]
    · skip
      cases hok : (slotGet n.sl).2.2
      · rw [hok] at e4
        simp [p103, md, e0, e1, e2, e3, l1, l3, hpr, hu, hw0, e4]
      rw [hok] at e4
      cases hsm : decide ((slotGet n.sl).1 = n.mt)
      · rw [hsm] at e5
        simp [p103, md, e0, e1, e2, e3, l1, l3, hpr, hu, hw0, e4, e5]
      rw [hsm] at e5
      cases hq1 : allB (lk2 n) 3
      · obtain ⟨g1, g2⟩ := hb1 hq1
        simp only [hq1] at hs1
        simp [p103, md, e0, e1, e2, e3, l1, l3, hpr, hu, hw0, e4, e5]
        rw [hs1]
        · simp [g1, g2]
        · simp
        · simp [hpr, hu, hw0]
      simp only [hq1] at hs1
      cases hq0 : allB (ascP 1 200 n.wait) n.wait.length
      · obtain ⟨g1, g2⟩ := hb0 hq0
        simp only [hq0] at hs0
        simp [p103, md, e0, e1, e2, e3, l1, l3, hpr, hu, hw0, e4, e5]
        rw [hs1]
        · simp [b103_1]
          rw [hs0]
          · simp [g1, g2]
          · simp
          · simp [hpr, hu, hw0]
        · simp
        · simp [hpr, hu, hw0]
      · simp only [hq0] at hs0
        simp [p103, md, e0, e1, e2, e3, l1, l3, hpr, hu, hw0, e4, e5]
        rw [hs1]
        · simp [b103_1]
          rw [hs0]
          · simp [b103_0, hpr, hu, hw0]
          · simp
          · simp [hpr, hu, hw0]
        · simp
        · simp [hpr, hu, hw0]
    · simp [p103, md, e0, e1, e2, e3, l1, l3, hpr, hu, hw0]
    · by_cases hid : n.id = 2
      · simp [p103, md, e0, e1, e2, e3, l1, l3, hpr, hu, hw0, eq_true hid]
      · skip
        cases hok : (slotGet n.sl).2.2
        · rw [hok] at e4
          simp [p103, md, e0, e1, e2, e3, l1, l3, hpr, hu, hw0, hid, e4]
        rw [hok] at e4
        cases hsm : decide ((slotGet n.sl).1 = n.mt)
        · rw [hsm] at e5
          simp [p103, md, e0, e1, e2, e3, l1, l3, hpr, hu, hw0, hid, e4, e5]
        rw [hsm] at e5
        cases hq1 : allB (lk2 n) 3
        · obtain ⟨g1, g2⟩ := hb1 hq1
          simp only [hq1] at hs1
          simp [p103, md, e0, e1, e2, e3, l1, l3, hpr, hu, hw0, hid, e4, e5]
          rw [hs1]
          · simp [g1, g2]
          · simp
          · simp [hpr, hu, hw0, hid]
        simp only [hq1] at hs1
        cases hq0 : allB (ascP 1 200 n.wait) n.wait.length
        · obtain ⟨g1, g2⟩ := hb0 hq0
          simp only [hq0] at hs0
          simp [p103, md, e0, e1, e2, e3, l1, l3, hpr, hu, hw0, hid, e4, e5]
          rw [hs1]
          · simp [b103_1]
            rw [hs0]
            · simp [g1, g2]
            · simp
            · simp [hpr, hu, hw0, hid]
          · simp
          · simp [hpr, hu, hw0, hid]
        · simp only [hq0] at hs0
          simp [p103, md, e0, e1, e2, e3, l1, l3, hpr, hu, hw0, hid, e4, e5]
          rw [hs1]
          · simp [b103_1]
            rw [hs0]
            · simp [b103_0, hpr, hu, hw0, hid]
            · simp
            · simp [hpr, hu, hw0, hid]
          · simp
          · simp [hpr, hu, hw0, hid]
end Go.Proofs.YtjnmfihnioajaaaGreat.Ow
