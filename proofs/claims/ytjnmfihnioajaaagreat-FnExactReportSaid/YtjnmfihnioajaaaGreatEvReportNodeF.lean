/- Links of a node: evaluated. -/
import Derived.Test.YtjnmfihnioajaaaGreatEvReportLoops
namespace Go.Proofs.YtjnmfihnioajaaaGreat.Ow
open Go
set_option linter.unusedVariables false
set_option linter.unusedSimpArgs false
set_option maxHeartbeats 4000000
variable {PK : Nat → List Arg → Option Res}
def lk2 (n : NodeD) (j : Nat) : Bool := !(decide (0 < (n.sync.getD j []).length) && !n.copies.getD j false) && !(n.copies.getD j false && !n.conn.getD j false) && !(n.conn.getD j false && (!n.up || decide ((j : Int) = n.id)))
def lk (n : NodeD) (j : Nat) : Bool := mkOk (n.sync.getD j []) && lk2 n j
def links (n : NodeD) : Bool := decide (n.conn.length = 3) && decide (n.sync.length = 3) && decide (n.copies.length = 3) && allB (lk n) 3
theorem getB_ex (l : List Bool) {j : Nat} (h : j < l.length) : ∃ (x : Bool) (hj : j < l.length), l[j]? = some x ∧ l[j] = x ∧ l.getD j false = x := ⟨l[j], h, List.getElem?_eq_getElem h, rfl, by simp [List.getD_eq_getElem?_getD, h]⟩
@[simp] def nbox (n : NodeD) : Obj := .box [.sc (.int .i64 n.id), .sc (.bool n.up), .sc (.bool n.prime), .im 1 (enc fI n.image), .im 1 (enc fI n.mt.gens), .im 1 (enc fII n.mt.bits), .sc (.bool n.mt.fine), .sc (.bool n.mt.old), .sc (.bool n.mt.held), .sc (.int .i64 n.mt.last),
  .im 1 (enc fU n.sl.a), .im 1 (enc fU n.sl.b), .im 1 (enc fL n.conn), .im 1 (enc fII n.sync), .im 1 (enc fL n.copies), .im 1 (enc fI n.wait)]
@[simp] def st111 (n : NodeD) (j : Nat) : St := { n := 81, m := 0, tm := [(1, .pb 10000000 0), (3, .sc (.int .i64 j))], ob := [(10000000, nbox n)] }
theorem ev_l8Links (n : NodeD) (hs : lls n.sync) : semK G PK md 111 [.a (lents (fN n))] = some ⟨[.v (.sc (.bool (links n)))], [], []⟩ := by
  refine semK_of (pf := p111) rfl (by simp [p111]) ?_
  by_cases l1 : n.conn.length = 3
  case neg =>
    have l1' : ¬ (n.conn.length : Int) = 3 := by omega
    simp [p111, md, links, l1, l1']
  by_cases l2 : n.sync.length = 3
  case neg =>
    have l2' : ¬ (n.sync.length : Int) = 3 := by omega
    simp [p111, md, links, l1, l2, l2']
  by_cases l3 : n.copies.length = 3
  case neg =>
    have l3' : ¬ (n.copies.length : Int) = 3 := by omega
    simp [p111, md, links, l1, l2, l3, l3']
  obtain ⟨bad, hb, hsz⟩ := loop_all (G := G) (PK := PK) (md := md) (o := 10000000) (live := [1, 3]) (c := b111_0) (st111 n) (lk n) 3 (fun s => s.m = 0 ∧ getT s.tm 2 = .sc (.bool false)) (fun j hj => by
    obtain ⟨x, y1, hx, hx', hxd, hm⟩ := getDD_ex n.sync (j := j) (by omega)
    obtain ⟨cb, y2, hc, hc', hcd⟩ := getB_ex n.conn (j := j) (by omega)
    obtain ⟨pb, y3, hq, hq', hqd⟩ := getB_ex n.copies (j := j) (by omega)
    have e := ev_spec_MarksOk (PK := PK) x (hs.2 x hm)
    have hj3 : ((j : Nat) : Int) < 3 := by omega
    have hi := incr (n := 3) (j := j) (by omega) (by omega)
    unfold lk lk2
    rw [hxd, hcd, hqd]
    generalize mkOk x = b1 at e ⊢
    cases b1
    · simp [b111_0, md, y1, y2, y3, hx', hc', hq', e, hj3]
    by_cases hx0 : 0 < x.length <;> cases pb
    all_goals
      cases cb
      · simp [b111_0, md, y1, y2, y3, hx', hc', hq', e, hj3, hx0, hi]
      · by_cases hid : ((j : Nat) : Int) = n.id
        · cases hu : n.up <;> simp [b111_0, md, y1, y2, y3, hx', hc', hq', e, hj3, hx0, hi, hu, hid.symm]
        · cases hu : n.up <;> simp [b111_0, md, y1, y2, y3, hx', hc', hq', e, hj3, hx0, hi, hu, hid]) (by simp [b111_0])
  cases hp : allB (lk n) 3
  · obtain ⟨hb1, hb2⟩ := hb hp
    simp only [hp] at hsz
    simp [p111, md, l1, l2, l3, links, hp]
    rw [hsz]
    · simp [hb1, hb2]
    · simp
    · simp
  · simp only [hp] at hsz
    simp [p111, md, l1, l2, l3, links, hp]
    rw [hsz]
    · simp [b111_0]
    · simp
    · simp
/-- Numbers from a to b, each greater than the one before. -/
def ascP (a b : Int) (l : List Int) (j : Nat) : Bool := inB (l.getD j 0) a b && (decide (j = 0) || decide (l.getD (j - 1) 0 < l.getD j 0))
def nodeOk (n : NodeD) : Bool := inB n.id 0 2 && imgOk n.image && metaOk n.mt && links n && !(n.prime && (!n.up || n.id == 2)) && !(!n.up && decide (0 < n.wait.length)) && allB (ascP 1 200 n.wait) n.wait.length && (slotGet n.sl).2.2 && decide ((slotGet n.sl).1 = n.mt)
structure nS (n : NodeD) : Prop where
  image : n.image.length ≤ 1048576
  mt : mtS n.mt
  sl : slS n.sl
  conn : n.conn.length ≤ 1048576
  sync : lls n.sync
  copies : n.copies.length ≤ 1048576
  wait : n.wait.length ≤ 1048576
theorem metaOf_mtS {b : List Int} (hb : byt b) : mtS (slotOf b).1 := by
  unfold slotOf
  split
  · rename_i h
    obtain ⟨q1, q2⟩ := slB_byt hb h.1
    exact metaOf_mt q1 (by omega)
  · exact ⟨by simp [zM], by simp [zM, lls]⟩
theorem slotGet_mt {s : SlotsD} (h : slS s) : mtS (slotGet s).1 := by
  unfold slotGet
  split
  · exact metaOf_mtS h.2
  · exact metaOf_mtS h.1
@[simp] def st79 (n : NodeD) (j : Nat) : St := { n := 99, m := 0, tm := [(1, .pb 10000000 0), (3, .sc (.int .i64 j))], ob := [(10000000, nbox n)] }
theorem ev_spec_NodeOk (n : NodeD) (hn : nS n) : semK G PK md 79 [.a (lents (fN n))] = some ⟨[.v (.sc (.bool (nodeOk n)))], [], []⟩ := by
  refine semK_of (pf := p79) rfl (by simp [p79]) ?_
  have e0 := ev_l1In (PK := PK) n.id 0 2
  have e1 := ev_spec_ImageOk (PK := PK) n.image hn.image
  have e2 := ev_spec_MetaOk (PK := PK) n.mt hn.mt
  have e3 := ev_l8Links (PK := PK) n hn.sync
  have e4 := ev_spec_SlotGet (PK := PK) n.sl hn.sl
  have e5 := ev_spec_SameMeta (PK := PK) (slotGet n.sl).1 n.mt (slotGet_mt hn.sl)
  simp only [lents, lent, fM, fN, fSl, owneds, owned] at e1 e2 e3 e4 e5
  obtain ⟨bad, hb, hsz⟩ := loop_all (G := G) (PK := PK) (md := md) (o := 10000000) (live := [1, 3]) (c := b79_0) (st79 n) (ascP 1 200 n.wait) n.wait.length (fun s => s.m = 0 ∧ getT s.tm 2 = .sc (.bool false)) (fun j hj => by
    obtain ⟨x, y1, hx, hx', hxd⟩ := getD_ex n.wait (j := j) (by omega)
    have e := ev_l1In (PK := PK) x 1 200
    have hi := incr hj hn.wait
    unfold ascP
    rw [hxd]
    generalize inB x 1 200 = b1 at e ⊢
    cases b1
    · simp [b79_0, md, hj, hx', e]
    rcases Nat.eq_zero_or_pos j with hz | hz
    · subst hz
      simp at hi
      simp [b79_0, md, hj, hx', e, hi]
    · have hz0 : ¬ j = 0 := by omega
      obtain ⟨i, hij⟩ : ∃ i, j = i + 1 := ⟨j - 1, by omega⟩
      obtain ⟨x2, y2, hx2, hx2', hxd2⟩ := getD_ex n.wait (j := i) (by omega)
      have hw : IntKind.wrap .i64 ((j : Int) - 1) = (i : Int) := by rw [wrap_id (by omega) (by have := hn.wait; omega)]; omega
      have hpos : (0 : Int) < j := by omega
      rw [show j - 1 = i by omega, hxd2]
      by_cases hlt : x2 < x
      · have hge : ¬ x ≤ x2 := by omega
        simp [b79_0, md, hj, hz0, hz, hx', e, hi, hw, hpos, y2, hx2', hlt, hge]
      · have hge : x ≤ x2 := by omega
        simp [b79_0, md, hj, hz0, hz, hx', e, hi, hw, hpos, y2, hx2', hlt, hge]) (by simp [b79_0])
  unfold nodeOk
  generalize inB n.id 0 2 = b0 at e0 ⊢
  cases b0
  · simp [p79, md, e0]
  generalize imgOk n.image = b0 at e1 ⊢
  cases b0
  · simp [p79, md, e0, e1]
  generalize metaOk n.mt = b0 at e2 ⊢
  cases b0
  · simp [p79, md, e0, e1, e2]
  generalize links n = b0 at e3 ⊢
  cases b0
  · simp [p79, md, e0, e1, e2, e3]
  by_cases hw0 : 0 < n.wait.length
  · cases hpr : n.prime <;> cases hu : n.up <;> rw [hpr, hu] at e3
    · simp [p79, md, e0, e1, e2, e3, hpr, hu, hw0]
    · skip
      cases hp : allB (ascP 1 200 n.wait) n.wait.length
      · obtain ⟨hb1, hb2⟩ := hb hp
        simp only [hp] at hsz
        simp [p79, md, e0, e1, e2, e3, hpr, hu, hw0]
        rw [hsz]
        · simp [hb1, hb2]
        · simp
        · simp [hpr, hu, hw0]
      · simp only [hp] at hsz
        simp [p79, md, e0, e1, e2, e3, hpr, hu, hw0]
        rw [hsz]
        · cases hok : (slotGet n.sl).2.2
          · rw [hok] at e4
            simp [b79_0, md, e4]
          · rw [hok] at e4
            simp [b79_0, md, e4, e5, hpr, hu, hw0]
        · simp
        · simp [hpr, hu, hw0]
    · simp [p79, md, e0, e1, e2, e3, hpr, hu, hw0]
    · by_cases hid : n.id = 2
      · simp [p79, md, e0, e1, e2, e3, hpr, hu, hw0, eq_true hid]
      · skip
        cases hp : allB (ascP 1 200 n.wait) n.wait.length
        · obtain ⟨hb1, hb2⟩ := hb hp
          simp only [hp] at hsz
          simp [p79, md, e0, e1, e2, e3, hpr, hu, hw0, hid]
          rw [hsz]
          · simp [hb1, hb2]
          · simp
          · simp [hpr, hu, hw0, hid]
        · simp only [hp] at hsz
          simp [p79, md, e0, e1, e2, e3, hpr, hu, hw0, hid]
          rw [hsz]
          · cases hok : (slotGet n.sl).2.2
            · rw [hok] at e4
              simp [b79_0, md, e4]
            · rw [hok] at e4
              simp [b79_0, md, e4, e5, hpr, hu, hw0, hid]
          · simp
          · simp [hpr, hu, hw0, hid]
  · cases hpr : n.prime <;> cases hu : n.up <;> rw [hpr, hu] at e3
    · skip
      cases hp : allB (ascP 1 200 n.wait) n.wait.length
      · obtain ⟨hb1, hb2⟩ := hb hp
        simp only [hp] at hsz
        simp [p79, md, e0, e1, e2, e3, hpr, hu, hw0]
        rw [hsz]
        · simp [hb1, hb2]
        · simp
        · simp [hpr, hu, hw0]
      · simp only [hp] at hsz
        simp [p79, md, e0, e1, e2, e3, hpr, hu, hw0]
        rw [hsz]
        · cases hok : (slotGet n.sl).2.2
          · rw [hok] at e4
            simp [b79_0, md, e4]
          · rw [hok] at e4
            simp [b79_0, md, e4, e5, hpr, hu, hw0]
        · simp
        · simp [hpr, hu, hw0]
    · skip
      cases hp : allB (ascP 1 200 n.wait) n.wait.length
      · obtain ⟨hb1, hb2⟩ := hb hp
        simp only [hp] at hsz
        simp [p79, md, e0, e1, e2, e3, hpr, hu, hw0]
        rw [hsz]
        · simp [hb1, hb2]
        · simp
        · simp [hpr, hu, hw0]
      · simp only [hp] at hsz
        simp [p79, md, e0, e1, e2, e3, hpr, hu, hw0]
        rw [hsz]
        · cases hok : (slotGet n.sl).2.2
          · rw [hok] at e4
            simp [b79_0, md, e4]
          · rw [hok] at e4
            simp [b79_0, md, e4, e5, hpr, hu, hw0]
        · simp
        · simp [hpr, hu, hw0]
    · simp [p79, md, e0, e1, e2, e3, hpr, hu, hw0]
    · by_cases hid : n.id = 2
      · simp [p79, md, e0, e1, e2, e3, hpr, hu, hw0, eq_true hid]
      · skip
        cases hp : allB (ascP 1 200 n.wait) n.wait.length
        · obtain ⟨hb1, hb2⟩ := hb hp
          simp only [hp] at hsz
          simp [p79, md, e0, e1, e2, e3, hpr, hu, hw0, hid]
          rw [hsz]
          · simp [hb1, hb2]
          · simp
          · simp [hpr, hu, hw0, hid]
        · simp only [hp] at hsz
          simp [p79, md, e0, e1, e2, e3, hpr, hu, hw0, hid]
          rw [hsz]
          · cases hok : (slotGet n.sl).2.2
            · rw [hok] at e4
              simp [b79_0, md, e4]
            · rw [hok] at e4
              simp [b79_0, md, e4, e5, hpr, hu, hw0, hid]
          · simp
          · simp [hpr, hu, hw0, hid]
end Go.Proofs.YtjnmfihnioajaaaGreat.Ow
