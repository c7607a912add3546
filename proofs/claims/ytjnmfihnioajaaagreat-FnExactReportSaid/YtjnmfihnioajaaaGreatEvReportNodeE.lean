/- Metas alike: evaluated. -/
import Derived.Test.YtjnmfihnioajaaaGreatEvReportNodeD
namespace Go.Proofs.YtjnmfihnioajaaaGreat.Ow
open Go
set_option maxHeartbeats 4000000
set_option linter.unusedVariables false
set_option linter.unusedSimpArgs false
variable {PK : Nat → List Arg → Option Res}
@[simp] def st148 (l m : List (List Int)) (j : Nat) : St := { n := 32, m := 0, tm := [(1, .im 1 (enc fII m)), (2, .clo 55 []), (15, .im 1 (enc fII l)), (16, .sc (.int .i64 l.length)), (17, .sc (.int .i64 j))], ob := [] }
theorem ev_EqualFunc (l m : List (List Int)) (hl : lls l) : semK G PK md 148 [.v (.im 1 (enc fII l)), .v (.im 1 (enc fII m)), .c 55 []] = some ⟨[.v (.sc (.bool (decide (l = m))))], [], []⟩ := by
  refine semK_of (pf := p148) rfl (by simp [p148]) ?_
  by_cases hlen : l.length = m.length
  · have hlen' : (l.length : Int) = m.length := by omega
    obtain ⟨k, hk, hp, hkn⟩ := first (fun j => l[j]? = m[j]?) l.length
    have hstep : ∀ j, j < k → ∃ s', exec (semK G PK md) (semL G PK md) md b148_0 (st148 l m j) = some (.normal, s') ∧ s'.m ≤ 10000000 ∧ canon 10000000 [1, 2, 15, 16, 17] s' = st148 l m (j + 1) := fun j hj => by
      have hlt : j < l.length := by omega
      have hlt2 : j < m.length := by omega
      obtain ⟨x, _, hx, hx', _, hm⟩ := getDD_ex l hlt
      have hy1 : m[j]? = some x := (hp j hj).symm.trans hx
      obtain ⟨_, hy'⟩ := at_of hy1
      have e := ev_Equal (PK := PK) x x (hl.2 x hm)
      simp only [decide_true] at e
      simp [b148_0, md, hlt, hlt2, hx', hy', e, incr hlt hl.1]
    rcases hkn with rfl | ⟨hlt, hn⟩
    · have hsz := loop_ok (G := G) (PK := PK) (md := md) (o := 10000000) (live := [1, 2, 15, 16, 17]) (c := b148_0) (st148 l m) l.length hstep (by simp [b148_0])
      have hlm : l = m := List.ext_getElem? fun i => by
        rcases Nat.lt_or_ge i l.length with h | h
        · exact hp i h
        · rw [List.getElem?_eq_none h, List.getElem?_eq_none (by omega)]
      subst hlm
      simp only [decide_true]
      simp [p148]
      rw [hsz]
      · simp [b148_0]
      · simp
      · simp
    · have hlt2 : k < m.length := by omega
      obtain ⟨x, _, hx, hx', _, hm⟩ := getDD_ex l hlt
      obtain ⟨y, _, hy, hy', _, _⟩ := getDD_ex m hlt2
      have hxy : ¬ x = y := fun h => hn (by rw [hx, hy, h])
      have e := ev_Equal (PK := PK) x y (hl.2 x hm)
      rw [decide_eq_false hxy] at e
      have hsz := loop_ok (G := G) (PK := PK) (md := md) (o := 10000000) (live := [1, 2, 15, 16, 17]) (c := b148_0) (st148 l m) k hstep (by simp [b148_0, md, hlt, hlt2, hx', hy', e])
      have hlm : ¬ l = m := fun h => hn (by rw [h])
      simp only [hlm, decide_false]
      simp [p148, hlen']
      rw [hsz]
      · simp [b148_0, md, hlt, hlt2, hx', hy', e]
      · simp
      · simp [hlen']
  · have hlen' : ¬ (l.length : Int) = m.length := by omega
    have hlm : ¬ l = m := fun h => hlen (by rw [h])
    simp only [hlm, decide_false]
    simp [p148, hlen, hlen']
theorem meta_eq (a b : MetaD) : decide (a = b) = (decide (a.gens = b.gens) && decide (a.bits = b.bits) && (a.fine == b.fine) && (a.old == b.old) && (a.held == b.held) && (a.last == b.last)) := by
  obtain ⟨g, l, f, o, h, n⟩ := a
  obtain ⟨g', l', f', o', h', n'⟩ := b
  simp only [MetaD.mk.injEq, Bool.decide_and, Bool.and_assoc]
  rfl
theorem ev_impl_SameMeta (a b : MetaD) (ha : mtS a) : semK G PK md 133 [.a (lents (fM a)), .a (lents (fM b))] = some ⟨[.v (.sc (.bool (decide (a = b))))], [], []⟩ := by
  refine semK_of (pf := p133) rfl (by simp [p133]) ?_
  have e1 := ev_Equal (PK := PK) a.gens b.gens ha.1
  have e2 := ev_EqualFunc (PK := PK) a.bits b.bits ha.2
  rw [meta_eq]
  by_cases h1 : a.gens = b.gens
  · rw [decide_eq_true h1] at e1 ⊢
    by_cases h2 : a.bits = b.bits
    · rw [decide_eq_true h2] at e2 ⊢
      by_cases h3 : a.fine = b.fine
      · by_cases h4 : a.old = b.old
        · by_cases h5 : a.held = b.held
          · simp [p133, md, e1, e2, h3, h4, h5]
          · simp [p133, md, e1, e2, h3, h4, h5]
        · simp [p133, md, e1, e2, h3, h4]
      · simp [p133, md, e1, e2, h3]
    · rw [decide_eq_false h2] at e2 ⊢
      simp [p133, md, e1, e2]
  · rw [decide_eq_false h1] at e1 ⊢
    simp [p133, md, e1]
@[simp] def st113 (a b : MetaD) (j : Nat) : St := { n := 68, m := 0, tm := [(2, .pb 10000000 0), (3, .pb 10000001 0), (5, .sc (.int .i64 j))], ob := [(10000000, mbox a), (10000001, mbox b)] }
theorem ev_spec_SameMeta (a b : MetaD) (ha : mtS a) : semK G PK md 113 [.a (lents (fM a)), .a (lents (fM b))] = some ⟨[.v (.sc (.bool (decide (a = b))))], [], []⟩ := by
  refine semK_of (pf := p113) rfl (by simp [p113]) ?_
  have e1 := ev_l5Same (PK := PK) a.gens b.gens ha.1
  rw [meta_eq]
  by_cases hlen : a.bits.length = b.bits.length
  case neg =>
    have hlen' : ¬ (a.bits.length : Int) = b.bits.length := by omega
    have h2 : ¬ a.bits = b.bits := fun h => hlen (by rw [h])
    rw [decide_eq_false h2]
    simp [p113, md, hlen, hlen']
  have hlen' : (a.bits.length : Int) = b.bits.length := by omega
  by_cases h1 : a.gens = b.gens
  case neg =>
    rw [decide_eq_false h1] at e1 ⊢
    simp [p113, md, e1, hlen, hlen']
  rw [decide_eq_true h1] at e1 ⊢
  by_cases h3 : a.fine = b.fine
  case neg => simp [p113, md, e1, hlen, hlen', h3]
  by_cases h4 : a.old = b.old
  case neg => simp [p113, md, e1, hlen, hlen', h3, h4]
  by_cases h5 : a.held = b.held
  case neg => simp [p113, md, e1, hlen, hlen', h3, h4, h5]
  by_cases h6 : a.last = b.last
  case neg => simp [p113, md, e1, hlen, hlen', h3, h4, h5, h6]
  have hll := ha.2
  obtain ⟨k, hk, hp, hkn⟩ := first (fun j => a.bits[j]? = b.bits[j]?) a.bits.length
  have hstep : ∀ j, j < k → ∃ s', exec (semK G PK md) (semL G PK md) md b113_0 (st113 a b j) = some (.normal, s') ∧ s'.m ≤ 10000000 ∧ canon 10000000 [2, 3, 5] s' = st113 a b (j + 1) := fun j hj => by
    have hlt : j < a.bits.length := by omega
    have hlt2 : j < b.bits.length := by omega
    obtain ⟨x, _, hx, hx', _, hm⟩ := getDD_ex a.bits hlt
    have hy1 : b.bits[j]? = some x := (hp j hj).symm.trans hx
    obtain ⟨_, hy'⟩ := at_of hy1
    have e := ev_l5Same (PK := PK) x x (hll.2 x hm)
    simp only [decide_true] at e
    simp [b113_0, md, hlt, hlt2, hx', hy', e, incr hlt hll.1]
  rcases hkn with rfl | ⟨hlt, hn⟩
  · have hsz := loop_ok (G := G) (PK := PK) (md := md) (o := 10000000) (live := [2, 3, 5]) (c := b113_0) (st113 a b) a.bits.length hstep (by simp [b113_0])
    have h2 : a.bits = b.bits := List.ext_getElem? fun i => by
      rcases Nat.lt_or_ge i a.bits.length with h | h
      · exact hp i h
      · rw [List.getElem?_eq_none h, List.getElem?_eq_none (by omega)]
    rw [decide_eq_true h2]
    simp [p113, md, e1, hlen, hlen', h3, h4, h5, h6]
    rw [hsz]
    · simp [b113_0, hlen]
    · simp
    · simp [h3, h4, h5, h6]
  · have hlt2 : k < b.bits.length := by omega
    obtain ⟨x, _, hx, hx', _, hm⟩ := getDD_ex a.bits hlt
    obtain ⟨y, _, hy, hy', _, _⟩ := getDD_ex b.bits hlt2
    have hxy : ¬ x = y := fun h => hn (by rw [hx, hy, h])
    have e := ev_l5Same (PK := PK) x y (hll.2 x hm)
    rw [decide_eq_false hxy] at e
    have hsz := loop_ok (G := G) (PK := PK) (md := md) (o := 10000000) (live := [2, 3, 5]) (c := b113_0) (st113 a b) k hstep (by simp [b113_0, md, hlt, hlt2, hx', hy', e])
    have h2 : ¬ a.bits = b.bits := fun h => hn (by rw [h])
    rw [decide_eq_false h2]
    simp [p113, md, e1, hlen, hlen', h3, h4, h5, h6]
    rw [hsz]
    · simp [b113_0, md, hlt, hlt2, hx', hy', e, hlen]
    · simp
    · simp [h3, h4, h5, h6]
end Go.Proofs.YtjnmfihnioajaaaGreat.Ow
