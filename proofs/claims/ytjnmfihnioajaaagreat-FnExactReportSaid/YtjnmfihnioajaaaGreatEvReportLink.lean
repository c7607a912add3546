/- LinkText of both: evaluated. -/
import Derived.Test.YtjnmfihnioajaaaGreatEvReportWorldI
namespace Go.Proofs.YtjnmfihnioajaaaGreat.Ow
open Go
set_option linter.unusedVariables false
set_option linter.unusedSimpArgs false
set_option maxHeartbeats 4000000
variable {PK : Nat → List Arg → Option Res}
def linkText (x y : NodeD) : ByteArray :=
  if nodeOk x = true ∧ nodeOk y = true ∧ ¬ x.id = y.id then
    if x.conn.getD y.id.toNat false && y.conn.getD x.id.toNat false then
      if x.copies.getD y.id.toNat false then ⟨#[102, 114, 111, 109]⟩
      else if y.copies.getD x.id.toNat false then ⟨#[116, 111]⟩ else ⟨#[106, 111, 105, 110, 101, 100]⟩
    else ⟨#[97, 112, 97, 114, 116]⟩
  else ⟨#[110, 111, 110, 101]⟩
theorem ev_spec_LinkText (x y : NodeD) (hx : nS x) (hy : nS y) : semK G PK md 71 [.a (lents (fN x)), .a (lents (fN y))] = some ⟨[.v (.sc (.string (linkText x y)))], [], []⟩ := by
  refine semK_of (pf := p71) rfl (by simp [p71]) ?_
  have e0 := ev_spec_NodeOk (PK := PK) x hx
  have e1 := ev_spec_NodeOk (PK := PK) y hy
  simp only [lents, lent, fN] at e0 e1
  unfold linkText
  cases h0 : nodeOk x
  · rw [h0] at e0
    simp [p71, md, e0]
  rw [h0] at e0
  cases h1 : nodeOk y
  · rw [h1] at e1
    simp [p71, md, e0, e1]
  rw [h1] at e1
  by_cases hid : x.id = y.id
  · simp [p71, md, e0, e1, eq_true hid]
  have nx := nodeOk_of h0
  have ny := nodeOk_of h1
  obtain ⟨i, hi, hxi⟩ := nx.nat
  obtain ⟨j, hj, hyj⟩ := ny.nat
  obtain ⟨c1, y1, _, a1, d1⟩ := getB_ex x.conn (j := j) (by rw [nx.conn]; omega)
  obtain ⟨c2, y2, _, a2, d2⟩ := getB_ex y.conn (j := i) (by rw [ny.conn]; omega)
  obtain ⟨c3, y3, _, a3, d3⟩ := getB_ex x.copies (j := j) (by rw [nx.copies]; omega)
  obtain ⟨c4, y4, _, a4, d4⟩ := getB_ex y.copies (j := i) (by rw [ny.copies]; omega)
  have hij : ¬ (i : Int) = j := by rw [← hxi, ← hyj]; exact hid
  rw [hxi] at e0
  rw [hyj] at e1
  simp only [hxi, hyj, Int.toNat_natCast, d1, d2, d3, d4]
  cases c1 <;> cases c2 <;> cases c3 <;> cases c4 <;> simp [p71, md, e0, e1, hxi, hyj, hij, y1, a1, y2, a2, y3, a3, y4, a4]
theorem ev_impl_LinkText (x y : NodeD) (hx : nS x) (hy : nS y) : semK G PK md 75 [.a (lents (fN x)), .a (lents (fN y))] = some ⟨[.v (.sc (.string (linkText x y)))], [], []⟩ := by
  refine semK_of (pf := p75) rfl (by simp [p75]) ?_
  have e0 := ev_impl_NodeOk (PK := PK) x hx
  have e1 := ev_impl_NodeOk (PK := PK) y hy
  simp only [lents, lent, fN] at e0 e1
  unfold linkText
  cases h0 : nodeOk x
  · rw [h0] at e0
    simp [p75, md, e0]
  rw [h0] at e0
  cases h1 : nodeOk y
  · rw [h1] at e1
    simp [p75, md, e0, e1]
  rw [h1] at e1
  by_cases hid : x.id = y.id
  · simp [p75, md, e0, e1, eq_true hid]
  have nx := nodeOk_of h0
  have ny := nodeOk_of h1
  obtain ⟨i, hi, hxi⟩ := nx.nat
  obtain ⟨j, hj, hyj⟩ := ny.nat
  obtain ⟨c1, y1, _, a1, d1⟩ := getB_ex x.conn (j := j) (by rw [nx.conn]; omega)
  obtain ⟨c2, y2, _, a2, d2⟩ := getB_ex y.conn (j := i) (by rw [ny.conn]; omega)
  obtain ⟨c3, y3, _, a3, d3⟩ := getB_ex x.copies (j := j) (by rw [nx.copies]; omega)
  obtain ⟨c4, y4, _, a4, d4⟩ := getB_ex y.copies (j := i) (by rw [ny.copies]; omega)
  have hij : ¬ (i : Int) = j := by rw [← hxi, ← hyj]; exact hid
  rw [hxi] at e0
  rw [hyj] at e1
  simp only [hxi, hyj, Int.toNat_natCast, d1, d2, d3, d4]
  cases c1 <;> cases c2 <;> cases c3 <;> cases c4 <;> simp [p75, md, e0, e1, hxi, hyj, hij, y1, a1, y2, a2, y3, a3, y4, a4]
end Go.Proofs.YtjnmfihnioajaaaGreat.Ow
