/- Sizes, copies, comparisons: evaluated. -/
import Derived.Test.YtjnmfihnioajaaaGreatEvReport0
set_option linter.unusedVariables false
set_option linter.unusedSimpArgs false
namespace Go.Proofs.YtjnmfihnioajaaaGreat.Ow
open Go
variable {PK : Nat → List Arg → Option Res}
@[simp] def st44 (l m : List (RecD)) (j : Nat) : St := { n := 27, m := 0, tm := [(0, .im 2 (enc fR l)), (1, .im 2 (enc fR m)), (5, .sc (.int .i64 j))], ob := [] }
theorem ev_eqRecS (l m : List (RecD)) (hl : l.length ≤ 1048576) : semK G PK md 44 [.v (.im 2 (enc fR l)), .v (.im 2 (enc fR m))] = some ⟨[.v (.sc (.bool (decide (l = m))))], [], []⟩ := by
  refine semK_of (pf := p44) rfl (by simp [p44]) ?_
  by_cases hlen : l.length = m.length
  · have hlen' : (l.length : Int) = m.length := by omega
    obtain ⟨k, hk, hp, hkn⟩ := first (fun j => l[j]? = m[j]?) l.length
    have hstep : ∀ j, j < k → ∃ s', exec (semK G PK md) (semL G PK md) md b44_0 (st44 l m j) = some (.normal, s') ∧ s'.m ≤ 10000000 ∧ canon 10000000 [0, 1, 5] s' = st44 l m (j + 1) := fun j hj => by
      have hlt : j < l.length := by omega
      have hlt2 : j < m.length := by omega
      obtain ⟨x, hx1⟩ := getElem?_of_lt hlt
      have hy1 : m[j]? = some x := (hp j hj).symm.trans hx1
      obtain ⟨_, hx'⟩ := at_of hx1
      obtain ⟨_, hy'⟩ := at_of hy1
      have he := ev_eqRec (PK := PK) x x 
      simp only [lents, lent, fR] at he
      simp [b44_0, hlt, hlt2, hx', hy', incr hlt hl, he, md]
    rcases hkn with rfl | ⟨hlt, hn⟩
    · have hsz := loop_ok (G := G) (PK := PK) (md := md) (o := 10000000) (live := [0, 1, 5]) (c := b44_0) (st44 l m) l.length hstep (by simp [b44_0])
      have hlm : l = m := List.ext_getElem? fun i => by
        rcases Nat.lt_or_ge i l.length with h | h
        · exact hp i h
        · rw [List.getElem?_eq_none h, List.getElem?_eq_none (by omega)]
      subst hlm
      simp only [decide_true]
      simp [p44]
      rw [hsz]
      · simp [b44_0]
      · simp
      · simp
    · have hlt2 : k < m.length := by omega
      obtain ⟨x, hx1⟩ := getElem?_of_lt hlt
      obtain ⟨y, hy1⟩ := getElem?_of_lt hlt2
      obtain ⟨_, hx'⟩ := at_of hx1
      obtain ⟨_, hy'⟩ := at_of hy1
      have hxy : ¬ x = y := fun h => hn (by rw [hx1, hy1, h])
      have he := ev_eqRec (PK := PK) x y 
      simp only [lents, lent, fR] at he
      have hsz := loop_ok (G := G) (PK := PK) (md := md) (o := 10000000) (live := [0, 1, 5]) (c := b44_0) (st44 l m) k hstep (by simp [b44_0, hlt, hlt2, hx', hy', hxy, he, md])
      have hlm : ¬ l = m := fun h => hn (by rw [h])
      simp only [hlm, decide_false]
      simp [p44, hlen']
      rw [hsz]
      · simp [b44_0, hlt, hlt2, hx', hy', hxy, he, md]
      · simp
      · simp
  · have hlen' : ¬ (l.length : Int) = m.length := by omega
    have hlm : ¬ l = m := fun h => hlen (by rw [h])
    simp only [hlm, decide_false]
    simp [p44, hlen, hlen']
theorem ev_szWorld (x : WorldD) (left : Int) (h0 : 0 ≤ left) (h1 : left ≤ 1048576) (hf : shWo x) :
    semK G PK md 9 [.a (lents (fWo x)), .v (.sc (.int .i64 left))] = some ⟨[.v (.sc (.int .i64 (szr left (szWo x))))], [], []⟩ := by
  refine semK_of (pf := p9) rfl (by simp [p9]) ?_
  unfold szWo
  have e0 := ev_szNodeS (PK := PK) x.nodes (left) h0 h1 hf.1
  by_cases c0 : left < (szs szN x.nodes : Nat)
  · rw [szr_lt c0] at e0
    rw [szr_lt (by omega)]
    simp [p9, md, e0]
  rw [szr_ge c0] at e0
  have d0 : ¬ left - (szs szN x.nodes : Nat) < 0 := by omega
  have e1 := ev_szWireS (PK := PK) x.net (left - (szs szN x.nodes : Nat)) (by omega) (by omega) hf.2.1
  by_cases c1 : left - (szs szN x.nodes : Nat) < (szs szW x.net : Nat)
  · rw [szr_lt c1] at e1
    rw [szr_lt (by omega)]
    simp [p9, md, e0, d0, e1]
  rw [szr_ge c1] at e1
  have d1 : ¬ left - (szs szN x.nodes : Nat) - (szs szW x.net : Nat) < 0 := by omega
  have e2 := ev_szRecS (PK := PK) (enc fR x.log) (left - (szs szN x.nodes : Nat) - (szs szW x.net : Nat)) (by omega) (by omega) (by rw [enc_len]; exact hf.2.2.1)
  simp only [enc_len] at e2
  by_cases c2 : left - (szs szN x.nodes : Nat) - (szs szW x.net : Nat) < (x.log.length : Nat)
  · rw [szr_lt c2] at e2
    rw [szr_lt (by omega)]
    simp [p9, md, e0, d0, e1, d1, e2]
  rw [szr_ge c2] at e2
  have d2 : ¬ left - (szs szN x.nodes : Nat) - (szs szW x.net : Nat) - (x.log.length : Nat) < 0 := by omega
  have e3 := ev_szIntS (PK := PK) (enc fI x.safe) (left - (szs szN x.nodes : Nat) - (szs szW x.net : Nat) - (x.log.length : Nat)) (by omega) (by omega) (by rw [enc_len]; exact hf.2.2.2)
  simp only [enc_len] at e3
  by_cases c3 : left - (szs szN x.nodes : Nat) - (szs szW x.net : Nat) - (x.log.length : Nat) < (x.safe.length : Nat)
  · rw [szr_lt c3] at e3
    rw [szr_lt (by omega)]
    simp [p9, md, e0, d0, e1, d1, e2, d2, e3]
  rw [szr_ge c3] at e3
  have d3 : ¬ left - (szs szN x.nodes : Nat) - (szs szW x.net : Nat) - (x.log.length : Nat) - (x.safe.length : Nat) < 0 := by omega
  have hz : szr left ((szs szN x.nodes) + (szs szW x.net) + x.log.length + x.safe.length) = left - (szs szN x.nodes : Nat) - (szs szW x.net : Nat) - (x.log.length : Nat) - (x.safe.length : Nat) := by rw [szr_ge (by omega)]; all_goals omega
  rw [hz]
  simp [p9, md, e0, d0, e1, d1, e2, d2, e3, d3]
theorem ev_toWorld (x : WorldD) (hl : szWo x ≤ 1048576) : semK G PK md 11 [.a (lents (fWo x))] = some ⟨[.a (owneds (fWo x))], [], []⟩ := by
  refine semK_of (pf := p11) rfl (by simp [p11]) ?_
  unfold szWo at hl
  have e0 := ev_toNodeS (PK := PK) x.nodes (by have h_ := hl; simp only [szs] at h_; omega) (fun z hz => by have h_ := hl; have g_ := sumN_mem (List.mem_map_of_mem (f := szN) hz); simp only [szs] at h_; omega)
  have e1 := ev_toWireS (PK := PK) x.net (by have h_ := hl; simp only [szs] at h_; omega) (fun z hz => by have h_ := hl; have g_ := sumN_mem (List.mem_map_of_mem (f := szW) hz); simp only [szs] at h_; omega)
  have e2 := ev_toRecS (PK := PK) x.log (by omega)
  have e3 := ev_toIntS (PK := PK) x.safe (by omega)
  simp [p11, md, e0, e1, e2, e3]
theorem ev_eqWorld (x y : WorldD) (hl : szWo x ≤ 1048576) : semK G PK md 13 [.a (lents (fWo x)), .a (lents (fWo y))] = some ⟨[.v (.sc (.bool (decide (x = y))))], [], []⟩ := by
  refine semK_of (pf := p13) rfl (by simp [p13]) ?_
  unfold szWo at hl
  have e0 := ev_eqNodeS (PK := PK) x.nodes y.nodes (by have h_ := hl; simp only [szs] at h_; omega) (fun z hz => by have h_ := hl; have g_ := sumN_mem (List.mem_map_of_mem (f := szN) hz); simp only [szs] at h_; omega)
  by_cases c0 : x.nodes = y.nodes
  case neg =>
    have hd : ¬ x = y := fun h => c0 (by rw [h])
    simp only [c0, decide_false] at e0
    simp [p13, md, hd, e0]
  simp only [c0, decide_true] at e0
  have e1 := ev_eqWireS (PK := PK) x.net y.net (by have h_ := hl; simp only [szs] at h_; omega) (fun z hz => by have h_ := hl; have g_ := sumN_mem (List.mem_map_of_mem (f := szW) hz); simp only [szs] at h_; omega)
  by_cases c1 : x.net = y.net
  case neg =>
    have hd : ¬ x = y := fun h => c1 (by rw [h])
    simp only [c1, decide_false] at e1
    simp [p13, md, hd, e0, c0, e1]
  simp only [c1, decide_true] at e1
  have e2 := ev_eqRecS (PK := PK) x.log y.log (by omega)
  by_cases c2 : x.log = y.log
  case neg =>
    have hd : ¬ x = y := fun h => c2 (by rw [h])
    simp only [c2, decide_false] at e2
    simp [p13, md, hd, e0, c0, e1, c1, e2]
  simp only [c2, decide_true] at e2
  have e3 := ev_eqIntS (PK := PK) x.safe y.safe (by omega)
  by_cases c3 : x.safe = y.safe
  case neg =>
    have hd : ¬ x = y := fun h => c3 (by rw [h])
    simp only [c3, decide_false] at e3
    simp [p13, md, hd, e0, c0, e1, c1, e2, c2, e3]
  simp only [c3, decide_true] at e3
  by_cases c4 : x.gen = y.gen
  case neg =>
    have hd : ¬ x = y := fun h => c4 (by rw [h])
    simp [p13, md, hd, e0, c0, e1, c1, e2, c2, e3, c3, c4]
  have hd : x = y := by cases x; cases y; simp_all
  simp [p13, md, e0, c0, e1, c1, e2, c2, e3, c3, c4, decide_eq_true hd]
end Go.Proofs.YtjnmfihnioajaaaGreat.Ow
