/- Generic functions of the library that ask a function: evaluated. -/
import Derived.Test.YtjnmfihnioajaaaGreatEvReportNOk
namespace Go.Proofs.YtjnmfihnioajaaaGreat.Ow
open Go
set_option linter.unusedVariables false
set_option linter.unusedSimpArgs false
set_option maxHeartbeats 4000000
variable {PK : Nat → List Arg → Option Res}
@[simp] def ixI0 (f : Nat) (l : List Int) (j : Nat) : St := { n := 19, m := 0, tm := [(0, .im 1 (enc fI l)), (1, .clo f []), (7, .sc (.int .i64 l.length)), (8, .sc (.int .i64 j))], ob := [] }
theorem any_fidx {α : Type} (q : α → Bool) (l : List α) (d : α) : decide (0 ≤ fidx (fun j => !q (l.getD j d)) l.length) = l.any q := by
  have h := fidx_all (fun j => !q (l.getD j d)) l.length
  refine Eq.trans (b := decide (fidx (fun j => !q (l.getD j d)) l.length ≥ 0)) rfl ?_
  rw [h]
  cases hp : allB (fun j => !q (l.getD j d)) l.length
  · symm
    rw [Bool.not_false, List.any_eq_true]
    by_cases hx : ∃ x, x ∈ l ∧ q x = true
    · exact hx
    · exfalso
      rw [allB_true (fun j hj => ?_)] at hp
      · cases hp
      · obtain ⟨x, hx1⟩ := getElem?_of_lt hj
        rw [getD_of hx1]
        cases hqx : q x
        · rfl
        · exact absurd ⟨x, List.mem_of_getElem? hx1, hqx⟩ hx
  · symm
    rw [Bool.not_true, List.any_eq_false]
    intro x hx
    obtain ⟨j, hj⟩ := List.getElem?_of_mem hx
    have := allB_get hp (List.getElem?_eq_some_iff.1 hj).1
    simp only [getD_of hj] at this
    simpa using this
theorem ev_IndexI0 (f : Nat) (q : Int → Bool) (l : List Int) (hl : l.length ≤ 1048576) (hmd : md f = []) (hq : ∀ x ∈ l, semK G PK md f [.v (.sc (.int .i64 x))] = some ⟨[.v (.sc (.bool (q x)))], [], []⟩) :
    semK G PK md 127 [.v (.im 1 (enc fI l)), .c f []] = some ⟨[.v (.sc (.int .i64 (fidx (fun j => !q (l.getD j 0)) l.length)))], [], []⟩ := by
  refine semK_of (pf := p127) rfl (by simp [p127]) ?_
  obtain ⟨bad, hb, hsz⟩ := loop_find (G := G) (PK := PK) (md := md) (o := 10000000) (live := [0, 1, 7, 8]) (c := b127_0) (ixI0 f l) (fun j => !q (l.getD j 0)) l.length (fun k s => s.m = 0 ∧ getT s.tm 4 = .sc (.int .i64 k)) (fun j hj => by
    obtain ⟨x, hx⟩ := getElem?_of_lt hj
    obtain ⟨_, hx'⟩ := at_of hx
    have e := hq x (List.mem_of_getElem? hx)
    skip
    have hi := incr hj hl
    rw [getD_of hx]
    cases hqx : q x
    · rw [hqx] at e
      simp [b127_0, hmd, hj, hx', e, hi]
    · rw [hqx] at e
      simp [b127_0, hmd, hj, hx', e, hi]) (by simp [b127_0])
  cases hp : allB (fun j => !q (l.getD j 0)) l.length
  · obtain ⟨k, hk, h1, h2, hm, ht⟩ := hb hp
    rw [fidx_false hk h1 h2]
    simp only [hp] at hsz
    simp [p127, md]
    rw [hsz]
    · simp [hm, ht]
    · simp
    · simp
  · rw [fidx_true (fun j hj => allB_get hp hj)]
    simp only [hp] at hsz
    simp [p127, md]
    rw [hsz]
    · simp [b127_0]
    · simp
    · simp
theorem ev_HasI0 (f : Nat) (q : Int → Bool) (l : List Int) (hl : l.length ≤ 1048576) (hmd : md f = []) (hq : ∀ x ∈ l, semK G PK md f [.v (.sc (.int .i64 x))] = some ⟨[.v (.sc (.bool (q x)))], [], []⟩) :
    semK G PK md 96 [.v (.im 1 (enc fI l)), .c f []] = some ⟨[.v (.sc (.bool (l.any q)))], [], []⟩ := by
  refine semK_of (pf := p96) rfl (by simp [p96]) ?_
  have e := ev_IndexI0 (PK := PK) f q l hl hmd hq
  have h := any_fidx q l 0
  simp [p96, md, hmd, e, h]
  try exact h
@[simp] def ixI1 (f : Nat) (cs : List T) (l : List Int) (j : Nat) : St := { n := 19, m := 0, tm := [(0, .im 1 (enc fI l)), (1, .clo f [.pim cs]), (7, .sc (.int .i64 l.length)), (8, .sc (.int .i64 j))], ob := [] }
theorem ev_IndexI1 (f : Nat) (cs : List T) (q : Int → Bool) (l : List Int) (hl : l.length ≤ 1048576) (hmd : md f = []) (hq : ∀ x ∈ l, semK G PK md f [.v (.sc (.int .i64 x)), .pi cs] = some ⟨[.v (.sc (.bool (q x)))], [], []⟩) :
    semK G PK md 127 [.v (.im 1 (enc fI l)), .c f [cs]] = some ⟨[.v (.sc (.int .i64 (fidx (fun j => !q (l.getD j 0)) l.length)))], [], []⟩ := by
  refine semK_of (pf := p127) rfl (by simp [p127]) ?_
  obtain ⟨bad, hb, hsz⟩ := loop_find (G := G) (PK := PK) (md := md) (o := 10000000) (live := [0, 1, 7, 8]) (c := b127_0) (ixI1 f cs l) (fun j => !q (l.getD j 0)) l.length (fun k s => s.m = 0 ∧ getT s.tm 4 = .sc (.int .i64 k)) (fun j hj => by
    obtain ⟨x, hx⟩ := getElem?_of_lt hj
    obtain ⟨_, hx'⟩ := at_of hx
    have e := hq x (List.mem_of_getElem? hx)
    skip
    have hi := incr hj hl
    rw [getD_of hx]
    cases hqx : q x
    · rw [hqx] at e
      simp [b127_0, hmd, hj, hx', e, hi]
    · rw [hqx] at e
      simp [b127_0, hmd, hj, hx', e, hi]) (by simp [b127_0])
  cases hp : allB (fun j => !q (l.getD j 0)) l.length
  · obtain ⟨k, hk, h1, h2, hm, ht⟩ := hb hp
    rw [fidx_false hk h1 h2]
    simp only [hp] at hsz
    simp [p127, md]
    rw [hsz]
    · simp [hm, ht]
    · simp
    · simp
  · rw [fidx_true (fun j hj => allB_get hp hj)]
    simp only [hp] at hsz
    simp [p127, md]
    rw [hsz]
    · simp [b127_0]
    · simp
    · simp
theorem ev_HasI1 (f : Nat) (cs : List T) (q : Int → Bool) (l : List Int) (hl : l.length ≤ 1048576) (hmd : md f = []) (hq : ∀ x ∈ l, semK G PK md f [.v (.sc (.int .i64 x)), .pi cs] = some ⟨[.v (.sc (.bool (q x)))], [], []⟩) :
    semK G PK md 96 [.v (.im 1 (enc fI l)), .c f [cs]] = some ⟨[.v (.sc (.bool (l.any q)))], [], []⟩ := by
  refine semK_of (pf := p96) rfl (by simp [p96]) ?_
  have e := ev_IndexI1 (PK := PK) f cs q l hl hmd hq
  have h := any_fidx q l 0
  simp [p96, md, hmd, e, h]
  try exact h
@[simp] def ixUU0 (f : Nat) (l : List (List Int)) (j : Nat) : St := { n := 19, m := 0, tm := [(0, .im 1 (enc fUU l)), (1, .clo f []), (7, .sc (.int .i64 l.length)), (8, .sc (.int .i64 j))], ob := [] }
@[simp] def ixUU1 (f : Nat) (cs : List T) (l : List (List Int)) (j : Nat) : St := { n := 19, m := 0, tm := [(0, .im 1 (enc fUU l)), (1, .clo f [.pim cs]), (7, .sc (.int .i64 l.length)), (8, .sc (.int .i64 j))], ob := [] }
@[simp] def ixII0 (f : Nat) (l : List (List Int)) (j : Nat) : St := { n := 19, m := 0, tm := [(0, .im 1 (enc fII l)), (1, .clo f []), (7, .sc (.int .i64 l.length)), (8, .sc (.int .i64 j))], ob := [] }
theorem ev_IndexII0 (f : Nat) (q : (List Int) → Bool) (l : List (List Int)) (hl : l.length ≤ 1048576) (hmd : md f = []) (hq : ∀ x ∈ l, semK G PK md f [.v (.im 1 (enc fI x))] = some ⟨[.v (.sc (.bool (q x)))], [], []⟩) :
    semK G PK md 153 [.v (.im 1 (enc fII l)), .c f []] = some ⟨[.v (.sc (.int .i64 (fidx (fun j => !q (l.getD j [])) l.length)))], [], []⟩ := by
  refine semK_of (pf := p153) rfl (by simp [p153]) ?_
  obtain ⟨bad, hb, hsz⟩ := loop_find (G := G) (PK := PK) (md := md) (o := 10000000) (live := [0, 1, 7, 8]) (c := b153_0) (ixII0 f l) (fun j => !q (l.getD j [])) l.length (fun k s => s.m = 0 ∧ getT s.tm 4 = .sc (.int .i64 k)) (fun j hj => by
    obtain ⟨x, hx⟩ := getElem?_of_lt hj
    obtain ⟨_, hx'⟩ := at_of hx
    have e := hq x (List.mem_of_getElem? hx)
    skip
    have hi := incr hj hl
    rw [getD_of hx]
    cases hqx : q x
    · rw [hqx] at e
      simp [b153_0, hmd, hj, hx', e, hi]
    · rw [hqx] at e
      simp [b153_0, hmd, hj, hx', e, hi]) (by simp [b153_0])
  cases hp : allB (fun j => !q (l.getD j [])) l.length
  · obtain ⟨k, hk, h1, h2, hm, ht⟩ := hb hp
    rw [fidx_false hk h1 h2]
    simp only [hp] at hsz
    simp [p153, md]
    rw [hsz]
    · simp [hm, ht]
    · simp
    · simp
  · rw [fidx_true (fun j hj => allB_get hp hj)]
    simp only [hp] at hsz
    simp [p153, md]
    rw [hsz]
    · simp [b153_0]
    · simp
    · simp
theorem ev_HasII0 (f : Nat) (q : (List Int) → Bool) (l : List (List Int)) (hl : l.length ≤ 1048576) (hmd : md f = []) (hq : ∀ x ∈ l, semK G PK md f [.v (.im 1 (enc fI x))] = some ⟨[.v (.sc (.bool (q x)))], [], []⟩) :
    semK G PK md 144 [.v (.im 1 (enc fII l)), .c f []] = some ⟨[.v (.sc (.bool (l.any q)))], [], []⟩ := by
  refine semK_of (pf := p144) rfl (by simp [p144]) ?_
  have e := ev_IndexII0 (PK := PK) f q l hl hmd hq
  have h := any_fidx q l []
  simp [p144, md, hmd, e, h]
  try exact h
@[simp] def ixII1 (f : Nat) (cs : List T) (l : List (List Int)) (j : Nat) : St := { n := 19, m := 0, tm := [(0, .im 1 (enc fII l)), (1, .clo f [.pim cs]), (7, .sc (.int .i64 l.length)), (8, .sc (.int .i64 j))], ob := [] }
theorem ev_IndexII1 (f : Nat) (cs : List T) (q : (List Int) → Bool) (l : List (List Int)) (hl : l.length ≤ 1048576) (hmd : md f = []) (hq : ∀ x ∈ l, semK G PK md f [.v (.im 1 (enc fI x)), .pi cs] = some ⟨[.v (.sc (.bool (q x)))], [], []⟩) :
    semK G PK md 153 [.v (.im 1 (enc fII l)), .c f [cs]] = some ⟨[.v (.sc (.int .i64 (fidx (fun j => !q (l.getD j [])) l.length)))], [], []⟩ := by
  refine semK_of (pf := p153) rfl (by simp [p153]) ?_
  obtain ⟨bad, hb, hsz⟩ := loop_find (G := G) (PK := PK) (md := md) (o := 10000000) (live := [0, 1, 7, 8]) (c := b153_0) (ixII1 f cs l) (fun j => !q (l.getD j [])) l.length (fun k s => s.m = 0 ∧ getT s.tm 4 = .sc (.int .i64 k)) (fun j hj => by
    obtain ⟨x, hx⟩ := getElem?_of_lt hj
    obtain ⟨_, hx'⟩ := at_of hx
    have e := hq x (List.mem_of_getElem? hx)
    skip
    have hi := incr hj hl
    rw [getD_of hx]
    cases hqx : q x
    · rw [hqx] at e
      simp [b153_0, hmd, hj, hx', e, hi]
    · rw [hqx] at e
      simp [b153_0, hmd, hj, hx', e, hi]) (by simp [b153_0])
  cases hp : allB (fun j => !q (l.getD j [])) l.length
  · obtain ⟨k, hk, h1, h2, hm, ht⟩ := hb hp
    rw [fidx_false hk h1 h2]
    simp only [hp] at hsz
    simp [p153, md]
    rw [hsz]
    · simp [hm, ht]
    · simp
    · simp
  · rw [fidx_true (fun j hj => allB_get hp hj)]
    simp only [hp] at hsz
    simp [p153, md]
    rw [hsz]
    · simp [b153_0]
    · simp
    · simp
theorem ev_HasII1 (f : Nat) (cs : List T) (q : (List Int) → Bool) (l : List (List Int)) (hl : l.length ≤ 1048576) (hmd : md f = []) (hq : ∀ x ∈ l, semK G PK md f [.v (.im 1 (enc fI x)), .pi cs] = some ⟨[.v (.sc (.bool (q x)))], [], []⟩) :
    semK G PK md 144 [.v (.im 1 (enc fII l)), .c f [cs]] = some ⟨[.v (.sc (.bool (l.any q)))], [], []⟩ := by
  refine semK_of (pf := p144) rfl (by simp [p144]) ?_
  have e := ev_IndexII1 (PK := PK) f cs q l hl hmd hq
  have h := any_fidx q l []
  simp [p144, md, hmd, e, h]
  try exact h
end Go.Proofs.YtjnmfihnioajaaaGreat.Ow
