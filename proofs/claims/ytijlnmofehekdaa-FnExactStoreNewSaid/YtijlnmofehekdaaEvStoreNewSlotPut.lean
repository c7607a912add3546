/- Slots put: both. -/
import Derived.Test.YtijlnmofehekdaaEvStoreNewSlotE
namespace Go.Proofs.Ytijlnmofehekdaa.Ow
open Go
set_option linter.unusedVariables false
set_option linter.unusedSimpArgs false
set_option maxHeartbeats 4000000
variable {PK : Nat → List Arg → Option Res}
theorem ev_spec_SlotPut (s : SlotsD) (m : MetaD) (hs : slS s) (hm : mtS m) : semK G PK md 88 [.a (lents (fSl s)), .a (lents (fM m))] = some ⟨[.a (owneds (fSl (slotPut s m)))], [], []⟩ := by
  refine semK_of (pf := p88) rfl (by simp [p88]) ?_
  have e1 := ev_l6Copy (PK := PK) s hs.1.1 hs.2.1
  have e2 := ev_spec_SlotGet (PK := PK) s hs
  have e3 := ev_spec_MetaOk (PK := PK) m hm
  have e4 := ev_l6Which (PK := PK) s hs
  have e5 := ev_l6Slot (PK := PK) m ((slotGet s).2.1 + 1) hm (metaBytes_len m)
  have hb := slotGet_bd s
  have hw : IntKind.wrap .i64 ((slotGet s).2.1 + 1) = (slotGet s).2.1 + 1 := wrap_id (by omega) (by omega)
  have hA := isA_which s
  have hl := newB_len s m
  unfold newB at hl
  simp only [lents, lent, fM, fSl, List.map] at e1 e2 e3 e4 e5
  unfold slotPut mayPut newB
  generalize hq : (slotGet s) = q at *
  obtain ⟨q1, q2, q3⟩ := q
  generalize slotB (metaBytes m) (q2 + 1) = nb at *
  simp only at hb hw hl
  cases hk : metaOk m
  · simp [p88, md, e1, e2, e3, hk]
  by_cases hc : q2 = 1000000
  · simp [p88, md, e1, e2, e3, hk, hc]
  have hc2 : ¬ (1000000 : Int) ≤ q2 := by omega
  by_cases hw0 : which s = 0
  · simp [p88, md, e1, e2, e3, e4, e5, hk, hc, hc2, hw, hA, hw0, hl]
  · simp [p88, md, e1, e2, e3, e4, e5, hk, hc, hc2, hw, hA, hw0, hl]
theorem tornB_len {was now : List Int} {k : Nat} : (tornB was now k).length ≤ was.length + now.length := by
  unfold tornB
  rw [List.length_append, List.length_take, List.length_drop]
  omega
theorem ev_impl_Tear (hCU : ∀ l : List Int, l.length ≤ 1048576 → semK G PK md 125 [.v (.im 1 (enc fU l))] = some ⟨[.v (.own 1 (enc fU l))], [], []⟩) (s : SlotsD) (m : MetaD) (n : Int) (k : Nat) (hkn : max 0 (min n 160) = (k : Int)) (hs : slS s) (hm : mtS m) : semK G PK md 107 [.a (lents (fSl s)), .a (lents (fM m)), .v (.sc (.int .i64 n))] = some ⟨[.a (owneds (fSl (tear s m k)))], [], []⟩ := by
  refine semK_of (pf := p107) rfl (by simp [p107]) ?_
  have e1 := ev_copySlots (PK := PK) hCU s hs.1.1 hs.2.1
  have e2 := ev_latest (PK := PK) s hs
  have e3 := ev_impl_MetaOk (PK := PK) m hm
  have e5 := ev_slotBytes (PK := PK) m ((slotGet s).2.1 + 1) hm (metaBytes_len m)
  have hb := slotGet_bd s
  have hw : IntKind.wrap .i64 ((slotGet s).2.1 + 1) = (slotGet s).2.1 + 1 := wrap_id (by omega) (by omega)
  have hl := newB_len s m
  unfold newB at hl
  simp only [lents, lent, fM, fSl, List.map] at e1 e2 e3 e5
  unfold tear mayPut newB
  generalize hq : (slotGet s) = q at *
  obtain ⟨q1, q2, q3⟩ := q
  generalize slotB (metaBytes m) (q2 + 1) = nb at *
  simp only at hb hw hl
  cases hk : metaOk m
  · simp [p107, md, e1, e2, e3, hk]
  by_cases hc : q2 = 1000000
  · simp [p107, md, e1, e2, e3, hk, hc]
  have hkn2 : (if (0 : Int) < (if 160 < n then 160 else n) then (if 160 < n then 160 else n) else 0) = (k : Int) := by
    rw [Int.max_def, Int.min_def] at hkn
    split <;> split <;> split at hkn <;> split at hkn <;> omega
  have hk160 : k ≤ 160 := by omega
  have hkd : ∀ was : List Int, was.length ≤ 1048576 → semK G PK md 117 [.v (.im 1 (enc fUU [nb.take k, was.drop (min k was.length)]))] = some ⟨[.v (.own 1 (enc fU (tornB was nb k)))], [], []⟩ := fun was hwas => by
    have h1 : (nb.take k).length = k := by rw [List.length_take]; omega
    have h2 : (was.drop (min k was.length)).length = was.length - min k was.length := List.length_drop
    have e := ev_Concat (PK := PK) [nb.take k, was.drop (min k was.length)] (by simp) (by
      simp only [List.map, sumN, h1, h2]
      omega)
    have hf : [nb.take k, was.drop (min k was.length)].flatten = tornB was nb k := by
      unfold tornB
      simp only [List.flatten_cons, List.flatten_nil, List.append_nil]
      rcases Nat.lt_or_ge was.length k with h | h
      · rw [Nat.min_eq_right (by omega), List.drop_eq_nil_of_le (Nat.le_refl _), List.drop_eq_nil_of_le (by omega)]
      · rw [Nat.min_eq_left h]
    rw [hf] at e
    exact e
  have hkA : ∀ was : List Int, was.length ≤ 1048576 → was.length < k → semK G PK md 117 [.v (.im 1 [[.sl 1 ((enc fU nb).take k)], [.sl 1 []]])] = some ⟨[.v (.own 1 (enc fU (tornB was nb k)))], [], []⟩ := fun was h1 h2 => by
    have e := hkd was h1
    rw [Nat.min_eq_right (by omega), List.drop_eq_nil_of_le (Nat.le_refl _)] at e
    simpa only [enc, fUU, List.map_cons, List.map_nil, List.map_take] using e
  have hkB : ∀ was : List Int, was.length ≤ 1048576 → k ≤ was.length → semK G PK md 117 [.v (.im 1 [[.sl 1 ((enc fU nb).take k)], [.sl 1 ((enc fU was).drop k)]])] = some ⟨[.v (.own 1 (enc fU (tornB was nb k)))], [], []⟩ := fun was h1 h2 => by
    have e := hkd was h1
    rw [Nat.min_eq_left h2] at e
    simpa only [enc, fUU, List.map_cons, List.map_nil, List.map_take, List.map_drop] using e
  have hk3 : k ≤ nb.length := by omega
  cases hA : isA s
  · have g6 := hs.1.1
    rcases Nat.lt_or_ge s.a.length k with h | h
    · have e6 := hkA s.a g6 h
      simp [p107, md, e1, e2, e3, e5, hk, hc, hw, hA, hl, hkn2, h, e6, hk160]
    · have e6 := hkB s.a g6 h
      have hT : (enc fU s.a).take s.a.length = enc fU s.a := List.take_of_length_le (by simp)
      have h' : ¬ s.a.length < k := by omega
      simp [p107, md, e1, e2, e3, e5, hk, hc, hw, hA, hl, hkn2, h, h', e6, hk160, hT]
  · have g6 := hs.2.1
    rcases Nat.lt_or_ge s.b.length k with h | h
    · have e6 := hkA s.b g6 h
      simp [p107, md, e1, e2, e3, e5, hk, hc, hw, hA, hl, hkn2, h, e6, hk160]
    · have e6 := hkB s.b g6 h
      have hT : (enc fU s.b).take s.b.length = enc fU s.b := List.take_of_length_le (by simp)
      have h' : ¬ s.b.length < k := by omega
      simp [p107, md, e1, e2, e3, e5, hk, hc, hw, hA, hl, hkn2, h, h', e6, hk160, hT]
theorem tornB_160 {was now : List Int} (h : now.length = 160) : (tornB was now 160).take 160 = now := by
  unfold tornB
  rw [List.take_of_length_le (l := now) (by omega), List.take_append_of_le_length (by omega), List.take_of_length_le (by omega)]
theorem ev_impl_SlotPut (hCU : ∀ l : List Int, l.length ≤ 1048576 → semK G PK md 125 [.v (.im 1 (enc fU l))] = some ⟨[.v (.own 1 (enc fU l))], [], []⟩) (s : SlotsD) (m : MetaD) (hs : slS s) (hm : mtS m) : semK G PK md 91 [.a (lents (fSl s)), .a (lents (fM m))] = some ⟨[.a (owneds (fSl (slotPut s m)))], [], []⟩ := by
  refine semK_of (pf := p91) rfl (by simp [p91]) ?_
  have e1 := ev_impl_Tear (PK := PK) hCU s m 160 160 (by decide) hs hm
  have e2 := ev_latest (PK := PK) s hs
  have e3 := ev_impl_MetaOk (PK := PK) m hm
  have hn := newB_len s m
  simp only [lents, lent, fM, fSl, List.map] at e1 e2 e3
  unfold slotPut
  unfold tear at e1
  have hmp : mayPut s m = (metaOk m && !decide ((slotGet s).2.1 = 1000000)) := rfl
  generalize mayPut s m = mp at *
  generalize (slotGet s) = q at *
  obtain ⟨q1, q2, q3⟩ := q
  simp only at hmp
  cases hk : metaOk m
  · simp only [hk, Bool.false_and] at hmp
    subst hmp
    simp only [Bool.false_eq_true, if_false] at e1 ⊢
    simp [p91, md, e1, e2, e3, hk]
  by_cases hc : q2 = 1000000
  · simp only [hk, hc, decide_true, Bool.not_true, Bool.and_false] at hmp
    subst hmp
    simp only [Bool.false_eq_true, if_false] at e1 ⊢
    simp [p91, md, e1, e2, e3, hk, hc]
  simp only [hk, hc, decide_false, Bool.not_false, Bool.and_true] at hmp
  subst hmp
  simp only [if_true] at e1 ⊢
  have hT : ∀ was : List Int, (enc fU (tornB was (newB s m) 160)).take 160 = enc fU (newB s m) := fun was => by
    have := tornB_160 (was := was) hn
    simpa only [enc, List.map_take] using congrArg (List.map fU) this
  have hL : ∀ was : List Int, 160 ≤ (tornB was (newB s m) 160).length := fun was => by
    have := congrArg List.length (tornB_160 (was := was) hn)
    rw [List.length_take, hn] at this
    omega
  generalize newB s m = nb at *
  cases hA : isA s
  · have h1 := hT s.a
    have h2 := hL s.a
    simp only [hA, Bool.false_eq_true, if_false] at e1 ⊢
    generalize tornB s.a nb 160 = tb at *
    simp [p91, md, e1, e2, e3, hk, hc, hA, h1, h2]
  · have h1 := hT s.b
    have h2 := hL s.b
    simp only [hA, if_true] at e1 ⊢
    generalize tornB s.b nb 160 = tb at *
    simp [p91, md, e1, e2, e3, hk, hc, hA, h1, h2]
end Go.Proofs.Ytijlnmofehekdaa.Ow
