/- Slots put: evaluated. -/
import Derived.Test.YtijlnmofehekdaaEvStoreNewSlotP
namespace Go.Proofs.Ytijlnmofehekdaa.Ow
open Go
set_option linter.unusedVariables false
set_option linter.unusedSimpArgs false
set_option maxHeartbeats 4000000
variable {PK : Nat → List Arg → Option Res}
@[simp] def slbox (s : SlotsD) : Obj := .box [.im 1 (enc fU s.a), .im 1 (enc fU s.b)]
theorem ev_l6Copy (s : SlotsD) (ha : s.a.length ≤ 1048576) (hb : s.b.length ≤ 1048576) : semK G PK md 106 [.a (lents (fSl s))] = some ⟨[.a (owneds (fSl s))], [], []⟩ := by
  refine semK_of (pf := p106) rfl (by simp [p106]) ?_
  have g1 : s.a.length ≤ 35184372088832 := by omega
  have g2 : s.b.length ≤ 35184372088832 := by omega
  simp [p106, md, g1, g2, Alike2]
theorem ev_copySlots (hCU : ∀ l : List Int, l.length ≤ 1048576 → semK G PK md 125 [.v (.im 1 (enc fU l))] = some ⟨[.v (.own 1 (enc fU l))], [], []⟩) (s : SlotsD) (ha : s.a.length ≤ 1048576) (hb : s.b.length ≤ 1048576) : semK G PK md 116 [.a (lents (fSl s))] = some ⟨[.a (owneds (fSl s))], [], []⟩ := by
  refine semK_of (pf := p116) rfl (by simp [p116]) ?_
  have e1 := hCU s.a ha
  have e2 := hCU s.b hb
  simp [p116, md, e1, e2]
theorem ev_Grow (n : Nat) (hn : n ≤ 1048576) : semK G PK md 126 [.v (.nil 1), .v (.sc (.int .i64 n))] = some ⟨[.v (.own 1 [])], [], []⟩ := by
  refine semK_of (pf := p126) rfl (by simp [p126]) ?_
  have h0 : ¬ (n : Int) < 0 := by omega
  have hw0 : IntKind.wrap .i64 0 = 0 := rfl
  have hw : IntKind.wrap .i64 (n : Int) = n := wrap_id (by omega) (by omega)
  rcases Nat.eq_zero_or_pos n with rfl | hp
  · simp [p126, md, hw0]
  · have g1 : n ≤ 35184372088832 := by omega
    have hp2 : (0 : Int) < n := by omega
    simp [p126, md, h0, hw0, hw, hp, hp2, g1]
@[simp] def st117_1 (ll : List (List Int)) (v j : Nat) : St := { n := 36, m := 0, tm := [(0, .im 1 (enc fUU ll)), (3, .sc (.int .i64 v)), (9, .im 1 (enc fUU ll)), (10, .sc (.int .i64 ll.length)), (11, .sc (.int .i64 j))], ob := [] }
@[simp] def st117_0 (ll : List (List Int)) (out : List Int) (j : Nat) : St := { n := 36, m := 0, tm := [(6, .ref 10000200 []), (25, .im 1 (enc fUU ll)), (26, .sc (.int .i64 ll.length)), (27, .sc (.int .i64 j))], ob := [(10000200, .arr 1 (enc fU out))] }
theorem flat_sum : ∀ ll : List (List Int), ll.flatten.length = sumN (ll.map List.length)
  | [] => rfl
  | l :: ll => by simp only [List.flatten_cons, List.length_append, List.map_cons, sumN, flat_sum ll]
theorem ev_Concat (ll : List (List Int)) (hl : ll.length ≤ 1048576) (hs : sumN (ll.map List.length) ≤ 1048576) : semK G PK md 117 [.v (.im 1 (enc fUU ll))] = some ⟨[.v (.own 1 (enc fU ll.flatten))], [], []⟩ := by
  refine semK_of (pf := p117) rfl (by simp [p117]) ?_
  have hs1 := loop_ok (G := G) (PK := PK) (md := md) (o := 10000000) (live := [0, 3, 9, 10, 11]) (c := b117_1) (fun j => st117_1 ll (sumN ((ll.map List.length).take j)) j) (ll.length) (fun j hj => by
    obtain ⟨x, y1, hx, hx', _, hxm⟩ := getDD_ex ll hj
    have hinc := incr hj hl
    have hst := sumN_take (ll.map List.length) (j := j) (x := x.length) (by simp [hx])
    have hle := sumN_le (ll.map List.length) (j + 1)
    simp only [hst]
    generalize sumN ((ll.map List.length).take j) = v at hst ⊢
    have hw : IntKind.wrap .i64 ((v : Int) + x.length) = ((v + x.length : Nat) : Int) := by rw [wrap_id (by omega) (by omega)]; rfl
    obtain ⟨q, hq⟩ : ∃ q, q = v + x.length := ⟨_, rfl⟩
    rw [← hq] at hw ⊢
    have hn : ¬ (q : Int) < 0 := by omega
    simp [b117_1, md, hj, hx', hinc, hw, hn]) (by simp [b117_1])
  have hs0 := loop_ok (G := G) (PK := PK) (md := md) (o := 10000200) (live := [6, 25, 26, 27]) (c := b117_0) (fun j => st117_0 ll ((ll.take j).flatten) j) (ll.length) (fun j hj => by
    obtain ⟨x, y1, hx, hx', _, hxm⟩ := getDD_ex ll hj
    have hinc := incr hj hl
    have hst := sumN_take (ll.map List.length) (j := j) (x := x.length) (by simp [hx])
    have hle := sumN_le (ll.map List.length) (j + 1)
    have hfl : (ll.take j).flatten.length = sumN ((ll.map List.length).take j) := by rw [flat_sum, List.map_take]
    have hsuc : (ll.take (j + 1)).flatten = (ll.take j).flatten ++ x := by rw [List.take_add_one, hx]; simp
    simp only [hsuc]
    generalize (ll.take j).flatten = out at hfl ⊢
    have g1 : out.length + x.length ≤ 35184372088832 := by omega
    simp [b117_0, md, hj, hx', hinc, g1, enc_append]) (by simp [b117_0])
  have hfull : sumN ((ll.map List.length).take ll.length) = sumN (ll.map List.length) := by rw [List.take_of_length_le (by simp)]
  have e := ev_Grow (PK := PK) (sumN (ll.map List.length)) hs
  simp only [hfull] at hs1
  generalize sumN (ll.map List.length) = N at e hs1
  simp [p117, md]
  rw [hs1]
  · simp [b117_1, md, e]
    rw [hs0]
    · simp [b117_0]
    · simp
    · simp
  · simp
  · simp [sumN]
end Go.Proofs.Ytijlnmofehekdaa.Ow
