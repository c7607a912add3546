/- The cells that a list of writes leaves: evaluated. -/
import Derived.Test.YtjnmfihnioajaaaGreatEvMomentOfRev
namespace Go.Proofs.YtjnmfihnioajaaaGreat.Ow
open Go
set_option linter.unusedVariables false
set_option linter.unusedSimpArgs false
variable {PK : Nat → List Arg → Option Res}
def rstep (log : List RecD) (m : List Int) (n : Int) : List Int := if 1 ≤ n ∧ n ≤ log.length then putAt m (log.getD (n - 1).toNat zR).cell n else m
def replay (log : List RecD) (list : List Int) : List Int := list.foldl (rstep log) (List.replicate 8 0)
theorem rstep_len (log : List RecD) (m : List Int) (n : Int) : (rstep log m n).length = m.length := by unfold rstep; split <;> simp [putAt_len]
theorem fold_len (log : List RecD) : ∀ (list : List Int) (m : List Int), (list.foldl (rstep log) m).length = m.length
  | [], m => rfl
  | n :: l, m => by simp only [List.foldl_cons]; rw [fold_len log l, rstep_len]
theorem replay_len (log : List RecD) (list : List Int) : (replay log list).length = 8 := by unfold replay; rw [fold_len]; simp
theorem replay_take (log : List RecD) (list : List Int) {j : Nat} {x : Int} (h : list[j]? = some x) : replay log (list.take (j + 1)) = rstep log (replay log (list.take j)) x := by
  unfold replay
  rw [List.take_add_one, h]
  simp
@[simp] def st94 (w : WorldD) (l : List Int) (j : Nat) : St := { n := 39, m := 0, tm := [(1, .im 1 (enc fI l)), (2, .pb 10000000 0), (5, .ref 10000001 []), (6, .sc (.int .i64 j))], ob := [(10000000, wbox w), (10000001, .arr 1 (enc fI (replay w.log (l.take j))))] }
theorem ev_spec_Replay (w : WorldD) (l : List Int) (hl : l.length ≤ 1048576) (hlog : w.log.length ≤ 1048576) : semK G PK md 94 [.a (lents (fWo w)), .v (.im 1 (enc fI l))] = some ⟨[.v (.own 1 (enc fI (replay w.log l)))], [], []⟩ := by
  refine semK_of (pf := p94) rfl (by simp [p94]) ?_
  have e0 := ev_spec_ImageNew (PK := PK)
  have hstep : ∀ j, j < l.length → ∃ s', exec (semK G PK md) (semL G PK md) md b94_0 (st94 w l j) = some (.normal, s') ∧ s'.m ≤ 10000000 ∧ canon 10000000 [1, 2, 5, 6] s' = st94 w l (j + 1) := fun j hlt => by
    obtain ⟨x, hx⟩ := getElem?_of_lt hlt
    obtain ⟨_, hx'⟩ := at_of hx
    have ht := replay_take w.log l hx
    have e1 := ev_l1In (PK := PK) x 1 w.log.length
    by_cases h : 1 ≤ x ∧ x ≤ w.log.length
    · have h1 : inB x 1 w.log.length = true := by unfold inB; simp; omega
      rw [h1] at e1
      obtain ⟨i, hi⟩ : ∃ i : Nat, x - 1 = i := ⟨(x - 1).toNat, by omega⟩
      have hw : IntKind.wrap .i64 (x - 1) = i := by rw [hi]; exact wrap_id (by omega) (by omega)
      have hil : i < w.log.length := by omega
      obtain ⟨r, hr⟩ := getElem?_of_lt hil
      obtain ⟨_, hr'⟩ := at_of hr
      have hrs : rstep w.log (replay w.log (l.take j)) x = putAt (replay w.log (l.take j)) r.cell x := by
        unfold rstep
        rw [if_pos h, hi]
        simp [List.getD_eq_getElem?_getD, hr]
      have e2 := ev_spec_Put (PK := PK) (replay w.log (l.take j)) r.cell x (by rw [replay_len]; omega)
      rw [← hrs, ← ht] at e2
      simp [b94_0, md, hlt, hx', incr hlt hl, e1, hw, hil, hr', e2]
    · have h1 : inB x 1 w.log.length = false := by unfold inB; simp; omega
      rw [h1] at e1
      have hrs : rstep w.log (replay w.log (l.take j)) x = replay w.log (l.take j) := by unfold rstep; rw [if_neg h]
      rw [hrs] at ht
      simp [b94_0, md, hlt, hx', incr hlt hl, e1, ht]
  have hsz := loop_ok (G := G) (PK := PK) (md := md) (o := 10000000) (live := [1, 2, 5, 6]) (c := b94_0) (st94 w l) l.length hstep (by simp [b94_0])
  have h0 : replay w.log [] = List.replicate 8 0 := rfl
  simp [p94, md, e0]
  rw [hsz]
  · simp [b94_0]
  · simp
  · simp [h0]
@[simp] def st95 (w : WorldD) (l : List Int) (j : Nat) : St := { n := 32, m := 0, tm := [(2, .pb 10000000 0), (5, .ref 10000001 []), (9, .im 1 (enc fI l)), (10, .sc (.int .i64 l.length)), (11, .sc (.int .i64 j))], ob := [(10000000, wbox w), (10000001, .arr 1 (enc fI (replay w.log (l.take j))))] }
theorem ev_impl_Replay (hC : ∀ l : List Int, l.length ≤ 1048576 → semK G PK md 62 [.v (.im 1 (enc fI l))] = some ⟨[.v (.own 1 (enc fI l))], [], []⟩) (w : WorldD) (l : List Int) (hl : l.length ≤ 1048576) (hlog : w.log.length ≤ 1048576) :
    semK G PK md 95 [.a (lents (fWo w)), .v (.im 1 (enc fI l))] = some ⟨[.v (.own 1 (enc fI (replay w.log l)))], [], []⟩ := by
  refine semK_of (pf := p95) rfl (by simp [p95]) ?_
  have e0 := ev_impl_ImageNew (PK := PK)
  have hstep : ∀ j, j < l.length → ∃ s', exec (semK G PK md) (semL G PK md) md b95_0 (st95 w l j) = some (.normal, s') ∧ s'.m ≤ 10000000 ∧ canon 10000000 [2, 5, 9, 10, 11] s' = st95 w l (j + 1) := fun j hlt => by
    obtain ⟨x, hx⟩ := getElem?_of_lt hlt
    obtain ⟨_, hx'⟩ := at_of hx
    have ht := replay_take w.log l hx
    have e1 := ev_from (PK := PK) x 1 w.log.length
    by_cases h : 1 ≤ x ∧ x ≤ w.log.length
    · have h1 : inB x 1 w.log.length = true := by unfold inB; simp; omega
      rw [h1] at e1
      obtain ⟨i, hi⟩ : ∃ i : Nat, x - 1 = i := ⟨(x - 1).toNat, by omega⟩
      have hw : IntKind.wrap .i64 (x - 1) = i := by rw [hi]; exact wrap_id (by omega) (by omega)
      have hil : i < w.log.length := by omega
      obtain ⟨r, hr⟩ := getElem?_of_lt hil
      obtain ⟨_, hr'⟩ := at_of hr
      have hrs : rstep w.log (replay w.log (l.take j)) x = putAt (replay w.log (l.take j)) r.cell x := by
        unfold rstep
        rw [if_pos h, hi]
        simp [List.getD_eq_getElem?_getD, hr]
      have e2 := ev_impl_Put (PK := PK) hC (replay w.log (l.take j)) r.cell x (by rw [replay_len]; omega)
      rw [← hrs, ← ht] at e2
      simp [b95_0, md, hlt, hx', incr hlt hl, e1, hw, hil, hr', e2]
    · have h1 : inB x 1 w.log.length = false := by unfold inB; simp; omega
      rw [h1] at e1
      have hrs : rstep w.log (replay w.log (l.take j)) x = replay w.log (l.take j) := by unfold rstep; rw [if_neg h]
      rw [hrs] at ht
      simp [b95_0, md, hlt, hx', incr hlt hl, e1, ht]
  have hsz := loop_ok (G := G) (PK := PK) (md := md) (o := 10000000) (live := [2, 5, 9, 10, 11]) (c := b95_0) (st95 w l) l.length hstep (by simp [b95_0])
  have h0 : replay w.log [] = List.replicate 8 0 := rfl
  simp [p95, md, e0]
  rw [hsz]
  · simp [b95_0]
  · simp
  · simp [h0]
end Go.Proofs.YtjnmfihnioajaaaGreat.Ow
