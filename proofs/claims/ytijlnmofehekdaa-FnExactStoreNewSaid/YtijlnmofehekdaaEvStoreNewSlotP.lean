/- Slots put, plain. -/
import Derived.Test.YtijlnmofehekdaaEvStoreNewNodeE
namespace Go.Proofs.Ytijlnmofehekdaa.Ow
open Go
set_option linter.unusedVariables false
set_option linter.unusedSimpArgs false
set_option maxHeartbeats 4000000
variable {PK : Nat → List Arg → Option Res}
theorem mk_asc {l : List Int} (h : mkOk l = true) : ∀ j, j < l.length → (j : Int) ≤ l.getD j 0 := by
  intro j
  induction j with
  | zero =>
    intro hj
    have := allB_get h hj
    unfold mkP at this
    rw [Bool.and_eq_true] at this
    exact (inB_iff.1 this.1).1
  | succ j ih =>
    intro hj
    have h1 := ih (by omega)
    have := allB_get h hj
    unfold mkP at this
    rw [Bool.and_eq_true] at this
    have h2 := this.2
    simp at h2
    rw [List.getD_eq_getElem?_getD, List.getD_eq_getElem?_getD] at *
    omega
/-- Marks that are right are eight at most. -/
theorem mk_len {l : List Int} (h : mkOk l = true) : l.length ≤ 8 := by
  rcases Nat.lt_or_ge 8 l.length with h1 | h1
  · exfalso
    have h2 := mk_asc h 8 h1
    have := allB_get h h1
    unfold mkP at this
    rw [Bool.and_eq_true] at this
    have := (inB_iff.1 this.1).2
    omega
  · exact h1
theorem putNum_1 {n : Int} (h0 : 0 ≤ n) (h1 : n ≤ 127) : (putNum n).length = 1 := by
  obtain ⟨k, hk, hp, _, he⟩ := pnd_ex h0 (by omega)
  rcases Nat.eq_zero_or_pos k with rfl | hk0
  · unfold putNum; simp [he]
  · have : 127 < n := hp 0 hk0
    omega
theorem putNum_3 {n : Int} (h0 : 0 ≤ n) (h1 : n ≤ 100000) : (putNum n).length ≤ 3 := by
  obtain ⟨k, hk, hp, _, he⟩ := pnd_ex h0 (by omega)
  rcases Nat.lt_or_ge k 3 with h | h
  · unfold putNum; simp [he]; omega
  · exfalso
    have h2 : 127 < (n.tdiv 128).tdiv 128 := hp 2 (by omega)
    have e1 : n.tdiv 128 = n / 128 := Int.tdiv_eq_ediv_of_nonneg h0
    rw [e1, Int.tdiv_eq_ediv_of_nonneg (by omega)] at h2
    omega
theorem pns_1 : ∀ (l : List Int), (∀ x ∈ l, 0 ≤ x ∧ x ≤ 127) → (pns l).length = l.length
  | [], _ => rfl
  | x :: l, h => by
    have h1 := h x List.mem_cons_self
    have h2 := pns_1 l fun y hy => h y (List.mem_cons_of_mem _ hy)
    have h3 := putNum_1 h1.1 h1.2
    unfold pns at h2 ⊢
    simp only [List.map_cons, List.flatten_cons, List.length_append, List.length_cons]
    omega
theorem pns_3 : ∀ (l : List Int), (∀ x ∈ l, 0 ≤ x ∧ x ≤ 100000) → (pns l).length ≤ 3 * l.length
  | [], _ => Nat.le_refl _
  | x :: l, h => by
    have h1 := h x List.mem_cons_self
    have h2 := pns_3 l fun y hy => h y (List.mem_cons_of_mem _ hy)
    have h3 := putNum_3 h1.1 h1.2
    unfold pns at h2 ⊢
    simp only [List.map_cons, List.flatten_cons, List.length_append, List.length_cons]
    omega
theorem mk_bd {l : List Int} (h : mkOk l = true) : ∀ x ∈ l, 0 ≤ x ∧ x ≤ 127 := fun x hx => by
  obtain ⟨j, hj⟩ := List.getElem?_of_mem hx
  have := allB_get h (List.getElem?_eq_some_iff.1 hj).1
  unfold mkP at this
  rw [Bool.and_eq_true, getD_of hj] at this
  have := inB_iff.1 this.1
  omega
theorem gn_bd {l : List Int} (h : gnOk l = true) : ∀ x ∈ l, 1 ≤ x ∧ x ≤ 100000 := fun x hx => by
  obtain ⟨j, hj⟩ := List.getElem?_of_mem hx
  unfold gnOk at h
  rw [Bool.and_eq_true] at h
  have := allB_get h.1 (List.getElem?_eq_some_iff.1 hj).1
  unfold gnP at this
  rw [Bool.and_eq_true, getD_of hj] at this
  exact inB_iff.1 this.1
theorem pl_mk {l : List Int} (h : mkOk l = true) : (pl l).length ≤ 9 := by
  have h1 := mk_len h
  have h2 := pns_1 l (mk_bd h)
  have h3 := putNum_1 (n := (l.length : Int)) (by omega) (by omega)
  unfold pl
  rw [List.length_append]
  omega
theorem pls_mk : ∀ {ll : List (List Int)}, (∀ l ∈ ll, mkOk l = true) → (pls ll).length ≤ 9 * ll.length
  | [], _ => Nat.le_refl _
  | l :: ll, h => by
    have h1 := pl_mk (h l List.mem_cons_self)
    have h2 := pls_mk (ll := ll) fun y hy => h y (List.mem_cons_of_mem _ hy)
    unfold pls at h2 ⊢
    simp only [List.map_cons, List.flatten_cons, List.length_append, List.length_cons]
    omega
theorem metaBytes_len (m : MetaD) : (metaBytes m).length ≤ 151 := by
  unfold metaBytes
  cases h : metaOk m
  · simp
  · have hk := metaOk_of h
    unfold metaOk at h
    simp only [Bool.and_eq_true] at h
    have hg := h.1.1.1.1
    have hb := h.1.1.2.2
    have g1 := pns_3 m.gens fun x hx => by have := gn_bd hg x hx; omega
    have g2 := putNum_1 (n := (m.gens.length : Int)) (by omega) (by have := hk.glen; omega)
    have b1 := pls_mk (ll := m.bits) fun l hl => by
      unfold bitsOk at hb
      obtain ⟨j, hj⟩ := List.getElem?_of_mem hl
      have := allB_get hb (List.getElem?_eq_some_iff.1 hj).1
      simpa only [getD_of hj] using this
    have f1 := flg_bd m
    have f2 := putNum_len (n := flg m) (by omega) (by omega)
    have l2 := putNum_len hk.last0 hk.last1
    have := hk.glen
    have := hk.blen
    simp only [if_true]
    unfold mBytes pl
    simp only [List.length_append]
    omega
theorem four_len (n : Int) : (four n).length = 4 := rfl
theorem slotB_len {x : List Int} (h : x.length ≤ 151) (n : Int) : (slotB x n).length = 160 := by
  unfold slotB slotA
  simp only [List.length_append, List.length_replicate, List.length_cons, List.length_nil, four_len]
  omega
theorem slotGet_bd (s : SlotsD) : 0 ≤ (slotGet s).2.1 ∧ (slotGet s).2.1 ≤ 1000000 := by
  have key : ∀ b : List Int, 0 ≤ (slotOf b).2.1 ∧ (slotOf b).2.1 ≤ 1000000 := fun b => by
    unfold slotOf
    split
    · rename_i h
      have := inB_iff.1 h.2.1
      exact ⟨by show 0 ≤ slN b; omega, this.2⟩
    · exact ⟨by decide, by decide⟩
  unfold slotGet
  split
  · exact key s.b
  · exact key s.a
theorem isA_which (s : SlotsD) : isA s = decide (which s = 0) := by
  unfold isA which
  cases pickB s <;> cases (slotOf s.a).2.2 <;> simp
/-- The next slot. -/
def newB (s : SlotsD) (m : MetaD) : List Int := slotB (metaBytes m) ((slotGet s).2.1 + 1)
def mayPut (s : SlotsD) (m : MetaD) : Bool := metaOk m && !decide ((slotGet s).2.1 = 1000000)
def slotPut (s : SlotsD) (m : MetaD) : SlotsD := if mayPut s m then (if isA s then ⟨s.a, newB s m⟩ else ⟨newB s m, s.b⟩) else s
def tornB (was now : List Int) (k : Nat) : List Int := now.take k ++ was.drop k
def tear (s : SlotsD) (m : MetaD) (k : Nat) : SlotsD := if mayPut s m then (if isA s then ⟨s.a, tornB s.b (newB s m) k⟩ else ⟨tornB s.a (newB s m) k, s.b⟩) else s
theorem newB_len (s : SlotsD) (m : MetaD) : (newB s m).length = 160 := slotB_len (metaBytes_len m) _
theorem newB_by (s : SlotsD) (m : MetaD) : by8 (newB s m) := slotB_by (metaBytes_by m) _
theorem slotPut_S {s : SlotsD} (h : slS s) (m : MetaD) : slS (slotPut s m) := by
  have hn : byt (newB s m) := ⟨by rw [newB_len]; omega, newB_by s m⟩
  unfold slotPut
  split
  · split
    · exact ⟨h.1, hn⟩
    · exact ⟨hn, h.2⟩
  · exact h
end Go.Proofs.Ytijlnmofehekdaa.Ow
