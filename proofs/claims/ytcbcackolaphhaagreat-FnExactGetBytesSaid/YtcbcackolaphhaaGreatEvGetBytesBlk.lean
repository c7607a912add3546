/- Blocks of a store: evaluated. -/
import Derived.Test.YtcbcackolaphhaaGreatEvGetBytesStore
namespace Go.Proofs.YtcbcackolaphhaaGreat.Ow
open Go
set_option linter.unusedVariables false
set_option linter.unusedSimpArgs false
set_option maxHeartbeats 4000000
variable {PK : Nat → List Arg → Option Res}
/-- A block of a node's cell, where store, node and cell are right. -/
def blk (s : StoreD) (i k : Nat) : List Int := if (nd s.w i).image.getD k 0 = 0 then List.replicate 8 0 else s.blocks.getD ((nd s.w i).image.getD k 0 - 1).toNat []
def blockAt (s : StoreD) (a c : Int) : List Int := if storeOk s && inB a 0 2 && inB c 0 7 then blk s a.toNat c.toNat else []
/-- What follows of a store that is right, for a node and a cell. -/
theorem blk_facts {s : StoreD} (h : storeOk s = true) {i k : Nat} (hi : i < 3) (hk : k < 8) : ∃ (x : NodeD) (v : Int) (y1 : i < s.w.nodes.length) (z1 : k < x.image.length), s.w.nodes[i] = x ∧ nd s.w i = x ∧ x ∈ s.w.nodes ∧ x.image[k] = v ∧ x.image.getD k 0 = v ∧ 0 ≤ v ∧
    (v ≠ 0 → ∃ (m : Nat) (b : List Int) (q1 : m < s.blocks.length), v - 1 = m ∧ s.blocks[m] = b ∧ s.blocks.getD m [] = b ∧ b ∈ s.blocks ∧ b.length = 8) := by
  have hN := worldOk_nodes (storeOk_w h)
  obtain ⟨x, y1, hx, hx', hxd, hxm⟩ := get_ex s.w.nodes zN (j := i) (by rw [hN.len]; omega)
  have nx := hN.ok i hi
  have hnd : nd s.w i = x := hxd
  rw [hnd] at nx
  obtain ⟨v, z1, hv, hv', hvd, hvm⟩ := get_ex x.image 0 (j := k) (by rw [nx.img8]; omega)
  have hb := nx.imgB v hvm
  refine ⟨x, v, y1, z1, hx', hnd, hxm, hv', hvd, hb.1, fun hne => ?_⟩
  have hw := storeOk_w h
  unfold storeOk at h
  simp only [Bool.and_eq_true, decide_eq_true_iff] at h
  unfold worldOk at hw
  simp only [Bool.and_eq_true] at hw
  have hP := allB_get hw.1.1.1.2 hi
  unfold nodeP at hP
  simp only [Bool.and_eq_true, hnd] at hP
  have hI := allB_get hP.2 hk
  unfold imgP at hI
  rw [hvd, decide_eq_true_iff] at hI
  obtain ⟨b, q1, _, hb', hbd, hbm⟩ := get_ex s.blocks [] (j := (v - 1).toNat) (by rw [h.1.2]; omega)
  have h8 := List.all_eq_true.1 h.2 b hbm
  unfold blkOk at h8
  rw [decide_eq_true_iff] at h8
  exact ⟨_, b, q1, by omega, hb', hbd, hbm, h8⟩
theorem blk_len {s : StoreD} (h : storeOk s = true) {i k : Nat} (hi : i < 3) (hk : k < 8) : (blk s i k).length = 8 := by
  obtain ⟨x, v, y1, z1, hx', hnd, hxm, hv', hvd, h0, hb⟩ := blk_facts h hi hk
  unfold blk
  rw [hnd, hvd]
  split
  · simp
  · rename_i hne
    obtain ⟨m, b, q1, hm, hb', hbd, hbm, h8⟩ := hb hne
    rw [hm, Int.toNat_natCast, hbd, h8]
theorem ev_spec_BlockNew : semK G PK md 29 [] = some ⟨[.v (.own 1 (enc fU (List.replicate 8 0)))], [], []⟩ := by
  refine semK_of (pf := p29) rfl (by simp [p29]) ?_
  simp [p29, enc]
theorem ev_impl_BlockNew : semK G PK md 73 [] = some ⟨[.v (.own 1 (enc fU (List.replicate 8 0)))], [], []⟩ := by
  refine semK_of (pf := p73) rfl (by simp [p73]) ?_
  simp [p73, enc]
theorem ev_spec_BlockAt (s : StoreD) (a c : Int) (hs : stS s) : semK G PK md 7 [.a (lents (fSt s)), .v (.sc (.int .i64 a)), .v (.sc (.int .i64 c))] = some ⟨[.v (.own 1 (enc fU (blockAt s a c)))], [], []⟩ := by
  refine semK_of (pf := p7) rfl (by simp [p7]) ?_
  have e := ev_spec_StoreOk (PK := PK) s hs
  have e1 := ev_l1In (PK := PK) a 0 2
  have e2 := ev_l1In (PK := PK) c 0 7
  have e3 := ev_spec_BlockNew (PK := PK)
  simp only [lents, lent, fSt] at e
  unfold blockAt
  cases hok : storeOk s
  · rw [hok] at e
    simp [p7, md, e]
  rw [hok] at e
  cases ha : inB a 0 2
  · rw [ha] at e1
    simp [p7, md, e, e1]
  rw [ha] at e1
  cases hc : inB c 0 7
  · rw [hc] at e2
    simp [p7, md, e, e1, e2]
  rw [hc] at e2
  have ra := inB_iff.1 ha
  have rc := inB_iff.1 hc
  obtain ⟨i, rfl⟩ : ∃ i : Nat, a = (i : Int) := ⟨a.toNat, by omega⟩
  obtain ⟨k, rfl⟩ : ∃ k : Nat, c = (k : Int) := ⟨c.toNat, by omega⟩
  obtain ⟨x, v, y1, z1, hx', hnd, hxm, hv', hvd, h0, hb⟩ := blk_facts hok (i := i) (k := k) (by omega) (by omega)
  unfold blk
  simp only [Int.toNat_natCast, hnd, hvd]
  by_cases hv0 : v = 0
  · simp [p7, md, e, e1, e2, e3, y1, hx', z1, hv', hv0]
  · obtain ⟨m, b, q1, hm, hb', hbd, hbm, h8⟩ := hb hv0
    have hw : IntKind.wrap .i64 (m : Int) = m := wrap_id (by omega) (by have := hs.blocks; omega)
    simp [p7, md, e, e1, e2, e3, y1, hx', z1, hv', hv0, hm, hw, q1, hb', hbd, h8]
theorem ev_block (hCU : ∀ l : List Int, l.length ≤ 1048576 → semK G PK md 41 [.v (.im 1 (enc fU l))] = some ⟨[.v (.own 1 (enc fU l))], [], []⟩) (s : StoreD) (i k : Nat) (hs : stS s) (hok : storeOk s = true) (hi : i < 3) (hk : k < 8) : semK G PK md 34 [.a (lents (fSt s)), .v (.sc (.int .i64 i)), .v (.sc (.int .i64 k))] = some ⟨[.v (.own 1 (enc fU (blk s i k)))], [], []⟩ := by
  refine semK_of (pf := p34) rfl (by simp [p34]) ?_
  have e3 := ev_impl_BlockNew (PK := PK)
  obtain ⟨x, v, y1, z1, hx', hnd, hxm, hv', hvd, h0, hb⟩ := blk_facts hok (i := i) (k := k) (by omega) (by omega)
  unfold blk
  simp only [hnd, hvd]
  by_cases hv0 : v = 0
  · simp [p34, md, e3, y1, hx', z1, hv', hv0]
  · obtain ⟨m, b, q1, hm, hb', hbd, hbm, h8⟩ := hb hv0
    have hw : IntKind.wrap .i64 (m : Int) = m := wrap_id (by omega) (by have := hs.blocks; omega)
    have e4 := hCU b (by omega)
    simp [p34, md, y1, hx', z1, hv', hv0, hm, hw, q1, hb', hbd, e4]
end Go.Proofs.YtcbcackolaphhaaGreat.Ow
