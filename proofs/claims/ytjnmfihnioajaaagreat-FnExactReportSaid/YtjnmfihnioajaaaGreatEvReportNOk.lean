/- What follows of a node that is right. -/
import Derived.Test.YtjnmfihnioajaaaGreatEvReportNodeG
namespace Go.Proofs.YtjnmfihnioajaaaGreat.Ow
open Go
set_option linter.unusedVariables false
set_option linter.unusedSimpArgs false
set_option maxHeartbeats 4000000
variable {PK : Nat → List Arg → Option Res}
structure NOk (n : NodeD) : Prop where
  id0 : 0 ≤ n.id
  id2 : n.id ≤ 2
  img : imgOk n.image = true
  mt : metaOk n.mt = true
  conn : n.conn.length = 3
  sync : n.sync.length = 3
  copies : n.copies.length = 3
  lk : allB (lk n) 3 = true
  prime : n.prime = true → n.up = true ∧ n.id ≠ 2
  down : n.up = false → n.wait.length = 0
  wait : allB (ascP 1 200 n.wait) n.wait.length = true
  ok : (slotGet n.sl).2.2 = true
  same : (slotGet n.sl).1 = n.mt
theorem nodeOk_of {n : NodeD} (h : nodeOk n = true) : NOk n := by
  unfold nodeOk links at h
  simp only [Bool.and_eq_true, decide_eq_true_iff] at h
  obtain ⟨⟨⟨⟨⟨⟨⟨⟨h0, h1⟩, h2⟩, ⟨⟨⟨h3, h4⟩, h5⟩, h6⟩⟩, h7⟩, h8⟩, h9⟩, h10⟩, h11⟩ := h
  have h0 := inB_iff.1 h0
  refine ⟨h0.1, h0.2, h1, h2, h3, h4, h5, h6, fun hp => ?_, fun hu => ?_, h9, h10, h11⟩
  · rw [hp] at h7
    simp at h7
    exact h7
  · rw [hu] at h8
    simp at h8
    simp [h8]
theorem NOk.nat {n : NodeD} (h : NOk n) : ∃ i : Nat, i < 3 ∧ n.id = (i : Int) := ⟨n.id.toNat, by have := h.id2; have := h.id0; omega, by have := h.id0; omega⟩
end Go.Proofs.YtjnmfihnioajaaaGreat.Ow
