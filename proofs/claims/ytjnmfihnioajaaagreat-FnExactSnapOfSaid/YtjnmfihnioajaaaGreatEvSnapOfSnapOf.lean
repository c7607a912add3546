/- Snaps of nodes: evaluated. -/
import Derived.Test.YtjnmfihnioajaaaGreatEvSnapOfWorldI
namespace Go.Proofs.YtjnmfihnioajaaaGreat.Ow
open Go
set_option linter.unusedVariables false
set_option linter.unusedSimpArgs false
set_option maxHeartbeats 4000000
variable {PK : Nat → List Arg → Option Res}
def snapOf (w : WorldD) (a : Int) : SnapD × Bool := if worldOk w && inB a 0 2 && (nd w a.toNat).mt.fine then (⟨(nd w a.toNat).mt.last, (nd w a.toNat).image⟩, true) else (⟨0, []⟩, false)
theorem ev_spec_SnapOf (w : WorldD) (a : Int) (hw : wS w) : semK G PK md 25 [.a (lents (fWo w)), .v (.sc (.int .i64 a))] = some ⟨[.a (owneds (fSn (snapOf w a).1)), .v (.sc (.bool (snapOf w a).2))], [], []⟩ := by
  refine semK_of (pf := p25) rfl (by simp [p25]) ?_
  have e := ev_spec_WorldOk (PK := PK) w hw
  simp only [lents, lent, fWo] at e
  have e1 := ev_l1In (PK := PK) a 0 2
  unfold snapOf
  cases hok : worldOk w
  · rw [hok] at e
    simp [p25, md, e]
  rw [hok] at e
  cases ha : inB a 0 2
  · rw [ha] at e1
    simp [p25, md, e, e1]
  rw [ha] at e1
  have ra := inB_iff.1 ha
  obtain ⟨i, rfl⟩ : ∃ i : Nat, a = (i : Int) := ⟨a.toNat, by omega⟩
  have hN := worldOk_nodes hok
  obtain ⟨x, y1, hx, hx', hxd, hxm⟩ := get_ex w.nodes zN (j := i) (by rw [hN.len]; omega)
  have nx := hN.ok i (by omega)
  have h8 := nx.img8
  unfold nd at h8 ⊢
  simp only [Int.toNat_natCast, hxd] at h8 ⊢
  cases hf : x.mt.fine
  · simp [p25, md, e, e1, y1, hx', hf]
  · simp [p25, md, e, e1, y1, hx', hf, h8]
theorem ev_impl_SnapOf (hC : ∀ l : List Int, l.length ≤ 1048576 → semK G PK md 62 [.v (.im 1 (enc fI l))] = some ⟨[.v (.own 1 (enc fI l))], [], []⟩) (w : WorldD) (a : Int) (hw : wS w) : semK G PK md 26 [.a (lents (fWo w)), .v (.sc (.int .i64 a))] = some ⟨[.a (owneds (fSn (snapOf w a).1)), .v (.sc (.bool (snapOf w a).2))], [], []⟩ := by
  refine semK_of (pf := p26) rfl (by simp [p26]) ?_
  have e := ev_impl_WorldOk (PK := PK) w hw
  simp only [lents, lent, fWo] at e
  have e1 := ev_isNode (PK := PK) a
  unfold snapOf
  cases hok : worldOk w
  · rw [hok] at e
    simp [p26, md, e]
  rw [hok] at e
  cases ha : inB a 0 2
  · rw [ha] at e1
    simp [p26, md, e, e1]
  rw [ha] at e1
  have ra := inB_iff.1 ha
  obtain ⟨i, rfl⟩ : ∃ i : Nat, a = (i : Int) := ⟨a.toNat, by omega⟩
  have hN := worldOk_nodes hok
  obtain ⟨x, y1, hx, hx', hxd, hxm⟩ := get_ex w.nodes zN (j := i) (by rw [hN.len]; omega)
  have nx := hN.ok i (by omega)
  have h8 := nx.img8
  unfold nd at h8 ⊢
  simp only [Int.toNat_natCast, hxd] at h8 ⊢
  have e2 := hC x.image (by omega)
  cases hf : x.mt.fine
  · simp [p26, md, e, e1, y1, hx', hf]
  · simp [p26, md, e, e1, y1, hx', hf, e2]
end Go.Proofs.YtjnmfihnioajaaaGreat.Ow
