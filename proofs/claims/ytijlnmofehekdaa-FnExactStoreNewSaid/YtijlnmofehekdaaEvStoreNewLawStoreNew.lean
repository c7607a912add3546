/- The law StoreNew: evaluated. -/
import Derived.Test.YtijlnmofehekdaaEvStoreNewHeld
namespace Go.Proofs.Ytijlnmofehekdaa.Ow
open Go
set_option linter.unusedVariables false
set_option linter.unusedSimpArgs false
set_option maxHeartbeats 4000000
variable {PK : Nat → List Arg → Option Res}
theorem ev_markStoreX (s : StoreD) (k : Nat) (hs : szSt s ≤ 1048576) (hk : k ≤ 1048576) : semK G PK md 13 [.a (owneds (fSt s)), .v (.sc (.int .i64 (ci k)))] = some ⟨[.v (.sc (.int .i64 (ci (k + cSt s))))], [some (enc fN (mWo s.w k).nodes), some (enc fW (mWo s.w k).net), some (enc fR (mWo s.w k).log), some (enc fI (mWo s.w k).safe), some (enc fUU (rUU s.blocks (k + cWo s.w)))], []⟩ := by
  have hs0 := hs
  unfold szSt szs at hs
  have e1 := ev_markWorld (PK := PK) s.w k (by omega) (by omega)
  have hc := cWo_le s.w (by omega)
  have e2 := ev_markByteSS (PK := PK) s.blocks (k + cWo s.w) (by omega) (by omega) (by omega)
  have hend : k + cSt s = k + cWo s.w + sumN (s.blocks.map List.length) := by unfold cSt; omega
  rw [hend]
  unfold mWo
  generalize k + cWo s.w = K at e1 e2 ⊢
  generalize rmp (gN s.w.nodes k) s.w.nodes s.w.nodes.length = R1 at e1 ⊢
  generalize rmp (gW s.w.net (k + sumN (s.w.nodes.map cN))) s.w.net s.w.net.length = R2 at e1 ⊢
  generalize rmp (gR s.w.log (k + sumN (s.w.nodes.map cN) + sumN (s.w.net.map cW))) s.w.log s.w.log.length = R3 at e1 ⊢
  generalize rI s.w.safe (k + sumN (s.w.nodes.map cN) + sumN (s.w.net.map cW) + 2 * s.w.log.length) = R4 at e1 ⊢
  simp only [fWo, owneds, owned] at e1
  refine semK_of (pf := p13) rfl (by simp [p13]) ?_
  simp [p13, md, e1, e2]
def newS : StoreD := ⟨newW, []⟩
theorem ev_spec_StoreNew : semK G PK md 10 [] = some ⟨[.a (owneds (fSt newS))], [], []⟩ := by
  refine semK_of (pf := p10) rfl (by simp [p10]) ?_
  have e := ev_spec_WorldNew (PK := PK)
  unfold newS
  generalize newW = w at *
  simp only [fWo, owneds, owned] at e
  simp [p10, md, e]
theorem ev_impl_StoreNew (hCU : ∀ l : List Int, l.length ≤ 1048576 → semK G PK md 125 [.v (.im 1 (enc fU l))] = some ⟨[.v (.own 1 (enc fU l))], [], []⟩) : semK G PK md 11 [] = some ⟨[.a (owneds (fSt newS))], [], []⟩ := by
  refine semK_of (pf := p11) rfl (by simp [p11]) ?_
  have e := ev_impl_WorldNew (PK := PK) hCU
  unfold newS
  generalize newW = w at *
  simp only [fWo, owneds, owned] at e
  simp [p11, md, e]
theorem newB_le (s : SlotsD) (m : MetaD) (ha : s.a.length ≤ 200) (hb : s.b.length ≤ 200) : (slotPut s m).a.length ≤ 200 ∧ (slotPut s m).b.length ≤ 200 := by
  have h := newB_len s m
  unfold slotPut
  split
  · split
    · exact ⟨ha, by show (newB s m).length ≤ 200; omega⟩
    · exact ⟨by show (newB s m).length ≤ 200; omega, hb⟩
  · exact ⟨ha, hb⟩
theorem newS_sz : szSt newS ≤ 1048576 := by
  have h := newB_le ⟨[], []⟩ newM (by decide) (by decide)
  unfold newS newW szSt szWo
  simp only [szs, szN, szM, szSl, newN, newM, List.map, List.length_cons, List.length_nil, sumN, List.length_replicate] at h ⊢
  omega
theorem ev_law (hCU : ∀ l : List Int, l.length ≤ 1048576 → semK G PK md 125 [.v (.im 1 (enc fU l))] = some ⟨[.v (.own 1 (enc fU l))], [], []⟩) : semK G PK md 4 [] = some yes := by
  refine semK_of (pf := p4) rfl (by simp [p4]) ?_
  have e1 := ev_spec_StoreNew (PK := PK)
  have e2 := ev_impl_StoreNew (PK := PK) hCU
  have hl := newS_sz
  generalize newS = s at *
  have e3 := ev_eqStore (PK := PK) s s hl
  have e4 := ev_markStoreX (PK := PK) s 1 hl (by omega)
  have e5 := ev_heldStore (PK := PK) s 1 hl (by omega)
  have d2 : ¬ ci (1 + cSt s) < 0 := by unfold ci; omega
  have hg : (mWo s.w 1).gen = s.w.gen := rfl
  rw [show ci 1 = 1 from rfl] at e4 e5
  generalize mWo s.w 1 = mw at *
  generalize rUU s.blocks (1 + cWo s.w) = mb at *
  simp only [lents, lent, fSt, owneds, owned, decide_true, hg] at e1 e2 e3 e4 e5
  simp [p4, md, e1, e2, e3, e4, e5, d2, yes]
end Go.Proofs.Ytijlnmofehekdaa.Ow
