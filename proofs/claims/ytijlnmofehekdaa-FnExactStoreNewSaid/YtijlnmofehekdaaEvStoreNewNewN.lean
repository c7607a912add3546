/- New nodes: both. -/
import Derived.Test.YtijlnmofehekdaaEvStoreNewNewM
namespace Go.Proofs.Ytijlnmofehekdaa.Ow
open Go
set_option linter.unusedVariables false
set_option linter.unusedSimpArgs false
set_option maxHeartbeats 4000000
variable {PK : Nat → List Arg → Option Res}
def newN (i : Nat) : NodeD := ⟨i, true, false, List.replicate 8 0, newM, slotPut ⟨[], []⟩ newM, [false, false, false], [[], [], []], [false, false, false], []⟩
theorem ev_isNode (x : Int) : semK G PK md 48 [.v (.sc (.int .i64 x))] = some ⟨[.v (.sc (.bool (inB x 0 2)))], [], []⟩ := by
  refine semK_of (pf := p48) rfl (by simp [p48]) ?_
  have e := ev_from (PK := PK) x 0 2
  simp [p48, md, e]
theorem sl0_S : slS ⟨[], []⟩ := ⟨⟨by decide, by intro x h; cases h⟩, ⟨by decide, by intro x h; cases h⟩⟩
theorem ev_spec_NodeNew (i : Nat) (hi : i < 3) : semK G PK md 56 [.v (.sc (.int .i64 i))] = some ⟨[.a (owneds (fN (newN i)))], [], []⟩ := by
  refine semK_of (pf := p56) rfl (by simp [p56]) ?_
  have e1 := ev_l1In (PK := PK) i 0 2
  have e2 := ev_spec_MetaNew (PK := PK)
  have e3 := ev_spec_ImageNew (PK := PK)
  have e4 := ev_spec_SlotPut (PK := PK) ⟨[], []⟩ newM sl0_S newM_S
  have hr : inB (i : Int) 0 2 = true := inB_iff.2 ⟨by omega, by omega⟩
  rw [hr] at e1
  have h8 : enc fI (List.replicate 8 0) = List.replicate 8 [T.sc (.int .i64 0)] := rfl
  have hn : enc fU ([] : List Int) = [] := rfl
  simp only [lents, lent, fM, fSl, List.map, hn] at e2 e4
  unfold newN
  generalize slotPut ⟨[], []⟩ newM = sp at *
  generalize newM = m at *
  generalize enc fI (List.replicate 8 0) = img at *
  simp (config := { maxSteps := 10000000 }) [p56, md, e1, e2, e3, e4, Alike2]
  exact h8
theorem ev_impl_NodeNew (hCU : ∀ l : List Int, l.length ≤ 1048576 → semK G PK md 125 [.v (.im 1 (enc fU l))] = some ⟨[.v (.own 1 (enc fU l))], [], []⟩) (i : Nat) (hi : i < 3) : semK G PK md 57 [.v (.sc (.int .i64 i))] = some ⟨[.a (owneds (fN (newN i)))], [], []⟩ := by
  refine semK_of (pf := p57) rfl (by simp [p57]) ?_
  have e1 := ev_isNode (PK := PK) i
  have e2 := ev_impl_MetaNew (PK := PK)
  have e3 := ev_impl_ImageNew (PK := PK)
  have e4 := ev_impl_SlotPut (PK := PK) hCU ⟨[], []⟩ newM sl0_S newM_S
  have hr : inB (i : Int) 0 2 = true := inB_iff.2 ⟨by omega, by omega⟩
  rw [hr] at e1
  have h8 : enc fI (List.replicate 8 0) = List.replicate 8 [T.sc (.int .i64 0)] := rfl
  have hn : enc fU ([] : List Int) = [] := rfl
  simp only [lents, lent, fM, fSl, List.map, hn] at e2 e4
  unfold newN
  generalize slotPut ⟨[], []⟩ newM = sp at *
  generalize newM = m at *
  generalize enc fI (List.replicate 8 0) = img at *
  simp (config := { maxSteps := 10000000 }) [p57, md, e1, e2, e3, e4, Alike2]
  exact h8
end Go.Proofs.Ytijlnmofehekdaa.Ow
