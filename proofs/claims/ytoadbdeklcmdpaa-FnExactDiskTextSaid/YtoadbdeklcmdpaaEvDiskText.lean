/- DiskText: evaluated. -/
import Derived.Test.YtoadbdeklcmdpaaEvB
namespace Go.Proofs.Ytoadbdeklcmdpaa.Ow
open Go
variable {PK : Nat → List Arg → Option Res}
def diskText (x : NodeD) : ByteArray := if x.mt.fine then (if x.mt.old then ⟨#[111, 108, 100]⟩ else ⟨#[102, 105, 110, 101]⟩) else ⟨#[116, 111, 114, 110]⟩
theorem ev_spec_DiskText (x : NodeD) : semK G PK md 6 [.a (lents (fN x))] = some ⟨[.v (.sc (.string (diskText x)))], [], []⟩ := by
  refine semK_of (pf := p6) rfl (by simp [p6]) ?_
  cases h1 : x.mt.fine <;> cases h2 : x.mt.old <;> simp [p6, h1, h2, diskText]
theorem ev_impl_DiskText (x : NodeD) : semK G PK md 8 [.a (lents (fN x))] = some ⟨[.v (.sc (.string (diskText x)))], [], []⟩ := by
  refine semK_of (pf := p8) rfl (by simp [p8]) ?_
  cases h1 : x.mt.fine <;> cases h2 : x.mt.old <;> simp [p8, h1, h2, diskText]
theorem ev_law (x : NodeD) (hf : shN x) : semK G PK md 3 [.a (lents (fN x))] = some yes := by
  refine semK_of (pf := p3) rfl (by simp [p3]) ?_
  have e1 := ev_szNode (PK := PK) x 1048576 (by omega) (by omega) hf
  simp only [lents, lent, fN] at e1
  by_cases c : (1048576 : Int) < szN x
  · rw [szr_lt c] at e1
    simp [p3, md, e1, yes]
  · have hl : szN x ≤ 1048576 := by omega
    have d : ¬ (1048576 : Int) - szN x < 0 := by omega
    rw [szr_ge c] at e1
    have e2 := ev_toNode (PK := PK) x hl
    have e3 := ev_spec_DiskText (PK := PK) x
    have e4 := ev_impl_DiskText (PK := PK) x
    have e5 := ev_eqNode (PK := PK) x x hl
    simp only [lents, lent, fN, owneds, owned, decide_true] at e2 e3 e4 e5
    simp [p3, md, e1, d, e2, e3, e4, e5, yes]
end Go.Proofs.Ytoadbdeklcmdpaa.Ow
