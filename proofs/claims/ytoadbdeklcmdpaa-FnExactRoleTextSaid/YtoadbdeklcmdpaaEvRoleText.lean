/- RoleText: evaluated. -/
import Derived.Test.YtoadbdeklcmdpaaEvB
namespace Go.Proofs.Ytoadbdeklcmdpaa.Ow
open Go
variable {PK : Nat → List Arg → Option Res}
def roleText (x : NodeD) : ByteArray := if x.up then (if x.prime then ⟨#[102, 105, 114, 115, 116]⟩ else ⟨#[115, 101, 99, 111, 110, 100]⟩) else ⟨#[100, 111, 119, 110]⟩
theorem ev_spec_RoleText (x : NodeD) : semK G PK md 10 [.a (lents (fN x))] = some ⟨[.v (.sc (.string (roleText x)))], [], []⟩ := by
  refine semK_of (pf := p10) rfl (by simp [p10]) ?_
  cases h1 : x.up <;> cases h2 : x.prime <;> simp [p10, h1, h2, roleText]
theorem ev_impl_RoleText (x : NodeD) : semK G PK md 11 [.a (lents (fN x))] = some ⟨[.v (.sc (.string (roleText x)))], [], []⟩ := by
  refine semK_of (pf := p11) rfl (by simp [p11]) ?_
  cases h1 : x.up <;> cases h2 : x.prime <;> simp [p11, h1, h2, roleText]
theorem ev_law (x : NodeD) (hf : shN x) : semK G PK md 4 [.a (lents (fN x))] = some yes := by
  refine semK_of (pf := p4) rfl (by simp [p4]) ?_
  have e1 := ev_szNode (PK := PK) x 1048576 (by omega) (by omega) hf
  simp only [lents, lent, fN] at e1
  by_cases c : (1048576 : Int) < szN x
  · rw [szr_lt c] at e1
    simp [p4, md, e1, yes]
  · have hl : szN x ≤ 1048576 := by omega
    have d : ¬ (1048576 : Int) - szN x < 0 := by omega
    rw [szr_ge c] at e1
    have e2 := ev_toNode (PK := PK) x hl
    have e3 := ev_spec_RoleText (PK := PK) x
    have e4 := ev_impl_RoleText (PK := PK) x
    have e5 := ev_eqNode (PK := PK) x x hl
    simp only [lents, lent, fN, owneds, owned, decide_true] at e2 e3 e4 e5
    simp [p4, md, e1, d, e2, e3, e4, e5, yes]
end Go.Proofs.Ytoadbdeklcmdpaa.Ow
