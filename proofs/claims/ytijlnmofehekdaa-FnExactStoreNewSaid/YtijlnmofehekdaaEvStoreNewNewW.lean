/- A new world. -/
import Derived.Test.YtijlnmofehekdaaEvStoreNewNewN
namespace Go.Proofs.Ytijlnmofehekdaa.Ow
open Go
set_option linter.unusedVariables false
set_option linter.unusedSimpArgs false
set_option maxHeartbeats 4000000
variable {PK : Nat → List Arg → Option Res}
def newW : WorldD := ⟨[newN 0, newN 1, newN 2], [], [], [], 2⟩
@[simp] def st32_0 : Nat → St
  | 0 => { n := 16, m := 0, tm := [(0, .pb 10000000 0), (1, .pb 10000001 0), (2, .sc (.int .i64 0))], ob := [(10000000, .box [.nil 16, .nil 3, .nil 2, .nil 1, .sc (.int .i64 0)]), (10000001, .box [.nil 16, .nil 3, .nil 2, .nil 1, .sc (.int .i64 2)])] }
  | j + 1 => { n := 16, m := 0, tm := [(0, .pb 10000000 0), (1, .pb 10000001 0), (2, .sc (.int .i64 ((j : Int) + 1)))], ob := [(10000000, .box [.nil 16, .nil 3, .nil 2, .nil 1, .sc (.int .i64 0)]), (10000001, .box [.ref 10000002 [], .nil 3, .nil 2, .nil 1, .sc (.int .i64 2)]), (10000002, .arr 16 ((List.range (j + 1)).map fun i => fN (newN i)))] }
theorem ev_spec_WorldNew : semK G PK md 32 [] = some ⟨[.a (owneds (fWo newW))], [], []⟩ := by
  refine semK_of (pf := p32) rfl (by simp [p32]) ?_
  have e0 := ev_spec_NodeNew (PK := PK) 0 (by omega)
  have e1 := ev_spec_NodeNew (PK := PK) 1 (by omega)
  have e2 := ev_spec_NodeNew (PK := PK) 2 (by omega)
  unfold newW
  rw [show ((0 : Nat) : Int) = 0 from rfl] at e0
  rw [show ((1 : Nat) : Int) = 1 from rfl] at e1
  rw [show ((2 : Nat) : Int) = 2 from rfl] at e2
  have hs0 := loop_ok (G := G) (PK := PK) (md := md) (o := 10000000) (live := [0, 1, 2]) (c := b32_0) st32_0 3 (fun j hj => by
    rcases j with _ | _ | _ | j
    · simp [b32_0, md, e0]
      rfl
    · simp [b32_0, md, e1]
      exact ⟨rfl, rfl⟩
    · simp [b32_0, md, e2]
      exact ⟨rfl, rfl⟩
    · omega) (by simp [b32_0])
  simp [p32, md]
  rw [hs0]
  · simp [b32_0]
    rfl
  · simp
  · simp
@[simp] def st33_0 : Nat → St
  | 0 => { n := 16, m := 0, tm := [(0, .pb 10000000 0), (1, .pb 10000001 0), (4, .sc (.int .i64 0))], ob := [(10000000, .box [.nil 16, .nil 3, .nil 2, .nil 1, .sc (.int .i64 0)]), (10000001, .box [.nil 16, .nil 3, .nil 2, .nil 1, .sc (.int .i64 2)])] }
  | j + 1 => { n := 16, m := 0, tm := [(0, .pb 10000000 0), (1, .pb 10000001 0), (4, .sc (.int .i64 ((j : Int) + 1)))], ob := [(10000000, .box [.nil 16, .nil 3, .nil 2, .nil 1, .sc (.int .i64 0)]), (10000001, .box [.ref 10000002 [], .nil 3, .nil 2, .nil 1, .sc (.int .i64 2)]), (10000002, .arr 16 ((List.range (j + 1)).map fun i => fN (newN i)))] }
theorem ev_impl_WorldNew (hCU : ∀ l : List Int, l.length ≤ 1048576 → semK G PK md 125 [.v (.im 1 (enc fU l))] = some ⟨[.v (.own 1 (enc fU l))], [], []⟩) : semK G PK md 33 [] = some ⟨[.a (owneds (fWo newW))], [], []⟩ := by
  refine semK_of (pf := p33) rfl (by simp [p33]) ?_
  have e0 := ev_impl_NodeNew (PK := PK) hCU 0 (by omega)
  have e1 := ev_impl_NodeNew (PK := PK) hCU 1 (by omega)
  have e2 := ev_impl_NodeNew (PK := PK) hCU 2 (by omega)
  unfold newW
  rw [show ((0 : Nat) : Int) = 0 from rfl] at e0
  rw [show ((1 : Nat) : Int) = 1 from rfl] at e1
  rw [show ((2 : Nat) : Int) = 2 from rfl] at e2
  have hs0 := loop_ok (G := G) (PK := PK) (md := md) (o := 10000000) (live := [0, 1, 4]) (c := b33_0) st33_0 3 (fun j hj => by
    rcases j with _ | _ | _ | j
    · simp [b33_0, md, e0]
      rfl
    · simp [b33_0, md, e1]
      exact ⟨rfl, rfl⟩
    · simp [b33_0, md, e2]
      exact ⟨rfl, rfl⟩
    · omega) (by simp [b33_0])
  simp [p33, md]
  rw [hs0]
  · simp [b33_0]
    rfl
  · simp
  · simp
end Go.Proofs.Ytijlnmofehekdaa.Ow
