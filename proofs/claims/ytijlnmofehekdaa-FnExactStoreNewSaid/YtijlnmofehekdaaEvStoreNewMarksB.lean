/- Marks of stores, bytes held: evaluated. -/
import Derived.Test.YtijlnmofehekdaaEvStoreNewMarksW
namespace Go.Proofs.Ytijlnmofehekdaa.Ow
open Go
set_option linter.unusedVariables false
set_option linter.unusedSimpArgs false
set_option maxHeartbeats 4000000
variable {PK : Nat → List Arg → Option Res}
def gUU (ll : List (List Int)) (k j : Nat) : List Int := rU (ll.getD j []) (k + sumN ((ll.map List.length).take j))
def rUU (ll : List (List Int)) (k : Nat) : List (List Int) := rmp (gUU ll k) ll ll.length
@[simp] def st37 (ll : List (List Int)) (k j : Nat) : St := { n := 19, m := 1, tm := [(0, .ref 0 []), (1, .sc (.int .i64 (ci (k + sumN ((ll.map List.length).take j))))), (5, .sc (.int .i64 j))], ob := [(0, .arr 1 (enc fUU (rmp (gUU ll k) ll j)))] }
theorem ev_markByteSS (ll : List (List Int)) (k : Nat) (hl : ll.length ≤ 1048576) (hll : sumN (ll.map List.length) ≤ 1048576) (hk : k ≤ 288230376151711744) :
    semK G PK md 37 [.v (.own 1 (enc fUU ll)), .v (.sc (.int .i64 (ci k)))] = some ⟨[.v (.sc (.int .i64 (ci (k + sumN (ll.map List.length)))))], [some (enc fUU (rUU ll k))], []⟩ := by
  refine semK_of (pf := p37) rfl (by simp [p37]) ?_
  have hstep : ∀ j, j < ll.length → ∃ s', exec (semK G PK md) (semL G PK md) md b37_0 (st37 ll k j) = some (.normal, s') ∧ s'.m ≤ 10000000 ∧ canon 10000000 [0, 1, 5] s' = st37 ll k (j + 1) := fun j hlt => by
    obtain ⟨x, hx⟩ := getElem?_of_lt hlt
    obtain ⟨_, hx'⟩ := at_of hx
    have hs := sumN_take (ll.map List.length) (j := j) (x := x.length) (by simp [hx])
    have hle := sumN_le (ll.map List.length) (j + 1)
    have hmem := sumN_mem (List.mem_map_of_mem (f := List.length) (List.mem_of_getElem? hx))
    generalize hS : sumN ((ll.map List.length).take j) = S at hs
    have he := ev_markByteS (PK := PK) x (k + S) (by omega) (by omega)
    have hat := rmp_at (gUU ll k) ll hlt
    rw [hx'] at hat
    have hset := rmp_set (gUU ll k) ll j
    have hes := enc_set fUU (rmp (gUU ll k) ll j) j (gUU ll k j)
    have hg : gUU ll k j = rmp (gU8 (k + S)) x x.length := by unfold gUU rU; rw [hS, List.getD_eq_getElem?_getD, hx]; rfl
    rw [hset] at hes
    simp only [fUU] at hes
    rw [hg] at hes
    rw [Nat.add_assoc, ← hs] at he
    simp [b37_0, md, hlt, incr hlt hl, hS, hat, he, hes]
  have hsz := loop_ok (G := G) (PK := PK) (md := md) (o := 10000000) (live := [0, 1, 5]) (c := b37_0) (st37 ll k) ll.length hstep (by simp [b37_0])
  have h0 : rmp (gUU ll k) ll 0 = ll := rfl
  have ht : (ll.map List.length).take ll.length = ll.map List.length := by rw [← List.length_map (f := List.length)]; exact List.take_length
  have hr : rUU ll k = rmp (gUU ll k) ll ll.length := rfl
  rw [hr]
  simp [p37]
  rw [hsz]
  · simp [b37_0, ht]
  · simp
  · simp [h0, sumN]
@[simp] def st70 (l : List Int) (k j : Nat) : St := { n := 22, m := 0, tm := [(0, .im 1 (enc fU l)), (1, .sc (.int .i64 (ci (k + j)))), (5, .sc (.int .i64 j))], ob := [] }
theorem ev_heldByteS (l : List Int) (k : Nat) (hl : l.length ≤ 1048576) (hk : k ≤ 1073741824) (hh : ∀ p, p < l.length → l[p]? = some (IntKind.wrap .u8 (ci (k + p)))) :
    semK G PK md 70 [.v (.im 1 (enc fU l)), .v (.sc (.int .i64 (ci k)))] = some ⟨[.v (.sc (.int .i64 (ci (k + l.length))))], [], []⟩ := by
  refine semK_of (pf := p70) rfl (by simp [p70]) ?_
  have hstep : ∀ j, j < l.length → ∃ s', exec (semK G PK md) (semL G PK md) md b70_0 (st70 l k j) = some (.normal, s') ∧ s'.m ≤ 10000000 ∧ canon 10000000 [0, 1, 5] s' = st70 l k (j + 1) := fun j hlt => by
    have hc := ci_succ (m := k + j) (by omega)
    obtain ⟨_, hx'⟩ := at_of (hh j hlt)
    have hk2 : k + j + 1 = k + (j + 1) := rfl
    simp [b70_0, hlt, incr hlt hl, hc, hx', hk2]
  have hsz := loop_ok (G := G) (PK := PK) (md := md) (o := 10000000) (live := [0, 1, 5]) (c := b70_0) (st70 l k) l.length hstep (by simp [b70_0])
  simp [p70]
  rw [hsz]
  · simp [b70_0]
  · simp
  · simp
theorem rU_held (l : List Int) (k : Nat) : ∀ p, p < (rU l k).length → (rU l k)[p]? = some (IntKind.wrap .u8 (ci (k + p))) := fun p hp => by
  unfold rU at hp ⊢
  rw [rmp_len] at hp
  exact rmp_lt _ l _ p hp hp
theorem rU_len (l : List Int) (k : Nat) : (rU l k).length = l.length := by unfold rU; simp
def cSt (s : StoreD) : Nat := cWo s.w + sumN (s.blocks.map List.length)
theorem ev_markStore (s : StoreD) (k : Nat) (hs : szSt s ≤ 1048576) (hk : k ≤ 1048576) :
    ∃ r1 r2 r3 r4 r5, semK G PK md 13 [.a (owneds (fSt s)), .v (.sc (.int .i64 (ci k)))] = some ⟨[.v (.sc (.int .i64 (ci (k + cSt s))))], [some r1, some r2, some r3, some r4, some r5], []⟩ := by
  have hs0 := hs
  unfold szSt szs at hs
  have e1 := ev_markWorld (PK := PK) s.w k (by omega) (by omega)
  have hc : cWo s.w ≤ 33554432 := by
    have h := hs
    unfold szWo szs at h
    have s1 := sum_le2 cN szN cN_le s.w.nodes
    have s2 := sum_le2 cW szW cW_le s.w.net
    unfold cWo
    omega
  have e2 := ev_markByteSS (PK := PK) s.blocks (k + cWo s.w) (by omega) (by omega) (by omega)
  have hend : k + cSt s = k + cWo s.w + sumN (s.blocks.map List.length) := by unfold cSt; omega
  rw [hend]
  generalize k + cWo s.w = K at e1 e2 ⊢
  generalize enc fN (rmp (gN s.w.nodes k) s.w.nodes s.w.nodes.length) = R1 at e1
  generalize enc fW (rmp (gW s.w.net (k + sumN (s.w.nodes.map cN))) s.w.net s.w.net.length) = R2 at e1
  generalize enc fR (rmp (gR s.w.log (k + sumN (s.w.nodes.map cN) + sumN (s.w.net.map cW))) s.w.log s.w.log.length) = R3 at e1
  generalize enc fI (rI s.w.safe (k + sumN (s.w.nodes.map cN) + sumN (s.w.net.map cW) + 2 * s.w.log.length)) = R4 at e1
  refine ⟨R1, R2, R3, R4, enc fUU (rUU s.blocks K), ?_⟩
  simp only [fWo, owneds, owned] at e1
  refine semK_of (pf := p13) rfl (by simp [p13]) ?_
  simp [p13, md, e1, e2]
end Go.Proofs.Ytijlnmofehekdaa.Ow
