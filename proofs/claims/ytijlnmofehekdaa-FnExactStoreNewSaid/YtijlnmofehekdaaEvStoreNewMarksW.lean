/- Marks of worlds and moments; whether they are held: evaluated. -/
import Derived.Test.YtijlnmofehekdaaEvStoreNewMarksN
namespace Go.Proofs.Ytijlnmofehekdaa.Ow
open Go
set_option linter.unusedVariables false
set_option linter.unusedSimpArgs false
variable {PK : Nat → List Arg → Option Res}
def cWo (w : WorldD) : Nat := sumN (w.nodes.map cN) + sumN (w.net.map cW) + 2 * w.log.length + w.safe.length
theorem sum_le2 {α : Type} (f g : α → Nat) (h : ∀ x, f x ≤ g x + 16) : ∀ l : List α, sumN (l.map f) ≤ sumN (l.map g) + 16 * l.length
  | [] => by simp [sumN]
  | x :: l => by
    have := sum_le2 f g h l
    have := h x
    simp only [List.map_cons, sumN, List.length_cons]
    omega
theorem cN_le (x : NodeD) : cN x ≤ szN x + 16 := by unfold cN szN szM szSl szs; omega
theorem cW_le (x : WireD) : cW x ≤ szW x + 16 := by unfold cW szW; omega
theorem ev_markWorld (w : WorldD) (k : Nat) (hw : szWo w ≤ 1048576) (hk : k ≤ 1073741824) :
    semK G PK md 36 [.a (owneds (fWo w)), .v (.sc (.int .i64 (ci k)))] = some ⟨[.v (.sc (.int .i64 (ci (k + cWo w))))],
      [some (enc fN (rmp (gN w.nodes k) w.nodes w.nodes.length)), some (enc fW (rmp (gW w.net (k + sumN (w.nodes.map cN))) w.net w.net.length)),
        some (enc fR (rmp (gR w.log (k + sumN (w.nodes.map cN) + sumN (w.net.map cW))) w.log w.log.length)), some (enc fI (rI w.safe (k + sumN (w.nodes.map cN) + sumN (w.net.map cW) + 2 * w.log.length)))], []⟩ := by
  refine semK_of (pf := p36) rfl (by simp [p36]) ?_
  have hw0 := hw
  unfold szWo szs at hw
  have s1 := sum_le2 cN szN cN_le w.nodes
  have s2 := sum_le2 cW szW cW_le w.net
  have e1 := ev_markNodeS (PK := PK) w.nodes k (by omega) (by unfold szs; omega) (by omega) (by omega)
  have e2 := ev_markWireS (PK := PK) w.net (k + sumN (w.nodes.map cN)) (by omega) (by unfold szs; omega) (by omega) (by omega)
  have e3 := ev_markRecS (PK := PK) w.log (k + sumN (w.nodes.map cN) + sumN (w.net.map cW)) (by omega) (by omega)
  have e4 := ev_markIntS (PK := PK) w.safe (k + sumN (w.nodes.map cN) + sumN (w.net.map cW) + 2 * w.log.length) (by omega) (by omega)
  have hend : k + cWo w = k + sumN (w.nodes.map cN) + sumN (w.net.map cW) + 2 * w.log.length + w.safe.length := by unfold cWo; omega
  rw [hend]
  unfold rI
  generalize k + sumN (w.nodes.map cN) = K1 at e1 e2 e3 e4 ⊢
  generalize K1 + sumN (w.net.map cW) = K2 at e2 e3 e4 ⊢
  generalize K2 + 2 * w.log.length = K3 at e3 e4 ⊢
  simp [p36, md, e1, e2, e3, e4]
@[simp] def st69 (l : List Int) (k j : Nat) : St := { n := 21, m := 0, tm := [(0, .im 1 (enc fI l)), (1, .sc (.int .i64 (ci (k + j)))), (5, .sc (.int .i64 j))], ob := [] }
theorem ev_heldIntS (l : List Int) (k : Nat) (hl : l.length ≤ 1048576) (hk : k ≤ 1073741824) (hh : ∀ p, p < l.length → l[p]? = some (ci (k + p))) :
    semK G PK md 69 [.v (.im 1 (enc fI l)), .v (.sc (.int .i64 (ci k)))] = some ⟨[.v (.sc (.int .i64 (ci (k + l.length))))], [], []⟩ := by
  refine semK_of (pf := p69) rfl (by simp [p69]) ?_
  have hstep : ∀ j, j < l.length → ∃ s', exec (semK G PK md) (semL G PK md) md b69_0 (st69 l k j) = some (.normal, s') ∧ s'.m ≤ 10000000 ∧ canon 10000000 [0, 1, 5] s' = st69 l k (j + 1) := fun j hlt => by
    have hc := ci_succ (m := k + j) (by omega)
    obtain ⟨_, hx'⟩ := at_of (hh j hlt)
    have hk2 : k + j + 1 = k + (j + 1) := rfl
    simp [b69_0, hlt, incr hlt hl, hc, hx', hk2]
  have hsz := loop_ok (G := G) (PK := PK) (md := md) (o := 10000000) (live := [0, 1, 5]) (c := b69_0) (st69 l k) l.length hstep (by simp [b69_0])
  simp [p69]
  rw [hsz]
  · simp [b69_0]
  · simp
  · simp
theorem rI_held (l : List Int) (k : Nat) : ∀ p, p < (rI l k).length → (rI l k)[p]? = some (ci (k + p)) := fun p hp => by
  unfold rI at hp ⊢
  rw [rmp_len] at hp
  exact rmp_lt _ l _ p hp hp
theorem rI_len (l : List Int) (k : Nat) : (rI l k).length = l.length := by unfold rI; simp
end Go.Proofs.Ytijlnmofehekdaa.Ow
