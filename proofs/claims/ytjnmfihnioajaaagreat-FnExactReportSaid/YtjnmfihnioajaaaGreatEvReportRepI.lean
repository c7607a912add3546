/- What is seen of nodes, the code: evaluated. -/
import Derived.Test.YtjnmfihnioajaaaGreatEvReportRep
namespace Go.Proofs.YtjnmfihnioajaaaGreat.Ow
open Go
set_option linter.unusedVariables false
set_option linter.unusedSimpArgs false
set_option maxHeartbeats 4000000
variable {PK : Nat → List Arg → Option Res}
@[simp] def st32_0 (w : WorldD) (x : NodeD) (i : Nat) (out : ByteArray) (W : List ByteArray) (j : Nat) : St := { n := 60, m := 0, tm := [(1, .pb 10000200 0), (3, .sc (.string out)), (4, .sc (.int .i64 i)), (5, .pb 10000201 0), (6, .ref 10000202 []), (13, .im 16 (enc fN w.nodes)), (14, .sc (.int .i64 w.nodes.length)), (15, .sc (.int .i64 i)), (28, .im 16 (enc fN w.nodes)), (29, .sc (.int .i64 w.nodes.length)), (30, .sc (.int .i64 j))], ob := [(10000200, wbox w), (10000201, nbox x), (10000202, .arr 1 (enc fS W))] }
@[simp] def st32_1 (w : WorldD) (out : ByteArray) (j : Nat) : St := { n := 60, m := 0, tm := [(1, .pb 10000000 0), (3, .sc (.string out)), (13, .im 16 (enc fN w.nodes)), (14, .sc (.int .i64 w.nodes.length)), (15, .sc (.int .i64 j))], ob := [(10000000, wbox w)] }
theorem wl_len (w : WorldD) (i : Nat) : ∀ j, (wl w i j).length ≤ 3 + 2 * j
  | 0 => Nat.le_refl _
  | j + 1 => by
    have := wl_len w i j
    unfold wl
    split
    · omega
    · simp only [List.length_append, List.length_cons, List.length_nil]; omega
theorem lp32_0 (w : WorldD) (hw : wS w) (hN : NodesOk w) (i : Nat) (hi : i < 3) (A : ByteArray) : ∀ (s : St), s.m ≤ 10000200 → canon 10000200 [1, 3, 4, 5, 6, 13, 14, 15, 28, 29, 30] s = st32_0 w (nd w i) i A (wl w i 0) 0 → semL G PK md 10000200 [1, 3, 4, 5, 6, 13, 14, 15, 28, 29, 30] b32_0 s = exec (semK G PK md) (semL G PK md) md b32_0 (st32_0 w (nd w i) i A (wl w i 3) 3) := by
  have h3 := hN.len
  refine loop_ok (G := G) (PK := PK) (md := md) (o := 10000200) (live := [1, 3, 4, 5, 6, 13, 14, 15, 28, 29, 30]) (c := b32_0) (fun j => st32_0 w (nd w i) i A (wl w i j) j) (3) (fun j hj => ?_) (by simp [b32_0, h3])
  obtain ⟨y, y2, hy, hy', hyd, hym⟩ := get_ex w.nodes zN (j := j) (by omega)
  have hnj : nd w j = y := hyd
  have hinc := incr (n := 3) (j := j) (by omega) (by omega)
  have hj3 : ((j : Nat) : Int) < 3 := by omega
  by_cases hji : j = i
  · have hr : wl w i (j + 1) = wl w i j := by rw [wl, if_pos hji]
    simp only [hr]
    generalize wl w i j = W
    subst hji
    simp [b32_0, md, h3, hj, hj3, hinc, hy', y2]
  · have hji' : ¬ ((j : Nat) : Int) = i := by omega
    have hwl := wl_len w i j
    have hr : wl w i (j + 1) = wl w i j ++ [linkText (nd w i) (nd w j), dg (bl (nd w i) j)] := by rw [wl, if_neg hji]
    simp only [hr]
    have hlW : (wl w i j).length + 2 ≤ 1000 := by omega
    generalize wl w i j = W at hlW ⊢
    have nx := hN.ok i hi
    have hxm : nd w i ∈ w.nodes := by
      obtain ⟨x, _, _, _, hxd, hxm⟩ := get_ex w.nodes zN (j := i) (by omega)
      unfold nd; rw [hxd]; exact hxm
    rw [hnj]
    generalize nd w i = x at nx hxm ⊢
    obtain ⟨b, z1, hb, hb', hbd, hbm⟩ := get_ex x.mt.bits [] (j := j) (by rw [nx.bits.1]; omega)
    have hbl : bl x j = b.length := by unfold bl; rw [hbd]
    have h8 := nx.bits.2 b hbm
    rw [hbl]
    have e1 := ev_impl_LinkText (PK := PK) x y (hw.node x hxm) (hw.node y hym)
    have e2 := ev_impl_Digits (PK := PK) b.length (by omega)
    simp only [lents, lent, fN] at e1
    have g1 : (W.length + 2) * 16 ≤ 35184372088832 := by omega
    simp [b32_0, md, h3, hj, hj3, hinc, hji', hy', y2, z1, hb', e1, e2, encS2, g1]
theorem ev_impl_Report (hJ : ∀ xs : List ByteArray, xs.length ≤ 1000 → (joinB xs sp).size ≤ 1000000 → semK G PK md 76 [.v (.im 1 (enc fS xs))] = some ⟨[.v (.sc (.string (joinB xs sp)))], [], []⟩) (w : WorldD) (hw : wS w) : semK G PK md 32 [.a (lents (fWo w))] = some ⟨[.v (.sc (.string (report w)))], [], []⟩ := by
  refine semK_of (pf := p32) rfl (by simp [p32]) ?_
  have e := ev_impl_WorldOk (PK := PK) w hw
  simp only [lents, lent, fWo] at e
  unfold report
  cases hok : worldOk w
  · rw [hok] at e
    simp [p32, md, e]
  · rw [hok] at e
    have hN := worldOk_nodes hok
    have h3 := hN.len
    have hsz := loop_ok (G := G) (PK := PK) (md := md) (o := 10000000) (live := [1, 3, 13, 14, 15]) (c := b32_1) (fun j => st32_1 w (rep w j) j) (3) (fun j hj => by
      obtain ⟨x, y1, hx, hx', hxd, hxm⟩ := get_ex w.nodes zN (j := j) (by omega)
      have hnj : nd w j = x := hxd
      have hinc := incr (n := 3) (j := j) (by omega) (by omega)
      have hj3 : ((j : Nat) : Int) < 3 := by omega
      have hrs := rep_size w j
      have hsuc : rep w (j + 1) = rep w j ++ (rowB w j 3 ++ nl) := rfl
      simp only [hsuc]
      have hrs2 : (rep w j).size ≤ 200 := by omega
      generalize rep w j = out at hrs2 ⊢
      have hin := lp32_0 (PK := PK) w hw hN j hj out
      have hw3 := wl_len w j 3
      have hr3 := rowB_size w j 3
      have e4 := hJ (wl w j 3) (by omega) (by unfold rowB at hr3; omega)
      unfold rowB at hr3 ⊢
      have hw0 : wl w j 0 = [dg j, roleText x, diskText x] := by rw [wl, hnj]
      rw [hw0, hnj] at hin
      generalize wl w j 3 = W3 at hin e4 hr3 ⊢
      generalize joinB W3 sp = J at e4 hr3 ⊢
      have e1 := ev_impl_Digits (PK := PK) j (by omega)
      have e2 := ev_impl_RoleText (PK := PK) x
      have e3 := ev_impl_DiskText (PK := PK) x
      simp only [lents, lent, fN] at e2 e3
      have g1 : J.size + 1 ≤ 9223372036854775807 := by omega
      have g2 : out.size + (J.size + 1) ≤ 9223372036854775807 := by omega
      simp [b32_1, md, h3, hj, hj3, hx', y1, e1, e2, e3]
      rw [hin]
      · simp [b32_0, md, h3, hj, hj3, hx', y1, e4, nl_eq, ByteArray.size_append, g1, g2, hinc]
      · simp
      · simp [h3]) (by simp [b32_1, h3])
    simp [p32, md, e]
    rw [hsz]
    · simp [b32_1, h3]
    · simp
    · simp [rep, h3]
end Go.Proofs.YtjnmfihnioajaaaGreat.Ow
