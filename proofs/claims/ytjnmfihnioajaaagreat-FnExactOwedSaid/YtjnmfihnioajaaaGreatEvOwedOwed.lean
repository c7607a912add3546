/- What is owed: evaluated. -/
import Derived.Test.YtjnmfihnioajaaaGreatEvOwedWorldI
namespace Go.Proofs.YtjnmfihnioajaaaGreat.Ow
open Go
set_option linter.unusedVariables false
set_option linter.unusedSimpArgs false
set_option maxHeartbeats 4000000
variable {PK : Nat → List Arg → Option Res}
def oN (n : NodeD) : Nat := sumN (n.sync.map List.length)
def owed (w : WorldD) : Int := if worldOk w then ((sumN (w.nodes.map oN) : Nat) : Int) else 0
theorem wadd {a b : Nat} (h : a + b ≤ 1152921504606846976) : IntKind.wrap .i64 ((a : Int) + b) = ((a + b : Nat) : Int) := by rw [wrap_id (by omega) (by omega)]; rfl
@[simp] def st10_0 (w : WorldD) (i v j : Nat) : St := { n := 41, m := 0, tm := [(1, .pb 10000200 0), (3, .sc (.int .i64 (v : Nat))), (4, .sc (.int .i64 i)), (5, .sc (.int .i64 j))], ob := [(10000200, wbox w)] }
@[simp] def st10_1 (w : WorldD) (j : Nat) : St := { n := 41, m := 0, tm := [(1, .pb 10000000 0), (3, .sc (.int .i64 ((sumN ((w.nodes.map oN).take j) : Nat)))), (4, .sc (.int .i64 j))], ob := [(10000000, wbox w)] }
theorem lp10_0 (w : WorldD) (x : NodeD) (i a : Nat) (hx : w.nodes[i]? = some x) (hl : lls x.sync) (ha : a + oN x ≤ 1152921504606846976) : ∀ (s : St), s.m ≤ 10000200 → canon 10000200 [1, 3, 4, 5] s = st10_0 w i a 0 → semL G PK md 10000200 [1, 3, 4, 5] b10_0 s = exec (semK G PK md) (semL G PK md) md b10_0 (st10_0 w i (a + oN x) x.sync.length) := by
  obtain ⟨hi, hx'⟩ := at_of hx
  intro s hm hs
  have hfull : sumN ((x.sync.map List.length).take x.sync.length) = oN x := by unfold oN; rw [List.take_of_length_le (by simp)]
  rw [← hfull]
  refine loop_ok (G := G) (PK := PK) (md := md) (o := 10000200) (live := [1, 3, 4, 5]) (c := b10_0) (fun j => st10_0 w i (a + sumN ((x.sync.map List.length).take j)) j) (x.sync.length) (fun j hj => ?_) (by simp [b10_0, hi, hx']) s hm (by simpa [sumN] using hs)
  obtain ⟨y, z1, hy, hy', _, _⟩ := get_ex x.sync [] hj
  have hinc := incr hj hl.1
  have hs := sumN_take (x.sync.map List.length) (j := j) (x := y.length) (by simp [hy])
  have hle := sumN_le (x.sync.map List.length) (j + 1)
  unfold oN at ha
  have hw := wadd (a := a + sumN ((x.sync.map List.length).take j)) (b := y.length) (by omega)
  simp only [hs]
  rw [← Nat.add_assoc]
  generalize a + sumN ((x.sync.map List.length).take j) = A at hw
  simp [b10_0, hi, hx', hj, hy', hinc, hw]
theorem lp10_1 (w : WorldD) (hw : wS w) (hok : worldOk w = true) (hB : sumN (w.nodes.map oN) ≤ 1152921504606846976) : ∀ (s : St), s.m ≤ 10000000 → canon 10000000 [1, 3, 4] s = st10_1 w 0 → semL G PK md 10000000 [1, 3, 4] b10_1 s = exec (semK G PK md) (semL G PK md) md b10_1 (st10_1 w w.nodes.length) := by
  have e := ev_spec_WorldOk (PK := PK) w hw
  rw [hok] at e
  simp only [lents, lent, fWo] at e
  refine loop_ok (G := G) (PK := PK) (md := md) (o := 10000000) (live := [1, 3, 4]) (c := b10_1) (st10_1 w) (w.nodes.length) (fun j hj => ?_) (by simp [b10_1])
  obtain ⟨x, y1, hx, hx', _, hm⟩ := get_ex w.nodes zN hj
  have hinc := incr hj hw.nodes
  have hs := sumN_take (w.nodes.map oN) (j := j) (x := oN x) (by simp [hx])
  have hle := sumN_le (w.nodes.map oN) (j + 1)
  have hin := lp10_0 (PK := PK) w x j (sumN ((w.nodes.map oN).take j)) hx (hw.node x hm).sync (by omega)
  have hfull : sumN ((x.sync.map List.length).take x.sync.length) = oN x := by unfold oN; rw [List.take_of_length_le (by simp)]
  simp [b10_1, md, hj, e]
  rw [hin]
  · simp [b10_0, y1, hx', hinc, hs]
  · simp
  · simp [sumN]
theorem ev_spec_Owed (w : WorldD) (hw : wS w) (hB : sumN (w.nodes.map oN) ≤ 1152921504606846976) : semK G PK md 10 [.a (lents (fWo w))] = some ⟨[.v (.sc (.int .i64 (owed w)))], [], []⟩ := by
  refine semK_of (pf := p10) rfl (by simp [p10]) ?_
  unfold owed
  cases hok : worldOk w
  · have e := ev_spec_WorldOk (PK := PK) w hw
    rw [hok] at e
    simp only [lents, lent, fWo] at e
    have hsz := loop_ok (G := G) (PK := PK) (md := md) (o := 10000000) (live := [1, 3, 4]) (c := b10_1) (st10_1 w) (0) (fun j hj => absurd hj (by omega)) (by by_cases h0 : 0 < w.nodes.length <;> simp [b10_1, md, e, h0])
    simp [p10, md]
    rw [hsz]
    · by_cases h0 : 0 < w.nodes.length <;> simp [b10_1, md, e, h0, sumN]
    · simp
    · simp [sumN]
  · have hsz := lp10_1 (PK := PK) w hw hok hB
    have hfull : (w.nodes.map oN).take w.nodes.length = w.nodes.map oN := List.take_of_length_le (by simp)
    simp [p10, md]
    rw [hsz]
    · simp [b10_1, hfull]
    · simp
    · simp [sumN]
@[simp] def st12_0 (w : WorldD) (x : NodeD) (i v j : Nat) : St := { n := 33, m := 0, tm := [(3, .sc (.int .i64 (v : Nat))), (13, .im 16 (enc fN w.nodes)), (14, .sc (.int .i64 w.nodes.length)), (15, .sc (.int .i64 i)), (20, .im 1 (enc fII x.sync)), (21, .sc (.int .i64 x.sync.length)), (22, .sc (.int .i64 j))], ob := [] }
@[simp] def st12_1 (w : WorldD) (j : Nat) : St := { n := 33, m := 0, tm := [(3, .sc (.int .i64 ((sumN ((w.nodes.map oN).take j) : Nat)))), (13, .im 16 (enc fN w.nodes)), (14, .sc (.int .i64 w.nodes.length)), (15, .sc (.int .i64 j))], ob := [] }
theorem lp12_0 (w : WorldD) (x : NodeD) (i a : Nat) (hl : lls x.sync) (ha : a + oN x ≤ 1152921504606846976) : ∀ (s : St), s.m ≤ 10000200 → canon 10000200 [3, 13, 14, 15, 20, 21, 22] s = st12_0 w x i a 0 → semL G PK md 10000200 [3, 13, 14, 15, 20, 21, 22] b12_0 s = exec (semK G PK md) (semL G PK md) md b12_0 (st12_0 w x i (a + oN x) x.sync.length) := by
  intro s hm hs
  have hfull : sumN ((x.sync.map List.length).take x.sync.length) = oN x := by unfold oN; rw [List.take_of_length_le (by simp)]
  rw [← hfull]
  refine loop_ok (G := G) (PK := PK) (md := md) (o := 10000200) (live := [3, 13, 14, 15, 20, 21, 22]) (c := b12_0) (fun j => st12_0 w x i (a + sumN ((x.sync.map List.length).take j)) j) (x.sync.length) (fun j hj => ?_) (by simp [b12_0]) s hm (by simpa [sumN] using hs)
  obtain ⟨y, z1, hy, hy', _, _⟩ := get_ex x.sync [] hj
  have hinc := incr hj hl.1
  have hs := sumN_take (x.sync.map List.length) (j := j) (x := y.length) (by simp [hy])
  have hle := sumN_le (x.sync.map List.length) (j + 1)
  unfold oN at ha
  have hw := wadd (a := a + sumN ((x.sync.map List.length).take j)) (b := y.length) (by omega)
  simp only [hs]
  rw [← Nat.add_assoc]
  generalize a + sumN ((x.sync.map List.length).take j) = A at hw
  simp [b12_0, hj, hy', hinc, hw]
theorem ev_impl_Owed (w : WorldD) (hw : wS w) (hB : sumN (w.nodes.map oN) ≤ 1152921504606846976) : semK G PK md 12 [.a (lents (fWo w))] = some ⟨[.v (.sc (.int .i64 (owed w)))], [], []⟩ := by
  refine semK_of (pf := p12) rfl (by simp [p12]) ?_
  have e := ev_impl_WorldOk (PK := PK) w hw
  simp only [lents, lent, fWo] at e
  unfold owed
  cases hok : worldOk w
  · rw [hok] at e
    simp [p12, md, e]
  · rw [hok] at e
    have hsz := loop_ok (G := G) (PK := PK) (md := md) (o := 10000000) (live := [3, 13, 14, 15]) (c := b12_1) (st12_1 w) (w.nodes.length) (fun j hj => by
      obtain ⟨x, y1, hx, hx', _, hm⟩ := get_ex w.nodes zN hj
      have hinc := incr hj hw.nodes
      have hs := sumN_take (w.nodes.map oN) (j := j) (x := oN x) (by simp [hx])
      have hle := sumN_le (w.nodes.map oN) (j + 1)
      have hin := lp12_0 (PK := PK) w x j (sumN ((w.nodes.map oN).take j)) (hw.node x hm).sync (by omega)
      have hfull : sumN ((x.sync.map List.length).take x.sync.length) = oN x := by unfold oN; rw [List.take_of_length_le (by simp)]
      simp [b12_1, md, hj, hx']
      rw [hin]
      · simp [b12_0, hinc, hs]
      · simp
      · simp [sumN]) (by simp [b12_1])
    have hfull : (w.nodes.map oN).take w.nodes.length = w.nodes.map oN := List.take_of_length_le (by simp)
    simp [p12, md, e]
    rw [hsz]
    · simp [b12_1, hfull]
    · simp
    · simp [sumN]
end Go.Proofs.YtjnmfihnioajaaaGreat.Ow
