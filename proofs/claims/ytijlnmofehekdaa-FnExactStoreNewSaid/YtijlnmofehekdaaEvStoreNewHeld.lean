/- Marked things are held: evaluated. -/
import Derived.Test.YtijlnmofehekdaaEvStoreNewMarksB
namespace Go.Proofs.Ytijlnmofehekdaa.Ow
open Go
set_option linter.unusedVariables false
set_option linter.unusedSimpArgs false
set_option maxHeartbeats 4000000
variable {PK : Nat → List Arg → Option Res}
theorem ci_nn (m : Nat) : ¬ ci m < 0 := by unfold ci; omega
theorem rmp_get {α : Type} (g : Nat → α) (l : List α) {j : Nat} (h : j < l.length) : ∃ hj : j < (rmp g l l.length).length, (rmp g l l.length)[j] = g j := at_of (rmp_lt g l l.length j h h)
theorem rL_len (l : List Bool) (k : Nat) : (rL l k).length = l.length := by unfold rL; simp
theorem rII_len (l : List (List Int)) (k : Nat) : (rII l k).length = l.length := by unfold rII; simp
theorem rUU_len (l : List (List Int)) (k : Nat) : (rUU l k).length = l.length := by unfold rUU; simp
@[simp] def st97 (l : List Bool) (k j : Nat) : St := { n := 23, m := 0, tm := [(0, .im 1 (enc fL l)), (1, .sc (.int .i64 (ci (k + j)))), (5, .sc (.int .i64 j))], ob := [] }
theorem ev_heldBoolS (l : List Bool) (k : Nat) (hl : l.length ≤ 1048576) (hk : k ≤ 1073741824) : semK G PK md 97 [.v (.im 1 (enc fL (rL l k))), .v (.sc (.int .i64 (ci k)))] = some ⟨[.v (.sc (.int .i64 (ci (k + l.length))))], [], []⟩ := by
  refine semK_of (pf := p97) rfl (by simp [p97]) ?_
  have hlen := rL_len l k
  have hsz := loop_ok (G := G) (PK := PK) (md := md) (o := 10000000) (live := [0, 1, 5]) (c := b97_0) (st97 (rL l k) k) (l.length) (fun j hj => by
    obtain ⟨hj', hx'⟩ := rmp_get (gB3 k) l hj
    have hx'' : (rL l k)[j]'(by rw [hlen]; exact hj) = gB3 k j := hx'
    have hc := ci_succ (m := k + j) (by omega)
    have hk2 : k + j + 1 = k + (j + 1) := rfl
    unfold gB3 at hx''
    generalize rL l k = L at hlen hx'' ⊢
    have hj2 : j < L.length := by omega
    simp [b97_0, hj2, hx'', incr hj hl, hc, hk2]) (by simp [b97_0, hlen])
  simp [p97]
  rw [hsz]
  · simp [b97_0, hlen]
  · simp
  · simp
@[simp] def st96 (l : List (List Int)) (v j : Nat) : St := { n := 21, m := 0, tm := [(0, .im 1 (enc fII l)), (1, .sc (.int .i64 (ci v))), (5, .sc (.int .i64 j))], ob := [] }
theorem ev_heldIntSS (l : List (List Int)) (k : Nat) (hl : l.length ≤ 1048576) (hs2 : sumN (l.map List.length) ≤ 268435456) (hm : ∀ x ∈ l, x.length ≤ 1048576) (hk : k ≤ 536870912) : semK G PK md 96 [.v (.im 1 (enc fII (rII l k))), .v (.sc (.int .i64 (ci k)))] = some ⟨[.v (.sc (.int .i64 (ci (k + sumN (l.map List.length)))))], [], []⟩ := by
  refine semK_of (pf := p96) rfl (by simp [p96]) ?_
  have hlen := rII_len l k
  have hsz := loop_ok (G := G) (PK := PK) (md := md) (o := 10000000) (live := [0, 1, 5]) (c := b96_0) (fun j => st96 (rII l k) (k + sumN ((l.map List.length).take j)) j) (l.length) (fun j hj => by
    obtain ⟨x, y1, hx, hx0, hxd, hxm⟩ : ∃ (x : List Int) (hj : j < l.length), l[j]? = some x ∧ l[j] = x ∧ l.getD j [] = x ∧ x ∈ l := ⟨l[j], hj, List.getElem?_eq_getElem hj, rfl, by simp [List.getD_eq_getElem?_getD, hj], List.getElem_mem hj⟩
    obtain ⟨hj', hx'⟩ := rmp_get (gII l k) l hj
    have hx'' : (rII l k)[j]'(by rw [hlen]; exact hj) = gII l k j := hx'
    have hs := sumN_take (l.map List.length) (j := j) (x := x.length) (by simp [hx])
    have hle := sumN_le (l.map List.length) (j + 1)
    unfold gII at hx''
    rw [hxd] at hx''
    simp only [hs]
    rw [← Nat.add_assoc]
    have hxl := hm x hxm
    have hKb : k + sumN ((l.map List.length).take j) ≤ 1073741824 := by omega
    generalize k + sumN ((l.map List.length).take j) = K at hx'' hKb ⊢
    have hll := rI_len x K
    have he := ev_heldIntS (PK := PK) (rI x K) K (by omega) hKb (rI_held x K)
    rw [hll] at he
    generalize rII l k = L at hlen hx'' ⊢
    have hj2 : j < L.length := by omega
    simp [b96_0, md, hj2, hx'', incr hj hl, he, ci_nn]) (by simp [b96_0, hlen])
  have hfull : (l.map List.length).take l.length = l.map List.length := List.take_of_length_le (by simp)
  simp [p96]
  rw [hsz]
  · simp [b96_0, hlen, hfull]
  · simp
  · simp [sumN]
@[simp] def st39 (l : List (List Int)) (v j : Nat) : St := { n := 21, m := 0, tm := [(0, .im 1 (enc fUU l)), (1, .sc (.int .i64 (ci v))), (5, .sc (.int .i64 j))], ob := [] }
theorem ev_heldByteSS (l : List (List Int)) (k : Nat) (hl : l.length ≤ 1048576) (hs2 : sumN (l.map List.length) ≤ 268435456) (hm : ∀ x ∈ l, x.length ≤ 1048576) (hk : k ≤ 536870912) : semK G PK md 39 [.v (.im 1 (enc fUU (rUU l k))), .v (.sc (.int .i64 (ci k)))] = some ⟨[.v (.sc (.int .i64 (ci (k + sumN (l.map List.length)))))], [], []⟩ := by
  refine semK_of (pf := p39) rfl (by simp [p39]) ?_
  have hlen := rUU_len l k
  have hsz := loop_ok (G := G) (PK := PK) (md := md) (o := 10000000) (live := [0, 1, 5]) (c := b39_0) (fun j => st39 (rUU l k) (k + sumN ((l.map List.length).take j)) j) (l.length) (fun j hj => by
    obtain ⟨x, y1, hx, hx0, hxd, hxm⟩ : ∃ (x : List Int) (hj : j < l.length), l[j]? = some x ∧ l[j] = x ∧ l.getD j [] = x ∧ x ∈ l := ⟨l[j], hj, List.getElem?_eq_getElem hj, rfl, by simp [List.getD_eq_getElem?_getD, hj], List.getElem_mem hj⟩
    obtain ⟨hj', hx'⟩ := rmp_get (gUU l k) l hj
    have hx'' : (rUU l k)[j]'(by rw [hlen]; exact hj) = gUU l k j := hx'
    have hs := sumN_take (l.map List.length) (j := j) (x := x.length) (by simp [hx])
    have hle := sumN_le (l.map List.length) (j + 1)
    unfold gUU at hx''
    rw [hxd] at hx''
    simp only [hs]
    rw [← Nat.add_assoc]
    have hxl := hm x hxm
    have hKb : k + sumN ((l.map List.length).take j) ≤ 1073741824 := by omega
    generalize k + sumN ((l.map List.length).take j) = K at hx'' hKb ⊢
    have hll := rU_len x K
    have he := ev_heldByteS (PK := PK) (rU x K) K (by omega) hKb (rU_held x K)
    rw [hll] at he
    generalize rUU l k = L at hlen hx'' ⊢
    have hj2 : j < L.length := by omega
    simp [b39_0, md, hj2, hx'', incr hj hl, he, ci_nn]) (by simp [b39_0, hlen])
  have hfull : (l.map List.length).take l.length = l.map List.length := List.take_of_length_le (by simp)
  simp [p39]
  rw [hsz]
  · simp [b39_0, hlen, hfull]
  · simp
  · simp [sumN]
@[simp] def st68 (l : List RecD) (v j : Nat) : St := { n := 31, m := 0, tm := [(0, .im 2 (enc fR l)), (1, .sc (.int .i64 (ci v))), (5, .sc (.int .i64 j))], ob := [] }
theorem ev_heldRecS (l : List RecD) (k : Nat) (hl : l.length ≤ 1048576) (hk : k ≤ 1073741824) : semK G PK md 68 [.v (.im 2 (enc fR (rmp (gR l k) l l.length))), .v (.sc (.int .i64 (ci k)))] = some ⟨[.v (.sc (.int .i64 (ci (k + 2 * l.length))))], [], []⟩ := by
  refine semK_of (pf := p68) rfl (by simp [p68]) ?_
  have hlen : (rmp (gR l k) l l.length).length = l.length := by simp
  have hsz := loop_ok (G := G) (PK := PK) (md := md) (o := 10000000) (live := [0, 1, 5]) (c := b68_0) (fun j => st68 (rmp (gR l k) l l.length) (k + 2 * j) j) (l.length) (fun j hj => by
    obtain ⟨hj', hx'⟩ := rmp_get (gR l k) l hj
    have hc := ci_succ (m := k + 2 * j) (by omega)
    have hc2 := ci_succ (m := k + 2 * j + 1) (by omega)
    have hk2 : k + 2 * j + 1 + 1 = k + 2 * (j + 1) := by omega
    generalize rmp (gR l k) l l.length = L at hlen hj' hx' ⊢
    unfold gR mkR at hx'
    simp only [← hk2]
    generalize k + 2 * j = K at hx' hc hc2 hk2 ⊢
    have hj2 : j < L.length := by omega
    simp [b68_0, hj2, hx', incr hj hl, hc, hc2]) (by simp [b68_0])
  simp [p68]
  rw [hsz]
  · simp [b68_0]
  · simp
  · simp
@[simp] def st67 (l : List WireD) (v j : Nat) : St := { n := 40, m := 0, tm := [(0, .im 3 (enc fW l)), (1, .sc (.int .i64 (ci v))), (5, .sc (.int .i64 j))], ob := [] }
theorem ev_heldWireS (l : List WireD) (k : Nat) (hl : l.length ≤ 1048576) (hs2 : szs szW l ≤ 1048576) (hc : sumN (l.map cW) ≤ 268435456) (hk : k ≤ 536870912) : semK G PK md 67 [.v (.im 3 (enc fW (rmp (gW l k) l l.length))), .v (.sc (.int .i64 (ci k)))] = some ⟨[.v (.sc (.int .i64 (ci (k + sumN (l.map cW)))))], [], []⟩ := by
  refine semK_of (pf := p67) rfl (by simp [p67]) ?_
  have hlen : (rmp (gW l k) l l.length).length = l.length := by simp
  have hsz := loop_ok (G := G) (PK := PK) (md := md) (o := 10000000) (live := [0, 1, 5]) (c := b67_0) (fun j => st67 (rmp (gW l k) l l.length) (k + sumN ((l.map cW).take j)) j) (l.length) (fun j hj => by
    obtain ⟨x, y1, hx, hxd, hxm⟩ : ∃ (x : WireD) (hj : j < l.length), l[j]? = some x ∧ l.getD j zW = x ∧ x ∈ l := ⟨l[j], hj, List.getElem?_eq_getElem hj, by simp [List.getD_eq_getElem?_getD, hj], List.getElem_mem hj⟩
    obtain ⟨hj', hx'⟩ := rmp_get (gW l k) l hj
    have hs := sumN_take (l.map cW) (j := j) (x := cW x) (by simp [hx])
    have hle := sumN_le (l.map cW) (j + 1)
    have hm := sumN_mem (List.mem_map_of_mem (f := szW) hxm)
    generalize rmp (gW l k) l l.length = L at hlen hj' hx' ⊢
    unfold gW at hx'
    rw [hxd] at hx'
    simp only [hs]
    rw [← Nat.add_assoc]
    have hKb : k + sumN ((l.map cW).take j) ≤ 1000000000 := by omega
    have hxs : szW x ≤ 1048576 := by unfold szs at hs2; omega
    have hxl : x.bytes.length ≤ 1048576 := hxs
    have hcx : cW x = 2 + x.bytes.length := rfl
    generalize k + sumN ((l.map cW).take j) = K at hx' hKb ⊢
    have h1 := ci_succ (m := K) (by omega)
    have h2 := ci_succ (m := K + 1) (by omega)
    have hll := rU_len x.bytes (K + 2)
    have he := ev_heldByteS (PK := PK) (rU x.bytes (K + 2)) (K + 2) (by omega) (by omega) (rU_held x.bytes (K + 2))
    rw [hll] at he
    have hend : K + cW x = K + 2 + x.bytes.length := by omega
    rw [hend]
    unfold mkW at hx'
    have hj2 : j < L.length := by omega
    rw [show K + 1 + 1 = K + 2 from rfl] at h2
    generalize rU x.bytes (K + 2) = B at he hx'
    generalize K + 2 + x.bytes.length = K3 at he ⊢
    generalize K + 2 = K2 at he h2
    simp [b67_0, md, hj2, hx', incr hj hl, h1, h2, he, ci_nn]) (by simp [b67_0])
  have hfull : (l.map cW).take l.length = l.map cW := List.take_of_length_le (by simp)
  simp [p67]
  rw [hsz]
  · simp [b67_0, hfull]
  · simp
  · simp [sumN]
@[simp] def st66 (l : List NodeD) (v j : Nat) : St := { n := 175, m := 0, tm := [(0, .im 16 (enc fN l)), (1, .sc (.int .i64 (ci v))), (5, .sc (.int .i64 j))], ob := [] }
theorem ev_heldNodeS (l : List NodeD) (k : Nat) (hl : l.length ≤ 1048576) (hs2 : szs szN l ≤ 1048576) (hc : sumN (l.map cN) ≤ 268435456) (hk : k ≤ 268435456) : semK G PK md 66 [.v (.im 16 (enc fN (rmp (gN l k) l l.length))), .v (.sc (.int .i64 (ci k)))] = some ⟨[.v (.sc (.int .i64 (ci (k + sumN (l.map cN)))))], [], []⟩ := by
  refine semK_of (pf := p66) rfl (by simp [p66]) ?_
  have hlen : (rmp (gN l k) l l.length).length = l.length := by simp
  have hsz := loop_ok (G := G) (PK := PK) (md := md) (o := 10000000) (live := [0, 1, 5]) (c := b66_0) (fun j => st66 (rmp (gN l k) l l.length) (k + sumN ((l.map cN).take j)) j) (l.length) (fun j hj => by
    obtain ⟨x, y1, hx, hxd, hxm⟩ : ∃ (x : NodeD) (hj : j < l.length), l[j]? = some x ∧ l.getD j zN = x ∧ x ∈ l := ⟨l[j], hj, List.getElem?_eq_getElem hj, by simp [List.getD_eq_getElem?_getD, hj], List.getElem_mem hj⟩
    obtain ⟨hj', hx'⟩ := rmp_get (gN l k) l hj
    have hs := sumN_take (l.map cN) (j := j) (x := cN x) (by simp [hx])
    have hle := sumN_le (l.map cN) (j + 1)
    have hm := sumN_mem (List.mem_map_of_mem (f := szN) hxm)
    obtain ⟨q1, q2, q3, q4, q5, q6, q7, q8, q9, q10, q11⟩ := szN_parts x (by unfold szs at hs2; omega)
    have hcx : cN x = 1 + 1 + 1 + x.image.length + x.mt.gens.length + sumN (x.mt.bits.map List.length) + 1 + 1 + 1 + 1 + x.sl.a.length + x.sl.b.length + x.conn.length + sumN (x.sync.map List.length) + x.copies.length + x.wait.length := rfl
    have hb5 : ∀ y ∈ x.mt.bits, y.length ≤ 1048576 := fun y hy => Nat.le_trans (sumN_mem (List.mem_map_of_mem (f := List.length) hy)) q4
    have hb13 : ∀ y ∈ x.sync, y.length ≤ 1048576 := fun y hy => Nat.le_trans (sumN_mem (List.mem_map_of_mem (f := List.length) hy)) q9
    generalize rmp (gN l k) l l.length = L at hlen hj' hx' ⊢
    unfold gN at hx'
    rw [hxd] at hx'
    simp only [hs]
    rw [← Nat.add_assoc]
    have hKb : k + sumN ((l.map cN).take j) ≤ 536870912 - cN x := by omega
    generalize k + sumN ((l.map cN).take j) = K0 at hx' hKb ⊢
    have hj2 : j < L.length := by omega
    unfold mkN at hx'
    obtain ⟨K1, w1⟩ : ∃ K, K = K0 + 1 := ⟨_, rfl⟩
    obtain ⟨K2, w2⟩ : ∃ K, K = K1 + 1 := ⟨_, rfl⟩
    obtain ⟨K3, w3⟩ : ∃ K, K = K2 + 1 := ⟨_, rfl⟩
    obtain ⟨K4, w4⟩ : ∃ K, K = K3 + x.image.length := ⟨_, rfl⟩
    obtain ⟨K5, w5⟩ : ∃ K, K = K4 + x.mt.gens.length := ⟨_, rfl⟩
    obtain ⟨K6, w6⟩ : ∃ K, K = K5 + sumN (x.mt.bits.map List.length) := ⟨_, rfl⟩
    obtain ⟨K7, w7⟩ : ∃ K, K = K6 + 1 := ⟨_, rfl⟩
    obtain ⟨K8, w8⟩ : ∃ K, K = K7 + 1 := ⟨_, rfl⟩
    obtain ⟨K9, w9⟩ : ∃ K, K = K8 + 1 := ⟨_, rfl⟩
    obtain ⟨K10, w10⟩ : ∃ K, K = K9 + 1 := ⟨_, rfl⟩
    obtain ⟨K11, w11⟩ : ∃ K, K = K10 + x.sl.a.length := ⟨_, rfl⟩
    obtain ⟨K12, w12⟩ : ∃ K, K = K11 + x.sl.b.length := ⟨_, rfl⟩
    obtain ⟨K13, w13⟩ : ∃ K, K = K12 + x.conn.length := ⟨_, rfl⟩
    obtain ⟨K14, w14⟩ : ∃ K, K = K13 + sumN (x.sync.map List.length) := ⟨_, rfl⟩
    obtain ⟨K15, w15⟩ : ∃ K, K = K14 + x.copies.length := ⟨_, rfl⟩
    obtain ⟨K16, w16⟩ : ∃ K, K = K15 + x.wait.length := ⟨_, rfl⟩
    have hend : K0 + cN x = K16 := by omega
    rw [hend]
    simp only [← w1] at hx'
    simp only [← w2] at hx'
    simp only [← w3] at hx'
    simp only [← w4] at hx'
    simp only [← w5] at hx'
    simp only [← w6] at hx'
    simp only [← w7] at hx'
    simp only [← w8] at hx'
    simp only [← w9] at hx'
    simp only [← w10] at hx'
    simp only [← w11] at hx'
    simp only [← w12] at hx'
    simp only [← w13] at hx'
    simp only [← w14] at hx'
    simp only [← w15] at hx'
    have c0 := ci_succ (m := K0) (by omega)
    rw [← w1] at c0
    have c1 := ci_succ (m := K1) (by omega)
    rw [← w2] at c1
    have c2 := ci_succ (m := K2) (by omega)
    rw [← w3] at c2
    have c6 := ci_succ (m := K6) (by omega)
    rw [← w7] at c6
    have c7 := ci_succ (m := K7) (by omega)
    rw [← w8] at c7
    have c8 := ci_succ (m := K8) (by omega)
    rw [← w9] at c8
    have c9 := ci_succ (m := K9) (by omega)
    rw [← w10] at c9
    have l3 := rI_len x.image K3
    have e3 := ev_heldIntS (PK := PK) (rI x.image K3) K3 (by omega) (by omega) (rI_held x.image K3)
    rw [l3, ← w4] at e3
    have l4 := rI_len x.mt.gens K4
    have e4 := ev_heldIntS (PK := PK) (rI x.mt.gens K4) K4 (by omega) (by omega) (rI_held x.mt.gens K4)
    rw [l4, ← w5] at e4
    have e5 := ev_heldIntSS (PK := PK) x.mt.bits K5 (by omega) (by omega) hb5 (by omega)
    rw [← w6] at e5
    have l10 := rU_len x.sl.a K10
    have e10 := ev_heldByteS (PK := PK) (rU x.sl.a K10) K10 (by omega) (by omega) (rU_held x.sl.a K10)
    rw [l10, ← w11] at e10
    have l11 := rU_len x.sl.b K11
    have e11 := ev_heldByteS (PK := PK) (rU x.sl.b K11) K11 (by omega) (by omega) (rU_held x.sl.b K11)
    rw [l11, ← w12] at e11
    have e12 := ev_heldBoolS (PK := PK) x.conn K12 (by omega) (by omega)
    rw [← w13] at e12
    have e13 := ev_heldIntSS (PK := PK) x.sync K13 (by omega) (by omega) hb13 (by omega)
    rw [← w14] at e13
    have e14 := ev_heldBoolS (PK := PK) x.copies K14 (by omega) (by omega)
    rw [← w15] at e14
    have l15 := rI_len x.wait K15
    have e15 := ev_heldIntS (PK := PK) (rI x.wait K15) K15 (by omega) (by omega) (rI_held x.wait K15)
    rw [l15, ← w16] at e15
    unfold mkNat at hx'
    clear w1 w2 w3 w4 w5 w6 w7 w8 w9 w10 w11 w12 w13 w14 w15 w16
    simp [b66_0, md, hj2, hx', incr hj hl, c0, c1, c2, c6, c7, c8, c9, e3, e4, e5, e10, e11, e12, e13, e14, e15, ci_nn]) (by simp [b66_0])
  have hfull : (l.map cN).take l.length = l.map cN := List.take_of_length_le (by simp)
  simp [p66]
  rw [hsz]
  · simp [b66_0, hfull]
  · simp
  · simp [sumN]
/-- A world, marked. -/
def mWo (w : WorldD) (k : Nat) : WorldD := ⟨rmp (gN w.nodes k) w.nodes w.nodes.length, rmp (gW w.net (k + sumN (w.nodes.map cN))) w.net w.net.length, rmp (gR w.log (k + sumN (w.nodes.map cN) + sumN (w.net.map cW))) w.log w.log.length, rI w.safe (k + sumN (w.nodes.map cN) + sumN (w.net.map cW) + 2 * w.log.length), w.gen⟩
theorem cWo_le (w : WorldD) (h : szWo w ≤ 1048576) : cWo w ≤ 33554432 := by
  unfold szWo szs at h
  have s1 := sum_le2 cN szN cN_le w.nodes
  have s2 := sum_le2 cW szW cW_le w.net
  unfold cWo
  omega
theorem ev_heldWorld (w : WorldD) (k : Nat) (hw : szWo w ≤ 1048576) (hk : k ≤ 1048576) : semK G PK md 38 [.a (lents (fWo (mWo w k))), .v (.sc (.int .i64 (ci k)))] = some ⟨[.v (.sc (.int .i64 (ci (k + cWo w))))], [], []⟩ := by
  refine semK_of (pf := p38) rfl (by simp [p38]) ?_
  have hcw := cWo_le w hw
  have hw0 := hw
  unfold szWo szs at hw
  unfold cWo at hcw
  have e1 := ev_heldNodeS (PK := PK) w.nodes k (by omega) (by unfold szs; omega) (by omega) (by omega)
  have e2 := ev_heldWireS (PK := PK) w.net (k + sumN (w.nodes.map cN)) (by omega) (by unfold szs; omega) (by omega) (by omega)
  have e3 := ev_heldRecS (PK := PK) w.log (k + sumN (w.nodes.map cN) + sumN (w.net.map cW)) (by omega) (by omega)
  have l4 := rI_len w.safe (k + sumN (w.nodes.map cN) + sumN (w.net.map cW) + 2 * w.log.length)
  have e4 := ev_heldIntS (PK := PK) (rI w.safe (k + sumN (w.nodes.map cN) + sumN (w.net.map cW) + 2 * w.log.length)) (k + sumN (w.nodes.map cN) + sumN (w.net.map cW) + 2 * w.log.length) (by omega) (by omega) (rI_held _ _)
  rw [l4] at e4
  have hend : k + cWo w = k + sumN (w.nodes.map cN) + sumN (w.net.map cW) + 2 * w.log.length + w.safe.length := by unfold cWo; omega
  rw [hend]
  unfold mWo
  generalize k + sumN (w.nodes.map cN) = K1 at e1 e2 e3 e4 ⊢
  generalize K1 + sumN (w.net.map cW) = K2 at e2 e3 e4 ⊢
  generalize K2 + 2 * w.log.length = K3 at e3 e4 ⊢
  simp [p38, md, e1, e2, e3, e4, ci_nn]
theorem szs_mem {α : Type} {f : α → Nat} {l : List α} {B : Nat} (h : szs f l ≤ B) : l.length ≤ B ∧ ∀ x ∈ l, f x ≤ B := by
  unfold szs at h
  refine ⟨by omega, fun x hx => ?_⟩
  have := sumN_mem (l := l.map f) (List.mem_map.2 ⟨x, hx, rfl⟩)
  omega
theorem ev_heldStore (s : StoreD) (k : Nat) (hs : szSt s ≤ 1048576) (hk : k ≤ 1048576) : semK G PK md 14 [.a (lents (fSt ⟨mWo s.w k, rUU s.blocks (k + cWo s.w)⟩)), .v (.sc (.int .i64 (ci k)))] = some ⟨[.v (.sc (.int .i64 (ci (k + cSt s))))], [], []⟩ := by
  refine semK_of (pf := p14) rfl (by simp [p14]) ?_
  unfold szSt at hs
  have hcw := cWo_le s.w (by omega)
  have hb := szs_mem (f := List.length) (l := s.blocks) (B := 1048576) (by omega)
  have e1 := ev_heldWorld (PK := PK) s.w k (by omega) hk
  unfold szs at hs
  have e2 := ev_heldByteSS (PK := PK) s.blocks (k + cWo s.w) (by omega) (by omega) hb.2 (by omega)
  simp only [lents, lent, fWo] at e1
  have hend : k + cSt s = k + cWo s.w + sumN (s.blocks.map List.length) := by unfold cSt; omega
  rw [hend]
  generalize k + cWo s.w = K1 at e1 e2 ⊢
  simp [p14, md, e1, e2, ci_nn]
end Go.Proofs.Ytijlnmofehekdaa.Ow
