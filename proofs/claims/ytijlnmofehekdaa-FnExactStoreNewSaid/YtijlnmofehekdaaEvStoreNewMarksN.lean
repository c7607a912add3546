/- Marks of nodes, worlds, moments; whether they are held: evaluated. -/
import Derived.Test.YtijlnmofehekdaaEvStoreNewMarksR
namespace Go.Proofs.Ytijlnmofehekdaa.Ow
open Go
set_option linter.unusedVariables false
set_option linter.unusedSimpArgs false
variable {PK : Nat → List Arg → Option Res}
def mkNat (x : NodeD) (K0 K1 K2 K3 K4 K5 K6 K7 K8 K9 K10 K11 K12 K13 K14 K15 : Nat) : NodeD := ⟨ci K0, (ci K1).tmod 3 == 0, (ci K2).tmod 3 == 0, rI x.image K3, ⟨rI x.mt.gens K4, rII x.mt.bits K5, (ci K6).tmod 3 == 0, (ci K7).tmod 3 == 0, (ci K8).tmod 3 == 0, ci K9⟩, ⟨rU x.sl.a K10, rU x.sl.b K11⟩, rL x.conn K12, rII x.sync K13, rL x.copies K14, rI x.wait K15⟩
def mkN (x : NodeD) (k : Nat) : NodeD :=
  let K1 := k + 1
  let K2 := K1 + 1
  let K3 := K2 + 1
  let K4 := K3 + x.image.length
  let K5 := K4 + x.mt.gens.length
  let K6 := K5 + sumN (x.mt.bits.map List.length)
  let K7 := K6 + 1
  let K8 := K7 + 1
  let K9 := K8 + 1
  let K10 := K9 + 1
  let K11 := K10 + x.sl.a.length
  let K12 := K11 + x.sl.b.length
  let K13 := K12 + x.conn.length
  let K14 := K13 + sumN (x.sync.map List.length)
  let K15 := K14 + x.copies.length
  mkNat x k K1 K2 K3 K4 K5 K6 K7 K8 K9 K10 K11 K12 K13 K14 K15
def cN (x : NodeD) : Nat := 1 + 1 + 1 + x.image.length + x.mt.gens.length + sumN (x.mt.bits.map List.length) + 1 + 1 + 1 + 1 + x.sl.a.length + x.sl.b.length + x.conn.length + sumN (x.sync.map List.length) + x.copies.length + x.wait.length
def gN (l : List NodeD) (k j : Nat) : NodeD := mkN (l.getD j zN) (k + sumN ((l.map cN).take j))
@[simp] def st61 (l : List NodeD) (k j : Nat) : St := { n := 143, m := 1, tm := [(0, .ref 0 []), (1, .sc (.int .i64 (ci (k + sumN ((l.map cN).take j))))), (5, .sc (.int .i64 j))], ob := [(0, .arr 16 (enc fN (rmp (gN l k) l j)))] }
theorem szN_parts (x : NodeD) (h : szN x ≤ 1048576) : x.image.length ≤ 1048576 ∧ x.mt.gens.length ≤ 1048576 ∧ x.mt.bits.length ≤ 1048576 ∧ sumN (x.mt.bits.map List.length) ≤ 1048576 ∧ x.sl.a.length ≤ 1048576 ∧ x.sl.b.length ≤ 1048576 ∧ x.conn.length ≤ 1048576 ∧
    x.sync.length ≤ 1048576 ∧ sumN (x.sync.map List.length) ≤ 1048576 ∧ x.copies.length ≤ 1048576 ∧ x.wait.length ≤ 1048576 := by
  unfold szN szM szSl szs at h
  omega
theorem ev_markNodeS (l : List NodeD) (k : Nat) (hl : l.length ≤ 1048576) (hs2 : szs szN l ≤ 1048576) (hk : k ≤ 72057594037927936) (hc : sumN (l.map cN) ≤ 1073741824) :
    semK G PK md 61 [.v (.own 16 (enc fN l)), .v (.sc (.int .i64 (ci k)))] = some ⟨[.v (.sc (.int .i64 (ci (k + sumN (l.map cN)))))], [some (enc fN (rmp (gN l k) l l.length))], []⟩ := by
  refine semK_of (pf := p61) rfl (by simp [p61]) ?_
  have hstep : ∀ j, j < l.length → ∃ s', exec (semK G PK md) (semL G PK md) md b61_0 (st61 l k j) = some (.normal, s') ∧ s'.m ≤ 10000000 ∧ canon 10000000 [0, 1, 5] s' = st61 l k (j + 1) := fun j hlt => by
    obtain ⟨x, hx⟩ := getElem?_of_lt hlt
    obtain ⟨_, hx'⟩ := at_of hx
    have hs := sumN_take (l.map cN) (j := j) (x := cN x) (by simp [hx])
    have hle := sumN_le (l.map cN) (j + 1)
    have hm := sumN_mem (List.mem_map_of_mem (f := szN) (List.mem_of_getElem? hx))
    obtain ⟨q1, q2, q3, q4, q5, q6, q7, q8, q9, q10, q11⟩ := szN_parts x (by unfold szs at hs2; omega)
    have hcx : cN x = 1 + 1 + 1 + x.image.length + x.mt.gens.length + sumN (x.mt.bits.map List.length) + 1 + 1 + 1 + 1 + x.sl.a.length + x.sl.b.length + x.conn.length + sumN (x.sync.map List.length) + x.copies.length + x.wait.length := rfl
    have hset := rmp_set (gN l k) l j
    have hes := enc_set fN (rmp (gN l k) l j) j (gN l k j)
    rw [hset] at hes
    generalize hS : k + sumN ((l.map cN).take j) = K0 at hs
    obtain ⟨K1, w1⟩ : ∃ K, K = K0 + 1 := ⟨_, rfl⟩
    obtain ⟨K2, w2⟩ : ∃ K, K = K1 + 1 := ⟨_, rfl⟩
    obtain ⟨K3, w3⟩ : ∃ K, K = K2 + 1 := ⟨_, rfl⟩
    obtain ⟨K4, w4⟩ : ∃ K, K = K3 + x.image.length := ⟨_, rfl⟩
    obtain ⟨K5, w5⟩ : ∃ K, K = K4 + x.mt.gens.length := ⟨_, rfl⟩
    obtain ⟨K6, w6⟩ : ∃ K, K = K5 + sumN (x.mt.bits.map List.length) := ⟨_, rfl⟩
    obtain ⟨K7, w7⟩ : ∃ K, K = K6 + 1 := ⟨_, rfl⟩
    obtain ⟨K8, w8⟩ : ∃ K, K = K7 + 1 := ⟨_, rfl⟩
    obtain ⟨K9, w9⟩ : ∃ K, K = K8 + 1 := ⟨_, rfl⟩
    obtain ⟨K10, w10⟩ : ∃ K, K = K9 + 1 := ⟨_, rfl⟩
    obtain ⟨K11, w11⟩ : ∃ K, K = K10 + x.sl.a.length := ⟨_, rfl⟩
    obtain ⟨K12, w12⟩ : ∃ K, K = K11 + x.sl.b.length := ⟨_, rfl⟩
    obtain ⟨K13, w13⟩ : ∃ K, K = K12 + x.conn.length := ⟨_, rfl⟩
    obtain ⟨K14, w14⟩ : ∃ K, K = K13 + sumN (x.sync.map List.length) := ⟨_, rfl⟩
    obtain ⟨K15, w15⟩ : ∃ K, K = K14 + x.copies.length := ⟨_, rfl⟩
    obtain ⟨K16, w16⟩ : ∃ K, K = K15 + x.wait.length := ⟨_, rfl⟩
    have hg : gN l k j = mkNat x K0 K1 K2 K3 K4 K5 K6 K7 K8 K9 K10 K11 K12 K13 K14 K15 := by
      unfold gN
      rw [hS, List.getD_eq_getElem?_getD, hx]
      subst w1 w2 w3 w4 w5 w6 w7 w8 w9 w10 w11 w12 w13 w14 w15
      rfl
    simp only [fN] at hes
    rw [hg] at hes
    simp only [mkNat] at hes
    have hat := rmp_at (gN l k) l hlt
    rw [hx'] at hat
    have c0 : IntKind.wrap .i64 (ci K0 + 1) = ci K1 := by rw [w1]; exact ci_succ (by omega)
    have c1 : IntKind.wrap .i64 (ci K1 + 1) = ci K2 := by rw [w2]; exact ci_succ (by omega)
    have c2 : IntKind.wrap .i64 (ci K2 + 1) = ci K3 := by rw [w3]; exact ci_succ (by omega)
    have e3 : semK G PK md 64 [.v (.own 1 (enc fI x.image)), .v (.sc (.int .i64 (ci K3)))] = some ⟨[.v (.sc (.int .i64 (ci K4)))], [some (enc fI (rI x.image K3))], []⟩ := by rw [w4]; exact ev_markIntS x.image K3 q1 (by omega)
    have e4 : semK G PK md 64 [.v (.own 1 (enc fI x.mt.gens)), .v (.sc (.int .i64 (ci K4)))] = some ⟨[.v (.sc (.int .i64 (ci K5)))], [some (enc fI (rI x.mt.gens K4))], []⟩ := by rw [w5]; exact ev_markIntS x.mt.gens K4 q2 (by omega)
    have e5 : semK G PK md 94 [.v (.own 1 (enc fII x.mt.bits)), .v (.sc (.int .i64 (ci K5)))] = some ⟨[.v (.sc (.int .i64 (ci K6)))], [some (enc fII (rII x.mt.bits K5))], []⟩ := by rw [w6]; exact ev_markIntSS x.mt.bits K5 q3 q4 (by omega)
    have c6 : IntKind.wrap .i64 (ci K6 + 1) = ci K7 := by rw [w7]; exact ci_succ (by omega)
    have c7 : IntKind.wrap .i64 (ci K7 + 1) = ci K8 := by rw [w8]; exact ci_succ (by omega)
    have c8 : IntKind.wrap .i64 (ci K8 + 1) = ci K9 := by rw [w9]; exact ci_succ (by omega)
    have c9 : IntKind.wrap .i64 (ci K9 + 1) = ci K10 := by rw [w10]; exact ci_succ (by omega)
    have e10 : semK G PK md 65 [.v (.own 1 (enc fU x.sl.a)), .v (.sc (.int .i64 (ci K10)))] = some ⟨[.v (.sc (.int .i64 (ci K11)))], [some (enc fU (rU x.sl.a K10))], []⟩ := by rw [w11]; exact ev_markByteS x.sl.a K10 q5 (by omega)
    have e11 : semK G PK md 65 [.v (.own 1 (enc fU x.sl.b)), .v (.sc (.int .i64 (ci K11)))] = some ⟨[.v (.sc (.int .i64 (ci K12)))], [some (enc fU (rU x.sl.b K11))], []⟩ := by rw [w12]; exact ev_markByteS x.sl.b K11 q6 (by omega)
    have e12 : semK G PK md 95 [.v (.own 1 (enc fL x.conn)), .v (.sc (.int .i64 (ci K12)))] = some ⟨[.v (.sc (.int .i64 (ci K13)))], [some (enc fL (rL x.conn K12))], []⟩ := by rw [w13]; exact ev_markBoolS x.conn K12 q7 (by omega)
    have e13 : semK G PK md 94 [.v (.own 1 (enc fII x.sync)), .v (.sc (.int .i64 (ci K13)))] = some ⟨[.v (.sc (.int .i64 (ci K14)))], [some (enc fII (rII x.sync K13))], []⟩ := by rw [w14]; exact ev_markIntSS x.sync K13 q8 q9 (by omega)
    have e14 : semK G PK md 95 [.v (.own 1 (enc fL x.copies)), .v (.sc (.int .i64 (ci K14)))] = some ⟨[.v (.sc (.int .i64 (ci K15)))], [some (enc fL (rL x.copies K14))], []⟩ := by rw [w15]; exact ev_markBoolS x.copies K14 q10 (by omega)
    have e15 : semK G PK md 64 [.v (.own 1 (enc fI x.wait)), .v (.sc (.int .i64 (ci K15)))] = some ⟨[.v (.sc (.int .i64 (ci K16)))], [some (enc fI (rI x.wait K15))], []⟩ := by rw [w16]; exact ev_markIntS x.wait K15 q11 (by omega)
    have hfin : k + sumN ((l.map cN).take (j + 1)) = K16 := by omega
    clear w1 w2 w3 w4 w5 w6 w7 w8 w9 w10 w11 w12 w13 w14 w15 w16 hs hle hm hcx hset hg
    simp [b61_0, md, hlt, incr hlt hl, hat, hS, hes, hfin, c0, c1, c2, e3, e4, e5, c6, c7, c8, c9, e10, e11, e12, e13, e14, e15]
  have hsz := loop_ok (G := G) (PK := PK) (md := md) (o := 10000000) (live := [0, 1, 5]) (c := b61_0) (st61 l k) l.length hstep (by simp [b61_0])
  have h0 : rmp (gN l k) l 0 = l := rfl
  have ht : (l.map cN).take l.length = l.map cN := by rw [← List.length_map (f := cN)]; exact List.take_length
  simp [p61]
  rw [hsz]
  · simp [b61_0, ht]
  · simp
  · simp [h0, sumN]
end Go.Proofs.Ytijlnmofehekdaa.Ow
