/- Marks of rows of structs: evaluated. -/
import Derived.Test.YtijlnmofehekdaaEvStoreNewMarks
namespace Go.Proofs.Ytijlnmofehekdaa.Ow
open Go
set_option linter.unusedVariables false
set_option linter.unusedSimpArgs false
variable {PK : Nat → List Arg → Option Res}
theorem b3_eq (m : Nat) : gB3 m 0 = ((ci m).tmod 3 == 0) := rfl
/-! ### Writes -/
def mkR (x : RecD) (k : Nat) : RecD := ⟨ci k, ci (k + 1)⟩
def gR (l : List RecD) (k j : Nat) : RecD := mkR (l.getD j zR) (k + 2 * j)
@[simp] def st63 (l : List RecD) (k j : Nat) : St := { n := 27, m := 1, tm := [(0, .ref 0 []), (1, .sc (.int .i64 (ci (k + 2 * j)))), (5, .sc (.int .i64 j))], ob := [(0, .arr 2 (enc fR (rmp (gR l k) l j)))] }
theorem ev_markRecS (l : List RecD) (k : Nat) (hl : l.length ≤ 1048576) (hk : k ≤ 288230376151711744) :
    semK G PK md 63 [.v (.own 2 (enc fR l)), .v (.sc (.int .i64 (ci k)))] = some ⟨[.v (.sc (.int .i64 (ci (k + 2 * l.length))))], [some (enc fR (rmp (gR l k) l l.length))], []⟩ := by
  refine semK_of (pf := p63) rfl (by simp [p63]) ?_
  have hstep : ∀ j, j < l.length → ∃ s', exec (semK G PK md) (semL G PK md) md b63_0 (st63 l k j) = some (.normal, s') ∧ s'.m ≤ 10000000 ∧ canon 10000000 [0, 1, 5] s' = st63 l k (j + 1) := fun j hlt => by
    obtain ⟨x, hx⟩ := getElem?_of_lt hlt
    obtain ⟨_, hx'⟩ := at_of hx
    have hset := rmp_set (gR l k) l j
    have hg : gR l k j = ⟨ci (k + 2 * j), ci (k + 2 * j + 1)⟩ := by unfold gR mkR; rfl
    have hes := enc_set fR (rmp (gR l k) l j) j (gR l k j)
    rw [hset] at hes
    simp only [fR] at hes
    rw [hg] at hes
    have hat := rmp_at (gR l k) l hlt
    generalize hK : k + 2 * j = K at hes
    have h1 := ci_succ (m := K) (by omega)
    generalize hK1 : K + 1 = K1 at h1 hes
    have h2 := ci_succ (m := K1) (by omega)
    have hfin : k + 2 * (j + 1) = K1 + 1 := by omega
    simp [b63_0, hlt, incr hlt hl, hat, hK, hes, h1, h2, hfin]
  have hsz := loop_ok (G := G) (PK := PK) (md := md) (o := 10000000) (live := [0, 1, 5]) (c := b63_0) (st63 l k) l.length hstep (by simp [b63_0])
  have h0 : rmp (gR l k) l 0 = l := rfl
  simp [p63]
  rw [hsz]
  · simp [b63_0]
  · simp
  · simp [h0]
/-! ### Wires -/
def cW (x : WireD) : Nat := 2 + x.bytes.length
def mkW (x : WireD) (k : Nat) : WireD := ⟨ci k, ci (k + 1), rU x.bytes (k + 2)⟩
def gW (l : List WireD) (k j : Nat) : WireD := mkW (l.getD j zW) (k + sumN ((l.map cW).take j))
@[simp] def st62 (l : List WireD) (k j : Nat) : St := { n := 34, m := 1, tm := [(0, .ref 0 []), (1, .sc (.int .i64 (ci (k + sumN ((l.map cW).take j))))), (5, .sc (.int .i64 j))], ob := [(0, .arr 3 (enc fW (rmp (gW l k) l j)))] }
theorem ev_markWireS (l : List WireD) (k : Nat) (hl : l.length ≤ 1048576) (hs2 : szs szW l ≤ 1048576) (hk : k ≤ 288230376151711744) (hc : sumN (l.map cW) ≤ 1073741824) :
    semK G PK md 62 [.v (.own 3 (enc fW l)), .v (.sc (.int .i64 (ci k)))] = some ⟨[.v (.sc (.int .i64 (ci (k + sumN (l.map cW)))))], [some (enc fW (rmp (gW l k) l l.length))], []⟩ := by
  refine semK_of (pf := p62) rfl (by simp [p62]) ?_
  have hstep : ∀ j, j < l.length → ∃ s', exec (semK G PK md) (semL G PK md) md b62_0 (st62 l k j) = some (.normal, s') ∧ s'.m ≤ 10000000 ∧ canon 10000000 [0, 1, 5] s' = st62 l k (j + 1) := fun j hlt => by
    obtain ⟨x, hx⟩ := getElem?_of_lt hlt
    obtain ⟨_, hx'⟩ := at_of hx
    have hs := sumN_take (l.map cW) (j := j) (x := cW x) (by simp [hx])
    have hle := sumN_le (l.map cW) (j + 1)
    have hm := sumN_mem (List.mem_map_of_mem (f := szW) (List.mem_of_getElem? hx))
    have hm' : x.bytes.length ≤ sumN (l.map szW) := hm
    have hxl : x.bytes.length ≤ 1048576 := by unfold szs at hs2; omega
    have hcx : cW x = 2 + x.bytes.length := rfl
    have hset := rmp_set (gW l k) l j
    have hes := enc_set fW (rmp (gW l k) l j) j (gW l k j)
    rw [hset] at hes
    generalize hS : k + sumN ((l.map cW).take j) = K at hs
    have hg : gW l k j = ⟨ci K, ci (K + 1), rU x.bytes (K + 2)⟩ := by unfold gW mkW; rw [hS, List.getD_eq_getElem?_getD, hx]; rfl
    simp only [fW] at hes
    rw [hg] at hes
    have hat := rmp_at (gW l k) l hlt
    rw [hx'] at hat
    have h1 := ci_succ (m := K) (by omega)
    generalize hK1 : K + 1 = K1 at h1 hes
    have h2 := ci_succ (m := K1) (by omega)
    have hK2' : K + 2 = K1 + 1 := by omega
    rw [hK2'] at hes
    generalize hK2 : K1 + 1 = K2 at h2 hes
    have he := ev_markByteS (PK := PK) x.bytes K2 hxl (by omega)
    have hru : rmp (gU8 K2) x.bytes x.bytes.length = rU x.bytes K2 := rfl
    rw [hru] at he
    have hfin : k + sumN ((l.map cW).take (j + 1)) = K2 + x.bytes.length := by omega
    simp [b62_0, md, hlt, incr hlt hl, hat, hS, hes, h1, h2, he, hfin]
  have hsz := loop_ok (G := G) (PK := PK) (md := md) (o := 10000000) (live := [0, 1, 5]) (c := b62_0) (st62 l k) l.length hstep (by simp [b62_0])
  have h0 : rmp (gW l k) l 0 = l := rfl
  have ht : (l.map cW).take l.length = l.map cW := by rw [← List.length_map (f := cW)]; exact List.take_length
  simp [p62]
  rw [hsz]
  · simp [b62_0, ht]
  · simp
  · simp [h0, sumN]
end Go.Proofs.Ytijlnmofehekdaa.Ow
