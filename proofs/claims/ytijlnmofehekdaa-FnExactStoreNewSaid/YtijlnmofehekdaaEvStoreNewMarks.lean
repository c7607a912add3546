/- Marks, and whether they are held: evaluated. -/
import Derived.Test.YtijlnmofehekdaaEvStoreNewNewW
namespace Go.Proofs.Ytijlnmofehekdaa.Ow
open Go
set_option linter.unusedVariables false
set_option linter.unusedSimpArgs false
variable {PK : Nat → List Arg → Option Res}
/-- A count as a whole number. -/
def ci (m : Nat) : Int := (m : Int)
theorem ci_succ {m : Nat} (h : m ≤ 1152921504606846976) : IntKind.wrap .i64 (ci m + 1) = ci (m + 1) := by unfold ci; rw [wrap_id (by omega) (by omega)]; rfl
/-- The first j are replaced. -/
def rmp {α : Type} (g : Nat → α) (l : List α) : Nat → List α
  | 0 => l
  | j + 1 => (rmp g l j).set j (g j)
@[simp] theorem rmp_len {α : Type} (g : Nat → α) (l : List α) : ∀ j, (rmp g l j).length = l.length
  | 0 => rfl
  | j + 1 => by simp [rmp, rmp_len g l j]
theorem rmp_lt {α : Type} (g : Nat → α) (l : List α) : ∀ j p, p < j → p < l.length → (rmp g l j)[p]? = some (g p)
  | 0, p, h, _ => absurd h (by omega)
  | j + 1, p, h, hp => by
    simp only [rmp, List.getElem?_set]
    by_cases h1 : j = p
    · subst h1
      simp [hp]
    · rw [if_neg h1]
      exact rmp_lt g l j p (by omega) hp
theorem rmp_ge {α : Type} (g : Nat → α) (l : List α) : ∀ j p, j ≤ p → (rmp g l j)[p]? = l[p]?
  | 0, p, _ => rfl
  | j + 1, p, h => by
    simp only [rmp, List.getElem?_set]
    rw [if_neg (by omega)]
    exact rmp_ge g l j p (by omega)
theorem rmp_at {α : Type} (g : Nat → α) (l : List α) {j : Nat} (h : j < l.length) : (rmp g l j)[j]'(by simpa using h) = l[j] := by
  have := rmp_ge g l j j (Nat.le_refl _)
  rw [List.getElem?_eq_getElem (by simpa using h), List.getElem?_eq_getElem h] at this
  exact Option.some.inj this
theorem rmp_set {α : Type} (g : Nat → α) (l : List α) (j : Nat) : (rmp g l j).set j (g j) = rmp g l (j + 1) := rfl
@[simp] def st64 (l : List Int) (k j : Nat) : St := { n := 19, m := 1, tm := [(0, .ref 0 []), (1, .sc (.int .i64 (ci (k + j)))), (5, .sc (.int .i64 j))], ob := [(0, .arr 1 (enc fI (rmp (fun i => ci (k + i)) l j)))] }
theorem ev_markIntS (l : List Int) (k : Nat) (hl : l.length ≤ 1048576) (hk : k ≤ 576460752303423488) :
    semK G PK md 64 [.v (.own 1 (enc fI l)), .v (.sc (.int .i64 (ci k)))] = some ⟨[.v (.sc (.int .i64 (ci (k + l.length))))], [some (enc fI (rmp (fun i => ci (k + i)) l l.length))], []⟩ := by
  refine semK_of (pf := p64) rfl (by simp [p64]) ?_
  have hstep : ∀ j, j < l.length → ∃ s', exec (semK G PK md) (semL G PK md) md b64_0 (st64 l k j) = some (.normal, s') ∧ s'.m ≤ 10000000 ∧ canon 10000000 [0, 1, 5] s' = st64 l k (j + 1) := fun j hlt => by
    have hc := ci_succ (m := k + j) (by omega)
    have hset := rmp_set (fun i => ci (k + i)) l j
    have hes := enc_set fI (rmp (fun i => ci (k + i)) l j) j (ci (k + j))
    simp only [fI] at hes
    have hk2 : k + j + 1 = k + (j + 1) := rfl
    simp [b64_0, hlt, incr hlt hl, hc, hes, hset, hk2]
  have hsz := loop_ok (G := G) (PK := PK) (md := md) (o := 10000000) (live := [0, 1, 5]) (c := b64_0) (st64 l k) l.length hstep (by simp [b64_0])
  have h0 : rmp (fun i => ci (k + i)) l 0 = l := rfl
  simp [p64]
  rw [hsz]
  · simp [b64_0]
  · simp
  · simp [h0]
def gB3 (k j : Nat) : Bool := (ci (k + j)).tmod 3 == 0
def gU8 (k j : Nat) : Int := IntKind.wrap .u8 (ci (k + j))
@[simp] def st95 (l : List Bool) (k j : Nat) : St := { n := 21, m := 1, tm := [(0, .ref 0 []), (1, .sc (.int .i64 (ci (k + j)))), (5, .sc (.int .i64 j))], ob := [(0, .arr 1 (enc fL (rmp (gB3 k) l j)))] }
theorem ev_markBoolS (l : List Bool) (k : Nat) (hl : l.length ≤ 1048576) (hk : k ≤ 576460752303423488) :
    semK G PK md 95 [.v (.own 1 (enc fL l)), .v (.sc (.int .i64 (ci k)))] = some ⟨[.v (.sc (.int .i64 (ci (k + l.length))))], [some (enc fL (rmp (gB3 k) l l.length))], []⟩ := by
  refine semK_of (pf := p95) rfl (by simp [p95]) ?_
  have hstep : ∀ j, j < l.length → ∃ s', exec (semK G PK md) (semL G PK md) md b95_0 (st95 l k j) = some (.normal, s') ∧ s'.m ≤ 10000000 ∧ canon 10000000 [0, 1, 5] s' = st95 l k (j + 1) := fun j hlt => by
    have hc := ci_succ (m := k + j) (by omega)
    have hset := rmp_set (gB3 k) l j
    have hes := enc_set fL (rmp (gB3 k) l j) j (gB3 k j)
    simp only [fL] at hes
    have hg : gB3 k j = ((ci (k + j)).tmod 3 == 0) := rfl
    rw [hg] at hes hset
    have hk2 : k + j + 1 = k + (j + 1) := rfl
    simp [b95_0, hlt, incr hlt hl, hc, hes, hset, hk2]
  have hsz := loop_ok (G := G) (PK := PK) (md := md) (o := 10000000) (live := [0, 1, 5]) (c := b95_0) (st95 l k) l.length hstep (by simp [b95_0])
  have h0 : rmp (gB3 k) l 0 = l := rfl
  simp [p95]
  rw [hsz]
  · simp [b95_0]
  · simp
  · simp [h0]
@[simp] def st65 (l : List Int) (k j : Nat) : St := { n := 20, m := 1, tm := [(0, .ref 0 []), (1, .sc (.int .i64 (ci (k + j)))), (5, .sc (.int .i64 j))], ob := [(0, .arr 1 (enc fU (rmp (gU8 k) l j)))] }
theorem ev_markByteS (l : List Int) (k : Nat) (hl : l.length ≤ 1048576) (hk : k ≤ 576460752303423488) :
    semK G PK md 65 [.v (.own 1 (enc fU l)), .v (.sc (.int .i64 (ci k)))] = some ⟨[.v (.sc (.int .i64 (ci (k + l.length))))], [some (enc fU (rmp (gU8 k) l l.length))], []⟩ := by
  refine semK_of (pf := p65) rfl (by simp [p65]) ?_
  have hstep : ∀ j, j < l.length → ∃ s', exec (semK G PK md) (semL G PK md) md b65_0 (st65 l k j) = some (.normal, s') ∧ s'.m ≤ 10000000 ∧ canon 10000000 [0, 1, 5] s' = st65 l k (j + 1) := fun j hlt => by
    have hc := ci_succ (m := k + j) (by omega)
    have hset := rmp_set (gU8 k) l j
    have hes := enc_set fU (rmp (gU8 k) l j) j (gU8 k j)
    simp only [fU] at hes
    have hg : gU8 k j = IntKind.wrap .u8 (ci (k + j)) := rfl
    rw [hg] at hes hset
    have hk2 : k + j + 1 = k + (j + 1) := rfl
    simp [b65_0, hlt, incr hlt hl, hc, hes, hset, hk2]
  have hsz := loop_ok (G := G) (PK := PK) (md := md) (o := 10000000) (live := [0, 1, 5]) (c := b65_0) (st65 l k) l.length hstep (by simp [b65_0])
  have h0 : rmp (gU8 k) l 0 = l := rfl
  simp [p65]
  rw [hsz]
  · simp [b65_0]
  · simp
  · simp [h0]
def rI (l : List Int) (k : Nat) : List Int := rmp (fun i => ci (k + i)) l l.length
def rL (l : List Bool) (k : Nat) : List Bool := rmp (gB3 k) l l.length
def rU (l : List Int) (k : Nat) : List Int := rmp (gU8 k) l l.length
def gII (ll : List (List Int)) (k j : Nat) : List Int := rI (ll.getD j []) (k + sumN ((ll.map List.length).take j))
def rII (ll : List (List Int)) (k : Nat) : List (List Int) := rmp (gII ll k) ll ll.length
@[simp] def st94 (ll : List (List Int)) (k j : Nat) : St := { n := 19, m := 1, tm := [(0, .ref 0 []), (1, .sc (.int .i64 (ci (k + sumN ((ll.map List.length).take j))))), (5, .sc (.int .i64 j))], ob := [(0, .arr 1 (enc fII (rmp (gII ll k) ll j)))] }
theorem ev_markIntSS (ll : List (List Int)) (k : Nat) (hl : ll.length ≤ 1048576) (hll : sumN (ll.map List.length) ≤ 1048576) (hk : k ≤ 288230376151711744) :
    semK G PK md 94 [.v (.own 1 (enc fII ll)), .v (.sc (.int .i64 (ci k)))] = some ⟨[.v (.sc (.int .i64 (ci (k + sumN (ll.map List.length)))))], [some (enc fII (rII ll k))], []⟩ := by
  refine semK_of (pf := p94) rfl (by simp [p94]) ?_
  have hstep : ∀ j, j < ll.length → ∃ s', exec (semK G PK md) (semL G PK md) md b94_0 (st94 ll k j) = some (.normal, s') ∧ s'.m ≤ 10000000 ∧ canon 10000000 [0, 1, 5] s' = st94 ll k (j + 1) := fun j hlt => by
    obtain ⟨x, hx⟩ := getElem?_of_lt hlt
    obtain ⟨_, hx'⟩ := at_of hx
    have hs := sumN_take (ll.map List.length) (j := j) (x := x.length) (by simp [hx])
    have hle := sumN_le (ll.map List.length) (j + 1)
    have hmem := sumN_mem (List.mem_map_of_mem (f := List.length) (List.mem_of_getElem? hx))
    generalize hS : sumN ((ll.map List.length).take j) = S at hs
    have he := ev_markIntS (PK := PK) x (k + S) (by omega) (by omega)
    have hat := rmp_at (gII ll k) ll hlt
    rw [hx'] at hat
    have hset := rmp_set (gII ll k) ll j
    have hes := enc_set fII (rmp (gII ll k) ll j) j (gII ll k j)
    have hg : gII ll k j = rmp (fun i => ci (k + S + i)) x x.length := by unfold gII rI; rw [hS, List.getD_eq_getElem?_getD, hx]; rfl
    rw [hset] at hes
    simp only [fII] at hes
    rw [hg] at hes
    rw [Nat.add_assoc, ← hs] at he
    simp [b94_0, md, hlt, incr hlt hl, hS, hat, he, hes]
  have hsz := loop_ok (G := G) (PK := PK) (md := md) (o := 10000000) (live := [0, 1, 5]) (c := b94_0) (st94 ll k) ll.length hstep (by simp [b94_0])
  have h0 : rmp (gII ll k) ll 0 = ll := rfl
  have ht : (ll.map List.length).take ll.length = ll.map List.length := by rw [← List.length_map (f := List.length)]; exact List.take_length
  have hr : rII ll k = rmp (gII ll k) ll ll.length := rfl
  rw [hr]
  simp [p94]
  rw [hsz]
  · simp [b94_0, ht]
  · simp
  · simp [h0, sumN]
end Go.Proofs.Ytijlnmofehekdaa.Ow
