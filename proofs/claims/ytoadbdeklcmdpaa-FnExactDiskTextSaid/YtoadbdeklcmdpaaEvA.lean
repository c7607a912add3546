/- Sizes, copies, comparisons: evaluated. -/
import Derived.Test.YtoadbdeklcmdpaaPF
namespace Go.Proofs.Ytoadbdeklcmdpaa.Ow
open Go
variable {PK : Nat → List Arg → Option Res}
theorem ev_szIntS (rows : List (List T)) (left : Int) (h0 : 0 ≤ left) (h1 : left ≤ 1048576) (hr : rows.length ≤ 9223372036854775807) :
    semK G PK md 12 [.v (.im 1 rows), .v (.sc (.int .i64 left))] = some ⟨[.v (.sc (.int .i64 (szr left rows.length)))], [], []⟩ := by
  have hw : IntKind.wrap .i64 (left - (rows.length : Int)) = left - rows.length := wrap_id (by omega) (by omega)
  refine semK_of (pf := p12) rfl (by simp [p12]) ?_
  by_cases h : left < rows.length
  · have h' : left - (rows.length : Int) < 0 := by omega
    simp [p12, hw, h', szr, h]
  · have h' : ¬ left - (rows.length : Int) < 0 := by omega
    simp [p12, hw, h', szr, h]
@[simp] def st17 (l : List (Int)) (j : Nat) : St := { n := 22, m := 0, tm := [(0, .im 1 (enc fI l)), (3, .ref 10000000 []), (4, .sc (.int .i64 j))], ob := [(10000000, .arr 1 (enc fI (cp 0 l j)))] }
theorem ev_toIntS (l : List (Int)) (hl : l.length ≤ 1048576) : semK G PK md 17 [.v (.im 1 (enc fI l))] = some ⟨[.v (.own 1 (enc fI l))], [], []⟩ := by
  refine semK_of (pf := p17) rfl (by simp [p17]) ?_
  have hstep : ∀ j, j < l.length → ∃ s', exec (semK G PK md) (semL G PK md) md b17_0 (st17 l j) = some (.normal, s') ∧ s'.m ≤ 10000000 ∧ canon 10000000 [0, 3, 4] s' = st17 l (j + 1) := fun j hlt => by
    obtain ⟨x, hx1⟩ := getElem?_of_lt hlt
    obtain ⟨_, hx'⟩ := at_of hx1
    have hc := cp_len 0 l (Nat.le_of_lt hlt)
    have hg := cp_at 0 l hlt
    have hset := cp_set 0 l hx1
    have hes := enc_set fI (cp 0 l j) j x
    simp only [fI] at hes
    simp [b17_0, hlt, hx', incr hlt hl, hc, hg, hes, hset]
  have hsz := loop_ok (G := G) (PK := PK) (md := md) (o := 10000000) (live := [0, 3, 4]) (c := b17_0) (st17 l) l.length hstep (by simp [b17_0])
  have hb : l.length * 8 ≤ 35184372088832 := by omega
  have hb1 : l.length ≤ 35184372088832 := by omega
  have hrep : enc fI (cp 0 l 0) = List.replicate l.length (fI 0) := by rw [cp_zero, enc_rep]
  simp only [fI] at hrep
  simp [p17, hb, hb1, hrep, hsz]
  simp [b17_0, cp_all]
theorem ev_szByteS (rows : List (List T)) (left : Int) (h0 : 0 ≤ left) (h1 : left ≤ 1048576) (hr : rows.length ≤ 9223372036854775807) :
    semK G PK md 27 [.v (.im 1 rows), .v (.sc (.int .i64 left))] = some ⟨[.v (.sc (.int .i64 (szr left rows.length)))], [], []⟩ := by
  have hw : IntKind.wrap .i64 (left - (rows.length : Int)) = left - rows.length := wrap_id (by omega) (by omega)
  refine semK_of (pf := p27) rfl (by simp [p27]) ?_
  by_cases h : left < rows.length
  · have h' : left - (rows.length : Int) < 0 := by omega
    simp [p27, hw, h', szr, h]
  · have h' : ¬ left - (rows.length : Int) < 0 := by omega
    simp [p27, hw, h', szr, h]
@[simp] def st28 (l : List (Int)) (j : Nat) : St := { n := 22, m := 0, tm := [(0, .im 1 (enc fU l)), (3, .ref 10000000 []), (4, .sc (.int .i64 j))], ob := [(10000000, .arr 1 (enc fU (cp 0 l j)))] }
theorem ev_toByteS (l : List (Int)) (hl : l.length ≤ 1048576) : semK G PK md 28 [.v (.im 1 (enc fU l))] = some ⟨[.v (.own 1 (enc fU l))], [], []⟩ := by
  refine semK_of (pf := p28) rfl (by simp [p28]) ?_
  have hstep : ∀ j, j < l.length → ∃ s', exec (semK G PK md) (semL G PK md) md b28_0 (st28 l j) = some (.normal, s') ∧ s'.m ≤ 10000000 ∧ canon 10000000 [0, 3, 4] s' = st28 l (j + 1) := fun j hlt => by
    obtain ⟨x, hx1⟩ := getElem?_of_lt hlt
    obtain ⟨_, hx'⟩ := at_of hx1
    have hc := cp_len 0 l (Nat.le_of_lt hlt)
    have hg := cp_at 0 l hlt
    have hset := cp_set 0 l hx1
    have hes := enc_set fU (cp 0 l j) j x
    simp only [fU] at hes
    simp [b28_0, hlt, hx', incr hlt hl, hc, hg, hes, hset]
  have hsz := loop_ok (G := G) (PK := PK) (md := md) (o := 10000000) (live := [0, 3, 4]) (c := b28_0) (st28 l) l.length hstep (by simp [b28_0])
  have hb : l.length * 1 ≤ 35184372088832 := by omega
  have hb1 : l.length ≤ 35184372088832 := by omega
  have hrep : enc fU (cp 0 l 0) = List.replicate l.length (fU 0) := by rw [cp_zero, enc_rep]
  simp only [fU] at hrep
  simp [p28, hb, hb1, hrep, hsz]
  simp [b28_0, cp_all]
theorem ev_szBoolS (rows : List (List T)) (left : Int) (h0 : 0 ≤ left) (h1 : left ≤ 1048576) (hr : rows.length ≤ 9223372036854775807) :
    semK G PK md 15 [.v (.im 1 rows), .v (.sc (.int .i64 left))] = some ⟨[.v (.sc (.int .i64 (szr left rows.length)))], [], []⟩ := by
  have hw : IntKind.wrap .i64 (left - (rows.length : Int)) = left - rows.length := wrap_id (by omega) (by omega)
  refine semK_of (pf := p15) rfl (by simp [p15]) ?_
  by_cases h : left < rows.length
  · have h' : left - (rows.length : Int) < 0 := by omega
    simp [p15, hw, h', szr, h]
  · have h' : ¬ left - (rows.length : Int) < 0 := by omega
    simp [p15, hw, h', szr, h]
@[simp] def st20 (l : List (Bool)) (j : Nat) : St := { n := 22, m := 0, tm := [(0, .im 1 (enc fL l)), (3, .ref 10000000 []), (4, .sc (.int .i64 j))], ob := [(10000000, .arr 1 (enc fL (cp false l j)))] }
theorem ev_toBoolS (l : List (Bool)) (hl : l.length ≤ 1048576) : semK G PK md 20 [.v (.im 1 (enc fL l))] = some ⟨[.v (.own 1 (enc fL l))], [], []⟩ := by
  refine semK_of (pf := p20) rfl (by simp [p20]) ?_
  have hstep : ∀ j, j < l.length → ∃ s', exec (semK G PK md) (semL G PK md) md b20_0 (st20 l j) = some (.normal, s') ∧ s'.m ≤ 10000000 ∧ canon 10000000 [0, 3, 4] s' = st20 l (j + 1) := fun j hlt => by
    obtain ⟨x, hx1⟩ := getElem?_of_lt hlt
    obtain ⟨_, hx'⟩ := at_of hx1
    have hc := cp_len false l (Nat.le_of_lt hlt)
    have hg := cp_at false l hlt
    have hset := cp_set false l hx1
    have hes := enc_set fL (cp false l j) j x
    simp only [fL] at hes
    simp [b20_0, hlt, hx', incr hlt hl, hc, hg, hes, hset]
  have hsz := loop_ok (G := G) (PK := PK) (md := md) (o := 10000000) (live := [0, 3, 4]) (c := b20_0) (st20 l) l.length hstep (by simp [b20_0])
  have hb : l.length * 1 ≤ 35184372088832 := by omega
  have hb1 : l.length ≤ 35184372088832 := by omega
  have hrep : enc fL (cp false l 0) = List.replicate l.length (fL false) := by rw [cp_zero, enc_rep]
  simp only [fL] at hrep
  simp [p20, hb, hb1, hrep, hsz]
  simp [b20_0, cp_all]
@[simp] def st16 (ll : List (List Int)) (left : Int) (j : Nat) : St := { n := 27, m := 0, tm := [(0, .im 1 (enc fII ll)), (1, .sc (.int .i64 (left - ll.length - (sumN ((ll.map List.length).take j) : Nat)))), (5, .sc (.int .i64 j))], ob := [] }
theorem ev_szIntSS (ll : List (List Int)) (left : Int) (h0 : 0 ≤ left) (h1 : left ≤ 1048576) (hf : shorts short ll) :
    semK G PK md 16 [.v (.im 1 (enc fII ll)), .v (.sc (.int .i64 left))] = some ⟨[.v (.sc (.int .i64 (szr left (szs List.length ll))))], [], []⟩ := by
  obtain ⟨hr, hrr⟩ := hf
  have hr : ll.length ≤ 9223372036854775807 := hr
  have hw : IntKind.wrap .i64 (left - (ll.length : Int)) = left - ll.length := wrap_id (by omega) (by omega)
  refine semK_of (pf := p16) rfl (by simp [p16]) ?_
  by_cases h : left < ll.length
  · have h' : left - (ll.length : Int) < 0 := by omega
    have h2 : left < (szs List.length ll : Nat) := by unfold szs; omega
    simp [p16, hw, h', szr, h2]
  · have h' : ¬ left - (ll.length : Int) < 0 := by omega
    obtain ⟨k, hk, hp, hkn⟩ := first (fun j => ((sumN ((ll.map List.length).take (j + 1)) : Nat) : Int) ≤ left - ll.length) ll.length
    have hstep : ∀ j, j < k → ∃ s', exec (semK G PK md) (semL G PK md) md b16_0 (st16 ll left j) = some (.normal, s') ∧ s'.m ≤ 10000000 ∧ canon 10000000 [0, 1, 5] s' = st16 ll left (j + 1) := fun j hj => by
      have hlt : j < ll.length := by omega
      obtain ⟨x, hx⟩ := getElem?_of_lt hlt
      obtain ⟨_, hx'⟩ := at_of hx
      have hs := sumN_take (ll.map List.length) (j := j) (x := x.length) (by simp [hx])
      have hpj := hp j hj
      simp only [hs] at hpj
      have he := ev_szIntS (PK := PK) (enc fI x) (left - ll.length - (sumN ((ll.map List.length).take j) : Nat)) (by omega) (by omega) (by rw [enc_len]; exact hrr x (List.mem_of_getElem? hx))
      have hz : szr (left - ll.length - (sumN ((ll.map List.length).take j) : Nat)) (x.length) = left - ll.length - (sumN ((ll.map List.length).take (j + 1)) : Nat) := by unfold szr; rw [if_neg (by omega), hs]; omega
      have hz2 : ¬ left - ll.length - (sumN ((ll.map List.length).take (j + 1)) : Nat) < 0 := by rw [hs]; omega
      simp only [enc_len] at he
      rw [hz] at he
      simp [b16_0, hlt, hx', incr hlt (by omega), he, hz2, md]
    rcases hkn with rfl | ⟨hlt, hn⟩
    · have hsz := loop_ok (G := G) (PK := PK) (md := md) (o := 10000000) (live := [0, 1, 5]) (c := b16_0) (st16 ll left) ll.length hstep (by simp [b16_0])
      have hall : szr left (szs List.length ll) = left - ll.length - (sumN ((ll.map List.length).take ll.length) : Nat) := by
        have : (ll.map List.length).take ll.length = ll.map List.length := by rw [← List.length_map (f := List.length)]; exact List.take_length
        rw [this]
        unfold szr szs
        have hlast : ((sumN (ll.map List.length) : Nat) : Int) ≤ left - ll.length := by
          cases hn : ll.length with
          | zero =>
            have : ll = [] := List.eq_nil_of_length_eq_zero hn
            subst this
            simp [sumN]; omega
          | succ n =>
            have := hp n (by omega)
            rwa [show n + 1 = ll.length by omega, ‹List.take _ _ = _›, hn] at this
        rw [if_neg (by omega)]
        omega
      rw [hall]
      simp [p16, hw, h', hsz, sumN]
      simp [b16_0]
    · obtain ⟨x, hx⟩ := getElem?_of_lt hlt
      obtain ⟨_, hx'⟩ := at_of hx
      have hs := sumN_take (ll.map List.length) (j := k) (x := x.length) (by simp [hx])
      have hle := sumN_le (ll.map List.length) (k + 1)
      rw [hs] at hn hle
      have hpk : 0 ≤ left - ll.length - (sumN ((ll.map List.length).take k) : Nat) := by
        cases k with
        | zero => simp [sumN]; omega
        | succ k => have := hp k (by omega); omega
      have he := ev_szIntS (PK := PK) (enc fI x) (left - ll.length - (sumN ((ll.map List.length).take k) : Nat)) hpk (by omega) (by rw [enc_len]; exact hrr x (List.mem_of_getElem? hx))
      have hz : szr (left - ll.length - (sumN ((ll.map List.length).take k) : Nat)) (x.length) = -1 := by unfold szr; rw [if_pos (by omega)]
      simp only [enc_len] at he
      rw [hz] at he
      have hsz := loop_ok (G := G) (PK := PK) (md := md) (o := 10000000) (live := [0, 1, 5]) (c := b16_0) (st16 ll left) k hstep (by simp [b16_0, hlt, hx', he, md])
      have hall : szr left (szs List.length ll) = -1 := by unfold szr szs; rw [if_pos (by omega)]
      rw [hall]
      simp [p16, hw, h', hsz, sumN]
      simp [b16_0, hlt, hx', he, md]
@[simp] def st21 (l : List (List Int)) (j : Nat) : St := { n := 23, m := 0, tm := [(0, .im 1 (enc fII l)), (3, .ref 10000000 []), (4, .sc (.int .i64 j))], ob := [(10000000, .arr 1 (enc fII (cp [] l j)))] }
theorem ev_toIntSS (l : List (List Int)) (hl : l.length ≤ 1048576) (hx : ∀ x ∈ l, x.length ≤ 1048576) : semK G PK md 21 [.v (.im 1 (enc fII l))] = some ⟨[.v (.own 1 (enc fII l))], [], []⟩ := by
  refine semK_of (pf := p21) rfl (by simp [p21]) ?_
  have hstep : ∀ j, j < l.length → ∃ s', exec (semK G PK md) (semL G PK md) md b21_0 (st21 l j) = some (.normal, s') ∧ s'.m ≤ 10000000 ∧ canon 10000000 [0, 3, 4] s' = st21 l (j + 1) := fun j hlt => by
    obtain ⟨x, hx1⟩ := getElem?_of_lt hlt
    obtain ⟨_, hx'⟩ := at_of hx1
    have hc := cp_len [] l (Nat.le_of_lt hlt)
    have hg := cp_at [] l hlt
    have hset := cp_set [] l hx1
    have hes := enc_set fII (cp [] l j) j x
    simp only [fII] at hes
    have he := ev_toIntS (PK := PK) x (hx x (List.mem_of_getElem? hx1))
    simp [b21_0, hlt, hx', incr hlt hl, hc, hg, hes, hset, he, md]
  have hsz := loop_ok (G := G) (PK := PK) (md := md) (o := 10000000) (live := [0, 3, 4]) (c := b21_0) (st21 l) l.length hstep (by simp [b21_0])
  have hb : l.length * 24 ≤ 35184372088832 := by omega
  have hb1 : l.length ≤ 35184372088832 := by omega
  have hrep : enc fII (cp [] l 0) = List.replicate l.length (fII []) := by rw [cp_zero, enc_rep]
  simp only [fII] at hrep
  simp [p21, hb, hb1, hrep, hsz]
  simp [b21_0, cp_all]
theorem ev_szMeta (x : MetaD) (left : Int) (h0 : 0 ≤ left) (h1 : left ≤ 1048576) (hf : shM x) :
    semK G PK md 13 [.a (lents (fM x)), .v (.sc (.int .i64 left))] = some ⟨[.v (.sc (.int .i64 (szr left (szM x))))], [], []⟩ := by
  refine semK_of (pf := p13) rfl (by simp [p13]) ?_
  unfold szM
  have e0 := ev_szIntS (PK := PK) (enc fI x.gens) (left) h0 h1 (by rw [enc_len]; exact hf.1)
  simp only [enc_len] at e0
  by_cases c0 : left < (x.gens.length : Nat)
  · rw [szr_lt c0] at e0
    rw [szr_lt (by omega)]
    simp [p13, md, e0]
  rw [szr_ge c0] at e0
  have d0 : ¬ left - (x.gens.length : Nat) < 0 := by omega
  have e1 := ev_szIntSS (PK := PK) x.bits (left - (x.gens.length : Nat)) (by omega) (by omega) hf.2
  by_cases c1 : left - (x.gens.length : Nat) < (szs List.length x.bits : Nat)
  · rw [szr_lt c1] at e1
    rw [szr_lt (by omega)]
    simp [p13, md, e0, d0, e1]
  rw [szr_ge c1] at e1
  have d1 : ¬ left - (x.gens.length : Nat) - (szs List.length x.bits : Nat) < 0 := by omega
  have hz : szr left (x.gens.length + szs List.length x.bits) = left - (x.gens.length : Nat) - (szs List.length x.bits : Nat) := by rw [szr_ge (by omega)]; omega
  rw [hz]
  simp [p13, md, e0, d0, e1, d1]
theorem ev_toMeta (x : MetaD) (hl : szM x ≤ 1048576) : semK G PK md 18 [.a (lents (fM x))] = some ⟨[.a (owneds (fM x))], [], []⟩ := by
  refine semK_of (pf := p18) rfl (by simp [p18]) ?_
  unfold szM at hl
  have e0 := ev_toIntS (PK := PK) x.gens (by omega)
  have e1 := ev_toIntSS (PK := PK) x.bits (by have h_ := hl; simp only [szs] at h_; omega) (fun z hz => by have h_ := hl; have g_ := sumN_mem (List.mem_map_of_mem (f := List.length) hz); simp only [szs] at h_; omega)
  simp [p18, md, e0, e1]
theorem ev_szSlots (x : SlotsD) (left : Int) (h0 : 0 ≤ left) (h1 : left ≤ 1048576) (hf : shSl x) :
    semK G PK md 14 [.a (lents (fSl x)), .v (.sc (.int .i64 left))] = some ⟨[.v (.sc (.int .i64 (szr left (szSl x))))], [], []⟩ := by
  refine semK_of (pf := p14) rfl (by simp [p14]) ?_
  unfold szSl
  have e0 := ev_szByteS (PK := PK) (enc fU x.a) (left) h0 h1 (by rw [enc_len]; exact hf.1)
  simp only [enc_len] at e0
  by_cases c0 : left < (x.a.length : Nat)
  · rw [szr_lt c0] at e0
    rw [szr_lt (by omega)]
    simp [p14, md, e0]
  rw [szr_ge c0] at e0
  have d0 : ¬ left - (x.a.length : Nat) < 0 := by omega
  have e1 := ev_szByteS (PK := PK) (enc fU x.b) (left - (x.a.length : Nat)) (by omega) (by omega) (by rw [enc_len]; exact hf.2)
  simp only [enc_len] at e1
  by_cases c1 : left - (x.a.length : Nat) < (x.b.length : Nat)
  · rw [szr_lt c1] at e1
    rw [szr_lt (by omega)]
    simp [p14, md, e0, d0, e1]
  rw [szr_ge c1] at e1
  have d1 : ¬ left - (x.a.length : Nat) - (x.b.length : Nat) < 0 := by omega
  have hz : szr left (x.a.length + x.b.length) = left - (x.a.length : Nat) - (x.b.length : Nat) := by rw [szr_ge (by omega)]; omega
  rw [hz]
  simp [p14, md, e0, d0, e1, d1]
theorem ev_toSlots (x : SlotsD) (hl : szSl x ≤ 1048576) : semK G PK md 19 [.a (lents (fSl x))] = some ⟨[.a (owneds (fSl x))], [], []⟩ := by
  refine semK_of (pf := p19) rfl (by simp [p19]) ?_
  unfold szSl at hl
  have e0 := ev_toByteS (PK := PK) x.a (by omega)
  have e1 := ev_toByteS (PK := PK) x.b (by omega)
  simp [p19, md, e0, e1]
theorem ev_szNode (x : NodeD) (left : Int) (h0 : 0 ≤ left) (h1 : left ≤ 1048576) (hf : shN x) :
    semK G PK md 5 [.a (lents (fN x)), .v (.sc (.int .i64 left))] = some ⟨[.v (.sc (.int .i64 (szr left (szN x))))], [], []⟩ := by
  refine semK_of (pf := p5) rfl (by simp [p5]) ?_
  unfold szN
  have e0 := ev_szIntS (PK := PK) (enc fI x.image) (left) h0 h1 (by rw [enc_len]; exact hf.1)
  simp only [enc_len] at e0
  by_cases c0 : left < (x.image.length : Nat)
  · rw [szr_lt c0] at e0
    rw [szr_lt (by omega)]
    simp [p5, md, e0]
  rw [szr_ge c0] at e0
  have d0 : ¬ left - (x.image.length : Nat) < 0 := by omega
  have e1 := ev_szMeta (PK := PK) x.mt (left - (x.image.length : Nat)) (by omega) (by omega) hf.2.1
  simp only [lents, lent, fM] at e1
  by_cases c1 : left - (x.image.length : Nat) < (szM x.mt : Nat)
  · rw [szr_lt c1] at e1
    rw [szr_lt (by omega)]
    simp [p5, md, e0, d0, e1]
  rw [szr_ge c1] at e1
  have d1 : ¬ left - (x.image.length : Nat) - (szM x.mt : Nat) < 0 := by omega
  have e2 := ev_szSlots (PK := PK) x.sl (left - (x.image.length : Nat) - (szM x.mt : Nat)) (by omega) (by omega) hf.2.2.1
  simp only [lents, lent, fSl] at e2
  by_cases c2 : left - (x.image.length : Nat) - (szM x.mt : Nat) < (szSl x.sl : Nat)
  · rw [szr_lt c2] at e2
    rw [szr_lt (by omega)]
    simp [p5, md, e0, d0, e1, d1, e2]
  rw [szr_ge c2] at e2
  have d2 : ¬ left - (x.image.length : Nat) - (szM x.mt : Nat) - (szSl x.sl : Nat) < 0 := by omega
  have e3 := ev_szBoolS (PK := PK) (enc fL x.conn) (left - (x.image.length : Nat) - (szM x.mt : Nat) - (szSl x.sl : Nat)) (by omega) (by omega) (by rw [enc_len]; exact hf.2.2.2.1)
  simp only [enc_len] at e3
  by_cases c3 : left - (x.image.length : Nat) - (szM x.mt : Nat) - (szSl x.sl : Nat) < (x.conn.length : Nat)
  · rw [szr_lt c3] at e3
    rw [szr_lt (by omega)]
    simp [p5, md, e0, d0, e1, d1, e2, d2, e3]
  rw [szr_ge c3] at e3
  have d3 : ¬ left - (x.image.length : Nat) - (szM x.mt : Nat) - (szSl x.sl : Nat) - (x.conn.length : Nat) < 0 := by omega
  have e4 := ev_szIntSS (PK := PK) x.sync (left - (x.image.length : Nat) - (szM x.mt : Nat) - (szSl x.sl : Nat) - (x.conn.length : Nat)) (by omega) (by omega) hf.2.2.2.2.1
  by_cases c4 : left - (x.image.length : Nat) - (szM x.mt : Nat) - (szSl x.sl : Nat) - (x.conn.length : Nat) < (szs List.length x.sync : Nat)
  · rw [szr_lt c4] at e4
    rw [szr_lt (by omega)]
    simp [p5, md, e0, d0, e1, d1, e2, d2, e3, d3, e4]
  rw [szr_ge c4] at e4
  have d4 : ¬ left - (x.image.length : Nat) - (szM x.mt : Nat) - (szSl x.sl : Nat) - (x.conn.length : Nat) - (szs List.length x.sync : Nat) < 0 := by omega
  have e5 := ev_szBoolS (PK := PK) (enc fL x.copies) (left - (x.image.length : Nat) - (szM x.mt : Nat) - (szSl x.sl : Nat) - (x.conn.length : Nat) - (szs List.length x.sync : Nat)) (by omega) (by omega) (by rw [enc_len]; exact hf.2.2.2.2.2.1)
  simp only [enc_len] at e5
  by_cases c5 : left - (x.image.length : Nat) - (szM x.mt : Nat) - (szSl x.sl : Nat) - (x.conn.length : Nat) - (szs List.length x.sync : Nat) < (x.copies.length : Nat)
  · rw [szr_lt c5] at e5
    rw [szr_lt (by omega)]
    simp [p5, md, e0, d0, e1, d1, e2, d2, e3, d3, e4, d4, e5]
  rw [szr_ge c5] at e5
  have d5 : ¬ left - (x.image.length : Nat) - (szM x.mt : Nat) - (szSl x.sl : Nat) - (x.conn.length : Nat) - (szs List.length x.sync : Nat) - (x.copies.length : Nat) < 0 := by omega
  have e6 := ev_szIntS (PK := PK) (enc fI x.wait) (left - (x.image.length : Nat) - (szM x.mt : Nat) - (szSl x.sl : Nat) - (x.conn.length : Nat) - (szs List.length x.sync : Nat) - (x.copies.length : Nat)) (by omega) (by omega) (by rw [enc_len]; exact hf.2.2.2.2.2.2)
  simp only [enc_len] at e6
  by_cases c6 : left - (x.image.length : Nat) - (szM x.mt : Nat) - (szSl x.sl : Nat) - (x.conn.length : Nat) - (szs List.length x.sync : Nat) - (x.copies.length : Nat) < (x.wait.length : Nat)
  · rw [szr_lt c6] at e6
    rw [szr_lt (by omega)]
    simp [p5, md, e0, d0, e1, d1, e2, d2, e3, d3, e4, d4, e5, d5, e6]
  rw [szr_ge c6] at e6
  have d6 : ¬ left - (x.image.length : Nat) - (szM x.mt : Nat) - (szSl x.sl : Nat) - (x.conn.length : Nat) - (szs List.length x.sync : Nat) - (x.copies.length : Nat) - (x.wait.length : Nat) < 0 := by omega
  have hz : szr left (x.image.length + (szM x.mt) + (szSl x.sl) + x.conn.length + szs List.length x.sync + x.copies.length + x.wait.length) = left - (x.image.length : Nat) - (szM x.mt : Nat) - (szSl x.sl : Nat) - (x.conn.length : Nat) - (szs List.length x.sync : Nat) - (x.copies.length : Nat) - (x.wait.length : Nat) := by rw [szr_ge (by omega)]; omega
  rw [hz]
  simp [p5, md, e0, d0, e1, d1, e2, d2, e3, d3, e4, d4, e5, d5, e6, d6]
theorem ev_toNode (x : NodeD) (hl : szN x ≤ 1048576) : semK G PK md 7 [.a (lents (fN x))] = some ⟨[.a (owneds (fN x))], [], []⟩ := by
  refine semK_of (pf := p7) rfl (by simp [p7]) ?_
  unfold szN at hl
  have e3 := ev_toIntS (PK := PK) x.image (by omega)
  have e4 := ev_toMeta (PK := PK) x.mt (by omega)
  simp only [lents, lent, fM, owneds, owned] at e4
  have e5 := ev_toSlots (PK := PK) x.sl (by omega)
  simp only [lents, lent, fSl, owneds, owned] at e5
  have e6 := ev_toBoolS (PK := PK) x.conn (by omega)
  have e7 := ev_toIntSS (PK := PK) x.sync (by have h_ := hl; simp only [szs] at h_; omega) (fun z hz => by have h_ := hl; have g_ := sumN_mem (List.mem_map_of_mem (f := List.length) hz); simp only [szs] at h_; omega)
  have e8 := ev_toBoolS (PK := PK) x.copies (by omega)
  have e9 := ev_toIntS (PK := PK) x.wait (by omega)
  simp [p7, md, e3, e4, e5, e6, e7, e8, e9]
end Go.Proofs.Ytoadbdeklcmdpaa.Ow
