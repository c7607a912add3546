/- What is seen of nodes, plain. -/
import Derived.Test.YtjnmfihnioajaaaGreatEvReportStr
namespace Go.Proofs.YtjnmfihnioajaaaGreat.Ow
open Go
set_option linter.unusedVariables false
set_option linter.unusedSimpArgs false
set_option maxHeartbeats 4000000
variable {PK : Nat → List Arg → Option Res}
def roleText (x : NodeD) : ByteArray := if x.up then (if x.prime then ⟨#[102, 105, 114, 115, 116]⟩ else ⟨#[115, 101, 99, 111, 110, 100]⟩) else ⟨#[100, 111, 119, 110]⟩
def diskText (x : NodeD) : ByteArray := if x.mt.fine then (if x.mt.old then ⟨#[111, 108, 100]⟩ else ⟨#[102, 105, 110, 101]⟩) else ⟨#[116, 111, 114, 110]⟩
theorem role_size (x : NodeD) : (roleText x).size ≤ 6 := by unfold roleText; split; · split <;> decide
                                                            · decide
theorem disk_size (x : NodeD) : (diskText x).size ≤ 4 := by unfold diskText; split; · split <;> decide
                                                            · decide
theorem link_size (x y : NodeD) : (linkText x y).size ≤ 6 := by
  unfold linkText
  split
  · split
    · split
      · decide
      · split <;> decide
    · decide
  · decide
/-- Words of a node's row, behind the first j others. -/
def bl (x : NodeD) (j : Nat) : Nat := (x.mt.bits.getD j []).length
def wl (w : WorldD) (i : Nat) : Nat → List ByteArray
  | 0 => [dg i, roleText (nd w i), diskText (nd w i)]
  | j + 1 => if j = i then wl w i j else wl w i j ++ [linkText (nd w i) (nd w j), dg (bl (nd w i) j)]
theorem wl_cons (w : WorldD) (i : Nat) : ∀ j, ∃ x l, wl w i j = x :: l
  | 0 => ⟨_, _, rfl⟩
  | j + 1 => by
    obtain ⟨x, l, h⟩ := wl_cons w i j
    unfold wl
    split
    · exact ⟨x, l, h⟩
    · exact ⟨x, l ++ [linkText (nd w i) (nd w j), dg (bl (nd w i) j)], by rw [h]; rfl⟩
/-- The row behind the first j others. -/
def rowB (w : WorldD) (i j : Nat) : ByteArray := joinB (wl w i j) sp
theorem rowB_succ (w : WorldD) (i j : Nat) (h : ¬ j = i) : rowB w i (j + 1) = rowB w i j ++ sp ++ linkText (nd w i) (nd w j) ++ sp ++ dg (bl (nd w i) j) := by
  obtain ⟨x, l, hl⟩ := wl_cons w i j
  unfold rowB
  rw [show wl w i (j + 1) = wl w i j ++ [linkText (nd w i) (nd w j), dg (bl (nd w i) j)] by rw [wl, if_neg h], hl]
  have h1 := joinB_snoc x l sp (linkText (nd w i) (nd w j))
  have h2 := joinB_snoc x (l ++ [linkText (nd w i) (nd w j)]) sp (dg (bl (nd w i) j))
  rw [show x :: l ++ [linkText (nd w i) (nd w j), dg (bl (nd w i) j)] = x :: (l ++ [linkText (nd w i) (nd w j)]) ++ [dg (bl (nd w i) j)] by simp, h2, show x :: (l ++ [linkText (nd w i) (nd w j)]) = x :: l ++ [linkText (nd w i) (nd w j)] from rfl, h1]
theorem rowB_size (w : WorldD) (i : Nat) : ∀ j, (rowB w i j).size ≤ 13 + 9 * j
  | 0 => by
    have h1 := role_size (nd w i)
    have h2 := disk_size (nd w i)
    unfold rowB wl
    rw [joinB_three]
    simp only [ByteArray.size_append, dg_size, sp_size]
    omega
  | j + 1 => by
    have h := rowB_size w i j
    by_cases hji : j = i
    · have : rowB w i (j + 1) = rowB w i j := by unfold rowB; rw [wl, if_pos hji]
      rw [this]; omega
    · have h3 := link_size (nd w i) (nd w j)
      rw [rowB_succ w i j hji]
      simp only [ByteArray.size_append, dg_size, sp_size]
      omega
def rep (w : WorldD) : Nat → ByteArray
  | 0 => ⟨#[]⟩
  | i + 1 => rep w i ++ (rowB w i 3 ++ nl)
theorem rep_size (w : WorldD) : ∀ i, (rep w i).size ≤ 41 * i
  | 0 => Nat.le_refl _
  | i + 1 => by
    have h := rep_size w i
    have h2 := rowB_size w i 3
    simp only [rep, ByteArray.size_append, nl_size]
    omega
def report (w : WorldD) : ByteArray := if worldOk w then rep w 3 else ⟨#[]⟩
/-- Marks that are right are eight at most. -/
theorem mk_asc {l : List Int} (h : mkOk l = true) : ∀ j, j < l.length → (j : Int) ≤ l.getD j 0 := by
  intro j
  induction j with
  | zero =>
    intro hj
    have := allB_get h hj
    unfold mkP at this
    rw [Bool.and_eq_true] at this
    exact (inB_iff.1 this.1).1
  | succ j ih =>
    intro hj
    have h1 := ih (by omega)
    have := allB_get h hj
    unfold mkP at this
    rw [Bool.and_eq_true] at this
    have h2 := this.2
    simp at h2
    rw [List.getD_eq_getElem?_getD, List.getD_eq_getElem?_getD] at *
    omega
theorem mk_len {l : List Int} (h : mkOk l = true) : l.length ≤ 8 := by
  rcases Nat.lt_or_ge 8 l.length with h1 | h1
  · exfalso
    have h2 := mk_asc h 8 h1
    have := allB_get h h1
    unfold mkP at this
    rw [Bool.and_eq_true] at this
    have := (inB_iff.1 this.1).2
    omega
  · exact h1
theorem NOk.bits {n : NodeD} (h : NOk n) : n.mt.bits.length = 3 ∧ ∀ x ∈ n.mt.bits, x.length ≤ 8 := by
  have h1 := h.mt
  unfold metaOk at h1
  simp only [Bool.and_eq_true, beq_iff_eq] at h1
  refine ⟨by omega, fun x hx => ?_⟩
  obtain ⟨j, hj⟩ := List.getElem?_of_mem hx
  have h2 := h1.1.1.2.2
  unfold bitsOk at h2
  have := allB_get h2 (List.getElem?_eq_some_iff.1 hj).1
  simp only [getD_of hj] at this
  exact mk_len this
theorem ev_spec_RoleText (x : NodeD) : semK G PK md 69 [.a (lents (fN x))] = some ⟨[.v (.sc (.string (roleText x)))], [], []⟩ := by
  refine semK_of (pf := p69) rfl (by simp [p69]) ?_
  cases h1 : x.up <;> cases h2 : x.prime <;> simp [p69, h1, h2, roleText]
theorem ev_spec_DiskText (x : NodeD) : semK G PK md 70 [.a (lents (fN x))] = some ⟨[.v (.sc (.string (diskText x)))], [], []⟩ := by
  refine semK_of (pf := p70) rfl (by simp [p70]) ?_
  cases h1 : x.mt.fine <;> cases h2 : x.mt.old <;> simp [p70, h1, h2, diskText]
theorem ev_impl_RoleText (x : NodeD) : semK G PK md 73 [.a (lents (fN x))] = some ⟨[.v (.sc (.string (roleText x)))], [], []⟩ := by
  refine semK_of (pf := p73) rfl (by simp [p73]) ?_
  cases h1 : x.up <;> cases h2 : x.prime <;> simp [p73, h1, h2, roleText]
theorem ev_impl_DiskText (x : NodeD) : semK G PK md 74 [.a (lents (fN x))] = some ⟨[.v (.sc (.string (diskText x)))], [], []⟩ := by
  refine semK_of (pf := p74) rfl (by simp [p74]) ?_
  cases h1 : x.mt.fine <;> cases h2 : x.mt.old <;> simp [p74, h1, h2, diskText]
@[simp] def st31_0 (w : WorldD) (x : NodeD) (i : Nat) (out : ByteArray) (j : Nat) : St := { n := 68, m := 0, tm := [(1, .pb 10000200 0), (3, .sc (.string out)), (4, .sc (.int .i64 i)), (5, .pb 10000201 0), (6, .sc (.int .i64 j))], ob := [(10000200, wbox w), (10000201, nbox x)] }
@[simp] def st31_1 (w : WorldD) (out : ByteArray) (j : Nat) : St := { n := 68, m := 0, tm := [(1, .pb 10000000 0), (3, .sc (.string out)), (4, .sc (.int .i64 j))], ob := [(10000000, wbox w)] }
theorem nl_eq : (⟨#[10]⟩ : ByteArray) = nl := rfl
theorem lp31_0 (w : WorldD) (hw : wS w) (hN : NodesOk w) (i : Nat) (hi : i < 3) (A : ByteArray) (hA : A.size ≤ 1000) : ∀ (s : St), s.m ≤ 10000200 → canon 10000200 [1, 3, 4, 5, 6] s = st31_0 w (nd w i) i (A ++ rowB w i 0) 0 → semL G PK md 10000200 [1, 3, 4, 5, 6] b31_0 s = exec (semK G PK md) (semL G PK md) md b31_0 (st31_0 w (nd w i) i (A ++ rowB w i 3) 3) := by
  have h3 := hN.len
  refine loop_ok (G := G) (PK := PK) (md := md) (o := 10000200) (live := [1, 3, 4, 5, 6]) (c := b31_0) (fun j => st31_0 w (nd w i) i (A ++ rowB w i j) j) (3) (fun j hj => ?_) (by simp [b31_0, h3])
  obtain ⟨y, y2, hy, hy', hyd, hym⟩ := get_ex w.nodes zN (j := j) (by omega)
  have hnj : nd w j = y := hyd
  have hinc := incr (n := 3) (j := j) (by omega) (by omega)
  have hj3 : ((j : Nat) : Int) < 3 := by omega
  by_cases hji : j = i
  · have hr : rowB w i (j + 1) = rowB w i j := by unfold rowB; rw [wl, if_pos hji]
    simp only [hr]
    generalize A ++ rowB w i j = out
    subst hji
    simp [b31_0, md, h3, hj3, hinc]
  · have hji' : ¬ ((j : Nat) : Int) = i := by omega
    have hs := rowB_size w i j
    have hr := rowB_succ w i j hji
    have hls := link_size (nd w i) (nd w j)
    simp only [hr]
    rw [← ByteArray.append_assoc, ← ByteArray.append_assoc, ← ByteArray.append_assoc, ← ByteArray.append_assoc]
    have hsz : (A ++ rowB w i j).size ≤ 1100 := by rw [ByteArray.size_append]; omega
    generalize A ++ rowB w i j = out at hsz ⊢
    have nx := hN.ok i hi
    have hxm : nd w i ∈ w.nodes := by
      obtain ⟨x, _, _, _, hxd, hxm⟩ := get_ex w.nodes zN (j := i) (by omega)
      unfold nd; rw [hxd]; exact hxm
    rw [hnj] at hls ⊢
    generalize nd w i = x at nx hls hxm ⊢
    obtain ⟨b, z1, hb, hb', hbd, hbm⟩ := get_ex x.mt.bits [] (j := j) (by rw [nx.bits.1]; omega)
    have hbl : bl x j = b.length := by unfold bl; rw [hbd]
    have h8 := nx.bits.2 b hbm
    rw [hbl]
    have e1 := ev_spec_LinkText (PK := PK) x y (hw.node x hxm) (hw.node y hym)
    have e2 := ev_spec_Digits (PK := PK) b.length (by omega)
    simp only [lents, lent, fN] at e1
    have g1 : out.size + 1 ≤ 9223372036854775807 := by omega
    have g2 : out.size + 1 + (linkText x y).size ≤ 9223372036854775807 := by omega
    have g3 : out.size + 1 + (linkText x y).size + 1 ≤ 9223372036854775807 := by omega
    have g4 : out.size + 1 + (linkText x y).size + 1 + 1 ≤ 9223372036854775807 := by omega
    simp [b31_0, md, h3, hj, hj3, hinc, hji', hy', y2, z1, hb', sp_eq, e1, e2, ByteArray.size_append, g1, g2, g3, g4]
theorem ev_spec_Report (w : WorldD) (hw : wS w) : semK G PK md 31 [.a (lents (fWo w))] = some ⟨[.v (.sc (.string (report w)))], [], []⟩ := by
  refine semK_of (pf := p31) rfl (by simp [p31]) ?_
  have e := ev_spec_WorldOk (PK := PK) w hw
  simp only [lents, lent, fWo] at e
  unfold report
  cases hok : worldOk w
  · rw [hok] at e
    have hsz := loop_ok (G := G) (PK := PK) (md := md) (o := 10000000) (live := [1, 3, 4]) (c := b31_1) (st31_1 w ⟨#[]⟩) (0) (fun j hj => absurd hj (by omega)) (by by_cases h0 : 0 < w.nodes.length <;> simp [b31_1, md, e, h0])
    simp [p31, md]
    rw [hsz]
    · by_cases h0 : 0 < w.nodes.length <;> simp [b31_1, md, e, h0]
    · simp
    · simp
  · rw [hok] at e
    have hN := worldOk_nodes hok
    have h3 := hN.len
    have hsz := loop_ok (G := G) (PK := PK) (md := md) (o := 10000000) (live := [1, 3, 4]) (c := b31_1) (fun j => st31_1 w (rep w j) j) (3) (fun j hj => by
      obtain ⟨x, y1, hx, hx', hxd, hxm⟩ := get_ex w.nodes zN (j := j) (by omega)
      have hnj : nd w j = x := hxd
      have hinc := incr (n := 3) (j := j) (by omega) (by omega)
      have hj3 : ((j : Nat) : Int) < 3 := by omega
      have hrs := rep_size w j
      have hsuc : rep w (j + 1) = rep w j ++ (rowB w j 3 ++ nl) := rfl
      simp only [hsuc]
      rw [← ByteArray.append_assoc]
      have hin := lp31_0 (PK := PK) w hw hN j hj (rep w j) (by omega)
      have h0 : rep w j ++ rowB w j 0 = rep w j ++ dg j ++ sp ++ roleText x ++ sp ++ diskText x := by
        unfold rowB wl
        rw [joinB_three, hnj]
        simp only [ByteArray.append_assoc]
      rw [h0, hnj] at hin
      have hr3 := rowB_size w j 3
      have hsz3 : (rep w j ++ rowB w j 3).size ≤ 1000 := by rw [ByteArray.size_append]; omega
      generalize rep w j ++ rowB w j 3 = R at hin hsz3 ⊢
      have hrs2 : (rep w j).size ≤ 200 := by omega
      generalize rep w j = out at hin hrs2 ⊢
      have e1 := ev_spec_Digits (PK := PK) j (by omega)
      have e2 := ev_spec_RoleText (PK := PK) x
      have e3 := ev_spec_DiskText (PK := PK) x
      simp only [lents, lent, fN] at e2 e3
      have s1 := role_size x
      have s2 := disk_size x
      have g1 : out.size + 1 ≤ 9223372036854775807 := by omega
      have g2 : out.size + 1 + 1 ≤ 9223372036854775807 := by omega
      have g3 : out.size + 1 + 1 + (roleText x).size ≤ 9223372036854775807 := by omega
      have g4 : out.size + 1 + 1 + (roleText x).size + 1 ≤ 9223372036854775807 := by omega
      have g5 : out.size + 1 + 1 + (roleText x).size + 1 + (diskText x).size ≤ 9223372036854775807 := by omega
      have g6 : R.size + 1 ≤ 9223372036854775807 := by omega
      simp [b31_1, md, h3, hj, hj3, e, hx', y1, e1, e2, e3, sp_eq, nl_eq, ByteArray.size_append, g1, g2, g3, g4, g5]
      rw [hin]
      · simp [b31_0, h3, sp_eq, nl_eq, ByteArray.size_append, g6, hinc]
      · simp
      · simp [sp_eq]) (by simp [b31_1, h3])
    simp [p31, md]
    rw [hsz]
    · simp [b31_1, h3]
    · simp
    · simp [rep]
end Go.Proofs.YtjnmfihnioajaaaGreat.Ow
