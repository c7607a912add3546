/- What is wrong with nodes: evaluated. -/
import Derived.Test.YtcbcackolaphhaaGreatEvTroubleStr
namespace Go.Proofs.YtcbcackolaphhaaGreat.Ow
open Go
set_option linter.unusedVariables false
set_option linter.unusedSimpArgs false
set_option maxHeartbeats 4000000
variable {PK : Nat → List Arg → Option Res}
def hears (n : NodeD) : Bool := n.conn.any id
def npr (w : WorldD) (j : Nat) : Bool := !(nd w j).prime
def firstL (w : WorldD) : Int := if allB (npr w) w.nodes.length then -1 else (nd w (fidx (npr w) w.nodes.length).toNat).mt.last
def wc (w : WorldD) (n : NodeD) : Nat := if n.up then (if n.mt.fine then (if n.mt.old then 3 else if hears n then (if decide (0 ≤ firstL w) && !decide (n.mt.last = firstL w) then 5 else 0) else 4) else 2) else 1
def wordOf : Nat → ByteArray
  | 1 => ⟨#[100, 111, 119, 110]⟩
  | 2 => ⟨#[116, 111, 114, 110]⟩
  | 3 => ⟨#[111, 108, 100]⟩
  | 4 => ⟨#[97, 112, 97, 114, 116]⟩
  | 5 => ⟨#[98, 101, 104, 105, 110, 100]⟩
  | _ => ⟨#[]⟩
theorem wc_le (w : WorldD) (n : NodeD) : wc w n ≤ 5 := by unfold wc; repeat (first | split | omega)
theorem word_ne : ∀ c, c ≤ 5 → (wordOf c).toList.isEmpty = decide (c = 0) := by
  intro c hc
  rw [ByteArray.toList_eq]
  rcases (by omega : c = 0 ∨ c = 1 ∨ c = 2 ∨ c = 3 ∨ c = 4 ∨ c = 5) with rfl | rfl | rfl | rfl | rfl | rfl <;> rfl
theorem word_size : ∀ c, c ≤ 5 → (wordOf c).size ≤ 6 := by
  intro c hc
  rcases (by omega : c = 0 ∨ c = 1 ∨ c = 2 ∨ c = 3 ∨ c = 4 ∨ c = 5) with rfl | rfl | rfl | rfl | rfl | rfl <;> decide
@[simp] def st80 (w : WorldD) (j : Nat) : St := { n := 24, m := 0, tm := [(1, .pb 10000000 0), (3, .sc (.int .i64 j))], ob := [(10000000, wbox w)] }
theorem ev_l26First (w : WorldD) (hw : wS w) : semK G PK md 80 [.a (lents (fWo w))] = some ⟨[.v (.sc (.int .i64 (firstL w)))], [], []⟩ := by
  refine semK_of (pf := p80) rfl (by simp [p80]) ?_
  obtain ⟨bad, hb, hsz⟩ := loop_find (G := G) (PK := PK) (md := md) (o := 10000000) (live := [1, 3]) (c := b80_0) (st80 w) (npr w) (w.nodes.length) (fun k s => s.m = 0 ∧ getT s.tm 2 = .sc (.int .i64 (nd w k).mt.last)) (fun j hj => by
    obtain ⟨x, y1, hx, hx', hxd, hxm⟩ := get_ex w.nodes zN hj
    have hinc := incr hj hw.nodes
    unfold npr nd
    rw [hxd]
    cases hp : x.prime <;> simp [b80_0, md, hj, hx', hinc, hp]) (by simp [b80_0])
  unfold firstL
  cases hp : allB (npr w) w.nodes.length
  · obtain ⟨k, hk, h1, h2, hm, ht⟩ := hb hp
    rw [fidx_false hk h1 h2]
    simp only [hp] at hsz
    simp [p80, md]
    rw [hsz]
    · simp [hm, ht]
    · simp
    · simp
  · simp only [hp] at hsz
    simp [p80, md]
    rw [hsz]
    · simp [b80_0]
    · simp
    · simp
theorem any_take (l : List Bool) {j : Nat} {x : Bool} (h : l[j]? = some x) : (l.take (j + 1)).any id = ((l.take j).any id || x) := by
  rw [List.take_add_one, h]
  simp
@[simp] def st47 (w : WorldD) (n : NodeD) (b : Bool) (j : Nat) : St := { n := 51, m := 0, tm := [(2, .pb 10000000 0), (3, .pb 10000001 0), (5, .sc (.bool b)), (6, .sc (.int .i64 j))], ob := [(10000000, wbox w), (10000001, nbox n)] }
theorem ev_l26Word (w : WorldD) (n : NodeD) (hw : wS w) (hn : nS n) : semK G PK md 47 [.a (lents (fWo w)), .a (lents (fN n))] = some ⟨[.v (.sc (.string (wordOf (wc w n))))], [], []⟩ := by
  refine semK_of (pf := p47) rfl (by simp [p47]) ?_
  have e := ev_l26First (PK := PK) w hw
  simp only [lents, lent, fWo] at e
  have hsz := loop_ok (G := G) (PK := PK) (md := md) (o := 10000000) (live := [2, 3, 5, 6]) (c := b47_0) (fun j => st47 w n ((n.conn.take j).any id) j) (n.conn.length) (fun j hj => by
    obtain ⟨x, y1, hx, hx', _, _⟩ := get_ex n.conn false hj
    have hinc := incr hj hn.conn
    simp only [any_take n.conn hx]
    cases (n.conn.take j).any id <;> simp [b47_0, hj, hx', hinc]) (by simp [b47_0])
  have hfull : (n.conn.take n.conn.length).any id = hears n := by rw [List.take_length]; rfl
  simp only [hfull] at hsz
  unfold wc
  generalize firstL w = f at e ⊢
  simp [p47, md]
  rw [hsz]
  · cases h1 : n.up
    · simp [b47_0, md, e, h1, wordOf]
    cases h2 : n.mt.fine
    · simp [b47_0, md, e, h1, h2, wordOf]
    cases h3 : n.mt.old
    · cases h4 : hears n
      · simp [b47_0, md, e, h1, h2, h3, wordOf]
      · by_cases h5 : 0 ≤ f
        · by_cases h6 : n.mt.last = f
          · simp [b47_0, md, e, h1, h2, h3, h5, h6, wordOf]
          · simp [b47_0, md, e, h1, h2, h3, h5, h6, wordOf]
        · simp [b47_0, md, e, h1, h2, h3, h5, wordOf]
    · simp [b47_0, md, e, h1, h2, h3, wordOf]
  · simp
  · simp
/-- The rows of what is wrong. -/
def trb (w : WorldD) : Nat → List ByteArray
  | 0 => []
  | j + 1 => if wc w (nd w j) = 0 then trb w j else trb w j ++ [dg j ++ sp ++ wordOf (wc w (nd w j))]
theorem trb_len (w : WorldD) : ∀ j, (trb w j).length ≤ j
  | 0 => Nat.le_refl _
  | j + 1 => by
    have := trb_len w j
    unfold trb
    split
    · omega
    · simp only [List.length_append, List.length_cons, List.length_nil]; omega
def trouble (w : WorldD) : List ByteArray := if worldOk w then trb w 3 else []
@[simp] def st18 (w : WorldD) (W : List ByteArray) (j : Nat) : St := { n := 36, m := 0, tm := [(1, .pb 10000000 0), (3, .ref 10000001 []), (4, .sc (.int .i64 j))], ob := [(10000000, wbox w), (10000001, .arr 1 (enc fS W))] }
theorem ev_spec_Trouble (w : WorldD) (hw : wS w) : semK G PK md 18 [.a (lents (fWo w))] = some ⟨[.v (.own 1 (enc fS (trouble w)))], [], []⟩ := by
  refine semK_of (pf := p18) rfl (by simp [p18]) ?_
  have e := ev_spec_WorldOk (PK := PK) w hw
  simp only [lents, lent, fWo] at e
  unfold trouble
  cases hok : worldOk w
  · rw [hok] at e
    have hsz := loop_ok (G := G) (PK := PK) (md := md) (o := 10000000) (live := [1, 3, 4]) (c := b18_0) (st18 w []) (0) (fun j hj => absurd hj (by omega)) (by by_cases h0 : 0 < w.nodes.length <;> simp [b18_0, md, e, h0])
    simp [p18, md]
    rw [hsz]
    · by_cases h0 : 0 < w.nodes.length <;> simp [b18_0, md, e, h0]
    · simp
    · simp
  · rw [hok] at e
    have hN := worldOk_nodes hok
    have h3 := hN.len
    have hsz := loop_ok (G := G) (PK := PK) (md := md) (o := 10000000) (live := [1, 3, 4]) (c := b18_0) (fun j => st18 w (trb w j) j) (3) (fun j hj => by
      obtain ⟨x, y1, hx, hx', hxd, hxm⟩ := get_ex w.nodes zN (j := j) (by omega)
      have hnj : nd w j = x := hxd
      have hinc := incr (n := 3) (j := j) (by omega) (by omega)
      have hj3 : ((j : Nat) : Int) < 3 := by omega
      have e2 := ev_l26Word (PK := PK) w x hw (hw.node x hxm)
      simp only [lents, lent, fWo, fN] at e2
      have hc5 := wc_le w x
      have hne := word_ne _ hc5
      have hws := word_size _ hc5
      have htl := trb_len w j
      have hsuc : trb w (j + 1) = if wc w x = 0 then trb w j else trb w j ++ [dg j ++ sp ++ wordOf (wc w x)] := by rw [trb, hnj]
      simp only [hsuc]
      generalize trb w j = W at htl ⊢
      generalize wc w x = c at e2 hne hws ⊢
      by_cases hc0 : c = 0
      · rw [decide_eq_true hc0] at hne
        have hne2 := List.isEmpty_iff.1 hne
        simp [b18_0, md, h3, hj, hj3, e, hx', y1, e2, hne, hne2, eq_true hc0, hinc]
      · rw [decide_eq_false hc0] at hne
        have hne2 : ¬ (wordOf c).toList = [] := fun h => by rw [h] at hne; cases hne
        have e3 := ev_spec_Digits (PK := PK) j (by omega)
        have g1 : 2 + (wordOf c).size ≤ 9223372036854775807 := by omega
        have g2 : (W.length + 1) * 16 ≤ 35184372088832 := by omega
        simp [b18_0, md, h3, hj, hj3, e, hx', y1, e2, hne, hne2, hc0, hinc, e3, sp_eq, ByteArray.size_append, g1, encS1, g2]) (by simp [b18_0, h3])
    simp [p18, md]
    rw [hsz]
    · simp [b18_0, h3]
    · simp
    · simp [trb]
end Go.Proofs.YtcbcackolaphhaaGreat.Ow
