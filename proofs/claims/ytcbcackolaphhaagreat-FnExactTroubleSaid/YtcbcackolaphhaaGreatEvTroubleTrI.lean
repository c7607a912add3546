/- What is wrong with nodes, the code: evaluated. -/
import Derived.Test.YtcbcackolaphhaaGreatEvTroubleTr
namespace Go.Proofs.YtcbcackolaphhaaGreat.Ow
open Go
set_option linter.unusedVariables false
set_option linter.unusedSimpArgs false
set_option maxHeartbeats 4000000
variable {PK : Nat → List Arg → Option Res}
def prs (w : WorldD) (j : Nat) : List Int := ((List.range j).filter (fun i => (nd w i).prime)).map fun (i : Nat) => (i : Int)
theorem prs_succ (w : WorldD) (j : Nat) : prs w (j + 1) = if (nd w j).prime then prs w j ++ [(j : Int)] else prs w j := by
  unfold prs
  rw [List.range_succ, List.filter_append, List.map_append]
  split
  · rename_i h; simp [h]
  · rename_i h; simp [h]
theorem prs_none {w : WorldD} : ∀ {k : Nat}, (∀ j, j < k → npr w j = true) → prs w k = []
  | 0, _ => rfl
  | k + 1, h => by
    have h1 := h k (by omega)
    unfold npr at h1
    simp at h1
    rw [prs_succ, h1, prs_none fun j hj => h j (by omega)]
    rfl
theorem prs_some {w : WorldD} {k : Nat} (h : ∀ j, j < k → npr w j = true) (hk : npr w k = false) : ∀ d, ∃ l, prs w (k + 1 + d) = (k : Int) :: l
  | 0 => by
    unfold npr at hk
    simp at hk
    exact ⟨[], by rw [Nat.add_zero, prs_succ, hk, prs_none h]; rfl⟩
  | d + 1 => by
    obtain ⟨l, hl⟩ := prs_some h hk d
    rw [← Nat.add_assoc, prs_succ, hl]
    split
    · exact ⟨l ++ [((k + 1 + d : Nat) : Int)], rfl⟩
    · exact ⟨l, rfl⟩
theorem prs_len (w : WorldD) : ∀ j, (prs w j).length ≤ j
  | 0 => Nat.le_refl _
  | j + 1 => by
    have := prs_len w j
    rw [prs_succ]
    split
    · simp only [List.length_append, List.length_cons, List.length_nil]; omega
    · omega
@[simp] def st85 (w : WorldD) (l : List Int) (j : Nat) : St := { n := 23, m := 0, tm := [(3, .ref 10000000 []), (8, .im 16 (enc fN w.nodes)), (9, .sc (.int .i64 w.nodes.length)), (10, .sc (.int .i64 j))], ob := [(10000000, .arr 1 (enc fI l))] }
theorem encI1 (l : List Int) (n : Int) : enc fI l ++ [[T.sc (.int .i64 n)]] = enc fI (l ++ [n]) := by simp [enc]
theorem ev_primes (w : WorldD) (hw : wS w) : semK G PK md 85 [.a (lents (fWo w))] = some ⟨[.v (.own 1 (enc fI (prs w w.nodes.length)))], [], []⟩ := by
  refine semK_of (pf := p85) rfl (by simp [p85]) ?_
  have hsz := loop_ok (G := G) (PK := PK) (md := md) (o := 10000000) (live := [3, 8, 9, 10]) (c := b85_0) (fun j => st85 w (prs w j) j) (w.nodes.length) (fun j hj => by
    obtain ⟨x, y1, hx, hx', hxd, hxm⟩ := get_ex w.nodes zN hj
    have hnj : nd w j = x := hxd
    have hinc := incr hj hw.nodes
    have hpl := prs_len w j
    have hwn := hw.nodes
    simp only [prs_succ, hnj]
    generalize prs w j = l at hpl ⊢
    have g1 : (l.length + 1) * 8 ≤ 35184372088832 := by omega
    cases hp : x.prime <;> simp [b85_0, md, hj, hx', hinc, hp, encI1, g1]) (by simp [b85_0])
  simp [p85, md]
  rw [hsz]
  · simp [b85_0]
  · simp
  · simp [prs]
@[simp] def st110 (l : List Bool) (b : Bool) (j : Nat) : St := { n := 19, m := 0, tm := [(0, .im 1 (enc fL l)), (1, .sc (.bool b)), (7, .sc (.int .i64 l.length)), (8, .sc (.int .i64 j))], ob := [] }
theorem ev_IndexB (l : List Bool) (hl : l.length ≤ 1048576) : semK G PK md 110 [.v (.im 1 (enc fL l)), .v (.sc (.bool true))] = some ⟨[.v (.sc (.int .i64 (fidx (fun j => !l.getD j false) l.length)))], [], []⟩ := by
  refine semK_of (pf := p110) rfl (by simp [p110]) ?_
  obtain ⟨bad, hb, hsz⟩ := loop_find (G := G) (PK := PK) (md := md) (o := 10000000) (live := [0, 1, 7, 8]) (c := b110_0) (st110 l true) (fun j => !l.getD j false) (l.length) (fun k s => s.m = 0 ∧ getT s.tm 4 = .sc (.int .i64 k)) (fun j hj => by
    obtain ⟨x, y1, hx, hx', hxd, _⟩ := get_ex l false hj
    have hinc := incr hj hl
    simp only [hxd]
    cases x <;> simp [b110_0, md, hj, hx', hinc]) (by simp [b110_0])
  cases hp : allB (fun j => !l.getD j false) l.length
  · obtain ⟨k, hk, h1, h2, hm, ht⟩ := hb hp
    rw [fidx_false hk h1 h2]
    simp only [hp] at hsz
    simp [p110, md]
    rw [hsz]
    · simp [hm, ht]
    · simp
    · simp
  · rw [fidx_true (fun j hj => allB_get hp hj)]
    simp only [hp] at hsz
    simp [p110, md]
    rw [hsz]
    · simp [b110_0]
    · simp
    · simp
theorem ev_ContainsB (l : List Bool) (hl : l.length ≤ 1048576) : semK G PK md 86 [.v (.im 1 (enc fL l)), .v (.sc (.bool true))] = some ⟨[.v (.sc (.bool (l.any id)))], [], []⟩ := by
  refine semK_of (pf := p86) rfl (by simp [p86]) ?_
  have e := ev_IndexB (PK := PK) l hl
  have h := any_fidx (fun b : Bool => b) l false
  rw [show l.any (fun b => b) = l.any id from rfl] at h
  simp [p86, md, e]
  simpa using h
theorem ev_trouble (w : WorldD) (n : NodeD) (hw : wS w) (hn : nS n) (hN : NodesOk w) : semK G PK md 54 [.a (lents (fWo w)), .a (lents (fN n))] = some ⟨[.v (.sc (.string (wordOf (wc w n))))], [], []⟩ := by
  refine semK_of (pf := p54) rfl (by simp [p54]) ?_
  have e := ev_primes (PK := PK) w hw
  have e2 := ev_ContainsB (PK := PK) n.conn hn.conn
  rw [show n.conn.any id = hears n from rfl] at e2
  simp only [lents, lent, fWo] at e
  unfold wc firstL
  cases h1 : n.up
  · simp [p54, md, e, h1, wordOf]
  cases h2 : n.mt.fine
  · simp [p54, md, e, h1, h2, wordOf]
  cases h3 : n.mt.old
  case true => simp [p54, md, e, h1, h2, h3, wordOf]
  cases h4 : hears n
  · rw [h4] at e2
    simp [p54, md, e, e2, h1, h2, h3, wordOf]
  rw [h4] at e2
  obtain ⟨k, hk, hp, hkn⟩ := first (fun j => npr w j = true) w.nodes.length
  rcases hkn with rfl | ⟨hlt, hnk⟩
  · rw [prs_none hp] at e
    rw [allB_true hp]
    simp [p54, md, e, e2, h1, h2, h3, wordOf]
  · have hnk' : npr w k = false := by simpa using hnk
    obtain ⟨l, hl⟩ := prs_some hp hnk' (w.nodes.length - (k + 1))
    rw [show k + 1 + (w.nodes.length - (k + 1)) = w.nodes.length by omega] at hl
    rw [hl] at e
    rw [allB_false hlt hnk', fidx_false hlt hp hnk', Int.toNat_natCast]
    obtain ⟨x, y1, hx, hx', hxd, hxm⟩ := get_ex w.nodes zN hlt
    have hnk2 : nd w k = x := hxd
    have hl3 := hN.len
    have nx := hN.ok k (by omega)
    rw [hnk2] at nx ⊢
    have h0 : 0 ≤ x.mt.last := by
      have := nx.mt
      unfold metaOk at this
      simp only [Bool.and_eq_true] at this
      exact (inB_iff.1 this.1.2).1
    by_cases h6 : n.mt.last = x.mt.last
    · simp [p54, md, e, e2, h1, h2, h3, wordOf, hlt, hx', h0, h6]
    · have h7 : ¬ x.mt.last = n.mt.last := fun h => h6 h.symm
      simp [p54, md, e, e2, h1, h2, h3, wordOf, hlt, hx', h0, h6, h7]
@[simp] def st20 (w : WorldD) (W : List ByteArray) (j : Nat) : St := { n := 35, m := 0, tm := [(1, .pb 10000000 0), (3, .ref 10000001 []), (13, .im 16 (enc fN w.nodes)), (14, .sc (.int .i64 w.nodes.length)), (15, .sc (.int .i64 j))], ob := [(10000000, wbox w), (10000001, .arr 1 (enc fS W))] }
theorem ev_impl_Trouble (hJ : ∀ xs : List ByteArray, xs.length ≤ 1000 → (joinB xs sp).size ≤ 1000000 → semK G PK md 55 [.v (.im 1 (enc fS xs))] = some ⟨[.v (.sc (.string (joinB xs sp)))], [], []⟩) (w : WorldD) (hw : wS w) : semK G PK md 20 [.a (lents (fWo w))] = some ⟨[.v (.own 1 (enc fS (trouble w)))], [], []⟩ := by
  refine semK_of (pf := p20) rfl (by simp [p20]) ?_
  have e := ev_impl_WorldOk (PK := PK) w hw
  simp only [lents, lent, fWo] at e
  unfold trouble
  cases hok : worldOk w
  · rw [hok] at e
    simp [p20, md, e]
  · rw [hok] at e
    have hN := worldOk_nodes hok
    have h3 := hN.len
    have hsz := loop_ok (G := G) (PK := PK) (md := md) (o := 10000000) (live := [1, 3, 13, 14, 15]) (c := b20_0) (fun j => st20 w (trb w j) j) (3) (fun j hj => by
      obtain ⟨x, y1, hx, hx', hxd, hxm⟩ := get_ex w.nodes zN (j := j) (by omega)
      have hnj : nd w j = x := hxd
      have hinc := incr (n := 3) (j := j) (by omega) (by omega)
      have hj3 : ((j : Nat) : Int) < 3 := by omega
      have e2 := ev_trouble (PK := PK) w x hw (hw.node x hxm) hN
      simp only [lents, lent, fWo, fN] at e2
      have hc5 := wc_le w x
      have hne := word_ne _ hc5
      have hws := word_size _ hc5
      have htl := trb_len w j
      have hsuc : trb w (j + 1) = if wc w x = 0 then trb w j else trb w j ++ [dg j ++ sp ++ wordOf (wc w x)] := by rw [trb, hnj]
      simp only [hsuc]
      generalize trb w j = W at htl ⊢
      generalize wc w x = c at e2 hne hws ⊢
      by_cases hc0 : c = 0
      · rw [decide_eq_true hc0] at hne
        have hne2 := List.isEmpty_iff.1 hne
        simp [b20_0, md, h3, hj, hj3, hx', y1, e2, hne, hne2, eq_true hc0, hinc]
      · rw [decide_eq_false hc0] at hne
        have hne2 : ¬ (wordOf c).toList = [] := fun h => by rw [h] at hne; cases hne
        have e3 := ev_impl_Digits (PK := PK) j (by omega)
        have e4 := hJ [dg j, wordOf c] (by simp) (by rw [joinB_two]; simp only [ByteArray.size_append, dg_size, sp_size]; omega)
        rw [joinB_two] at e4
        have g2 : (W.length + 1) * 16 ≤ 35184372088832 := by omega
        simp only [enc_cons, enc_nil, fS] at e4
        simp [b20_0, md, h3, hj, hj3, hx', y1, e2, hne, hne2, hc0, hinc, e3, e4, encS1, g2]) (by simp [b20_0, h3])
    simp [p20, md, e]
    rw [hsz]
    · simp [b20_0, h3]
    · simp
    · simp [trb, h3]
end Go.Proofs.YtcbcackolaphhaaGreat.Ow
