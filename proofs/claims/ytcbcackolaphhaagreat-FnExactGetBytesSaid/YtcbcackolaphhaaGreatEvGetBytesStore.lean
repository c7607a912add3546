/- Stores that are right, snaps, moments, being sure: evaluated. -/
import Derived.Test.YtcbcackolaphhaaGreatEvGetBytesWorldI
namespace Go.Proofs.YtcbcackolaphhaaGreat.Ow
open Go
set_option linter.unusedVariables false
set_option linter.unusedSimpArgs false
set_option maxHeartbeats 4000000
variable {PK : Nat → List Arg → Option Res}
def blkOk (b : List Int) : Bool := decide (b.length = 8)
def storeOk (s : StoreD) : Bool := worldOk s.w && decide (s.blocks.length = s.w.log.length) && s.blocks.all blkOk
structure stS (s : StoreD) : Prop where
  w : wS s.w
  blocks : s.blocks.length ≤ 1048576
  block : ∀ b ∈ s.blocks, byt b
theorem all_allB {α : Type} (q : α → Bool) (l : List α) (d : α) : allB (fun j => q (l.getD j d)) l.length = l.all q := by
  cases h : l.all q
  · rw [List.all_eq_false] at h
    obtain ⟨x, hx, h2⟩ := h
    obtain ⟨j, hj⟩ := List.getElem?_of_mem hx
    exact allB_false (List.getElem?_eq_some_iff.1 hj).1 (by simp only [getD_of hj]; simpa using h2)
  · refine allB_true fun j hj => ?_
    obtain ⟨x, _, hx, _, hd, hm⟩ := get_ex l d hj
    rw [hd]
    exact List.all_eq_true.1 h x hm
@[simp] def sbox (s : StoreD) : Obj := .box [.im 16 (enc fN s.w.nodes), .im 3 (enc fW s.w.net), .im 2 (enc fR s.w.log), .im 1 (enc fI s.w.safe), .sc (.int .i64 s.w.gen), .im 1 (enc fUU s.blocks)]
theorem ev_spec_BlockOk (b : List Int) : semK G PK md 67 [.v (.im 1 (enc fU b))] = some ⟨[.v (.sc (.bool (blkOk b)))], [], []⟩ := by
  refine semK_of (pf := p67) rfl (by simp [p67]) ?_
  unfold blkOk
  by_cases h : b.length = 8
  · have h' : (b.length : Int) = 8 := by omega
    simp [p67, h, h']
  · have h' : ¬ (b.length : Int) = 8 := by omega
    simp [p67, h, h']
theorem ev_impl_BlockOk (b : List Int) : semK G PK md 71 [.v (.im 1 (enc fU b))] = some ⟨[.v (.sc (.bool (blkOk b)))], [], []⟩ := by
  refine semK_of (pf := p71) rfl (by simp [p71]) ?_
  unfold blkOk
  by_cases h : b.length = 8
  · have h' : (b.length : Int) = 8 := by omega
    simp [p71, h, h']
  · have h' : ¬ (b.length : Int) = 8 := by omega
    simp [p71, h, h']
theorem ev_StoreOk1 (b : List Int) : semK G PK md 70 [.v (.im 1 (enc fU b))] = some ⟨[.v (.sc (.bool (!blkOk b)))], [], []⟩ := by
  refine semK_of (pf := p70) rfl (by simp [p70]) ?_
  have e := ev_impl_BlockOk (PK := PK) b
  simp [p70, md, e]
@[simp] def st27 (s : StoreD) (j : Nat) : St := { n := 31, m := 0, tm := [(1, .pb 10000000 0), (3, .sc (.int .i64 j))], ob := [(10000000, sbox s)] }
theorem ev_spec_StoreOk (s : StoreD) (hs : stS s) : semK G PK md 27 [.a (lents (fSt s))] = some ⟨[.v (.sc (.bool (storeOk s)))], [], []⟩ := by
  refine semK_of (pf := p27) rfl (by simp [p27]) ?_
  have e := ev_spec_WorldOk (PK := PK) s.w hs.w
  simp only [lents, lent, fWo] at e
  unfold storeOk
  rw [← all_allB blkOk s.blocks []]
  obtain ⟨bad, hb, hsz⟩ := loop_all (G := G) (PK := PK) (md := md) (o := 10000000) (live := [1, 3]) (c := b27_0) (st27 s) (fun j => blkOk (s.blocks.getD j [])) (s.blocks.length) (fun s => s.m = 0 ∧ getT s.tm 2 = .sc (.bool false)) (fun j hj => by
    obtain ⟨x, y1, hx, hx', hxd, hxm⟩ := get_ex s.blocks [] hj
    have hinc := incr hj hs.blocks
    have e := ev_spec_BlockOk (PK := PK) x
    simp only [hxd]
    generalize blkOk x = b1 at e ⊢
    cases b1 <;> simp [b27_0, md, hj, hx', e, hinc]) (by simp [b27_0])
  cases hp : allB (fun j => blkOk (s.blocks.getD j [])) s.blocks.length
  · obtain ⟨g1, g2⟩ := hb hp
    simp only [hp] at hsz
    simp [p27, md]
    rw [hsz]
    · simp [g1, g2]
    · simp
    · simp
  · simp only [hp] at hsz
    generalize worldOk s.w = b2 at e ⊢
    simp [p27, md]
    rw [hsz]
    · cases b2
      · simp [b27_0, md, e]
      · by_cases hl : s.blocks.length = s.w.log.length
        · have hl' : (s.blocks.length : Int) = s.w.log.length := by omega
          simp [b27_0, md, e, hl, hl']
        · have hl' : ¬ (s.blocks.length : Int) = s.w.log.length := by omega
          simp [b27_0, md, e, hl, hl']
    · simp
    · simp
theorem ev_impl_StoreOk (s : StoreD) (hs : stS s) : semK G PK md 31 [.a (lents (fSt s))] = some ⟨[.v (.sc (.bool (storeOk s)))], [], []⟩ := by
  refine semK_of (pf := p31) rfl (by simp [p31]) ?_
  have e := ev_impl_WorldOk (PK := PK) s.w hs.w
  have e2 := ev_HasUU0 (PK := PK) 70 (fun b => !blkOk b) s.blocks hs.blocks rfl (fun b _ => ev_StoreOk1 b)
  simp only [lents, lent, fWo] at e
  unfold storeOk
  have hq : s.blocks.any (fun b => !blkOk b) = !s.blocks.all blkOk := by rw [List.not_all_eq_any_not]
  rw [hq] at e2
  generalize worldOk s.w = b2 at e ⊢
  cases b2
  · simp [p31, md, e]
  by_cases hl : s.blocks.length = s.w.log.length
  case neg =>
    have hl' : ¬ (s.blocks.length : Int) = s.w.log.length := by omega
    simp [p31, md, e, hl, hl']
  have hl' : (s.blocks.length : Int) = s.w.log.length := by omega
  generalize s.blocks.all blkOk = b3 at e2 ⊢
  cases b3
  · simp [p31, md, e, hl, hl', e2]
  · simp [p31, md, e, hl, hl', e2]
theorem storeOk_w {s : StoreD} (h : storeOk s = true) : worldOk s.w = true := by
  unfold storeOk at h
  simp only [Bool.and_eq_true] at h
  exact h.1.1
end Go.Proofs.YtcbcackolaphhaaGreat.Ow
