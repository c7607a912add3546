/- Moments: evaluated. -/
import Derived.Test.YtjnmfihnioajaaaGreatEvMomentOfSnap
namespace Go.Proofs.YtjnmfihnioajaaaGreat.Ow
open Go
set_option linter.unusedVariables false
set_option linter.unusedSimpArgs false
set_option maxHeartbeats 4000000
variable {PK : Nat → List Arg → Option Res}
def momP (w : WorldD) (m : List Int) (j : Nat) : Bool := !decide ((snapAt w ((w.log.length : Int) - j)).1.image = m)
def momentOf (w : WorldD) (m : List Int) : Int × Bool :=
  if worldOk w then
    if allB (momP w m) (w.log.length + 1) then (0, false) else ((w.log.length : Int) - fidx (momP w m) (w.log.length + 1), true)
  else (0, false)
@[simp] def st19 (w : WorldD) (m : List Int) (n : Int) : St := { n := 33, m := 0, tm := [(1, .im 1 (enc fI m)), (2, .pb 10000000 0), (6, .sc (.int .i64 n))], ob := [(10000000, wbox w)] }
@[simp] def st21 (w : WorldD) (m : List Int) (n : Int) : St := { n := 30, m := 0, tm := [(1, .im 1 (enc fI m)), (2, .pb 10000000 0), (6, .sc (.int .i64 n))], ob := [(10000000, wbox w)] }
theorem snapAt_ok (w : WorldD) {n : Int} (h0 : 0 ≤ n) (h1 : n ≤ w.log.length) : (snapAt w n).2 = true ∧ (snapAt w n).1.last = n := by unfold snapAt; rw [if_pos ⟨h0, h1⟩]; exact ⟨rfl, rfl⟩
theorem ev_spec_MomentOf (w : WorldD) (m : List Int) (hw : wS w) (hm : m.length ≤ 1048576) : semK G PK md 19 [.a (lents (fWo w)), .v (.im 1 (enc fI m))] = some ⟨[.v (.sc (.int .i64 (momentOf w m).1)), .v (.sc (.bool (momentOf w m).2))], [], []⟩ := by
  refine semK_of (pf := p19) rfl (by simp [p19]) ?_
  have e := ev_spec_WorldOk (PK := PK) w hw
  simp only [lents, lent, fWo] at e
  unfold momentOf
  cases hok : worldOk w
  · rw [hok] at e
    simp [p19, md, e]
  rw [hok] at e
  have hlog := hw.log
  obtain ⟨f, hf⟩ : ∃ f : Nat → Int, ∀ j : Nat, f j = (w.log.length : Int) - j := ⟨_, fun _ => rfl⟩
  have hf0 : f 0 = w.log.length := by rw [hf]; simp
  have hneg : ¬ (0 : Int) ≤ f (w.log.length + 1) := by rw [hf]; omega
  obtain ⟨bad, hb, hsz⟩ := loop_find (G := G) (PK := PK) (md := md) (o := 10000000) (live := [1, 2, 6]) (c := b19_0) (fun j => st19 w m (f j)) (momP w m) (w.log.length + 1) (fun k s => s.m = 0 ∧ getT s.tm 4 = .sc (.int .i64 (f k)) ∧ getT s.tm 5 = .sc (.bool true)) (fun j hj => by
    have hdec : IntKind.wrap .i64 (f j - 1) = f (j + 1) := by rw [hf, hf, wrap_id (by omega) (by omega)]; omega
    have hn := hf j
    generalize f j = n at hn hdec ⊢
    generalize f (j + 1) = n1 at hdec ⊢
    have h0 : 0 ≤ n := by omega
    obtain ⟨so, sl⟩ := snapAt_ok w h0 (by omega)
    have e2 := ev_spec_SnapAt (PK := PK) w n hw.log
    rw [so] at e2
    have e3 := ev_l5Same (PK := PK) (snapAt w n).1.image m (by have := snapAt_len w n; omega)
    unfold momP
    rw [← hn]
    simp only [lents, lent, fWo, fSn, owneds, owned] at e2
    generalize (snapAt w n).1.image = img at e2 e3 ⊢
    cases hd : decide (img = m)
    · rw [hd] at e3
      simp [b19_0, md, h0, e2, e3, hdec]
    · rw [hd] at e3
      simp [b19_0, md, h0, e2, e3]) (by simp [b19_0, hneg])
  cases hp : allB (momP w m) (w.log.length + 1)
  · obtain ⟨k, hk, h1, h2, hm2, ht1, ht2⟩ := hb hp
    rw [fidx_false hk h1 h2, ← hf k]
    simp only [hp] at hsz
    simp [p19, md, e]
    rw [hsz]
    · simp [hm2, ht1, ht2]
    · simp
    · simp [hf0]
  · simp only [hp] at hsz
    simp [p19, md, e]
    rw [hsz]
    · simp [b19_0, hneg]
    · simp
    · simp [hf0]
theorem ev_impl_MomentOf (hC : ∀ l : List Int, l.length ≤ 1048576 → semK G PK md 62 [.v (.im 1 (enc fI l))] = some ⟨[.v (.own 1 (enc fI l))], [], []⟩) (w : WorldD) (m : List Int) (hw : wS w) (hm : m.length ≤ 1048576) : semK G PK md 21 [.a (lents (fWo w)), .v (.im 1 (enc fI m))] = some ⟨[.v (.sc (.int .i64 (momentOf w m).1)), .v (.sc (.bool (momentOf w m).2))], [], []⟩ := by
  refine semK_of (pf := p21) rfl (by simp [p21]) ?_
  have e := ev_impl_WorldOk (PK := PK) w hw
  simp only [lents, lent, fWo] at e
  unfold momentOf
  cases hok : worldOk w
  · rw [hok] at e
    simp [p21, md, e]
  rw [hok] at e
  have hlog := hw.log
  obtain ⟨f, hf⟩ : ∃ f : Nat → Int, ∀ j : Nat, f j = (w.log.length : Int) - j := ⟨_, fun _ => rfl⟩
  have hf0 : f 0 = w.log.length := by rw [hf]; simp
  have hneg : ¬ (0 : Int) ≤ f (w.log.length + 1) := by rw [hf]; omega
  obtain ⟨bad, hb, hsz⟩ := loop_find (G := G) (PK := PK) (md := md) (o := 10000000) (live := [1, 2, 6]) (c := b21_0) (fun j => st21 w m (f j)) (momP w m) (w.log.length + 1) (fun k s => s.m = 0 ∧ getT s.tm 4 = .sc (.int .i64 (f k)) ∧ getT s.tm 5 = .sc (.bool true)) (fun j hj => by
    have hdec : IntKind.wrap .i64 (f j - 1) = f (j + 1) := by rw [hf, hf, wrap_id (by omega) (by omega)]; omega
    have hn := hf j
    generalize f j = n at hn hdec ⊢
    generalize f (j + 1) = n1 at hdec ⊢
    have h0 : 0 ≤ n := by omega
    obtain ⟨so, sl⟩ := snapAt_ok w h0 (by omega)
    have e2 := ev_impl_SnapAt (PK := PK) hC w n hw.log
    rw [so] at e2
    have e3 := ev_Equal (PK := PK) (snapAt w n).1.image m (by have := snapAt_len w n; omega)
    unfold momP
    rw [← hn]
    simp only [lents, lent, fWo, fSn, owneds, owned] at e2
    generalize (snapAt w n).1.image = img at e2 e3 ⊢
    cases hd : decide (img = m)
    · rw [hd] at e3
      simp [b21_0, md, h0, e2, e3, hdec]
    · rw [hd] at e3
      simp [b21_0, md, h0, e2, e3]) (by simp [b21_0, hneg])
  cases hp : allB (momP w m) (w.log.length + 1)
  · obtain ⟨k, hk, h1, h2, hm2, ht1, ht2⟩ := hb hp
    rw [fidx_false hk h1 h2, ← hf k]
    simp only [hp] at hsz
    simp [p21, md, e]
    rw [hsz]
    · simp [hm2, ht1, ht2]
    · simp
    · simp [hf0]
  · simp only [hp] at hsz
    simp [p21, md, e]
    rw [hsz]
    · simp [b21_0, hneg]
    · simp
    · simp [hf0]
end Go.Proofs.YtjnmfihnioajaaaGreat.Ow
