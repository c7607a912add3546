/- Words compared, marked, held: evaluated. -/
import Derived.Test.YtcbcackolaphhaaGreatEvTroubleMarksW
namespace Go.Proofs.YtcbcackolaphhaaGreat.Ow
open Go
set_option linter.unusedVariables false
set_option linter.unusedSimpArgs false
set_option maxHeartbeats 4000000
variable {PK : Nat → List Arg → Option Res}
@[simp] def st21 (l : List ByteArray) (j : Nat) : St := { n := 26, m := 0, tm := [(0, .im 1 (enc fS l)), (1, .im 1 (enc fS l)), (5, .sc (.int .i64 j))], ob := [] }
theorem ev_eqStringS (l : List ByteArray) (hl : l.length ≤ 1048576) : semK G PK md 21 [.v (.im 1 (enc fS l)), .v (.im 1 (enc fS l))] = some ⟨[.v (.sc (.bool true))], [], []⟩ := by
  refine semK_of (pf := p21) rfl (by simp [p21]) ?_
  have hsz := loop_ok (G := G) (PK := PK) (md := md) (o := 10000000) (live := [0, 1, 5]) (c := b21_0) (st21 l) (l.length) (fun j hj => by
    obtain ⟨x, y1, hx, hx', _, _⟩ := get_ex l sp hj
    have hinc := incr hj hl
    simp [b21_0, hj, hx', hinc]) (by simp [b21_0])
  simp [p21]
  rw [hsz]
  · simp [b21_0]
  · simp
  · simp
def mtx (k : Nat) : ByteArray := ⟨#[109]⟩ ++ dg k
@[simp] def st65 (n : Int) (out : ByteArray) : St := { n := 20, m := 0, tm := [(0, .sc (.int .i64 n)), (3, .sc (.string out))], ob := [] }
theorem ev_markText (d : Nat) (h1 : 1 ≤ d) (hd : d ≤ 9) : semK G PK md 65 [.v (.sc (.int .i64 (ci d)))] = some ⟨[.v (.sc (.string (mtx d)))], [], []⟩ := by
  refine semK_of (pf := p65) rfl (by simp [p65]) ?_
  unfold ci
  have hn : ¬ (d : Int) ≤ 0 := by omega
  have hz2 : ¬ d = 0 := by omega
  have hp : (0 : Int) < d := by omega
  have hp2 : 0 < d := by omega
  have g1 := tdiv10 hd
  have g2 := tmod10 hd
  have hw : IntKind.wrap .i64 (d : Int) = d := wrap_id (by omega) (by omega)
  have h3 : IntKind.wrap .i64 (48 + (d : Int)) = ((48 + d : Nat) : Int) := by rw [wrap_id (by omega) (by omega)]; omega
  have hw0 : IntKind.wrap .i64 0 = 0 := rfl
  have h4 := u8dg d hd
  have hsz := loop_ok (G := G) (PK := PK) (md := md) (o := 10000000) (live := [0, 3]) (c := b65_0) (fun j => if j = 0 then st65 d ⟨#[]⟩ else st65 0 (dg d)) (1) (fun j hj => by
    obtain rfl : j = 0 := by omega
    generalize ((48 + d : Nat) : Int) = N at h3 h4
    simp [b65_0, md, hn, hz2, hp, hp2, g1, g2, hw, hw0, h3, bytesOf, h4, ba_nil, ba_size0]) (by simp [b65_0])
  have hs : (⟨#[109]⟩ : ByteArray).size = 1 := rfl
  unfold mtx
  simp [p65, md, hn, hz2]
  rw [hsz]
  · simp [b65_0, hs]
  · simp
  · simp
@[simp] def st24 (l : List ByteArray) (k j : Nat) : St := { n := 20, m := 1, tm := [(0, .ref 0 []), (1, .sc (.int .i64 (ci (k + j)))), (5, .sc (.int .i64 j))], ob := [(0, .arr 1 (enc fS (rmp (fun i => mtx (k + i)) l j)))] }
theorem ev_markStringS (l : List ByteArray) (k : Nat) (hk : 1 ≤ k) (hl : k + l.length ≤ 10) :
    semK G PK md 24 [.v (.own 1 (enc fS l)), .v (.sc (.int .i64 (ci k)))] = some ⟨[.v (.sc (.int .i64 (ci (k + l.length))))], [some (enc fS (rmp (fun i => mtx (k + i)) l l.length))], []⟩ := by
  refine semK_of (pf := p24) rfl (by simp [p24]) ?_
  have hsz := loop_ok (G := G) (PK := PK) (md := md) (o := 10000000) (live := [0, 1, 5]) (c := b24_0) (st24 l k) (l.length) (fun j hlt => by
    have hc := ci_succ (m := k + j) (by omega)
    have he := ev_markText (PK := PK) (k + j) (by omega) (by omega)
    have hset := rmp_set (fun i => mtx (k + i)) l j
    have hes := enc_set fS (rmp (fun i => mtx (k + i)) l j) j (mtx (k + j))
    simp only [fS] at hes
    have hk2 : k + j + 1 = k + (j + 1) := rfl
    simp [b24_0, md, hlt, incr hlt (by omega : l.length ≤ 1048576), hc, he, hes, hset, hk2]) (by simp [b24_0])
  have h0 : rmp (fun i => mtx (k + i)) l 0 = l := rfl
  simp [p24]
  rw [hsz]
  · simp [b24_0]
  · simp
  · simp [h0]
@[simp] def st25 (l : List ByteArray) (k j : Nat) : St := { n := 22, m := 0, tm := [(0, .im 1 (enc fS l)), (1, .sc (.int .i64 (ci (k + j)))), (5, .sc (.int .i64 j))], ob := [] }
theorem ev_heldStringS (l : List ByteArray) (k : Nat) (hk : 1 ≤ k) (hl : k + l.length ≤ 10) (hh : ∀ p, p < l.length → l[p]? = some (mtx (k + p))) :
    semK G PK md 25 [.v (.im 1 (enc fS l)), .v (.sc (.int .i64 (ci k)))] = some ⟨[.v (.sc (.int .i64 (ci (k + l.length))))], [], []⟩ := by
  refine semK_of (pf := p25) rfl (by simp [p25]) ?_
  have hsz := loop_ok (G := G) (PK := PK) (md := md) (o := 10000000) (live := [0, 1, 5]) (c := b25_0) (st25 l k) (l.length) (fun j hlt => by
    have hc := ci_succ (m := k + j) (by omega)
    have he := ev_markText (PK := PK) (k + j) (by omega) (by omega)
    obtain ⟨_, hx'⟩ := at_of (hh j hlt)
    have hk2 : k + j + 1 = k + (j + 1) := rfl
    simp [b25_0, md, hlt, incr hlt (by omega : l.length ≤ 1048576), hc, he, hx', hk2]) (by simp [b25_0])
  simp [p25]
  rw [hsz]
  · simp [b25_0]
  · simp
  · simp
end Go.Proofs.YtcbcackolaphhaaGreat.Ow
