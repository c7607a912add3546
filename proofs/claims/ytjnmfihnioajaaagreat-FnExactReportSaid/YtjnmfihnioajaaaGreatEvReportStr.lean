/- Words, digits: evaluated. -/
import Derived.Lib.Join
import Derived.Test.YtjnmfihnioajaaaGreatEvReportLink
namespace Go.Proofs.YtjnmfihnioajaaaGreat.Ow
open Go
set_option linter.unusedVariables false
set_option linter.unusedSimpArgs false
set_option maxHeartbeats 4000000
variable {PK : Nat → List Arg → Option Res}
def sp : ByteArray := ⟨#[32]⟩
def nl : ByteArray := ⟨#[10]⟩
def dg (d : Nat) : ByteArray := ⟨#[UInt8.ofNat (48 + d)]⟩
@[simp] theorem dg_size (d : Nat) : (dg d).size = 1 := rfl
@[simp] theorem sp_size : sp.size = 1 := rfl
@[simp] theorem nl_size : nl.size = 1 := rfl
theorem ba_ext {a b : ByteArray} (h : a.data.toList = b.data.toList) : a = b := by
  cases a; cases b
  simp only [ByteArray.mk.injEq]
  exact Array.ext' h
theorem ba_app (a b : ByteArray) : (a ++ b).data.toList = a.data.toList ++ b.data.toList := by
  rw [ByteArray.data_append, Array.toList_append]
theorem joinB_data (xs : List ByteArray) (s : ByteArray) : (joinB xs s).data.toList = Lib.join (xs.map (·.data.toList)) s.data.toList := rfl
theorem joinB_one (a s : ByteArray) : joinB [a] s = a := ba_ext (by rw [joinB_data]; exact Lib.join_one _ _)
theorem joinTail_app (s : List UInt8) (l m : List (List UInt8)) : Lib.joinTail s (l ++ m) = Lib.joinTail s l ++ Lib.joinTail s m := by simp [Lib.joinTail]
/-- One more word. -/
theorem joinB_snoc (x : ByteArray) (l : List ByteArray) (s a : ByteArray) : joinB (x :: l ++ [a]) s = joinB (x :: l) s ++ s ++ a := ba_ext (by
  rw [ba_app, ba_app, joinB_data, joinB_data]
  simp only [List.map_cons, List.map_append, List.cons_append, Lib.join_cons, joinTail_app]
  simp [Lib.joinTail])
theorem joinB_two (a b s : ByteArray) : joinB [a, b] s = a ++ s ++ b := by
  have := joinB_snoc a [] s b
  rw [joinB_one] at this
  exact this
theorem joinB_three (a b c s : ByteArray) : joinB [a, b, c] s = a ++ s ++ b ++ s ++ c := by
  have := joinB_snoc a [b] s c
  rw [joinB_two] at this
  exact this
theorem encS2 (W : List ByteArray) (a b : ByteArray) : enc fS W ++ [[T.sc (.string a)], [T.sc (.string b)]] = enc fS (W ++ [a, b]) := by simp [enc]
theorem encS1 (W : List ByteArray) (a : ByteArray) : enc fS W ++ [[T.sc (.string a)]] = enc fS (W ++ [a]) := by simp [enc]
theorem sp_eq : (⟨#[32]⟩ : ByteArray) = sp := rfl
/-- A number of one digit. -/
theorem utf8_digit : ∀ d : Nat, d ≤ 9 → Utf8.encode (48 + d : Nat) = dg d
  | 0, _ => rfl
  | 1, _ => rfl
  | 2, _ => rfl
  | 3, _ => rfl
  | 4, _ => rfl
  | 5, _ => rfl
  | 6, _ => rfl
  | 7, _ => rfl
  | 8, _ => rfl
  | 9, _ => rfl
  | n + 10, h => absurd h (by omega)
theorem ev_impl_Digits (d : Nat) (hd : d ≤ 9) : semK G PK md 72 [.v (.sc (.int .i64 d))] = some ⟨[.v (.sc (.string (dg d)))], [], []⟩ := by
  refine semK_of (pf := p72) rfl (by simp [p72]) ?_
  have h1 : ¬ (d : Int) < 0 := by omega
  have h2 : (d : Int) < 10 := by omega
  have h3 : IntKind.wrap .i64 (48 + (d : Int)) = ((48 + d : Nat) : Int) := by rw [wrap_id (by omega) (by omega)]; omega
  have h4 : IntKind.wrap .i32 ((48 + d : Nat) : Int) = ((48 + d : Nat) : Int) := by
    have h1 : IntKind.wrap .i32 ((48 + d : Nat) : Int) = (if ((48 + d : Nat) : Int) % 4294967296 ≥ 2147483648 then ((48 + d : Nat) : Int) % 4294967296 - 4294967296 else ((48 + d : Nat) : Int) % 4294967296) := by
      simp [IntKind.wrap, IntKind.bits, IntKind.signed]
    rw [h1]
    split <;> omega
  have h5 := utf8_digit d hd
  generalize ((48 + d : Nat) : Int) = N at h3 h4 h5
  simp [p72, md, h1, h2, h3, h4, h5]
theorem tdiv10 {d : Nat} (hd : d ≤ 9) : ((d : Nat) : Int).tdiv 10 = 0 := by rw [Int.tdiv_eq_ediv_of_nonneg (by omega)]; omega
theorem tmod10 {d : Nat} (hd : d ≤ 9) : ((d : Nat) : Int).tmod 10 = d := by rw [Int.tmod_eq_emod_of_nonneg (by omega)]; omega
@[simp] def st68 (n : Int) (out : ByteArray) : St := { n := 31, m := 0, tm := [(0, .sc (.int .i64 n)), (3, .sc (.bool false)), (4, .sc (.string out))], ob := [] }
theorem ba_size0 : (⟨#[]⟩ : ByteArray).size = 0 := rfl
theorem ba_nil (a : ByteArray) : a ++ (⟨#[]⟩ : ByteArray) = a := ba_ext (by rw [ba_app]; simp)
theorem u8dg : ∀ d : Nat, d ≤ 9 → (⟨[UInt8.ofNat (IntKind.wrap .u8 ((48 + d : Nat) : Int)).toNat].toArray⟩ : ByteArray) = dg d := fun d hd => by
  have : IntKind.wrap .u8 ((48 + d : Nat) : Int) = ((48 + d : Nat) : Int) := by rw [wrap_u8]; omega
  rw [this]
  rfl
theorem ev_spec_Digits (d : Nat) (hd : d ≤ 9) : semK G PK md 68 [.v (.sc (.int .i64 d))] = some ⟨[.v (.sc (.string (dg d)))], [], []⟩ := by
  refine semK_of (pf := p68) rfl (by simp [p68]) ?_
  rcases Nat.eq_zero_or_pos d with h0 | h0
  · subst h0
    simp [p68, md]
    rfl
  have hz : ¬ (d : Int) = 0 := by omega
  have hz2 : ¬ d = 0 := by omega
  have hn : ¬ (d : Int) < 0 := by omega
  have h1 := tdiv10 hd
  have h2 := tmod10 hd
  have hw : IntKind.wrap .i64 (d : Int) = d := wrap_id (by omega) (by omega)
  have h3 : IntKind.wrap .i64 (48 + (d : Int)) = ((48 + d : Nat) : Int) := by rw [wrap_id (by omega) (by omega)]; omega
  have hw0 : IntKind.wrap .i64 0 = 0 := rfl
  have h4 := u8dg d hd
  have hsz := loop_ok (G := G) (PK := PK) (md := md) (o := 10000000) (live := [0, 3, 4]) (c := b68_0) (fun j => if j = 0 then st68 d ⟨#[]⟩ else st68 0 (dg d)) 1 (fun j hj => by
    obtain rfl : j = 0 := by omega
    generalize ((48 + d : Nat) : Int) = N at h3 h4
    simp [b68_0, md, hz, hz2, hn, h1, h2, hw, hw0, h3, bytesOf, h4, ba_nil, ba_size0]) (by simp [b68_0])
  simp [p68, md, hz, hz2, hn]
  rw [hsz]
  · simp [b68_0]
  · simp
  · simp
theorem ev_spaced (hJ0 : ∀ xs : List ByteArray, xs.length ≤ 1000 → (joinB xs sp).size ≤ 1000000 → semK G PK md 104 [.v (.im 1 (enc fS xs)), .v (.sc (.string sp))] = some ⟨[.v (.sc (.string (joinB xs sp)))], [], []⟩) (xs : List ByteArray) (h1 : xs.length ≤ 1000) (h2 : (joinB xs sp).size ≤ 1000000) : semK G PK md 76 [.v (.im 1 (enc fS xs))] = some ⟨[.v (.sc (.string (joinB xs sp)))], [], []⟩ := by
  refine semK_of (pf := p76) rfl (by simp [p76]) ?_
  have e := hJ0 xs h1 h2
  have hs : (⟨#[32]⟩ : ByteArray) = sp := rfl
  simp [p76, md, hs, e]
end Go.Proofs.YtjnmfihnioajaaaGreat.Ow
