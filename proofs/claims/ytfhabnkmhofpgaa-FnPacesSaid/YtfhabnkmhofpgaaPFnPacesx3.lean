import Derived.Test.YtfhabnkmhofpgaaPFnPacesx0
import Derived.Test.YtfhabnkmhofpgaaPFnPacesx1
import Derived.Test.YtfhabnkmhofpgaaPFnPacesx2
namespace Go.Proofs.Ytfhabnkmhofpgaa.PFnPaces
open Go.RowKit Go.Proofs.YtfhabnkmhofpgaaW.PrintWords Go.Proofs.YtfhabnkmhofpgaaW.PrintLast Go.Proofs.YtfhabnkmhofpgaaW.PrintMore
attribute [local go_sem] max2_int min2_int max_two min_two max_three min_three max_four min_four   -- for this text's walks alone
set_option linter.unusedVariables false
set_option linter.unusedSimpArgs false

theorem eqA25 (d : Nat) (w : World) (x0 y0 : Int) (x1 y1 : Int) (x2 y2 : Int) :
    (Op.equalIn (d + 2) 25 (.agg #[.int .i64 x0, .int .i64 x1, .int .i64 x2]) (.agg #[.int .i64 y0, .int .i64 y1, .int .i64 y2])).run Try.prog w = .ok (x0 == y0 && (x1 == y1 && (x2 == y2))) w := by
  refine eqA_of Try.underlying25 (by kernel_rfl) ?_
  refine eqf_cons (by rfl) (by go_simp; rfl) (by go_simp; rfl) (by go_simp) ?_
  refine eqf_cons (by rfl) (by go_simp; rfl) (by go_simp; rfl) (by go_simp) ?_
  exact eqf_last (by rfl) (by go_simp; rfl) (by go_simp; rfl) (by go_simp)
attribute [local go_sem high] eqA25
/-! ### laws_FnPaces: function 11 -/
mutual
def laws_FnPaces.j0 : Nat → Int → Bool → Int → Bool → Bool → Int → Int → Int → Int → Int → Int → Int → Int → Int → Int → Int → Int → Int → Int → Int → Option (Bool)
  | 0, _, _, _, _, _, _, _, _, _, _, _, _, _, _, _, _, _, _, _, _ => none
  | k + 1, x4, x6, x11, x14, x90, x248000, x248001, x248002, x253000, x253001, x253002, x265000, x265001, x265002, x273000, x273001, x273002, x282000, x282001, x282002 => if x90 = true then (some false) else ((impl_PaceOk.f x265000 x265001 x265002).bind fun t287 => (if t287 = true then ((impl_PaceOk.f x282000 x282001 x282002).bind fun t288 => (if t288 = true then (if x282000 < x265000 then (laws_FnPaces.j1 k x4 x6 true x248000 x248001 x248002 x253000 x253001 x253002) else (if x282000 > x265001 then (laws_FnPaces.j1 k x4 x6 true x248000 x248001 x248002 x253000 x253001 x253002) else ((impl_PaceOk.f x265000 x265001 x265002).bind fun t289 => (if t289 = true then (if x14 = true then ((impl_PaceOk.f x273000 x273001 x273002).bind fun t290 => (if t290 = true then (laws_FnPaces.j1 k x4 x6 (x273000 != x11) x248000 x248001 x248002 x253000 x253001 x253002) else (laws_FnPaces.j1 k x4 x6 true x248000 x248001 x248002 x253000 x253001 x253002))) else (laws_FnPaces.j1 k x4 x6 false x248000 x248001 x248002 x253000 x253001 x253002)) else (if (!(x282000 == x265000) || (!(x282001 == x265001) || (!(x282002 == x265002)))) = true then (laws_FnPaces.j1 k x4 x6 true x248000 x248001 x248002 x253000 x253001 x253002) else (if x14 = true then ((impl_PaceOk.f x273000 x273001 x273002).bind fun t291 => (if t291 = true then (laws_FnPaces.j1 k x4 x6 (x273000 != x11) x248000 x248001 x248002 x253000 x253001 x253002) else (laws_FnPaces.j1 k x4 x6 true x248000 x248001 x248002 x253000 x253001 x253002))) else (laws_FnPaces.j1 k x4 x6 false x248000 x248001 x248002 x253000 x253001 x253002))))))) else (laws_FnPaces.j1 k x4 x6 true x248000 x248001 x248002 x253000 x253001 x253002))) else ((impl_PaceOk.f x265000 x265001 x265002).bind fun t292 => (if t292 = true then (if x14 = true then ((impl_PaceOk.f x273000 x273001 x273002).bind fun t293 => (if t293 = true then (laws_FnPaces.j1 k x4 x6 (x273000 != x11) x248000 x248001 x248002 x253000 x253001 x253002) else (laws_FnPaces.j1 k x4 x6 true x248000 x248001 x248002 x253000 x253001 x253002))) else (laws_FnPaces.j1 k x4 x6 false x248000 x248001 x248002 x253000 x253001 x253002)) else (if (!(x282000 == x265000) || (!(x282001 == x265001) || (!(x282002 == x265002)))) = true then (laws_FnPaces.j1 k x4 x6 true x248000 x248001 x248002 x253000 x253001 x253002) else (if x14 = true then ((impl_PaceOk.f x273000 x273001 x273002).bind fun t294 => (if t294 = true then (laws_FnPaces.j1 k x4 x6 (x273000 != x11) x248000 x248001 x248002 x253000 x253001 x253002) else (laws_FnPaces.j1 k x4 x6 true x248000 x248001 x248002 x253000 x253001 x253002))) else (laws_FnPaces.j1 k x4 x6 false x248000 x248001 x248002 x253000 x253001 x253002)))))))
def laws_FnPaces.j1 : Nat → Int → Bool → Bool → Int → Int → Int → Int → Int → Int → Option (Bool)
  | 0, _, _, _, _, _, _, _, _, _ => none
  | k + 1, x4, x6, x135, x248000, x248001, x248002, x253000, x253001, x253002 => if x135 = true then (some false) else (if x6 = true then ((impl_PaceOk.f x253000 x253001 x253002).bind fun t295 => (if t295 = true then (some (x253000 == (wrap64 (x248000 - x4)))) else (some false))) else (some (x253000 == x248000 && (x253001 == x248001 && (x253002 == x248002)))))
end
def laws_FnPaces.f (k : Nat) (l0 : List Int) : Option (Bool) := (laws_big.f l0).bind fun t242 => (if t242 = true then (some true) else ((spec_DrawSpend.f k l0).bind fun bt243 => ((impl_Spend.f bt243.1 bt243.2.1 bt243.2.2.1 bt243.2.2.2).bind fun bt248 => ((spec_Spend.f bt243.1 bt243.2.1 bt243.2.2.1 bt243.2.2.2).bind fun bt253 => ((spec_DrawPaceTick.f k l0).bind fun bt258 => ((spec_DrawPaceOk.f k l0).bind fun bt261 => ((spec_DrawPaceNew.f k l0).bind fun bt266 => ((impl_PaceNew.f bt266.1 bt266.2).bind fun bt268 => ((spec_PaceNew.f bt266.1 bt266.2).bind fun bt273 => ((impl_PaceTick.f bt258.1 bt258.2.1 bt258.2.2).bind fun bt278 => (if (!(bt248.1 == bt253.1) || (!(bt248.2.1 == bt253.2.1) || (!(bt248.2.2.1 == bt253.2.2.1)))) = true then (laws_FnPaces.j0 k bt243.2.2.2 bt248.2.2.2 bt266.1 bt268.2.2.2 true bt243.1 bt243.2.1 bt243.2.2.1 bt248.1 bt248.2.1 bt248.2.2.1 bt258.1 bt258.2.1 bt258.2.2 bt268.1 bt268.2.1 bt268.2.2.1 bt278.1 bt278.2.1 bt278.2.2) else (if (bt248.2.2.2 != bt253.2.2.2) = true then (laws_FnPaces.j0 k bt243.2.2.2 bt248.2.2.2 bt266.1 bt268.2.2.2 true bt243.1 bt243.2.1 bt243.2.2.1 bt248.1 bt248.2.1 bt248.2.2.1 bt258.1 bt258.2.1 bt258.2.2 bt268.1 bt268.2.1 bt268.2.2.1 bt278.1 bt278.2.1 bt278.2.2) else ((spec_PaceTick.f bt258.1 bt258.2.1 bt258.2.2).bind fun bt282 => (if (!(bt278.1 == bt282.1) || (!(bt278.2.1 == bt282.2.1) || (!(bt278.2.2 == bt282.2.2)))) = true then (laws_FnPaces.j0 k bt243.2.2.2 bt248.2.2.2 bt266.1 bt268.2.2.2 true bt243.1 bt243.2.1 bt243.2.2.1 bt248.1 bt248.2.1 bt248.2.2.1 bt258.1 bt258.2.1 bt258.2.2 bt268.1 bt268.2.1 bt268.2.2.1 bt278.1 bt278.2.1 bt278.2.2) else (if (!(bt268.1 == bt273.1) || (!(bt268.2.1 == bt273.2.1) || (!(bt268.2.2.1 == bt273.2.2.1)))) = true then (laws_FnPaces.j0 k bt243.2.2.2 bt248.2.2.2 bt266.1 bt268.2.2.2 true bt243.1 bt243.2.1 bt243.2.2.1 bt248.1 bt248.2.1 bt248.2.2.1 bt258.1 bt258.2.1 bt258.2.2 bt268.1 bt268.2.1 bt268.2.2.1 bt278.1 bt278.2.1 bt278.2.2) else (if (bt268.2.2.2 != bt273.2.2.2) = true then (laws_FnPaces.j0 k bt243.2.2.2 bt248.2.2.2 bt266.1 bt268.2.2.2 true bt243.1 bt243.2.1 bt243.2.2.1 bt248.1 bt248.2.1 bt248.2.2.1 bt258.1 bt258.2.1 bt258.2.2 bt268.1 bt268.2.1 bt268.2.2.1 bt278.1 bt278.2.1 bt278.2.2) else ((impl_PaceOk.f bt261.1 bt261.2.1 bt261.2.2).bind fun t285 => ((spec_PaceOk.f bt261.1 bt261.2.1 bt261.2.2).bind fun t286 => (laws_FnPaces.j0 k bt243.2.2.2 bt248.2.2.2 bt266.1 bt268.2.2.2 (t285 != t286) bt243.1 bt243.2.1 bt243.2.2.1 bt248.1 bt248.2.1 bt248.2.2.1 bt258.1 bt258.2.1 bt258.2.2 bt268.1 bt268.2.1 bt268.2.2.1 bt278.1 bt278.2.1 bt278.2.2)))))))))))))))))))
theorem j0t (k : Nat) (a : Int) (b : Bool) (c : Int) (d : Bool) (e1 e2 e3 e4 e5 e6 e7 e8 e9 e10 e11 e12 e13 e14 e15 : Int) : ¬ laws_FnPaces.j0 k a b c d true e1 e2 e3 e4 e5 e6 e7 e8 e9 e10 e11 e12 e13 e14 e15 = some true := by
  cases k <;> simp [laws_FnPaces.j0]
theorem j1t (k : Nat) (a : Int) (b : Bool) (e1 e2 e3 e4 e5 e6 : Int) : ¬ laws_FnPaces.j1 k a b true e1 e2 e3 e4 e5 e6 = some true := by
  cases k <;> simp [laws_FnPaces.j1]
theorem laws_FnPaces.mono_l : ∀ k, (∀ y0 y1 y2 y3 y4 y5 y6 y7 y8 y9 y10 y11 y12 y13 y14 y15 y16 y17 y18 y19, LeO (laws_FnPaces.j0 k y0 y1 y2 y3 y4 y5 y6 y7 y8 y9 y10 y11 y12 y13 y14 y15 y16 y17 y18 y19) (laws_FnPaces.j0 (k + 1) y0 y1 y2 y3 y4 y5 y6 y7 y8 y9 y10 y11 y12 y13 y14 y15 y16 y17 y18 y19)) ∧ (∀ y0 y1 y2 y3 y4 y5 y6 y7 y8, LeO (laws_FnPaces.j1 k y0 y1 y2 y3 y4 y5 y6 y7 y8) (laws_FnPaces.j1 (k + 1) y0 y1 y2 y3 y4 y5 y6 y7 y8))
  | 0 => ⟨fun _ _ _ _ _ _ _ _ _ _ _ _ _ _ _ _ _ _ _ _ r h => by simp [laws_FnPaces.j0] at h, fun _ _ _ _ _ _ _ _ _ r h => by simp [laws_FnPaces.j1] at h⟩
  | k + 1 => by
    obtain ⟨ih0, ih1⟩ := laws_FnPaces.mono_l k
    refine ⟨?_, ?_⟩
    · intro y0 y1 y2 y3 y4 y5 y6 y7 y8 y9 y10 y11 y12 y13 y14 y15 y16 y17 y18 y19
      unfold laws_FnPaces.j0
      repeat' first
      | (with_reducible exact ih0 _ _ _ _ _ _ _ _ _ _ _ _ _ _ _ _ _ _ _ _)
      | (with_reducible exact ih1 _ _ _ _ _ _ _ _ _)
      | (with_reducible exact spec_DrawPaceNew.mono _ _)
      | (with_reducible exact spec_DrawPaceOk.mono _ _)
      | (with_reducible exact spec_DrawPaceTick.mono _ _)
      | (with_reducible exact spec_DrawSpend.mono _ _)
      | (with_reducible exact LeO.refl _)
      | (with_reducible exact LeO.none _)
      | (with_reducible refine LeO.ite ?_ ?_)
      | (with_reducible refine LeO.bind ?_ (fun _ => ?_))
      | exact ih0 _ _ _ _ _ _ _ _ _ _ _ _ _ _ _ _ _ _ _ _
      | exact ih1 _ _ _ _ _ _ _ _ _
      | exact spec_DrawPaceNew.mono _ _
      | exact spec_DrawPaceOk.mono _ _
      | exact spec_DrawPaceTick.mono _ _
      | exact spec_DrawSpend.mono _ _
      | exact LeO.none _
      | refine LeO.ite ?_ ?_
      | refine LeO.bind ?_ (fun _ => ?_)
    · intro y0 y1 y2 y3 y4 y5 y6 y7 y8
      unfold laws_FnPaces.j1
      repeat' first
      | (with_reducible exact ih0 _ _ _ _ _ _ _ _ _ _ _ _ _ _ _ _ _ _ _ _)
      | (with_reducible exact ih1 _ _ _ _ _ _ _ _ _)
      | (with_reducible exact spec_DrawPaceNew.mono _ _)
      | (with_reducible exact spec_DrawPaceOk.mono _ _)
      | (with_reducible exact spec_DrawPaceTick.mono _ _)
      | (with_reducible exact spec_DrawSpend.mono _ _)
      | (with_reducible exact LeO.refl _)
      | (with_reducible exact LeO.none _)
      | (with_reducible refine LeO.ite ?_ ?_)
      | (with_reducible refine LeO.bind ?_ (fun _ => ?_))
      | exact ih0 _ _ _ _ _ _ _ _ _ _ _ _ _ _ _ _ _ _ _ _
      | exact ih1 _ _ _ _ _ _ _ _ _
      | exact spec_DrawPaceNew.mono _ _
      | exact spec_DrawPaceOk.mono _ _
      | exact spec_DrawPaceTick.mono _ _
      | exact spec_DrawSpend.mono _ _
      | exact LeO.none _
      | refine LeO.ite ?_ ?_
      | refine LeO.bind ?_ (fun _ => ?_)
theorem laws_FnPaces.mono : ∀ a0 k, LeO (laws_FnPaces.f k a0) (laws_FnPaces.f (k + 1) a0) := by
  intro a0 k
  obtain ⟨ih0, ih1⟩ := laws_FnPaces.mono_l k
  unfold laws_FnPaces.f
  repeat' first
      | (with_reducible exact ih0 _ _ _ _ _ _ _ _ _ _ _ _ _ _ _ _ _ _ _ _)
      | (with_reducible exact ih1 _ _ _ _ _ _ _ _ _)
      | (with_reducible exact spec_DrawPaceNew.mono _ _)
      | (with_reducible exact spec_DrawPaceOk.mono _ _)
      | (with_reducible exact spec_DrawPaceTick.mono _ _)
      | (with_reducible exact spec_DrawSpend.mono _ _)
      | (with_reducible exact LeO.refl _)
      | (with_reducible exact LeO.none _)
      | (with_reducible refine LeO.ite ?_ ?_)
      | (with_reducible refine LeO.bind ?_ (fun _ => ?_))
      | exact ih0 _ _ _ _ _ _ _ _ _ _ _ _ _ _ _ _ _ _ _ _
      | exact ih1 _ _ _ _ _ _ _ _ _
      | exact spec_DrawPaceNew.mono _ _
      | exact spec_DrawPaceOk.mono _ _
      | exact spec_DrawPaceTick.mono _ _
      | exact spec_DrawSpend.mono _ _
      | exact LeO.none _
      | refine LeO.ite ?_ ?_
      | refine LeO.bind ?_ (fun _ => ?_)
def laws_FnPaces.T11 : Bool × List (List Nat × List Nat) := (true, [([], []), ([], []), ([0, 1], [0, 1]), ([2], [2]), ([3], [3]), ([3], [3]), ([4, 5, 3], [3, 4, 5]), ([3, 6], [3, 6]), ([7, 3], [7]), ([8], [8]), ([8], [8]), ([10, 8, 8], [8, 10]), ([9, 11, 8], [8, 9, 11]), ([8, 12], [8, 12]), ([13, 11], [13]), ([14], [14]), ([14], [14]), ([15, 16, 14], [14, 15, 16]), ([14, 17], [14, 17]), ([18, 14], [18]), ([19], [19]), ([19], [19]), ([20, 21, 19], [19, 20, 21]), ([19, 22], [19, 22]), ([23, 19], [23]), ([24], [24]), ([25, 24, 24], [24, 25]), ([24], [24]), ([27, 26, 24], [24, 27]), ([26, 28, 24], [24, 26, 28]), ([24, 29], [24, 29])])
def laws_FnPaces.B11 : List Nat := [0, 0, 3, 7, 15, 15, 63, 127, 255, 511, 511, 1535, 4095, 8191, 16383, 32767, 32767, 131071, 262143, 524287, 1048575, 1048575, 4194303, 8388607, 16777215, 33554431, 67108863, 33554431, 268435455, 536870911, 1073741823]
theorem laws_FnPaces.tab11 : rtab .any (opsOf Try.f11 11) = laws_FnPaces.T11 := by kernel_rfl
theorem laws_FnPaces.bits11 : waitsOk laws_FnPaces.T11.2 laws_FnPaces.B11 = true := by kernel_rfl
set_option maxHeartbeats 8000000 in
set_option maxRecDepth 100000 in
theorem laws_FnPaces.calls (k : Nat) (A0 : Option Addr) (c0 : Nat) (l0 : List Int) (r : Bool) (hrt : r = true) (w : World) (hr0 : Kd.C (Kd.int .u8) w A0 l0.length l0) (hc0 : l0.length ≤ c0) (h : laws_FnPaces.f k l0 = some r) :
    Calls Try.prog 11 #[.slice A0 l0.length c0] w fun e w' => e = .returned (.bool r) ∧ Below w.heap.size w w' := by
  have hu25 := Try.underlying25
  have HR0 := Aside0.mk hr0
  have HC0 := Aside0.mk hc0
  clear hr0 hc0
  have HB := Aside0.mk (Below.refl w.heap.size w)
  have H : ((laws_big.f l0).bind fun t242 => (if t242 = true then (some true) else ((spec_DrawSpend.f k l0).bind fun bt243 => ((impl_Spend.f bt243.1 bt243.2.1 bt243.2.2.1 bt243.2.2.2).bind fun bt248 => ((spec_Spend.f bt243.1 bt243.2.1 bt243.2.2.1 bt243.2.2.2).bind fun bt253 => ((spec_DrawPaceTick.f k l0).bind fun bt258 => ((spec_DrawPaceOk.f k l0).bind fun bt261 => ((spec_DrawPaceNew.f k l0).bind fun bt266 => ((impl_PaceNew.f bt266.1 bt266.2).bind fun bt268 => ((spec_PaceNew.f bt266.1 bt266.2).bind fun bt273 => ((impl_PaceTick.f bt258.1 bt258.2.1 bt258.2.2).bind fun bt278 => (if (!(bt248.1 == bt253.1) || (!(bt248.2.1 == bt253.2.1) || (!(bt248.2.2.1 == bt253.2.2.1)))) = true then (laws_FnPaces.j0 k bt243.2.2.2 bt248.2.2.2 bt266.1 bt268.2.2.2 true bt243.1 bt243.2.1 bt243.2.2.1 bt248.1 bt248.2.1 bt248.2.2.1 bt258.1 bt258.2.1 bt258.2.2 bt268.1 bt268.2.1 bt268.2.2.1 bt278.1 bt278.2.1 bt278.2.2) else (if (bt248.2.2.2 != bt253.2.2.2) = true then (laws_FnPaces.j0 k bt243.2.2.2 bt248.2.2.2 bt266.1 bt268.2.2.2 true bt243.1 bt243.2.1 bt243.2.2.1 bt248.1 bt248.2.1 bt248.2.2.1 bt258.1 bt258.2.1 bt258.2.2 bt268.1 bt268.2.1 bt268.2.2.1 bt278.1 bt278.2.1 bt278.2.2) else ((spec_PaceTick.f bt258.1 bt258.2.1 bt258.2.2).bind fun bt282 => (if (!(bt278.1 == bt282.1) || (!(bt278.2.1 == bt282.2.1) || (!(bt278.2.2 == bt282.2.2)))) = true then (laws_FnPaces.j0 k bt243.2.2.2 bt248.2.2.2 bt266.1 bt268.2.2.2 true bt243.1 bt243.2.1 bt243.2.2.1 bt248.1 bt248.2.1 bt248.2.2.1 bt258.1 bt258.2.1 bt258.2.2 bt268.1 bt268.2.1 bt268.2.2.1 bt278.1 bt278.2.1 bt278.2.2) else (if (!(bt268.1 == bt273.1) || (!(bt268.2.1 == bt273.2.1) || (!(bt268.2.2.1 == bt273.2.2.1)))) = true then (laws_FnPaces.j0 k bt243.2.2.2 bt248.2.2.2 bt266.1 bt268.2.2.2 true bt243.1 bt243.2.1 bt243.2.2.1 bt248.1 bt248.2.1 bt248.2.2.1 bt258.1 bt258.2.1 bt258.2.2 bt268.1 bt268.2.1 bt268.2.2.1 bt278.1 bt278.2.1 bt278.2.2) else (if (bt268.2.2.2 != bt273.2.2.2) = true then (laws_FnPaces.j0 k bt243.2.2.2 bt248.2.2.2 bt266.1 bt268.2.2.2 true bt243.1 bt243.2.1 bt243.2.2.1 bt248.1 bt248.2.1 bt248.2.2.1 bt258.1 bt258.2.1 bt258.2.2 bt268.1 bt268.2.1 bt268.2.2.1 bt278.1 bt278.2.1 bt278.2.2) else ((impl_PaceOk.f bt261.1 bt261.2.1 bt261.2.2).bind fun t285 => ((spec_PaceOk.f bt261.1 bt261.2.1 bt261.2.2).bind fun t286 => (laws_FnPaces.j0 k bt243.2.2.2 bt248.2.2.2 bt266.1 bt268.2.2.2 (t285 != t286) bt243.1 bt243.2.1 bt243.2.2.1 bt248.1 bt248.2.1 bt248.2.2.1 bt258.1 bt258.2.1 bt258.2.2 bt268.1 bt268.2.1 bt268.2.2.1 bt278.1 bt278.2.1 bt278.2.2)))))))))))))))))))) = some r := h
  clear h
  replace H := Option.bind_eq_some_iff.mp H
  obtain ⟨t242, A20, H⟩ := H
  replace H : (if t242 = true then (some true) else ((spec_DrawSpend.f k l0).bind fun bt243 => ((impl_Spend.f bt243.1 bt243.2.1 bt243.2.2.1 bt243.2.2.2).bind fun bt248 => ((spec_Spend.f bt243.1 bt243.2.1 bt243.2.2.1 bt243.2.2.2).bind fun bt253 => ((spec_DrawPaceTick.f k l0).bind fun bt258 => ((spec_DrawPaceOk.f k l0).bind fun bt261 => ((spec_DrawPaceNew.f k l0).bind fun bt266 => ((impl_PaceNew.f bt266.1 bt266.2).bind fun bt268 => ((spec_PaceNew.f bt266.1 bt266.2).bind fun bt273 => ((impl_PaceTick.f bt258.1 bt258.2.1 bt258.2.2).bind fun bt278 => (if (!(bt248.1 == bt253.1) || (!(bt248.2.1 == bt253.2.1) || (!(bt248.2.2.1 == bt253.2.2.1)))) = true then (laws_FnPaces.j0 k bt243.2.2.2 bt248.2.2.2 bt266.1 bt268.2.2.2 true bt243.1 bt243.2.1 bt243.2.2.1 bt248.1 bt248.2.1 bt248.2.2.1 bt258.1 bt258.2.1 bt258.2.2 bt268.1 bt268.2.1 bt268.2.2.1 bt278.1 bt278.2.1 bt278.2.2) else (if (bt248.2.2.2 != bt253.2.2.2) = true then (laws_FnPaces.j0 k bt243.2.2.2 bt248.2.2.2 bt266.1 bt268.2.2.2 true bt243.1 bt243.2.1 bt243.2.2.1 bt248.1 bt248.2.1 bt248.2.2.1 bt258.1 bt258.2.1 bt258.2.2 bt268.1 bt268.2.1 bt268.2.2.1 bt278.1 bt278.2.1 bt278.2.2) else ((spec_PaceTick.f bt258.1 bt258.2.1 bt258.2.2).bind fun bt282 => (if (!(bt278.1 == bt282.1) || (!(bt278.2.1 == bt282.2.1) || (!(bt278.2.2 == bt282.2.2)))) = true then (laws_FnPaces.j0 k bt243.2.2.2 bt248.2.2.2 bt266.1 bt268.2.2.2 true bt243.1 bt243.2.1 bt243.2.2.1 bt248.1 bt248.2.1 bt248.2.2.1 bt258.1 bt258.2.1 bt258.2.2 bt268.1 bt268.2.1 bt268.2.2.1 bt278.1 bt278.2.1 bt278.2.2) else (if (!(bt268.1 == bt273.1) || (!(bt268.2.1 == bt273.2.1) || (!(bt268.2.2.1 == bt273.2.2.1)))) = true then (laws_FnPaces.j0 k bt243.2.2.2 bt248.2.2.2 bt266.1 bt268.2.2.2 true bt243.1 bt243.2.1 bt243.2.2.1 bt248.1 bt248.2.1 bt248.2.2.1 bt258.1 bt258.2.1 bt258.2.2 bt268.1 bt268.2.1 bt268.2.2.1 bt278.1 bt278.2.1 bt278.2.2) else (if (bt268.2.2.2 != bt273.2.2.2) = true then (laws_FnPaces.j0 k bt243.2.2.2 bt248.2.2.2 bt266.1 bt268.2.2.2 true bt243.1 bt243.2.1 bt243.2.2.1 bt248.1 bt248.2.1 bt248.2.2.1 bt258.1 bt258.2.1 bt258.2.2 bt268.1 bt268.2.1 bt268.2.2.1 bt278.1 bt278.2.1 bt278.2.2) else ((impl_PaceOk.f bt261.1 bt261.2.1 bt261.2.2).bind fun t285 => ((spec_PaceOk.f bt261.1 bt261.2.1 bt261.2.2).bind fun t286 => (laws_FnPaces.j0 k bt243.2.2.2 bt248.2.2.2 bt266.1 bt268.2.2.2 (t285 != t286) bt243.1 bt243.2.1 bt243.2.2.1 bt248.1 bt248.2.1 bt248.2.2.1 bt258.1 bt258.2.1 bt258.2.2 bt268.1 bt268.2.1 bt268.2.2.1 bt278.1 bt278.2.1 bt278.2.2))))))))))))))))))) = some r := H
  have A2 := Aside0.mk A20
  clear A20
  by_cases c3 : t242 = true
  · subst c3
    have H1 : (some true) = some r := by rw [if_pos rfl] at H; exact H
    clear H
    have H := H1
    clear H1
    obtain rfl := Option.some.inj H
    go_enter Try.func11, Try.ntmps11
    go_wp2_with (first | ((with_reducible refine gate_callee (f := 30) rfl ?_); refine goesL_ (some 19) rfl rfl Try.func30 (by kernel_rfl) rfl #[.slice A0 l0.length c0] rfl (by (try simp only [List.map_toArray, List.map_cons, List.map_nil]); first | done | rfl | (simp only [List.length_drop, List.length_take]; rfl)) ?_; (with_reducible refine (laws_big.calls _ _ l0 true _ ?side1 ?side2 A2.out).mono ?_); (case side1 => repeat (first | exact HR0.out | (with_reducible refine Kd.C_alloc ?_ _) | (with_reducible refine Kd.C_drewN ?_ _) | (with_reducible refine Kd.C_drew ?_))); (case side2 => exact HC0.out); rintro e w' ⟨rfl, ⟨nd, rfl⟩⟩; refine ⟨_, rfl, ?_⟩))
    go_ret
    exact ⟨by first | rfl | (simp [errW_none, errW_some] <;> rfl) | (simp [*, errW_none, errW_some] <;> rfl), by repeat (first | (with_reducible first | exact HB.out | apply below_alloc | apply pw_below_drewN | apply below_drew1) | exact HB.out)⟩
  · replace c3 := Bool.eq_false_iff.mpr c3
    subst c3
    have H1 : ((spec_DrawSpend.f k l0).bind fun bt243 => ((impl_Spend.f bt243.1 bt243.2.1 bt243.2.2.1 bt243.2.2.2).bind fun bt248 => ((spec_Spend.f bt243.1 bt243.2.1 bt243.2.2.1 bt243.2.2.2).bind fun bt253 => ((spec_DrawPaceTick.f k l0).bind fun bt258 => ((spec_DrawPaceOk.f k l0).bind fun bt261 => ((spec_DrawPaceNew.f k l0).bind fun bt266 => ((impl_PaceNew.f bt266.1 bt266.2).bind fun bt268 => ((spec_PaceNew.f bt266.1 bt266.2).bind fun bt273 => ((impl_PaceTick.f bt258.1 bt258.2.1 bt258.2.2).bind fun bt278 => (if (!(bt248.1 == bt253.1) || (!(bt248.2.1 == bt253.2.1) || (!(bt248.2.2.1 == bt253.2.2.1)))) = true then (laws_FnPaces.j0 k bt243.2.2.2 bt248.2.2.2 bt266.1 bt268.2.2.2 true bt243.1 bt243.2.1 bt243.2.2.1 bt248.1 bt248.2.1 bt248.2.2.1 bt258.1 bt258.2.1 bt258.2.2 bt268.1 bt268.2.1 bt268.2.2.1 bt278.1 bt278.2.1 bt278.2.2) else (if (bt248.2.2.2 != bt253.2.2.2) = true then (laws_FnPaces.j0 k bt243.2.2.2 bt248.2.2.2 bt266.1 bt268.2.2.2 true bt243.1 bt243.2.1 bt243.2.2.1 bt248.1 bt248.2.1 bt248.2.2.1 bt258.1 bt258.2.1 bt258.2.2 bt268.1 bt268.2.1 bt268.2.2.1 bt278.1 bt278.2.1 bt278.2.2) else ((spec_PaceTick.f bt258.1 bt258.2.1 bt258.2.2).bind fun bt282 => (if (!(bt278.1 == bt282.1) || (!(bt278.2.1 == bt282.2.1) || (!(bt278.2.2 == bt282.2.2)))) = true then (laws_FnPaces.j0 k bt243.2.2.2 bt248.2.2.2 bt266.1 bt268.2.2.2 true bt243.1 bt243.2.1 bt243.2.2.1 bt248.1 bt248.2.1 bt248.2.2.1 bt258.1 bt258.2.1 bt258.2.2 bt268.1 bt268.2.1 bt268.2.2.1 bt278.1 bt278.2.1 bt278.2.2) else (if (!(bt268.1 == bt273.1) || (!(bt268.2.1 == bt273.2.1) || (!(bt268.2.2.1 == bt273.2.2.1)))) = true then (laws_FnPaces.j0 k bt243.2.2.2 bt248.2.2.2 bt266.1 bt268.2.2.2 true bt243.1 bt243.2.1 bt243.2.2.1 bt248.1 bt248.2.1 bt248.2.2.1 bt258.1 bt258.2.1 bt258.2.2 bt268.1 bt268.2.1 bt268.2.2.1 bt278.1 bt278.2.1 bt278.2.2) else (if (bt268.2.2.2 != bt273.2.2.2) = true then (laws_FnPaces.j0 k bt243.2.2.2 bt248.2.2.2 bt266.1 bt268.2.2.2 true bt243.1 bt243.2.1 bt243.2.2.1 bt248.1 bt248.2.1 bt248.2.2.1 bt258.1 bt258.2.1 bt258.2.2 bt268.1 bt268.2.1 bt268.2.2.1 bt278.1 bt278.2.1 bt278.2.2) else ((impl_PaceOk.f bt261.1 bt261.2.1 bt261.2.2).bind fun t285 => ((spec_PaceOk.f bt261.1 bt261.2.1 bt261.2.2).bind fun t286 => (laws_FnPaces.j0 k bt243.2.2.2 bt248.2.2.2 bt266.1 bt268.2.2.2 (t285 != t286) bt243.1 bt243.2.1 bt243.2.2.1 bt248.1 bt248.2.1 bt248.2.2.1 bt258.1 bt258.2.1 bt258.2.2 bt268.1 bt268.2.1 bt268.2.2.1 bt278.1 bt278.2.1 bt278.2.2)))))))))))))))))) = some r := by rw [if_neg (show ¬ (false = true) by decide)] at H; exact H
    clear H
    have H := H1
    clear H1
    replace H := Option.bind_eq_some_iff.mp H
    obtain ⟨⟨t243, t244, t245, t246⟩, A40, H⟩ := H
    replace H : ((impl_Spend.f t243 t244 t245 t246).bind fun bt248 => ((spec_Spend.f t243 t244 t245 t246).bind fun bt253 => ((spec_DrawPaceTick.f k l0).bind fun bt258 => ((spec_DrawPaceOk.f k l0).bind fun bt261 => ((spec_DrawPaceNew.f k l0).bind fun bt266 => ((impl_PaceNew.f bt266.1 bt266.2).bind fun bt268 => ((spec_PaceNew.f bt266.1 bt266.2).bind fun bt273 => ((impl_PaceTick.f bt258.1 bt258.2.1 bt258.2.2).bind fun bt278 => (if (!(bt248.1 == bt253.1) || (!(bt248.2.1 == bt253.2.1) || (!(bt248.2.2.1 == bt253.2.2.1)))) = true then (laws_FnPaces.j0 k t246 bt248.2.2.2 bt266.1 bt268.2.2.2 true t243 t244 t245 bt248.1 bt248.2.1 bt248.2.2.1 bt258.1 bt258.2.1 bt258.2.2 bt268.1 bt268.2.1 bt268.2.2.1 bt278.1 bt278.2.1 bt278.2.2) else (if (bt248.2.2.2 != bt253.2.2.2) = true then (laws_FnPaces.j0 k t246 bt248.2.2.2 bt266.1 bt268.2.2.2 true t243 t244 t245 bt248.1 bt248.2.1 bt248.2.2.1 bt258.1 bt258.2.1 bt258.2.2 bt268.1 bt268.2.1 bt268.2.2.1 bt278.1 bt278.2.1 bt278.2.2) else ((spec_PaceTick.f bt258.1 bt258.2.1 bt258.2.2).bind fun bt282 => (if (!(bt278.1 == bt282.1) || (!(bt278.2.1 == bt282.2.1) || (!(bt278.2.2 == bt282.2.2)))) = true then (laws_FnPaces.j0 k t246 bt248.2.2.2 bt266.1 bt268.2.2.2 true t243 t244 t245 bt248.1 bt248.2.1 bt248.2.2.1 bt258.1 bt258.2.1 bt258.2.2 bt268.1 bt268.2.1 bt268.2.2.1 bt278.1 bt278.2.1 bt278.2.2) else (if (!(bt268.1 == bt273.1) || (!(bt268.2.1 == bt273.2.1) || (!(bt268.2.2.1 == bt273.2.2.1)))) = true then (laws_FnPaces.j0 k t246 bt248.2.2.2 bt266.1 bt268.2.2.2 true t243 t244 t245 bt248.1 bt248.2.1 bt248.2.2.1 bt258.1 bt258.2.1 bt258.2.2 bt268.1 bt268.2.1 bt268.2.2.1 bt278.1 bt278.2.1 bt278.2.2) else (if (bt268.2.2.2 != bt273.2.2.2) = true then (laws_FnPaces.j0 k t246 bt248.2.2.2 bt266.1 bt268.2.2.2 true t243 t244 t245 bt248.1 bt248.2.1 bt248.2.2.1 bt258.1 bt258.2.1 bt258.2.2 bt268.1 bt268.2.1 bt268.2.2.1 bt278.1 bt278.2.1 bt278.2.2) else ((impl_PaceOk.f bt261.1 bt261.2.1 bt261.2.2).bind fun t285 => ((spec_PaceOk.f bt261.1 bt261.2.1 bt261.2.2).bind fun t286 => (laws_FnPaces.j0 k t246 bt248.2.2.2 bt266.1 bt268.2.2.2 (t285 != t286) t243 t244 t245 bt248.1 bt248.2.1 bt248.2.2.1 bt258.1 bt258.2.1 bt258.2.2 bt268.1 bt268.2.1 bt268.2.2.1 bt278.1 bt278.2.1 bt278.2.2))))))))))))))))) = some r := H
    have A4 := Aside0.mk A40
    clear A40
    replace H := Option.bind_eq_some_iff.mp H
    obtain ⟨⟨t248, t249, t250, t251⟩, A50, H⟩ := H
    replace H : ((spec_Spend.f t243 t244 t245 t246).bind fun bt253 => ((spec_DrawPaceTick.f k l0).bind fun bt258 => ((spec_DrawPaceOk.f k l0).bind fun bt261 => ((spec_DrawPaceNew.f k l0).bind fun bt266 => ((impl_PaceNew.f bt266.1 bt266.2).bind fun bt268 => ((spec_PaceNew.f bt266.1 bt266.2).bind fun bt273 => ((impl_PaceTick.f bt258.1 bt258.2.1 bt258.2.2).bind fun bt278 => (if (!(t248 == bt253.1) || (!(t249 == bt253.2.1) || (!(t250 == bt253.2.2.1)))) = true then (laws_FnPaces.j0 k t246 t251 bt266.1 bt268.2.2.2 true t243 t244 t245 t248 t249 t250 bt258.1 bt258.2.1 bt258.2.2 bt268.1 bt268.2.1 bt268.2.2.1 bt278.1 bt278.2.1 bt278.2.2) else (if (t251 != bt253.2.2.2) = true then (laws_FnPaces.j0 k t246 t251 bt266.1 bt268.2.2.2 true t243 t244 t245 t248 t249 t250 bt258.1 bt258.2.1 bt258.2.2 bt268.1 bt268.2.1 bt268.2.2.1 bt278.1 bt278.2.1 bt278.2.2) else ((spec_PaceTick.f bt258.1 bt258.2.1 bt258.2.2).bind fun bt282 => (if (!(bt278.1 == bt282.1) || (!(bt278.2.1 == bt282.2.1) || (!(bt278.2.2 == bt282.2.2)))) = true then (laws_FnPaces.j0 k t246 t251 bt266.1 bt268.2.2.2 true t243 t244 t245 t248 t249 t250 bt258.1 bt258.2.1 bt258.2.2 bt268.1 bt268.2.1 bt268.2.2.1 bt278.1 bt278.2.1 bt278.2.2) else (if (!(bt268.1 == bt273.1) || (!(bt268.2.1 == bt273.2.1) || (!(bt268.2.2.1 == bt273.2.2.1)))) = true then (laws_FnPaces.j0 k t246 t251 bt266.1 bt268.2.2.2 true t243 t244 t245 t248 t249 t250 bt258.1 bt258.2.1 bt258.2.2 bt268.1 bt268.2.1 bt268.2.2.1 bt278.1 bt278.2.1 bt278.2.2) else (if (bt268.2.2.2 != bt273.2.2.2) = true then (laws_FnPaces.j0 k t246 t251 bt266.1 bt268.2.2.2 true t243 t244 t245 t248 t249 t250 bt258.1 bt258.2.1 bt258.2.2 bt268.1 bt268.2.1 bt268.2.2.1 bt278.1 bt278.2.1 bt278.2.2) else ((impl_PaceOk.f bt261.1 bt261.2.1 bt261.2.2).bind fun t285 => ((spec_PaceOk.f bt261.1 bt261.2.1 bt261.2.2).bind fun t286 => (laws_FnPaces.j0 k t246 t251 bt266.1 bt268.2.2.2 (t285 != t286) t243 t244 t245 t248 t249 t250 bt258.1 bt258.2.1 bt258.2.2 bt268.1 bt268.2.1 bt268.2.2.1 bt278.1 bt278.2.1 bt278.2.2)))))))))))))))) = some r := H
    have A5 := Aside0.mk A50
    clear A50
    replace H := Option.bind_eq_some_iff.mp H
    obtain ⟨⟨t253, t254, t255, t256⟩, A60, H⟩ := H
    replace H : ((spec_DrawPaceTick.f k l0).bind fun bt258 => ((spec_DrawPaceOk.f k l0).bind fun bt261 => ((spec_DrawPaceNew.f k l0).bind fun bt266 => ((impl_PaceNew.f bt266.1 bt266.2).bind fun bt268 => ((spec_PaceNew.f bt266.1 bt266.2).bind fun bt273 => ((impl_PaceTick.f bt258.1 bt258.2.1 bt258.2.2).bind fun bt278 => (if (!(t248 == t253) || (!(t249 == t254) || (!(t250 == t255)))) = true then (laws_FnPaces.j0 k t246 t251 bt266.1 bt268.2.2.2 true t243 t244 t245 t248 t249 t250 bt258.1 bt258.2.1 bt258.2.2 bt268.1 bt268.2.1 bt268.2.2.1 bt278.1 bt278.2.1 bt278.2.2) else (if (t251 != t256) = true then (laws_FnPaces.j0 k t246 t251 bt266.1 bt268.2.2.2 true t243 t244 t245 t248 t249 t250 bt258.1 bt258.2.1 bt258.2.2 bt268.1 bt268.2.1 bt268.2.2.1 bt278.1 bt278.2.1 bt278.2.2) else ((spec_PaceTick.f bt258.1 bt258.2.1 bt258.2.2).bind fun bt282 => (if (!(bt278.1 == bt282.1) || (!(bt278.2.1 == bt282.2.1) || (!(bt278.2.2 == bt282.2.2)))) = true then (laws_FnPaces.j0 k t246 t251 bt266.1 bt268.2.2.2 true t243 t244 t245 t248 t249 t250 bt258.1 bt258.2.1 bt258.2.2 bt268.1 bt268.2.1 bt268.2.2.1 bt278.1 bt278.2.1 bt278.2.2) else (if (!(bt268.1 == bt273.1) || (!(bt268.2.1 == bt273.2.1) || (!(bt268.2.2.1 == bt273.2.2.1)))) = true then (laws_FnPaces.j0 k t246 t251 bt266.1 bt268.2.2.2 true t243 t244 t245 t248 t249 t250 bt258.1 bt258.2.1 bt258.2.2 bt268.1 bt268.2.1 bt268.2.2.1 bt278.1 bt278.2.1 bt278.2.2) else (if (bt268.2.2.2 != bt273.2.2.2) = true then (laws_FnPaces.j0 k t246 t251 bt266.1 bt268.2.2.2 true t243 t244 t245 t248 t249 t250 bt258.1 bt258.2.1 bt258.2.2 bt268.1 bt268.2.1 bt268.2.2.1 bt278.1 bt278.2.1 bt278.2.2) else ((impl_PaceOk.f bt261.1 bt261.2.1 bt261.2.2).bind fun t285 => ((spec_PaceOk.f bt261.1 bt261.2.1 bt261.2.2).bind fun t286 => (laws_FnPaces.j0 k t246 t251 bt266.1 bt268.2.2.2 (t285 != t286) t243 t244 t245 t248 t249 t250 bt258.1 bt258.2.1 bt258.2.2 bt268.1 bt268.2.1 bt268.2.2.1 bt278.1 bt278.2.1 bt278.2.2))))))))))))))) = some r := H
    have A6 := Aside0.mk A60
    clear A60
    replace H := Option.bind_eq_some_iff.mp H
    obtain ⟨⟨t258, t259, t260⟩, A70, H⟩ := H
    replace H : ((spec_DrawPaceOk.f k l0).bind fun bt261 => ((spec_DrawPaceNew.f k l0).bind fun bt266 => ((impl_PaceNew.f bt266.1 bt266.2).bind fun bt268 => ((spec_PaceNew.f bt266.1 bt266.2).bind fun bt273 => ((impl_PaceTick.f t258 t259 t260).bind fun bt278 => (if (!(t248 == t253) || (!(t249 == t254) || (!(t250 == t255)))) = true then (laws_FnPaces.j0 k t246 t251 bt266.1 bt268.2.2.2 true t243 t244 t245 t248 t249 t250 t258 t259 t260 bt268.1 bt268.2.1 bt268.2.2.1 bt278.1 bt278.2.1 bt278.2.2) else (if (t251 != t256) = true then (laws_FnPaces.j0 k t246 t251 bt266.1 bt268.2.2.2 true t243 t244 t245 t248 t249 t250 t258 t259 t260 bt268.1 bt268.2.1 bt268.2.2.1 bt278.1 bt278.2.1 bt278.2.2) else ((spec_PaceTick.f t258 t259 t260).bind fun bt282 => (if (!(bt278.1 == bt282.1) || (!(bt278.2.1 == bt282.2.1) || (!(bt278.2.2 == bt282.2.2)))) = true then (laws_FnPaces.j0 k t246 t251 bt266.1 bt268.2.2.2 true t243 t244 t245 t248 t249 t250 t258 t259 t260 bt268.1 bt268.2.1 bt268.2.2.1 bt278.1 bt278.2.1 bt278.2.2) else (if (!(bt268.1 == bt273.1) || (!(bt268.2.1 == bt273.2.1) || (!(bt268.2.2.1 == bt273.2.2.1)))) = true then (laws_FnPaces.j0 k t246 t251 bt266.1 bt268.2.2.2 true t243 t244 t245 t248 t249 t250 t258 t259 t260 bt268.1 bt268.2.1 bt268.2.2.1 bt278.1 bt278.2.1 bt278.2.2) else (if (bt268.2.2.2 != bt273.2.2.2) = true then (laws_FnPaces.j0 k t246 t251 bt266.1 bt268.2.2.2 true t243 t244 t245 t248 t249 t250 t258 t259 t260 bt268.1 bt268.2.1 bt268.2.2.1 bt278.1 bt278.2.1 bt278.2.2) else ((impl_PaceOk.f bt261.1 bt261.2.1 bt261.2.2).bind fun t285 => ((spec_PaceOk.f bt261.1 bt261.2.1 bt261.2.2).bind fun t286 => (laws_FnPaces.j0 k t246 t251 bt266.1 bt268.2.2.2 (t285 != t286) t243 t244 t245 t248 t249 t250 t258 t259 t260 bt268.1 bt268.2.1 bt268.2.2.1 bt278.1 bt278.2.1 bt278.2.2)))))))))))))) = some r := H
    have A7 := Aside0.mk A70
    clear A70
    replace H := Option.bind_eq_some_iff.mp H
    obtain ⟨⟨t261, t262, t263⟩, A80, H⟩ := H
    replace H : ((spec_DrawPaceNew.f k l0).bind fun bt266 => ((impl_PaceNew.f bt266.1 bt266.2).bind fun bt268 => ((spec_PaceNew.f bt266.1 bt266.2).bind fun bt273 => ((impl_PaceTick.f t258 t259 t260).bind fun bt278 => (if (!(t248 == t253) || (!(t249 == t254) || (!(t250 == t255)))) = true then (laws_FnPaces.j0 k t246 t251 bt266.1 bt268.2.2.2 true t243 t244 t245 t248 t249 t250 t258 t259 t260 bt268.1 bt268.2.1 bt268.2.2.1 bt278.1 bt278.2.1 bt278.2.2) else (if (t251 != t256) = true then (laws_FnPaces.j0 k t246 t251 bt266.1 bt268.2.2.2 true t243 t244 t245 t248 t249 t250 t258 t259 t260 bt268.1 bt268.2.1 bt268.2.2.1 bt278.1 bt278.2.1 bt278.2.2) else ((spec_PaceTick.f t258 t259 t260).bind fun bt282 => (if (!(bt278.1 == bt282.1) || (!(bt278.2.1 == bt282.2.1) || (!(bt278.2.2 == bt282.2.2)))) = true then (laws_FnPaces.j0 k t246 t251 bt266.1 bt268.2.2.2 true t243 t244 t245 t248 t249 t250 t258 t259 t260 bt268.1 bt268.2.1 bt268.2.2.1 bt278.1 bt278.2.1 bt278.2.2) else (if (!(bt268.1 == bt273.1) || (!(bt268.2.1 == bt273.2.1) || (!(bt268.2.2.1 == bt273.2.2.1)))) = true then (laws_FnPaces.j0 k t246 t251 bt266.1 bt268.2.2.2 true t243 t244 t245 t248 t249 t250 t258 t259 t260 bt268.1 bt268.2.1 bt268.2.2.1 bt278.1 bt278.2.1 bt278.2.2) else (if (bt268.2.2.2 != bt273.2.2.2) = true then (laws_FnPaces.j0 k t246 t251 bt266.1 bt268.2.2.2 true t243 t244 t245 t248 t249 t250 t258 t259 t260 bt268.1 bt268.2.1 bt268.2.2.1 bt278.1 bt278.2.1 bt278.2.2) else ((impl_PaceOk.f t261 t262 t263).bind fun t285 => ((spec_PaceOk.f t261 t262 t263).bind fun t286 => (laws_FnPaces.j0 k t246 t251 bt266.1 bt268.2.2.2 (t285 != t286) t243 t244 t245 t248 t249 t250 t258 t259 t260 bt268.1 bt268.2.1 bt268.2.2.1 bt278.1 bt278.2.1 bt278.2.2))))))))))))) = some r := H
    have A8 := Aside0.mk A80
    clear A80
    replace H := Option.bind_eq_some_iff.mp H
    obtain ⟨⟨t266, t267⟩, A90, H⟩ := H
    replace H : ((impl_PaceNew.f t266 t267).bind fun bt268 => ((spec_PaceNew.f t266 t267).bind fun bt273 => ((impl_PaceTick.f t258 t259 t260).bind fun bt278 => (if (!(t248 == t253) || (!(t249 == t254) || (!(t250 == t255)))) = true then (laws_FnPaces.j0 k t246 t251 t266 bt268.2.2.2 true t243 t244 t245 t248 t249 t250 t258 t259 t260 bt268.1 bt268.2.1 bt268.2.2.1 bt278.1 bt278.2.1 bt278.2.2) else (if (t251 != t256) = true then (laws_FnPaces.j0 k t246 t251 t266 bt268.2.2.2 true t243 t244 t245 t248 t249 t250 t258 t259 t260 bt268.1 bt268.2.1 bt268.2.2.1 bt278.1 bt278.2.1 bt278.2.2) else ((spec_PaceTick.f t258 t259 t260).bind fun bt282 => (if (!(bt278.1 == bt282.1) || (!(bt278.2.1 == bt282.2.1) || (!(bt278.2.2 == bt282.2.2)))) = true then (laws_FnPaces.j0 k t246 t251 t266 bt268.2.2.2 true t243 t244 t245 t248 t249 t250 t258 t259 t260 bt268.1 bt268.2.1 bt268.2.2.1 bt278.1 bt278.2.1 bt278.2.2) else (if (!(bt268.1 == bt273.1) || (!(bt268.2.1 == bt273.2.1) || (!(bt268.2.2.1 == bt273.2.2.1)))) = true then (laws_FnPaces.j0 k t246 t251 t266 bt268.2.2.2 true t243 t244 t245 t248 t249 t250 t258 t259 t260 bt268.1 bt268.2.1 bt268.2.2.1 bt278.1 bt278.2.1 bt278.2.2) else (if (bt268.2.2.2 != bt273.2.2.2) = true then (laws_FnPaces.j0 k t246 t251 t266 bt268.2.2.2 true t243 t244 t245 t248 t249 t250 t258 t259 t260 bt268.1 bt268.2.1 bt268.2.2.1 bt278.1 bt278.2.1 bt278.2.2) else ((impl_PaceOk.f t261 t262 t263).bind fun t285 => ((spec_PaceOk.f t261 t262 t263).bind fun t286 => (laws_FnPaces.j0 k t246 t251 t266 bt268.2.2.2 (t285 != t286) t243 t244 t245 t248 t249 t250 t258 t259 t260 bt268.1 bt268.2.1 bt268.2.2.1 bt278.1 bt278.2.1 bt278.2.2)))))))))))) = some r := H
    have A9 := Aside0.mk A90
    clear A90
    replace H := Option.bind_eq_some_iff.mp H
    obtain ⟨⟨t268, t269, t270, t271⟩, A100, H⟩ := H
    replace H : ((spec_PaceNew.f t266 t267).bind fun bt273 => ((impl_PaceTick.f t258 t259 t260).bind fun bt278 => (if (!(t248 == t253) || (!(t249 == t254) || (!(t250 == t255)))) = true then (laws_FnPaces.j0 k t246 t251 t266 t271 true t243 t244 t245 t248 t249 t250 t258 t259 t260 t268 t269 t270 bt278.1 bt278.2.1 bt278.2.2) else (if (t251 != t256) = true then (laws_FnPaces.j0 k t246 t251 t266 t271 true t243 t244 t245 t248 t249 t250 t258 t259 t260 t268 t269 t270 bt278.1 bt278.2.1 bt278.2.2) else ((spec_PaceTick.f t258 t259 t260).bind fun bt282 => (if (!(bt278.1 == bt282.1) || (!(bt278.2.1 == bt282.2.1) || (!(bt278.2.2 == bt282.2.2)))) = true then (laws_FnPaces.j0 k t246 t251 t266 t271 true t243 t244 t245 t248 t249 t250 t258 t259 t260 t268 t269 t270 bt278.1 bt278.2.1 bt278.2.2) else (if (!(t268 == bt273.1) || (!(t269 == bt273.2.1) || (!(t270 == bt273.2.2.1)))) = true then (laws_FnPaces.j0 k t246 t251 t266 t271 true t243 t244 t245 t248 t249 t250 t258 t259 t260 t268 t269 t270 bt278.1 bt278.2.1 bt278.2.2) else (if (t271 != bt273.2.2.2) = true then (laws_FnPaces.j0 k t246 t251 t266 t271 true t243 t244 t245 t248 t249 t250 t258 t259 t260 t268 t269 t270 bt278.1 bt278.2.1 bt278.2.2) else ((impl_PaceOk.f t261 t262 t263).bind fun t285 => ((spec_PaceOk.f t261 t262 t263).bind fun t286 => (laws_FnPaces.j0 k t246 t251 t266 t271 (t285 != t286) t243 t244 t245 t248 t249 t250 t258 t259 t260 t268 t269 t270 bt278.1 bt278.2.1 bt278.2.2))))))))))) = some r := H
    have A10 := Aside0.mk A100
    clear A100
    replace H := Option.bind_eq_some_iff.mp H
    obtain ⟨⟨t273, t274, t275, t276⟩, A110, H⟩ := H
    replace H : ((impl_PaceTick.f t258 t259 t260).bind fun bt278 => (if (!(t248 == t253) || (!(t249 == t254) || (!(t250 == t255)))) = true then (laws_FnPaces.j0 k t246 t251 t266 t271 true t243 t244 t245 t248 t249 t250 t258 t259 t260 t268 t269 t270 bt278.1 bt278.2.1 bt278.2.2) else (if (t251 != t256) = true then (laws_FnPaces.j0 k t246 t251 t266 t271 true t243 t244 t245 t248 t249 t250 t258 t259 t260 t268 t269 t270 bt278.1 bt278.2.1 bt278.2.2) else ((spec_PaceTick.f t258 t259 t260).bind fun bt282 => (if (!(bt278.1 == bt282.1) || (!(bt278.2.1 == bt282.2.1) || (!(bt278.2.2 == bt282.2.2)))) = true then (laws_FnPaces.j0 k t246 t251 t266 t271 true t243 t244 t245 t248 t249 t250 t258 t259 t260 t268 t269 t270 bt278.1 bt278.2.1 bt278.2.2) else (if (!(t268 == t273) || (!(t269 == t274) || (!(t270 == t275)))) = true then (laws_FnPaces.j0 k t246 t251 t266 t271 true t243 t244 t245 t248 t249 t250 t258 t259 t260 t268 t269 t270 bt278.1 bt278.2.1 bt278.2.2) else (if (t271 != t276) = true then (laws_FnPaces.j0 k t246 t251 t266 t271 true t243 t244 t245 t248 t249 t250 t258 t259 t260 t268 t269 t270 bt278.1 bt278.2.1 bt278.2.2) else ((impl_PaceOk.f t261 t262 t263).bind fun t285 => ((spec_PaceOk.f t261 t262 t263).bind fun t286 => (laws_FnPaces.j0 k t246 t251 t266 t271 (t285 != t286) t243 t244 t245 t248 t249 t250 t258 t259 t260 t268 t269 t270 bt278.1 bt278.2.1 bt278.2.2)))))))))) = some r := H
    have A11 := Aside0.mk A110
    clear A110
    replace H := Option.bind_eq_some_iff.mp H
    obtain ⟨⟨t278, t279, t280⟩, A120, H⟩ := H
    replace H : (if (!(t248 == t253) || (!(t249 == t254) || (!(t250 == t255)))) = true then (laws_FnPaces.j0 k t246 t251 t266 t271 true t243 t244 t245 t248 t249 t250 t258 t259 t260 t268 t269 t270 t278 t279 t280) else (if (t251 != t256) = true then (laws_FnPaces.j0 k t246 t251 t266 t271 true t243 t244 t245 t248 t249 t250 t258 t259 t260 t268 t269 t270 t278 t279 t280) else ((spec_PaceTick.f t258 t259 t260).bind fun bt282 => (if (!(t278 == bt282.1) || (!(t279 == bt282.2.1) || (!(t280 == bt282.2.2)))) = true then (laws_FnPaces.j0 k t246 t251 t266 t271 true t243 t244 t245 t248 t249 t250 t258 t259 t260 t268 t269 t270 t278 t279 t280) else (if (!(t268 == t273) || (!(t269 == t274) || (!(t270 == t275)))) = true then (laws_FnPaces.j0 k t246 t251 t266 t271 true t243 t244 t245 t248 t249 t250 t258 t259 t260 t268 t269 t270 t278 t279 t280) else (if (t271 != t276) = true then (laws_FnPaces.j0 k t246 t251 t266 t271 true t243 t244 t245 t248 t249 t250 t258 t259 t260 t268 t269 t270 t278 t279 t280) else ((impl_PaceOk.f t261 t262 t263).bind fun t285 => ((spec_PaceOk.f t261 t262 t263).bind fun t286 => (laws_FnPaces.j0 k t246 t251 t266 t271 (t285 != t286) t243 t244 t245 t248 t249 t250 t258 t259 t260 t268 t269 t270 t278 t279 t280))))))))) = some r := H
    have A12 := Aside0.mk A120
    clear A120
    have HC13 := Aside0.mk H
    clear H
    go_enter Try.func11, Try.ntmps11
    go_upto_region 11 with (first | ((with_reducible refine gate_callee (f := 30) rfl ?_); refine goesL_ (some 19) rfl rfl Try.func30 (by kernel_rfl) rfl #[.slice A0 l0.length c0] rfl (by (try simp only [List.map_toArray, List.map_cons, List.map_nil]); first | done | rfl | (simp only [List.length_drop, List.length_take]; rfl)) ?_; (with_reducible refine (laws_big.calls _ _ l0 false _ ?side1 ?side2 A2.out).mono ?_); (case side1 => repeat (first | exact HR0.out | (with_reducible refine Kd.C_alloc ?_ _) | (with_reducible refine Kd.C_drewN ?_ _) | (with_reducible refine Kd.C_drew ?_))); (case side2 => exact HC0.out); rintro e w' ⟨rfl, ⟨nd, rfl⟩⟩; refine ⟨_, rfl, ?_⟩) | ((with_reducible refine gate_callee (f := 44) rfl ?_); refine goesL_ (some 22) rfl rfl Try.func44 (by kernel_rfl) rfl #[.slice A0 l0.length c0] rfl (by (try simp only [List.map_toArray, List.map_cons, List.map_nil]); first | done | rfl | (simp only [List.length_drop, List.length_take]; rfl)) ?_; (with_reducible refine (spec_DrawSpend.calls k _ _ l0 t243 t244 t245 t246 _ ?side1 ?side2 A4.out).mono ?_); (case side1 => repeat (first | exact HR0.out | (with_reducible refine Kd.C_alloc ?_ _) | (with_reducible refine Kd.C_drewN ?_ _) | (with_reducible refine Kd.C_drew ?_))); (case side2 => exact HC0.out); rintro e w14 ⟨rfl, hb⟩; refine ⟨_, rfl, ?_⟩; have n0_ := Aside0.mk (below_step (by repeat (first | (with_reducible first | exact HB.out | apply below_alloc | apply pw_below_drewN | apply below_drew1) | exact HB.out)) hb); clear HB; have HB := n0_; clear n0_; (try clear hb); (try clear hb2); (try clear hk); (try clear hi)) | ((with_reducible refine gate_dst (N := 3) rfl ?_); refine box_event ?hg (N := 3) ?hd (cs := #[.int .i64 0, .int .i64 0, .int .i64 0]) (t := 25) ?hr ?_; (case hd => rfl); (case hg => rfl); (case hr => first | (go_simp; done) | (go_simp; rfl)); intro gb247 hg w15 hbox hb; have n0_ := Aside0.mk (below_step (by repeat (first | (with_reducible first | exact HB.out | apply below_alloc | apply pw_below_drewN | apply below_drew1) | exact HB.out)) hb); have n1_ := Aside0.mk (hbox); have n2_ := Aside0.mk ((by rw [hg]; exact (below_size (by repeat (first | (with_reducible first | exact HB.out | apply below_alloc | apply pw_below_drewN | apply below_drew1) | exact HB.out))) : w.heap.size ≤ gb247)); have n3_ := Aside0.mk ((by rw [hg]; exact (below_size (by repeat (first | (with_reducible first | exact HB.out | apply below_alloc | apply pw_below_drewN | apply below_drew1) | exact HB.out))) : w.heap.size ≤ gb247)); clear HB; have HB := n0_; have BK247 := n1_; have GW247 := n2_; have GE247 := n3_; clear n0_ n1_ n2_ n3_; clear hb hbox hg; have hcz16_0 : w15.cell? ⟨gb247, 0, none⟩ = some (.int .i64 0) := (blk_cell BK247.out 0).trans rfl; have hcz16_1 : w15.cell? ⟨gb247, 1, none⟩ = some (.int .i64 0) := (blk_cell BK247.out 1).trans rfl; have hcz16_2 : w15.cell? ⟨gb247, 2, none⟩ = some (.int .i64 0) := (blk_cell BK247.out 2).trans rfl; have hfz16_0 := blk_frozen BK247.out 0; have hfz16_1 := blk_frozen BK247.out 1; have hfz16_2 := blk_frozen BK247.out 2) | ((with_reducible refine gate_callee (f := 22) rfl ?_); refine goesL_ (some 28) rfl rfl Try.func22 (by kernel_rfl) rfl #[.agg #[.int .i64 t243, .int .i64 t244, .int .i64 t245], .int .i64 t246] rfl (by (try simp only [List.map_toArray, List.map_cons, List.map_nil]); first | done | rfl | (simp only [List.length_drop, List.length_take]; rfl)) ?_; (with_reducible refine (impl_Spend.calls t243 t244 t245 t246 t248 t249 t250 t251 _ A5.out).mono ?_); rintro e w17 ⟨rfl, hb⟩; refine ⟨_, rfl, ?_⟩; have n0_ := Aside0.mk (blk_below (g := gb247) (o := .cells #[.int .i64 t243, .int .i64 t244, .int .i64 t245] 25 (0, 0)) (by (with_reducible repeat (first | refine blk_drewN ?_ _ | refine blk_drew ?_ | refine blk_alloc ?_ _)); refine blk_put (cs := #[.int .i64 t243, .int .i64 t244, .int .i64 0]) ?_ 2 _ rfl; (with_reducible repeat (first | refine blk_drewN ?_ _ | refine blk_drew ?_ | refine blk_alloc ?_ _)); refine blk_put (cs := #[.int .i64 t243, .int .i64 0, .int .i64 0]) ?_ 1 _ rfl; (with_reducible repeat (first | refine blk_drewN ?_ _ | refine blk_drew ?_ | refine blk_alloc ?_ _)); refine blk_put (cs := #[.int .i64 0, .int .i64 0, .int .i64 0]) ?_ 0 _ rfl; (with_reducible repeat (first | refine blk_drewN ?_ _ | refine blk_drew ?_ | refine blk_alloc ?_ _)); exact BK247.out) hb); have n1_ := Aside0.mk (below_step (by repeat (first | (with_reducible first | exact HB.out | apply below_alloc | apply pw_below_drewN | apply below_drew1 | refine below_set ?_ GE247.out) | exact HB.out)) hb); clear BK247; clear HB; have BK247 := n0_; have HB := n1_; clear n0_ n1_; (try clear hb); (try clear hb2); (try clear hk); (try clear hi)) | ((with_reducible refine gate_dst (N := 5) rfl ?_); refine box_event ?hg (N := 5) ?hd (cs := #[.int .i64 0, .int .i64 0, .int .i64 0]) (t := 25) ?hr ?_; (case hd => rfl); (case hg => rfl); (case hr => first | (go_simp; done) | (go_simp; rfl)); intro gb252 hg w18 hbox hb; have n0_ := Aside0.mk (blk_below (g := gb247) (o := .cells #[.int .i64 t243, .int .i64 t244, .int .i64 t245] 25 (0, 0)) (by (with_reducible repeat (first | refine blk_drewN ?_ _ | refine blk_drew ?_ | refine blk_alloc ?_ _)); exact BK247.out) hb); have n1_ := Aside0.mk (below_step (by repeat (first | (with_reducible first | exact HB.out | apply below_alloc | apply pw_below_drewN | apply below_drew1 | refine below_set ?_ GE247.out) | exact HB.out)) hb); have n2_ := Aside0.mk (hbox); have n3_ := Aside0.mk ((by rw [hg]; exact (below_size (by repeat (first | (with_reducible first | exact HB.out | apply below_alloc | apply pw_below_drewN | apply below_drew1 | refine below_set ?_ GE247.out) | exact HB.out))) : w.heap.size ≤ gb252)); have n4_ := Aside0.mk ((by rw [hg]; exact (below_size (by repeat (first | (with_reducible first | exact HB.out | apply below_alloc | apply pw_below_drewN | apply below_drew1 | refine below_set ?_ GE247.out) | exact HB.out))) : w.heap.size ≤ gb252)); have n5_ := Aside0.mk ((by rw [hg]; exact Nat.ne_of_lt (blk_lt (g := gb247) (o := .cells #[.int .i64 t243, .int .i64 t244, .int .i64 t245] 25 (0, 0)) (by (with_reducible repeat (first | refine blk_drewN ?_ _ | refine blk_drew ?_ | refine blk_alloc ?_ _)); exact BK247.out)) : gb247 ≠ gb252)); have n6_ := Aside0.mk ((by rw [hg]; exact Nat.ne_of_gt (blk_lt (g := gb247) (o := .cells #[.int .i64 t243, .int .i64 t244, .int .i64 t245] 25 (0, 0)) (by (with_reducible repeat (first | refine blk_drewN ?_ _ | refine blk_drew ?_ | refine blk_alloc ?_ _)); exact BK247.out)) : gb252 ≠ gb247)); clear BK247; clear HB; have BK247 := n0_; have HB := n1_; have BK252 := n2_; have GW252 := n3_; have GE252 := n4_; have NB247_252 := n5_; have NB252_247 := n6_; clear n0_ n1_ n2_ n3_ n4_ n5_ n6_; clear hb hbox hg; have hnb19 := NB252_247.out; have hnc19 := NB247_252.out; have hcz20_0 : w18.cell? ⟨gb252, 0, none⟩ = some (.int .i64 0) := (blk_cell BK252.out 0).trans rfl; have hcz20_1 : w18.cell? ⟨gb252, 1, none⟩ = some (.int .i64 0) := (blk_cell BK252.out 1).trans rfl; have hcz20_2 : w18.cell? ⟨gb252, 2, none⟩ = some (.int .i64 0) := (blk_cell BK252.out 2).trans rfl; have hfz20_0 := blk_frozen BK252.out 0; have hfz20_1 := blk_frozen BK252.out 1; have hfz20_2 := blk_frozen BK252.out 2; have hcz21_0 : w18.cell? ⟨gb247, 0, none⟩ = some (.int .i64 t243) := (blk_cell BK247.out 0).trans rfl; have hcz21_1 : w18.cell? ⟨gb247, 1, none⟩ = some (.int .i64 t244) := (blk_cell BK247.out 1).trans rfl; have hcz21_2 : w18.cell? ⟨gb247, 2, none⟩ = some (.int .i64 t245) := (blk_cell BK247.out 2).trans rfl; have hfz21_0 := blk_frozen BK247.out 0; have hfz21_1 := blk_frozen BK247.out 1; have hfz21_2 := blk_frozen BK247.out 2) | ((with_reducible refine gate_callee (f := 21) rfl ?_); refine goesL_ (some 34) rfl rfl Try.func21 (by kernel_rfl) rfl #[.agg #[.int .i64 t243, .int .i64 t244, .int .i64 t245], .int .i64 t246] rfl (by (try simp only [List.map_toArray, List.map_cons, List.map_nil]); first | done | rfl | (simp only [List.length_drop, List.length_take]; rfl)) ?_; (with_reducible refine (spec_Spend.calls t243 t244 t245 t246 t253 t254 t255 t256 _ A6.out).mono ?_); rintro e w22 ⟨rfl, hb⟩; refine ⟨_, rfl, ?_⟩; have n0_ := Aside0.mk (blk_below (g := gb247) (o := .cells #[.int .i64 t243, .int .i64 t244, .int .i64 t245] 25 (0, 0)) (by (with_reducible repeat (first | refine blk_drewN ?_ _ | refine blk_drew ?_ | refine blk_alloc ?_ _)); refine blk_far ?_ NB247_252.out _; (with_reducible repeat (first | refine blk_drewN ?_ _ | refine blk_drew ?_ | refine blk_alloc ?_ _)); refine blk_far ?_ NB247_252.out _; (with_reducible repeat (first | refine blk_drewN ?_ _ | refine blk_drew ?_ | refine blk_alloc ?_ _)); refine blk_far ?_ NB247_252.out _; (with_reducible repeat (first | refine blk_drewN ?_ _ | refine blk_drew ?_ | refine blk_alloc ?_ _)); exact BK247.out) hb); have n1_ := Aside0.mk (blk_below (g := gb252) (o := .cells #[.int .i64 t248, .int .i64 t249, .int .i64 t250] 25 (0, 0)) (by (with_reducible repeat (first | refine blk_drewN ?_ _ | refine blk_drew ?_ | refine blk_alloc ?_ _)); refine blk_put (cs := #[.int .i64 t248, .int .i64 t249, .int .i64 0]) ?_ 2 _ rfl; (with_reducible repeat (first | refine blk_drewN ?_ _ | refine blk_drew ?_ | refine blk_alloc ?_ _)); refine blk_put (cs := #[.int .i64 t248, .int .i64 0, .int .i64 0]) ?_ 1 _ rfl; (with_reducible repeat (first | refine blk_drewN ?_ _ | refine blk_drew ?_ | refine blk_alloc ?_ _)); refine blk_put (cs := #[.int .i64 0, .int .i64 0, .int .i64 0]) ?_ 0 _ rfl; (with_reducible repeat (first | refine blk_drewN ?_ _ | refine blk_drew ?_ | refine blk_alloc ?_ _)); exact BK252.out) hb); have n2_ := Aside0.mk (below_step (by repeat (first | (with_reducible first | exact HB.out | apply below_alloc | apply pw_below_drewN | apply below_drew1 | refine below_set ?_ GE247.out | refine below_set ?_ GE252.out) | exact HB.out)) hb); clear BK247; clear BK252; clear HB; have BK247 := n0_; have BK252 := n1_; have HB := n2_; clear n0_ n1_ n2_; (try clear hb); (try clear hb2); (try clear hk); (try clear hi)) | ((with_reducible refine gate_dst (N := 7) rfl ?_); refine box_event ?hg (N := 7) ?hd (cs := #[.int .i64 0, .int .i64 0, .int .i64 0]) (t := 25) ?hr ?_; (case hd => rfl); (case hg => rfl); (case hr => first | (go_simp; done) | (go_simp; rfl)); intro gb257 hg w23 hbox hb; have n0_ := Aside0.mk (blk_below (g := gb247) (o := .cells #[.int .i64 t243, .int .i64 t244, .int .i64 t245] 25 (0, 0)) (by (with_reducible repeat (first | refine blk_drewN ?_ _ | refine blk_drew ?_ | refine blk_alloc ?_ _)); exact BK247.out) hb); have n1_ := Aside0.mk (blk_below (g := gb252) (o := .cells #[.int .i64 t248, .int .i64 t249, .int .i64 t250] 25 (0, 0)) (by (with_reducible repeat (first | refine blk_drewN ?_ _ | refine blk_drew ?_ | refine blk_alloc ?_ _)); exact BK252.out) hb); have n2_ := Aside0.mk (below_step (by repeat (first | (with_reducible first | exact HB.out | apply below_alloc | apply pw_below_drewN | apply below_drew1 | refine below_set ?_ GE247.out | refine below_set ?_ GE252.out) | exact HB.out)) hb); have n3_ := Aside0.mk (hbox); have n4_ := Aside0.mk ((by rw [hg]; exact (below_size (by repeat (first | (with_reducible first | exact HB.out | apply below_alloc | apply pw_below_drewN | apply below_drew1 | refine below_set ?_ GE247.out | refine below_set ?_ GE252.out) | exact HB.out))) : w.heap.size ≤ gb257)); have n5_ := Aside0.mk ((by rw [hg]; exact (below_size (by repeat (first | (with_reducible first | exact HB.out | apply below_alloc | apply pw_below_drewN | apply below_drew1 | refine below_set ?_ GE247.out | refine below_set ?_ GE252.out) | exact HB.out))) : w.heap.size ≤ gb257)); have n6_ := Aside0.mk ((by rw [hg]; exact Nat.ne_of_lt (blk_lt (g := gb247) (o := .cells #[.int .i64 t243, .int .i64 t244, .int .i64 t245] 25 (0, 0)) (by (with_reducible repeat (first | refine blk_drewN ?_ _ | refine blk_drew ?_ | refine blk_alloc ?_ _)); exact BK247.out)) : gb247 ≠ gb257)); have n7_ := Aside0.mk ((by rw [hg]; exact Nat.ne_of_gt (blk_lt (g := gb247) (o := .cells #[.int .i64 t243, .int .i64 t244, .int .i64 t245] 25 (0, 0)) (by (with_reducible repeat (first | refine blk_drewN ?_ _ | refine blk_drew ?_ | refine blk_alloc ?_ _)); exact BK247.out)) : gb257 ≠ gb247)); have n8_ := Aside0.mk ((by rw [hg]; exact Nat.ne_of_lt (blk_lt (g := gb252) (o := .cells #[.int .i64 t248, .int .i64 t249, .int .i64 t250] 25 (0, 0)) (by (with_reducible repeat (first | refine blk_drewN ?_ _ | refine blk_drew ?_ | refine blk_alloc ?_ _)); exact BK252.out)) : gb252 ≠ gb257)); have n9_ := Aside0.mk ((by rw [hg]; exact Nat.ne_of_gt (blk_lt (g := gb252) (o := .cells #[.int .i64 t248, .int .i64 t249, .int .i64 t250] 25 (0, 0)) (by (with_reducible repeat (first | refine blk_drewN ?_ _ | refine blk_drew ?_ | refine blk_alloc ?_ _)); exact BK252.out)) : gb257 ≠ gb252)); clear BK247; clear BK252; clear HB; have BK247 := n0_; have BK252 := n1_; have HB := n2_; have BK257 := n3_; have GW257 := n4_; have GE257 := n5_; have NB247_257 := n6_; have NB257_247 := n7_; have NB252_257 := n8_; have NB257_252 := n9_; clear n0_ n1_ n2_ n3_ n4_ n5_ n6_ n7_ n8_ n9_; clear hb hbox hg; have hnb24 := NB257_247.out; have hnc24 := NB247_257.out; have hnb25 := NB257_252.out; have hnc25 := NB252_257.out; have hcz26_0 : w23.cell? ⟨gb257, 0, none⟩ = some (.int .i64 0) := (blk_cell BK257.out 0).trans rfl; have hcz26_1 : w23.cell? ⟨gb257, 1, none⟩ = some (.int .i64 0) := (blk_cell BK257.out 1).trans rfl; have hcz26_2 : w23.cell? ⟨gb257, 2, none⟩ = some (.int .i64 0) := (blk_cell BK257.out 2).trans rfl; have hfz26_0 := blk_frozen BK257.out 0; have hfz26_1 := blk_frozen BK257.out 1; have hfz26_2 := blk_frozen BK257.out 2) | ((with_reducible refine gate_callee (f := 45) rfl ?_); refine goesL_ (some 38) rfl rfl Try.func45 (by kernel_rfl) rfl #[.slice A0 l0.length c0] rfl (by (try simp only [List.map_toArray, List.map_cons, List.map_nil]); first | done | rfl | (simp only [List.length_drop, List.length_take]; rfl)) ?_; (with_reducible refine (spec_DrawPaceTick.calls k _ _ l0 t258 t259 t260 _ ?side1 ?side2 A7.out).mono ?_); (case side1 => exact Kd.C_below HR0.out (by repeat (first | (with_reducible first | exact HB.out | apply below_alloc | apply pw_below_drewN | apply below_drew1 | refine below_set ?_ GE247.out | refine below_set ?_ GE252.out | refine below_set ?_ GE257.out) | exact HB.out))); (case side2 => exact HC0.out); rintro e w27 ⟨rfl, hb⟩; refine ⟨_, rfl, ?_⟩; have n0_ := Aside0.mk (blk_below (g := gb247) (o := .cells #[.int .i64 t243, .int .i64 t244, .int .i64 t245] 25 (0, 0)) (by (with_reducible repeat (first | refine blk_drewN ?_ _ | refine blk_drew ?_ | refine blk_alloc ?_ _)); refine blk_far ?_ NB247_257.out _; (with_reducible repeat (first | refine blk_drewN ?_ _ | refine blk_drew ?_ | refine blk_alloc ?_ _)); refine blk_far ?_ NB247_257.out _; (with_reducible repeat (first | refine blk_drewN ?_ _ | refine blk_drew ?_ | refine blk_alloc ?_ _)); refine blk_far ?_ NB247_257.out _; (with_reducible repeat (first | refine blk_drewN ?_ _ | refine blk_drew ?_ | refine blk_alloc ?_ _)); exact BK247.out) hb); have n1_ := Aside0.mk (blk_below (g := gb252) (o := .cells #[.int .i64 t248, .int .i64 t249, .int .i64 t250] 25 (0, 0)) (by (with_reducible repeat (first | refine blk_drewN ?_ _ | refine blk_drew ?_ | refine blk_alloc ?_ _)); refine blk_far ?_ NB252_257.out _; (with_reducible repeat (first | refine blk_drewN ?_ _ | refine blk_drew ?_ | refine blk_alloc ?_ _)); refine blk_far ?_ NB252_257.out _; (with_reducible repeat (first | refine blk_drewN ?_ _ | refine blk_drew ?_ | refine blk_alloc ?_ _)); refine blk_far ?_ NB252_257.out _; (with_reducible repeat (first | refine blk_drewN ?_ _ | refine blk_drew ?_ | refine blk_alloc ?_ _)); exact BK252.out) hb); have n2_ := Aside0.mk (blk_below (g := gb257) (o := .cells #[.int .i64 t253, .int .i64 t254, .int .i64 t255] 25 (0, 0)) (by (with_reducible repeat (first | refine blk_drewN ?_ _ | refine blk_drew ?_ | refine blk_alloc ?_ _)); refine blk_put (cs := #[.int .i64 t253, .int .i64 t254, .int .i64 0]) ?_ 2 _ rfl; (with_reducible repeat (first | refine blk_drewN ?_ _ | refine blk_drew ?_ | refine blk_alloc ?_ _)); refine blk_put (cs := #[.int .i64 t253, .int .i64 0, .int .i64 0]) ?_ 1 _ rfl; (with_reducible repeat (first | refine blk_drewN ?_ _ | refine blk_drew ?_ | refine blk_alloc ?_ _)); refine blk_put (cs := #[.int .i64 0, .int .i64 0, .int .i64 0]) ?_ 0 _ rfl; (with_reducible repeat (first | refine blk_drewN ?_ _ | refine blk_drew ?_ | refine blk_alloc ?_ _)); exact BK257.out) hb); have n3_ := Aside0.mk (below_step (by repeat (first | (with_reducible first | exact HB.out | apply below_alloc | apply pw_below_drewN | apply below_drew1 | refine below_set ?_ GE247.out | refine below_set ?_ GE252.out | refine below_set ?_ GE257.out) | exact HB.out)) hb); clear BK247; clear BK252; clear BK257; clear HB; have BK247 := n0_; have BK252 := n1_; have BK257 := n2_; have HB := n3_; clear n0_ n1_ n2_ n3_; (try clear hb); (try clear hb2); (try clear hk); (try clear hi)) | ((with_reducible refine gate_callee (f := 46) rfl ?_); refine goesL_ (some 40) rfl rfl Try.func46 (by kernel_rfl) rfl #[.slice A0 l0.length c0] rfl (by (try simp only [List.map_toArray, List.map_cons, List.map_nil]); first | done | rfl | (simp only [List.length_drop, List.length_take]; rfl)) ?_; (with_reducible refine (spec_DrawPaceOk.calls k _ _ l0 t261 t262 t263 _ ?side1 ?side2 A8.out).mono ?_); (case side1 => repeat (first | exact (Kd.C_below HR0.out HB.out) | (with_reducible refine Kd.C_alloc ?_ _) | (with_reducible refine Kd.C_drewN ?_ _) | (with_reducible refine Kd.C_drew ?_))); (case side2 => exact HC0.out); rintro e w28 ⟨rfl, hb⟩; refine ⟨_, rfl, ?_⟩; have n0_ := Aside0.mk (blk_below (g := gb247) (o := .cells #[.int .i64 t243, .int .i64 t244, .int .i64 t245] 25 (0, 0)) (by (with_reducible repeat (first | refine blk_drewN ?_ _ | refine blk_drew ?_ | refine blk_alloc ?_ _)); exact BK247.out) hb); have n1_ := Aside0.mk (blk_below (g := gb252) (o := .cells #[.int .i64 t248, .int .i64 t249, .int .i64 t250] 25 (0, 0)) (by (with_reducible repeat (first | refine blk_drewN ?_ _ | refine blk_drew ?_ | refine blk_alloc ?_ _)); exact BK252.out) hb); have n2_ := Aside0.mk (blk_below (g := gb257) (o := .cells #[.int .i64 t253, .int .i64 t254, .int .i64 t255] 25 (0, 0)) (by (with_reducible repeat (first | refine blk_drewN ?_ _ | refine blk_drew ?_ | refine blk_alloc ?_ _)); exact BK257.out) hb); have n3_ := Aside0.mk (below_step (by repeat (first | (with_reducible first | exact HB.out | apply below_alloc | apply pw_below_drewN | apply below_drew1 | refine below_set ?_ GE247.out | refine below_set ?_ GE252.out | refine below_set ?_ GE257.out) | exact HB.out)) hb); clear BK247; clear BK252; clear BK257; clear HB; have BK247 := n0_; have BK252 := n1_; have BK257 := n2_; have HB := n3_; clear n0_ n1_ n2_ n3_; (try clear hb); (try clear hb2); (try clear hk); (try clear hi)) | ((with_reducible refine gate_dst (N := 9) rfl ?_); refine box_event ?hg (N := 9) ?hd (cs := #[.int .i64 0, .int .i64 0, .int .i64 0]) (t := 25) ?hr ?_; (case hd => rfl); (case hg => rfl); (case hr => first | (go_simp; done) | (go_simp; rfl)); intro gb264 hg w29 hbox hb; have n0_ := Aside0.mk (blk_below (g := gb247) (o := .cells #[.int .i64 t243, .int .i64 t244, .int .i64 t245] 25 (0, 0)) (by (with_reducible repeat (first | refine blk_drewN ?_ _ | refine blk_drew ?_ | refine blk_alloc ?_ _)); exact BK247.out) hb); have n1_ := Aside0.mk (blk_below (g := gb252) (o := .cells #[.int .i64 t248, .int .i64 t249, .int .i64 t250] 25 (0, 0)) (by (with_reducible repeat (first | refine blk_drewN ?_ _ | refine blk_drew ?_ | refine blk_alloc ?_ _)); exact BK252.out) hb); have n2_ := Aside0.mk (blk_below (g := gb257) (o := .cells #[.int .i64 t253, .int .i64 t254, .int .i64 t255] 25 (0, 0)) (by (with_reducible repeat (first | refine blk_drewN ?_ _ | refine blk_drew ?_ | refine blk_alloc ?_ _)); exact BK257.out) hb); have n3_ := Aside0.mk (below_step (by repeat (first | (with_reducible first | exact HB.out | apply below_alloc | apply pw_below_drewN | apply below_drew1 | refine below_set ?_ GE247.out | refine below_set ?_ GE252.out | refine below_set ?_ GE257.out) | exact HB.out)) hb); have n4_ := Aside0.mk (hbox); have n5_ := Aside0.mk ((by rw [hg]; exact (below_size (by repeat (first | (with_reducible first | exact HB.out | apply below_alloc | apply pw_below_drewN | apply below_drew1 | refine below_set ?_ GE247.out | refine below_set ?_ GE252.out | refine below_set ?_ GE257.out) | exact HB.out))) : w.heap.size ≤ gb264)); have n6_ := Aside0.mk ((by rw [hg]; exact (below_size (by repeat (first | (with_reducible first | exact HB.out | apply below_alloc | apply pw_below_drewN | apply below_drew1 | refine below_set ?_ GE247.out | refine below_set ?_ GE252.out | refine below_set ?_ GE257.out) | exact HB.out))) : w.heap.size ≤ gb264)); have n7_ := Aside0.mk ((by rw [hg]; exact Nat.ne_of_lt (blk_lt (g := gb247) (o := .cells #[.int .i64 t243, .int .i64 t244, .int .i64 t245] 25 (0, 0)) (by (with_reducible repeat (first | refine blk_drewN ?_ _ | refine blk_drew ?_ | refine blk_alloc ?_ _)); exact BK247.out)) : gb247 ≠ gb264)); have n8_ := Aside0.mk ((by rw [hg]; exact Nat.ne_of_gt (blk_lt (g := gb247) (o := .cells #[.int .i64 t243, .int .i64 t244, .int .i64 t245] 25 (0, 0)) (by (with_reducible repeat (first | refine blk_drewN ?_ _ | refine blk_drew ?_ | refine blk_alloc ?_ _)); exact BK247.out)) : gb264 ≠ gb247)); have n9_ := Aside0.mk ((by rw [hg]; exact Nat.ne_of_lt (blk_lt (g := gb252) (o := .cells #[.int .i64 t248, .int .i64 t249, .int .i64 t250] 25 (0, 0)) (by (with_reducible repeat (first | refine blk_drewN ?_ _ | refine blk_drew ?_ | refine blk_alloc ?_ _)); exact BK252.out)) : gb252 ≠ gb264)); have n10_ := Aside0.mk ((by rw [hg]; exact Nat.ne_of_gt (blk_lt (g := gb252) (o := .cells #[.int .i64 t248, .int .i64 t249, .int .i64 t250] 25 (0, 0)) (by (with_reducible repeat (first | refine blk_drewN ?_ _ | refine blk_drew ?_ | refine blk_alloc ?_ _)); exact BK252.out)) : gb264 ≠ gb252)); have n11_ := Aside0.mk ((by rw [hg]; exact Nat.ne_of_lt (blk_lt (g := gb257) (o := .cells #[.int .i64 t253, .int .i64 t254, .int .i64 t255] 25 (0, 0)) (by (with_reducible repeat (first | refine blk_drewN ?_ _ | refine blk_drew ?_ | refine blk_alloc ?_ _)); exact BK257.out)) : gb257 ≠ gb264)); have n12_ := Aside0.mk ((by rw [hg]; exact Nat.ne_of_gt (blk_lt (g := gb257) (o := .cells #[.int .i64 t253, .int .i64 t254, .int .i64 t255] 25 (0, 0)) (by (with_reducible repeat (first | refine blk_drewN ?_ _ | refine blk_drew ?_ | refine blk_alloc ?_ _)); exact BK257.out)) : gb264 ≠ gb257)); clear BK247; clear BK252; clear BK257; clear HB; have BK247 := n0_; have BK252 := n1_; have BK257 := n2_; have HB := n3_; have BK264 := n4_; have GW264 := n5_; have GE264 := n6_; have NB247_264 := n7_; have NB264_247 := n8_; have NB252_264 := n9_; have NB264_252 := n10_; have NB257_264 := n11_; have NB264_257 := n12_; clear n0_ n1_ n2_ n3_ n4_ n5_ n6_ n7_ n8_ n9_ n10_ n11_ n12_; clear hb hbox hg) | ((with_reducible refine gate_dst (N := 10) rfl ?_); refine box_event ?hg (N := 10) ?hd (cs := #[.int .i64 0, .int .i64 0, .int .i64 0]) (t := 25) ?hr ?_; (case hd => rfl); (case hg => rfl); (case hr => first | (go_simp; done) | (go_simp; rfl)); intro gb265 hg w30 hbox hb; have n0_ := Aside0.mk (blk_below (g := gb247) (o := .cells #[.int .i64 t243, .int .i64 t244, .int .i64 t245] 25 (0, 0)) (by (with_reducible repeat (first | refine blk_drewN ?_ _ | refine blk_drew ?_ | refine blk_alloc ?_ _)); exact BK247.out) hb); have n1_ := Aside0.mk (blk_below (g := gb252) (o := .cells #[.int .i64 t248, .int .i64 t249, .int .i64 t250] 25 (0, 0)) (by (with_reducible repeat (first | refine blk_drewN ?_ _ | refine blk_drew ?_ | refine blk_alloc ?_ _)); exact BK252.out) hb); have n2_ := Aside0.mk (blk_below (g := gb257) (o := .cells #[.int .i64 t253, .int .i64 t254, .int .i64 t255] 25 (0, 0)) (by (with_reducible repeat (first | refine blk_drewN ?_ _ | refine blk_drew ?_ | refine blk_alloc ?_ _)); exact BK257.out) hb); have n3_ := Aside0.mk (blk_below (g := gb264) (o := .cells #[.int .i64 0, .int .i64 0, .int .i64 0] 25 (0, 0)) (by (with_reducible repeat (first | refine blk_drewN ?_ _ | refine blk_drew ?_ | refine blk_alloc ?_ _)); exact BK264.out) hb); have n4_ := Aside0.mk (below_step (by repeat (first | (with_reducible first | exact HB.out | apply below_alloc | apply pw_below_drewN | apply below_drew1 | refine below_set ?_ GE247.out | refine below_set ?_ GE252.out | refine below_set ?_ GE257.out | refine below_set ?_ GE264.out) | exact HB.out)) hb); have n5_ := Aside0.mk (hbox); have n6_ := Aside0.mk ((by rw [hg]; exact (below_size (by repeat (first | (with_reducible first | exact HB.out | apply below_alloc | apply pw_below_drewN | apply below_drew1 | refine below_set ?_ GE247.out | refine below_set ?_ GE252.out | refine below_set ?_ GE257.out | refine below_set ?_ GE264.out) | exact HB.out))) : w.heap.size ≤ gb265)); have n7_ := Aside0.mk ((by rw [hg]; exact (below_size (by repeat (first | (with_reducible first | exact HB.out | apply below_alloc | apply pw_below_drewN | apply below_drew1 | refine below_set ?_ GE247.out | refine below_set ?_ GE252.out | refine below_set ?_ GE257.out | refine below_set ?_ GE264.out) | exact HB.out))) : w.heap.size ≤ gb265)); have n8_ := Aside0.mk ((by rw [hg]; exact Nat.ne_of_lt (blk_lt (g := gb247) (o := .cells #[.int .i64 t243, .int .i64 t244, .int .i64 t245] 25 (0, 0)) (by (with_reducible repeat (first | refine blk_drewN ?_ _ | refine blk_drew ?_ | refine blk_alloc ?_ _)); exact BK247.out)) : gb247 ≠ gb265)); have n9_ := Aside0.mk ((by rw [hg]; exact Nat.ne_of_gt (blk_lt (g := gb247) (o := .cells #[.int .i64 t243, .int .i64 t244, .int .i64 t245] 25 (0, 0)) (by (with_reducible repeat (first | refine blk_drewN ?_ _ | refine blk_drew ?_ | refine blk_alloc ?_ _)); exact BK247.out)) : gb265 ≠ gb247)); have n10_ := Aside0.mk ((by rw [hg]; exact Nat.ne_of_lt (blk_lt (g := gb252) (o := .cells #[.int .i64 t248, .int .i64 t249, .int .i64 t250] 25 (0, 0)) (by (with_reducible repeat (first | refine blk_drewN ?_ _ | refine blk_drew ?_ | refine blk_alloc ?_ _)); exact BK252.out)) : gb252 ≠ gb265)); have n11_ := Aside0.mk ((by rw [hg]; exact Nat.ne_of_gt (blk_lt (g := gb252) (o := .cells #[.int .i64 t248, .int .i64 t249, .int .i64 t250] 25 (0, 0)) (by (with_reducible repeat (first | refine blk_drewN ?_ _ | refine blk_drew ?_ | refine blk_alloc ?_ _)); exact BK252.out)) : gb265 ≠ gb252)); have n12_ := Aside0.mk ((by rw [hg]; exact Nat.ne_of_lt (blk_lt (g := gb257) (o := .cells #[.int .i64 t253, .int .i64 t254, .int .i64 t255] 25 (0, 0)) (by (with_reducible repeat (first | refine blk_drewN ?_ _ | refine blk_drew ?_ | refine blk_alloc ?_ _)); exact BK257.out)) : gb257 ≠ gb265)); have n13_ := Aside0.mk ((by rw [hg]; exact Nat.ne_of_gt (blk_lt (g := gb257) (o := .cells #[.int .i64 t253, .int .i64 t254, .int .i64 t255] 25 (0, 0)) (by (with_reducible repeat (first | refine blk_drewN ?_ _ | refine blk_drew ?_ | refine blk_alloc ?_ _)); exact BK257.out)) : gb265 ≠ gb257)); have n14_ := Aside0.mk ((by rw [hg]; exact Nat.ne_of_lt (blk_lt (g := gb264) (o := .cells #[.int .i64 0, .int .i64 0, .int .i64 0] 25 (0, 0)) (by (with_reducible repeat (first | refine blk_drewN ?_ _ | refine blk_drew ?_ | refine blk_alloc ?_ _)); exact BK264.out)) : gb264 ≠ gb265)); have n15_ := Aside0.mk ((by rw [hg]; exact Nat.ne_of_gt (blk_lt (g := gb264) (o := .cells #[.int .i64 0, .int .i64 0, .int .i64 0] 25 (0, 0)) (by (with_reducible repeat (first | refine blk_drewN ?_ _ | refine blk_drew ?_ | refine blk_alloc ?_ _)); exact BK264.out)) : gb265 ≠ gb264)); clear BK247; clear BK252; clear BK257; clear BK264; clear HB; have BK247 := n0_; have BK252 := n1_; have BK257 := n2_; have BK264 := n3_; have HB := n4_; have BK265 := n5_; have GW265 := n6_; have GE265 := n7_; have NB247_265 := n8_; have NB265_247 := n9_; have NB252_265 := n10_; have NB265_252 := n11_; have NB257_265 := n12_; have NB265_257 := n13_; have NB264_265 := n14_; have NB265_264 := n15_; clear n0_ n1_ n2_ n3_ n4_ n5_ n6_ n7_ n8_ n9_ n10_ n11_ n12_ n13_ n14_ n15_; clear hb hbox hg; have hnb31 := NB264_247.out; have hnc31 := NB247_264.out; have hnb32 := NB264_252.out; have hnc32 := NB252_264.out; have hnb33 := NB264_257.out; have hnc33 := NB257_264.out; have hnb34 := NB264_265.out; have hnc34 := NB265_264.out; have hcz35_0 : w30.cell? ⟨gb264, 0, none⟩ = some (.int .i64 0) := (blk_cell BK264.out 0).trans rfl; have hcz35_1 : w30.cell? ⟨gb264, 1, none⟩ = some (.int .i64 0) := (blk_cell BK264.out 1).trans rfl; have hcz35_2 : w30.cell? ⟨gb264, 2, none⟩ = some (.int .i64 0) := (blk_cell BK264.out 2).trans rfl; have hfz35_0 := blk_frozen BK264.out 0; have hfz35_1 := blk_frozen BK264.out 1; have hfz35_2 := blk_frozen BK264.out 2; have hnb36 := NB265_247.out; have hnc36 := NB247_265.out; have hnb37 := NB265_252.out; have hnc37 := NB252_265.out; have hnb38 := NB265_257.out; have hnc38 := NB257_265.out; have hcz39_0 : w30.cell? ⟨gb265, 0, none⟩ = some (.int .i64 0) := (blk_cell BK265.out 0).trans rfl; have hcz39_1 : w30.cell? ⟨gb265, 1, none⟩ = some (.int .i64 0) := (blk_cell BK265.out 1).trans rfl; have hcz39_2 : w30.cell? ⟨gb265, 2, none⟩ = some (.int .i64 0) := (blk_cell BK265.out 2).trans rfl; have hfz39_0 := blk_frozen BK265.out 0; have hfz39_1 := blk_frozen BK265.out 1; have hfz39_2 := blk_frozen BK265.out 2) | ((with_reducible refine gate_callee (f := 47) rfl ?_); refine goesL_ (some 43) rfl rfl Try.func47 (by kernel_rfl) rfl #[.slice A0 l0.length c0] rfl (by (try simp only [List.map_toArray, List.map_cons, List.map_nil]); first | done | rfl | (simp only [List.length_drop, List.length_take]; rfl)) ?_; (with_reducible refine (spec_DrawPaceNew.calls k _ _ l0 t266 t267 _ ?side1 ?side2 A9.out).mono ?_); (case side1 => exact Kd.C_below HR0.out (by repeat (first | (with_reducible first | exact HB.out | apply below_alloc | apply pw_below_drewN | apply below_drew1 | refine below_set ?_ GE247.out | refine below_set ?_ GE252.out | refine below_set ?_ GE257.out | refine below_set ?_ GE264.out | refine below_set ?_ GE265.out) | exact HB.out))); (case side2 => exact HC0.out); rintro e w40 ⟨rfl, hb⟩; refine ⟨_, rfl, ?_⟩; have n0_ := Aside0.mk (blk_below (g := gb247) (o := .cells #[.int .i64 t243, .int .i64 t244, .int .i64 t245] 25 (0, 0)) (by (with_reducible repeat (first | refine blk_drewN ?_ _ | refine blk_drew ?_ | refine blk_alloc ?_ _)); refine blk_far ?_ NB247_265.out _; (with_reducible repeat (first | refine blk_drewN ?_ _ | refine blk_drew ?_ | refine blk_alloc ?_ _)); refine blk_far ?_ NB247_265.out _; (with_reducible repeat (first | refine blk_drewN ?_ _ | refine blk_drew ?_ | refine blk_alloc ?_ _)); refine blk_far ?_ NB247_265.out _; (with_reducible repeat (first | refine blk_drewN ?_ _ | refine blk_drew ?_ | refine blk_alloc ?_ _)); refine blk_far ?_ NB247_264.out _; (with_reducible repeat (first | refine blk_drewN ?_ _ | refine blk_drew ?_ | refine blk_alloc ?_ _)); refine blk_far ?_ NB247_264.out _; (with_reducible repeat (first | refine blk_drewN ?_ _ | refine blk_drew ?_ | refine blk_alloc ?_ _)); refine blk_far ?_ NB247_264.out _; (with_reducible repeat (first | refine blk_drewN ?_ _ | refine blk_drew ?_ | refine blk_alloc ?_ _)); exact BK247.out) hb); have n1_ := Aside0.mk (blk_below (g := gb252) (o := .cells #[.int .i64 t248, .int .i64 t249, .int .i64 t250] 25 (0, 0)) (by (with_reducible repeat (first | refine blk_drewN ?_ _ | refine blk_drew ?_ | refine blk_alloc ?_ _)); refine blk_far ?_ NB252_265.out _; (with_reducible repeat (first | refine blk_drewN ?_ _ | refine blk_drew ?_ | refine blk_alloc ?_ _)); refine blk_far ?_ NB252_265.out _; (with_reducible repeat (first | refine blk_drewN ?_ _ | refine blk_drew ?_ | refine blk_alloc ?_ _)); refine blk_far ?_ NB252_265.out _; (with_reducible repeat (first | refine blk_drewN ?_ _ | refine blk_drew ?_ | refine blk_alloc ?_ _)); refine blk_far ?_ NB252_264.out _; (with_reducible repeat (first | refine blk_drewN ?_ _ | refine blk_drew ?_ | refine blk_alloc ?_ _)); refine blk_far ?_ NB252_264.out _; (with_reducible repeat (first | refine blk_drewN ?_ _ | refine blk_drew ?_ | refine blk_alloc ?_ _)); refine blk_far ?_ NB252_264.out _; (with_reducible repeat (first | refine blk_drewN ?_ _ | refine blk_drew ?_ | refine blk_alloc ?_ _)); exact BK252.out) hb); have n2_ := Aside0.mk (blk_below (g := gb257) (o := .cells #[.int .i64 t253, .int .i64 t254, .int .i64 t255] 25 (0, 0)) (by (with_reducible repeat (first | refine blk_drewN ?_ _ | refine blk_drew ?_ | refine blk_alloc ?_ _)); refine blk_far ?_ NB257_265.out _; (with_reducible repeat (first | refine blk_drewN ?_ _ | refine blk_drew ?_ | refine blk_alloc ?_ _)); refine blk_far ?_ NB257_265.out _; (with_reducible repeat (first | refine blk_drewN ?_ _ | refine blk_drew ?_ | refine blk_alloc ?_ _)); refine blk_far ?_ NB257_265.out _; (with_reducible repeat (first | refine blk_drewN ?_ _ | refine blk_drew ?_ | refine blk_alloc ?_ _)); refine blk_far ?_ NB257_264.out _; (with_reducible repeat (first | refine blk_drewN ?_ _ | refine blk_drew ?_ | refine blk_alloc ?_ _)); refine blk_far ?_ NB257_264.out _; (with_reducible repeat (first | refine blk_drewN ?_ _ | refine blk_drew ?_ | refine blk_alloc ?_ _)); refine blk_far ?_ NB257_264.out _; (with_reducible repeat (first | refine blk_drewN ?_ _ | refine blk_drew ?_ | refine blk_alloc ?_ _)); exact BK257.out) hb); have n3_ := Aside0.mk (blk_below (g := gb264) (o := .cells #[.int .i64 t258, .int .i64 t259, .int .i64 t260] 25 (0, 0)) (by (with_reducible repeat (first | refine blk_drewN ?_ _ | refine blk_drew ?_ | refine blk_alloc ?_ _)); refine blk_far ?_ NB264_265.out _; (with_reducible repeat (first | refine blk_drewN ?_ _ | refine blk_drew ?_ | refine blk_alloc ?_ _)); refine blk_far ?_ NB264_265.out _; (with_reducible repeat (first | refine blk_drewN ?_ _ | refine blk_drew ?_ | refine blk_alloc ?_ _)); refine blk_far ?_ NB264_265.out _; (with_reducible repeat (first | refine blk_drewN ?_ _ | refine blk_drew ?_ | refine blk_alloc ?_ _)); refine blk_put (cs := #[.int .i64 t258, .int .i64 t259, .int .i64 0]) ?_ 2 _ rfl; (with_reducible repeat (first | refine blk_drewN ?_ _ | refine blk_drew ?_ | refine blk_alloc ?_ _)); refine blk_put (cs := #[.int .i64 t258, .int .i64 0, .int .i64 0]) ?_ 1 _ rfl; (with_reducible repeat (first | refine blk_drewN ?_ _ | refine blk_drew ?_ | refine blk_alloc ?_ _)); refine blk_put (cs := #[.int .i64 0, .int .i64 0, .int .i64 0]) ?_ 0 _ rfl; (with_reducible repeat (first | refine blk_drewN ?_ _ | refine blk_drew ?_ | refine blk_alloc ?_ _)); exact BK264.out) hb); have n4_ := Aside0.mk (blk_below (g := gb265) (o := .cells #[.int .i64 t261, .int .i64 t262, .int .i64 t263] 25 (0, 0)) (by (with_reducible repeat (first | refine blk_drewN ?_ _ | refine blk_drew ?_ | refine blk_alloc ?_ _)); refine blk_put (cs := #[.int .i64 t261, .int .i64 t262, .int .i64 0]) ?_ 2 _ rfl; (with_reducible repeat (first | refine blk_drewN ?_ _ | refine blk_drew ?_ | refine blk_alloc ?_ _)); refine blk_put (cs := #[.int .i64 t261, .int .i64 0, .int .i64 0]) ?_ 1 _ rfl; (with_reducible repeat (first | refine blk_drewN ?_ _ | refine blk_drew ?_ | refine blk_alloc ?_ _)); refine blk_put (cs := #[.int .i64 0, .int .i64 0, .int .i64 0]) ?_ 0 _ rfl; (with_reducible repeat (first | refine blk_drewN ?_ _ | refine blk_drew ?_ | refine blk_alloc ?_ _)); refine blk_far ?_ NB265_264.out _; (with_reducible repeat (first | refine blk_drewN ?_ _ | refine blk_drew ?_ | refine blk_alloc ?_ _)); refine blk_far ?_ NB265_264.out _; (with_reducible repeat (first | refine blk_drewN ?_ _ | refine blk_drew ?_ | refine blk_alloc ?_ _)); refine blk_far ?_ NB265_264.out _; (with_reducible repeat (first | refine blk_drewN ?_ _ | refine blk_drew ?_ | refine blk_alloc ?_ _)); exact BK265.out) hb); have n5_ := Aside0.mk (below_step (by repeat (first | (with_reducible first | exact HB.out | apply below_alloc | apply pw_below_drewN | apply below_drew1 | refine below_set ?_ GE247.out | refine below_set ?_ GE252.out | refine below_set ?_ GE257.out | refine below_set ?_ GE264.out | refine below_set ?_ GE265.out) | exact HB.out)) hb); clear BK247; clear BK252; clear BK257; clear BK264; clear BK265; clear HB; have BK247 := n0_; have BK252 := n1_; have BK257 := n2_; have BK264 := n3_; have BK265 := n4_; have HB := n5_; clear n0_ n1_ n2_ n3_ n4_ n5_; (try clear hb); (try clear hb2); (try clear hk); (try clear hi)) | ((with_reducible refine gate_callee (f := 19) rfl ?_); refine goesL_ (some 49) rfl rfl Try.func19 (by kernel_rfl) rfl #[.int .i64 t266, .int .i64 t267] rfl (by (try simp only [List.map_toArray, List.map_cons, List.map_nil]); first | done | rfl | (simp only [List.length_drop, List.length_take]; rfl)) ?_; (with_reducible refine (impl_PaceNew.calls t266 t267 t268 t269 t270 t271 _ A10.out).mono ?_); rintro e w41 ⟨rfl, hb⟩; refine ⟨_, rfl, ?_⟩; have n0_ := Aside0.mk (blk_below (g := gb247) (o := .cells #[.int .i64 t243, .int .i64 t244, .int .i64 t245] 25 (0, 0)) (by (with_reducible repeat (first | refine blk_drewN ?_ _ | refine blk_drew ?_ | refine blk_alloc ?_ _)); exact BK247.out) hb); have n1_ := Aside0.mk (blk_below (g := gb252) (o := .cells #[.int .i64 t248, .int .i64 t249, .int .i64 t250] 25 (0, 0)) (by (with_reducible repeat (first | refine blk_drewN ?_ _ | refine blk_drew ?_ | refine blk_alloc ?_ _)); exact BK252.out) hb); have n2_ := Aside0.mk (blk_below (g := gb257) (o := .cells #[.int .i64 t253, .int .i64 t254, .int .i64 t255] 25 (0, 0)) (by (with_reducible repeat (first | refine blk_drewN ?_ _ | refine blk_drew ?_ | refine blk_alloc ?_ _)); exact BK257.out) hb); have n3_ := Aside0.mk (blk_below (g := gb264) (o := .cells #[.int .i64 t258, .int .i64 t259, .int .i64 t260] 25 (0, 0)) (by (with_reducible repeat (first | refine blk_drewN ?_ _ | refine blk_drew ?_ | refine blk_alloc ?_ _)); exact BK264.out) hb); have n4_ := Aside0.mk (blk_below (g := gb265) (o := .cells #[.int .i64 t261, .int .i64 t262, .int .i64 t263] 25 (0, 0)) (by (with_reducible repeat (first | refine blk_drewN ?_ _ | refine blk_drew ?_ | refine blk_alloc ?_ _)); exact BK265.out) hb); have n5_ := Aside0.mk (below_step (by repeat (first | (with_reducible first | exact HB.out | apply below_alloc | apply pw_below_drewN | apply below_drew1 | refine below_set ?_ GE247.out | refine below_set ?_ GE252.out | refine below_set ?_ GE257.out | refine below_set ?_ GE264.out | refine below_set ?_ GE265.out) | exact HB.out)) hb); clear BK247; clear BK252; clear BK257; clear BK264; clear BK265; clear HB; have BK247 := n0_; have BK252 := n1_; have BK257 := n2_; have BK264 := n3_; have BK265 := n4_; have HB := n5_; clear n0_ n1_ n2_ n3_ n4_ n5_; (try clear hb); (try clear hb2); (try clear hk); (try clear hi)) | ((with_reducible refine gate_dst (N := 13) rfl ?_); refine box_event ?hg (N := 13) ?hd (cs := #[.int .i64 0, .int .i64 0, .int .i64 0]) (t := 25) ?hr ?_; (case hd => rfl); (case hg => rfl); (case hr => first | (go_simp; done) | (go_simp; rfl)); intro gb272 hg w42 hbox hb; have n0_ := Aside0.mk (blk_below (g := gb247) (o := .cells #[.int .i64 t243, .int .i64 t244, .int .i64 t245] 25 (0, 0)) (by (with_reducible repeat (first | refine blk_drewN ?_ _ | refine blk_drew ?_ | refine blk_alloc ?_ _)); exact BK247.out) hb); have n1_ := Aside0.mk (blk_below (g := gb252) (o := .cells #[.int .i64 t248, .int .i64 t249, .int .i64 t250] 25 (0, 0)) (by (with_reducible repeat (first | refine blk_drewN ?_ _ | refine blk_drew ?_ | refine blk_alloc ?_ _)); exact BK252.out) hb); have n2_ := Aside0.mk (blk_below (g := gb257) (o := .cells #[.int .i64 t253, .int .i64 t254, .int .i64 t255] 25 (0, 0)) (by (with_reducible repeat (first | refine blk_drewN ?_ _ | refine blk_drew ?_ | refine blk_alloc ?_ _)); exact BK257.out) hb); have n3_ := Aside0.mk (blk_below (g := gb264) (o := .cells #[.int .i64 t258, .int .i64 t259, .int .i64 t260] 25 (0, 0)) (by (with_reducible repeat (first | refine blk_drewN ?_ _ | refine blk_drew ?_ | refine blk_alloc ?_ _)); exact BK264.out) hb); have n4_ := Aside0.mk (blk_below (g := gb265) (o := .cells #[.int .i64 t261, .int .i64 t262, .int .i64 t263] 25 (0, 0)) (by (with_reducible repeat (first | refine blk_drewN ?_ _ | refine blk_drew ?_ | refine blk_alloc ?_ _)); exact BK265.out) hb); have n5_ := Aside0.mk (below_step (by repeat (first | (with_reducible first | exact HB.out | apply below_alloc | apply pw_below_drewN | apply below_drew1 | refine below_set ?_ GE247.out | refine below_set ?_ GE252.out | refine below_set ?_ GE257.out | refine below_set ?_ GE264.out | refine below_set ?_ GE265.out) | exact HB.out)) hb); have n6_ := Aside0.mk (hbox); have n7_ := Aside0.mk ((by rw [hg]; exact (below_size (by repeat (first | (with_reducible first | exact HB.out | apply below_alloc | apply pw_below_drewN | apply below_drew1 | refine below_set ?_ GE247.out | refine below_set ?_ GE252.out | refine below_set ?_ GE257.out | refine below_set ?_ GE264.out | refine below_set ?_ GE265.out) | exact HB.out))) : w.heap.size ≤ gb272)); have n8_ := Aside0.mk ((by rw [hg]; exact (below_size (by repeat (first | (with_reducible first | exact HB.out | apply below_alloc | apply pw_below_drewN | apply below_drew1 | refine below_set ?_ GE247.out | refine below_set ?_ GE252.out | refine below_set ?_ GE257.out | refine below_set ?_ GE264.out | refine below_set ?_ GE265.out) | exact HB.out))) : w.heap.size ≤ gb272)); have n9_ := Aside0.mk ((by rw [hg]; exact Nat.ne_of_lt (blk_lt (g := gb247) (o := .cells #[.int .i64 t243, .int .i64 t244, .int .i64 t245] 25 (0, 0)) (by (with_reducible repeat (first | refine blk_drewN ?_ _ | refine blk_drew ?_ | refine blk_alloc ?_ _)); exact BK247.out)) : gb247 ≠ gb272)); have n10_ := Aside0.mk ((by rw [hg]; exact Nat.ne_of_gt (blk_lt (g := gb247) (o := .cells #[.int .i64 t243, .int .i64 t244, .int .i64 t245] 25 (0, 0)) (by (with_reducible repeat (first | refine blk_drewN ?_ _ | refine blk_drew ?_ | refine blk_alloc ?_ _)); exact BK247.out)) : gb272 ≠ gb247)); have n11_ := Aside0.mk ((by rw [hg]; exact Nat.ne_of_lt (blk_lt (g := gb252) (o := .cells #[.int .i64 t248, .int .i64 t249, .int .i64 t250] 25 (0, 0)) (by (with_reducible repeat (first | refine blk_drewN ?_ _ | refine blk_drew ?_ | refine blk_alloc ?_ _)); exact BK252.out)) : gb252 ≠ gb272)); have n12_ := Aside0.mk ((by rw [hg]; exact Nat.ne_of_gt (blk_lt (g := gb252) (o := .cells #[.int .i64 t248, .int .i64 t249, .int .i64 t250] 25 (0, 0)) (by (with_reducible repeat (first | refine blk_drewN ?_ _ | refine blk_drew ?_ | refine blk_alloc ?_ _)); exact BK252.out)) : gb272 ≠ gb252)); have n13_ := Aside0.mk ((by rw [hg]; exact Nat.ne_of_lt (blk_lt (g := gb257) (o := .cells #[.int .i64 t253, .int .i64 t254, .int .i64 t255] 25 (0, 0)) (by (with_reducible repeat (first | refine blk_drewN ?_ _ | refine blk_drew ?_ | refine blk_alloc ?_ _)); exact BK257.out)) : gb257 ≠ gb272)); have n14_ := Aside0.mk ((by rw [hg]; exact Nat.ne_of_gt (blk_lt (g := gb257) (o := .cells #[.int .i64 t253, .int .i64 t254, .int .i64 t255] 25 (0, 0)) (by (with_reducible repeat (first | refine blk_drewN ?_ _ | refine blk_drew ?_ | refine blk_alloc ?_ _)); exact BK257.out)) : gb272 ≠ gb257)); have n15_ := Aside0.mk ((by rw [hg]; exact Nat.ne_of_lt (blk_lt (g := gb264) (o := .cells #[.int .i64 t258, .int .i64 t259, .int .i64 t260] 25 (0, 0)) (by (with_reducible repeat (first | refine blk_drewN ?_ _ | refine blk_drew ?_ | refine blk_alloc ?_ _)); exact BK264.out)) : gb264 ≠ gb272)); have n16_ := Aside0.mk ((by rw [hg]; exact Nat.ne_of_gt (blk_lt (g := gb264) (o := .cells #[.int .i64 t258, .int .i64 t259, .int .i64 t260] 25 (0, 0)) (by (with_reducible repeat (first | refine blk_drewN ?_ _ | refine blk_drew ?_ | refine blk_alloc ?_ _)); exact BK264.out)) : gb272 ≠ gb264)); have n17_ := Aside0.mk ((by rw [hg]; exact Nat.ne_of_lt (blk_lt (g := gb265) (o := .cells #[.int .i64 t261, .int .i64 t262, .int .i64 t263] 25 (0, 0)) (by (with_reducible repeat (first | refine blk_drewN ?_ _ | refine blk_drew ?_ | refine blk_alloc ?_ _)); exact BK265.out)) : gb265 ≠ gb272)); have n18_ := Aside0.mk ((by rw [hg]; exact Nat.ne_of_gt (blk_lt (g := gb265) (o := .cells #[.int .i64 t261, .int .i64 t262, .int .i64 t263] 25 (0, 0)) (by (with_reducible repeat (first | refine blk_drewN ?_ _ | refine blk_drew ?_ | refine blk_alloc ?_ _)); exact BK265.out)) : gb272 ≠ gb265)); clear BK247; clear BK252; clear BK257; clear BK264; clear BK265; clear HB; have BK247 := n0_; have BK252 := n1_; have BK257 := n2_; have BK264 := n3_; have BK265 := n4_; have HB := n5_; have BK272 := n6_; have GW272 := n7_; have GE272 := n8_; have NB247_272 := n9_; have NB272_247 := n10_; have NB252_272 := n11_; have NB272_252 := n12_; have NB257_272 := n13_; have NB272_257 := n14_; have NB264_272 := n15_; have NB272_264 := n16_; have NB265_272 := n17_; have NB272_265 := n18_; clear n0_ n1_ n2_ n3_ n4_ n5_ n6_ n7_ n8_ n9_ n10_ n11_ n12_ n13_ n14_ n15_ n16_ n17_ n18_; clear hb hbox hg; have hnb43 := NB272_247.out; have hnc43 := NB247_272.out; have hnb44 := NB272_252.out; have hnc44 := NB252_272.out; have hnb45 := NB272_257.out; have hnc45 := NB257_272.out; have hnb46 := NB272_264.out; have hnc46 := NB264_272.out; have hnb47 := NB272_265.out; have hnc47 := NB265_272.out; have hcz48_0 : w42.cell? ⟨gb272, 0, none⟩ = some (.int .i64 0) := (blk_cell BK272.out 0).trans rfl; have hcz48_1 : w42.cell? ⟨gb272, 1, none⟩ = some (.int .i64 0) := (blk_cell BK272.out 1).trans rfl; have hcz48_2 : w42.cell? ⟨gb272, 2, none⟩ = some (.int .i64 0) := (blk_cell BK272.out 2).trans rfl; have hfz48_0 := blk_frozen BK272.out 0; have hfz48_1 := blk_frozen BK272.out 1; have hfz48_2 := blk_frozen BK272.out 2) | ((with_reducible refine gate_callee (f := 18) rfl ?_); refine goesL_ (some 55) rfl rfl Try.func18 (by kernel_rfl) rfl #[.int .i64 t266, .int .i64 t267] rfl (by (try simp only [List.map_toArray, List.map_cons, List.map_nil]); first | done | rfl | (simp only [List.length_drop, List.length_take]; rfl)) ?_; (with_reducible refine (spec_PaceNew.calls t266 t267 t273 t274 t275 t276 _ A11.out).mono ?_); rintro e w49 ⟨rfl, hb⟩; refine ⟨_, rfl, ?_⟩; have n0_ := Aside0.mk (blk_below (g := gb247) (o := .cells #[.int .i64 t243, .int .i64 t244, .int .i64 t245] 25 (0, 0)) (by (with_reducible repeat (first | refine blk_drewN ?_ _ | refine blk_drew ?_ | refine blk_alloc ?_ _)); refine blk_far ?_ NB247_272.out _; (with_reducible repeat (first | refine blk_drewN ?_ _ | refine blk_drew ?_ | refine blk_alloc ?_ _)); refine blk_far ?_ NB247_272.out _; (with_reducible repeat (first | refine blk_drewN ?_ _ | refine blk_drew ?_ | refine blk_alloc ?_ _)); refine blk_far ?_ NB247_272.out _; (with_reducible repeat (first | refine blk_drewN ?_ _ | refine blk_drew ?_ | refine blk_alloc ?_ _)); exact BK247.out) hb); have n1_ := Aside0.mk (blk_below (g := gb252) (o := .cells #[.int .i64 t248, .int .i64 t249, .int .i64 t250] 25 (0, 0)) (by (with_reducible repeat (first | refine blk_drewN ?_ _ | refine blk_drew ?_ | refine blk_alloc ?_ _)); refine blk_far ?_ NB252_272.out _; (with_reducible repeat (first | refine blk_drewN ?_ _ | refine blk_drew ?_ | refine blk_alloc ?_ _)); refine blk_far ?_ NB252_272.out _; (with_reducible repeat (first | refine blk_drewN ?_ _ | refine blk_drew ?_ | refine blk_alloc ?_ _)); refine blk_far ?_ NB252_272.out _; (with_reducible repeat (first | refine blk_drewN ?_ _ | refine blk_drew ?_ | refine blk_alloc ?_ _)); exact BK252.out) hb); have n2_ := Aside0.mk (blk_below (g := gb257) (o := .cells #[.int .i64 t253, .int .i64 t254, .int .i64 t255] 25 (0, 0)) (by (with_reducible repeat (first | refine blk_drewN ?_ _ | refine blk_drew ?_ | refine blk_alloc ?_ _)); refine blk_far ?_ NB257_272.out _; (with_reducible repeat (first | refine blk_drewN ?_ _ | refine blk_drew ?_ | refine blk_alloc ?_ _)); refine blk_far ?_ NB257_272.out _; (with_reducible repeat (first | refine blk_drewN ?_ _ | refine blk_drew ?_ | refine blk_alloc ?_ _)); refine blk_far ?_ NB257_272.out _; (with_reducible repeat (first | refine blk_drewN ?_ _ | refine blk_drew ?_ | refine blk_alloc ?_ _)); exact BK257.out) hb); have n3_ := Aside0.mk (blk_below (g := gb264) (o := .cells #[.int .i64 t258, .int .i64 t259, .int .i64 t260] 25 (0, 0)) (by (with_reducible repeat (first | refine blk_drewN ?_ _ | refine blk_drew ?_ | refine blk_alloc ?_ _)); refine blk_far ?_ NB264_272.out _; (with_reducible repeat (first | refine blk_drewN ?_ _ | refine blk_drew ?_ | refine blk_alloc ?_ _)); refine blk_far ?_ NB264_272.out _; (with_reducible repeat (first | refine blk_drewN ?_ _ | refine blk_drew ?_ | refine blk_alloc ?_ _)); refine blk_far ?_ NB264_272.out _; (with_reducible repeat (first | refine blk_drewN ?_ _ | refine blk_drew ?_ | refine blk_alloc ?_ _)); exact BK264.out) hb); have n4_ := Aside0.mk (blk_below (g := gb265) (o := .cells #[.int .i64 t261, .int .i64 t262, .int .i64 t263] 25 (0, 0)) (by (with_reducible repeat (first | refine blk_drewN ?_ _ | refine blk_drew ?_ | refine blk_alloc ?_ _)); refine blk_far ?_ NB265_272.out _; (with_reducible repeat (first | refine blk_drewN ?_ _ | refine blk_drew ?_ | refine blk_alloc ?_ _)); refine blk_far ?_ NB265_272.out _; (with_reducible repeat (first | refine blk_drewN ?_ _ | refine blk_drew ?_ | refine blk_alloc ?_ _)); refine blk_far ?_ NB265_272.out _; (with_reducible repeat (first | refine blk_drewN ?_ _ | refine blk_drew ?_ | refine blk_alloc ?_ _)); exact BK265.out) hb); have n5_ := Aside0.mk (blk_below (g := gb272) (o := .cells #[.int .i64 t268, .int .i64 t269, .int .i64 t270] 25 (0, 0)) (by (with_reducible repeat (first | refine blk_drewN ?_ _ | refine blk_drew ?_ | refine blk_alloc ?_ _)); refine blk_put (cs := #[.int .i64 t268, .int .i64 t269, .int .i64 0]) ?_ 2 _ rfl; (with_reducible repeat (first | refine blk_drewN ?_ _ | refine blk_drew ?_ | refine blk_alloc ?_ _)); refine blk_put (cs := #[.int .i64 t268, .int .i64 0, .int .i64 0]) ?_ 1 _ rfl; (with_reducible repeat (first | refine blk_drewN ?_ _ | refine blk_drew ?_ | refine blk_alloc ?_ _)); refine blk_put (cs := #[.int .i64 0, .int .i64 0, .int .i64 0]) ?_ 0 _ rfl; (with_reducible repeat (first | refine blk_drewN ?_ _ | refine blk_drew ?_ | refine blk_alloc ?_ _)); exact BK272.out) hb); have n6_ := Aside0.mk (below_step (by repeat (first | (with_reducible first | exact HB.out | apply below_alloc | apply pw_below_drewN | apply below_drew1 | refine below_set ?_ GE247.out | refine below_set ?_ GE252.out | refine below_set ?_ GE257.out | refine below_set ?_ GE264.out | refine below_set ?_ GE265.out | refine below_set ?_ GE272.out) | exact HB.out)) hb); clear BK247; clear BK252; clear BK257; clear BK264; clear BK265; clear BK272; clear HB; have BK247 := n0_; have BK252 := n1_; have BK257 := n2_; have BK264 := n3_; have BK265 := n4_; have BK272 := n5_; have HB := n6_; clear n0_ n1_ n2_ n3_ n4_ n5_ n6_; (try clear hb); (try clear hb2); (try clear hk); (try clear hi)) | ((with_reducible refine gate_dst (N := 15) rfl ?_); refine box_event ?hg (N := 15) ?hd (cs := #[.int .i64 0, .int .i64 0, .int .i64 0]) (t := 25) ?hr ?_; (case hd => rfl); (case hg => rfl); (case hr => first | (go_simp; done) | (go_simp; rfl)); intro gb277 hg w50 hbox hb; have n0_ := Aside0.mk (blk_below (g := gb247) (o := .cells #[.int .i64 t243, .int .i64 t244, .int .i64 t245] 25 (0, 0)) (by (with_reducible repeat (first | refine blk_drewN ?_ _ | refine blk_drew ?_ | refine blk_alloc ?_ _)); exact BK247.out) hb); have n1_ := Aside0.mk (blk_below (g := gb252) (o := .cells #[.int .i64 t248, .int .i64 t249, .int .i64 t250] 25 (0, 0)) (by (with_reducible repeat (first | refine blk_drewN ?_ _ | refine blk_drew ?_ | refine blk_alloc ?_ _)); exact BK252.out) hb); have n2_ := Aside0.mk (blk_below (g := gb257) (o := .cells #[.int .i64 t253, .int .i64 t254, .int .i64 t255] 25 (0, 0)) (by (with_reducible repeat (first | refine blk_drewN ?_ _ | refine blk_drew ?_ | refine blk_alloc ?_ _)); exact BK257.out) hb); have n3_ := Aside0.mk (blk_below (g := gb264) (o := .cells #[.int .i64 t258, .int .i64 t259, .int .i64 t260] 25 (0, 0)) (by (with_reducible repeat (first | refine blk_drewN ?_ _ | refine blk_drew ?_ | refine blk_alloc ?_ _)); exact BK264.out) hb); have n4_ := Aside0.mk (blk_below (g := gb265) (o := .cells #[.int .i64 t261, .int .i64 t262, .int .i64 t263] 25 (0, 0)) (by (with_reducible repeat (first | refine blk_drewN ?_ _ | refine blk_drew ?_ | refine blk_alloc ?_ _)); exact BK265.out) hb); have n5_ := Aside0.mk (blk_below (g := gb272) (o := .cells #[.int .i64 t268, .int .i64 t269, .int .i64 t270] 25 (0, 0)) (by (with_reducible repeat (first | refine blk_drewN ?_ _ | refine blk_drew ?_ | refine blk_alloc ?_ _)); exact BK272.out) hb); have n6_ := Aside0.mk (below_step (by repeat (first | (with_reducible first | exact HB.out | apply below_alloc | apply pw_below_drewN | apply below_drew1 | refine below_set ?_ GE247.out | refine below_set ?_ GE252.out | refine below_set ?_ GE257.out | refine below_set ?_ GE264.out | refine below_set ?_ GE265.out | refine below_set ?_ GE272.out) | exact HB.out)) hb); have n7_ := Aside0.mk (hbox); have n8_ := Aside0.mk ((by rw [hg]; exact (below_size (by repeat (first | (with_reducible first | exact HB.out | apply below_alloc | apply pw_below_drewN | apply below_drew1 | refine below_set ?_ GE247.out | refine below_set ?_ GE252.out | refine below_set ?_ GE257.out | refine below_set ?_ GE264.out | refine below_set ?_ GE265.out | refine below_set ?_ GE272.out) | exact HB.out))) : w.heap.size ≤ gb277)); have n9_ := Aside0.mk ((by rw [hg]; exact (below_size (by repeat (first | (with_reducible first | exact HB.out | apply below_alloc | apply pw_below_drewN | apply below_drew1 | refine below_set ?_ GE247.out | refine below_set ?_ GE252.out | refine below_set ?_ GE257.out | refine below_set ?_ GE264.out | refine below_set ?_ GE265.out | refine below_set ?_ GE272.out) | exact HB.out))) : w.heap.size ≤ gb277)); have n10_ := Aside0.mk ((by rw [hg]; exact Nat.ne_of_lt (blk_lt (g := gb247) (o := .cells #[.int .i64 t243, .int .i64 t244, .int .i64 t245] 25 (0, 0)) (by (with_reducible repeat (first | refine blk_drewN ?_ _ | refine blk_drew ?_ | refine blk_alloc ?_ _)); exact BK247.out)) : gb247 ≠ gb277)); have n11_ := Aside0.mk ((by rw [hg]; exact Nat.ne_of_gt (blk_lt (g := gb247) (o := .cells #[.int .i64 t243, .int .i64 t244, .int .i64 t245] 25 (0, 0)) (by (with_reducible repeat (first | refine blk_drewN ?_ _ | refine blk_drew ?_ | refine blk_alloc ?_ _)); exact BK247.out)) : gb277 ≠ gb247)); have n12_ := Aside0.mk ((by rw [hg]; exact Nat.ne_of_lt (blk_lt (g := gb252) (o := .cells #[.int .i64 t248, .int .i64 t249, .int .i64 t250] 25 (0, 0)) (by (with_reducible repeat (first | refine blk_drewN ?_ _ | refine blk_drew ?_ | refine blk_alloc ?_ _)); exact BK252.out)) : gb252 ≠ gb277)); have n13_ := Aside0.mk ((by rw [hg]; exact Nat.ne_of_gt (blk_lt (g := gb252) (o := .cells #[.int .i64 t248, .int .i64 t249, .int .i64 t250] 25 (0, 0)) (by (with_reducible repeat (first | refine blk_drewN ?_ _ | refine blk_drew ?_ | refine blk_alloc ?_ _)); exact BK252.out)) : gb277 ≠ gb252)); have n14_ := Aside0.mk ((by rw [hg]; exact Nat.ne_of_lt (blk_lt (g := gb257) (o := .cells #[.int .i64 t253, .int .i64 t254, .int .i64 t255] 25 (0, 0)) (by (with_reducible repeat (first | refine blk_drewN ?_ _ | refine blk_drew ?_ | refine blk_alloc ?_ _)); exact BK257.out)) : gb257 ≠ gb277)); have n15_ := Aside0.mk ((by rw [hg]; exact Nat.ne_of_gt (blk_lt (g := gb257) (o := .cells #[.int .i64 t253, .int .i64 t254, .int .i64 t255] 25 (0, 0)) (by (with_reducible repeat (first | refine blk_drewN ?_ _ | refine blk_drew ?_ | refine blk_alloc ?_ _)); exact BK257.out)) : gb277 ≠ gb257)); have n16_ := Aside0.mk ((by rw [hg]; exact Nat.ne_of_lt (blk_lt (g := gb264) (o := .cells #[.int .i64 t258, .int .i64 t259, .int .i64 t260] 25 (0, 0)) (by (with_reducible repeat (first | refine blk_drewN ?_ _ | refine blk_drew ?_ | refine blk_alloc ?_ _)); exact BK264.out)) : gb264 ≠ gb277)); have n17_ := Aside0.mk ((by rw [hg]; exact Nat.ne_of_gt (blk_lt (g := gb264) (o := .cells #[.int .i64 t258, .int .i64 t259, .int .i64 t260] 25 (0, 0)) (by (with_reducible repeat (first | refine blk_drewN ?_ _ | refine blk_drew ?_ | refine blk_alloc ?_ _)); exact BK264.out)) : gb277 ≠ gb264)); have n18_ := Aside0.mk ((by rw [hg]; exact Nat.ne_of_lt (blk_lt (g := gb265) (o := .cells #[.int .i64 t261, .int .i64 t262, .int .i64 t263] 25 (0, 0)) (by (with_reducible repeat (first | refine blk_drewN ?_ _ | refine blk_drew ?_ | refine blk_alloc ?_ _)); exact BK265.out)) : gb265 ≠ gb277)); have n19_ := Aside0.mk ((by rw [hg]; exact Nat.ne_of_gt (blk_lt (g := gb265) (o := .cells #[.int .i64 t261, .int .i64 t262, .int .i64 t263] 25 (0, 0)) (by (with_reducible repeat (first | refine blk_drewN ?_ _ | refine blk_drew ?_ | refine blk_alloc ?_ _)); exact BK265.out)) : gb277 ≠ gb265)); have n20_ := Aside0.mk ((by rw [hg]; exact Nat.ne_of_lt (blk_lt (g := gb272) (o := .cells #[.int .i64 t268, .int .i64 t269, .int .i64 t270] 25 (0, 0)) (by (with_reducible repeat (first | refine blk_drewN ?_ _ | refine blk_drew ?_ | refine blk_alloc ?_ _)); exact BK272.out)) : gb272 ≠ gb277)); have n21_ := Aside0.mk ((by rw [hg]; exact Nat.ne_of_gt (blk_lt (g := gb272) (o := .cells #[.int .i64 t268, .int .i64 t269, .int .i64 t270] 25 (0, 0)) (by (with_reducible repeat (first | refine blk_drewN ?_ _ | refine blk_drew ?_ | refine blk_alloc ?_ _)); exact BK272.out)) : gb277 ≠ gb272)); clear BK247; clear BK252; clear BK257; clear BK264; clear BK265; clear BK272; clear HB; have BK247 := n0_; have BK252 := n1_; have BK257 := n2_; have BK264 := n3_; have BK265 := n4_; have BK272 := n5_; have HB := n6_; have BK277 := n7_; have GW277 := n8_; have GE277 := n9_; have NB247_277 := n10_; have NB277_247 := n11_; have NB252_277 := n12_; have NB277_252 := n13_; have NB257_277 := n14_; have NB277_257 := n15_; have NB264_277 := n16_; have NB277_264 := n17_; have NB265_277 := n18_; have NB277_265 := n19_; have NB272_277 := n20_; have NB277_272 := n21_; clear n0_ n1_ n2_ n3_ n4_ n5_ n6_ n7_ n8_ n9_ n10_ n11_ n12_ n13_ n14_ n15_ n16_ n17_ n18_ n19_ n20_ n21_; clear hb hbox hg; have hnb51 := NB277_247.out; have hnc51 := NB247_277.out; have hnb52 := NB277_252.out; have hnc52 := NB252_277.out; have hnb53 := NB277_257.out; have hnc53 := NB257_277.out; have hnb54 := NB277_264.out; have hnc54 := NB264_277.out; have hnb55 := NB277_265.out; have hnc55 := NB265_277.out; have hnb56 := NB277_272.out; have hnc56 := NB272_277.out; have hcz57_0 : w50.cell? ⟨gb277, 0, none⟩ = some (.int .i64 0) := (blk_cell BK277.out 0).trans rfl; have hcz57_1 : w50.cell? ⟨gb277, 1, none⟩ = some (.int .i64 0) := (blk_cell BK277.out 1).trans rfl; have hcz57_2 : w50.cell? ⟨gb277, 2, none⟩ = some (.int .i64 0) := (blk_cell BK277.out 2).trans rfl; have hfz57_0 := blk_frozen BK277.out 0; have hfz57_1 := blk_frozen BK277.out 1; have hfz57_2 := blk_frozen BK277.out 2; have hcz58_0 : w50.cell? ⟨gb264, 0, none⟩ = some (.int .i64 t258) := (blk_cell BK264.out 0).trans rfl; have hcz58_1 : w50.cell? ⟨gb264, 1, none⟩ = some (.int .i64 t259) := (blk_cell BK264.out 1).trans rfl; have hcz58_2 : w50.cell? ⟨gb264, 2, none⟩ = some (.int .i64 t260) := (blk_cell BK264.out 2).trans rfl; have hfz58_0 := blk_frozen BK264.out 0; have hfz58_1 := blk_frozen BK264.out 1; have hfz58_2 := blk_frozen BK264.out 2) | ((with_reducible refine gate_callee (f := 24) rfl ?_); refine goesL_ (some 59) rfl rfl Try.func24 (by kernel_rfl) rfl #[.agg #[.int .i64 t258, .int .i64 t259, .int .i64 t260]] rfl (by (try simp only [List.map_toArray, List.map_cons, List.map_nil]); first | done | rfl | (simp only [List.length_drop, List.length_take]; rfl)) ?_; (with_reducible refine (impl_PaceTick.calls t258 t259 t260 t278 t279 t280 _ A12.out).mono ?_); rintro e w59 ⟨rfl, hb⟩; refine ⟨_, rfl, ?_⟩; have n0_ := Aside0.mk (blk_below (g := gb247) (o := .cells #[.int .i64 t243, .int .i64 t244, .int .i64 t245] 25 (0, 0)) (by (with_reducible repeat (first | refine blk_drewN ?_ _ | refine blk_drew ?_ | refine blk_alloc ?_ _)); refine blk_far ?_ NB247_277.out _; (with_reducible repeat (first | refine blk_drewN ?_ _ | refine blk_drew ?_ | refine blk_alloc ?_ _)); refine blk_far ?_ NB247_277.out _; (with_reducible repeat (first | refine blk_drewN ?_ _ | refine blk_drew ?_ | refine blk_alloc ?_ _)); refine blk_far ?_ NB247_277.out _; (with_reducible repeat (first | refine blk_drewN ?_ _ | refine blk_drew ?_ | refine blk_alloc ?_ _)); exact BK247.out) hb); have n1_ := Aside0.mk (blk_below (g := gb252) (o := .cells #[.int .i64 t248, .int .i64 t249, .int .i64 t250] 25 (0, 0)) (by (with_reducible repeat (first | refine blk_drewN ?_ _ | refine blk_drew ?_ | refine blk_alloc ?_ _)); refine blk_far ?_ NB252_277.out _; (with_reducible repeat (first | refine blk_drewN ?_ _ | refine blk_drew ?_ | refine blk_alloc ?_ _)); refine blk_far ?_ NB252_277.out _; (with_reducible repeat (first | refine blk_drewN ?_ _ | refine blk_drew ?_ | refine blk_alloc ?_ _)); refine blk_far ?_ NB252_277.out _; (with_reducible repeat (first | refine blk_drewN ?_ _ | refine blk_drew ?_ | refine blk_alloc ?_ _)); exact BK252.out) hb); have n2_ := Aside0.mk (blk_below (g := gb257) (o := .cells #[.int .i64 t253, .int .i64 t254, .int .i64 t255] 25 (0, 0)) (by (with_reducible repeat (first | refine blk_drewN ?_ _ | refine blk_drew ?_ | refine blk_alloc ?_ _)); refine blk_far ?_ NB257_277.out _; (with_reducible repeat (first | refine blk_drewN ?_ _ | refine blk_drew ?_ | refine blk_alloc ?_ _)); refine blk_far ?_ NB257_277.out _; (with_reducible repeat (first | refine blk_drewN ?_ _ | refine blk_drew ?_ | refine blk_alloc ?_ _)); refine blk_far ?_ NB257_277.out _; (with_reducible repeat (first | refine blk_drewN ?_ _ | refine blk_drew ?_ | refine blk_alloc ?_ _)); exact BK257.out) hb); have n3_ := Aside0.mk (blk_below (g := gb264) (o := .cells #[.int .i64 t258, .int .i64 t259, .int .i64 t260] 25 (0, 0)) (by (with_reducible repeat (first | refine blk_drewN ?_ _ | refine blk_drew ?_ | refine blk_alloc ?_ _)); refine blk_far ?_ NB264_277.out _; (with_reducible repeat (first | refine blk_drewN ?_ _ | refine blk_drew ?_ | refine blk_alloc ?_ _)); refine blk_far ?_ NB264_277.out _; (with_reducible repeat (first | refine blk_drewN ?_ _ | refine blk_drew ?_ | refine blk_alloc ?_ _)); refine blk_far ?_ NB264_277.out _; (with_reducible repeat (first | refine blk_drewN ?_ _ | refine blk_drew ?_ | refine blk_alloc ?_ _)); exact BK264.out) hb); have n4_ := Aside0.mk (blk_below (g := gb265) (o := .cells #[.int .i64 t261, .int .i64 t262, .int .i64 t263] 25 (0, 0)) (by (with_reducible repeat (first | refine blk_drewN ?_ _ | refine blk_drew ?_ | refine blk_alloc ?_ _)); refine blk_far ?_ NB265_277.out _; (with_reducible repeat (first | refine blk_drewN ?_ _ | refine blk_drew ?_ | refine blk_alloc ?_ _)); refine blk_far ?_ NB265_277.out _; (with_reducible repeat (first | refine blk_drewN ?_ _ | refine blk_drew ?_ | refine blk_alloc ?_ _)); refine blk_far ?_ NB265_277.out _; (with_reducible repeat (first | refine blk_drewN ?_ _ | refine blk_drew ?_ | refine blk_alloc ?_ _)); exact BK265.out) hb); have n5_ := Aside0.mk (blk_below (g := gb272) (o := .cells #[.int .i64 t268, .int .i64 t269, .int .i64 t270] 25 (0, 0)) (by (with_reducible repeat (first | refine blk_drewN ?_ _ | refine blk_drew ?_ | refine blk_alloc ?_ _)); refine blk_far ?_ NB272_277.out _; (with_reducible repeat (first | refine blk_drewN ?_ _ | refine blk_drew ?_ | refine blk_alloc ?_ _)); refine blk_far ?_ NB272_277.out _; (with_reducible repeat (first | refine blk_drewN ?_ _ | refine blk_drew ?_ | refine blk_alloc ?_ _)); refine blk_far ?_ NB272_277.out _; (with_reducible repeat (first | refine blk_drewN ?_ _ | refine blk_drew ?_ | refine blk_alloc ?_ _)); exact BK272.out) hb); have n6_ := Aside0.mk (blk_below (g := gb277) (o := .cells #[.int .i64 t273, .int .i64 t274, .int .i64 t275] 25 (0, 0)) (by (with_reducible repeat (first | refine blk_drewN ?_ _ | refine blk_drew ?_ | refine blk_alloc ?_ _)); refine blk_put (cs := #[.int .i64 t273, .int .i64 t274, .int .i64 0]) ?_ 2 _ rfl; (with_reducible repeat (first | refine blk_drewN ?_ _ | refine blk_drew ?_ | refine blk_alloc ?_ _)); refine blk_put (cs := #[.int .i64 t273, .int .i64 0, .int .i64 0]) ?_ 1 _ rfl; (with_reducible repeat (first | refine blk_drewN ?_ _ | refine blk_drew ?_ | refine blk_alloc ?_ _)); refine blk_put (cs := #[.int .i64 0, .int .i64 0, .int .i64 0]) ?_ 0 _ rfl; (with_reducible repeat (first | refine blk_drewN ?_ _ | refine blk_drew ?_ | refine blk_alloc ?_ _)); exact BK277.out) hb); have n7_ := Aside0.mk (below_step (by repeat (first | (with_reducible first | exact HB.out | apply below_alloc | apply pw_below_drewN | apply below_drew1 | refine below_set ?_ GE247.out | refine below_set ?_ GE252.out | refine below_set ?_ GE257.out | refine below_set ?_ GE264.out | refine below_set ?_ GE265.out | refine below_set ?_ GE272.out | refine below_set ?_ GE277.out) | exact HB.out)) hb); clear BK247; clear BK252; clear BK257; clear BK264; clear BK265; clear BK272; clear BK277; clear HB; have BK247 := n0_; have BK252 := n1_; have BK257 := n2_; have BK264 := n3_; have BK265 := n4_; have BK272 := n5_; have BK277 := n6_; have HB := n7_; clear n0_ n1_ n2_ n3_ n4_ n5_ n6_ n7_; (try clear hb); (try clear hb2); (try clear hk); (try clear hi)) | ((with_reducible refine gate_dst (N := 17) rfl ?_); refine box_event ?hg (N := 17) ?hd (cs := #[.int .i64 0, .int .i64 0, .int .i64 0]) (t := 25) ?hr ?_; (case hd => rfl); (case hg => rfl); (case hr => first | (go_simp; done) | (go_simp; rfl)); intro gb281 hg w60 hbox hb; have n0_ := Aside0.mk (blk_below (g := gb247) (o := .cells #[.int .i64 t243, .int .i64 t244, .int .i64 t245] 25 (0, 0)) (by (with_reducible repeat (first | refine blk_drewN ?_ _ | refine blk_drew ?_ | refine blk_alloc ?_ _)); exact BK247.out) hb); have n1_ := Aside0.mk (blk_below (g := gb252) (o := .cells #[.int .i64 t248, .int .i64 t249, .int .i64 t250] 25 (0, 0)) (by (with_reducible repeat (first | refine blk_drewN ?_ _ | refine blk_drew ?_ | refine blk_alloc ?_ _)); exact BK252.out) hb); have n2_ := Aside0.mk (blk_below (g := gb257) (o := .cells #[.int .i64 t253, .int .i64 t254, .int .i64 t255] 25 (0, 0)) (by (with_reducible repeat (first | refine blk_drewN ?_ _ | refine blk_drew ?_ | refine blk_alloc ?_ _)); exact BK257.out) hb); have n3_ := Aside0.mk (blk_below (g := gb264) (o := .cells #[.int .i64 t258, .int .i64 t259, .int .i64 t260] 25 (0, 0)) (by (with_reducible repeat (first | refine blk_drewN ?_ _ | refine blk_drew ?_ | refine blk_alloc ?_ _)); exact BK264.out) hb); have n4_ := Aside0.mk (blk_below (g := gb265) (o := .cells #[.int .i64 t261, .int .i64 t262, .int .i64 t263] 25 (0, 0)) (by (with_reducible repeat (first | refine blk_drewN ?_ _ | refine blk_drew ?_ | refine blk_alloc ?_ _)); exact BK265.out) hb); have n5_ := Aside0.mk (blk_below (g := gb272) (o := .cells #[.int .i64 t268, .int .i64 t269, .int .i64 t270] 25 (0, 0)) (by (with_reducible repeat (first | refine blk_drewN ?_ _ | refine blk_drew ?_ | refine blk_alloc ?_ _)); exact BK272.out) hb); have n6_ := Aside0.mk (blk_below (g := gb277) (o := .cells #[.int .i64 t273, .int .i64 t274, .int .i64 t275] 25 (0, 0)) (by (with_reducible repeat (first | refine blk_drewN ?_ _ | refine blk_drew ?_ | refine blk_alloc ?_ _)); exact BK277.out) hb); have n7_ := Aside0.mk (below_step (by repeat (first | (with_reducible first | exact HB.out | apply below_alloc | apply pw_below_drewN | apply below_drew1 | refine below_set ?_ GE247.out | refine below_set ?_ GE252.out | refine below_set ?_ GE257.out | refine below_set ?_ GE264.out | refine below_set ?_ GE265.out | refine below_set ?_ GE272.out | refine below_set ?_ GE277.out) | exact HB.out)) hb); have n8_ := Aside0.mk (hbox); have n9_ := Aside0.mk ((by rw [hg]; exact (below_size (by repeat (first | (with_reducible first | exact HB.out | apply below_alloc | apply pw_below_drewN | apply below_drew1 | refine below_set ?_ GE247.out | refine below_set ?_ GE252.out | refine below_set ?_ GE257.out | refine below_set ?_ GE264.out | refine below_set ?_ GE265.out | refine below_set ?_ GE272.out | refine below_set ?_ GE277.out) | exact HB.out))) : w.heap.size ≤ gb281)); have n10_ := Aside0.mk ((by rw [hg]; exact (below_size (by repeat (first | (with_reducible first | exact HB.out | apply below_alloc | apply pw_below_drewN | apply below_drew1 | refine below_set ?_ GE247.out | refine below_set ?_ GE252.out | refine below_set ?_ GE257.out | refine below_set ?_ GE264.out | refine below_set ?_ GE265.out | refine below_set ?_ GE272.out | refine below_set ?_ GE277.out) | exact HB.out))) : w.heap.size ≤ gb281)); have n11_ := Aside0.mk ((by rw [hg]; exact Nat.ne_of_lt (blk_lt (g := gb247) (o := .cells #[.int .i64 t243, .int .i64 t244, .int .i64 t245] 25 (0, 0)) (by (with_reducible repeat (first | refine blk_drewN ?_ _ | refine blk_drew ?_ | refine blk_alloc ?_ _)); exact BK247.out)) : gb247 ≠ gb281)); have n12_ := Aside0.mk ((by rw [hg]; exact Nat.ne_of_gt (blk_lt (g := gb247) (o := .cells #[.int .i64 t243, .int .i64 t244, .int .i64 t245] 25 (0, 0)) (by (with_reducible repeat (first | refine blk_drewN ?_ _ | refine blk_drew ?_ | refine blk_alloc ?_ _)); exact BK247.out)) : gb281 ≠ gb247)); have n13_ := Aside0.mk ((by rw [hg]; exact Nat.ne_of_lt (blk_lt (g := gb252) (o := .cells #[.int .i64 t248, .int .i64 t249, .int .i64 t250] 25 (0, 0)) (by (with_reducible repeat (first | refine blk_drewN ?_ _ | refine blk_drew ?_ | refine blk_alloc ?_ _)); exact BK252.out)) : gb252 ≠ gb281)); have n14_ := Aside0.mk ((by rw [hg]; exact Nat.ne_of_gt (blk_lt (g := gb252) (o := .cells #[.int .i64 t248, .int .i64 t249, .int .i64 t250] 25 (0, 0)) (by (with_reducible repeat (first | refine blk_drewN ?_ _ | refine blk_drew ?_ | refine blk_alloc ?_ _)); exact BK252.out)) : gb281 ≠ gb252)); have n15_ := Aside0.mk ((by rw [hg]; exact Nat.ne_of_lt (blk_lt (g := gb257) (o := .cells #[.int .i64 t253, .int .i64 t254, .int .i64 t255] 25 (0, 0)) (by (with_reducible repeat (first | refine blk_drewN ?_ _ | refine blk_drew ?_ | refine blk_alloc ?_ _)); exact BK257.out)) : gb257 ≠ gb281)); have n16_ := Aside0.mk ((by rw [hg]; exact Nat.ne_of_gt (blk_lt (g := gb257) (o := .cells #[.int .i64 t253, .int .i64 t254, .int .i64 t255] 25 (0, 0)) (by (with_reducible repeat (first | refine blk_drewN ?_ _ | refine blk_drew ?_ | refine blk_alloc ?_ _)); exact BK257.out)) : gb281 ≠ gb257)); have n17_ := Aside0.mk ((by rw [hg]; exact Nat.ne_of_lt (blk_lt (g := gb264) (o := .cells #[.int .i64 t258, .int .i64 t259, .int .i64 t260] 25 (0, 0)) (by (with_reducible repeat (first | refine blk_drewN ?_ _ | refine blk_drew ?_ | refine blk_alloc ?_ _)); exact BK264.out)) : gb264 ≠ gb281)); have n18_ := Aside0.mk ((by rw [hg]; exact Nat.ne_of_gt (blk_lt (g := gb264) (o := .cells #[.int .i64 t258, .int .i64 t259, .int .i64 t260] 25 (0, 0)) (by (with_reducible repeat (first | refine blk_drewN ?_ _ | refine blk_drew ?_ | refine blk_alloc ?_ _)); exact BK264.out)) : gb281 ≠ gb264)); have n19_ := Aside0.mk ((by rw [hg]; exact Nat.ne_of_lt (blk_lt (g := gb265) (o := .cells #[.int .i64 t261, .int .i64 t262, .int .i64 t263] 25 (0, 0)) (by (with_reducible repeat (first | refine blk_drewN ?_ _ | refine blk_drew ?_ | refine blk_alloc ?_ _)); exact BK265.out)) : gb265 ≠ gb281)); have n20_ := Aside0.mk ((by rw [hg]; exact Nat.ne_of_gt (blk_lt (g := gb265) (o := .cells #[.int .i64 t261, .int .i64 t262, .int .i64 t263] 25 (0, 0)) (by (with_reducible repeat (first | refine blk_drewN ?_ _ | refine blk_drew ?_ | refine blk_alloc ?_ _)); exact BK265.out)) : gb281 ≠ gb265)); have n21_ := Aside0.mk ((by rw [hg]; exact Nat.ne_of_lt (blk_lt (g := gb272) (o := .cells #[.int .i64 t268, .int .i64 t269, .int .i64 t270] 25 (0, 0)) (by (with_reducible repeat (first | refine blk_drewN ?_ _ | refine blk_drew ?_ | refine blk_alloc ?_ _)); exact BK272.out)) : gb272 ≠ gb281)); have n22_ := Aside0.mk ((by rw [hg]; exact Nat.ne_of_gt (blk_lt (g := gb272) (o := .cells #[.int .i64 t268, .int .i64 t269, .int .i64 t270] 25 (0, 0)) (by (with_reducible repeat (first | refine blk_drewN ?_ _ | refine blk_drew ?_ | refine blk_alloc ?_ _)); exact BK272.out)) : gb281 ≠ gb272)); have n23_ := Aside0.mk ((by rw [hg]; exact Nat.ne_of_lt (blk_lt (g := gb277) (o := .cells #[.int .i64 t273, .int .i64 t274, .int .i64 t275] 25 (0, 0)) (by (with_reducible repeat (first | refine blk_drewN ?_ _ | refine blk_drew ?_ | refine blk_alloc ?_ _)); exact BK277.out)) : gb277 ≠ gb281)); have n24_ := Aside0.mk ((by rw [hg]; exact Nat.ne_of_gt (blk_lt (g := gb277) (o := .cells #[.int .i64 t273, .int .i64 t274, .int .i64 t275] 25 (0, 0)) (by (with_reducible repeat (first | refine blk_drewN ?_ _ | refine blk_drew ?_ | refine blk_alloc ?_ _)); exact BK277.out)) : gb281 ≠ gb277)); clear BK247; clear BK252; clear BK257; clear BK264; clear BK265; clear BK272; clear BK277; clear HB; have BK247 := n0_; have BK252 := n1_; have BK257 := n2_; have BK264 := n3_; have BK265 := n4_; have BK272 := n5_; have BK277 := n6_; have HB := n7_; have BK281 := n8_; have GW281 := n9_; have GE281 := n10_; have NB247_281 := n11_; have NB281_247 := n12_; have NB252_281 := n13_; have NB281_252 := n14_; have NB257_281 := n15_; have NB281_257 := n16_; have NB264_281 := n17_; have NB281_264 := n18_; have NB265_281 := n19_; have NB281_265 := n20_; have NB272_281 := n21_; have NB281_272 := n22_; have NB277_281 := n23_; have NB281_277 := n24_; clear n0_ n1_ n2_ n3_ n4_ n5_ n6_ n7_ n8_ n9_ n10_ n11_ n12_ n13_ n14_ n15_ n16_ n17_ n18_ n19_ n20_ n21_ n22_ n23_ n24_; clear hb hbox hg; have hnb61 := NB281_247.out; have hnc61 := NB247_281.out; have hnb62 := NB281_252.out; have hnc62 := NB252_281.out; have hnb63 := NB281_257.out; have hnc63 := NB257_281.out; have hnb64 := NB281_264.out; have hnc64 := NB264_281.out; have hnb65 := NB281_265.out; have hnc65 := NB265_281.out; have hnb66 := NB281_272.out; have hnc66 := NB272_281.out; have hnb67 := NB281_277.out; have hnc67 := NB277_281.out; have hcz68_0 : w60.cell? ⟨gb281, 0, none⟩ = some (.int .i64 0) := (blk_cell BK281.out 0).trans rfl; have hcz68_1 : w60.cell? ⟨gb281, 1, none⟩ = some (.int .i64 0) := (blk_cell BK281.out 1).trans rfl; have hcz68_2 : w60.cell? ⟨gb281, 2, none⟩ = some (.int .i64 0) := (blk_cell BK281.out 2).trans rfl; have hfz68_0 := blk_frozen BK281.out 0; have hfz68_1 := blk_frozen BK281.out 1; have hfz68_2 := blk_frozen BK281.out 2))
    (try simp only [Act.put, List.setIfInBounds_toArray, List.set_cons_zero, List.set_cons_succ])
    go_cut [90] (fun v90 wc => ∃ (kq : Nat) (x90_12 : Bool), v90 = .bool x90_12 ∧ Aside0 (laws_FnPaces.j0 kq t246 t251 t266 t271 x90_12 t243 t244 t245 t248 t249 t250 t258 t259 t260 t268 t269 t270 t278 t279 t280 = some r) ∧ Aside0 (kq ≤ k) ∧ Aside0 (wc.heap[gb247]? = some (.cells #[.int .i64 t243, .int .i64 t244, .int .i64 t245] 25 (0, 0))) ∧ Aside0 (wc.heap[gb252]? = some (.cells #[.int .i64 t248, .int .i64 t249, .int .i64 t250] 25 (0, 0))) ∧ Aside0 (wc.heap[gb257]? = some (.cells #[.int .i64 t253, .int .i64 t254, .int .i64 t255] 25 (0, 0))) ∧ Aside0 (wc.heap[gb264]? = some (.cells #[.int .i64 t258, .int .i64 t259, .int .i64 t260] 25 (0, 0))) ∧ Aside0 (wc.heap[gb265]? = some (.cells #[.int .i64 t261, .int .i64 t262, .int .i64 t263] 25 (0, 0))) ∧ Aside0 (wc.heap[gb272]? = some (.cells #[.int .i64 t268, .int .i64 t269, .int .i64 t270] 25 (0, 0))) ∧ Aside0 (wc.heap[gb277]? = some (.cells #[.int .i64 t273, .int .i64 t274, .int .i64 t275] 25 (0, 0))) ∧ Aside0 (wc.heap[gb281]? = some (.cells #[.int .i64 t278, .int .i64 t279, .int .i64 t280] 25 (0, 0))) ∧ Aside0 (Below w.heap.size w wc))
    case first =>
      have H := HC13.out
      clear HC13
      by_cases c69 : (!(t248 == t253) || (!(t249 == t254) || (!(t250 == t255)))) = true
      · rw [if_pos c69] at H
        exact absurd (H.trans (congrArg some hrt)) (j0t _ _ _ _ _ _ _ _ _ _ _ _ _ _ _ _ _ _ _ _)
      · rw [if_neg c69] at H
        have c69b0 : (!(t248 == t253) || (!(t249 == t254) || (!(t250 == t255)))) = false := by simpa using c69
        clear c69
        (first | rw [c69b0] | (simp only [i64_w, i32_w]; rw [c69b0]) | skip)
        by_cases c72 : (t251 != t256) = true
        · rw [if_pos c72] at H
          exact absurd (H.trans (congrArg some hrt)) (j0t _ _ _ _ _ _ _ _ _ _ _ _ _ _ _ _ _ _ _ _)
        · rw [if_neg c72] at H
          have c72b0 : (t251 != t256) = false := by simpa using c72
          (try (have c72b1 : decide (t251 = t256) = true := by simpa using c72))
          (try (have c72b2 : (t251 == t256) = true := by simpa using c72))
          clear c72
          replace H := Option.bind_eq_some_iff.mp H
          obtain ⟨⟨t282, t283, t284⟩, A750, H⟩ := H
          replace H : (if (!(t278 == t282) || (!(t279 == t283) || (!(t280 == t284)))) = true then (laws_FnPaces.j0 k t246 t251 t266 t271 true t243 t244 t245 t248 t249 t250 t258 t259 t260 t268 t269 t270 t278 t279 t280) else (if (!(t268 == t273) || (!(t269 == t274) || (!(t270 == t275)))) = true then (laws_FnPaces.j0 k t246 t251 t266 t271 true t243 t244 t245 t248 t249 t250 t258 t259 t260 t268 t269 t270 t278 t279 t280) else (if (t271 != t276) = true then (laws_FnPaces.j0 k t246 t251 t266 t271 true t243 t244 t245 t248 t249 t250 t258 t259 t260 t268 t269 t270 t278 t279 t280) else ((impl_PaceOk.f t261 t262 t263).bind fun t285 => ((spec_PaceOk.f t261 t262 t263).bind fun t286 => (laws_FnPaces.j0 k t246 t251 t266 t271 (t285 != t286) t243 t244 t245 t248 t249 t250 t258 t259 t260 t268 t269 t270 t278 t279 t280)))))) = some r := H
          have A75 := Aside0.mk A750
          clear A750
          by_cases c76 : (!(t278 == t282) || (!(t279 == t283) || (!(t280 == t284)))) = true
          · rw [if_pos c76] at H
            exact absurd (H.trans (congrArg some hrt)) (j0t _ _ _ _ _ _ _ _ _ _ _ _ _ _ _ _ _ _ _ _)
          · rw [if_neg c76] at H
            have c76b0 : (!(t278 == t282) || (!(t279 == t283) || (!(t280 == t284)))) = false := by simpa using c76
            clear c76
            by_cases c80 : (!(t268 == t273) || (!(t269 == t274) || (!(t270 == t275)))) = true
            · rw [if_pos c80] at H
              exact absurd (H.trans (congrArg some hrt)) (j0t _ _ _ _ _ _ _ _ _ _ _ _ _ _ _ _ _ _ _ _)
            · rw [if_neg c80] at H
              have c80b0 : (!(t268 == t273) || (!(t269 == t274) || (!(t270 == t275)))) = false := by simpa using c80
              clear c80
              by_cases c84 : (t271 != t276) = true
              · rw [if_pos c84] at H
                exact absurd (H.trans (congrArg some hrt)) (j0t _ _ _ _ _ _ _ _ _ _ _ _ _ _ _ _ _ _ _ _)
              · rw [if_neg c84] at H
                have c84b0 : (t271 != t276) = false := by simpa using c84
                (try (have c84b1 : decide (t271 = t276) = true := by simpa using c84))
                (try (have c84b2 : (t271 == t276) = true := by simpa using c84))
                clear c84
                replace H := Option.bind_eq_some_iff.mp H
                obtain ⟨t285, A880, H⟩ := H
                replace H : ((spec_PaceOk.f t261 t262 t263).bind fun t286 => (laws_FnPaces.j0 k t246 t251 t266 t271 (t285 != t286) t243 t244 t245 t248 t249 t250 t258 t259 t260 t268 t269 t270 t278 t279 t280)) = some r := H
                have A88 := Aside0.mk A880
                clear A880
                replace H := Option.bind_eq_some_iff.mp H
                obtain ⟨t286, A890, H⟩ := H
                replace H : (laws_FnPaces.j0 k t246 t251 t266 t271 (t285 != t286) t243 t244 t245 t248 t249 t250 t258 t259 t260 t268 t269 t270 t278 t279 t280) = some r := H
                have A89 := Aside0.mk A890
                clear A890
                have H' := Aside0.mk H
                clear H
                try go_wp2
                have n0_ : Aside0 ((((w60.setCell ⟨gb281, 0, none⟩ (.int .i64 t278)).setCell ⟨gb281, 1, none⟩ (.int .i64 t279)).setCell ⟨gb281, 2, none⟩ (.int .i64 t280)).heap[gb247]? = some (.cells #[.int .i64 t243, .int .i64 t244, .int .i64 t245] 25 (0, 0))) := ⟨by (with_reducible repeat (first | refine blk_drewN ?_ _ | refine blk_drew ?_ | refine blk_alloc ?_ _)); refine blk_far ?_ NB247_281.out _; (with_reducible repeat (first | refine blk_drewN ?_ _ | refine blk_drew ?_ | refine blk_alloc ?_ _)); refine blk_far ?_ NB247_281.out _; (with_reducible repeat (first | refine blk_drewN ?_ _ | refine blk_drew ?_ | refine blk_alloc ?_ _)); refine blk_far ?_ NB247_281.out _; (with_reducible repeat (first | refine blk_drewN ?_ _ | refine blk_drew ?_ | refine blk_alloc ?_ _)); exact BK247.out⟩
                have n1_ : Aside0 ((((w60.setCell ⟨gb281, 0, none⟩ (.int .i64 t278)).setCell ⟨gb281, 1, none⟩ (.int .i64 t279)).setCell ⟨gb281, 2, none⟩ (.int .i64 t280)).heap[gb252]? = some (.cells #[.int .i64 t248, .int .i64 t249, .int .i64 t250] 25 (0, 0))) := ⟨by (with_reducible repeat (first | refine blk_drewN ?_ _ | refine blk_drew ?_ | refine blk_alloc ?_ _)); refine blk_far ?_ NB252_281.out _; (with_reducible repeat (first | refine blk_drewN ?_ _ | refine blk_drew ?_ | refine blk_alloc ?_ _)); refine blk_far ?_ NB252_281.out _; (with_reducible repeat (first | refine blk_drewN ?_ _ | refine blk_drew ?_ | refine blk_alloc ?_ _)); refine blk_far ?_ NB252_281.out _; (with_reducible repeat (first | refine blk_drewN ?_ _ | refine blk_drew ?_ | refine blk_alloc ?_ _)); exact BK252.out⟩
                have n2_ : Aside0 ((((w60.setCell ⟨gb281, 0, none⟩ (.int .i64 t278)).setCell ⟨gb281, 1, none⟩ (.int .i64 t279)).setCell ⟨gb281, 2, none⟩ (.int .i64 t280)).heap[gb257]? = some (.cells #[.int .i64 t253, .int .i64 t254, .int .i64 t255] 25 (0, 0))) := ⟨by (with_reducible repeat (first | refine blk_drewN ?_ _ | refine blk_drew ?_ | refine blk_alloc ?_ _)); refine blk_far ?_ NB257_281.out _; (with_reducible repeat (first | refine blk_drewN ?_ _ | refine blk_drew ?_ | refine blk_alloc ?_ _)); refine blk_far ?_ NB257_281.out _; (with_reducible repeat (first | refine blk_drewN ?_ _ | refine blk_drew ?_ | refine blk_alloc ?_ _)); refine blk_far ?_ NB257_281.out _; (with_reducible repeat (first | refine blk_drewN ?_ _ | refine blk_drew ?_ | refine blk_alloc ?_ _)); exact BK257.out⟩
                have n3_ : Aside0 ((((w60.setCell ⟨gb281, 0, none⟩ (.int .i64 t278)).setCell ⟨gb281, 1, none⟩ (.int .i64 t279)).setCell ⟨gb281, 2, none⟩ (.int .i64 t280)).heap[gb264]? = some (.cells #[.int .i64 t258, .int .i64 t259, .int .i64 t260] 25 (0, 0))) := ⟨by (with_reducible repeat (first | refine blk_drewN ?_ _ | refine blk_drew ?_ | refine blk_alloc ?_ _)); refine blk_far ?_ NB264_281.out _; (with_reducible repeat (first | refine blk_drewN ?_ _ | refine blk_drew ?_ | refine blk_alloc ?_ _)); refine blk_far ?_ NB264_281.out _; (with_reducible repeat (first | refine blk_drewN ?_ _ | refine blk_drew ?_ | refine blk_alloc ?_ _)); refine blk_far ?_ NB264_281.out _; (with_reducible repeat (first | refine blk_drewN ?_ _ | refine blk_drew ?_ | refine blk_alloc ?_ _)); exact BK264.out⟩
                have n4_ : Aside0 ((((w60.setCell ⟨gb281, 0, none⟩ (.int .i64 t278)).setCell ⟨gb281, 1, none⟩ (.int .i64 t279)).setCell ⟨gb281, 2, none⟩ (.int .i64 t280)).heap[gb265]? = some (.cells #[.int .i64 t261, .int .i64 t262, .int .i64 t263] 25 (0, 0))) := ⟨by (with_reducible repeat (first | refine blk_drewN ?_ _ | refine blk_drew ?_ | refine blk_alloc ?_ _)); refine blk_far ?_ NB265_281.out _; (with_reducible repeat (first | refine blk_drewN ?_ _ | refine blk_drew ?_ | refine blk_alloc ?_ _)); refine blk_far ?_ NB265_281.out _; (with_reducible repeat (first | refine blk_drewN ?_ _ | refine blk_drew ?_ | refine blk_alloc ?_ _)); refine blk_far ?_ NB265_281.out _; (with_reducible repeat (first | refine blk_drewN ?_ _ | refine blk_drew ?_ | refine blk_alloc ?_ _)); exact BK265.out⟩
                have n5_ : Aside0 ((((w60.setCell ⟨gb281, 0, none⟩ (.int .i64 t278)).setCell ⟨gb281, 1, none⟩ (.int .i64 t279)).setCell ⟨gb281, 2, none⟩ (.int .i64 t280)).heap[gb272]? = some (.cells #[.int .i64 t268, .int .i64 t269, .int .i64 t270] 25 (0, 0))) := ⟨by (with_reducible repeat (first | refine blk_drewN ?_ _ | refine blk_drew ?_ | refine blk_alloc ?_ _)); refine blk_far ?_ NB272_281.out _; (with_reducible repeat (first | refine blk_drewN ?_ _ | refine blk_drew ?_ | refine blk_alloc ?_ _)); refine blk_far ?_ NB272_281.out _; (with_reducible repeat (first | refine blk_drewN ?_ _ | refine blk_drew ?_ | refine blk_alloc ?_ _)); refine blk_far ?_ NB272_281.out _; (with_reducible repeat (first | refine blk_drewN ?_ _ | refine blk_drew ?_ | refine blk_alloc ?_ _)); exact BK272.out⟩
                have n6_ : Aside0 ((((w60.setCell ⟨gb281, 0, none⟩ (.int .i64 t278)).setCell ⟨gb281, 1, none⟩ (.int .i64 t279)).setCell ⟨gb281, 2, none⟩ (.int .i64 t280)).heap[gb277]? = some (.cells #[.int .i64 t273, .int .i64 t274, .int .i64 t275] 25 (0, 0))) := ⟨by (with_reducible repeat (first | refine blk_drewN ?_ _ | refine blk_drew ?_ | refine blk_alloc ?_ _)); refine blk_far ?_ NB277_281.out _; (with_reducible repeat (first | refine blk_drewN ?_ _ | refine blk_drew ?_ | refine blk_alloc ?_ _)); refine blk_far ?_ NB277_281.out _; (with_reducible repeat (first | refine blk_drewN ?_ _ | refine blk_drew ?_ | refine blk_alloc ?_ _)); refine blk_far ?_ NB277_281.out _; (with_reducible repeat (first | refine blk_drewN ?_ _ | refine blk_drew ?_ | refine blk_alloc ?_ _)); exact BK277.out⟩
                have n7_ : Aside0 ((((w60.setCell ⟨gb281, 0, none⟩ (.int .i64 t278)).setCell ⟨gb281, 1, none⟩ (.int .i64 t279)).setCell ⟨gb281, 2, none⟩ (.int .i64 t280)).heap[gb281]? = some (.cells #[.int .i64 t278, .int .i64 t279, .int .i64 t280] 25 (0, 0))) := ⟨by (with_reducible repeat (first | refine blk_drewN ?_ _ | refine blk_drew ?_ | refine blk_alloc ?_ _)); refine blk_put (cs := #[.int .i64 t278, .int .i64 t279, .int .i64 0]) ?_ 2 _ rfl; (with_reducible repeat (first | refine blk_drewN ?_ _ | refine blk_drew ?_ | refine blk_alloc ?_ _)); refine blk_put (cs := #[.int .i64 t278, .int .i64 0, .int .i64 0]) ?_ 1 _ rfl; (with_reducible repeat (first | refine blk_drewN ?_ _ | refine blk_drew ?_ | refine blk_alloc ?_ _)); refine blk_put (cs := #[.int .i64 0, .int .i64 0, .int .i64 0]) ?_ 0 _ rfl; (with_reducible repeat (first | refine blk_drewN ?_ _ | refine blk_drew ?_ | refine blk_alloc ?_ _)); exact BK281.out⟩
                have n8_ : Aside0 (Below w.heap.size w (((w60.setCell ⟨gb281, 0, none⟩ (.int .i64 t278)).setCell ⟨gb281, 1, none⟩ (.int .i64 t279)).setCell ⟨gb281, 2, none⟩ (.int .i64 t280))) := ⟨by repeat (first | (with_reducible first | exact HB.out | apply below_alloc | apply pw_below_drewN | apply below_drew1 | refine below_set ?_ GE247.out | refine below_set ?_ GE252.out | refine below_set ?_ GE257.out | refine below_set ?_ GE264.out | refine below_set ?_ GE265.out | refine below_set ?_ GE272.out | refine below_set ?_ GE277.out | refine below_set ?_ GE281.out) | exact HB.out)⟩
                (try clear BK247)
                (try clear BK252)
                (try clear BK257)
                (try clear BK264)
                (try clear BK265)
                (try clear BK272)
                (try clear BK277)
                (try clear BK281)
                (try clear HB)
                generalize (((w60.setCell ⟨gb281, 0, none⟩ (.int .i64 t278)).setCell ⟨gb281, 1, none⟩ (.int .i64 t279)).setCell ⟨gb281, 2, none⟩ (.int .i64 t280)) = w90 at n0_ n1_ n2_ n3_ n4_ n5_ n6_ n7_ n8_ ⊢
                have BK247 := n0_
                have BK252 := n1_
                have BK257 := n2_
                have BK264 := n3_
                have BK265 := n4_
                have BK272 := n5_
                have BK277 := n6_
                have BK281 := n7_
                have HB := n8_
                clear n0_ n1_ n2_ n3_ n4_ n5_ n6_ n7_ n8_
                have n0_ := Aside0.mk (blk_drew BK247.out)
                have n1_ := Aside0.mk (blk_drew BK252.out)
                have n2_ := Aside0.mk (blk_drew BK257.out)
                have n3_ := Aside0.mk (blk_drew BK264.out)
                have n4_ := Aside0.mk (blk_drew BK265.out)
                have n5_ := Aside0.mk (blk_drew BK272.out)
                have n6_ := Aside0.mk (blk_drew BK277.out)
                have n7_ := Aside0.mk (blk_drew BK281.out)
                have n8_ := Aside0.mk (below_drew1 HB.out)
                clear BK247
                clear BK252
                clear BK257
                clear BK264
                clear BK265
                clear BK272
                clear BK277
                clear BK281
                clear HB
                have BK247 := n0_
                have BK252 := n1_
                have BK257 := n2_
                have BK264 := n3_
                have BK265 := n4_
                have BK272 := n5_
                have BK277 := n6_
                have BK281 := n7_
                have HB := n8_
                clear n0_ n1_ n2_ n3_ n4_ n5_ n6_ n7_ n8_
                refine start_ (n := 31) (S := fun w' => w'.cell? ⟨gb252, 0, none⟩ = some (.int .i64 t248) ∧ w'.cell? ⟨gb252, 1, none⟩ = some (.int .i64 t249) ∧ w'.cell? ⟨gb252, 2, none⟩ = some (.int .i64 t250) ∧ w'.cell? ⟨gb257, 0, none⟩ = some (.int .i64 t253) ∧ w'.cell? ⟨gb257, 1, none⟩ = some (.int .i64 t254) ∧ w'.cell? ⟨gb257, 2, none⟩ = some (.int .i64 t255) ∧ w'.cell? ⟨gb281, 0, none⟩ = some (.int .i64 t278) ∧ w'.cell? ⟨gb281, 1, none⟩ = some (.int .i64 t279) ∧ w'.cell? ⟨gb281, 2, none⟩ = some (.int .i64 t280) ∧ w'.cell? ⟨gb264, 0, none⟩ = some (.int .i64 t258) ∧ w'.cell? ⟨gb264, 1, none⟩ = some (.int .i64 t259) ∧ w'.cell? ⟨gb264, 2, none⟩ = some (.int .i64 t260) ∧ w'.cell? ⟨gb272, 0, none⟩ = some (.int .i64 t268) ∧ w'.cell? ⟨gb272, 1, none⟩ = some (.int .i64 t269) ∧ w'.cell? ⟨gb272, 2, none⟩ = some (.int .i64 t270) ∧ w'.cell? ⟨gb277, 0, none⟩ = some (.int .i64 t273) ∧ w'.cell? ⟨gb277, 1, none⟩ = some (.int .i64 t274) ∧ w'.cell? ⟨gb277, 2, none⟩ = some (.int .i64 t275) ∧ w'.cell? ⟨gb265, 0, none⟩ = some (.int .i64 t261) ∧ w'.cell? ⟨gb265, 1, none⟩ = some (.int .i64 t262) ∧ w'.cell? ⟨gb265, 2, none⟩ = some (.int .i64 t263)) (ds := []) #[false, false, false, false, false, false, false, false, false, false, false, false, false, false, false, false, false, false, false, false, false, false, false, false, false, false, false, false, false, false, false] (by kernel_rfl) rfl rfl ⟨(blk_cell BK252.out 0).trans rfl, (blk_cell BK252.out 1).trans rfl, (blk_cell BK252.out 2).trans rfl, (blk_cell BK257.out 0).trans rfl, (blk_cell BK257.out 1).trans rfl, (blk_cell BK257.out 2).trans rfl, (blk_cell BK281.out 0).trans rfl, (blk_cell BK281.out 1).trans rfl, (blk_cell BK281.out 2).trans rfl, (blk_cell BK264.out 0).trans rfl, (blk_cell BK264.out 1).trans rfl, (blk_cell BK264.out 2).trans rfl, (blk_cell BK272.out 0).trans rfl, (blk_cell BK272.out 1).trans rfl, (blk_cell BK272.out 2).trans rfl, (blk_cell BK277.out 0).trans rfl, (blk_cell BK277.out 1).trans rfl, (blk_cell BK277.out 2).trans rfl, (blk_cell BK265.out 0).trans rfl, (blk_cell BK265.out 1).trans rfl, (blk_cell BK265.out 2).trans rfl⟩ (fun hHeld => ?_); refine with_tabW laws_FnPaces.tab11 laws_FnPaces.bits11 (fun HT_ HW_ => ?_)
                generalize w90.drew = w91 at BK247 BK252 BK257 BK264 BK265 BK272 BK277 BK281 HB hHeld ⊢
                refine take_ (i := 0) (N := some 60) (v := ?_) (a' := ?_) #[true, false, false, false, false, false, false, false, false, false, false, false, false, false, false, false, false, false, false, false, false, false, false, false, false, false, false, false, false, false, false] rfl rfl (take_ofW HT_.out HW_.out (by kernel_rfl)) (fun _ _ _ h => h) (Or.inl ⟨by rfl, ?_⟩) hHeld ?_ ?_
                rotate_left
                · rintro w' ⟨s0, s1, s2, s3, s4, s5, s6, s7, s8, s9, s10, s11, s12, s13, s14, s15, s16, s17, s18, s19, s20⟩
                  go_simp
                  with_reducible rfl
                rotate_left
                · simp only [Act.put, List.setIfInBounds_toArray, List.set_cons_zero, List.set_cons_succ, i64_w, i32_w]
                  rfl
                refine take_ (i := 1) (N := some 61) (v := ?_) (a' := ?_) #[true, true, false, false, false, false, false, false, false, false, false, false, false, false, false, false, false, false, false, false, false, false, false, false, false, false, false, false, false, false, false] rfl rfl (take_ofW HT_.out HW_.out (by kernel_rfl)) (fun _ _ _ h => h) (Or.inl ⟨by rfl, ?_⟩) hHeld ?_ ?_
                rotate_left
                · rintro w' ⟨s0, s1, s2, s3, s4, s5, s6, s7, s8, s9, s10, s11, s12, s13, s14, s15, s16, s17, s18, s19, s20⟩
                  go_simp
                  with_reducible rfl
                rotate_left
                · simp only [Act.put, List.setIfInBounds_toArray, List.set_cons_zero, List.set_cons_succ, i64_w, i32_w]
                  rfl
                refine pure_ (i := 2) (N := some 62) (v := ?_) (a' := ?_) #[true, true, true, false, false, false, false, false, false, false, false, false, false, false, false, false, false, false, false, false, false, false, false, false, false, false, false, false, false, false, false] rfl rfl (any_of HT_.out (by kernel_rfl)) (fun _ _ _ h => h) (Or.inl ⟨by rfl, ?_⟩) ?_ ?_
                rotate_left
                · intro w'
                  go_simp
                  with_reducible rfl
                rotate_left
                · simp only [Act.put, List.setIfInBounds_toArray, List.set_cons_zero, List.set_cons_succ, i64_w, i32_w]
                  rfl
                refine pure_ (i := 3) (N := some 63) (v := ?_) (a' := ?_) #[true, true, true, true, false, false, false, false, false, false, false, false, false, false, false, false, false, false, false, false, false, false, false, false, false, false, false, false, false, false, false] rfl rfl (any_of HT_.out (by kernel_rfl)) (fun _ _ _ h => h) (Or.inl ⟨by rfl, ?_⟩) ?_ ?_
                rotate_left
                · intro w'
                  go_simp
                  with_reducible rfl
                rotate_left
                · simp only [Act.put, List.setIfInBounds_toArray, List.set_cons_zero, List.set_cons_succ, i64_w, i32_w]
                  rfl
                refine pure_ (i := 4) (N := some 64) (v := ?_) (a' := ?_) #[true, true, true, true, true, false, false, false, false, false, false, false, false, false, false, false, false, false, false, false, false, false, false, false, false, false, false, false, false, false, false] rfl rfl (any_of HT_.out (by kernel_rfl)) (fun _ _ _ h => h) (Or.inl ⟨by rfl, ?_⟩) ?_ ?_
                rotate_left
                · intro w'
                  go_simp
                  with_reducible rfl
                rotate_left
                · simp only [Act.put, List.setIfInBounds_toArray, List.set_cons_zero, List.set_cons_succ, i64_w, i32_w]
                  rfl
                refine pure_ (i := 5) (N := some 65) (v := ?_) (a' := ?_) #[true, true, true, true, true, true, false, false, false, false, false, false, false, false, false, false, false, false, false, false, false, false, false, false, false, false, false, false, false, false, false] rfl rfl (any_of HT_.out (by kernel_rfl)) (fun _ _ _ h => h) (Or.inl ⟨by rfl, ?_⟩) ?_ ?_
                rotate_left
                · intro w'
                  go_simp
                  with_reducible rfl
                rotate_left
                · simp only [Act.put, List.setIfInBounds_toArray, List.set_cons_zero, List.set_cons_succ, i64_w, i32_w]
                  rfl
                refine pure_ (i := 6) (N := some 66) (v := ?_) (a' := ?_) #[true, true, true, true, true, true, true, false, false, false, false, false, false, false, false, false, false, false, false, false, false, false, false, false, false, false, false, false, false, false, false] rfl rfl (any_of HT_.out (by kernel_rfl)) (fun _ _ _ h => h) (Or.inl ⟨by rfl, ?_⟩) ?_ ?_
                rotate_left
                · intro w'
                  go_simp
                  with_reducible rfl
                rotate_left
                · simp only [Act.put, List.setIfInBounds_toArray, List.set_cons_zero, List.set_cons_succ, i64_w, i32_w]
                  rfl
                refine pure_ (i := 7) (N := some 67) (v := ?_) (a' := ?_) #[true, true, true, true, true, true, true, true, false, false, false, false, false, false, false, false, false, false, false, false, false, false, false, false, false, false, false, false, false, false, false] rfl rfl (any_of HT_.out (by kernel_rfl)) (fun _ _ _ h => h) (Or.inl ⟨by rfl, ?_⟩) ?_ ?_
                rotate_left
                · intro w'
                  go_simp
                  with_reducible rfl
                rotate_left
                · simp only [Act.put, List.setIfInBounds_toArray, List.set_cons_zero, List.set_cons_succ, i64_w, i32_w]
                  rfl
                refine pure_ (i := 8) (N := some 68) (v := ?_) (a' := ?_) #[true, true, true, true, true, true, true, true, true, false, false, false, false, false, false, false, false, false, false, false, false, false, false, false, false, false, false, false, false, false, false] rfl rfl (any_of HT_.out (by kernel_rfl)) (fun _ _ _ h => h) (Or.inl ⟨by rfl, ?_⟩) ?_ ?_
                rotate_left
                · intro w'
                  go_simp
                  with_reducible rfl
                rotate_left
                · simp only [Act.put, List.setIfInBounds_toArray, List.set_cons_zero, List.set_cons_succ, i64_w, i32_w]
                  rfl
                refine take_ (i := 9) (N := some 69) (v := ?_) (a' := ?_) #[true, true, true, true, true, true, true, true, true, true, false, false, false, false, false, false, false, false, false, false, false, false, false, false, false, false, false, false, false, false, false] rfl rfl (take_ofW HT_.out HW_.out (by kernel_rfl)) (fun _ _ _ h => h) (Or.inl ⟨by rfl, ?_⟩) hHeld ?_ ?_
                rotate_left
                · rintro w' ⟨s0, s1, s2, s3, s4, s5, s6, s7, s8, s9, s10, s11, s12, s13, s14, s15, s16, s17, s18, s19, s20⟩
                  go_simp
                  with_reducible rfl
                rotate_left
                · simp only [Act.put, List.setIfInBounds_toArray, List.set_cons_zero, List.set_cons_succ, i64_w, i32_w]
                  rfl
                refine take_ (i := 10) (N := some 70) (v := ?_) (a' := ?_) #[true, true, true, true, true, true, true, true, true, true, true, false, false, false, false, false, false, false, false, false, false, false, false, false, false, false, false, false, false, false, false] rfl rfl (take_ofW HT_.out HW_.out (by kernel_rfl)) (fun _ _ _ h => h) (Or.inl ⟨by rfl, ?_⟩) hHeld ?_ ?_
                rotate_left
                · rintro w' ⟨s0, s1, s2, s3, s4, s5, s6, s7, s8, s9, s10, s11, s12, s13, s14, s15, s16, s17, s18, s19, s20⟩
                  go_simp
                  with_reducible rfl
                rotate_left
                · simp only [Act.put, List.setIfInBounds_toArray, List.set_cons_zero, List.set_cons_succ, i64_w, i32_w]
                  rfl
                refine one_ (i := 11) (N := some 71) #[true, true, true, true, true, true, true, true, true, true, true, true, false, false, false, false, false, false, false, false, false, false, false, false, false, false, false, false, false, false, false] rfl rfl (one_of HT_.out (by kernel_rfl)) (by decide) (fun K hK => ?_)
                refine goes_ Try.func23 (by kernel_rfl) rfl #[.agg #[.int .i64 t258, .int .i64 t259, .int .i64 t260]] (by rfl) rfl rfl (by (try simp only [List.map_toArray, List.map_cons, List.map_nil]); first | done | rfl | (simp only [List.length_drop, List.length_take]; rfl)) ?_
                with_reducible refine (spec_PaceTick.calls t258 t259 t260 t282 t283 t284 _ A75.out).mono ?_
                rintro e w92 ⟨rfl, hb⟩
                refine ⟨_, rfl, ?_⟩
                have n0_ := Aside0.mk (blk_below (g := gb247) (o := .cells #[.int .i64 t243, .int .i64 t244, .int .i64 t245] 25 (0, 0)) (by (with_reducible repeat (first | refine blk_drewN ?_ _ | refine blk_drew ?_ | refine blk_alloc ?_ _)); exact BK247.out) hb)
                have n1_ := Aside0.mk (blk_below (g := gb252) (o := .cells #[.int .i64 t248, .int .i64 t249, .int .i64 t250] 25 (0, 0)) (by (with_reducible repeat (first | refine blk_drewN ?_ _ | refine blk_drew ?_ | refine blk_alloc ?_ _)); exact BK252.out) hb)
                have n2_ := Aside0.mk (blk_below (g := gb257) (o := .cells #[.int .i64 t253, .int .i64 t254, .int .i64 t255] 25 (0, 0)) (by (with_reducible repeat (first | refine blk_drewN ?_ _ | refine blk_drew ?_ | refine blk_alloc ?_ _)); exact BK257.out) hb)
                have n3_ := Aside0.mk (blk_below (g := gb264) (o := .cells #[.int .i64 t258, .int .i64 t259, .int .i64 t260] 25 (0, 0)) (by (with_reducible repeat (first | refine blk_drewN ?_ _ | refine blk_drew ?_ | refine blk_alloc ?_ _)); exact BK264.out) hb)
                have n4_ := Aside0.mk (blk_below (g := gb265) (o := .cells #[.int .i64 t261, .int .i64 t262, .int .i64 t263] 25 (0, 0)) (by (with_reducible repeat (first | refine blk_drewN ?_ _ | refine blk_drew ?_ | refine blk_alloc ?_ _)); exact BK265.out) hb)
                have n5_ := Aside0.mk (blk_below (g := gb272) (o := .cells #[.int .i64 t268, .int .i64 t269, .int .i64 t270] 25 (0, 0)) (by (with_reducible repeat (first | refine blk_drewN ?_ _ | refine blk_drew ?_ | refine blk_alloc ?_ _)); exact BK272.out) hb)
                have n6_ := Aside0.mk (blk_below (g := gb277) (o := .cells #[.int .i64 t273, .int .i64 t274, .int .i64 t275] 25 (0, 0)) (by (with_reducible repeat (first | refine blk_drewN ?_ _ | refine blk_drew ?_ | refine blk_alloc ?_ _)); exact BK277.out) hb)
                have n7_ := Aside0.mk (blk_below (g := gb281) (o := .cells #[.int .i64 t278, .int .i64 t279, .int .i64 t280] 25 (0, 0)) (by (with_reducible repeat (first | refine blk_drewN ?_ _ | refine blk_drew ?_ | refine blk_alloc ?_ _)); exact BK281.out) hb)
                have n8_ := Aside0.mk (below_step (by repeat (first | (with_reducible first | exact HB.out | apply below_alloc | apply pw_below_drewN | apply below_drew1 | refine below_set ?_ GE247.out | refine below_set ?_ GE252.out | refine below_set ?_ GE257.out | refine below_set ?_ GE264.out | refine below_set ?_ GE265.out | refine below_set ?_ GE272.out | refine below_set ?_ GE277.out | refine below_set ?_ GE281.out) | exact HB.out)) hb)
                clear BK247
                clear BK252
                clear BK257
                clear BK264
                clear BK265
                clear BK272
                clear BK277
                clear BK281
                clear HB
                have BK247 := n0_
                have BK252 := n1_
                have BK257 := n2_
                have BK264 := n3_
                have BK265 := n4_
                have BK272 := n5_
                have BK277 := n6_
                have BK281 := n7_
                have HB := n8_
                clear n0_ n1_ n2_ n3_ n4_ n5_ n6_ n7_ n8_
                (try clear hb)
                (try clear hb2)
                (try clear hk)
                (try clear hi)
                refine hK.out _ _ ⟨(blk_cell BK252.out 0).trans rfl, (blk_cell BK252.out 1).trans rfl, (blk_cell BK252.out 2).trans rfl, (blk_cell BK257.out 0).trans rfl, (blk_cell BK257.out 1).trans rfl, (blk_cell BK257.out 2).trans rfl, (blk_cell BK281.out 0).trans rfl, (blk_cell BK281.out 1).trans rfl, (blk_cell BK281.out 2).trans rfl, (blk_cell BK264.out 0).trans rfl, (blk_cell BK264.out 1).trans rfl, (blk_cell BK264.out 2).trans rfl, (blk_cell BK272.out 0).trans rfl, (blk_cell BK272.out 1).trans rfl, (blk_cell BK272.out 2).trans rfl, (blk_cell BK277.out 0).trans rfl, (blk_cell BK277.out 1).trans rfl, (blk_cell BK277.out 2).trans rfl, (blk_cell BK265.out 0).trans rfl, (blk_cell BK265.out 1).trans rfl, (blk_cell BK265.out 2).trans rfl⟩ (fun hHeld => ?_)
                clear hK K
                refine norm_ (a' := ?_) ?_ ?_
                rotate_left
                · show Act.put _ (some 71) _ = _
                  simp only [Act.put, List.setIfInBounds_toArray, List.set_cons_zero, List.set_cons_succ, i64_w, i32_w]
                  rfl
                refine pure_ (i := 12) (N := some 72) (v := ?_) (a' := ?_) #[true, true, true, true, true, true, true, true, true, true, true, true, true, false, false, false, false, false, false, false, false, false, false, false, false, false, false, false, false, false, false] rfl rfl (any_of HT_.out (by kernel_rfl)) (fun _ _ _ h => h) (Or.inl ⟨by rfl, ?_⟩) ?_ ?_
                rotate_left
                · intro w'
                  go_simp
                  with_reducible rfl
                rotate_left
                · simp only [Act.put, List.setIfInBounds_toArray, List.set_cons_zero, List.set_cons_succ, i64_w, i32_w]
                  rfl
                refine pure_ (i := 13) (N := some 73) (v := ?_) (a' := ?_) #[true, true, true, true, true, true, true, true, true, true, true, true, true, true, false, false, false, false, false, false, false, false, false, false, false, false, false, false, false, false, false] rfl rfl (any_of HT_.out (by kernel_rfl)) (fun _ _ _ h => h) (Or.inl ⟨by rfl, ?_⟩) ?_ ?_
                rotate_left
                · intro w'
                  go_simp
                  with_reducible rfl
                rotate_left
                · simp only [Act.put, List.setIfInBounds_toArray, List.set_cons_zero, List.set_cons_succ, i64_w, i32_w]
                  rfl
                refine pure_ (i := 14) (N := some 74) (v := ?_) (a' := ?_) #[true, true, true, true, true, true, true, true, true, true, true, true, true, true, true, false, false, false, false, false, false, false, false, false, false, false, false, false, false, false, false] rfl rfl (any_of HT_.out (by kernel_rfl)) (fun _ _ _ h => h) (Or.inl ⟨by rfl, ?_⟩) ?_ ?_
                rotate_left
                · intro w'
                  go_simp
                  with_reducible rfl
                rotate_left
                · simp only [Act.put, List.setIfInBounds_toArray, List.set_cons_zero, List.set_cons_succ, i64_w, i32_w]
                  rfl
                refine take_ (i := 15) (N := some 75) (v := ?_) (a' := ?_) #[true, true, true, true, true, true, true, true, true, true, true, true, true, true, true, true, false, false, false, false, false, false, false, false, false, false, false, false, false, false, false] rfl rfl (take_ofW HT_.out HW_.out (by kernel_rfl)) (fun _ _ _ h => h) (Or.inl ⟨by rfl, ?_⟩) hHeld ?_ ?_
                rotate_left
                · rintro w' ⟨s0, s1, s2, s3, s4, s5, s6, s7, s8, s9, s10, s11, s12, s13, s14, s15, s16, s17, s18, s19, s20⟩
                  go_simp
                  with_reducible rfl
                rotate_left
                · simp only [Act.put, List.setIfInBounds_toArray, List.set_cons_zero, List.set_cons_succ, i64_w, i32_w]
                  rfl
                refine take_ (i := 16) (N := some 76) (v := ?_) (a' := ?_) #[true, true, true, true, true, true, true, true, true, true, true, true, true, true, true, true, true, false, false, false, false, false, false, false, false, false, false, false, false, false, false] rfl rfl (take_ofW HT_.out HW_.out (by kernel_rfl)) (fun _ _ _ h => h) (Or.inl ⟨by rfl, ?_⟩) hHeld ?_ ?_
                rotate_left
                · rintro w' ⟨s0, s1, s2, s3, s4, s5, s6, s7, s8, s9, s10, s11, s12, s13, s14, s15, s16, s17, s18, s19, s20⟩
                  go_simp
                  with_reducible rfl
                rotate_left
                · simp only [Act.put, List.setIfInBounds_toArray, List.set_cons_zero, List.set_cons_succ, i64_w, i32_w]
                  rfl
                refine pure_ (i := 17) (N := some 77) (v := ?_) (a' := ?_) #[true, true, true, true, true, true, true, true, true, true, true, true, true, true, true, true, true, true, false, false, false, false, false, false, false, false, false, false, false, false, false] rfl rfl (any_of HT_.out (by kernel_rfl)) (fun _ _ _ h => h) (Or.inl ⟨by rfl, ?_⟩) ?_ ?_
                rotate_left
                · intro w'
                  go_simp
                  with_reducible rfl
                rotate_left
                · simp only [Act.put, List.setIfInBounds_toArray, List.set_cons_zero, List.set_cons_succ, i64_w, i32_w]
                  rfl
                refine pure_ (i := 18) (N := some 78) (v := ?_) (a' := ?_) #[true, true, true, true, true, true, true, true, true, true, true, true, true, true, true, true, true, true, true, false, false, false, false, false, false, false, false, false, false, false, false] rfl rfl (any_of HT_.out (by kernel_rfl)) (fun _ _ _ h => h) (Or.inl ⟨by rfl, ?_⟩) ?_ ?_
                rotate_left
                · intro w'
                  go_simp
                  with_reducible rfl
                rotate_left
                · simp only [Act.put, List.setIfInBounds_toArray, List.set_cons_zero, List.set_cons_succ, i64_w, i32_w]
                  rfl
                refine pure_ (i := 19) (N := some 79) (v := ?_) (a' := ?_) #[true, true, true, true, true, true, true, true, true, true, true, true, true, true, true, true, true, true, true, true, false, false, false, false, false, false, false, false, false, false, false] rfl rfl (any_of HT_.out (by kernel_rfl)) (fun _ _ _ h => h) (Or.inl ⟨by rfl, ?_⟩) ?_ ?_
                rotate_left
                · intro w'
                  go_simp
                  with_reducible rfl
                rotate_left
                · simp only [Act.put, List.setIfInBounds_toArray, List.set_cons_zero, List.set_cons_succ, i64_w, i32_w]
                  rfl
                refine pure_ (i := 20) (N := some 80) (v := ?_) (a' := ?_) #[true, true, true, true, true, true, true, true, true, true, true, true, true, true, true, true, true, true, true, true, true, false, false, false, false, false, false, false, false, false, false] rfl rfl (any_of HT_.out (by kernel_rfl)) (fun _ _ _ h => h) (Or.inl ⟨by rfl, ?_⟩) ?_ ?_
                rotate_left
                · intro w'
                  go_simp
                  with_reducible rfl
                rotate_left
                · simp only [Act.put, List.setIfInBounds_toArray, List.set_cons_zero, List.set_cons_succ, i64_w, i32_w]
                  rfl
                refine pure_ (i := 21) (N := some 81) (v := ?_) (a' := ?_) #[true, true, true, true, true, true, true, true, true, true, true, true, true, true, true, true, true, true, true, true, true, true, false, false, false, false, false, false, false, false, false] rfl rfl (any_of HT_.out (by kernel_rfl)) (fun _ _ _ h => h) (Or.inl ⟨by rfl, ?_⟩) ?_ ?_
                rotate_left
                · intro w'
                  go_simp
                  with_reducible rfl
                rotate_left
                · simp only [Act.put, List.setIfInBounds_toArray, List.set_cons_zero, List.set_cons_succ, i64_w, i32_w]
                  rfl
                refine pure_ (i := 22) (N := some 82) (v := ?_) (a' := ?_) #[true, true, true, true, true, true, true, true, true, true, true, true, true, true, true, true, true, true, true, true, true, true, true, false, false, false, false, false, false, false, false] rfl rfl (any_of HT_.out (by kernel_rfl)) (fun _ _ _ h => h) (Or.inl ⟨by rfl, ?_⟩) ?_ ?_
                rotate_left
                · intro w'
                  go_simp
                  with_reducible rfl
                rotate_left
                · simp only [Act.put, List.setIfInBounds_toArray, List.set_cons_zero, List.set_cons_succ, i64_w, i32_w]
                  rfl
                refine pure_ (i := 23) (N := some 83) (v := ?_) (a' := ?_) #[true, true, true, true, true, true, true, true, true, true, true, true, true, true, true, true, true, true, true, true, true, true, true, true, false, false, false, false, false, false, false] rfl rfl (any_of HT_.out (by kernel_rfl)) (fun _ _ _ h => h) (Or.inl ⟨by rfl, ?_⟩) ?_ ?_
                rotate_left
                · intro w'
                  go_simp
                  with_reducible rfl
                rotate_left
                · simp only [Act.put, List.setIfInBounds_toArray, List.set_cons_zero, List.set_cons_succ, i64_w, i32_w]
                  rfl
                refine pure_ (i := 24) (N := some 84) (v := ?_) (a' := ?_) #[true, true, true, true, true, true, true, true, true, true, true, true, true, true, true, true, true, true, true, true, true, true, true, true, true, false, false, false, false, false, false] rfl rfl (any_of HT_.out (by kernel_rfl)) (fun _ _ _ h => h) (Or.inl ⟨by rfl, ?_⟩) ?_ ?_
                rotate_left
                · intro w'
                  go_simp
                  with_reducible rfl
                rotate_left
                · simp only [Act.put, List.setIfInBounds_toArray, List.set_cons_zero, List.set_cons_succ, i64_w, i32_w]
                  rfl
                refine take_ (i := 25) (N := some 85) (v := ?_) (a' := ?_) #[true, true, true, true, true, true, true, true, true, true, true, true, true, true, true, true, true, true, true, true, true, true, true, true, true, true, false, false, false, false, false] rfl rfl (take_ofW HT_.out HW_.out (by kernel_rfl)) (fun _ _ _ h => h) (Or.inl ⟨by rfl, ?_⟩) hHeld ?_ ?_
                rotate_left
                · rintro w' ⟨s0, s1, s2, s3, s4, s5, s6, s7, s8, s9, s10, s11, s12, s13, s14, s15, s16, s17, s18, s19, s20⟩
                  go_simp
                  with_reducible rfl
                rotate_left
                · simp only [Act.put, List.setIfInBounds_toArray, List.set_cons_zero, List.set_cons_succ, i64_w, i32_w]
                  rfl
                refine take_ (i := 27) (N := some 87) (v := ?_) (a' := ?_) #[true, true, true, true, true, true, true, true, true, true, true, true, true, true, true, true, true, true, true, true, true, true, true, true, true, true, false, true, false, false, false] rfl rfl (take_ofW HT_.out HW_.out (by kernel_rfl)) (fun _ _ _ h => h) (Or.inl ⟨by rfl, ?_⟩) hHeld ?_ ?_
                rotate_left
                · rintro w' ⟨s0, s1, s2, s3, s4, s5, s6, s7, s8, s9, s10, s11, s12, s13, s14, s15, s16, s17, s18, s19, s20⟩
                  go_simp
                  with_reducible rfl
                rotate_left
                · simp only [Act.put, List.setIfInBounds_toArray, List.set_cons_zero, List.set_cons_succ, i64_w, i32_w]
                  rfl
                refine one_ (i := 26) (N := some 86) #[true, true, true, true, true, true, true, true, true, true, true, true, true, true, true, true, true, true, true, true, true, true, true, true, true, true, true, true, false, false, false] rfl rfl (one_of HT_.out (by kernel_rfl)) (by decide) (fun K hK => ?_)
                refine goes_ Try.func17 (by kernel_rfl) rfl #[.agg #[.int .i64 t261, .int .i64 t262, .int .i64 t263]] (by rfl) rfl rfl (by (try simp only [List.map_toArray, List.map_cons, List.map_nil]); first | done | rfl | (simp only [List.length_drop, List.length_take]; rfl)) ?_
                with_reducible refine (impl_PaceOk.calls t261 t262 t263 t285 _ A88.out).mono ?_
                rintro e w93 ⟨rfl, hb⟩
                refine ⟨_, rfl, ?_⟩
                have n0_ := Aside0.mk (blk_below (g := gb247) (o := .cells #[.int .i64 t243, .int .i64 t244, .int .i64 t245] 25 (0, 0)) (by (with_reducible repeat (first | refine blk_drewN ?_ _ | refine blk_drew ?_ | refine blk_alloc ?_ _)); exact BK247.out) hb)
                have n1_ := Aside0.mk (blk_below (g := gb252) (o := .cells #[.int .i64 t248, .int .i64 t249, .int .i64 t250] 25 (0, 0)) (by (with_reducible repeat (first | refine blk_drewN ?_ _ | refine blk_drew ?_ | refine blk_alloc ?_ _)); exact BK252.out) hb)
                have n2_ := Aside0.mk (blk_below (g := gb257) (o := .cells #[.int .i64 t253, .int .i64 t254, .int .i64 t255] 25 (0, 0)) (by (with_reducible repeat (first | refine blk_drewN ?_ _ | refine blk_drew ?_ | refine blk_alloc ?_ _)); exact BK257.out) hb)
                have n3_ := Aside0.mk (blk_below (g := gb264) (o := .cells #[.int .i64 t258, .int .i64 t259, .int .i64 t260] 25 (0, 0)) (by (with_reducible repeat (first | refine blk_drewN ?_ _ | refine blk_drew ?_ | refine blk_alloc ?_ _)); exact BK264.out) hb)
                have n4_ := Aside0.mk (blk_below (g := gb265) (o := .cells #[.int .i64 t261, .int .i64 t262, .int .i64 t263] 25 (0, 0)) (by (with_reducible repeat (first | refine blk_drewN ?_ _ | refine blk_drew ?_ | refine blk_alloc ?_ _)); exact BK265.out) hb)
                have n5_ := Aside0.mk (blk_below (g := gb272) (o := .cells #[.int .i64 t268, .int .i64 t269, .int .i64 t270] 25 (0, 0)) (by (with_reducible repeat (first | refine blk_drewN ?_ _ | refine blk_drew ?_ | refine blk_alloc ?_ _)); exact BK272.out) hb)
                have n6_ := Aside0.mk (blk_below (g := gb277) (o := .cells #[.int .i64 t273, .int .i64 t274, .int .i64 t275] 25 (0, 0)) (by (with_reducible repeat (first | refine blk_drewN ?_ _ | refine blk_drew ?_ | refine blk_alloc ?_ _)); exact BK277.out) hb)
                have n7_ := Aside0.mk (blk_below (g := gb281) (o := .cells #[.int .i64 t278, .int .i64 t279, .int .i64 t280] 25 (0, 0)) (by (with_reducible repeat (first | refine blk_drewN ?_ _ | refine blk_drew ?_ | refine blk_alloc ?_ _)); exact BK281.out) hb)
                have n8_ := Aside0.mk (below_step (by repeat (first | (with_reducible first | exact HB.out | apply below_alloc | apply pw_below_drewN | apply below_drew1 | refine below_set ?_ GE247.out | refine below_set ?_ GE252.out | refine below_set ?_ GE257.out | refine below_set ?_ GE264.out | refine below_set ?_ GE265.out | refine below_set ?_ GE272.out | refine below_set ?_ GE277.out | refine below_set ?_ GE281.out) | exact HB.out)) hb)
                clear BK247
                clear BK252
                clear BK257
                clear BK264
                clear BK265
                clear BK272
                clear BK277
                clear BK281
                clear HB
                have BK247 := n0_
                have BK252 := n1_
                have BK257 := n2_
                have BK264 := n3_
                have BK265 := n4_
                have BK272 := n5_
                have BK277 := n6_
                have BK281 := n7_
                have HB := n8_
                clear n0_ n1_ n2_ n3_ n4_ n5_ n6_ n7_ n8_
                (try clear hb)
                (try clear hb2)
                (try clear hk)
                (try clear hi)
                refine hK.out _ _ ⟨(blk_cell BK252.out 0).trans rfl, (blk_cell BK252.out 1).trans rfl, (blk_cell BK252.out 2).trans rfl, (blk_cell BK257.out 0).trans rfl, (blk_cell BK257.out 1).trans rfl, (blk_cell BK257.out 2).trans rfl, (blk_cell BK281.out 0).trans rfl, (blk_cell BK281.out 1).trans rfl, (blk_cell BK281.out 2).trans rfl, (blk_cell BK264.out 0).trans rfl, (blk_cell BK264.out 1).trans rfl, (blk_cell BK264.out 2).trans rfl, (blk_cell BK272.out 0).trans rfl, (blk_cell BK272.out 1).trans rfl, (blk_cell BK272.out 2).trans rfl, (blk_cell BK277.out 0).trans rfl, (blk_cell BK277.out 1).trans rfl, (blk_cell BK277.out 2).trans rfl, (blk_cell BK265.out 0).trans rfl, (blk_cell BK265.out 1).trans rfl, (blk_cell BK265.out 2).trans rfl⟩ (fun hHeld => ?_)
                clear hK K
                refine norm_ (a' := ?_) ?_ ?_
                rotate_left
                · show Act.put _ (some 86) _ = _
                  simp only [Act.put, List.setIfInBounds_toArray, List.set_cons_zero, List.set_cons_succ, i64_w, i32_w]
                  rfl
                refine one_ (i := 28) (N := some 88) #[true, true, true, true, true, true, true, true, true, true, true, true, true, true, true, true, true, true, true, true, true, true, true, true, true, true, true, true, true, false, false] rfl rfl (one_of HT_.out (by kernel_rfl)) (by decide) (fun K hK => ?_)
                refine goes_ Try.func15 (by kernel_rfl) rfl #[.agg #[.int .i64 t261, .int .i64 t262, .int .i64 t263]] (by rfl) rfl rfl (by (try simp only [List.map_toArray, List.map_cons, List.map_nil]); first | done | rfl | (simp only [List.length_drop, List.length_take]; rfl)) ?_
                with_reducible refine (spec_PaceOk.calls t261 t262 t263 t286 _ A89.out).mono ?_
                rintro e w94 ⟨rfl, hb⟩
                refine ⟨_, rfl, ?_⟩
                have n0_ := Aside0.mk (blk_below (g := gb247) (o := .cells #[.int .i64 t243, .int .i64 t244, .int .i64 t245] 25 (0, 0)) (by (with_reducible repeat (first | refine blk_drewN ?_ _ | refine blk_drew ?_ | refine blk_alloc ?_ _)); exact BK247.out) hb)
                have n1_ := Aside0.mk (blk_below (g := gb252) (o := .cells #[.int .i64 t248, .int .i64 t249, .int .i64 t250] 25 (0, 0)) (by (with_reducible repeat (first | refine blk_drewN ?_ _ | refine blk_drew ?_ | refine blk_alloc ?_ _)); exact BK252.out) hb)
                have n2_ := Aside0.mk (blk_below (g := gb257) (o := .cells #[.int .i64 t253, .int .i64 t254, .int .i64 t255] 25 (0, 0)) (by (with_reducible repeat (first | refine blk_drewN ?_ _ | refine blk_drew ?_ | refine blk_alloc ?_ _)); exact BK257.out) hb)
                have n3_ := Aside0.mk (blk_below (g := gb264) (o := .cells #[.int .i64 t258, .int .i64 t259, .int .i64 t260] 25 (0, 0)) (by (with_reducible repeat (first | refine blk_drewN ?_ _ | refine blk_drew ?_ | refine blk_alloc ?_ _)); exact BK264.out) hb)
                have n4_ := Aside0.mk (blk_below (g := gb265) (o := .cells #[.int .i64 t261, .int .i64 t262, .int .i64 t263] 25 (0, 0)) (by (with_reducible repeat (first | refine blk_drewN ?_ _ | refine blk_drew ?_ | refine blk_alloc ?_ _)); exact BK265.out) hb)
                have n5_ := Aside0.mk (blk_below (g := gb272) (o := .cells #[.int .i64 t268, .int .i64 t269, .int .i64 t270] 25 (0, 0)) (by (with_reducible repeat (first | refine blk_drewN ?_ _ | refine blk_drew ?_ | refine blk_alloc ?_ _)); exact BK272.out) hb)
                have n6_ := Aside0.mk (blk_below (g := gb277) (o := .cells #[.int .i64 t273, .int .i64 t274, .int .i64 t275] 25 (0, 0)) (by (with_reducible repeat (first | refine blk_drewN ?_ _ | refine blk_drew ?_ | refine blk_alloc ?_ _)); exact BK277.out) hb)
                have n7_ := Aside0.mk (blk_below (g := gb281) (o := .cells #[.int .i64 t278, .int .i64 t279, .int .i64 t280] 25 (0, 0)) (by (with_reducible repeat (first | refine blk_drewN ?_ _ | refine blk_drew ?_ | refine blk_alloc ?_ _)); exact BK281.out) hb)
                have n8_ := Aside0.mk (below_step (by repeat (first | (with_reducible first | exact HB.out | apply below_alloc | apply pw_below_drewN | apply below_drew1 | refine below_set ?_ GE247.out | refine below_set ?_ GE252.out | refine below_set ?_ GE257.out | refine below_set ?_ GE264.out | refine below_set ?_ GE265.out | refine below_set ?_ GE272.out | refine below_set ?_ GE277.out | refine below_set ?_ GE281.out) | exact HB.out)) hb)
                clear BK247
                clear BK252
                clear BK257
                clear BK264
                clear BK265
                clear BK272
                clear BK277
                clear BK281
                clear HB
                have BK247 := n0_
                have BK252 := n1_
                have BK257 := n2_
                have BK264 := n3_
                have BK265 := n4_
                have BK272 := n5_
                have BK277 := n6_
                have BK281 := n7_
                have HB := n8_
                clear n0_ n1_ n2_ n3_ n4_ n5_ n6_ n7_ n8_
                (try clear hb)
                (try clear hb2)
                (try clear hk)
                (try clear hi)
                refine hK.out _ _ ⟨(blk_cell BK252.out 0).trans rfl, (blk_cell BK252.out 1).trans rfl, (blk_cell BK252.out 2).trans rfl, (blk_cell BK257.out 0).trans rfl, (blk_cell BK257.out 1).trans rfl, (blk_cell BK257.out 2).trans rfl, (blk_cell BK281.out 0).trans rfl, (blk_cell BK281.out 1).trans rfl, (blk_cell BK281.out 2).trans rfl, (blk_cell BK264.out 0).trans rfl, (blk_cell BK264.out 1).trans rfl, (blk_cell BK264.out 2).trans rfl, (blk_cell BK272.out 0).trans rfl, (blk_cell BK272.out 1).trans rfl, (blk_cell BK272.out 2).trans rfl, (blk_cell BK277.out 0).trans rfl, (blk_cell BK277.out 1).trans rfl, (blk_cell BK277.out 2).trans rfl, (blk_cell BK265.out 0).trans rfl, (blk_cell BK265.out 1).trans rfl, (blk_cell BK265.out 2).trans rfl⟩ (fun hHeld => ?_)
                clear hK K
                refine norm_ (a' := ?_) ?_ ?_
                rotate_left
                · show Act.put _ (some 88) _ = _
                  simp only [Act.put, List.setIfInBounds_toArray, List.set_cons_zero, List.set_cons_succ, i64_w, i32_w]
                  rfl
                refine pure_ (i := 29) (N := some 89) (v := ?_) (a' := ?_) #[true, true, true, true, true, true, true, true, true, true, true, true, true, true, true, true, true, true, true, true, true, true, true, true, true, true, true, true, true, true, false] rfl rfl (any_of HT_.out (by kernel_rfl)) (fun _ _ _ h => h) (Or.inl ⟨by rfl, ?_⟩) ?_ ?_
                rotate_left
                · intro w'
                  go_simp
                  with_reducible rfl
                rotate_left
                · simp only [Act.put, List.setIfInBounds_toArray, List.set_cons_zero, List.set_cons_succ, i64_w, i32_w]
                  rfl
                refine pure_ (i := 30) (N := some 90) (v := ?_) (a' := ?_) #[true, true, true, true, true, true, true, true, true, true, true, true, true, true, true, true, true, true, true, true, true, true, true, true, true, true, true, true, true, true, true] rfl rfl (any_of HT_.out (by kernel_rfl)) (fun _ _ _ h => h) (Or.inl ⟨by rfl, ?_⟩) ?_ ?_
                rotate_left
                · intro w'
                  go_simp
                  with_reducible rfl
                rotate_left
                · simp only [Act.put, List.setIfInBounds_toArray, List.set_cons_zero, List.set_cons_succ, i64_w, i32_w]
                  rfl
                refine done_ (done_of HT_.out (by kernel_rfl)) ?_
                try go_wp2
                go_meet
                case rel => exact ⟨_, ((t285 != t286)), (by first | rfl | (simp; done) | (simp [*]; done)), H', ⟨by first | omega | exact Nat.le_refl _⟩, ⟨by (with_reducible repeat (first | refine blk_drewN ?_ _ | refine blk_drew ?_ | refine blk_alloc ?_ _)); exact BK247.out⟩, ⟨by (with_reducible repeat (first | refine blk_drewN ?_ _ | refine blk_drew ?_ | refine blk_alloc ?_ _)); exact BK252.out⟩, ⟨by (with_reducible repeat (first | refine blk_drewN ?_ _ | refine blk_drew ?_ | refine blk_alloc ?_ _)); exact BK257.out⟩, ⟨by (with_reducible repeat (first | refine blk_drewN ?_ _ | refine blk_drew ?_ | refine blk_alloc ?_ _)); exact BK264.out⟩, ⟨by (with_reducible repeat (first | refine blk_drewN ?_ _ | refine blk_drew ?_ | refine blk_alloc ?_ _)); exact BK265.out⟩, ⟨by (with_reducible repeat (first | refine blk_drewN ?_ _ | refine blk_drew ?_ | refine blk_alloc ?_ _)); exact BK272.out⟩, ⟨by (with_reducible repeat (first | refine blk_drewN ?_ _ | refine blk_drew ?_ | refine blk_alloc ?_ _)); exact BK277.out⟩, ⟨by (with_reducible repeat (first | refine blk_drewN ?_ _ | refine blk_drew ?_ | refine blk_alloc ?_ _)); exact BK281.out⟩, ⟨by repeat (first | (with_reducible first | exact HB.out | apply below_alloc | apply pw_below_drewN | apply below_drew1 | refine below_set ?_ GE247.out | refine below_set ?_ GE252.out | refine below_set ?_ GE257.out | refine below_set ?_ GE264.out | refine below_set ?_ GE265.out | refine below_set ?_ GE272.out | refine below_set ?_ GE277.out | refine below_set ?_ GE281.out) | exact HB.out)⟩⟩
    case rest =>
      clear HC13
      try clear c1
      try clear c2
      try clear p2
      try clear c8
      try clear c15
      try clear c17
      try clear c23
      try clear c84
      try clear c84b0
      try clear c84b1
      try clear c84b2
      obtain ⟨kq, x90_12, rfl, HA, HJ12, BK247, BK252, BK257, BK264, BK265, BK272, BK277, BK281, HB⟩ := hcut
      cases kq with
      | zero => exact absurd HA.out (by simp [laws_FnPaces.j0])
      | succ kj12 =>
        have H := HA.out
        clear HA
        simp only [laws_FnPaces.j0] at H
        by_cases c95 : x90_12 = true
        · subst c95
          have H1 : (some false) = some r := by rw [if_pos rfl] at H; exact H
          exact absurd (H1.trans (congrArg some hrt)) (by simp)
        · replace c95 := Bool.eq_false_iff.mpr c95
          subst c95
          have H1 : ((impl_PaceOk.f t258 t259 t260).bind fun t287 => (if t287 = true then ((impl_PaceOk.f t278 t279 t280).bind fun t288 => (if t288 = true then (if t278 < t258 then (laws_FnPaces.j1 kj12 t246 t251 true t243 t244 t245 t248 t249 t250) else (if t278 > t259 then (laws_FnPaces.j1 kj12 t246 t251 true t243 t244 t245 t248 t249 t250) else ((impl_PaceOk.f t258 t259 t260).bind fun t289 => (if t289 = true then (if t271 = true then ((impl_PaceOk.f t268 t269 t270).bind fun t290 => (if t290 = true then (laws_FnPaces.j1 kj12 t246 t251 (t268 != t266) t243 t244 t245 t248 t249 t250) else (laws_FnPaces.j1 kj12 t246 t251 true t243 t244 t245 t248 t249 t250))) else (laws_FnPaces.j1 kj12 t246 t251 false t243 t244 t245 t248 t249 t250)) else (if (!(t278 == t258) || (!(t279 == t259) || (!(t280 == t260)))) = true then (laws_FnPaces.j1 kj12 t246 t251 true t243 t244 t245 t248 t249 t250) else (if t271 = true then ((impl_PaceOk.f t268 t269 t270).bind fun t291 => (if t291 = true then (laws_FnPaces.j1 kj12 t246 t251 (t268 != t266) t243 t244 t245 t248 t249 t250) else (laws_FnPaces.j1 kj12 t246 t251 true t243 t244 t245 t248 t249 t250))) else (laws_FnPaces.j1 kj12 t246 t251 false t243 t244 t245 t248 t249 t250))))))) else (laws_FnPaces.j1 kj12 t246 t251 true t243 t244 t245 t248 t249 t250))) else ((impl_PaceOk.f t258 t259 t260).bind fun t292 => (if t292 = true then (if t271 = true then ((impl_PaceOk.f t268 t269 t270).bind fun t293 => (if t293 = true then (laws_FnPaces.j1 kj12 t246 t251 (t268 != t266) t243 t244 t245 t248 t249 t250) else (laws_FnPaces.j1 kj12 t246 t251 true t243 t244 t245 t248 t249 t250))) else (laws_FnPaces.j1 kj12 t246 t251 false t243 t244 t245 t248 t249 t250)) else (if (!(t278 == t258) || (!(t279 == t259) || (!(t280 == t260)))) = true then (laws_FnPaces.j1 kj12 t246 t251 true t243 t244 t245 t248 t249 t250) else (if t271 = true then ((impl_PaceOk.f t268 t269 t270).bind fun t294 => (if t294 = true then (laws_FnPaces.j1 kj12 t246 t251 (t268 != t266) t243 t244 t245 t248 t249 t250) else (laws_FnPaces.j1 kj12 t246 t251 true t243 t244 t245 t248 t249 t250))) else (laws_FnPaces.j1 kj12 t246 t251 false t243 t244 t245 t248 t249 t250))))))) = some r := by rw [if_neg (show ¬ (false = true) by decide)] at H; exact H
          clear H
          have H := H1
          clear H1
          have HC96 := Aside0.mk H
          clear H
          go_upto_region 13 with (fail)
          go_cut [135] (fun v135 wc => ∃ (kq : Nat) (x135_95 : Bool), v135 = .bool x135_95 ∧ Aside0 (laws_FnPaces.j1 kq t246 t251 x135_95 t243 t244 t245 t248 t249 t250 = some r) ∧ Aside0 (kq ≤ kj12) ∧ Aside0 (wc.heap[gb247]? = some (.cells #[.int .i64 t243, .int .i64 t244, .int .i64 t245] 25 (0, 0))) ∧ Aside0 (wc.heap[gb252]? = some (.cells #[.int .i64 t248, .int .i64 t249, .int .i64 t250] 25 (0, 0))) ∧ Aside0 (wc.heap[gb257]? = some (.cells #[.int .i64 t253, .int .i64 t254, .int .i64 t255] 25 (0, 0))) ∧ Aside0 (wc.heap[gb264]? = some (.cells #[.int .i64 t258, .int .i64 t259, .int .i64 t260] 25 (0, 0))) ∧ Aside0 (wc.heap[gb265]? = some (.cells #[.int .i64 t261, .int .i64 t262, .int .i64 t263] 25 (0, 0))) ∧ Aside0 (wc.heap[gb272]? = some (.cells #[.int .i64 t268, .int .i64 t269, .int .i64 t270] 25 (0, 0))) ∧ Aside0 (wc.heap[gb277]? = some (.cells #[.int .i64 t273, .int .i64 t274, .int .i64 t275] 25 (0, 0))) ∧ Aside0 (wc.heap[gb281]? = some (.cells #[.int .i64 t278, .int .i64 t279, .int .i64 t280] 25 (0, 0))) ∧ Aside0 (Below w.heap.size w wc))
          case first =>
            have H := HC96.out
            clear HC96
            replace H := Option.bind_eq_some_iff.mp H
            obtain ⟨t287, A970, H⟩ := H
            replace H : (if t287 = true then ((impl_PaceOk.f t278 t279 t280).bind fun t288 => (if t288 = true then (if t278 < t258 then (laws_FnPaces.j1 kj12 t246 t251 true t243 t244 t245 t248 t249 t250) else (if t278 > t259 then (laws_FnPaces.j1 kj12 t246 t251 true t243 t244 t245 t248 t249 t250) else ((impl_PaceOk.f t258 t259 t260).bind fun t289 => (if t289 = true then (if t271 = true then ((impl_PaceOk.f t268 t269 t270).bind fun t290 => (if t290 = true then (laws_FnPaces.j1 kj12 t246 t251 (t268 != t266) t243 t244 t245 t248 t249 t250) else (laws_FnPaces.j1 kj12 t246 t251 true t243 t244 t245 t248 t249 t250))) else (laws_FnPaces.j1 kj12 t246 t251 false t243 t244 t245 t248 t249 t250)) else (if (!(t278 == t258) || (!(t279 == t259) || (!(t280 == t260)))) = true then (laws_FnPaces.j1 kj12 t246 t251 true t243 t244 t245 t248 t249 t250) else (if t271 = true then ((impl_PaceOk.f t268 t269 t270).bind fun t291 => (if t291 = true then (laws_FnPaces.j1 kj12 t246 t251 (t268 != t266) t243 t244 t245 t248 t249 t250) else (laws_FnPaces.j1 kj12 t246 t251 true t243 t244 t245 t248 t249 t250))) else (laws_FnPaces.j1 kj12 t246 t251 false t243 t244 t245 t248 t249 t250))))))) else (laws_FnPaces.j1 kj12 t246 t251 true t243 t244 t245 t248 t249 t250))) else ((impl_PaceOk.f t258 t259 t260).bind fun t292 => (if t292 = true then (if t271 = true then ((impl_PaceOk.f t268 t269 t270).bind fun t293 => (if t293 = true then (laws_FnPaces.j1 kj12 t246 t251 (t268 != t266) t243 t244 t245 t248 t249 t250) else (laws_FnPaces.j1 kj12 t246 t251 true t243 t244 t245 t248 t249 t250))) else (laws_FnPaces.j1 kj12 t246 t251 false t243 t244 t245 t248 t249 t250)) else (if (!(t278 == t258) || (!(t279 == t259) || (!(t280 == t260)))) = true then (laws_FnPaces.j1 kj12 t246 t251 true t243 t244 t245 t248 t249 t250) else (if t271 = true then ((impl_PaceOk.f t268 t269 t270).bind fun t294 => (if t294 = true then (laws_FnPaces.j1 kj12 t246 t251 (t268 != t266) t243 t244 t245 t248 t249 t250) else (laws_FnPaces.j1 kj12 t246 t251 true t243 t244 t245 t248 t249 t250))) else (laws_FnPaces.j1 kj12 t246 t251 false t243 t244 t245 t248 t249 t250)))))) = some r := H
            have A97 := Aside0.mk A970
            clear A970
            by_cases c98 : t287 = true
            · subst c98
              have H1 : ((impl_PaceOk.f t278 t279 t280).bind fun t288 => (if t288 = true then (if t278 < t258 then (laws_FnPaces.j1 kj12 t246 t251 true t243 t244 t245 t248 t249 t250) else (if t278 > t259 then (laws_FnPaces.j1 kj12 t246 t251 true t243 t244 t245 t248 t249 t250) else ((impl_PaceOk.f t258 t259 t260).bind fun t289 => (if t289 = true then (if t271 = true then ((impl_PaceOk.f t268 t269 t270).bind fun t290 => (if t290 = true then (laws_FnPaces.j1 kj12 t246 t251 (t268 != t266) t243 t244 t245 t248 t249 t250) else (laws_FnPaces.j1 kj12 t246 t251 true t243 t244 t245 t248 t249 t250))) else (laws_FnPaces.j1 kj12 t246 t251 false t243 t244 t245 t248 t249 t250)) else (if (!(t278 == t258) || (!(t279 == t259) || (!(t280 == t260)))) = true then (laws_FnPaces.j1 kj12 t246 t251 true t243 t244 t245 t248 t249 t250) else (if t271 = true then ((impl_PaceOk.f t268 t269 t270).bind fun t291 => (if t291 = true then (laws_FnPaces.j1 kj12 t246 t251 (t268 != t266) t243 t244 t245 t248 t249 t250) else (laws_FnPaces.j1 kj12 t246 t251 true t243 t244 t245 t248 t249 t250))) else (laws_FnPaces.j1 kj12 t246 t251 false t243 t244 t245 t248 t249 t250))))))) else (laws_FnPaces.j1 kj12 t246 t251 true t243 t244 t245 t248 t249 t250))) = some r := by rw [if_pos rfl] at H; exact H
              clear H
              have H := H1
              clear H1
              replace H := Option.bind_eq_some_iff.mp H
              obtain ⟨t288, A990, H⟩ := H
              replace H : (if t288 = true then (if t278 < t258 then (laws_FnPaces.j1 kj12 t246 t251 true t243 t244 t245 t248 t249 t250) else (if t278 > t259 then (laws_FnPaces.j1 kj12 t246 t251 true t243 t244 t245 t248 t249 t250) else ((impl_PaceOk.f t258 t259 t260).bind fun t289 => (if t289 = true then (if t271 = true then ((impl_PaceOk.f t268 t269 t270).bind fun t290 => (if t290 = true then (laws_FnPaces.j1 kj12 t246 t251 (t268 != t266) t243 t244 t245 t248 t249 t250) else (laws_FnPaces.j1 kj12 t246 t251 true t243 t244 t245 t248 t249 t250))) else (laws_FnPaces.j1 kj12 t246 t251 false t243 t244 t245 t248 t249 t250)) else (if (!(t278 == t258) || (!(t279 == t259) || (!(t280 == t260)))) = true then (laws_FnPaces.j1 kj12 t246 t251 true t243 t244 t245 t248 t249 t250) else (if t271 = true then ((impl_PaceOk.f t268 t269 t270).bind fun t291 => (if t291 = true then (laws_FnPaces.j1 kj12 t246 t251 (t268 != t266) t243 t244 t245 t248 t249 t250) else (laws_FnPaces.j1 kj12 t246 t251 true t243 t244 t245 t248 t249 t250))) else (laws_FnPaces.j1 kj12 t246 t251 false t243 t244 t245 t248 t249 t250))))))) else (laws_FnPaces.j1 kj12 t246 t251 true t243 t244 t245 t248 t249 t250)) = some r := H
              have A99 := Aside0.mk A990
              clear A990
              by_cases c100 : t288 = true
              · subst c100
                have H1 : (if t278 < t258 then (laws_FnPaces.j1 kj12 t246 t251 true t243 t244 t245 t248 t249 t250) else (if t278 > t259 then (laws_FnPaces.j1 kj12 t246 t251 true t243 t244 t245 t248 t249 t250) else ((impl_PaceOk.f t258 t259 t260).bind fun t289 => (if t289 = true then (if t271 = true then ((impl_PaceOk.f t268 t269 t270).bind fun t290 => (if t290 = true then (laws_FnPaces.j1 kj12 t246 t251 (t268 != t266) t243 t244 t245 t248 t249 t250) else (laws_FnPaces.j1 kj12 t246 t251 true t243 t244 t245 t248 t249 t250))) else (laws_FnPaces.j1 kj12 t246 t251 false t243 t244 t245 t248 t249 t250)) else (if (!(t278 == t258) || (!(t279 == t259) || (!(t280 == t260)))) = true then (laws_FnPaces.j1 kj12 t246 t251 true t243 t244 t245 t248 t249 t250) else (if t271 = true then ((impl_PaceOk.f t268 t269 t270).bind fun t291 => (if t291 = true then (laws_FnPaces.j1 kj12 t246 t251 (t268 != t266) t243 t244 t245 t248 t249 t250) else (laws_FnPaces.j1 kj12 t246 t251 true t243 t244 t245 t248 t249 t250))) else (laws_FnPaces.j1 kj12 t246 t251 false t243 t244 t245 t248 t249 t250))))))) = some r := by rw [if_pos rfl] at H; exact H
                clear H
                have H := H1
                clear H1
                by_cases c101 : t278 < t258
                · rw [if_pos c101] at H
                  exact absurd (H.trans (congrArg some hrt)) (j1t _ _ _ _ _ _ _ _ _)
                · rw [if_neg c101] at H
                  have c101b0 : decide (t278 < t258) = false := decide_eq_false c101
                  clear c101
                  (first | rw [c101b0] | (simp only [i64_w, i32_w]; rw [c101b0]) | skip)
                  by_cases c121 : t278 > t259
                  · rw [if_pos c121] at H
                    exact absurd (H.trans (congrArg some hrt)) (j1t _ _ _ _ _ _ _ _ _)
                  · rw [if_neg c121] at H
                    have c121b0 : decide (t259 < t278) = false := decide_eq_false c121
                    clear c121
                    replace H := Option.bind_eq_some_iff.mp H
                    obtain ⟨t289, A1410, H⟩ := H
                    replace H : (if t289 = true then (if t271 = true then ((impl_PaceOk.f t268 t269 t270).bind fun t290 => (if t290 = true then (laws_FnPaces.j1 kj12 t246 t251 (t268 != t266) t243 t244 t245 t248 t249 t250) else (laws_FnPaces.j1 kj12 t246 t251 true t243 t244 t245 t248 t249 t250))) else (laws_FnPaces.j1 kj12 t246 t251 false t243 t244 t245 t248 t249 t250)) else (if (!(t278 == t258) || (!(t279 == t259) || (!(t280 == t260)))) = true then (laws_FnPaces.j1 kj12 t246 t251 true t243 t244 t245 t248 t249 t250) else (if t271 = true then ((impl_PaceOk.f t268 t269 t270).bind fun t291 => (if t291 = true then (laws_FnPaces.j1 kj12 t246 t251 (t268 != t266) t243 t244 t245 t248 t249 t250) else (laws_FnPaces.j1 kj12 t246 t251 true t243 t244 t245 t248 t249 t250))) else (laws_FnPaces.j1 kj12 t246 t251 false t243 t244 t245 t248 t249 t250)))) = some r := H
                    have A141 := Aside0.mk A1410
                    clear A1410
                    by_cases c142 : t289 = true
                    · subst c142
                      have H1 : (if t271 = true then ((impl_PaceOk.f t268 t269 t270).bind fun t290 => (if t290 = true then (laws_FnPaces.j1 kj12 t246 t251 (t268 != t266) t243 t244 t245 t248 t249 t250) else (laws_FnPaces.j1 kj12 t246 t251 true t243 t244 t245 t248 t249 t250))) else (laws_FnPaces.j1 kj12 t246 t251 false t243 t244 t245 t248 t249 t250)) = some r := by rw [if_pos rfl] at H; exact H
                      clear H
                      have H := H1
                      clear H1
                      by_cases c143 : t271 = true
                      · subst c143
                        have H1 : ((impl_PaceOk.f t268 t269 t270).bind fun t290 => (if t290 = true then (laws_FnPaces.j1 kj12 t246 t251 (t268 != t266) t243 t244 t245 t248 t249 t250) else (laws_FnPaces.j1 kj12 t246 t251 true t243 t244 t245 t248 t249 t250))) = some r := by rw [if_pos rfl] at H; exact H
                        clear H
                        have H := H1
                        clear H1
                        replace H := Option.bind_eq_some_iff.mp H
                        obtain ⟨t290, A1440, H⟩ := H
                        replace H : (if t290 = true then (laws_FnPaces.j1 kj12 t246 t251 (t268 != t266) t243 t244 t245 t248 t249 t250) else (laws_FnPaces.j1 kj12 t246 t251 true t243 t244 t245 t248 t249 t250)) = some r := H
                        have A144 := Aside0.mk A1440
                        clear A1440
                        by_cases c145 : t290 = true
                        · subst c145
                          have H1 : (laws_FnPaces.j1 kj12 t246 t251 (t268 != t266) t243 t244 t245 t248 t249 t250) = some r := by rw [if_pos rfl] at H; exact H
                          clear H
                          have H := H1
                          clear H1
                          have H' := Aside0.mk H
                          clear H
                          have hnb146 := NB264_247.out
                          have hnc146 := NB247_264.out
                          have hnb147 := NB264_252.out
                          have hnc147 := NB252_264.out
                          have hnb148 := NB264_257.out
                          have hnc148 := NB257_264.out
                          have hnb149 := NB264_265.out
                          have hnc149 := NB265_264.out
                          have hnb150 := NB264_272.out
                          have hnc150 := NB272_264.out
                          have hnb151 := NB264_277.out
                          have hnc151 := NB277_264.out
                          have hnb152 := NB264_281.out
                          have hnc152 := NB281_264.out
                          have hcz153_0 : wc.cell? ⟨gb264, 0, none⟩ = some (.int .i64 t258) := (blk_cell BK264.out 0).trans rfl
                          have hcz153_1 : wc.cell? ⟨gb264, 1, none⟩ = some (.int .i64 t259) := (blk_cell BK264.out 1).trans rfl
                          have hcz153_2 : wc.cell? ⟨gb264, 2, none⟩ = some (.int .i64 t260) := (blk_cell BK264.out 2).trans rfl
                          have hfz153_0 := blk_frozen BK264.out 0
                          have hfz153_1 := blk_frozen BK264.out 1
                          have hfz153_2 := blk_frozen BK264.out 2
                          go_wp2_with (first | ((with_reducible refine gate_callee (f := 17) rfl ?_); refine goesL_ (some 92) rfl rfl Try.func17 (by kernel_rfl) rfl #[.agg #[.int .i64 t258, .int .i64 t259, .int .i64 t260]] rfl (by (try simp only [List.map_toArray, List.map_cons, List.map_nil]); first | done | rfl | (simp only [List.length_drop, List.length_take]; rfl)) ?_; (with_reducible refine (impl_PaceOk.calls t258 t259 t260 true _ A97.out).mono ?_); rintro e w154 ⟨rfl, hb⟩; refine ⟨_, rfl, ?_⟩; have n0_ := Aside0.mk (blk_below (g := gb247) (o := .cells #[.int .i64 t243, .int .i64 t244, .int .i64 t245] 25 (0, 0)) (by (with_reducible repeat (first | refine blk_drewN ?_ _ | refine blk_drew ?_ | refine blk_alloc ?_ _)); exact BK247.out) hb); have n1_ := Aside0.mk (blk_below (g := gb252) (o := .cells #[.int .i64 t248, .int .i64 t249, .int .i64 t250] 25 (0, 0)) (by (with_reducible repeat (first | refine blk_drewN ?_ _ | refine blk_drew ?_ | refine blk_alloc ?_ _)); exact BK252.out) hb); have n2_ := Aside0.mk (blk_below (g := gb257) (o := .cells #[.int .i64 t253, .int .i64 t254, .int .i64 t255] 25 (0, 0)) (by (with_reducible repeat (first | refine blk_drewN ?_ _ | refine blk_drew ?_ | refine blk_alloc ?_ _)); exact BK257.out) hb); have n3_ := Aside0.mk (blk_below (g := gb264) (o := .cells #[.int .i64 t258, .int .i64 t259, .int .i64 t260] 25 (0, 0)) (by (with_reducible repeat (first | refine blk_drewN ?_ _ | refine blk_drew ?_ | refine blk_alloc ?_ _)); exact BK264.out) hb); have n4_ := Aside0.mk (blk_below (g := gb265) (o := .cells #[.int .i64 t261, .int .i64 t262, .int .i64 t263] 25 (0, 0)) (by (with_reducible repeat (first | refine blk_drewN ?_ _ | refine blk_drew ?_ | refine blk_alloc ?_ _)); exact BK265.out) hb); have n5_ := Aside0.mk (blk_below (g := gb272) (o := .cells #[.int .i64 t268, .int .i64 t269, .int .i64 t270] 25 (0, 0)) (by (with_reducible repeat (first | refine blk_drewN ?_ _ | refine blk_drew ?_ | refine blk_alloc ?_ _)); exact BK272.out) hb); have n6_ := Aside0.mk (blk_below (g := gb277) (o := .cells #[.int .i64 t273, .int .i64 t274, .int .i64 t275] 25 (0, 0)) (by (with_reducible repeat (first | refine blk_drewN ?_ _ | refine blk_drew ?_ | refine blk_alloc ?_ _)); exact BK277.out) hb); have n7_ := Aside0.mk (blk_below (g := gb281) (o := .cells #[.int .i64 t278, .int .i64 t279, .int .i64 t280] 25 (0, 0)) (by (with_reducible repeat (first | refine blk_drewN ?_ _ | refine blk_drew ?_ | refine blk_alloc ?_ _)); exact BK281.out) hb); have n8_ := Aside0.mk (below_step (by repeat (first | (with_reducible first | exact HB.out | apply below_alloc | apply pw_below_drewN | apply below_drew1 | refine below_set ?_ GE247.out | refine below_set ?_ GE252.out | refine below_set ?_ GE257.out | refine below_set ?_ GE264.out | refine below_set ?_ GE265.out | refine below_set ?_ GE272.out | refine below_set ?_ GE277.out | refine below_set ?_ GE281.out) | exact HB.out)) hb); clear BK247; clear BK252; clear BK257; clear BK264; clear BK265; clear BK272; clear BK277; clear BK281; clear HB; have BK247 := n0_; have BK252 := n1_; have BK257 := n2_; have BK264 := n3_; have BK265 := n4_; have BK272 := n5_; have BK277 := n6_; have BK281 := n7_; have HB := n8_; clear n0_ n1_ n2_ n3_ n4_ n5_ n6_ n7_ n8_; (try clear hb); (try clear hb2); (try clear hk); (try clear hi); have hnb155 := NB281_247.out; have hnc155 := NB247_281.out; have hnb156 := NB281_252.out; have hnc156 := NB252_281.out; have hnb157 := NB281_257.out; have hnc157 := NB257_281.out; have hnb158 := NB281_265.out; have hnc158 := NB265_281.out; have hnb159 := NB281_272.out; have hnc159 := NB272_281.out; have hnb160 := NB281_277.out; have hnc160 := NB277_281.out; have hcz161_0 : w154.cell? ⟨gb281, 0, none⟩ = some (.int .i64 t278) := (blk_cell BK281.out 0).trans rfl; have hcz161_1 : w154.cell? ⟨gb281, 1, none⟩ = some (.int .i64 t279) := (blk_cell BK281.out 1).trans rfl; have hcz161_2 : w154.cell? ⟨gb281, 2, none⟩ = some (.int .i64 t280) := (blk_cell BK281.out 2).trans rfl; have hfz161_0 := blk_frozen BK281.out 0; have hfz161_1 := blk_frozen BK281.out 1; have hfz161_2 := blk_frozen BK281.out 2) | (go_at_call 17; (with_reducible refine (impl_PaceOk.calls t278 t279 t280 true _ A99.out).mono ?_); rintro e w162 ⟨rfl, hb⟩; have n0_ := Aside0.mk (blk_below (g := gb247) (o := .cells #[.int .i64 t243, .int .i64 t244, .int .i64 t245] 25 (0, 0)) (by (with_reducible repeat (first | refine blk_drewN ?_ _ | refine blk_drew ?_ | refine blk_alloc ?_ _)); exact BK247.out) hb); have n1_ := Aside0.mk (blk_below (g := gb252) (o := .cells #[.int .i64 t248, .int .i64 t249, .int .i64 t250] 25 (0, 0)) (by (with_reducible repeat (first | refine blk_drewN ?_ _ | refine blk_drew ?_ | refine blk_alloc ?_ _)); exact BK252.out) hb); have n2_ := Aside0.mk (blk_below (g := gb257) (o := .cells #[.int .i64 t253, .int .i64 t254, .int .i64 t255] 25 (0, 0)) (by (with_reducible repeat (first | refine blk_drewN ?_ _ | refine blk_drew ?_ | refine blk_alloc ?_ _)); exact BK257.out) hb); have n3_ := Aside0.mk (blk_below (g := gb264) (o := .cells #[.int .i64 t258, .int .i64 t259, .int .i64 t260] 25 (0, 0)) (by (with_reducible repeat (first | refine blk_drewN ?_ _ | refine blk_drew ?_ | refine blk_alloc ?_ _)); exact BK264.out) hb); have n4_ := Aside0.mk (blk_below (g := gb265) (o := .cells #[.int .i64 t261, .int .i64 t262, .int .i64 t263] 25 (0, 0)) (by (with_reducible repeat (first | refine blk_drewN ?_ _ | refine blk_drew ?_ | refine blk_alloc ?_ _)); exact BK265.out) hb); have n5_ := Aside0.mk (blk_below (g := gb272) (o := .cells #[.int .i64 t268, .int .i64 t269, .int .i64 t270] 25 (0, 0)) (by (with_reducible repeat (first | refine blk_drewN ?_ _ | refine blk_drew ?_ | refine blk_alloc ?_ _)); exact BK272.out) hb); have n6_ := Aside0.mk (blk_below (g := gb277) (o := .cells #[.int .i64 t273, .int .i64 t274, .int .i64 t275] 25 (0, 0)) (by (with_reducible repeat (first | refine blk_drewN ?_ _ | refine blk_drew ?_ | refine blk_alloc ?_ _)); exact BK277.out) hb); have n7_ := Aside0.mk (blk_below (g := gb281) (o := .cells #[.int .i64 t278, .int .i64 t279, .int .i64 t280] 25 (0, 0)) (by (with_reducible repeat (first | refine blk_drewN ?_ _ | refine blk_drew ?_ | refine blk_alloc ?_ _)); exact BK281.out) hb); have n8_ := Aside0.mk (below_step (by repeat (first | (with_reducible first | exact HB.out | apply below_alloc | apply pw_below_drewN | apply below_drew1 | refine below_set ?_ GE247.out | refine below_set ?_ GE252.out | refine below_set ?_ GE257.out | refine below_set ?_ GE264.out | refine below_set ?_ GE265.out | refine below_set ?_ GE272.out | refine below_set ?_ GE277.out | refine below_set ?_ GE281.out) | exact HB.out)) hb); clear BK247; clear BK252; clear BK257; clear BK264; clear BK265; clear BK272; clear BK277; clear BK281; clear HB; have BK247 := n0_; have BK252 := n1_; have BK257 := n2_; have BK264 := n3_; have BK265 := n4_; have BK272 := n5_; have BK277 := n6_; have BK281 := n7_; have HB := n8_; clear n0_ n1_ n2_ n3_ n4_ n5_ n6_ n7_ n8_; (try clear hb); (try clear hb2); (try clear hk); (try clear hi); have hcz163_0 : w162.cell? ⟨gb281, 0, none⟩ = some (.int .i64 t278) := (blk_cell BK281.out 0).trans rfl; have hcz163_1 : w162.cell? ⟨gb281, 1, none⟩ = some (.int .i64 t279) := (blk_cell BK281.out 1).trans rfl; have hcz163_2 : w162.cell? ⟨gb281, 2, none⟩ = some (.int .i64 t280) := (blk_cell BK281.out 2).trans rfl; have hfz163_0 := blk_frozen BK281.out 0; have hfz163_1 := blk_frozen BK281.out 1; have hfz163_2 := blk_frozen BK281.out 2; have hcz164_0 : w162.cell? ⟨gb264, 0, none⟩ = some (.int .i64 t258) := (blk_cell BK264.out 0).trans rfl; have hcz164_1 : w162.cell? ⟨gb264, 1, none⟩ = some (.int .i64 t259) := (blk_cell BK264.out 1).trans rfl; have hcz164_2 : w162.cell? ⟨gb264, 2, none⟩ = some (.int .i64 t260) := (blk_cell BK264.out 2).trans rfl; have hfz164_0 := blk_frozen BK264.out 0; have hfz164_1 := blk_frozen BK264.out 1; have hfz164_2 := blk_frozen BK264.out 2) | (go_at_call 17; (with_reducible refine (impl_PaceOk.calls t258 t259 t260 true _ A141.out).mono ?_); rintro e w165 ⟨rfl, hb⟩; have n0_ := Aside0.mk (blk_below (g := gb247) (o := .cells #[.int .i64 t243, .int .i64 t244, .int .i64 t245] 25 (0, 0)) (by (with_reducible repeat (first | refine blk_drewN ?_ _ | refine blk_drew ?_ | refine blk_alloc ?_ _)); exact BK247.out) hb); have n1_ := Aside0.mk (blk_below (g := gb252) (o := .cells #[.int .i64 t248, .int .i64 t249, .int .i64 t250] 25 (0, 0)) (by (with_reducible repeat (first | refine blk_drewN ?_ _ | refine blk_drew ?_ | refine blk_alloc ?_ _)); exact BK252.out) hb); have n2_ := Aside0.mk (blk_below (g := gb257) (o := .cells #[.int .i64 t253, .int .i64 t254, .int .i64 t255] 25 (0, 0)) (by (with_reducible repeat (first | refine blk_drewN ?_ _ | refine blk_drew ?_ | refine blk_alloc ?_ _)); exact BK257.out) hb); have n3_ := Aside0.mk (blk_below (g := gb264) (o := .cells #[.int .i64 t258, .int .i64 t259, .int .i64 t260] 25 (0, 0)) (by (with_reducible repeat (first | refine blk_drewN ?_ _ | refine blk_drew ?_ | refine blk_alloc ?_ _)); exact BK264.out) hb); have n4_ := Aside0.mk (blk_below (g := gb265) (o := .cells #[.int .i64 t261, .int .i64 t262, .int .i64 t263] 25 (0, 0)) (by (with_reducible repeat (first | refine blk_drewN ?_ _ | refine blk_drew ?_ | refine blk_alloc ?_ _)); exact BK265.out) hb); have n5_ := Aside0.mk (blk_below (g := gb272) (o := .cells #[.int .i64 t268, .int .i64 t269, .int .i64 t270] 25 (0, 0)) (by (with_reducible repeat (first | refine blk_drewN ?_ _ | refine blk_drew ?_ | refine blk_alloc ?_ _)); exact BK272.out) hb); have n6_ := Aside0.mk (blk_below (g := gb277) (o := .cells #[.int .i64 t273, .int .i64 t274, .int .i64 t275] 25 (0, 0)) (by (with_reducible repeat (first | refine blk_drewN ?_ _ | refine blk_drew ?_ | refine blk_alloc ?_ _)); exact BK277.out) hb); have n7_ := Aside0.mk (blk_below (g := gb281) (o := .cells #[.int .i64 t278, .int .i64 t279, .int .i64 t280] 25 (0, 0)) (by (with_reducible repeat (first | refine blk_drewN ?_ _ | refine blk_drew ?_ | refine blk_alloc ?_ _)); exact BK281.out) hb); have n8_ := Aside0.mk (below_step (by repeat (first | (with_reducible first | exact HB.out | apply below_alloc | apply pw_below_drewN | apply below_drew1 | refine below_set ?_ GE247.out | refine below_set ?_ GE252.out | refine below_set ?_ GE257.out | refine below_set ?_ GE264.out | refine below_set ?_ GE265.out | refine below_set ?_ GE272.out | refine below_set ?_ GE277.out | refine below_set ?_ GE281.out) | exact HB.out)) hb); clear BK247; clear BK252; clear BK257; clear BK264; clear BK265; clear BK272; clear BK277; clear BK281; clear HB; have BK247 := n0_; have BK252 := n1_; have BK257 := n2_; have BK264 := n3_; have BK265 := n4_; have BK272 := n5_; have BK277 := n6_; have BK281 := n7_; have HB := n8_; clear n0_ n1_ n2_ n3_ n4_ n5_ n6_ n7_ n8_; (try clear hb); (try clear hb2); (try clear hk); (try clear hi); have hnb166 := NB272_247.out; have hnc166 := NB247_272.out; have hnb167 := NB272_252.out; have hnc167 := NB252_272.out; have hnb168 := NB272_257.out; have hnc168 := NB257_272.out; have hnb169 := NB272_265.out; have hnc169 := NB265_272.out; have hnb170 := NB272_277.out; have hnc170 := NB277_272.out; have hcz171_0 : w165.cell? ⟨gb272, 0, none⟩ = some (.int .i64 t268) := (blk_cell BK272.out 0).trans rfl; have hcz171_1 : w165.cell? ⟨gb272, 1, none⟩ = some (.int .i64 t269) := (blk_cell BK272.out 1).trans rfl; have hcz171_2 : w165.cell? ⟨gb272, 2, none⟩ = some (.int .i64 t270) := (blk_cell BK272.out 2).trans rfl; have hfz171_0 := blk_frozen BK272.out 0; have hfz171_1 := blk_frozen BK272.out 1; have hfz171_2 := blk_frozen BK272.out 2) | (go_at_call 17; (with_reducible refine (impl_PaceOk.calls t268 t269 t270 true _ A144.out).mono ?_); rintro e w172 ⟨rfl, hb⟩; have n0_ := Aside0.mk (blk_below (g := gb247) (o := .cells #[.int .i64 t243, .int .i64 t244, .int .i64 t245] 25 (0, 0)) (by (with_reducible repeat (first | refine blk_drewN ?_ _ | refine blk_drew ?_ | refine blk_alloc ?_ _)); exact BK247.out) hb); have n1_ := Aside0.mk (blk_below (g := gb252) (o := .cells #[.int .i64 t248, .int .i64 t249, .int .i64 t250] 25 (0, 0)) (by (with_reducible repeat (first | refine blk_drewN ?_ _ | refine blk_drew ?_ | refine blk_alloc ?_ _)); exact BK252.out) hb); have n2_ := Aside0.mk (blk_below (g := gb257) (o := .cells #[.int .i64 t253, .int .i64 t254, .int .i64 t255] 25 (0, 0)) (by (with_reducible repeat (first | refine blk_drewN ?_ _ | refine blk_drew ?_ | refine blk_alloc ?_ _)); exact BK257.out) hb); have n3_ := Aside0.mk (blk_below (g := gb264) (o := .cells #[.int .i64 t258, .int .i64 t259, .int .i64 t260] 25 (0, 0)) (by (with_reducible repeat (first | refine blk_drewN ?_ _ | refine blk_drew ?_ | refine blk_alloc ?_ _)); exact BK264.out) hb); have n4_ := Aside0.mk (blk_below (g := gb265) (o := .cells #[.int .i64 t261, .int .i64 t262, .int .i64 t263] 25 (0, 0)) (by (with_reducible repeat (first | refine blk_drewN ?_ _ | refine blk_drew ?_ | refine blk_alloc ?_ _)); exact BK265.out) hb); have n5_ := Aside0.mk (blk_below (g := gb272) (o := .cells #[.int .i64 t268, .int .i64 t269, .int .i64 t270] 25 (0, 0)) (by (with_reducible repeat (first | refine blk_drewN ?_ _ | refine blk_drew ?_ | refine blk_alloc ?_ _)); exact BK272.out) hb); have n6_ := Aside0.mk (blk_below (g := gb277) (o := .cells #[.int .i64 t273, .int .i64 t274, .int .i64 t275] 25 (0, 0)) (by (with_reducible repeat (first | refine blk_drewN ?_ _ | refine blk_drew ?_ | refine blk_alloc ?_ _)); exact BK277.out) hb); have n7_ := Aside0.mk (blk_below (g := gb281) (o := .cells #[.int .i64 t278, .int .i64 t279, .int .i64 t280] 25 (0, 0)) (by (with_reducible repeat (first | refine blk_drewN ?_ _ | refine blk_drew ?_ | refine blk_alloc ?_ _)); exact BK281.out) hb); have n8_ := Aside0.mk (below_step (by repeat (first | (with_reducible first | exact HB.out | apply below_alloc | apply pw_below_drewN | apply below_drew1 | refine below_set ?_ GE247.out | refine below_set ?_ GE252.out | refine below_set ?_ GE257.out | refine below_set ?_ GE264.out | refine below_set ?_ GE265.out | refine below_set ?_ GE272.out | refine below_set ?_ GE277.out | refine below_set ?_ GE281.out) | exact HB.out)) hb); clear BK247; clear BK252; clear BK257; clear BK264; clear BK265; clear BK272; clear BK277; clear BK281; clear HB; have BK247 := n0_; have BK252 := n1_; have BK257 := n2_; have BK264 := n3_; have BK265 := n4_; have BK272 := n5_; have BK277 := n6_; have BK281 := n7_; have HB := n8_; clear n0_ n1_ n2_ n3_ n4_ n5_ n6_ n7_ n8_; (try clear hb); (try clear hb2); (try clear hk); (try clear hi); have hcz173_0 : w172.cell? ⟨gb272, 0, none⟩ = some (.int .i64 t268) := (blk_cell BK272.out 0).trans rfl; have hcz173_1 : w172.cell? ⟨gb272, 1, none⟩ = some (.int .i64 t269) := (blk_cell BK272.out 1).trans rfl; have hcz173_2 : w172.cell? ⟨gb272, 2, none⟩ = some (.int .i64 t270) := (blk_cell BK272.out 2).trans rfl; have hfz173_0 := blk_frozen BK272.out 0; have hfz173_1 := blk_frozen BK272.out 1; have hfz173_2 := blk_frozen BK272.out 2))
                          go_meet
                          case rel => exact ⟨_, ((t268 != t266)), (by first | rfl | (simp; done) | (simp [*]; done)), H', ⟨by have := HJ12.out; first | omega | exact Nat.le_refl _⟩, ⟨by (with_reducible repeat (first | refine blk_drewN ?_ _ | refine blk_drew ?_ | refine blk_alloc ?_ _)); exact BK247.out⟩, ⟨by (with_reducible repeat (first | refine blk_drewN ?_ _ | refine blk_drew ?_ | refine blk_alloc ?_ _)); exact BK252.out⟩, ⟨by (with_reducible repeat (first | refine blk_drewN ?_ _ | refine blk_drew ?_ | refine blk_alloc ?_ _)); exact BK257.out⟩, ⟨by (with_reducible repeat (first | refine blk_drewN ?_ _ | refine blk_drew ?_ | refine blk_alloc ?_ _)); exact BK264.out⟩, ⟨by (with_reducible repeat (first | refine blk_drewN ?_ _ | refine blk_drew ?_ | refine blk_alloc ?_ _)); exact BK265.out⟩, ⟨by (with_reducible repeat (first | refine blk_drewN ?_ _ | refine blk_drew ?_ | refine blk_alloc ?_ _)); exact BK272.out⟩, ⟨by (with_reducible repeat (first | refine blk_drewN ?_ _ | refine blk_drew ?_ | refine blk_alloc ?_ _)); exact BK277.out⟩, ⟨by (with_reducible repeat (first | refine blk_drewN ?_ _ | refine blk_drew ?_ | refine blk_alloc ?_ _)); exact BK281.out⟩, ⟨by repeat (first | (with_reducible first | exact HB.out | apply below_alloc | apply pw_below_drewN | apply below_drew1 | refine below_set ?_ GE247.out | refine below_set ?_ GE252.out | refine below_set ?_ GE257.out | refine below_set ?_ GE264.out | refine below_set ?_ GE265.out | refine below_set ?_ GE272.out | refine below_set ?_ GE277.out | refine below_set ?_ GE281.out) | exact HB.out)⟩⟩
                        · replace c145 := Bool.eq_false_iff.mpr c145
                          subst c145
                          have H1 : (laws_FnPaces.j1 kj12 t246 t251 true t243 t244 t245 t248 t249 t250) = some r := by rw [if_neg (show ¬ (false = true) by decide)] at H; exact H
                          exact absurd (H1.trans (congrArg some hrt)) (j1t _ _ _ _ _ _ _ _ _)
                      · replace c143 := Bool.eq_false_iff.mpr c143
                        subst c143
                        have H1 : (laws_FnPaces.j1 kj12 t246 t251 false t243 t244 t245 t248 t249 t250) = some r := by rw [if_neg (show ¬ (false = true) by decide)] at H; exact H
                        clear H
                        have H := H1
                        clear H1
                        have H' := Aside0.mk H
                        clear H
                        have hnb201 := NB264_247.out
                        have hnc201 := NB247_264.out
                        have hnb202 := NB264_252.out
                        have hnc202 := NB252_264.out
                        have hnb203 := NB264_257.out
                        have hnc203 := NB257_264.out
                        have hnb204 := NB264_265.out
                        have hnc204 := NB265_264.out
                        have hnb205 := NB264_272.out
                        have hnc205 := NB272_264.out
                        have hnb206 := NB264_277.out
                        have hnc206 := NB277_264.out
                        have hnb207 := NB264_281.out
                        have hnc207 := NB281_264.out
                        have hcz208_0 : wc.cell? ⟨gb264, 0, none⟩ = some (.int .i64 t258) := (blk_cell BK264.out 0).trans rfl
                        have hcz208_1 : wc.cell? ⟨gb264, 1, none⟩ = some (.int .i64 t259) := (blk_cell BK264.out 1).trans rfl
                        have hcz208_2 : wc.cell? ⟨gb264, 2, none⟩ = some (.int .i64 t260) := (blk_cell BK264.out 2).trans rfl
                        have hfz208_0 := blk_frozen BK264.out 0
                        have hfz208_1 := blk_frozen BK264.out 1
                        have hfz208_2 := blk_frozen BK264.out 2
                        go_wp2_with (first | ((with_reducible refine gate_callee (f := 17) rfl ?_); refine goesL_ (some 92) rfl rfl Try.func17 (by kernel_rfl) rfl #[.agg #[.int .i64 t258, .int .i64 t259, .int .i64 t260]] rfl (by (try simp only [List.map_toArray, List.map_cons, List.map_nil]); first | done | rfl | (simp only [List.length_drop, List.length_take]; rfl)) ?_; (with_reducible refine (impl_PaceOk.calls t258 t259 t260 true _ A97.out).mono ?_); rintro e w209 ⟨rfl, hb⟩; refine ⟨_, rfl, ?_⟩; have n0_ := Aside0.mk (blk_below (g := gb247) (o := .cells #[.int .i64 t243, .int .i64 t244, .int .i64 t245] 25 (0, 0)) (by (with_reducible repeat (first | refine blk_drewN ?_ _ | refine blk_drew ?_ | refine blk_alloc ?_ _)); exact BK247.out) hb); have n1_ := Aside0.mk (blk_below (g := gb252) (o := .cells #[.int .i64 t248, .int .i64 t249, .int .i64 t250] 25 (0, 0)) (by (with_reducible repeat (first | refine blk_drewN ?_ _ | refine blk_drew ?_ | refine blk_alloc ?_ _)); exact BK252.out) hb); have n2_ := Aside0.mk (blk_below (g := gb257) (o := .cells #[.int .i64 t253, .int .i64 t254, .int .i64 t255] 25 (0, 0)) (by (with_reducible repeat (first | refine blk_drewN ?_ _ | refine blk_drew ?_ | refine blk_alloc ?_ _)); exact BK257.out) hb); have n3_ := Aside0.mk (blk_below (g := gb264) (o := .cells #[.int .i64 t258, .int .i64 t259, .int .i64 t260] 25 (0, 0)) (by (with_reducible repeat (first | refine blk_drewN ?_ _ | refine blk_drew ?_ | refine blk_alloc ?_ _)); exact BK264.out) hb); have n4_ := Aside0.mk (blk_below (g := gb265) (o := .cells #[.int .i64 t261, .int .i64 t262, .int .i64 t263] 25 (0, 0)) (by (with_reducible repeat (first | refine blk_drewN ?_ _ | refine blk_drew ?_ | refine blk_alloc ?_ _)); exact BK265.out) hb); have n5_ := Aside0.mk (blk_below (g := gb272) (o := .cells #[.int .i64 t268, .int .i64 t269, .int .i64 t270] 25 (0, 0)) (by (with_reducible repeat (first | refine blk_drewN ?_ _ | refine blk_drew ?_ | refine blk_alloc ?_ _)); exact BK272.out) hb); have n6_ := Aside0.mk (blk_below (g := gb277) (o := .cells #[.int .i64 t273, .int .i64 t274, .int .i64 t275] 25 (0, 0)) (by (with_reducible repeat (first | refine blk_drewN ?_ _ | refine blk_drew ?_ | refine blk_alloc ?_ _)); exact BK277.out) hb); have n7_ := Aside0.mk (blk_below (g := gb281) (o := .cells #[.int .i64 t278, .int .i64 t279, .int .i64 t280] 25 (0, 0)) (by (with_reducible repeat (first | refine blk_drewN ?_ _ | refine blk_drew ?_ | refine blk_alloc ?_ _)); exact BK281.out) hb); have n8_ := Aside0.mk (below_step (by repeat (first | (with_reducible first | exact HB.out | apply below_alloc | apply pw_below_drewN | apply below_drew1 | refine below_set ?_ GE247.out | refine below_set ?_ GE252.out | refine below_set ?_ GE257.out | refine below_set ?_ GE264.out | refine below_set ?_ GE265.out | refine below_set ?_ GE272.out | refine below_set ?_ GE277.out | refine below_set ?_ GE281.out) | exact HB.out)) hb); clear BK247; clear BK252; clear BK257; clear BK264; clear BK265; clear BK272; clear BK277; clear BK281; clear HB; have BK247 := n0_; have BK252 := n1_; have BK257 := n2_; have BK264 := n3_; have BK265 := n4_; have BK272 := n5_; have BK277 := n6_; have BK281 := n7_; have HB := n8_; clear n0_ n1_ n2_ n3_ n4_ n5_ n6_ n7_ n8_; (try clear hb); (try clear hb2); (try clear hk); (try clear hi); have hnb210 := NB281_247.out; have hnc210 := NB247_281.out; have hnb211 := NB281_252.out; have hnc211 := NB252_281.out; have hnb212 := NB281_257.out; have hnc212 := NB257_281.out; have hnb213 := NB281_265.out; have hnc213 := NB265_281.out; have hnb214 := NB281_272.out; have hnc214 := NB272_281.out; have hnb215 := NB281_277.out; have hnc215 := NB277_281.out; have hcz216_0 : w209.cell? ⟨gb281, 0, none⟩ = some (.int .i64 t278) := (blk_cell BK281.out 0).trans rfl; have hcz216_1 : w209.cell? ⟨gb281, 1, none⟩ = some (.int .i64 t279) := (blk_cell BK281.out 1).trans rfl; have hcz216_2 : w209.cell? ⟨gb281, 2, none⟩ = some (.int .i64 t280) := (blk_cell BK281.out 2).trans rfl; have hfz216_0 := blk_frozen BK281.out 0; have hfz216_1 := blk_frozen BK281.out 1; have hfz216_2 := blk_frozen BK281.out 2) | (go_at_call 17; (with_reducible refine (impl_PaceOk.calls t278 t279 t280 true _ A99.out).mono ?_); rintro e w217 ⟨rfl, hb⟩; have n0_ := Aside0.mk (blk_below (g := gb247) (o := .cells #[.int .i64 t243, .int .i64 t244, .int .i64 t245] 25 (0, 0)) (by (with_reducible repeat (first | refine blk_drewN ?_ _ | refine blk_drew ?_ | refine blk_alloc ?_ _)); exact BK247.out) hb); have n1_ := Aside0.mk (blk_below (g := gb252) (o := .cells #[.int .i64 t248, .int .i64 t249, .int .i64 t250] 25 (0, 0)) (by (with_reducible repeat (first | refine blk_drewN ?_ _ | refine blk_drew ?_ | refine blk_alloc ?_ _)); exact BK252.out) hb); have n2_ := Aside0.mk (blk_below (g := gb257) (o := .cells #[.int .i64 t253, .int .i64 t254, .int .i64 t255] 25 (0, 0)) (by (with_reducible repeat (first | refine blk_drewN ?_ _ | refine blk_drew ?_ | refine blk_alloc ?_ _)); exact BK257.out) hb); have n3_ := Aside0.mk (blk_below (g := gb264) (o := .cells #[.int .i64 t258, .int .i64 t259, .int .i64 t260] 25 (0, 0)) (by (with_reducible repeat (first | refine blk_drewN ?_ _ | refine blk_drew ?_ | refine blk_alloc ?_ _)); exact BK264.out) hb); have n4_ := Aside0.mk (blk_below (g := gb265) (o := .cells #[.int .i64 t261, .int .i64 t262, .int .i64 t263] 25 (0, 0)) (by (with_reducible repeat (first | refine blk_drewN ?_ _ | refine blk_drew ?_ | refine blk_alloc ?_ _)); exact BK265.out) hb); have n5_ := Aside0.mk (blk_below (g := gb272) (o := .cells #[.int .i64 t268, .int .i64 t269, .int .i64 t270] 25 (0, 0)) (by (with_reducible repeat (first | refine blk_drewN ?_ _ | refine blk_drew ?_ | refine blk_alloc ?_ _)); exact BK272.out) hb); have n6_ := Aside0.mk (blk_below (g := gb277) (o := .cells #[.int .i64 t273, .int .i64 t274, .int .i64 t275] 25 (0, 0)) (by (with_reducible repeat (first | refine blk_drewN ?_ _ | refine blk_drew ?_ | refine blk_alloc ?_ _)); exact BK277.out) hb); have n7_ := Aside0.mk (blk_below (g := gb281) (o := .cells #[.int .i64 t278, .int .i64 t279, .int .i64 t280] 25 (0, 0)) (by (with_reducible repeat (first | refine blk_drewN ?_ _ | refine blk_drew ?_ | refine blk_alloc ?_ _)); exact BK281.out) hb); have n8_ := Aside0.mk (below_step (by repeat (first | (with_reducible first | exact HB.out | apply below_alloc | apply pw_below_drewN | apply below_drew1 | refine below_set ?_ GE247.out | refine below_set ?_ GE252.out | refine below_set ?_ GE257.out | refine below_set ?_ GE264.out | refine below_set ?_ GE265.out | refine below_set ?_ GE272.out | refine below_set ?_ GE277.out | refine below_set ?_ GE281.out) | exact HB.out)) hb); clear BK247; clear BK252; clear BK257; clear BK264; clear BK265; clear BK272; clear BK277; clear BK281; clear HB; have BK247 := n0_; have BK252 := n1_; have BK257 := n2_; have BK264 := n3_; have BK265 := n4_; have BK272 := n5_; have BK277 := n6_; have BK281 := n7_; have HB := n8_; clear n0_ n1_ n2_ n3_ n4_ n5_ n6_ n7_ n8_; (try clear hb); (try clear hb2); (try clear hk); (try clear hi); have hcz218_0 : w217.cell? ⟨gb281, 0, none⟩ = some (.int .i64 t278) := (blk_cell BK281.out 0).trans rfl; have hcz218_1 : w217.cell? ⟨gb281, 1, none⟩ = some (.int .i64 t279) := (blk_cell BK281.out 1).trans rfl; have hcz218_2 : w217.cell? ⟨gb281, 2, none⟩ = some (.int .i64 t280) := (blk_cell BK281.out 2).trans rfl; have hfz218_0 := blk_frozen BK281.out 0; have hfz218_1 := blk_frozen BK281.out 1; have hfz218_2 := blk_frozen BK281.out 2; have hcz219_0 : w217.cell? ⟨gb264, 0, none⟩ = some (.int .i64 t258) := (blk_cell BK264.out 0).trans rfl; have hcz219_1 : w217.cell? ⟨gb264, 1, none⟩ = some (.int .i64 t259) := (blk_cell BK264.out 1).trans rfl; have hcz219_2 : w217.cell? ⟨gb264, 2, none⟩ = some (.int .i64 t260) := (blk_cell BK264.out 2).trans rfl; have hfz219_0 := blk_frozen BK264.out 0; have hfz219_1 := blk_frozen BK264.out 1; have hfz219_2 := blk_frozen BK264.out 2) | (go_at_call 17; (with_reducible refine (impl_PaceOk.calls t258 t259 t260 true _ A141.out).mono ?_); rintro e w220 ⟨rfl, hb⟩; have n0_ := Aside0.mk (blk_below (g := gb247) (o := .cells #[.int .i64 t243, .int .i64 t244, .int .i64 t245] 25 (0, 0)) (by (with_reducible repeat (first | refine blk_drewN ?_ _ | refine blk_drew ?_ | refine blk_alloc ?_ _)); exact BK247.out) hb); have n1_ := Aside0.mk (blk_below (g := gb252) (o := .cells #[.int .i64 t248, .int .i64 t249, .int .i64 t250] 25 (0, 0)) (by (with_reducible repeat (first | refine blk_drewN ?_ _ | refine blk_drew ?_ | refine blk_alloc ?_ _)); exact BK252.out) hb); have n2_ := Aside0.mk (blk_below (g := gb257) (o := .cells #[.int .i64 t253, .int .i64 t254, .int .i64 t255] 25 (0, 0)) (by (with_reducible repeat (first | refine blk_drewN ?_ _ | refine blk_drew ?_ | refine blk_alloc ?_ _)); exact BK257.out) hb); have n3_ := Aside0.mk (blk_below (g := gb264) (o := .cells #[.int .i64 t258, .int .i64 t259, .int .i64 t260] 25 (0, 0)) (by (with_reducible repeat (first | refine blk_drewN ?_ _ | refine blk_drew ?_ | refine blk_alloc ?_ _)); exact BK264.out) hb); have n4_ := Aside0.mk (blk_below (g := gb265) (o := .cells #[.int .i64 t261, .int .i64 t262, .int .i64 t263] 25 (0, 0)) (by (with_reducible repeat (first | refine blk_drewN ?_ _ | refine blk_drew ?_ | refine blk_alloc ?_ _)); exact BK265.out) hb); have n5_ := Aside0.mk (blk_below (g := gb272) (o := .cells #[.int .i64 t268, .int .i64 t269, .int .i64 t270] 25 (0, 0)) (by (with_reducible repeat (first | refine blk_drewN ?_ _ | refine blk_drew ?_ | refine blk_alloc ?_ _)); exact BK272.out) hb); have n6_ := Aside0.mk (blk_below (g := gb277) (o := .cells #[.int .i64 t273, .int .i64 t274, .int .i64 t275] 25 (0, 0)) (by (with_reducible repeat (first | refine blk_drewN ?_ _ | refine blk_drew ?_ | refine blk_alloc ?_ _)); exact BK277.out) hb); have n7_ := Aside0.mk (blk_below (g := gb281) (o := .cells #[.int .i64 t278, .int .i64 t279, .int .i64 t280] 25 (0, 0)) (by (with_reducible repeat (first | refine blk_drewN ?_ _ | refine blk_drew ?_ | refine blk_alloc ?_ _)); exact BK281.out) hb); have n8_ := Aside0.mk (below_step (by repeat (first | (with_reducible first | exact HB.out | apply below_alloc | apply pw_below_drewN | apply below_drew1 | refine below_set ?_ GE247.out | refine below_set ?_ GE252.out | refine below_set ?_ GE257.out | refine below_set ?_ GE264.out | refine below_set ?_ GE265.out | refine below_set ?_ GE272.out | refine below_set ?_ GE277.out | refine below_set ?_ GE281.out) | exact HB.out)) hb); clear BK247; clear BK252; clear BK257; clear BK264; clear BK265; clear BK272; clear BK277; clear BK281; clear HB; have BK247 := n0_; have BK252 := n1_; have BK257 := n2_; have BK264 := n3_; have BK265 := n4_; have BK272 := n5_; have BK277 := n6_; have BK281 := n7_; have HB := n8_; clear n0_ n1_ n2_ n3_ n4_ n5_ n6_ n7_ n8_; (try clear hb); (try clear hb2); (try clear hk); (try clear hi)))
                        go_meet
                        case rel => exact ⟨_, (false), (by first | rfl | (simp; done) | (simp [*]; done)), H', ⟨by have := HJ12.out; first | omega | exact Nat.le_refl _⟩, ⟨by (with_reducible repeat (first | refine blk_drewN ?_ _ | refine blk_drew ?_ | refine blk_alloc ?_ _)); exact BK247.out⟩, ⟨by (with_reducible repeat (first | refine blk_drewN ?_ _ | refine blk_drew ?_ | refine blk_alloc ?_ _)); exact BK252.out⟩, ⟨by (with_reducible repeat (first | refine blk_drewN ?_ _ | refine blk_drew ?_ | refine blk_alloc ?_ _)); exact BK257.out⟩, ⟨by (with_reducible repeat (first | refine blk_drewN ?_ _ | refine blk_drew ?_ | refine blk_alloc ?_ _)); exact BK264.out⟩, ⟨by (with_reducible repeat (first | refine blk_drewN ?_ _ | refine blk_drew ?_ | refine blk_alloc ?_ _)); exact BK265.out⟩, ⟨by (with_reducible repeat (first | refine blk_drewN ?_ _ | refine blk_drew ?_ | refine blk_alloc ?_ _)); exact BK272.out⟩, ⟨by (with_reducible repeat (first | refine blk_drewN ?_ _ | refine blk_drew ?_ | refine blk_alloc ?_ _)); exact BK277.out⟩, ⟨by (with_reducible repeat (first | refine blk_drewN ?_ _ | refine blk_drew ?_ | refine blk_alloc ?_ _)); exact BK281.out⟩, ⟨by repeat (first | (with_reducible first | exact HB.out | apply below_alloc | apply pw_below_drewN | apply below_drew1 | refine below_set ?_ GE247.out | refine below_set ?_ GE252.out | refine below_set ?_ GE257.out | refine below_set ?_ GE264.out | refine below_set ?_ GE265.out | refine below_set ?_ GE272.out | refine below_set ?_ GE277.out | refine below_set ?_ GE281.out) | exact HB.out)⟩⟩
                    · replace c142 := Bool.eq_false_iff.mpr c142
                      subst c142
                      exact absurd (A97.out.symm.trans A141.out) (by simp)
              · replace c100 := Bool.eq_false_iff.mpr c100
                subst c100
                have H1 : (laws_FnPaces.j1 kj12 t246 t251 true t243 t244 t245 t248 t249 t250) = some r := by rw [if_neg (show ¬ (false = true) by decide)] at H; exact H
                exact absurd (H1.trans (congrArg some hrt)) (j1t _ _ _ _ _ _ _ _ _)
            · replace c98 := Bool.eq_false_iff.mpr c98
              subst c98
              have H1 : ((impl_PaceOk.f t258 t259 t260).bind fun t292 => (if t292 = true then (if t271 = true then ((impl_PaceOk.f t268 t269 t270).bind fun t293 => (if t293 = true then (laws_FnPaces.j1 kj12 t246 t251 (t268 != t266) t243 t244 t245 t248 t249 t250) else (laws_FnPaces.j1 kj12 t246 t251 true t243 t244 t245 t248 t249 t250))) else (laws_FnPaces.j1 kj12 t246 t251 false t243 t244 t245 t248 t249 t250)) else (if (!(t278 == t258) || (!(t279 == t259) || (!(t280 == t260)))) = true then (laws_FnPaces.j1 kj12 t246 t251 true t243 t244 t245 t248 t249 t250) else (if t271 = true then ((impl_PaceOk.f t268 t269 t270).bind fun t294 => (if t294 = true then (laws_FnPaces.j1 kj12 t246 t251 (t268 != t266) t243 t244 t245 t248 t249 t250) else (laws_FnPaces.j1 kj12 t246 t251 true t243 t244 t245 t248 t249 t250))) else (laws_FnPaces.j1 kj12 t246 t251 false t243 t244 t245 t248 t249 t250))))) = some r := by rw [if_neg (show ¬ (false = true) by decide)] at H; exact H
              clear H
              have H := H1
              clear H1
              replace H := Option.bind_eq_some_iff.mp H
              obtain ⟨t292, A3450, H⟩ := H
              replace H : (if t292 = true then (if t271 = true then ((impl_PaceOk.f t268 t269 t270).bind fun t293 => (if t293 = true then (laws_FnPaces.j1 kj12 t246 t251 (t268 != t266) t243 t244 t245 t248 t249 t250) else (laws_FnPaces.j1 kj12 t246 t251 true t243 t244 t245 t248 t249 t250))) else (laws_FnPaces.j1 kj12 t246 t251 false t243 t244 t245 t248 t249 t250)) else (if (!(t278 == t258) || (!(t279 == t259) || (!(t280 == t260)))) = true then (laws_FnPaces.j1 kj12 t246 t251 true t243 t244 t245 t248 t249 t250) else (if t271 = true then ((impl_PaceOk.f t268 t269 t270).bind fun t294 => (if t294 = true then (laws_FnPaces.j1 kj12 t246 t251 (t268 != t266) t243 t244 t245 t248 t249 t250) else (laws_FnPaces.j1 kj12 t246 t251 true t243 t244 t245 t248 t249 t250))) else (laws_FnPaces.j1 kj12 t246 t251 false t243 t244 t245 t248 t249 t250)))) = some r := H
              have A345 := Aside0.mk A3450
              clear A3450
              by_cases c346 : t292 = true
              · subst c346
                exact absurd (A97.out.symm.trans A345.out) (by simp)
              · replace c346 := Bool.eq_false_iff.mpr c346
                subst c346
                have H1 : (if (!(t278 == t258) || (!(t279 == t259) || (!(t280 == t260)))) = true then (laws_FnPaces.j1 kj12 t246 t251 true t243 t244 t245 t248 t249 t250) else (if t271 = true then ((impl_PaceOk.f t268 t269 t270).bind fun t294 => (if t294 = true then (laws_FnPaces.j1 kj12 t246 t251 (t268 != t266) t243 t244 t245 t248 t249 t250) else (laws_FnPaces.j1 kj12 t246 t251 true t243 t244 t245 t248 t249 t250))) else (laws_FnPaces.j1 kj12 t246 t251 false t243 t244 t245 t248 t249 t250))) = some r := by rw [if_neg (show ¬ (false = true) by decide)] at H; exact H
                clear H
                have H := H1
                clear H1
                by_cases c400 : (!(t278 == t258) || (!(t279 == t259) || (!(t280 == t260)))) = true
                · rw [if_pos c400] at H
                  exact absurd (H.trans (congrArg some hrt)) (j1t _ _ _ _ _ _ _ _ _)
                · rw [if_neg c400] at H
                  have c400b0 : (!(t278 == t258) || (!(t279 == t259) || (!(t280 == t260)))) = false := by simpa using c400
                  clear c400
                  by_cases c420 : t271 = true
                  · subst c420
                    have H1 : ((impl_PaceOk.f t268 t269 t270).bind fun t294 => (if t294 = true then (laws_FnPaces.j1 kj12 t246 t251 (t268 != t266) t243 t244 t245 t248 t249 t250) else (laws_FnPaces.j1 kj12 t246 t251 true t243 t244 t245 t248 t249 t250))) = some r := by rw [if_pos rfl] at H; exact H
                    clear H
                    have H := H1
                    clear H1
                    replace H := Option.bind_eq_some_iff.mp H
                    obtain ⟨t294, A4210, H⟩ := H
                    replace H : (if t294 = true then (laws_FnPaces.j1 kj12 t246 t251 (t268 != t266) t243 t244 t245 t248 t249 t250) else (laws_FnPaces.j1 kj12 t246 t251 true t243 t244 t245 t248 t249 t250)) = some r := H
                    have A421 := Aside0.mk A4210
                    clear A4210
                    by_cases c422 : t294 = true
                    · subst c422
                      have H1 : (laws_FnPaces.j1 kj12 t246 t251 (t268 != t266) t243 t244 t245 t248 t249 t250) = some r := by rw [if_pos rfl] at H; exact H
                      clear H
                      have H := H1
                      clear H1
                      have H' := Aside0.mk H
                      clear H
                      have hnb423 := NB264_247.out
                      have hnc423 := NB247_264.out
                      have hnb424 := NB264_252.out
                      have hnc424 := NB252_264.out
                      have hnb425 := NB264_257.out
                      have hnc425 := NB257_264.out
                      have hnb426 := NB264_265.out
                      have hnc426 := NB265_264.out
                      have hnb427 := NB264_272.out
                      have hnc427 := NB272_264.out
                      have hnb428 := NB264_277.out
                      have hnc428 := NB277_264.out
                      have hnb429 := NB264_281.out
                      have hnc429 := NB281_264.out
                      have hcz430_0 : wc.cell? ⟨gb264, 0, none⟩ = some (.int .i64 t258) := (blk_cell BK264.out 0).trans rfl
                      have hcz430_1 : wc.cell? ⟨gb264, 1, none⟩ = some (.int .i64 t259) := (blk_cell BK264.out 1).trans rfl
                      have hcz430_2 : wc.cell? ⟨gb264, 2, none⟩ = some (.int .i64 t260) := (blk_cell BK264.out 2).trans rfl
                      have hfz430_0 := blk_frozen BK264.out 0
                      have hfz430_1 := blk_frozen BK264.out 1
                      have hfz430_2 := blk_frozen BK264.out 2
                      go_wp2_with (first | ((with_reducible refine gate_callee (f := 17) rfl ?_); refine goesL_ (some 92) rfl rfl Try.func17 (by kernel_rfl) rfl #[.agg #[.int .i64 t258, .int .i64 t259, .int .i64 t260]] rfl (by (try simp only [List.map_toArray, List.map_cons, List.map_nil]); first | done | rfl | (simp only [List.length_drop, List.length_take]; rfl)) ?_; (with_reducible refine (impl_PaceOk.calls t258 t259 t260 false _ A97.out).mono ?_); rintro e w431 ⟨rfl, hb⟩; refine ⟨_, rfl, ?_⟩; have n0_ := Aside0.mk (blk_below (g := gb247) (o := .cells #[.int .i64 t243, .int .i64 t244, .int .i64 t245] 25 (0, 0)) (by (with_reducible repeat (first | refine blk_drewN ?_ _ | refine blk_drew ?_ | refine blk_alloc ?_ _)); exact BK247.out) hb); have n1_ := Aside0.mk (blk_below (g := gb252) (o := .cells #[.int .i64 t248, .int .i64 t249, .int .i64 t250] 25 (0, 0)) (by (with_reducible repeat (first | refine blk_drewN ?_ _ | refine blk_drew ?_ | refine blk_alloc ?_ _)); exact BK252.out) hb); have n2_ := Aside0.mk (blk_below (g := gb257) (o := .cells #[.int .i64 t253, .int .i64 t254, .int .i64 t255] 25 (0, 0)) (by (with_reducible repeat (first | refine blk_drewN ?_ _ | refine blk_drew ?_ | refine blk_alloc ?_ _)); exact BK257.out) hb); have n3_ := Aside0.mk (blk_below (g := gb264) (o := .cells #[.int .i64 t258, .int .i64 t259, .int .i64 t260] 25 (0, 0)) (by (with_reducible repeat (first | refine blk_drewN ?_ _ | refine blk_drew ?_ | refine blk_alloc ?_ _)); exact BK264.out) hb); have n4_ := Aside0.mk (blk_below (g := gb265) (o := .cells #[.int .i64 t261, .int .i64 t262, .int .i64 t263] 25 (0, 0)) (by (with_reducible repeat (first | refine blk_drewN ?_ _ | refine blk_drew ?_ | refine blk_alloc ?_ _)); exact BK265.out) hb); have n5_ := Aside0.mk (blk_below (g := gb272) (o := .cells #[.int .i64 t268, .int .i64 t269, .int .i64 t270] 25 (0, 0)) (by (with_reducible repeat (first | refine blk_drewN ?_ _ | refine blk_drew ?_ | refine blk_alloc ?_ _)); exact BK272.out) hb); have n6_ := Aside0.mk (blk_below (g := gb277) (o := .cells #[.int .i64 t273, .int .i64 t274, .int .i64 t275] 25 (0, 0)) (by (with_reducible repeat (first | refine blk_drewN ?_ _ | refine blk_drew ?_ | refine blk_alloc ?_ _)); exact BK277.out) hb); have n7_ := Aside0.mk (blk_below (g := gb281) (o := .cells #[.int .i64 t278, .int .i64 t279, .int .i64 t280] 25 (0, 0)) (by (with_reducible repeat (first | refine blk_drewN ?_ _ | refine blk_drew ?_ | refine blk_alloc ?_ _)); exact BK281.out) hb); have n8_ := Aside0.mk (below_step (by repeat (first | (with_reducible first | exact HB.out | apply below_alloc | apply pw_below_drewN | apply below_drew1 | refine below_set ?_ GE247.out | refine below_set ?_ GE252.out | refine below_set ?_ GE257.out | refine below_set ?_ GE264.out | refine below_set ?_ GE265.out | refine below_set ?_ GE272.out | refine below_set ?_ GE277.out | refine below_set ?_ GE281.out) | exact HB.out)) hb); clear BK247; clear BK252; clear BK257; clear BK264; clear BK265; clear BK272; clear BK277; clear BK281; clear HB; have BK247 := n0_; have BK252 := n1_; have BK257 := n2_; have BK264 := n3_; have BK265 := n4_; have BK272 := n5_; have BK277 := n6_; have BK281 := n7_; have HB := n8_; clear n0_ n1_ n2_ n3_ n4_ n5_ n6_ n7_ n8_; (try clear hb); (try clear hb2); (try clear hk); (try clear hi); have hcz432_0 : w431.cell? ⟨gb264, 0, none⟩ = some (.int .i64 t258) := (blk_cell BK264.out 0).trans rfl; have hcz432_1 : w431.cell? ⟨gb264, 1, none⟩ = some (.int .i64 t259) := (blk_cell BK264.out 1).trans rfl; have hcz432_2 : w431.cell? ⟨gb264, 2, none⟩ = some (.int .i64 t260) := (blk_cell BK264.out 2).trans rfl; have hfz432_0 := blk_frozen BK264.out 0; have hfz432_1 := blk_frozen BK264.out 1; have hfz432_2 := blk_frozen BK264.out 2) | (go_at_call 17; (with_reducible refine (impl_PaceOk.calls t258 t259 t260 false _ A345.out).mono ?_); rintro e w433 ⟨rfl, hb⟩; have n0_ := Aside0.mk (blk_below (g := gb247) (o := .cells #[.int .i64 t243, .int .i64 t244, .int .i64 t245] 25 (0, 0)) (by (with_reducible repeat (first | refine blk_drewN ?_ _ | refine blk_drew ?_ | refine blk_alloc ?_ _)); exact BK247.out) hb); have n1_ := Aside0.mk (blk_below (g := gb252) (o := .cells #[.int .i64 t248, .int .i64 t249, .int .i64 t250] 25 (0, 0)) (by (with_reducible repeat (first | refine blk_drewN ?_ _ | refine blk_drew ?_ | refine blk_alloc ?_ _)); exact BK252.out) hb); have n2_ := Aside0.mk (blk_below (g := gb257) (o := .cells #[.int .i64 t253, .int .i64 t254, .int .i64 t255] 25 (0, 0)) (by (with_reducible repeat (first | refine blk_drewN ?_ _ | refine blk_drew ?_ | refine blk_alloc ?_ _)); exact BK257.out) hb); have n3_ := Aside0.mk (blk_below (g := gb264) (o := .cells #[.int .i64 t258, .int .i64 t259, .int .i64 t260] 25 (0, 0)) (by (with_reducible repeat (first | refine blk_drewN ?_ _ | refine blk_drew ?_ | refine blk_alloc ?_ _)); exact BK264.out) hb); have n4_ := Aside0.mk (blk_below (g := gb265) (o := .cells #[.int .i64 t261, .int .i64 t262, .int .i64 t263] 25 (0, 0)) (by (with_reducible repeat (first | refine blk_drewN ?_ _ | refine blk_drew ?_ | refine blk_alloc ?_ _)); exact BK265.out) hb); have n5_ := Aside0.mk (blk_below (g := gb272) (o := .cells #[.int .i64 t268, .int .i64 t269, .int .i64 t270] 25 (0, 0)) (by (with_reducible repeat (first | refine blk_drewN ?_ _ | refine blk_drew ?_ | refine blk_alloc ?_ _)); exact BK272.out) hb); have n6_ := Aside0.mk (blk_below (g := gb277) (o := .cells #[.int .i64 t273, .int .i64 t274, .int .i64 t275] 25 (0, 0)) (by (with_reducible repeat (first | refine blk_drewN ?_ _ | refine blk_drew ?_ | refine blk_alloc ?_ _)); exact BK277.out) hb); have n7_ := Aside0.mk (blk_below (g := gb281) (o := .cells #[.int .i64 t278, .int .i64 t279, .int .i64 t280] 25 (0, 0)) (by (with_reducible repeat (first | refine blk_drewN ?_ _ | refine blk_drew ?_ | refine blk_alloc ?_ _)); exact BK281.out) hb); have n8_ := Aside0.mk (below_step (by repeat (first | (with_reducible first | exact HB.out | apply below_alloc | apply pw_below_drewN | apply below_drew1 | refine below_set ?_ GE247.out | refine below_set ?_ GE252.out | refine below_set ?_ GE257.out | refine below_set ?_ GE264.out | refine below_set ?_ GE265.out | refine below_set ?_ GE272.out | refine below_set ?_ GE277.out | refine below_set ?_ GE281.out) | exact HB.out)) hb); clear BK247; clear BK252; clear BK257; clear BK264; clear BK265; clear BK272; clear BK277; clear BK281; clear HB; have BK247 := n0_; have BK252 := n1_; have BK257 := n2_; have BK264 := n3_; have BK265 := n4_; have BK272 := n5_; have BK277 := n6_; have BK281 := n7_; have HB := n8_; clear n0_ n1_ n2_ n3_ n4_ n5_ n6_ n7_ n8_; (try clear hb); (try clear hb2); (try clear hk); (try clear hi); have hnb434 := NB281_247.out; have hnc434 := NB247_281.out; have hnb435 := NB281_252.out; have hnc435 := NB252_281.out; have hnb436 := NB281_257.out; have hnc436 := NB257_281.out; have hnb437 := NB281_265.out; have hnc437 := NB265_281.out; have hnb438 := NB281_272.out; have hnc438 := NB272_281.out; have hnb439 := NB281_277.out; have hnc439 := NB277_281.out; have hcz440_0 : w433.cell? ⟨gb281, 0, none⟩ = some (.int .i64 t278) := (blk_cell BK281.out 0).trans rfl; have hcz440_1 : w433.cell? ⟨gb281, 1, none⟩ = some (.int .i64 t279) := (blk_cell BK281.out 1).trans rfl; have hcz440_2 : w433.cell? ⟨gb281, 2, none⟩ = some (.int .i64 t280) := (blk_cell BK281.out 2).trans rfl; have hfz440_0 := blk_frozen BK281.out 0; have hfz440_1 := blk_frozen BK281.out 1; have hfz440_2 := blk_frozen BK281.out 2; have hcz441_0 : w433.cell? ⟨gb264, 0, none⟩ = some (.int .i64 t258) := (blk_cell BK264.out 0).trans rfl; have hcz441_1 : w433.cell? ⟨gb264, 1, none⟩ = some (.int .i64 t259) := (blk_cell BK264.out 1).trans rfl; have hcz441_2 : w433.cell? ⟨gb264, 2, none⟩ = some (.int .i64 t260) := (blk_cell BK264.out 2).trans rfl; have hfz441_0 := blk_frozen BK264.out 0; have hfz441_1 := blk_frozen BK264.out 1; have hfz441_2 := blk_frozen BK264.out 2; have hnb442 := NB272_247.out; have hnc442 := NB247_272.out; have hnb443 := NB272_252.out; have hnc443 := NB252_272.out; have hnb444 := NB272_257.out; have hnc444 := NB257_272.out; have hnb445 := NB272_265.out; have hnc445 := NB265_272.out; have hnb446 := NB272_277.out; have hnc446 := NB277_272.out; have hcz447_0 : w433.cell? ⟨gb272, 0, none⟩ = some (.int .i64 t268) := (blk_cell BK272.out 0).trans rfl; have hcz447_1 : w433.cell? ⟨gb272, 1, none⟩ = some (.int .i64 t269) := (blk_cell BK272.out 1).trans rfl; have hcz447_2 : w433.cell? ⟨gb272, 2, none⟩ = some (.int .i64 t270) := (blk_cell BK272.out 2).trans rfl; have hfz447_0 := blk_frozen BK272.out 0; have hfz447_1 := blk_frozen BK272.out 1; have hfz447_2 := blk_frozen BK272.out 2) | (go_at_call 17; (with_reducible refine (impl_PaceOk.calls t268 t269 t270 true _ A421.out).mono ?_); rintro e w448 ⟨rfl, hb⟩; have n0_ := Aside0.mk (blk_below (g := gb247) (o := .cells #[.int .i64 t243, .int .i64 t244, .int .i64 t245] 25 (0, 0)) (by (with_reducible repeat (first | refine blk_drewN ?_ _ | refine blk_drew ?_ | refine blk_alloc ?_ _)); exact BK247.out) hb); have n1_ := Aside0.mk (blk_below (g := gb252) (o := .cells #[.int .i64 t248, .int .i64 t249, .int .i64 t250] 25 (0, 0)) (by (with_reducible repeat (first | refine blk_drewN ?_ _ | refine blk_drew ?_ | refine blk_alloc ?_ _)); exact BK252.out) hb); have n2_ := Aside0.mk (blk_below (g := gb257) (o := .cells #[.int .i64 t253, .int .i64 t254, .int .i64 t255] 25 (0, 0)) (by (with_reducible repeat (first | refine blk_drewN ?_ _ | refine blk_drew ?_ | refine blk_alloc ?_ _)); exact BK257.out) hb); have n3_ := Aside0.mk (blk_below (g := gb264) (o := .cells #[.int .i64 t258, .int .i64 t259, .int .i64 t260] 25 (0, 0)) (by (with_reducible repeat (first | refine blk_drewN ?_ _ | refine blk_drew ?_ | refine blk_alloc ?_ _)); exact BK264.out) hb); have n4_ := Aside0.mk (blk_below (g := gb265) (o := .cells #[.int .i64 t261, .int .i64 t262, .int .i64 t263] 25 (0, 0)) (by (with_reducible repeat (first | refine blk_drewN ?_ _ | refine blk_drew ?_ | refine blk_alloc ?_ _)); exact BK265.out) hb); have n5_ := Aside0.mk (blk_below (g := gb272) (o := .cells #[.int .i64 t268, .int .i64 t269, .int .i64 t270] 25 (0, 0)) (by (with_reducible repeat (first | refine blk_drewN ?_ _ | refine blk_drew ?_ | refine blk_alloc ?_ _)); exact BK272.out) hb); have n6_ := Aside0.mk (blk_below (g := gb277) (o := .cells #[.int .i64 t273, .int .i64 t274, .int .i64 t275] 25 (0, 0)) (by (with_reducible repeat (first | refine blk_drewN ?_ _ | refine blk_drew ?_ | refine blk_alloc ?_ _)); exact BK277.out) hb); have n7_ := Aside0.mk (blk_below (g := gb281) (o := .cells #[.int .i64 t278, .int .i64 t279, .int .i64 t280] 25 (0, 0)) (by (with_reducible repeat (first | refine blk_drewN ?_ _ | refine blk_drew ?_ | refine blk_alloc ?_ _)); exact BK281.out) hb); have n8_ := Aside0.mk (below_step (by repeat (first | (with_reducible first | exact HB.out | apply below_alloc | apply pw_below_drewN | apply below_drew1 | refine below_set ?_ GE247.out | refine below_set ?_ GE252.out | refine below_set ?_ GE257.out | refine below_set ?_ GE264.out | refine below_set ?_ GE265.out | refine below_set ?_ GE272.out | refine below_set ?_ GE277.out | refine below_set ?_ GE281.out) | exact HB.out)) hb); clear BK247; clear BK252; clear BK257; clear BK264; clear BK265; clear BK272; clear BK277; clear BK281; clear HB; have BK247 := n0_; have BK252 := n1_; have BK257 := n2_; have BK264 := n3_; have BK265 := n4_; have BK272 := n5_; have BK277 := n6_; have BK281 := n7_; have HB := n8_; clear n0_ n1_ n2_ n3_ n4_ n5_ n6_ n7_ n8_; (try clear hb); (try clear hb2); (try clear hk); (try clear hi); have hcz449_0 : w448.cell? ⟨gb272, 0, none⟩ = some (.int .i64 t268) := (blk_cell BK272.out 0).trans rfl; have hcz449_1 : w448.cell? ⟨gb272, 1, none⟩ = some (.int .i64 t269) := (blk_cell BK272.out 1).trans rfl; have hcz449_2 : w448.cell? ⟨gb272, 2, none⟩ = some (.int .i64 t270) := (blk_cell BK272.out 2).trans rfl; have hfz449_0 := blk_frozen BK272.out 0; have hfz449_1 := blk_frozen BK272.out 1; have hfz449_2 := blk_frozen BK272.out 2))
                      go_meet
                      case rel => exact ⟨_, ((t268 != t266)), (by first | rfl | (simp; done) | (simp [*]; done)), H', ⟨by have := HJ12.out; first | omega | exact Nat.le_refl _⟩, ⟨by (with_reducible repeat (first | refine blk_drewN ?_ _ | refine blk_drew ?_ | refine blk_alloc ?_ _)); exact BK247.out⟩, ⟨by (with_reducible repeat (first | refine blk_drewN ?_ _ | refine blk_drew ?_ | refine blk_alloc ?_ _)); exact BK252.out⟩, ⟨by (with_reducible repeat (first | refine blk_drewN ?_ _ | refine blk_drew ?_ | refine blk_alloc ?_ _)); exact BK257.out⟩, ⟨by (with_reducible repeat (first | refine blk_drewN ?_ _ | refine blk_drew ?_ | refine blk_alloc ?_ _)); exact BK264.out⟩, ⟨by (with_reducible repeat (first | refine blk_drewN ?_ _ | refine blk_drew ?_ | refine blk_alloc ?_ _)); exact BK265.out⟩, ⟨by (with_reducible repeat (first | refine blk_drewN ?_ _ | refine blk_drew ?_ | refine blk_alloc ?_ _)); exact BK272.out⟩, ⟨by (with_reducible repeat (first | refine blk_drewN ?_ _ | refine blk_drew ?_ | refine blk_alloc ?_ _)); exact BK277.out⟩, ⟨by (with_reducible repeat (first | refine blk_drewN ?_ _ | refine blk_drew ?_ | refine blk_alloc ?_ _)); exact BK281.out⟩, ⟨by repeat (first | (with_reducible first | exact HB.out | apply below_alloc | apply pw_below_drewN | apply below_drew1 | refine below_set ?_ GE247.out | refine below_set ?_ GE252.out | refine below_set ?_ GE257.out | refine below_set ?_ GE264.out | refine below_set ?_ GE265.out | refine below_set ?_ GE272.out | refine below_set ?_ GE277.out | refine below_set ?_ GE281.out) | exact HB.out)⟩⟩
                    · replace c422 := Bool.eq_false_iff.mpr c422
                      subst c422
                      have H1 : (laws_FnPaces.j1 kj12 t246 t251 true t243 t244 t245 t248 t249 t250) = some r := by rw [if_neg (show ¬ (false = true) by decide)] at H; exact H
                      exact absurd (H1.trans (congrArg some hrt)) (j1t _ _ _ _ _ _ _ _ _)
                  · replace c420 := Bool.eq_false_iff.mpr c420
                    subst c420
                    have H1 : (laws_FnPaces.j1 kj12 t246 t251 false t243 t244 t245 t248 t249 t250) = some r := by rw [if_neg (show ¬ (false = true) by decide)] at H; exact H
                    clear H
                    have H := H1
                    clear H1
                    have H' := Aside0.mk H
                    clear H
                    have hnb476 := NB264_247.out
                    have hnc476 := NB247_264.out
                    have hnb477 := NB264_252.out
                    have hnc477 := NB252_264.out
                    have hnb478 := NB264_257.out
                    have hnc478 := NB257_264.out
                    have hnb479 := NB264_265.out
                    have hnc479 := NB265_264.out
                    have hnb480 := NB264_272.out
                    have hnc480 := NB272_264.out
                    have hnb481 := NB264_277.out
                    have hnc481 := NB277_264.out
                    have hnb482 := NB264_281.out
                    have hnc482 := NB281_264.out
                    have hcz483_0 : wc.cell? ⟨gb264, 0, none⟩ = some (.int .i64 t258) := (blk_cell BK264.out 0).trans rfl
                    have hcz483_1 : wc.cell? ⟨gb264, 1, none⟩ = some (.int .i64 t259) := (blk_cell BK264.out 1).trans rfl
                    have hcz483_2 : wc.cell? ⟨gb264, 2, none⟩ = some (.int .i64 t260) := (blk_cell BK264.out 2).trans rfl
                    have hfz483_0 := blk_frozen BK264.out 0
                    have hfz483_1 := blk_frozen BK264.out 1
                    have hfz483_2 := blk_frozen BK264.out 2
                    go_wp2_with (first | ((with_reducible refine gate_callee (f := 17) rfl ?_); refine goesL_ (some 92) rfl rfl Try.func17 (by kernel_rfl) rfl #[.agg #[.int .i64 t258, .int .i64 t259, .int .i64 t260]] rfl (by (try simp only [List.map_toArray, List.map_cons, List.map_nil]); first | done | rfl | (simp only [List.length_drop, List.length_take]; rfl)) ?_; (with_reducible refine (impl_PaceOk.calls t258 t259 t260 false _ A97.out).mono ?_); rintro e w484 ⟨rfl, hb⟩; refine ⟨_, rfl, ?_⟩; have n0_ := Aside0.mk (blk_below (g := gb247) (o := .cells #[.int .i64 t243, .int .i64 t244, .int .i64 t245] 25 (0, 0)) (by (with_reducible repeat (first | refine blk_drewN ?_ _ | refine blk_drew ?_ | refine blk_alloc ?_ _)); exact BK247.out) hb); have n1_ := Aside0.mk (blk_below (g := gb252) (o := .cells #[.int .i64 t248, .int .i64 t249, .int .i64 t250] 25 (0, 0)) (by (with_reducible repeat (first | refine blk_drewN ?_ _ | refine blk_drew ?_ | refine blk_alloc ?_ _)); exact BK252.out) hb); have n2_ := Aside0.mk (blk_below (g := gb257) (o := .cells #[.int .i64 t253, .int .i64 t254, .int .i64 t255] 25 (0, 0)) (by (with_reducible repeat (first | refine blk_drewN ?_ _ | refine blk_drew ?_ | refine blk_alloc ?_ _)); exact BK257.out) hb); have n3_ := Aside0.mk (blk_below (g := gb264) (o := .cells #[.int .i64 t258, .int .i64 t259, .int .i64 t260] 25 (0, 0)) (by (with_reducible repeat (first | refine blk_drewN ?_ _ | refine blk_drew ?_ | refine blk_alloc ?_ _)); exact BK264.out) hb); have n4_ := Aside0.mk (blk_below (g := gb265) (o := .cells #[.int .i64 t261, .int .i64 t262, .int .i64 t263] 25 (0, 0)) (by (with_reducible repeat (first | refine blk_drewN ?_ _ | refine blk_drew ?_ | refine blk_alloc ?_ _)); exact BK265.out) hb); have n5_ := Aside0.mk (blk_below (g := gb272) (o := .cells #[.int .i64 t268, .int .i64 t269, .int .i64 t270] 25 (0, 0)) (by (with_reducible repeat (first | refine blk_drewN ?_ _ | refine blk_drew ?_ | refine blk_alloc ?_ _)); exact BK272.out) hb); have n6_ := Aside0.mk (blk_below (g := gb277) (o := .cells #[.int .i64 t273, .int .i64 t274, .int .i64 t275] 25 (0, 0)) (by (with_reducible repeat (first | refine blk_drewN ?_ _ | refine blk_drew ?_ | refine blk_alloc ?_ _)); exact BK277.out) hb); have n7_ := Aside0.mk (blk_below (g := gb281) (o := .cells #[.int .i64 t278, .int .i64 t279, .int .i64 t280] 25 (0, 0)) (by (with_reducible repeat (first | refine blk_drewN ?_ _ | refine blk_drew ?_ | refine blk_alloc ?_ _)); exact BK281.out) hb); have n8_ := Aside0.mk (below_step (by repeat (first | (with_reducible first | exact HB.out | apply below_alloc | apply pw_below_drewN | apply below_drew1 | refine below_set ?_ GE247.out | refine below_set ?_ GE252.out | refine below_set ?_ GE257.out | refine below_set ?_ GE264.out | refine below_set ?_ GE265.out | refine below_set ?_ GE272.out | refine below_set ?_ GE277.out | refine below_set ?_ GE281.out) | exact HB.out)) hb); clear BK247; clear BK252; clear BK257; clear BK264; clear BK265; clear BK272; clear BK277; clear BK281; clear HB; have BK247 := n0_; have BK252 := n1_; have BK257 := n2_; have BK264 := n3_; have BK265 := n4_; have BK272 := n5_; have BK277 := n6_; have BK281 := n7_; have HB := n8_; clear n0_ n1_ n2_ n3_ n4_ n5_ n6_ n7_ n8_; (try clear hb); (try clear hb2); (try clear hk); (try clear hi); have hcz485_0 : w484.cell? ⟨gb264, 0, none⟩ = some (.int .i64 t258) := (blk_cell BK264.out 0).trans rfl; have hcz485_1 : w484.cell? ⟨gb264, 1, none⟩ = some (.int .i64 t259) := (blk_cell BK264.out 1).trans rfl; have hcz485_2 : w484.cell? ⟨gb264, 2, none⟩ = some (.int .i64 t260) := (blk_cell BK264.out 2).trans rfl; have hfz485_0 := blk_frozen BK264.out 0; have hfz485_1 := blk_frozen BK264.out 1; have hfz485_2 := blk_frozen BK264.out 2) | (go_at_call 17; (with_reducible refine (impl_PaceOk.calls t258 t259 t260 false _ A345.out).mono ?_); rintro e w486 ⟨rfl, hb⟩; have n0_ := Aside0.mk (blk_below (g := gb247) (o := .cells #[.int .i64 t243, .int .i64 t244, .int .i64 t245] 25 (0, 0)) (by (with_reducible repeat (first | refine blk_drewN ?_ _ | refine blk_drew ?_ | refine blk_alloc ?_ _)); exact BK247.out) hb); have n1_ := Aside0.mk (blk_below (g := gb252) (o := .cells #[.int .i64 t248, .int .i64 t249, .int .i64 t250] 25 (0, 0)) (by (with_reducible repeat (first | refine blk_drewN ?_ _ | refine blk_drew ?_ | refine blk_alloc ?_ _)); exact BK252.out) hb); have n2_ := Aside0.mk (blk_below (g := gb257) (o := .cells #[.int .i64 t253, .int .i64 t254, .int .i64 t255] 25 (0, 0)) (by (with_reducible repeat (first | refine blk_drewN ?_ _ | refine blk_drew ?_ | refine blk_alloc ?_ _)); exact BK257.out) hb); have n3_ := Aside0.mk (blk_below (g := gb264) (o := .cells #[.int .i64 t258, .int .i64 t259, .int .i64 t260] 25 (0, 0)) (by (with_reducible repeat (first | refine blk_drewN ?_ _ | refine blk_drew ?_ | refine blk_alloc ?_ _)); exact BK264.out) hb); have n4_ := Aside0.mk (blk_below (g := gb265) (o := .cells #[.int .i64 t261, .int .i64 t262, .int .i64 t263] 25 (0, 0)) (by (with_reducible repeat (first | refine blk_drewN ?_ _ | refine blk_drew ?_ | refine blk_alloc ?_ _)); exact BK265.out) hb); have n5_ := Aside0.mk (blk_below (g := gb272) (o := .cells #[.int .i64 t268, .int .i64 t269, .int .i64 t270] 25 (0, 0)) (by (with_reducible repeat (first | refine blk_drewN ?_ _ | refine blk_drew ?_ | refine blk_alloc ?_ _)); exact BK272.out) hb); have n6_ := Aside0.mk (blk_below (g := gb277) (o := .cells #[.int .i64 t273, .int .i64 t274, .int .i64 t275] 25 (0, 0)) (by (with_reducible repeat (first | refine blk_drewN ?_ _ | refine blk_drew ?_ | refine blk_alloc ?_ _)); exact BK277.out) hb); have n7_ := Aside0.mk (blk_below (g := gb281) (o := .cells #[.int .i64 t278, .int .i64 t279, .int .i64 t280] 25 (0, 0)) (by (with_reducible repeat (first | refine blk_drewN ?_ _ | refine blk_drew ?_ | refine blk_alloc ?_ _)); exact BK281.out) hb); have n8_ := Aside0.mk (below_step (by repeat (first | (with_reducible first | exact HB.out | apply below_alloc | apply pw_below_drewN | apply below_drew1 | refine below_set ?_ GE247.out | refine below_set ?_ GE252.out | refine below_set ?_ GE257.out | refine below_set ?_ GE264.out | refine below_set ?_ GE265.out | refine below_set ?_ GE272.out | refine below_set ?_ GE277.out | refine below_set ?_ GE281.out) | exact HB.out)) hb); clear BK247; clear BK252; clear BK257; clear BK264; clear BK265; clear BK272; clear BK277; clear BK281; clear HB; have BK247 := n0_; have BK252 := n1_; have BK257 := n2_; have BK264 := n3_; have BK265 := n4_; have BK272 := n5_; have BK277 := n6_; have BK281 := n7_; have HB := n8_; clear n0_ n1_ n2_ n3_ n4_ n5_ n6_ n7_ n8_; (try clear hb); (try clear hb2); (try clear hk); (try clear hi); have hnb487 := NB281_247.out; have hnc487 := NB247_281.out; have hnb488 := NB281_252.out; have hnc488 := NB252_281.out; have hnb489 := NB281_257.out; have hnc489 := NB257_281.out; have hnb490 := NB281_265.out; have hnc490 := NB265_281.out; have hnb491 := NB281_272.out; have hnc491 := NB272_281.out; have hnb492 := NB281_277.out; have hnc492 := NB277_281.out; have hcz493_0 : w486.cell? ⟨gb281, 0, none⟩ = some (.int .i64 t278) := (blk_cell BK281.out 0).trans rfl; have hcz493_1 : w486.cell? ⟨gb281, 1, none⟩ = some (.int .i64 t279) := (blk_cell BK281.out 1).trans rfl; have hcz493_2 : w486.cell? ⟨gb281, 2, none⟩ = some (.int .i64 t280) := (blk_cell BK281.out 2).trans rfl; have hfz493_0 := blk_frozen BK281.out 0; have hfz493_1 := blk_frozen BK281.out 1; have hfz493_2 := blk_frozen BK281.out 2; have hcz494_0 : w486.cell? ⟨gb264, 0, none⟩ = some (.int .i64 t258) := (blk_cell BK264.out 0).trans rfl; have hcz494_1 : w486.cell? ⟨gb264, 1, none⟩ = some (.int .i64 t259) := (blk_cell BK264.out 1).trans rfl; have hcz494_2 : w486.cell? ⟨gb264, 2, none⟩ = some (.int .i64 t260) := (blk_cell BK264.out 2).trans rfl; have hfz494_0 := blk_frozen BK264.out 0; have hfz494_1 := blk_frozen BK264.out 1; have hfz494_2 := blk_frozen BK264.out 2))
                    go_meet
                    case rel => exact ⟨_, (false), (by first | rfl | (simp; done) | (simp [*]; done)), H', ⟨by have := HJ12.out; first | omega | exact Nat.le_refl _⟩, ⟨by (with_reducible repeat (first | refine blk_drewN ?_ _ | refine blk_drew ?_ | refine blk_alloc ?_ _)); exact BK247.out⟩, ⟨by (with_reducible repeat (first | refine blk_drewN ?_ _ | refine blk_drew ?_ | refine blk_alloc ?_ _)); exact BK252.out⟩, ⟨by (with_reducible repeat (first | refine blk_drewN ?_ _ | refine blk_drew ?_ | refine blk_alloc ?_ _)); exact BK257.out⟩, ⟨by (with_reducible repeat (first | refine blk_drewN ?_ _ | refine blk_drew ?_ | refine blk_alloc ?_ _)); exact BK264.out⟩, ⟨by (with_reducible repeat (first | refine blk_drewN ?_ _ | refine blk_drew ?_ | refine blk_alloc ?_ _)); exact BK265.out⟩, ⟨by (with_reducible repeat (first | refine blk_drewN ?_ _ | refine blk_drew ?_ | refine blk_alloc ?_ _)); exact BK272.out⟩, ⟨by (with_reducible repeat (first | refine blk_drewN ?_ _ | refine blk_drew ?_ | refine blk_alloc ?_ _)); exact BK277.out⟩, ⟨by (with_reducible repeat (first | refine blk_drewN ?_ _ | refine blk_drew ?_ | refine blk_alloc ?_ _)); exact BK281.out⟩, ⟨by repeat (first | (with_reducible first | exact HB.out | apply below_alloc | apply pw_below_drewN | apply below_drew1 | refine below_set ?_ GE247.out | refine below_set ?_ GE252.out | refine below_set ?_ GE257.out | refine below_set ?_ GE264.out | refine below_set ?_ GE265.out | refine below_set ?_ GE272.out | refine below_set ?_ GE277.out | refine below_set ?_ GE281.out) | exact HB.out)⟩⟩
          case rest =>
            clear HC96
            try clear c1
            try clear c2
            try clear p2
            try clear c3
            try clear c4
            try clear c9
            try clear c10
            try clear c11
            try clear c12
            try clear c13
            try clear c14
            try clear c15
            try clear c16
            try clear c17
            try clear c18
            try clear c19
            try clear c20
            try clear c21
            try clear c22
            try clear c23
            try clear c24
            try clear c25
            try clear c26
            try clear c27
            try clear c28
            try clear c29
            try clear c30
            try clear c31
            try clear c32
            try clear c33
            try clear c34
            try clear c35
            try clear c36
            try clear c37
            try clear c38
            try clear c39
            try clear c40
            try clear c41
            try clear c42
            try clear c43
            try clear c44
            try clear c45
            try clear c46
            try clear c47
            try clear c48
            try clear c49
            try clear c98
            try clear c100
            try clear c101
            try clear c101b0
            try clear c108
            try clear c111
            try clear c112
            try clear c113
            try clear c114
            try clear c115
            try clear c116
            try clear c121
            try clear c121b0
            try clear c122
            try clear c123
            try clear c124
            try clear c125
            try clear c126
            try clear c127
            try clear c128
            try clear c131
            try clear c132
            try clear c133
            try clear c134
            try clear c135
            try clear c136
            try clear c142
            try clear c143
            try clear c145
            try clear c146
            try clear c147
            try clear c148
            try clear c149
            try clear c150
            try clear c151
            try clear c152
            try clear c155
            try clear c156
            try clear c157
            try clear c158
            try clear c159
            try clear c160
            try clear c166
            try clear c167
            try clear c168
            try clear c169
            try clear c170
            try clear c174
            try clear c175
            try clear c176
            try clear c177
            try clear c178
            try clear c179
            try clear c180
            try clear c183
            try clear c184
            try clear c185
            try clear c186
            try clear c187
            try clear c188
            try clear c194
            try clear c195
            try clear c196
            try clear c197
            try clear c198
            try clear c201
            try clear c202
            try clear c203
            try clear c204
            try clear c205
            try clear c206
            try clear c207
            try clear c210
            try clear c211
            try clear c212
            try clear c213
            try clear c214
            try clear c215
            try clear c221
            try clear c221b0
            try clear c222
            try clear c223
            try clear c224
            try clear c225
            try clear c226
            try clear c227
            try clear c228
            try clear c231
            try clear c232
            try clear c233
            try clear c234
            try clear c235
            try clear c236
            try clear c244
            try clear c246
            try clear c247
            try clear c248
            try clear c249
            try clear c250
            try clear c251
            try clear c252
            try clear c253
            try clear c256
            try clear c257
            try clear c258
            try clear c259
            try clear c260
            try clear c261
            try clear c269
            try clear c270
            try clear c271
            try clear c272
            try clear c273
            try clear c277
            try clear c278
            try clear c279
            try clear c280
            try clear c281
            try clear c282
            try clear c283
            try clear c286
            try clear c287
            try clear c288
            try clear c289
            try clear c290
            try clear c291
            try clear c299
            try clear c300
            try clear c301
            try clear c302
            try clear c303
            try clear c306
            try clear c307
            try clear c308
            try clear c309
            try clear c310
            try clear c311
            try clear c312
            try clear c315
            try clear c316
            try clear c317
            try clear c318
            try clear c319
            try clear c320
            try clear c328
            try clear c329
            try clear c330
            try clear c331
            try clear c332
            try clear c333
            try clear c334
            try clear c337
            try clear c338
            try clear c339
            try clear c340
            try clear c341
            try clear c342
            try clear c346
            try clear c347
            try clear c349
            try clear c350
            try clear c351
            try clear c352
            try clear c353
            try clear c354
            try clear c355
            try clear c356
            try clear c361
            try clear c362
            try clear c363
            try clear c364
            try clear c365
            try clear c366
            try clear c370
            try clear c371
            try clear c372
            try clear c373
            try clear c374
            try clear c375
            try clear c376
            try clear c381
            try clear c382
            try clear c383
            try clear c384
            try clear c385
            try clear c386
            try clear c389
            try clear c390
            try clear c391
            try clear c392
            try clear c393
            try clear c394
            try clear c395
            try clear c400
            try clear c400b0
            try clear c401
            try clear c402
            try clear c403
            try clear c404
            try clear c405
            try clear c406
            try clear c407
            try clear c412
            try clear c413
            try clear c414
            try clear c415
            try clear c416
            try clear c417
            try clear c420
            try clear c422
            try clear c423
            try clear c424
            try clear c425
            try clear c426
            try clear c427
            try clear c428
            try clear c429
            try clear c434
            try clear c435
            try clear c436
            try clear c437
            try clear c438
            try clear c439
            try clear c442
            try clear c443
            try clear c444
            try clear c445
            try clear c446
            try clear c450
            try clear c451
            try clear c452
            try clear c453
            try clear c454
            try clear c455
            try clear c456
            try clear c461
            try clear c462
            try clear c463
            try clear c464
            try clear c465
            try clear c466
            try clear c469
            try clear c470
            try clear c471
            try clear c472
            try clear c473
            try clear c476
            try clear c477
            try clear c478
            try clear c479
            try clear c480
            try clear c481
            try clear c482
            try clear c487
            try clear c488
            try clear c489
            try clear c490
            try clear c491
            try clear c492
            try clear hcz109_0
            try clear hcz109_1
            try clear hcz109_2
            try clear hcz117_0
            try clear hcz117_1
            try clear hcz117_2
            try clear hcz119_0
            try clear hcz119_1
            try clear hcz119_2
            try clear hcz120_0
            try clear hcz120_1
            try clear hcz120_2
            try clear hcz129_0
            try clear hcz129_1
            try clear hcz129_2
            try clear hcz137_0
            try clear hcz137_1
            try clear hcz137_2
            try clear hcz139_0
            try clear hcz139_1
            try clear hcz139_2
            try clear hcz140_0
            try clear hcz140_1
            try clear hcz140_2
            try clear hcz153_0
            try clear hcz153_1
            try clear hcz153_2
            try clear hcz161_0
            try clear hcz161_1
            try clear hcz161_2
            try clear hcz163_0
            try clear hcz163_1
            try clear hcz163_2
            try clear hcz164_0
            try clear hcz164_1
            try clear hcz164_2
            try clear hcz171_0
            try clear hcz171_1
            try clear hcz171_2
            try clear hcz173_0
            try clear hcz173_1
            try clear hcz173_2
            try clear hcz181_0
            try clear hcz181_1
            try clear hcz181_2
            try clear hcz189_0
            try clear hcz189_1
            try clear hcz189_2
            try clear hcz191_0
            try clear hcz191_1
            try clear hcz191_2
            try clear hcz192_0
            try clear hcz192_1
            try clear hcz192_2
            try clear hcz199_0
            try clear hcz199_1
            try clear hcz199_2
            try clear hcz208_0
            try clear hcz208_1
            try clear hcz208_2
            try clear hcz216_0
            try clear hcz216_1
            try clear hcz216_2
            try clear hcz218_0
            try clear hcz218_1
            try clear hcz218_2
            try clear hcz219_0
            try clear hcz219_1
            try clear hcz219_2
            try clear hcz229_0
            try clear hcz229_1
            try clear hcz229_2
            try clear hcz237_0
            try clear hcz237_1
            try clear hcz237_2
            try clear hcz239_0
            try clear hcz239_1
            try clear hcz239_2
            try clear hcz240_0
            try clear hcz240_1
            try clear hcz240_2
            try clear hcz242_0
            try clear hcz242_1
            try clear hcz242_2
            try clear hcz243_0
            try clear hcz243_1
            try clear hcz243_2
            try clear hcz254_0
            try clear hcz254_1
            try clear hcz254_2
            try clear hcz262_0
            try clear hcz262_1
            try clear hcz262_2
            try clear hcz264_0
            try clear hcz264_1
            try clear hcz264_2
            try clear hcz265_0
            try clear hcz265_1
            try clear hcz265_2
            try clear hcz267_0
            try clear hcz267_1
            try clear hcz267_2
            try clear hcz268_0
            try clear hcz268_1
            try clear hcz268_2
            try clear hcz274_0
            try clear hcz274_1
            try clear hcz274_2
            try clear hcz276_0
            try clear hcz276_1
            try clear hcz276_2
            try clear hcz284_0
            try clear hcz284_1
            try clear hcz284_2
            try clear hcz292_0
            try clear hcz292_1
            try clear hcz292_2
            try clear hcz294_0
            try clear hcz294_1
            try clear hcz294_2
            try clear hcz295_0
            try clear hcz295_1
            try clear hcz295_2
            try clear hcz297_0
            try clear hcz297_1
            try clear hcz297_2
            try clear hcz298_0
            try clear hcz298_1
            try clear hcz298_2
            try clear hcz304_0
            try clear hcz304_1
            try clear hcz304_2
            try clear hcz313_0
            try clear hcz313_1
            try clear hcz313_2
            try clear hcz321_0
            try clear hcz321_1
            try clear hcz321_2
            try clear hcz323_0
            try clear hcz323_1
            try clear hcz323_2
            try clear hcz324_0
            try clear hcz324_1
            try clear hcz324_2
            try clear hcz326_0
            try clear hcz326_1
            try clear hcz326_2
            try clear hcz327_0
            try clear hcz327_1
            try clear hcz327_2
            try clear hcz335_0
            try clear hcz335_1
            try clear hcz335_2
            try clear hcz343_0
            try clear hcz343_1
            try clear hcz343_2
            try clear hcz357_0
            try clear hcz357_1
            try clear hcz357_2
            try clear hcz359_0
            try clear hcz359_1
            try clear hcz359_2
            try clear hcz367_0
            try clear hcz367_1
            try clear hcz367_2
            try clear hcz369_0
            try clear hcz369_1
            try clear hcz369_2
            try clear hcz377_0
            try clear hcz377_1
            try clear hcz377_2
            try clear hcz379_0
            try clear hcz379_1
            try clear hcz379_2
            try clear hcz387_0
            try clear hcz387_1
            try clear hcz387_2
            try clear hcz396_0
            try clear hcz396_1
            try clear hcz396_2
            try clear hcz398_0
            try clear hcz398_1
            try clear hcz398_2
            try clear hcz408_0
            try clear hcz408_1
            try clear hcz408_2
            try clear hcz410_0
            try clear hcz410_1
            try clear hcz410_2
            try clear hcz418_0
            try clear hcz418_1
            try clear hcz418_2
            try clear hcz419_0
            try clear hcz419_1
            try clear hcz419_2
            try clear hcz430_0
            try clear hcz430_1
            try clear hcz430_2
            try clear hcz432_0
            try clear hcz432_1
            try clear hcz432_2
            try clear hcz440_0
            try clear hcz440_1
            try clear hcz440_2
            try clear hcz441_0
            try clear hcz441_1
            try clear hcz441_2
            try clear hcz447_0
            try clear hcz447_1
            try clear hcz447_2
            try clear hcz449_0
            try clear hcz449_1
            try clear hcz449_2
            try clear hcz457_0
            try clear hcz457_1
            try clear hcz457_2
            try clear hcz459_0
            try clear hcz459_1
            try clear hcz459_2
            try clear hcz467_0
            try clear hcz467_1
            try clear hcz467_2
            try clear hcz468_0
            try clear hcz468_1
            try clear hcz468_2
            try clear hcz474_0
            try clear hcz474_1
            try clear hcz474_2
            try clear hcz483_0
            try clear hcz483_1
            try clear hcz483_2
            try clear hcz485_0
            try clear hcz485_1
            try clear hcz485_2
            try clear hcz493_0
            try clear hcz493_1
            try clear hcz493_2
            try clear hcz494_0
            try clear hcz494_1
            try clear hcz494_2
            try clear hfz109_0
            try clear hfz109_1
            try clear hfz109_2
            try clear hfz117_0
            try clear hfz117_1
            try clear hfz117_2
            try clear hfz119_0
            try clear hfz119_1
            try clear hfz119_2
            try clear hfz120_0
            try clear hfz120_1
            try clear hfz120_2
            try clear hfz129_0
            try clear hfz129_1
            try clear hfz129_2
            try clear hfz137_0
            try clear hfz137_1
            try clear hfz137_2
            try clear hfz139_0
            try clear hfz139_1
            try clear hfz139_2
            try clear hfz140_0
            try clear hfz140_1
            try clear hfz140_2
            try clear hfz153_0
            try clear hfz153_1
            try clear hfz153_2
            try clear hfz161_0
            try clear hfz161_1
            try clear hfz161_2
            try clear hfz163_0
            try clear hfz163_1
            try clear hfz163_2
            try clear hfz164_0
            try clear hfz164_1
            try clear hfz164_2
            try clear hfz171_0
            try clear hfz171_1
            try clear hfz171_2
            try clear hfz173_0
            try clear hfz173_1
            try clear hfz173_2
            try clear hfz181_0
            try clear hfz181_1
            try clear hfz181_2
            try clear hfz189_0
            try clear hfz189_1
            try clear hfz189_2
            try clear hfz191_0
            try clear hfz191_1
            try clear hfz191_2
            try clear hfz192_0
            try clear hfz192_1
            try clear hfz192_2
            try clear hfz199_0
            try clear hfz199_1
            try clear hfz199_2
            try clear hfz208_0
            try clear hfz208_1
            try clear hfz208_2
            try clear hfz216_0
            try clear hfz216_1
            try clear hfz216_2
            try clear hfz218_0
            try clear hfz218_1
            try clear hfz218_2
            try clear hfz219_0
            try clear hfz219_1
            try clear hfz219_2
            try clear hfz229_0
            try clear hfz229_1
            try clear hfz229_2
            try clear hfz237_0
            try clear hfz237_1
            try clear hfz237_2
            try clear hfz239_0
            try clear hfz239_1
            try clear hfz239_2
            try clear hfz240_0
            try clear hfz240_1
            try clear hfz240_2
            try clear hfz242_0
            try clear hfz242_1
            try clear hfz242_2
            try clear hfz243_0
            try clear hfz243_1
            try clear hfz243_2
            try clear hfz254_0
            try clear hfz254_1
            try clear hfz254_2
            try clear hfz262_0
            try clear hfz262_1
            try clear hfz262_2
            try clear hfz264_0
            try clear hfz264_1
            try clear hfz264_2
            try clear hfz265_0
            try clear hfz265_1
            try clear hfz265_2
            try clear hfz267_0
            try clear hfz267_1
            try clear hfz267_2
            try clear hfz268_0
            try clear hfz268_1
            try clear hfz268_2
            try clear hfz274_0
            try clear hfz274_1
            try clear hfz274_2
            try clear hfz276_0
            try clear hfz276_1
            try clear hfz276_2
            try clear hfz284_0
            try clear hfz284_1
            try clear hfz284_2
            try clear hfz292_0
            try clear hfz292_1
            try clear hfz292_2
            try clear hfz294_0
            try clear hfz294_1
            try clear hfz294_2
            try clear hfz295_0
            try clear hfz295_1
            try clear hfz295_2
            try clear hfz297_0
            try clear hfz297_1
            try clear hfz297_2
            try clear hfz298_0
            try clear hfz298_1
            try clear hfz298_2
            try clear hfz304_0
            try clear hfz304_1
            try clear hfz304_2
            try clear hfz313_0
            try clear hfz313_1
            try clear hfz313_2
            try clear hfz321_0
            try clear hfz321_1
            try clear hfz321_2
            try clear hfz323_0
            try clear hfz323_1
            try clear hfz323_2
            try clear hfz324_0
            try clear hfz324_1
            try clear hfz324_2
            try clear hfz326_0
            try clear hfz326_1
            try clear hfz326_2
            try clear hfz327_0
            try clear hfz327_1
            try clear hfz327_2
            try clear hfz335_0
            try clear hfz335_1
            try clear hfz335_2
            try clear hfz343_0
            try clear hfz343_1
            try clear hfz343_2
            try clear hfz357_0
            try clear hfz357_1
            try clear hfz357_2
            try clear hfz359_0
            try clear hfz359_1
            try clear hfz359_2
            try clear hfz367_0
            try clear hfz367_1
            try clear hfz367_2
            try clear hfz369_0
            try clear hfz369_1
            try clear hfz369_2
            try clear hfz377_0
            try clear hfz377_1
            try clear hfz377_2
            try clear hfz379_0
            try clear hfz379_1
            try clear hfz379_2
            try clear hfz387_0
            try clear hfz387_1
            try clear hfz387_2
            try clear hfz396_0
            try clear hfz396_1
            try clear hfz396_2
            try clear hfz398_0
            try clear hfz398_1
            try clear hfz398_2
            try clear hfz408_0
            try clear hfz408_1
            try clear hfz408_2
            try clear hfz410_0
            try clear hfz410_1
            try clear hfz410_2
            try clear hfz418_0
            try clear hfz418_1
            try clear hfz418_2
            try clear hfz419_0
            try clear hfz419_1
            try clear hfz419_2
            try clear hfz430_0
            try clear hfz430_1
            try clear hfz430_2
            try clear hfz432_0
            try clear hfz432_1
            try clear hfz432_2
            try clear hfz440_0
            try clear hfz440_1
            try clear hfz440_2
            try clear hfz441_0
            try clear hfz441_1
            try clear hfz441_2
            try clear hfz447_0
            try clear hfz447_1
            try clear hfz447_2
            try clear hfz449_0
            try clear hfz449_1
            try clear hfz449_2
            try clear hfz457_0
            try clear hfz457_1
            try clear hfz457_2
            try clear hfz459_0
            try clear hfz459_1
            try clear hfz459_2
            try clear hfz467_0
            try clear hfz467_1
            try clear hfz467_2
            try clear hfz468_0
            try clear hfz468_1
            try clear hfz468_2
            try clear hfz474_0
            try clear hfz474_1
            try clear hfz474_2
            try clear hfz483_0
            try clear hfz483_1
            try clear hfz483_2
            try clear hfz485_0
            try clear hfz485_1
            try clear hfz485_2
            try clear hfz493_0
            try clear hfz493_1
            try clear hfz493_2
            try clear hfz494_0
            try clear hfz494_1
            try clear hfz494_2
            obtain ⟨kq, x135_95, rfl, HA, HJ95, BK247, BK252, BK257, BK264, BK265, BK272, BK277, BK281, HB⟩ := hcut
            cases kq with
            | zero => exact absurd HA.out (by simp [laws_FnPaces.j1])
            | succ kj95 =>
              have H := HA.out
              clear HA
              simp only [laws_FnPaces.j1] at H
              by_cases c495 : x135_95 = true
              · subst c495
                have H1 : (some false) = some r := by rw [if_pos rfl] at H; exact H
                exact absurd (H1.trans (congrArg some hrt)) (by simp)
              · replace c495 := Bool.eq_false_iff.mpr c495
                subst c495
                have H1 : (if t251 = true then ((impl_PaceOk.f t248 t249 t250).bind fun t295 => (if t295 = true then (some (t248 == (wrap64 (t243 - t246)))) else (some false))) else (some (t248 == t243 && (t249 == t244 && (t250 == t245))))) = some r := by rw [if_neg (show ¬ (false = true) by decide)] at H; exact H
                clear H
                have H := H1
                clear H1
                by_cases c496 : t251 = true
                · subst c496
                  have H1 : ((impl_PaceOk.f t248 t249 t250).bind fun t295 => (if t295 = true then (some (t248 == (wrap64 (t243 - t246)))) else (some false))) = some r := by rw [if_pos rfl] at H; exact H
                  clear H
                  have H := H1
                  clear H1
                  replace H := Option.bind_eq_some_iff.mp H
                  obtain ⟨t295, A4970, H⟩ := H
                  replace H : (if t295 = true then (some (t248 == (wrap64 (t243 - t246)))) else (some false)) = some r := H
                  have A497 := Aside0.mk A4970
                  clear A4970
                  by_cases c498 : t295 = true
                  · subst c498
                    have H1 : (some (t248 == (wrap64 (t243 - t246)))) = some r := by rw [if_pos rfl] at H; exact H
                    clear H
                    have H := H1
                    clear H1
                    obtain rfl := Option.some.inj H
                    have hnb499 := NB252_247.out
                    have hnc499 := NB247_252.out
                    have hnb500 := NB252_257.out
                    have hnc500 := NB257_252.out
                    have hnb501 := NB252_264.out
                    have hnc501 := NB264_252.out
                    have hnb502 := NB252_265.out
                    have hnc502 := NB265_252.out
                    have hnb503 := NB252_272.out
                    have hnc503 := NB272_252.out
                    have hnb504 := NB252_277.out
                    have hnc504 := NB277_252.out
                    have hnb505 := NB252_281.out
                    have hnc505 := NB281_252.out
                    have hcz506_0 : wc.cell? ⟨gb252, 0, none⟩ = some (.int .i64 t248) := (blk_cell BK252.out 0).trans rfl
                    have hcz506_1 : wc.cell? ⟨gb252, 1, none⟩ = some (.int .i64 t249) := (blk_cell BK252.out 1).trans rfl
                    have hcz506_2 : wc.cell? ⟨gb252, 2, none⟩ = some (.int .i64 t250) := (blk_cell BK252.out 2).trans rfl
                    have hfz506_0 := blk_frozen BK252.out 0
                    have hfz506_1 := blk_frozen BK252.out 1
                    have hfz506_2 := blk_frozen BK252.out 2
                    go_wp2_with (first | ((with_reducible refine gate_callee (f := 17) rfl ?_); refine goesL_ (some 142) rfl rfl Try.func17 (by kernel_rfl) rfl #[.agg #[.int .i64 t248, .int .i64 t249, .int .i64 t250]] rfl (by (try simp only [List.map_toArray, List.map_cons, List.map_nil]); first | done | rfl | (simp only [List.length_drop, List.length_take]; rfl)) ?_; (with_reducible refine (impl_PaceOk.calls t248 t249 t250 true _ A497.out).mono ?_); rintro e w507 ⟨rfl, hb⟩; refine ⟨_, rfl, ?_⟩; have n0_ := Aside0.mk (blk_below (g := gb247) (o := .cells #[.int .i64 t243, .int .i64 t244, .int .i64 t245] 25 (0, 0)) (by (with_reducible repeat (first | refine blk_drewN ?_ _ | refine blk_drew ?_ | refine blk_alloc ?_ _)); exact BK247.out) hb); have n1_ := Aside0.mk (blk_below (g := gb252) (o := .cells #[.int .i64 t248, .int .i64 t249, .int .i64 t250] 25 (0, 0)) (by (with_reducible repeat (first | refine blk_drewN ?_ _ | refine blk_drew ?_ | refine blk_alloc ?_ _)); exact BK252.out) hb); have n2_ := Aside0.mk (blk_below (g := gb257) (o := .cells #[.int .i64 t253, .int .i64 t254, .int .i64 t255] 25 (0, 0)) (by (with_reducible repeat (first | refine blk_drewN ?_ _ | refine blk_drew ?_ | refine blk_alloc ?_ _)); exact BK257.out) hb); have n3_ := Aside0.mk (blk_below (g := gb264) (o := .cells #[.int .i64 t258, .int .i64 t259, .int .i64 t260] 25 (0, 0)) (by (with_reducible repeat (first | refine blk_drewN ?_ _ | refine blk_drew ?_ | refine blk_alloc ?_ _)); exact BK264.out) hb); have n4_ := Aside0.mk (blk_below (g := gb265) (o := .cells #[.int .i64 t261, .int .i64 t262, .int .i64 t263] 25 (0, 0)) (by (with_reducible repeat (first | refine blk_drewN ?_ _ | refine blk_drew ?_ | refine blk_alloc ?_ _)); exact BK265.out) hb); have n5_ := Aside0.mk (blk_below (g := gb272) (o := .cells #[.int .i64 t268, .int .i64 t269, .int .i64 t270] 25 (0, 0)) (by (with_reducible repeat (first | refine blk_drewN ?_ _ | refine blk_drew ?_ | refine blk_alloc ?_ _)); exact BK272.out) hb); have n6_ := Aside0.mk (blk_below (g := gb277) (o := .cells #[.int .i64 t273, .int .i64 t274, .int .i64 t275] 25 (0, 0)) (by (with_reducible repeat (first | refine blk_drewN ?_ _ | refine blk_drew ?_ | refine blk_alloc ?_ _)); exact BK277.out) hb); have n7_ := Aside0.mk (blk_below (g := gb281) (o := .cells #[.int .i64 t278, .int .i64 t279, .int .i64 t280] 25 (0, 0)) (by (with_reducible repeat (first | refine blk_drewN ?_ _ | refine blk_drew ?_ | refine blk_alloc ?_ _)); exact BK281.out) hb); have n8_ := Aside0.mk (below_step (by repeat (first | (with_reducible first | exact HB.out | apply below_alloc | apply pw_below_drewN | apply below_drew1 | refine below_set ?_ GE247.out | refine below_set ?_ GE252.out | refine below_set ?_ GE257.out | refine below_set ?_ GE264.out | refine below_set ?_ GE265.out | refine below_set ?_ GE272.out | refine below_set ?_ GE277.out | refine below_set ?_ GE281.out) | exact HB.out)) hb); clear BK247; clear BK252; clear BK257; clear BK264; clear BK265; clear BK272; clear BK277; clear BK281; clear HB; have BK247 := n0_; have BK252 := n1_; have BK257 := n2_; have BK264 := n3_; have BK265 := n4_; have BK272 := n5_; have BK277 := n6_; have BK281 := n7_; have HB := n8_; clear n0_ n1_ n2_ n3_ n4_ n5_ n6_ n7_ n8_; (try clear hb); (try clear hb2); (try clear hk); (try clear hi); have hcz508_0 : w507.cell? ⟨gb252, 0, none⟩ = some (.int .i64 t248) := (blk_cell BK252.out 0).trans rfl; have hcz508_1 : w507.cell? ⟨gb252, 1, none⟩ = some (.int .i64 t249) := (blk_cell BK252.out 1).trans rfl; have hcz508_2 : w507.cell? ⟨gb252, 2, none⟩ = some (.int .i64 t250) := (blk_cell BK252.out 2).trans rfl; have hfz508_0 := blk_frozen BK252.out 0; have hfz508_1 := blk_frozen BK252.out 1; have hfz508_2 := blk_frozen BK252.out 2; have hnb509 := NB247_257.out; have hnc509 := NB257_247.out; have hnb510 := NB247_264.out; have hnc510 := NB264_247.out; have hnb511 := NB247_265.out; have hnc511 := NB265_247.out; have hnb512 := NB247_272.out; have hnc512 := NB272_247.out; have hnb513 := NB247_277.out; have hnc513 := NB277_247.out; have hnb514 := NB247_281.out; have hnc514 := NB281_247.out; have hcz515_0 : w507.cell? ⟨gb247, 0, none⟩ = some (.int .i64 t243) := (blk_cell BK247.out 0).trans rfl; have hcz515_1 : w507.cell? ⟨gb247, 1, none⟩ = some (.int .i64 t244) := (blk_cell BK247.out 1).trans rfl; have hcz515_2 : w507.cell? ⟨gb247, 2, none⟩ = some (.int .i64 t245) := (blk_cell BK247.out 2).trans rfl; have hfz515_0 := blk_frozen BK247.out 0; have hfz515_1 := blk_frozen BK247.out 1; have hfz515_2 := blk_frozen BK247.out 2))
                    go_ret
                    exact ⟨by first | rfl | (simp [errW_none, errW_some] <;> rfl) | (simp [*, errW_none, errW_some] <;> rfl), by repeat (first | (with_reducible first | exact HB.out | apply below_alloc | apply pw_below_drewN | apply below_drew1 | refine below_set ?_ GE247.out | refine below_set ?_ GE252.out | refine below_set ?_ GE257.out | refine below_set ?_ GE264.out | refine below_set ?_ GE265.out | refine below_set ?_ GE272.out | refine below_set ?_ GE277.out | refine below_set ?_ GE281.out) | exact HB.out)⟩
                  · replace c498 := Bool.eq_false_iff.mpr c498
                    subst c498
                    have H1 : (some false) = some r := by rw [if_neg (show ¬ (false = true) by decide)] at H; exact H
                    exact absurd (H1.trans (congrArg some hrt)) (by simp)
                · replace c496 := Bool.eq_false_iff.mpr c496
                  subst c496
                  have H1 : (some (t248 == t243 && (t249 == t244 && (t250 == t245)))) = some r := by rw [if_neg (show ¬ (false = true) by decide)] at H; exact H
                  clear H
                  have H := H1
                  clear H1
                  obtain rfl := Option.some.inj H
                  have hnb525 := NB252_247.out
                  have hnc525 := NB247_252.out
                  have hnb526 := NB252_257.out
                  have hnc526 := NB257_252.out
                  have hnb527 := NB252_264.out
                  have hnc527 := NB264_252.out
                  have hnb528 := NB252_265.out
                  have hnc528 := NB265_252.out
                  have hnb529 := NB252_272.out
                  have hnc529 := NB272_252.out
                  have hnb530 := NB252_277.out
                  have hnc530 := NB277_252.out
                  have hnb531 := NB252_281.out
                  have hnc531 := NB281_252.out
                  have hcz532_0 : wc.cell? ⟨gb252, 0, none⟩ = some (.int .i64 t248) := (blk_cell BK252.out 0).trans rfl
                  have hcz532_1 : wc.cell? ⟨gb252, 1, none⟩ = some (.int .i64 t249) := (blk_cell BK252.out 1).trans rfl
                  have hcz532_2 : wc.cell? ⟨gb252, 2, none⟩ = some (.int .i64 t250) := (blk_cell BK252.out 2).trans rfl
                  have hfz532_0 := blk_frozen BK252.out 0
                  have hfz532_1 := blk_frozen BK252.out 1
                  have hfz532_2 := blk_frozen BK252.out 2
                  have hnb533 := NB247_257.out
                  have hnc533 := NB257_247.out
                  have hnb534 := NB247_264.out
                  have hnc534 := NB264_247.out
                  have hnb535 := NB247_265.out
                  have hnc535 := NB265_247.out
                  have hnb536 := NB247_272.out
                  have hnc536 := NB272_247.out
                  have hnb537 := NB247_277.out
                  have hnc537 := NB277_247.out
                  have hnb538 := NB247_281.out
                  have hnc538 := NB281_247.out
                  have hcz539_0 : wc.cell? ⟨gb247, 0, none⟩ = some (.int .i64 t243) := (blk_cell BK247.out 0).trans rfl
                  have hcz539_1 : wc.cell? ⟨gb247, 1, none⟩ = some (.int .i64 t244) := (blk_cell BK247.out 1).trans rfl
                  have hcz539_2 : wc.cell? ⟨gb247, 2, none⟩ = some (.int .i64 t245) := (blk_cell BK247.out 2).trans rfl
                  have hfz539_0 := blk_frozen BK247.out 0
                  have hfz539_1 := blk_frozen BK247.out 1
                  have hfz539_2 := blk_frozen BK247.out 2
                  go_wp2
                  go_ret
                  exact ⟨by first | rfl | (simp [errW_none, errW_some] <;> rfl) | (simp [*, errW_none, errW_some] <;> rfl), by repeat (first | (with_reducible first | exact HB.out | apply below_alloc | apply pw_below_drewN | apply below_drew1 | refine below_set ?_ GE247.out | refine below_set ?_ GE252.out | refine below_set ?_ GE257.out | refine below_set ?_ GE264.out | refine below_set ?_ GE265.out | refine below_set ?_ GE272.out | refine below_set ?_ GE277.out | refine below_set ?_ GE281.out) | exact HB.out)⟩

/-- THE ONE PURE STATEMENT of laws_FnPaces: yours. -/
def laws_FnPaces.Pure : Prop := ∀ (l0 : List Int), l0.length ≤ maxLen → l0.length * 1 ≤ 140737488351232 → (∀ x ∈ l0, (Lit.int .u8 x).wf = true) → ∃ k, laws_FnPaces.f k l0 = some true
theorem laws_FnPaces.walk (P : laws_FnPaces.Pure) (a0 : Option Addr) (len0 cap0 : Nat) (z0 : List Int) (w : World) (w0 : (a0 = none ∧ len0 = 0 ∧ cap0 = 0 ∧ z0 = []) ∨ ∃ x, a0 = some x ∧ len0 ≤ cap0 ∧ cap0 ≤ maxLen ∧ z0.length = cap0 ∧ (∀ i, i < z0.length → w.cell? (x.add i) = some (.int .u8 (z0.getD i 0))) ∧ ∀ n ∈ z0, (Lit.int .u8 n).wf = true) (y0 : len0 * 1 ≤ 140737488351232) :
    Calls Try.prog 11 #[.slice a0 len0 cap0] w fun e w' => e = .returned (.bool true) ∧ Below w.heap.size w w' := by
  obtain ⟨l0, rfl, hr0, hm0, hw0, hc0⟩ := ReadsInt.ofRowC w0
  obtain ⟨k, h⟩ := P l0 hm0 y0 hw0
  refine (laws_FnPaces.calls k _ _ l0 true rfl w (Kd.C_of_reads (d := (0 : Int)) (h1 := fun _ => rfl) hr0) hc0 h).mono ?_
  rintro e w' ⟨rfl, hd⟩
  exact ⟨rfl, hd⟩

end Go.Proofs.Ytfhabnkmhofpgaa.PFnPaces
