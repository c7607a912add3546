/- For every argument the statement FnExactGetBytes answers true: the row is proved with no condition. -/
import Derived.Test.YtcbcackolaphhaaGreatRows
import Derived.Test.YtcbcackolaphhaaGreatEvGetBytesLawGetBytes
import Derived.Test.YtcbcackolaphhaaGreatPFokGetBytes
import Derived.Test.YtcbcackolaphhaaGreatBaseC
import Derived.WalkKit
import Derived.ProofKit
import Derived.OpenShut
import Derived.ShutString
import Derived.ChangeOld
import Derived.Below
import Derived.Carry
import Derived.Lib.SmallJoins
import Derived.SizedLaws
import Derived.JoinedOf
namespace Go.Proofs.YtcbcackolaphhaaGreat.fnExactGetBytes
open Go.Proofs.YtcbcackolaphhaaGreat.Ow Go.ChangeShapes Go.WideShapes Go.ChangeAt Go.RowKit Go.Joins
set_option linter.unusedVariables false
theorem own : ownKnob Tryz.prog.godebug = none := by kernel_rfl
theorem laidOut : laidOutB Tryz.prog = true := by kernel_rfl
theorem mixed : Tryz.prog.follows .mixedOrders = true := by kernel_rfl
theorem ty30 : tyOf Tryz.prog 9 30 = some tySt := by kernel_rfl
set_option maxRecDepth 100000 in
theorem lifted (os : Os) (started : os.Started) (H : Type) (enc : TypeId × Value → H) :
    ReturnsInHanded {} Tryz.checked os 4 .any (Rows.fnExactGetBytesSpec.pre6 enc Tryz.prog Tryz.f4 Rows.fnExactGetBytesRow.domain false) (Rows.fnExactGetBytesSpec.post enc Tryz.prog Tryz.f4 false true false false) := by
  refine returnsInHanded_of_change_sized (C := Tryz.checked) own started (by kernel_rfl) Tryz.func4
    (ChangeSpec.witness6 (enc := enc) (C := Tryz.checked) false ⟨#[], #[.agg #[.slice none 0 0, .slice none 0 0, .slice none 0 0, .slice none 0 0, .int .i64 0, .slice none 0 0], .int .i64 0, .int .i64 0, .int .i64 0], []⟩ 8 (by kernel_rfl) (by kernel_rfl) (by kernel_rfl) (by kernel_rfl)) ?_
  intro W base args ds gs before hval0 hW hcnd hsz0 _
  have hval : ∀ (j : Nat) t v, Tryz.f4.params[j]? = some t → args[j]? = some v → Value.okWide Tryz.prog W .any base t v := hval0
  have hW' := hW
  obtain ⟨p, q, hA0, hV, rfl, hfz, hnd⟩ := hW
  have hA : DataW.TrodAll enc Tryz.prog W 0 (fun _ => true) true Tryz.f4.params.toList args.toList ds p := hA0
  rw [Tryz.params4] at hA hval
  obtain ⟨v0, vs0, d0, ds0, p0, q0, hargs, rfl, rfl, h0, r0⟩ := trodAll_cons hA
  obtain ⟨v1, vs1, d1, ds1, p1, q1, rfl, rfl, rfl, h1, r1⟩ := trodAll_cons r0
  obtain ⟨v2, vs2, d2, ds2, p2, q2, rfl, rfl, rfl, h2, r2⟩ := trodAll_cons r1
  obtain ⟨v3, vs3, d3, ds3, p3, q3, rfl, rfl, rfl, h3, r3⟩ := trodAll_cons r2
  obtain ⟨rfl, rfl, rfl⟩ := trodAll_nil r3
  obtain rfl : args = #[v0, v1, v2, v3] := by cases args; simp_all
  obtain ⟨rfl, rfl⟩ := trodVars_none hV
  have k0 := h0
  have lt0 : ∀ x ∈ p0, x.block < W.heap.size := by obtain ⟨m, hm⟩ := k0; exact DataW.trod_lt m _ _ _ hm
  have k1 := h1
  have lt1 : ∀ x ∈ p1, x.block < W.heap.size := by obtain ⟨m, hm⟩ := k1; exact DataW.trod_lt m _ _ _ hm
  have k2 := h2
  have lt2 : ∀ x ∈ p2, x.block < W.heap.size := by obtain ⟨m, hm⟩ := k2; exact DataW.trod_lt m _ _ _ hm
  have k3 := h3
  have lt3 : ∀ x ∈ p3, x.block < W.heap.size := by obtain ⟨m, hm⟩ := k3; exact DataW.trod_lt m _ _ _ hm
  obtain ⟨x0, ok0, ar0⟩ := param_struct dec_St Tryz.underlying30 ty30 (hval 0 30 v0 rfl rfl) h0
  obtain ⟨x1, ok1, ar1⟩ := param_int Tryz.underlying3 (hval 1 3 v1 rfl rfl) h1
  obtain ⟨x2, ok2, ar2⟩ := param_int Tryz.underlying3 (hval 2 3 v2 rfl rfl) h2
  obtain ⟨x3, ok3, ar3⟩ := param_int Tryz.underlying3 (hval 3 3 v3 rfl rfl) h3
  refine (law_calls (semK_ok mixed gok pk_ok) (f := 4) (args := [.a (lents (fSt x0)), .v (.sc (.int .i64 x1)), .v (.sc (.int .i64 x2)), .v (.sc (.int .i64 x3))]) (vs := [v0, v1, v2, v3]) rfl (fun i x v hx hv => ?_) (ev_law (fun l hl => semK_prim rfl (by simp [PKc]; omega)) x0 x1 x2 x3 ok0)).mono fun e W' he => ?_
  · match i, hx, hv with
    | 0, hx, hv =>
      cases hx; cases hv
      exact ar0
    | 1, hx, hv =>
      cases hx; cases hv
      exact ar1
    | 2, hx, hv =>
      cases hx; cases hv
      exact ar2
    | 3, hx, hv =>
      cases hx; cases hv
      exact ar3
    | i + 4, hx, hv => simp at hx
  · cases e with
    | panicked _ => exact he.elim
    | outgrown => exact he.elim
    | returned v =>
      obtain ⟨rfl, bel⟩ := he
      exact ⟨_, rfl, _, _, _, [], _, [], hW', trodAll_mk1 (shut_bool Tryz.underlying4 _), (trodAll_cons_mk (Below.trod laidOut (by kernel_rfl) (of_decide_eq_true (by kernel_rfl)) k0 bel lt0) (trodAll_cons_mk (Below.trod laidOut (by kernel_rfl) (of_decide_eq_true (by kernel_rfl)) k1 bel lt1) (trodAll_cons_mk (Below.trod laidOut (by kernel_rfl) (of_decide_eq_true (by kernel_rfl)) k2 bel lt2) (trodAll_cons_mk (Below.trod laidOut (by kernel_rfl) (of_decide_eq_true (by kernel_rfl)) k3 bel lt3) trodAll_mk0)))), rfl, bel.frame _, fun h => by cases h⟩
theorem j0 : (Rows.fnExactGetBytesRow.wf (OpenSpec.ofChange Rows.fnExactGetBytesSpec)) = true := by kernel_rfl
theorem j1 : (laidOutB Tryz.checked.prog) = true := by kernel_rfl
theorem j2 : (mapsRowed Tryz.checked.prog) = true := by kernel_rfl
theorem j3 : (Tryz.f4.params.all (Tryz.checked.prog.readableRec ·)) = true := by kernel_rfl
theorem j4 : (namedTie Tryz.checked.prog Rows.fnExactGetBytesRow.named Rows.fnExactGetBytesSpec.vars) = true := by kernel_rfl
theorem j5 : ((Rows.fnExactGetBytesRow.stops == [])) = true := by kernel_rfl
theorem j6 : ((Tryz.checked.prog.stops == [])) = true := by kernel_rfl
theorem j7 : ((Rows.fnExactGetBytesRow.knobs == [])) = true := by kernel_rfl
theorem j8 : ((Tryz.checked.prog.stopKnobs == [])) = true := by kernel_rfl
theorem j9 : ((Rows.fnExactGetBytesRow.inPlace == Tryz.checked.prog.inPlace 4)) = true := by kernel_rfl
theorem j10 : ((Rows.fnExactGetBytesRow.unfollowed == Tryz.checked.prog.unfollowed 4)) = true := by kernel_rfl
theorem j11 : ((Rows.fnExactGetBytesRow.recurses == Tryz.checked.prog.recurses 4)) = true := by kernel_rfl
theorem j12 : ((Rows.fnExactGetBytesRow.named == Tryz.checked.prog.varsNamed 4)) = true := by kernel_rfl
theorem j13 : ((Rows.fnExactGetBytesRow.maps == (Tryz.f4.params.toList ++ Rows.fnExactGetBytesSpec.plain.varTypes Tryz.checked.prog).any (Tryz.checked.prog.mapsRec ·))) = true := by kernel_rfl
theorem j14 : ((Rows.fnExactGetBytesRow.ifaces == (Tryz.f4.params.toList ++ Rows.fnExactGetBytesSpec.plain.varTypes Tryz.checked.prog).any (Tryz.checked.prog.ifacesRec ·))) = true := by kernel_rfl
theorem j15 : ((Rows.fnExactGetBytesRow.mapsOut == Tryz.checked.prog.mapsAmong Tryz.f4.resultTypes.toList)) = true := by kernel_rfl
theorem j16 : ((Rows.fnExactGetBytesRow.loops == (Tryz.f4.params.toList ++ Rows.fnExactGetBytesSpec.plain.varTypes Tryz.checked.prog).any (Tryz.checked.prog.loopsFrom ·))) = true := by kernel_rfl
theorem j17 : ((Rows.fnExactGetBytesRow.wideKeys == (Tryz.f4.params.toList ++ Rows.fnExactGetBytesSpec.plain.varTypes Tryz.checked.prog ++ Tryz.f4.resultTypes.toList).any (Tryz.checked.prog.wideKeysFrom ·))) = true := by kernel_rfl
theorem j18 : (Rows.fnExactGetBytesSpec.vars.all (Tryz.checked.prog.varReadable ·)) = true := by kernel_rfl
theorem j19 : (Tryz.f4.resultTypes.all (fun t => Tryz.checked.prog.readableRec t && decide (t < Tryz.checked.prog.types.size))) = true := by kernel_rfl
theorem j20 : ((Rows.fnExactGetBytesRow.ifacesOut == Tryz.f4.resultTypes.toList.any (Tryz.checked.prog.ifacesRec ·))) = true := by kernel_rfl
theorem j21 : ((Rows.fnExactGetBytesRow.loopsOut == Tryz.f4.resultTypes.toList.any (Tryz.checked.prog.loopsFrom ·))) = true := by kernel_rfl
theorem j22 : ((Rows.fnExactGetBytesRow.plainKeys == Tryz.checked.prog.plainKeys)) = true := by kernel_rfl
theorem j23 : (Rows.fnExactGetBytesRow.shortTexts.isNone) = true := by kernel_rfl
theorem j24 : (Tryz.checked.prog.stopsHeard) = true := by kernel_rfl
theorem j25 : (Tryz.checked.prog.mayEnter) = true := by kernel_rfl
theorem j26 : ((Rows.fnExactGetBytesRow.lifted == Tryz.checked.prog.liftsFinal)) = true := by kernel_rfl
theorem j27 : ((Tryz.checked.prog.make == some Rows.fnExactGetBytesRow.make)) = true := by kernel_rfl
theorem j28 : (kindsB Tryz.checked.prog Tryz.f4 Rows.fnExactGetBytesRow) = true := by kernel_rfl
theorem j29 : ((Rows.fnExactGetBytesRow.pinned == Rows.fnExactGetBytesRow.pinnedBy)) = true := by kernel_rfl
theorem j30 : ((Rows.fnExactGetBytesRow.veiled == (Tryz.f4.params.toList ++ Rows.fnExactGetBytesSpec.plain.varTypes Tryz.checked.prog ++ Tryz.f4.resultTypes.toList).any (Tryz.checked.prog.veiledRec ·))) = true := by kernel_rfl
theorem j31 : (Rows.fnExactGetBytesRow.veiledFits Tryz.checked.prog Tryz.f4.params.toList (Tryz.f4.params.toList ++ Rows.fnExactGetBytesSpec.plain.varTypes Tryz.checked.prog ++ Tryz.f4.resultTypes.toList)) = true := by kernel_rfl
theorem joined : joinedFacts Tryz.checked.prog 4 Tryz.f4 Rows.fnExactGetBytesSpec Rows.fnExactGetBytesRow = true := joined_of j0 j1 j2 j3 j4 j5 j6 j7 j8 j9 j10 j11 j12 j13 j14 j15 j16 j17 j18 j19 j20 j21 j22 j23 j24 j25 j26 j27 j28 j29 j30 j31
theorem over : Rows.fnExactGetBytesRow.holds Tryz.pinned (OpenSpec.ofChange Rows.fnExactGetBytesSpec) :=
  OpenClaim.holds_of_wide 4 Tryz.f4 rfl rfl rfl rfl rfl rfl rfl ⟨rfl, rfl, rfl, rfl, rfl⟩ rfl rfl rfl rfl rfl (by kernel_rfl) Tryz.func4 joined
    (of_decide_eq_true (by kernel_rfl)) (by unfold Func.isWrapper; first | (rw [if_pos (by decide +kernel)]; kernel_rfl) | (rw [if_neg (by decide +kernel)]; exact ⟨rfl, rfl⟩))
    (fun os started H enc _ => lifted os started H enc)
theorem proved : Rows.FnExactGetBytesSaid := over
#print axioms proved
end Go.Proofs.YtcbcackolaphhaaGreat.fnExactGetBytes
namespace Go.Proofs.YtcbcackolaphhaaGreat
/-- The row, under a short name, for the claim. -/
theorem fnExactGetBytes_holds : Rows.FnExactGetBytesSaid := fnExactGetBytes.proved
end Go.Proofs.YtcbcackolaphhaaGreat
