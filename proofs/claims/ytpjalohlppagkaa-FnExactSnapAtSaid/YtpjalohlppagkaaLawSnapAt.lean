/- For every argument the statement FnExactSnapAt answers true: the row is proved with no condition. -/
import Derived.Test.YtpjalohlppagkaaRows
import Derived.Test.YtpjalohlppagkaaEvSnapAtLawSnapAt
import Derived.Test.YtpjalohlppagkaaPFokSnapAt
import Derived.Test.YtpjalohlppagkaaBaseC
import Derived.WalkKit
import Derived.ProofKit
import Derived.OpenShut
import Derived.ShutString
import Derived.ChangeOld
import Derived.Below
import Derived.Carry
import Derived.Lib.SmallJoins
import Derived.SizedLaws
import Derived.JoinedOf
namespace Go.Proofs.Ytpjalohlppagkaa.fnExactSnapAt
open Go.Proofs.Ytpjalohlppagkaa.Ow Go.ChangeShapes Go.WideShapes Go.ChangeAt Go.RowKit Go.Joins
set_option linter.unusedVariables false
theorem own : ownKnob Try.prog.godebug = none := by kernel_rfl
theorem laidOut : laidOutB Try.prog = true := by kernel_rfl
theorem mixed : Try.prog.follows .mixedOrders = true := by kernel_rfl
theorem ty27 : tyOf Try.prog 9 27 = some tyWo := by kernel_rfl
set_option maxRecDepth 100000 in
theorem lifted (os : Os) (started : os.Started) (H : Type) (enc : TypeId × Value → H) :
    ReturnsInHanded {} Try.checked os 4 .any (Rows.fnExactSnapAtSpec.pre6 enc Try.prog Try.f4 Rows.fnExactSnapAtRow.domain false) (Rows.fnExactSnapAtSpec.post enc Try.prog Try.f4 false true false false) := by
  refine returnsInHanded_of_change_sized (C := Try.checked) own started (by kernel_rfl) Try.func4
    (ChangeSpec.witness6 (enc := enc) (C := Try.checked) false ⟨#[], #[.agg #[.slice none 0 0, .slice none 0 0, .slice none 0 0, .slice none 0 0, .int .i64 0], .int .i64 0], []⟩ 8 (by kernel_rfl) (by kernel_rfl) (by kernel_rfl) (by kernel_rfl)) ?_
  intro W base args ds gs before hval0 hW hcnd hsz0 _
  have hval : ∀ (j : Nat) t v, Try.f4.params[j]? = some t → args[j]? = some v → Value.okWide Try.prog W .any base t v := hval0
  have hW' := hW
  obtain ⟨p, q, hA0, hV, rfl, hfz, hnd⟩ := hW
  have hA : DataW.TrodAll enc Try.prog W 0 (fun _ => true) true Try.f4.params.toList args.toList ds p := hA0
  rw [Try.params4] at hA hval
  obtain ⟨v0, vs0, d0, ds0, p0, q0, hargs, rfl, rfl, h0, r0⟩ := trodAll_cons hA
  obtain ⟨v1, vs1, d1, ds1, p1, q1, rfl, rfl, rfl, h1, r1⟩ := trodAll_cons r0
  obtain ⟨rfl, rfl, rfl⟩ := trodAll_nil r1
  obtain rfl : args = #[v0, v1] := by cases args; simp_all
  obtain ⟨rfl, rfl⟩ := trodVars_none hV
  have k0 := h0
  have lt0 : ∀ x ∈ p0, x.block < W.heap.size := by obtain ⟨m, hm⟩ := k0; exact DataW.trod_lt m _ _ _ hm
  have k1 := h1
  have lt1 : ∀ x ∈ p1, x.block < W.heap.size := by obtain ⟨m, hm⟩ := k1; exact DataW.trod_lt m _ _ _ hm
  obtain ⟨x0, ok0, ar0⟩ := param_struct dec_Wo Try.underlying27 ty27 (hval 0 27 v0 rfl rfl) h0
  obtain ⟨x1, ok1, ar1⟩ := param_int Try.underlying3 (hval 1 3 v1 rfl rfl) h1
  refine (law_calls (semK_ok mixed gok pk_ok) (f := 4) (args := [.a (lents (fWo x0)), .v (.sc (.int .i64 x1))]) (vs := [v0, v1]) rfl (fun i x v hx hv => ?_) (ev_law (fun l hl => semK_prim rfl (by simp [PKc]; omega)) x0 x1 ok0.sh)).mono fun e W' he => ?_
  · match i, hx, hv with
    | 0, hx, hv =>
      cases hx; cases hv
      exact ar0
    | 1, hx, hv =>
      cases hx; cases hv
      exact ar1
    | i + 2, hx, hv => simp at hx
  · cases e with
    | panicked _ => exact he.elim
    | outgrown => exact he.elim
    | returned v =>
      obtain ⟨rfl, bel⟩ := he
      exact ⟨_, rfl, _, _, _, [], _, [], hW', trodAll_mk1 (shut_bool Try.underlying4 _), (trodAll_cons_mk (Below.trod laidOut (by kernel_rfl) (of_decide_eq_true (by kernel_rfl)) k0 bel lt0) (trodAll_cons_mk (Below.trod laidOut (by kernel_rfl) (of_decide_eq_true (by kernel_rfl)) k1 bel lt1) trodAll_mk0)), rfl, bel.frame _, fun h => by cases h⟩
theorem j0 : (Rows.fnExactSnapAtRow.wf (OpenSpec.ofChange Rows.fnExactSnapAtSpec)) = true := by kernel_rfl
theorem j1 : (laidOutB Try.checked.prog) = true := by kernel_rfl
theorem j2 : (mapsRowed Try.checked.prog) = true := by kernel_rfl
theorem j3 : (Try.f4.params.all (Try.checked.prog.readableRec ·)) = true := by kernel_rfl
theorem j4 : (namedTie Try.checked.prog Rows.fnExactSnapAtRow.named Rows.fnExactSnapAtSpec.vars) = true := by kernel_rfl
theorem j5 : ((Rows.fnExactSnapAtRow.stops == [])) = true := by kernel_rfl
theorem j6 : ((Try.checked.prog.stops == [])) = true := by kernel_rfl
theorem j7 : ((Rows.fnExactSnapAtRow.knobs == [])) = true := by kernel_rfl
theorem j8 : ((Try.checked.prog.stopKnobs == [])) = true := by kernel_rfl
theorem j9 : ((Rows.fnExactSnapAtRow.inPlace == Try.checked.prog.inPlace 4)) = true := by kernel_rfl
theorem j10 : ((Rows.fnExactSnapAtRow.unfollowed == Try.checked.prog.unfollowed 4)) = true := by kernel_rfl
theorem j11 : ((Rows.fnExactSnapAtRow.recurses == Try.checked.prog.recurses 4)) = true := by kernel_rfl
theorem j12 : ((Rows.fnExactSnapAtRow.named == Try.checked.prog.varsNamed 4)) = true := by kernel_rfl
theorem j13 : ((Rows.fnExactSnapAtRow.maps == (Try.f4.params.toList ++ Rows.fnExactSnapAtSpec.plain.varTypes Try.checked.prog).any (Try.checked.prog.mapsRec ·))) = true := by kernel_rfl
theorem j14 : ((Rows.fnExactSnapAtRow.ifaces == (Try.f4.params.toList ++ Rows.fnExactSnapAtSpec.plain.varTypes Try.checked.prog).any (Try.checked.prog.ifacesRec ·))) = true := by kernel_rfl
theorem j15 : ((Rows.fnExactSnapAtRow.mapsOut == Try.checked.prog.mapsAmong Try.f4.resultTypes.toList)) = true := by kernel_rfl
theorem j16 : ((Rows.fnExactSnapAtRow.loops == (Try.f4.params.toList ++ Rows.fnExactSnapAtSpec.plain.varTypes Try.checked.prog).any (Try.checked.prog.loopsFrom ·))) = true := by kernel_rfl
theorem j17 : ((Rows.fnExactSnapAtRow.wideKeys == (Try.f4.params.toList ++ Rows.fnExactSnapAtSpec.plain.varTypes Try.checked.prog ++ Try.f4.resultTypes.toList).any (Try.checked.prog.wideKeysFrom ·))) = true := by kernel_rfl
theorem j18 : (Rows.fnExactSnapAtSpec.vars.all (Try.checked.prog.varReadable ·)) = true := by kernel_rfl
theorem j19 : (Try.f4.resultTypes.all (fun t => Try.checked.prog.readableRec t && decide (t < Try.checked.prog.types.size))) = true := by kernel_rfl
theorem j20 : ((Rows.fnExactSnapAtRow.ifacesOut == Try.f4.resultTypes.toList.any (Try.checked.prog.ifacesRec ·))) = true := by kernel_rfl
theorem j21 : ((Rows.fnExactSnapAtRow.loopsOut == Try.f4.resultTypes.toList.any (Try.checked.prog.loopsFrom ·))) = true := by kernel_rfl
theorem j22 : ((Rows.fnExactSnapAtRow.plainKeys == Try.checked.prog.plainKeys)) = true := by kernel_rfl
theorem j23 : (Rows.fnExactSnapAtRow.shortTexts.isNone) = true := by kernel_rfl
theorem j24 : (Try.checked.prog.stopsHeard) = true := by kernel_rfl
theorem j25 : (Try.checked.prog.mayEnter) = true := by kernel_rfl
theorem j26 : ((Rows.fnExactSnapAtRow.lifted == Try.checked.prog.liftsFinal)) = true := by kernel_rfl
theorem j27 : ((Try.checked.prog.make == some Rows.fnExactSnapAtRow.make)) = true := by kernel_rfl
theorem j28 : (kindsB Try.checked.prog Try.f4 Rows.fnExactSnapAtRow) = true := by kernel_rfl
theorem j29 : ((Rows.fnExactSnapAtRow.pinned == Rows.fnExactSnapAtRow.pinnedBy)) = true := by kernel_rfl
theorem j30 : ((Rows.fnExactSnapAtRow.veiled == (Try.f4.params.toList ++ Rows.fnExactSnapAtSpec.plain.varTypes Try.checked.prog ++ Try.f4.resultTypes.toList).any (Try.checked.prog.veiledRec ·))) = true := by kernel_rfl
theorem j31 : (Rows.fnExactSnapAtRow.veiledFits Try.checked.prog Try.f4.params.toList (Try.f4.params.toList ++ Rows.fnExactSnapAtSpec.plain.varTypes Try.checked.prog ++ Try.f4.resultTypes.toList)) = true := by kernel_rfl
theorem joined : joinedFacts Try.checked.prog 4 Try.f4 Rows.fnExactSnapAtSpec Rows.fnExactSnapAtRow = true := joined_of j0 j1 j2 j3 j4 j5 j6 j7 j8 j9 j10 j11 j12 j13 j14 j15 j16 j17 j18 j19 j20 j21 j22 j23 j24 j25 j26 j27 j28 j29 j30 j31
theorem over : Rows.fnExactSnapAtRow.holds Try.pinned (OpenSpec.ofChange Rows.fnExactSnapAtSpec) :=
  OpenClaim.holds_of_wide 4 Try.f4 rfl rfl rfl rfl rfl rfl rfl ⟨rfl, rfl, rfl, rfl, rfl⟩ rfl rfl rfl rfl rfl (by kernel_rfl) Try.func4 joined
    (of_decide_eq_true (by kernel_rfl)) (by unfold Func.isWrapper; first | (rw [if_pos (by decide +kernel)]; kernel_rfl) | (rw [if_neg (by decide +kernel)]; exact ⟨rfl, rfl⟩))
    (fun os started H enc _ => lifted os started H enc)
theorem proved : Rows.FnExactSnapAtSaid := over
#print axioms proved
end Go.Proofs.Ytpjalohlppagkaa.fnExactSnapAt
namespace Go.Proofs.Ytpjalohlppagkaa
/-- The row, under a short name, for the claim. -/
theorem fnExactSnapAt_holds : Rows.FnExactSnapAtSaid := fnExactSnapAt.proved
end Go.Proofs.Ytpjalohlppagkaa
