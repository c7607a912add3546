/- For every argument the statement FnExactLinkText answers true: the row is proved with no condition. -/
import Derived.Test.YtijlnmofehekdaaRows
import Derived.Test.YtijlnmofehekdaaEvLinkTextLawLinkText
import Derived.Test.YtijlnmofehekdaaPFokLinkText
import Derived.Test.YtijlnmofehekdaaBaseC
import Derived.WalkKit
import Derived.ProofKit
import Derived.OpenShut
import Derived.ShutString
import Derived.ChangeOld
import Derived.Below
import Derived.Carry
import Derived.Lib.SmallJoins
import Derived.SizedLaws
import Derived.JoinedOf
namespace Go.Proofs.Ytijlnmofehekdaa.fnExactLinkText
open Go.Proofs.Ytijlnmofehekdaa.Ow Go.ChangeShapes Go.WideShapes Go.ChangeAt Go.RowKit Go.Joins
set_option linter.unusedVariables false
theorem own : ownKnob Try.prog.godebug = none := by kernel_rfl
theorem laidOut : laidOutB Try.prog = true := by kernel_rfl
theorem mixed : Try.prog.follows .mixedOrders = true := by kernel_rfl
theorem ty31 : tyOf Try.prog 9 31 = some tyN := by kernel_rfl
set_option maxRecDepth 100000 in
theorem lifted (os : Os) (started : os.Started) (H : Type) (enc : TypeId × Value → H) :
    ReturnsInHanded {} Try.checked os 3 .any (Rows.fnExactLinkTextSpec.pre6 enc Try.prog Try.f3 Rows.fnExactLinkTextRow.domain false) (Rows.fnExactLinkTextSpec.post enc Try.prog Try.f3 false true false false) := by
  refine returnsInHanded_of_change_sized (C := Try.checked) own started (by kernel_rfl) Try.func3
    (ChangeSpec.witness6 (enc := enc) (C := Try.checked) false ⟨#[], #[.agg #[.int .i64 0, .bool false, .bool false, .slice none 0 0, .slice none 0 0, .slice none 0 0, .bool false, .bool false, .bool false, .int .i64 0, .slice none 0 0, .slice none 0 0, .slice none 0 0, .slice none 0 0, .slice none 0 0, .slice none 0 0], .agg #[.int .i64 0, .bool false, .bool false, .slice none 0 0, .slice none 0 0, .slice none 0 0, .bool false, .bool false, .bool false, .int .i64 0, .slice none 0 0, .slice none 0 0, .slice none 0 0, .slice none 0 0, .slice none 0 0, .slice none 0 0]], []⟩ 8 (by kernel_rfl) (by kernel_rfl) (by kernel_rfl) (by kernel_rfl)) ?_
  intro W base args ds gs before hval0 hW hcnd hsz0 _
  have hval : ∀ (j : Nat) t v, Try.f3.params[j]? = some t → args[j]? = some v → Value.okWide Try.prog W .any base t v := hval0
  have hW' := hW
  obtain ⟨p, q, hA0, hV, rfl, hfz, hnd⟩ := hW
  have hA : DataW.TrodAll enc Try.prog W 0 (fun _ => true) true Try.f3.params.toList args.toList ds p := hA0
  rw [Try.params3] at hA hval
  obtain ⟨v0, vs0, d0, ds0, p0, q0, hargs, rfl, rfl, h0, r0⟩ := trodAll_cons hA
  obtain ⟨v1, vs1, d1, ds1, p1, q1, rfl, rfl, rfl, h1, r1⟩ := trodAll_cons r0
  obtain ⟨rfl, rfl, rfl⟩ := trodAll_nil r1
  obtain rfl : args = #[v0, v1] := by cases args; simp_all
  obtain ⟨rfl, rfl⟩ := trodVars_none hV
  have k0 := h0
  have lt0 : ∀ x ∈ p0, x.block < W.heap.size := by obtain ⟨m, hm⟩ := k0; exact DataW.trod_lt m _ _ _ hm
  have k1 := h1
  have lt1 : ∀ x ∈ p1, x.block < W.heap.size := by obtain ⟨m, hm⟩ := k1; exact DataW.trod_lt m _ _ _ hm
  obtain ⟨x0, ok0, ar0⟩ := param_struct dec_N Try.underlying31 ty31 (hval 0 31 v0 rfl rfl) h0
  obtain ⟨x1, ok1, ar1⟩ := param_struct dec_N Try.underlying31 ty31 (hval 1 31 v1 rfl rfl) h1
  refine (law_calls (semK_ok mixed gok pk_ok) (f := 3) (args := [.a (lents (fN x0)), .a (lents (fN x1))]) (vs := [v0, v1]) rfl (fun i x v hx hv => ?_) (ev_law x0 x1 ok0 ok1)).mono fun e W' he => ?_
  · match i, hx, hv with
    | 0, hx, hv =>
      cases hx; cases hv
      exact ar0
    | 1, hx, hv =>
      cases hx; cases hv
      exact ar1
    | i + 2, hx, hv => simp at hx
  · cases e with
    | panicked _ => exact he.elim
    | outgrown => exact he.elim
    | returned v =>
      obtain ⟨rfl, bel⟩ := he
      exact ⟨_, rfl, _, _, _, [], _, [], hW', trodAll_mk1 (shut_bool Try.underlying4 _), (trodAll_cons_mk (Below.trod laidOut (by kernel_rfl) (of_decide_eq_true (by kernel_rfl)) k0 bel lt0) (trodAll_cons_mk (Below.trod laidOut (by kernel_rfl) (of_decide_eq_true (by kernel_rfl)) k1 bel lt1) trodAll_mk0)), rfl, bel.frame _, fun h => by cases h⟩
theorem j0 : (Rows.fnExactLinkTextRow.wf (OpenSpec.ofChange Rows.fnExactLinkTextSpec)) = true := by kernel_rfl
theorem j1 : (laidOutB Try.checked.prog) = true := by kernel_rfl
theorem j2 : (mapsRowed Try.checked.prog) = true := by kernel_rfl
theorem j3 : (Try.f3.params.all (Try.checked.prog.readableRec ·)) = true := by kernel_rfl
theorem j4 : (namedTie Try.checked.prog Rows.fnExactLinkTextRow.named Rows.fnExactLinkTextSpec.vars) = true := by kernel_rfl
theorem j5 : ((Rows.fnExactLinkTextRow.stops == [])) = true := by kernel_rfl
theorem j6 : ((Try.checked.prog.stops == [])) = true := by kernel_rfl
theorem j7 : ((Rows.fnExactLinkTextRow.knobs == [])) = true := by kernel_rfl
theorem j8 : ((Try.checked.prog.stopKnobs == [])) = true := by kernel_rfl
theorem j9 : ((Rows.fnExactLinkTextRow.inPlace == Try.checked.prog.inPlace 3)) = true := by kernel_rfl
theorem j10 : ((Rows.fnExactLinkTextRow.unfollowed == Try.checked.prog.unfollowed 3)) = true := by kernel_rfl
theorem j11 : ((Rows.fnExactLinkTextRow.recurses == Try.checked.prog.recurses 3)) = true := by kernel_rfl
theorem j12 : ((Rows.fnExactLinkTextRow.named == Try.checked.prog.varsNamed 3)) = true := by kernel_rfl
theorem j13 : ((Rows.fnExactLinkTextRow.maps == (Try.f3.params.toList ++ Rows.fnExactLinkTextSpec.plain.varTypes Try.checked.prog).any (Try.checked.prog.mapsRec ·))) = true := by kernel_rfl
theorem j14 : ((Rows.fnExactLinkTextRow.ifaces == (Try.f3.params.toList ++ Rows.fnExactLinkTextSpec.plain.varTypes Try.checked.prog).any (Try.checked.prog.ifacesRec ·))) = true := by kernel_rfl
theorem j15 : ((Rows.fnExactLinkTextRow.mapsOut == Try.checked.prog.mapsAmong Try.f3.resultTypes.toList)) = true := by kernel_rfl
theorem j16 : ((Rows.fnExactLinkTextRow.loops == (Try.f3.params.toList ++ Rows.fnExactLinkTextSpec.plain.varTypes Try.checked.prog).any (Try.checked.prog.loopsFrom ·))) = true := by kernel_rfl
theorem j17 : ((Rows.fnExactLinkTextRow.wideKeys == (Try.f3.params.toList ++ Rows.fnExactLinkTextSpec.plain.varTypes Try.checked.prog ++ Try.f3.resultTypes.toList).any (Try.checked.prog.wideKeysFrom ·))) = true := by kernel_rfl
theorem j18 : (Rows.fnExactLinkTextSpec.vars.all (Try.checked.prog.varReadable ·)) = true := by kernel_rfl
theorem j19 : (Try.f3.resultTypes.all (fun t => Try.checked.prog.readableRec t && decide (t < Try.checked.prog.types.size))) = true := by kernel_rfl
theorem j20 : ((Rows.fnExactLinkTextRow.ifacesOut == Try.f3.resultTypes.toList.any (Try.checked.prog.ifacesRec ·))) = true := by kernel_rfl
theorem j21 : ((Rows.fnExactLinkTextRow.loopsOut == Try.f3.resultTypes.toList.any (Try.checked.prog.loopsFrom ·))) = true := by kernel_rfl
theorem j22 : ((Rows.fnExactLinkTextRow.plainKeys == Try.checked.prog.plainKeys)) = true := by kernel_rfl
theorem j23 : (Rows.fnExactLinkTextRow.shortTexts.isNone) = true := by kernel_rfl
theorem j24 : (Try.checked.prog.stopsHeard) = true := by kernel_rfl
theorem j25 : (Try.checked.prog.mayEnter) = true := by kernel_rfl
theorem j26 : ((Rows.fnExactLinkTextRow.lifted == Try.checked.prog.liftsFinal)) = true := by kernel_rfl
theorem j27 : ((Try.checked.prog.make == some Rows.fnExactLinkTextRow.make)) = true := by kernel_rfl
theorem j28 : (kindsB Try.checked.prog Try.f3 Rows.fnExactLinkTextRow) = true := by kernel_rfl
theorem j29 : ((Rows.fnExactLinkTextRow.pinned == Rows.fnExactLinkTextRow.pinnedBy)) = true := by kernel_rfl
theorem j30 : ((Rows.fnExactLinkTextRow.veiled == (Try.f3.params.toList ++ Rows.fnExactLinkTextSpec.plain.varTypes Try.checked.prog ++ Try.f3.resultTypes.toList).any (Try.checked.prog.veiledRec ·))) = true := by kernel_rfl
theorem j31 : (Rows.fnExactLinkTextRow.veiledFits Try.checked.prog Try.f3.params.toList (Try.f3.params.toList ++ Rows.fnExactLinkTextSpec.plain.varTypes Try.checked.prog ++ Try.f3.resultTypes.toList)) = true := by kernel_rfl
theorem joined : joinedFacts Try.checked.prog 3 Try.f3 Rows.fnExactLinkTextSpec Rows.fnExactLinkTextRow = true := joined_of j0 j1 j2 j3 j4 j5 j6 j7 j8 j9 j10 j11 j12 j13 j14 j15 j16 j17 j18 j19 j20 j21 j22 j23 j24 j25 j26 j27 j28 j29 j30 j31
theorem over : Rows.fnExactLinkTextRow.holds Try.pinned (OpenSpec.ofChange Rows.fnExactLinkTextSpec) :=
  OpenClaim.holds_of_wide 3 Try.f3 rfl rfl rfl rfl rfl rfl rfl ⟨rfl, rfl, rfl, rfl, rfl⟩ rfl rfl rfl rfl rfl (by kernel_rfl) Try.func3 joined
    (of_decide_eq_true (by kernel_rfl)) (by unfold Func.isWrapper; first | (rw [if_pos (by decide +kernel)]; kernel_rfl) | (rw [if_neg (by decide +kernel)]; exact ⟨rfl, rfl⟩))
    (fun os started H enc _ => lifted os started H enc)
theorem proved : Rows.FnExactLinkTextSaid := over
#print axioms proved
end Go.Proofs.Ytijlnmofehekdaa.fnExactLinkText
namespace Go.Proofs.Ytijlnmofehekdaa
/-- The row, under a short name, for the claim. -/
theorem fnExactLinkText_holds : Rows.FnExactLinkTextSaid := fnExactLinkText.proved
end Go.Proofs.Ytijlnmofehekdaa
