/- For every argument the statement FnExactStoreNew answers true: the row is proved with no condition. -/
import Derived.Test.YtijlnmofehekdaaRows
import Derived.Test.YtijlnmofehekdaaEvStoreNewLawStoreNew
import Derived.Test.YtijlnmofehekdaaPFokStoreNew
import Derived.Test.YtijlnmofehekdaaBaseC
import Derived.WalkKit
import Derived.ProofKit
import Derived.OpenShut
import Derived.ShutString
import Derived.ChangeOld
import Derived.Below
import Derived.Carry
import Derived.Lib.SmallJoins
import Derived.SizedLaws
import Derived.JoinedOf
namespace Go.Proofs.Ytijlnmofehekdaa.fnExactStoreNew
open Go.Proofs.Ytijlnmofehekdaa.Ow Go.ChangeShapes Go.WideShapes Go.ChangeAt Go.RowKit Go.Joins
set_option linter.unusedVariables false
theorem own : ownKnob Try.prog.godebug = none := by kernel_rfl
theorem laidOut : laidOutB Try.prog = true := by kernel_rfl
theorem mixed : Try.prog.follows .mixedOrders = true := by kernel_rfl
set_option maxRecDepth 100000 in
theorem lifted (os : Os) (started : os.Started) (H : Type) (enc : TypeId × Value → H) :
    ReturnsInHanded {} Try.checked os 4 .any (Rows.fnExactStoreNewSpec.pre6 enc Try.prog Try.f4 Rows.fnExactStoreNewRow.domain false) (Rows.fnExactStoreNewSpec.post enc Try.prog Try.f4 false true false false) := by
  refine returnsInHanded_of_change_sized (C := Try.checked) own started (by kernel_rfl) Try.func4
    (ChangeSpec.witness6 (enc := enc) (C := Try.checked) false ⟨#[], #[], []⟩ 8 (by kernel_rfl) (by kernel_rfl) (by kernel_rfl) (by kernel_rfl)) ?_
  intro W base args ds gs before hval0 hW hcnd hsz0 _
  have hval : ∀ (j : Nat) t v, Try.f4.params[j]? = some t → args[j]? = some v → Value.okWide Try.prog W .any base t v := hval0
  have hW' := hW
  obtain ⟨p, q, hA0, hV, rfl, hfz, hnd⟩ := hW
  have hA : DataW.TrodAll enc Try.prog W 0 (fun _ => true) true Try.f4.params.toList args.toList ds p := hA0
  rw [Try.params4] at hA hval
  obtain ⟨hargs, rfl, rfl⟩ := trodAll_nil hA
  obtain rfl : args = #[] := by cases args; simp_all
  obtain ⟨rfl, rfl⟩ := trodVars_none hV
  refine (law_calls (semK_ok mixed gok pk_ok) (f := 4) (args := []) (vs := []) rfl (fun i x v hx hv => ?_) (ev_law (fun l hl => semK_prim rfl (by simp [PKc]; omega)))).mono fun e W' he => ?_
  · match i, hx, hv with
    | i, hx, hv => simp at hx
  · cases e with
    | panicked _ => exact he.elim
    | outgrown => exact he.elim
    | returned v =>
      obtain ⟨rfl, bel⟩ := he
      exact ⟨_, rfl, _, _, _, [], _, [], hW', trodAll_mk1 (shut_bool Try.underlying4 _), trodAll_mk0, rfl, bel.frame _, fun h => by cases h⟩
theorem j0 : (Rows.fnExactStoreNewRow.wf (OpenSpec.ofChange Rows.fnExactStoreNewSpec)) = true := by kernel_rfl
theorem j1 : (laidOutB Try.checked.prog) = true := by kernel_rfl
theorem j2 : (mapsRowed Try.checked.prog) = true := by kernel_rfl
theorem j3 : (Try.f4.params.all (Try.checked.prog.readableRec ·)) = true := by kernel_rfl
theorem j4 : (namedTie Try.checked.prog Rows.fnExactStoreNewRow.named Rows.fnExactStoreNewSpec.vars) = true := by kernel_rfl
theorem j5 : ((Rows.fnExactStoreNewRow.stops == [])) = true := by kernel_rfl
theorem j6 : ((Try.checked.prog.stops == [])) = true := by kernel_rfl
theorem j7 : ((Rows.fnExactStoreNewRow.knobs == [])) = true := by kernel_rfl
theorem j8 : ((Try.checked.prog.stopKnobs == [])) = true := by kernel_rfl
theorem j9 : ((Rows.fnExactStoreNewRow.inPlace == Try.checked.prog.inPlace 4)) = true := by kernel_rfl
theorem j10 : ((Rows.fnExactStoreNewRow.unfollowed == Try.checked.prog.unfollowed 4)) = true := by kernel_rfl
theorem j11 : ((Rows.fnExactStoreNewRow.recurses == Try.checked.prog.recurses 4)) = true := by kernel_rfl
theorem j12 : ((Rows.fnExactStoreNewRow.named == Try.checked.prog.varsNamed 4)) = true := by kernel_rfl
theorem j13 : ((Rows.fnExactStoreNewRow.maps == (Try.f4.params.toList ++ Rows.fnExactStoreNewSpec.plain.varTypes Try.checked.prog).any (Try.checked.prog.mapsRec ·))) = true := by kernel_rfl
theorem j14 : ((Rows.fnExactStoreNewRow.ifaces == (Try.f4.params.toList ++ Rows.fnExactStoreNewSpec.plain.varTypes Try.checked.prog).any (Try.checked.prog.ifacesRec ·))) = true := by kernel_rfl
theorem j15 : ((Rows.fnExactStoreNewRow.mapsOut == Try.checked.prog.mapsAmong Try.f4.resultTypes.toList)) = true := by kernel_rfl
theorem j16 : ((Rows.fnExactStoreNewRow.loops == (Try.f4.params.toList ++ Rows.fnExactStoreNewSpec.plain.varTypes Try.checked.prog).any (Try.checked.prog.loopsFrom ·))) = true := by kernel_rfl
theorem j17 : ((Rows.fnExactStoreNewRow.wideKeys == (Try.f4.params.toList ++ Rows.fnExactStoreNewSpec.plain.varTypes Try.checked.prog ++ Try.f4.resultTypes.toList).any (Try.checked.prog.wideKeysFrom ·))) = true := by kernel_rfl
theorem j18 : (Rows.fnExactStoreNewSpec.vars.all (Try.checked.prog.varReadable ·)) = true := by kernel_rfl
theorem j19 : (Try.f4.resultTypes.all (fun t => Try.checked.prog.readableRec t && decide (t < Try.checked.prog.types.size))) = true := by kernel_rfl
theorem j20 : ((Rows.fnExactStoreNewRow.ifacesOut == Try.f4.resultTypes.toList.any (Try.checked.prog.ifacesRec ·))) = true := by kernel_rfl
theorem j21 : ((Rows.fnExactStoreNewRow.loopsOut == Try.f4.resultTypes.toList.any (Try.checked.prog.loopsFrom ·))) = true := by kernel_rfl
theorem j22 : ((Rows.fnExactStoreNewRow.plainKeys == Try.checked.prog.plainKeys)) = true := by kernel_rfl
theorem j23 : (Rows.fnExactStoreNewRow.shortTexts.isNone) = true := by kernel_rfl
theorem j24 : (Try.checked.prog.stopsHeard) = true := by kernel_rfl
theorem j25 : (Try.checked.prog.mayEnter) = true := by kernel_rfl
theorem j26 : ((Rows.fnExactStoreNewRow.lifted == Try.checked.prog.liftsFinal)) = true := by kernel_rfl
theorem j27 : ((Try.checked.prog.make == some Rows.fnExactStoreNewRow.make)) = true := by kernel_rfl
theorem j28 : (kindsB Try.checked.prog Try.f4 Rows.fnExactStoreNewRow) = true := by kernel_rfl
theorem j29 : ((Rows.fnExactStoreNewRow.pinned == Rows.fnExactStoreNewRow.pinnedBy)) = true := by kernel_rfl
theorem j30 : ((Rows.fnExactStoreNewRow.veiled == (Try.f4.params.toList ++ Rows.fnExactStoreNewSpec.plain.varTypes Try.checked.prog ++ Try.f4.resultTypes.toList).any (Try.checked.prog.veiledRec ·))) = true := by kernel_rfl
theorem j31 : (Rows.fnExactStoreNewRow.veiledFits Try.checked.prog Try.f4.params.toList (Try.f4.params.toList ++ Rows.fnExactStoreNewSpec.plain.varTypes Try.checked.prog ++ Try.f4.resultTypes.toList)) = true := by kernel_rfl
theorem joined : joinedFacts Try.checked.prog 4 Try.f4 Rows.fnExactStoreNewSpec Rows.fnExactStoreNewRow = true := joined_of j0 j1 j2 j3 j4 j5 j6 j7 j8 j9 j10 j11 j12 j13 j14 j15 j16 j17 j18 j19 j20 j21 j22 j23 j24 j25 j26 j27 j28 j29 j30 j31
theorem over : Rows.fnExactStoreNewRow.holds Try.pinned (OpenSpec.ofChange Rows.fnExactStoreNewSpec) :=
  OpenClaim.holds_of_wide 4 Try.f4 rfl rfl rfl rfl rfl rfl rfl ⟨rfl, rfl, rfl, rfl, rfl⟩ rfl rfl rfl rfl rfl (by kernel_rfl) Try.func4 joined
    (of_decide_eq_true (by kernel_rfl)) (by unfold Func.isWrapper; first | (rw [if_pos (by decide +kernel)]; kernel_rfl) | (rw [if_neg (by decide +kernel)]; exact ⟨rfl, rfl⟩))
    (fun os started H enc _ => lifted os started H enc)
theorem proved : Rows.FnExactStoreNewSaid := over
#print axioms proved
end Go.Proofs.Ytijlnmofehekdaa.fnExactStoreNew
namespace Go.Proofs.Ytijlnmofehekdaa
/-- The row, under a short name, for the claim. -/
theorem fnExactStoreNew_holds : Rows.FnExactStoreNewSaid := fnExactStoreNew.proved
end Go.Proofs.Ytijlnmofehekdaa
