/- For every argument the statement FnCommon answers true: the row is proved with no condition. -/
import Derived.Test.YtghgecpicnfgpaaGreatRows
import Derived.Test.YtghgecpicnfgpaaGreatEvCommon0
import Derived.Test.YtghgecpicnfgpaaGreatPKi
import Derived.Test.YtghgecpicnfgpaaGreatBaseC
import Derived.WalkKit
import Derived.ProofKit
import Derived.OpenShut
import Derived.ShutString
import Derived.ChangeOld
import Derived.Below
import Derived.Carry
import Derived.Lib.SmallJoins
import Derived.SizedLaws
import Derived.JoinedOf
namespace Go.Proofs.YtghgecpicnfgpaaGreat.fnCommon
open Go.Proofs.YtghgecpicnfgpaaGreat.Ow Go.ChangeShapes Go.WideShapes Go.ChangeAt Go.RowKit Go.Joins
set_option linter.unusedVariables false
theorem own : ownKnob Tryz.prog.godebug = none := by kernel_rfl
theorem laidOut : laidOutB Tryz.prog = true := by kernel_rfl
theorem mixed : Tryz.prog.follows .mixedOrders = true := by kernel_rfl
set_option maxRecDepth 100000 in
theorem lifted (os : Os) (started : os.Started) (H : Type) (enc : TypeId × Value → H) :
    ReturnsInHanded {} Tryz.checked os 6 .any (Rows.fnCommonSpec.pre6 enc Tryz.prog Tryz.f6 Rows.fnCommonRow.domain false) (Rows.fnCommonSpec.post enc Tryz.prog Tryz.f6 false true false false) := by
  refine returnsInHanded_of_change_sized (C := Tryz.checked) own started (by kernel_rfl) Tryz.func6
    (ChangeSpec.witness6 (enc := enc) (C := Tryz.checked) false ⟨#[], #[.slice none 0 0], []⟩ 8 (by kernel_rfl) (by kernel_rfl) (by kernel_rfl) (by kernel_rfl)) ?_
  intro W base args ds gs before hval0 hW hcnd hsz0 _
  have hval : ∀ (j : Nat) t v, Tryz.f6.params[j]? = some t → args[j]? = some v → Value.okWide Tryz.prog W .any base t v := hval0
  have hW' := hW
  obtain ⟨p, q, hA0, hV, rfl, hfz, hnd⟩ := hW
  have hA : DataW.TrodAll enc Tryz.prog W 0 (fun _ => true) true Tryz.f6.params.toList args.toList ds p := hA0
  rw [Tryz.params6] at hA hval
  obtain ⟨v0, vs0, d0, ds0, p0, q0, hargs, rfl, rfl, h0, r0⟩ := trodAll_cons hA
  obtain ⟨rfl, rfl, rfl⟩ := trodAll_nil r0
  obtain rfl : args = #[v0] := by cases args; simp_all
  obtain ⟨rfl, rfl⟩ := trodVars_none hV
  have k0 := h0
  have lt0 : ∀ x ∈ p0, x.block < W.heap.size := by obtain ⟨m, hm⟩ := k0; exact DataW.trod_lt m _ _ _ hm
  obtain ⟨x0, ok0, ar0⟩ := param_slice dec_U Tryz.underlying22 (m := 9) (by kernel_rfl) (hval 0 22 v0 rfl rfl) h0
  refine (law_calls (semK_ok mixed gok pk_ok) (f := 6) (args := [.v (.im 1 (Ow.enc fU x0))]) (vs := [v0]) rfl (fun i x v hx hv => ?_) (@ev_law ⟨PKc⟩ ⟨(fun l hl => semK_prim rfl ((if_pos ⟨rfl, Fh (fun _ => rfl) _, by rw [Bx]; omega⟩).trans rfl)), (fun l hl => semK_prim rfl ((if_pos ⟨rfl, Fh (fun _ => rfl) _, by rw [Bx]; omega⟩).trans rfl)), (fun l hl => semK_prim rfl ((if_pos ⟨rfl, Fh (fun _ => rfl) _, by rw [Bx]; omega⟩).trans rfl)), (fun l hl => semK_prim rfl ((if_pos ⟨rfl, Fh (fun _ => rfl) _, by rw [Bx]; omega⟩).trans rfl)), fun l k a hk hl => semK_prim rfl (insK_eq l k a hk hl)⟩ (fun rows i hi hl => semK_prim rfl (delK_eq 3 rows i hi)) x0 ok0)).mono fun e W' he => ?_
  · match i, hx, hv with
    | 0, hx, hv =>
      cases hx; cases hv
      exact ar0
    | i + 1, hx, hv => simp at hx
  · cases e with
    | panicked _ => exact he.elim
    | outgrown => exact he.elim
    | returned v =>
      obtain ⟨rfl, bel⟩ := he
      exact ⟨_, rfl, _, _, _, [], _, [], hW', trodAll_mk1 (shut_bool Tryz.underlying4 _), (trodAll_cons_mk (Below.trod laidOut (by kernel_rfl) (of_decide_eq_true (by kernel_rfl)) k0 bel lt0) trodAll_mk0), rfl, bel.frame _, fun h => by cases h⟩
theorem j0 : (Rows.fnCommonRow.wf (OpenSpec.ofChange Rows.fnCommonSpec)) = true := by kernel_rfl
theorem j1 : (laidOutB Tryz.checked.prog) = true := by kernel_rfl
theorem j2 : (mapsRowed Tryz.checked.prog) = true := by kernel_rfl
theorem j3 : (Tryz.f6.params.all (Tryz.checked.prog.readableRec ·)) = true := by kernel_rfl
theorem j4 : (namedTie Tryz.checked.prog Rows.fnCommonRow.named Rows.fnCommonSpec.vars) = true := by kernel_rfl
theorem j5 : ((Rows.fnCommonRow.stops == [])) = true := by kernel_rfl
theorem j6 : ((Tryz.checked.prog.stops == [])) = true := by kernel_rfl
theorem j7 : ((Rows.fnCommonRow.knobs == [])) = true := by kernel_rfl
theorem j8 : ((Tryz.checked.prog.stopKnobs == [])) = true := by kernel_rfl
theorem j9 : ((Rows.fnCommonRow.inPlace == Tryz.checked.prog.inPlace 6)) = true := by kernel_rfl
theorem j10 : ((Rows.fnCommonRow.unfollowed == Tryz.checked.prog.unfollowed 6)) = true := by kernel_rfl
theorem j11 : ((Rows.fnCommonRow.recurses == Tryz.checked.prog.recurses 6)) = true := by kernel_rfl
theorem j12 : ((Rows.fnCommonRow.named == Tryz.checked.prog.varsNamed 6)) = true := by kernel_rfl
theorem j13 : ((Rows.fnCommonRow.maps == (Tryz.f6.params.toList ++ Rows.fnCommonSpec.plain.varTypes Tryz.checked.prog).any (Tryz.checked.prog.mapsRec ·))) = true := by kernel_rfl
theorem j14 : ((Rows.fnCommonRow.ifaces == (Tryz.f6.params.toList ++ Rows.fnCommonSpec.plain.varTypes Tryz.checked.prog).any (Tryz.checked.prog.ifacesRec ·))) = true := by kernel_rfl
theorem j15 : ((Rows.fnCommonRow.mapsOut == Tryz.checked.prog.mapsAmong Tryz.f6.resultTypes.toList)) = true := by kernel_rfl
theorem j16 : ((Rows.fnCommonRow.loops == (Tryz.f6.params.toList ++ Rows.fnCommonSpec.plain.varTypes Tryz.checked.prog).any (Tryz.checked.prog.loopsFrom ·))) = true := by kernel_rfl
theorem j17 : ((Rows.fnCommonRow.wideKeys == (Tryz.f6.params.toList ++ Rows.fnCommonSpec.plain.varTypes Tryz.checked.prog ++ Tryz.f6.resultTypes.toList).any (Tryz.checked.prog.wideKeysFrom ·))) = true := by kernel_rfl
theorem j18 : (Rows.fnCommonSpec.vars.all (Tryz.checked.prog.varReadable ·)) = true := by kernel_rfl
theorem j19 : (Tryz.f6.resultTypes.all (fun t => Tryz.checked.prog.readableRec t && decide (t < Tryz.checked.prog.types.size))) = true := by kernel_rfl
theorem j20 : ((Rows.fnCommonRow.ifacesOut == Tryz.f6.resultTypes.toList.any (Tryz.checked.prog.ifacesRec ·))) = true := by kernel_rfl
theorem j21 : ((Rows.fnCommonRow.loopsOut == Tryz.f6.resultTypes.toList.any (Tryz.checked.prog.loopsFrom ·))) = true := by kernel_rfl
theorem j22 : ((Rows.fnCommonRow.plainKeys == Tryz.checked.prog.plainKeys)) = true := by kernel_rfl
theorem j23 : (Rows.fnCommonRow.shortTexts.isNone) = true := by kernel_rfl
theorem j24 : (Tryz.checked.prog.stopsHeard) = true := by kernel_rfl
theorem j25 : (Tryz.checked.prog.mayEnter) = true := by kernel_rfl
theorem j26 : ((Rows.fnCommonRow.lifted == Tryz.checked.prog.liftsFinal)) = true := by kernel_rfl
theorem j27 : ((Tryz.checked.prog.make == some Rows.fnCommonRow.make)) = true := by kernel_rfl
theorem j28 : (kindsB Tryz.checked.prog Tryz.f6 Rows.fnCommonRow) = true := by kernel_rfl
theorem j29 : ((Rows.fnCommonRow.pinned == Rows.fnCommonRow.pinnedBy)) = true := by kernel_rfl
theorem j30 : ((Rows.fnCommonRow.veiled == (Tryz.f6.params.toList ++ Rows.fnCommonSpec.plain.varTypes Tryz.checked.prog ++ Tryz.f6.resultTypes.toList).any (Tryz.checked.prog.veiledRec ·))) = true := by kernel_rfl
theorem j31 : (Rows.fnCommonRow.veiledFits Tryz.checked.prog Tryz.f6.params.toList (Tryz.f6.params.toList ++ Rows.fnCommonSpec.plain.varTypes Tryz.checked.prog ++ Tryz.f6.resultTypes.toList)) = true := by kernel_rfl
theorem joined : joinedFacts Tryz.checked.prog 6 Tryz.f6 Rows.fnCommonSpec Rows.fnCommonRow = true := joined_of j0 j1 j2 j3 j4 j5 j6 j7 j8 j9 j10 j11 j12 j13 j14 j15 j16 j17 j18 j19 j20 j21 j22 j23 j24 j25 j26 j27 j28 j29 j30 j31
theorem over : Rows.fnCommonRow.holds Tryz.pinned (OpenSpec.ofChange Rows.fnCommonSpec) :=
  OpenClaim.holds_of_wide 6 Tryz.f6 rfl rfl rfl rfl rfl rfl rfl ⟨rfl, rfl, rfl, rfl, rfl⟩ rfl rfl rfl rfl rfl (by kernel_rfl) Tryz.func6 joined
    (of_decide_eq_true (by kernel_rfl)) (by unfold Func.isWrapper; first | (rw [if_pos (by decide +kernel)]; kernel_rfl) | (rw [if_neg (by decide +kernel)]; exact ⟨rfl, rfl⟩))
    (fun os started H enc _ => lifted os started H enc)
theorem proved : Rows.FnCommonSaid := over
#print axioms proved
end Go.Proofs.YtghgecpicnfgpaaGreat.fnCommon
namespace Go.Proofs.YtghgecpicnfgpaaGreat
/-- The row, under a EC name, for the claim. -/
theorem fnCommon_holds : Rows.FnCommonSaid := fnCommon.proved
end Go.Proofs.YtghgecpicnfgpaaGreat
