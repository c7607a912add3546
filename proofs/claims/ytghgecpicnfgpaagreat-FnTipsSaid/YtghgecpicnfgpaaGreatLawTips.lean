/- For every argument the statement FnTips answers true: the row is proved with no condition. -/
import Derived.Test.YtghgecpicnfgpaaGreatRows
import Derived.Test.YtghgecpicnfgpaaGreatEvTips0
import Derived.Test.YtghgecpicnfgpaaGreatPKi
import Derived.Test.YtghgecpicnfgpaaGreatBaseC
import Derived.WalkKit
import Derived.ProofKit
import Derived.OpenShut
import Derived.ShutString
import Derived.ChangeOld
import Derived.Below
import Derived.Carry
import Derived.Lib.SmallJoins
import Derived.SizedLaws
import Derived.JoinedOf
namespace Go.Proofs.YtghgecpicnfgpaaGreat.fnTips
open Go.Proofs.YtghgecpicnfgpaaGreat.Ow Go.ChangeShapes Go.WideShapes Go.ChangeAt Go.RowKit Go.Joins
set_option linter.unusedVariables false
theorem own : ownKnob Tryz.prog.godebug = none := by kernel_rfl
theorem laidOut : laidOutB Tryz.prog = true := by kernel_rfl
theorem mixed : Tryz.prog.follows .mixedOrders = true := by kernel_rfl
set_option maxRecDepth 100000 in
theorem lifted (os : Os) (started : os.Started) (H : Type) (enc : TypeId × Value → H) :
    ReturnsInHanded {} Tryz.checked os 5 .any (Rows.fnTipsSpec.pre6 enc Tryz.prog Tryz.f5 Rows.fnTipsRow.domain false) (Rows.fnTipsSpec.post enc Tryz.prog Tryz.f5 false true false false) := by
  refine returnsInHanded_of_change_sized (C := Tryz.checked) own started (by kernel_rfl) Tryz.func5
    (ChangeSpec.witness6 (enc := enc) (C := Tryz.checked) false ⟨#[], #[.slice none 0 0], []⟩ 8 (by kernel_rfl) (by kernel_rfl) (by kernel_rfl) (by kernel_rfl)) ?_
  intro W base args ds gs before hval0 hW hcnd hsz0 _
  have hval : ∀ (j : Nat) t v, Tryz.f5.params[j]? = some t → args[j]? = some v → Value.okWide Tryz.prog W .any base t v := hval0
  have hW' := hW
  obtain ⟨p, q, hA0, hV, rfl, hfz, hnd⟩ := hW
  have hA : DataW.TrodAll enc Tryz.prog W 0 (fun _ => true) true Tryz.f5.params.toList args.toList ds p := hA0
  rw [Tryz.params5] at hA hval
  obtain ⟨v0, vs0, d0, ds0, p0, q0, hargs, rfl, rfl, h0, r0⟩ := trodAll_cons hA
  obtain ⟨rfl, rfl, rfl⟩ := trodAll_nil r0
  obtain rfl : args = #[v0] := by cases args; simp_all
  obtain ⟨rfl, rfl⟩ := trodVars_none hV
  have k0 := h0
  have lt0 : ∀ x ∈ p0, x.block < W.heap.size := by obtain ⟨m, hm⟩ := k0; exact DataW.trod_lt m _ _ _ hm
  obtain ⟨x0, ok0, ar0⟩ := param_slice dec_U Tryz.underlying22 (m := 9) (by kernel_rfl) (hval 0 22 v0 rfl rfl) h0
  refine (law_calls (semK_ok mixed gok pk_ok) (f := 5) (args := [.v (.im 1 (Ow.enc fU x0))]) (vs := [v0]) rfl (fun i x v hx hv => ?_) (@ev_law ⟨PKc⟩ ⟨(fun l hl => semK_prim rfl ((if_pos ⟨rfl, Fh (fun _ => rfl) _, by rw [Bx]; omega⟩).trans rfl)), (fun l hl => semK_prim rfl ((if_pos ⟨rfl, Fh (fun _ => rfl) _, by rw [Bx]; omega⟩).trans rfl)), (fun l hl => semK_prim rfl ((if_pos ⟨rfl, Fh (fun _ => rfl) _, by rw [Bx]; omega⟩).trans rfl)), (fun l hl => semK_prim rfl ((if_pos ⟨rfl, Fh (fun _ => rfl) _, by rw [Bx]; omega⟩).trans rfl)), fun l k a hk hl => semK_prim rfl (insK_eq l k a hk hl)⟩ (fun rows i hi hl => semK_prim rfl (delK_eq 3 rows i hi)) x0 ok0)).mono fun e W' he => ?_
  · match i, hx, hv with
    | 0, hx, hv =>
      cases hx; cases hv
      exact ar0
    | i + 1, hx, hv => simp at hx
  · cases e with
    | panicked _ => exact he.elim
    | outgrown => exact he.elim
    | returned v =>
      obtain ⟨rfl, bel⟩ := he
      exact ⟨_, rfl, _, _, _, [], _, [], hW', trodAll_mk1 (shut_bool Tryz.underlying4 _), (trodAll_cons_mk (Below.trod laidOut (by kernel_rfl) (of_decide_eq_true (by kernel_rfl)) k0 bel lt0) trodAll_mk0), rfl, bel.frame _, fun h => by cases h⟩
theorem j0 : (Rows.fnTipsRow.wf (OpenSpec.ofChange Rows.fnTipsSpec)) = true := by kernel_rfl
theorem j1 : (laidOutB Tryz.checked.prog) = true := by kernel_rfl
theorem j2 : (mapsRowed Tryz.checked.prog) = true := by kernel_rfl
theorem j3 : (Tryz.f5.params.all (Tryz.checked.prog.readableRec ·)) = true := by kernel_rfl
theorem j4 : (namedTie Tryz.checked.prog Rows.fnTipsRow.named Rows.fnTipsSpec.vars) = true := by kernel_rfl
theorem j5 : ((Rows.fnTipsRow.stops == [])) = true := by kernel_rfl
theorem j6 : ((Tryz.checked.prog.stops == [])) = true := by kernel_rfl
theorem j7 : ((Rows.fnTipsRow.knobs == [])) = true := by kernel_rfl
theorem j8 : ((Tryz.checked.prog.stopKnobs == [])) = true := by kernel_rfl
theorem j9 : ((Rows.fnTipsRow.inPlace == Tryz.checked.prog.inPlace 5)) = true := by kernel_rfl
theorem j10 : ((Rows.fnTipsRow.unfollowed == Tryz.checked.prog.unfollowed 5)) = true := by kernel_rfl
theorem j11 : ((Rows.fnTipsRow.recurses == Tryz.checked.prog.recurses 5)) = true := by kernel_rfl
theorem j12 : ((Rows.fnTipsRow.named == Tryz.checked.prog.varsNamed 5)) = true := by kernel_rfl
theorem j13 : ((Rows.fnTipsRow.maps == (Tryz.f5.params.toList ++ Rows.fnTipsSpec.plain.varTypes Tryz.checked.prog).any (Tryz.checked.prog.mapsRec ·))) = true := by kernel_rfl
theorem j14 : ((Rows.fnTipsRow.ifaces == (Tryz.f5.params.toList ++ Rows.fnTipsSpec.plain.varTypes Tryz.checked.prog).any (Tryz.checked.prog.ifacesRec ·))) = true := by kernel_rfl
theorem j15 : ((Rows.fnTipsRow.mapsOut == Tryz.checked.prog.mapsAmong Tryz.f5.resultTypes.toList)) = true := by kernel_rfl
theorem j16 : ((Rows.fnTipsRow.loops == (Tryz.f5.params.toList ++ Rows.fnTipsSpec.plain.varTypes Tryz.checked.prog).any (Tryz.checked.prog.loopsFrom ·))) = true := by kernel_rfl
theorem j17 : ((Rows.fnTipsRow.wideKeys == (Tryz.f5.params.toList ++ Rows.fnTipsSpec.plain.varTypes Tryz.checked.prog ++ Tryz.f5.resultTypes.toList).any (Tryz.checked.prog.wideKeysFrom ·))) = true := by kernel_rfl
theorem j18 : (Rows.fnTipsSpec.vars.all (Tryz.checked.prog.varReadable ·)) = true := by kernel_rfl
theorem j19 : (Tryz.f5.resultTypes.all (fun t => Tryz.checked.prog.readableRec t && decide (t < Tryz.checked.prog.types.size))) = true := by kernel_rfl
theorem j20 : ((Rows.fnTipsRow.ifacesOut == Tryz.f5.resultTypes.toList.any (Tryz.checked.prog.ifacesRec ·))) = true := by kernel_rfl
theorem j21 : ((Rows.fnTipsRow.loopsOut == Tryz.f5.resultTypes.toList.any (Tryz.checked.prog.loopsFrom ·))) = true := by kernel_rfl
theorem j22 : ((Rows.fnTipsRow.plainKeys == Tryz.checked.prog.plainKeys)) = true := by kernel_rfl
theorem j23 : (Rows.fnTipsRow.shortTexts.isNone) = true := by kernel_rfl
theorem j24 : (Tryz.checked.prog.stopsHeard) = true := by kernel_rfl
theorem j25 : (Tryz.checked.prog.mayEnter) = true := by kernel_rfl
theorem j26 : ((Rows.fnTipsRow.lifted == Tryz.checked.prog.liftsFinal)) = true := by kernel_rfl
theorem j27 : ((Tryz.checked.prog.make == some Rows.fnTipsRow.make)) = true := by kernel_rfl
theorem j28 : (kindsB Tryz.checked.prog Tryz.f5 Rows.fnTipsRow) = true := by kernel_rfl
theorem j29 : ((Rows.fnTipsRow.pinned == Rows.fnTipsRow.pinnedBy)) = true := by kernel_rfl
theorem j30 : ((Rows.fnTipsRow.veiled == (Tryz.f5.params.toList ++ Rows.fnTipsSpec.plain.varTypes Tryz.checked.prog ++ Tryz.f5.resultTypes.toList).any (Tryz.checked.prog.veiledRec ·))) = true := by kernel_rfl
theorem j31 : (Rows.fnTipsRow.veiledFits Tryz.checked.prog Tryz.f5.params.toList (Tryz.f5.params.toList ++ Rows.fnTipsSpec.plain.varTypes Tryz.checked.prog ++ Tryz.f5.resultTypes.toList)) = true := by kernel_rfl
theorem joined : joinedFacts Tryz.checked.prog 5 Tryz.f5 Rows.fnTipsSpec Rows.fnTipsRow = true := joined_of j0 j1 j2 j3 j4 j5 j6 j7 j8 j9 j10 j11 j12 j13 j14 j15 j16 j17 j18 j19 j20 j21 j22 j23 j24 j25 j26 j27 j28 j29 j30 j31
theorem over : Rows.fnTipsRow.holds Tryz.pinned (OpenSpec.ofChange Rows.fnTipsSpec) :=
  OpenClaim.holds_of_wide 5 Tryz.f5 rfl rfl rfl rfl rfl rfl rfl ⟨rfl, rfl, rfl, rfl, rfl⟩ rfl rfl rfl rfl rfl (by kernel_rfl) Tryz.func5 joined
    (of_decide_eq_true (by kernel_rfl)) (by unfold Func.isWrapper; first | (rw [if_pos (by decide +kernel)]; kernel_rfl) | (rw [if_neg (by decide +kernel)]; exact ⟨rfl, rfl⟩))
    (fun os started H enc _ => lifted os started H enc)
theorem proved : Rows.FnTipsSaid := over
#print axioms proved
end Go.Proofs.YtghgecpicnfgpaaGreat.fnTips
namespace Go.Proofs.YtghgecpicnfgpaaGreat
/-- The row, under a EC name, for the claim. -/
theorem fnTips_holds : Rows.FnTipsSaid := fnTips.proved
end Go.Proofs.YtghgecpicnfgpaaGreat
