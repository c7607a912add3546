/- For every Pace the statement FnExactPaceTick answers true: the row is proved of every argument, with no condition. -/
import Derived.Test.YtfhabnkmhofpgaaRows
import Derived.Test.YtfhabnkmhofpgaaPFnExactPaceTickx1
import Derived.Test.YtfhabnkmhofpgaaPureFnExactPaceTick
import Derived.WalkKit
import Derived.ProofKit
import Derived.OpenShut
import Derived.ShutString
import Derived.ChangeOld
import Derived.Below
import Derived.Carry
import Derived.Lib.SmallJoins
import Derived.SizedLaws
namespace Go.Proofs.Ytfhabnkmhofpgaa.fnExactPaceTick
open Go.ChangeShapes Go.WideShapes Go.ChangeAt Go.RowKit Go.Joins
set_option linter.unusedVariables false
theorem own : ownKnob Try.prog.godebug = none := by kernel_rfl
theorem laidOut : laidOutB Try.prog = true := by kernel_rfl
theorem open_field {H : Type} {enc : TypeId × Value → H} {W : World} {n : Nat} {v : Value} {y : DataW H × List MemPlace} {b0 : Nat} {t : TypeId} {k : IntKind} (ht : Try.prog.underlying t = some (.int k))
    (hf : DataW.trod enc Try.prog W 0 (fun _ => true) true n t [v] = some y) : ∃ i, v = .int k i := by
  obtain ⟨i, hv, _⟩ := DataW.trod_int ht hf
  exact ⟨i, List.head_eq_of_cons_eq hv⟩
set_option maxRecDepth 100000 in
theorem lifted (os : Os) (started : os.Started) (H : Type) (enc : TypeId × Value → H) :
    ReturnsInHanded {} Try.checked os 6 .any (Rows.fnExactPaceTickSpec.pre6 enc Try.prog Try.f6 Rows.fnExactPaceTickRow.domain false) (Rows.fnExactPaceTickSpec.post enc Try.prog Try.f6 false true false false) := by
  refine returnsInHanded_of_change_sized (C := Try.checked) own started (by kernel_rfl) Try.func6
    (ChangeSpec.witness6 (enc := enc) (C := Try.checked) false ⟨#[], #[.agg #[.int .i64 0, .int .i64 0, .int .i64 0]], []⟩ 8 (by kernel_rfl) (by kernel_rfl) (by kernel_rfl) (by kernel_rfl)) ?_
  intro W base args ds gs before hval0 hW hcnd hsz0 _
  have hval : ∀ (j : Nat) t v, Try.f6.params[j]? = some t → args[j]? = some v → Value.okWide Try.prog W .any base t v := hval0
  have hW' := hW
  obtain ⟨p, q, hA0, hV, rfl, hfz, hnd⟩ := hW
  have hA : DataW.TrodAll enc Try.prog W 0 (fun _ => true) true Try.f6.params.toList args.toList ds p := hA0
  rw [Try.params6] at hA hval
  obtain ⟨v0, vs0, d0, ds0, p0, q0, hargs, rfl, rfl, h0, r0⟩ := trodAll_cons hA
  obtain ⟨rfl, rfl, rfl⟩ := trodAll_nil r0
  obtain rfl : args = #[v0] := by cases args; simp_all
  obtain ⟨rfl, rfl⟩ := trodVars_none hV
  have k0 := h0
  have lt0 : ∀ x ∈ p0, x.block < W.heap.size := by obtain ⟨m, hm⟩ := k0; exact DataW.trod_lt m _ _ _ hm
  obtain ⟨u0, u1, u2, y0, y1, y2, n, rfl, _, _, e0, e1, e2⟩ := open_agg3 Try.underlying23 (by kernel_rfl) (by kernel_rfl) (hval 0 23 v0 rfl rfl) h0
  obtain ⟨i0, rfl⟩ := open_field (b0 := 0) Try.underlying3 e0
  obtain ⟨i1, rfl⟩ := open_field (b0 := 0) Try.underlying3 e1
  obtain ⟨i2, rfl⟩ := open_field (b0 := 0) Try.underlying3 e2
  clear hA0 hval0 hsz0
  refine (PFnExactPaceTick.laws_FnExactPaceTick.calls i0 i1 i2 true W (Pure.FnExactPaceTick i0 i1 i2)).mono fun e W' ⟨he, bel⟩ => ?_
  subst he
  exact ⟨_, rfl, _, _, _, [], _, [], hW', trodAll_mk1 (shut_bool Try.underlying4 _), (trodAll_cons_mk (Below.trod laidOut (by kernel_rfl) (of_decide_eq_true (by kernel_rfl)) k0 bel lt0) trodAll_mk0), rfl, bel.frame _, fun h => by cases h⟩
theorem over : Rows.fnExactPaceTickRow.holds Try.pinned (OpenSpec.ofChange Rows.fnExactPaceTickSpec) :=
  OpenClaim.holds_of_wide 6 Try.f6 rfl rfl rfl rfl rfl rfl rfl ⟨rfl, rfl, rfl, rfl, rfl⟩ rfl rfl rfl rfl rfl (by kernel_rfl) Try.func6 (by kernel_rfl)
    (of_decide_eq_true (by kernel_rfl)) (by unfold Func.isWrapper; first | (rw [if_pos (by decide +kernel)]; kernel_rfl) | (rw [if_neg (by decide +kernel)]; exact ⟨rfl, rfl⟩))
    (fun os started H enc _ => lifted os started H enc)
theorem proved : Rows.FnExactPaceTickSaid := over
#print axioms proved
end Go.Proofs.Ytfhabnkmhofpgaa.fnExactPaceTick
namespace Go.Proofs.Ytfhabnkmhofpgaa
/-- The row, under a short name, for the claim. -/
theorem fnExactPaceTick_holds : Rows.FnExactPaceTickSaid := fnExactPaceTick.proved
end Go.Proofs.Ytfhabnkmhofpgaa
