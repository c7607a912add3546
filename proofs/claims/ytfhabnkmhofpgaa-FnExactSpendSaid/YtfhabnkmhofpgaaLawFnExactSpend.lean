/- For every Pace and every whole number the statement FnExactSpend answers true: the row is proved of every argument, with no condition. -/
import Derived.Test.YtfhabnkmhofpgaaRows
import Derived.Test.YtfhabnkmhofpgaaPFnExactSpendx1
import Derived.Test.YtfhabnkmhofpgaaPureFnExactSpend
import Derived.WalkKit
import Derived.ProofKit
import Derived.OpenShut
import Derived.ShutString
import Derived.ChangeOld
import Derived.Below
import Derived.Carry
import Derived.Lib.SmallJoins
import Derived.SizedLaws
namespace Go.Proofs.Ytfhabnkmhofpgaa.fnExactSpend
open Go.ChangeShapes Go.WideShapes Go.ChangeAt Go.RowKit Go.Joins
set_option linter.unusedVariables false
theorem own : ownKnob Try.prog.godebug = none := by kernel_rfl
theorem laidOut : laidOutB Try.prog = true := by kernel_rfl
theorem open_field {H : Type} {enc : TypeId × Value → H} {W : World} {n : Nat} {v : Value} {y : DataW H × List MemPlace} {b0 : Nat} {t : TypeId} {k : IntKind} (ht : Try.prog.underlying t = some (.int k))
    (hf : DataW.trod enc Try.prog W 0 (fun _ => true) true n t [v] = some y) : ∃ i, v = .int k i := by
  obtain ⟨i, hv, _⟩ := DataW.trod_int ht hf
  exact ⟨i, List.head_eq_of_cons_eq hv⟩
set_option maxRecDepth 100000 in
theorem lifted (os : Os) (started : os.Started) (H : Type) (enc : TypeId × Value → H) :
    ReturnsInHanded {} Try.checked os 5 .any (Rows.fnExactSpendSpec.pre6 enc Try.prog Try.f5 Rows.fnExactSpendRow.domain false) (Rows.fnExactSpendSpec.post enc Try.prog Try.f5 false true false false) := by
  refine returnsInHanded_of_change_sized (C := Try.checked) own started (by kernel_rfl) Try.func5
    (ChangeSpec.witness6 (enc := enc) (C := Try.checked) false ⟨#[], #[.agg #[.int .i64 0, .int .i64 0, .int .i64 0], .int .i64 0], []⟩ 8 (by kernel_rfl) (by kernel_rfl) (by kernel_rfl) (by kernel_rfl)) ?_
  intro W base args ds gs before hval0 hW hcnd hsz0 _
  have hval : ∀ (j : Nat) t v, Try.f5.params[j]? = some t → args[j]? = some v → Value.okWide Try.prog W .any base t v := hval0
  have hW' := hW
  obtain ⟨p, q, hA0, hV, rfl, hfz, hnd⟩ := hW
  have hA : DataW.TrodAll enc Try.prog W 0 (fun _ => true) true Try.f5.params.toList args.toList ds p := hA0
  rw [Try.params5] at hA hval
  obtain ⟨v0, vs0, d0, ds0, p0, q0, hargs, rfl, rfl, h0, r0⟩ := trodAll_cons hA
  obtain ⟨v1, vs1, d1, ds1, p1, q1, rfl, rfl, rfl, h1, r1⟩ := trodAll_cons r0
  obtain ⟨rfl, rfl, rfl⟩ := trodAll_nil r1
  obtain rfl : args = #[v0, v1] := by cases args; simp_all
  obtain ⟨a1, rfl, rfl, rfl, w1⟩ := open_int Try.underlying3 (hval 1 3 v1 rfl rfl) h1
  obtain ⟨rfl, rfl⟩ := trodVars_none hV
  have k0 := h0
  have lt0 : ∀ x ∈ p0, x.block < W.heap.size := by obtain ⟨m, hm⟩ := k0; exact DataW.trod_lt m _ _ _ hm
  obtain ⟨u0, u1, u2, y0, y1, y2, n, rfl, _, _, e0, e1, e2⟩ := open_agg3 Try.underlying23 (by kernel_rfl) (by kernel_rfl) (hval 0 23 v0 rfl rfl) h0
  obtain ⟨i0, rfl⟩ := open_field (b0 := 0) Try.underlying3 e0
  obtain ⟨i1, rfl⟩ := open_field (b0 := 0) Try.underlying3 e1
  obtain ⟨i2, rfl⟩ := open_field (b0 := 0) Try.underlying3 e2
  clear hA0 hval0 hsz0
  refine (PFnExactSpend.laws_FnExactSpend.calls i0 i1 i2 a1 true W (Pure.FnExactSpend i0 i1 i2 a1)).mono fun e W' ⟨he, bel⟩ => ?_
  subst he
  exact ⟨_, rfl, _, _, _, [], _, [], hW', trodAll_mk1 (shut_bool Try.underlying4 _), (trodAll_cons_mk (Below.trod laidOut (by kernel_rfl) (of_decide_eq_true (by kernel_rfl)) k0 bel lt0) (trodAll_cons_mk (shut_int Try.underlying3 w1) trodAll_mk0)), rfl, bel.frame _, fun h => by cases h⟩
theorem over : Rows.fnExactSpendRow.holds Try.pinned (OpenSpec.ofChange Rows.fnExactSpendSpec) :=
  OpenClaim.holds_of_wide 5 Try.f5 rfl rfl rfl rfl rfl rfl rfl ⟨rfl, rfl, rfl, rfl, rfl⟩ rfl rfl rfl rfl rfl (by kernel_rfl) Try.func5 (by kernel_rfl)
    (of_decide_eq_true (by kernel_rfl)) (by unfold Func.isWrapper; first | (rw [if_pos (by decide +kernel)]; kernel_rfl) | (rw [if_neg (by decide +kernel)]; exact ⟨rfl, rfl⟩))
    (fun os started H enc _ => lifted os started H enc)
theorem proved : Rows.FnExactSpendSaid := over
#print axioms proved
end Go.Proofs.Ytfhabnkmhofpgaa.fnExactSpend
namespace Go.Proofs.Ytfhabnkmhofpgaa
/-- The row, under a short name, for the claim. -/
theorem fnExactSpend_holds : Rows.FnExactSpendSaid := fnExactSpend.proved
end Go.Proofs.Ytfhabnkmhofpgaa
