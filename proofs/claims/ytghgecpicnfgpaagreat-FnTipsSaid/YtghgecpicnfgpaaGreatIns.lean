/- The library function slices.Insert: its text here is the one of its contract. -/
import Derived.Shelf.Spec.SlicesInsert
import Derived.Shelf.Spec.SlicesInsertGrow
import Derived.Test.YtghgecpicnfgpaaGreatProg
namespace Go.Proofs
open Go.Shelf
def Tryz.laysNm2_21_ren : Go.Shelf.Ren := ⟨fun | 21 => 233 | 27 => 265 | 28 => 266 | 35 => 285 | 39 => 54 | n => n, fun | 22 => 27 | 3 => 3 | 4 => 4 | 0 => 0 | n => n, fun | n => n⟩
theorem Tryz.laysNm2_21 : Go.Proofs.Lays2.n21 Tryz.prog Tryz.laysNm2_21_ren := {
  mixed := by kernel_rfl
  f21 := Tryz.func233.trans (congrArg some (by kernel_rfl))
  f27 := Tryz.func265.trans (congrArg some (by kernel_rfl))
  f28 := Tryz.func266.trans (congrArg some (by kernel_rfl))
  f35 := Tryz.func285.trans (congrArg some (by kernel_rfl))
  f39 := Tryz.func54.trans (congrArg some (by kernel_rfl))
  t0 := Tryz.underlying0
  a0 := Tryz.isAgg0
  z0 := Tryz.sizeOf0
  v0 := Tryz.zeroValue0
  t3 := Tryz.underlying3
  a3 := Tryz.isAgg3
  z3 := Tryz.sizeOf3
  v3 := Tryz.zeroValue3
  t4 := Tryz.underlying4
  a4 := Tryz.isAgg4
  z4 := Tryz.sizeOf4
  v4 := Tryz.zeroValue4
  t22 := Tryz.underlying27
  a22 := Tryz.isAgg27
  z22 := Tryz.sizeOf27
  v22 := Tryz.zeroValue27
  i3 := by kernel_rfl }
end Go.Proofs
