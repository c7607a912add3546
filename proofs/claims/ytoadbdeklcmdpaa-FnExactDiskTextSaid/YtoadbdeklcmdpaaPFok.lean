/- The texts of the functions are what the loaded functions become. -/
import Derived.Test.YtoadbdeklcmdpaaPF
import Derived.Test.YtoadbdeklcmdpaaProg
import Derived.KernelRfl
namespace Go.Proofs.Ytoadbdeklcmdpaa.Ow
open Go
set_option maxRecDepth 100000
theorem prep3 : prep Try.prog hintF 3 = some p3 := by kernel_rfl
theorem prep4 : prep Try.prog hintF 4 = some p4 := by kernel_rfl
theorem prep5 : prep Try.prog hintF 5 = some p5 := by kernel_rfl
theorem prep6 : prep Try.prog hintF 6 = some p6 := by kernel_rfl
theorem prep7 : prep Try.prog hintF 7 = some p7 := by kernel_rfl
theorem prep8 : prep Try.prog hintF 8 = some p8 := by kernel_rfl
theorem prep9 : prep Try.prog hintF 9 = some p9 := by kernel_rfl
theorem prep10 : prep Try.prog hintF 10 = some p10 := by kernel_rfl
theorem prep11 : prep Try.prog hintF 11 = some p11 := by kernel_rfl
theorem prep12 : prep Try.prog hintF 12 = some p12 := by kernel_rfl
theorem prep13 : prep Try.prog hintF 13 = some p13 := by kernel_rfl
theorem prep14 : prep Try.prog hintF 14 = some p14 := by kernel_rfl
theorem prep15 : prep Try.prog hintF 15 = some p15 := by kernel_rfl
theorem prep16 : prep Try.prog hintF 16 = some p16 := by kernel_rfl
theorem prep17 : prep Try.prog hintF 17 = some p17 := by kernel_rfl
theorem prep18 : prep Try.prog hintF 18 = some p18 := by kernel_rfl
theorem prep19 : prep Try.prog hintF 19 = some p19 := by kernel_rfl
theorem prep20 : prep Try.prog hintF 20 = some p20 := by kernel_rfl
theorem prep21 : prep Try.prog hintF 21 = some p21 := by kernel_rfl
theorem prep22 : prep Try.prog hintF 22 = some p22 := by kernel_rfl
theorem prep23 : prep Try.prog hintF 23 = some p23 := by kernel_rfl
theorem prep24 : prep Try.prog hintF 24 = some p24 := by kernel_rfl
theorem prep25 : prep Try.prog hintF 25 = some p25 := by kernel_rfl
theorem prep26 : prep Try.prog hintF 26 = some p26 := by kernel_rfl
theorem prep27 : prep Try.prog hintF 27 = some p27 := by kernel_rfl
theorem prep28 : prep Try.prog hintF 28 = some p28 := by kernel_rfl
theorem prep29 : prep Try.prog hintF 29 = some p29 := by kernel_rfl
theorem gok : GOk Try.prog hintF G := ⟨fun f pf h => by
  unfold G at h
  split at h
  · cases h; exact prep3
  · cases h; exact prep4
  · cases h; exact prep5
  · cases h; exact prep6
  · cases h; exact prep7
  · cases h; exact prep8
  · cases h; exact prep9
  · cases h; exact prep10
  · cases h; exact prep11
  · cases h; exact prep12
  · cases h; exact prep13
  · cases h; exact prep14
  · cases h; exact prep15
  · cases h; exact prep16
  · cases h; exact prep17
  · cases h; exact prep18
  · cases h; exact prep19
  · cases h; exact prep20
  · cases h; exact prep21
  · cases h; exact prep22
  · cases h; exact prep23
  · cases h; exact prep24
  · cases h; exact prep25
  · cases h; exact prep26
  · cases h; exact prep27
  · cases h; exact prep28
  · cases h; exact prep29
  · cases h⟩
end Go.Proofs.Ytoadbdeklcmdpaa.Ow
