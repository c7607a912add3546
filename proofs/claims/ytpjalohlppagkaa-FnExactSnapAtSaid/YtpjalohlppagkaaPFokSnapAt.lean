/- The texts of the functions are what the loaded functions become. -/
import Derived.Test.YtpjalohlppagkaaPFSnapAt
import Derived.Test.YtpjalohlppagkaaProg
import Derived.KernelRfl
namespace Go.Proofs.Ytpjalohlppagkaa.Ow
open Go
set_option maxRecDepth 100000
theorem prep4 : prep Try.prog hintF 4 = some p4 := by kernel_rfl
theorem prep5 : prep Try.prog hintF 5 = some p5 := by kernel_rfl
theorem prep8 : prep Try.prog hintF 8 = some p8 := by kernel_rfl
theorem prep11 : prep Try.prog hintF 11 = some p11 := by kernel_rfl
theorem prep12 : prep Try.prog hintF 12 = some p12 := by kernel_rfl
theorem prep13 : prep Try.prog hintF 13 = some p13 := by kernel_rfl
theorem prep14 : prep Try.prog hintF 14 = some p14 := by kernel_rfl
theorem prep15 : prep Try.prog hintF 15 = some p15 := by kernel_rfl
theorem prep16 : prep Try.prog hintF 16 = some p16 := by kernel_rfl
theorem prep17 : prep Try.prog hintF 17 = some p17 := by kernel_rfl
theorem prep18 : prep Try.prog hintF 18 = some p18 := by kernel_rfl
theorem prep19 : prep Try.prog hintF 19 = some p19 := by kernel_rfl
theorem prep20 : prep Try.prog hintF 20 = some p20 := by kernel_rfl
theorem prep21 : prep Try.prog hintF 21 = some p21 := by kernel_rfl
theorem prep23 : prep Try.prog hintF 23 = some p23 := by kernel_rfl
theorem prep24 : prep Try.prog hintF 24 = some p24 := by kernel_rfl
theorem prep25 : prep Try.prog hintF 25 = some p25 := by kernel_rfl
theorem prep26 : prep Try.prog hintF 26 = some p26 := by kernel_rfl
theorem prep28 : prep Try.prog hintF 28 = some p28 := by kernel_rfl
theorem prep29 : prep Try.prog hintF 29 = some p29 := by kernel_rfl
theorem prep30 : prep Try.prog hintF 30 = some p30 := by kernel_rfl
theorem prep31 : prep Try.prog hintF 31 = some p31 := by kernel_rfl
theorem prep32 : prep Try.prog hintF 32 = some p32 := by kernel_rfl
theorem prep33 : prep Try.prog hintF 33 = some p33 := by kernel_rfl
theorem prep34 : prep Try.prog hintF 34 = some p34 := by kernel_rfl
theorem prep35 : prep Try.prog hintF 35 = some p35 := by kernel_rfl
theorem prep36 : prep Try.prog hintF 36 = some p36 := by kernel_rfl
theorem prep37 : prep Try.prog hintF 37 = some p37 := by kernel_rfl
theorem prep38 : prep Try.prog hintF 38 = some p38 := by kernel_rfl
theorem prep39 : prep Try.prog hintF 39 = some p39 := by kernel_rfl
theorem prep40 : prep Try.prog hintF 40 = some p40 := by kernel_rfl
theorem prep41 : prep Try.prog hintF 41 = some p41 := by kernel_rfl
theorem prep42 : prep Try.prog hintF 42 = some p42 := by kernel_rfl
theorem prep43 : prep Try.prog hintF 43 = some p43 := by kernel_rfl
theorem prep44 : prep Try.prog hintF 44 = some p44 := by kernel_rfl
theorem prep45 : prep Try.prog hintF 45 = some p45 := by kernel_rfl
theorem prep46 : prep Try.prog hintF 46 = some p46 := by kernel_rfl
theorem prep47 : prep Try.prog hintF 47 = some p47 := by kernel_rfl
theorem prep48 : prep Try.prog hintF 48 = some p48 := by kernel_rfl
theorem prep49 : prep Try.prog hintF 49 = some p49 := by kernel_rfl
theorem prep50 : prep Try.prog hintF 50 = some p50 := by kernel_rfl
theorem prep51 : prep Try.prog hintF 51 = some p51 := by kernel_rfl
theorem prep52 : prep Try.prog hintF 52 = some p52 := by kernel_rfl
theorem prep53 : prep Try.prog hintF 53 = some p53 := by kernel_rfl
theorem prep54 : prep Try.prog hintF 54 = some p54 := by kernel_rfl
theorem prep55 : prep Try.prog hintF 55 = some p55 := by kernel_rfl
theorem prep56 : prep Try.prog hintF 56 = some p56 := by kernel_rfl
theorem prep57 : prep Try.prog hintF 57 = some p57 := by kernel_rfl
theorem prep58 : prep Try.prog hintF 58 = some p58 := by kernel_rfl
theorem prep59 : prep Try.prog hintF 59 = some p59 := by kernel_rfl
theorem prep60 : prep Try.prog hintF 60 = some p60 := by kernel_rfl
theorem prep61 : prep Try.prog hintF 61 = some p61 := by kernel_rfl
theorem prep62 : prep Try.prog hintF 62 = some p62 := by kernel_rfl
theorem prep63 : prep Try.prog hintF 63 = some p63 := by kernel_rfl
theorem prep64 : prep Try.prog hintF 64 = some p64 := by kernel_rfl
theorem prep65 : prep Try.prog hintF 65 = some p65 := by kernel_rfl
theorem prep66 : prep Try.prog hintF 66 = some p66 := by kernel_rfl
theorem prep67 : prep Try.prog hintF 67 = some p67 := by kernel_rfl
theorem prep68 : prep Try.prog hintF 68 = some p68 := by kernel_rfl
theorem prep69 : prep Try.prog hintF 69 = some p69 := by kernel_rfl
theorem prep70 : prep Try.prog hintF 70 = some p70 := by kernel_rfl
theorem prep71 : prep Try.prog hintF 71 = some p71 := by kernel_rfl
theorem prep72 : prep Try.prog hintF 72 = some p72 := by kernel_rfl
theorem prep73 : prep Try.prog hintF 73 = some p73 := by kernel_rfl
theorem gok : GOk Try.prog hintF G := ⟨fun f pf h => by
  unfold G at h
  split at h
  · cases h; exact prep4
  · cases h; exact prep5
  · cases h; exact prep8
  · cases h; exact prep11
  · cases h; exact prep12
  · cases h; exact prep13
  · cases h; exact prep14
  · cases h; exact prep15
  · cases h; exact prep16
  · cases h; exact prep17
  · cases h; exact prep18
  · cases h; exact prep19
  · cases h; exact prep20
  · cases h; exact prep21
  · cases h; exact prep23
  · cases h; exact prep24
  · cases h; exact prep25
  · cases h; exact prep26
  · cases h; exact prep28
  · cases h; exact prep29
  · cases h; exact prep30
  · cases h; exact prep31
  · cases h; exact prep32
  · cases h; exact prep33
  · cases h; exact prep34
  · cases h; exact prep35
  · cases h; exact prep36
  · cases h; exact prep37
  · cases h; exact prep38
  · cases h; exact prep39
  · cases h; exact prep40
  · cases h; exact prep41
  · cases h; exact prep42
  · cases h; exact prep43
  · cases h; exact prep44
  · cases h; exact prep45
  · cases h; exact prep46
  · cases h; exact prep47
  · cases h; exact prep48
  · cases h; exact prep49
  · cases h; exact prep50
  · cases h; exact prep51
  · cases h; exact prep52
  · cases h; exact prep53
  · cases h; exact prep54
  · cases h; exact prep55
  · cases h; exact prep56
  · cases h; exact prep57
  · cases h; exact prep58
  · cases h; exact prep59
  · cases h; exact prep60
  · cases h; exact prep61
  · cases h; exact prep62
  · cases h; exact prep63
  · cases h; exact prep64
  · cases h; exact prep65
  · cases h; exact prep66
  · cases h; exact prep67
  · cases h; exact prep68
  · cases h; exact prep69
  · cases h; exact prep70
  · cases h; exact prep71
  · cases h; exact prep72
  · cases h; exact prep73
  · cases h⟩
theorem pk_ok : KOk Try.prog PKc := fun f args r h => by
  unfold PKc at h
  split at h
  · obtain ⟨⟨hk, h1, h2⟩, h⟩ := ite_some h
    subst hk
    cases h
    exact clone_ok (t := 25) (b := 4) (el := 3) Try.func74 (by decide +kernel) rfl rfl rfl Try.underlying25 (by kernel_rfl) (by kernel_rfl) (by kernel_rfl) (by omega) h1 h2
  · cases h
end Go.Proofs.Ytpjalohlppagkaa.Ow
