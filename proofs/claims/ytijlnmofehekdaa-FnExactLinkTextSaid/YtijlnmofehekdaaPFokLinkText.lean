/- The texts of the functions are what the loaded functions become. -/
import Derived.Test.YtijlnmofehekdaaPFLinkText
import Derived.Test.YtijlnmofehekdaaProg
import Derived.KernelRfl
namespace Go.Proofs.Ytijlnmofehekdaa.Ow
open Go
set_option maxRecDepth 100000
theorem prep3 : prep Try.prog hintF 3 = some p3 := by kernel_rfl
theorem prep5 : prep Try.prog hintF 5 = some p5 := by kernel_rfl
theorem prep6 : prep Try.prog hintF 6 = some p6 := by kernel_rfl
theorem prep7 : prep Try.prog hintF 7 = some p7 := by kernel_rfl
theorem prep8 : prep Try.prog hintF 8 = some p8 := by kernel_rfl
theorem prep9 : prep Try.prog hintF 9 = some p9 := by kernel_rfl
theorem prep15 : prep Try.prog hintF 15 = some p15 := by kernel_rfl
theorem prep16 : prep Try.prog hintF 16 = some p16 := by kernel_rfl
theorem prep17 : prep Try.prog hintF 17 = some p17 := by kernel_rfl
theorem prep18 : prep Try.prog hintF 18 = some p18 := by kernel_rfl
theorem prep19 : prep Try.prog hintF 19 = some p19 := by kernel_rfl
theorem prep20 : prep Try.prog hintF 20 = some p20 := by kernel_rfl
theorem prep21 : prep Try.prog hintF 21 = some p21 := by kernel_rfl
theorem prep22 : prep Try.prog hintF 22 = some p22 := by kernel_rfl
theorem prep23 : prep Try.prog hintF 23 = some p23 := by kernel_rfl
theorem prep24 : prep Try.prog hintF 24 = some p24 := by kernel_rfl
theorem prep25 : prep Try.prog hintF 25 = some p25 := by kernel_rfl
theorem prep26 : prep Try.prog hintF 26 = some p26 := by kernel_rfl
theorem prep27 : prep Try.prog hintF 27 = some p27 := by kernel_rfl
theorem prep28 : prep Try.prog hintF 28 = some p28 := by kernel_rfl
theorem prep29 : prep Try.prog hintF 29 = some p29 := by kernel_rfl
theorem prep30 : prep Try.prog hintF 30 = some p30 := by kernel_rfl
theorem prep31 : prep Try.prog hintF 31 = some p31 := by kernel_rfl
theorem prep40 : prep Try.prog hintF 40 = some p40 := by kernel_rfl
theorem prep41 : prep Try.prog hintF 41 = some p41 := by kernel_rfl
theorem prep42 : prep Try.prog hintF 42 = some p42 := by kernel_rfl
theorem prep43 : prep Try.prog hintF 43 = some p43 := by kernel_rfl
theorem prep44 : prep Try.prog hintF 44 = some p44 := by kernel_rfl
theorem prep45 : prep Try.prog hintF 45 = some p45 := by kernel_rfl
theorem prep46 : prep Try.prog hintF 46 = some p46 := by kernel_rfl
theorem prep47 : prep Try.prog hintF 47 = some p47 := by kernel_rfl
theorem prep48 : prep Try.prog hintF 48 = some p48 := by kernel_rfl
theorem prep49 : prep Try.prog hintF 49 = some p49 := by kernel_rfl
theorem prep50 : prep Try.prog hintF 50 = some p50 := by kernel_rfl
theorem prep51 : prep Try.prog hintF 51 = some p51 := by kernel_rfl
theorem prep52 : prep Try.prog hintF 52 = some p52 := by kernel_rfl
theorem prep53 : prep Try.prog hintF 53 = some p53 := by kernel_rfl
theorem prep54 : prep Try.prog hintF 54 = some p54 := by kernel_rfl
theorem prep55 : prep Try.prog hintF 55 = some p55 := by kernel_rfl
theorem prep71 : prep Try.prog hintF 71 = some p71 := by kernel_rfl
theorem prep72 : prep Try.prog hintF 72 = some p72 := by kernel_rfl
theorem prep73 : prep Try.prog hintF 73 = some p73 := by kernel_rfl
theorem prep74 : prep Try.prog hintF 74 = some p74 := by kernel_rfl
theorem prep75 : prep Try.prog hintF 75 = some p75 := by kernel_rfl
theorem prep76 : prep Try.prog hintF 76 = some p76 := by kernel_rfl
theorem prep77 : prep Try.prog hintF 77 = some p77 := by kernel_rfl
theorem prep78 : prep Try.prog hintF 78 = some p78 := by kernel_rfl
theorem prep79 : prep Try.prog hintF 79 = some p79 := by kernel_rfl
theorem prep80 : prep Try.prog hintF 80 = some p80 := by kernel_rfl
theorem prep81 : prep Try.prog hintF 81 = some p81 := by kernel_rfl
theorem prep82 : prep Try.prog hintF 82 = some p82 := by kernel_rfl
theorem prep83 : prep Try.prog hintF 83 = some p83 := by kernel_rfl
theorem prep84 : prep Try.prog hintF 84 = some p84 := by kernel_rfl
theorem prep85 : prep Try.prog hintF 85 = some p85 := by kernel_rfl
theorem prep98 : prep Try.prog hintF 98 = some p98 := by kernel_rfl
theorem prep99 : prep Try.prog hintF 99 = some p99 := by kernel_rfl
theorem prep100 : prep Try.prog hintF 100 = some p100 := by kernel_rfl
theorem prep101 : prep Try.prog hintF 101 = some p101 := by kernel_rfl
theorem prep102 : prep Try.prog hintF 102 = some p102 := by kernel_rfl
theorem prep103 : prep Try.prog hintF 103 = some p103 := by kernel_rfl
theorem prep104 : prep Try.prog hintF 104 = some p104 := by kernel_rfl
theorem prep105 : prep Try.prog hintF 105 = some p105 := by kernel_rfl
theorem prep108 : prep Try.prog hintF 108 = some p108 := by kernel_rfl
theorem prep109 : prep Try.prog hintF 109 = some p109 := by kernel_rfl
theorem prep110 : prep Try.prog hintF 110 = some p110 := by kernel_rfl
theorem prep111 : prep Try.prog hintF 111 = some p111 := by kernel_rfl
theorem prep112 : prep Try.prog hintF 112 = some p112 := by kernel_rfl
theorem prep113 : prep Try.prog hintF 113 = some p113 := by kernel_rfl
theorem prep114 : prep Try.prog hintF 114 = some p114 := by kernel_rfl
theorem prep115 : prep Try.prog hintF 115 = some p115 := by kernel_rfl
theorem prep118 : prep Try.prog hintF 118 = some p118 := by kernel_rfl
theorem prep119 : prep Try.prog hintF 119 = some p119 := by kernel_rfl
theorem prep120 : prep Try.prog hintF 120 = some p120 := by kernel_rfl
theorem prep121 : prep Try.prog hintF 121 = some p121 := by kernel_rfl
theorem prep122 : prep Try.prog hintF 122 = some p122 := by kernel_rfl
theorem prep123 : prep Try.prog hintF 123 = some p123 := by kernel_rfl
theorem prep124 : prep Try.prog hintF 124 = some p124 := by kernel_rfl
theorem prep127 : prep Try.prog hintF 127 = some p127 := by kernel_rfl
theorem prep128 : prep Try.prog hintF 128 = some p128 := by kernel_rfl
theorem prep129 : prep Try.prog hintF 129 = some p129 := by kernel_rfl
theorem prep130 : prep Try.prog hintF 130 = some p130 := by kernel_rfl
theorem prep131 : prep Try.prog hintF 131 = some p131 := by kernel_rfl
theorem gok : GOk Try.prog hintF G := ⟨fun f pf h => by
  unfold G at h
  split at h
  · cases h; exact prep3
  · cases h; exact prep5
  · cases h; exact prep6
  · cases h; exact prep7
  · cases h; exact prep8
  · cases h; exact prep9
  · cases h; exact prep15
  · cases h; exact prep16
  · cases h; exact prep17
  · cases h; exact prep18
  · cases h; exact prep19
  · cases h; exact prep20
  · cases h; exact prep21
  · cases h; exact prep22
  · cases h; exact prep23
  · cases h; exact prep24
  · cases h; exact prep25
  · cases h; exact prep26
  · cases h; exact prep27
  · cases h; exact prep28
  · cases h; exact prep29
  · cases h; exact prep30
  · cases h; exact prep31
  · cases h; exact prep40
  · cases h; exact prep41
  · cases h; exact prep42
  · cases h; exact prep43
  · cases h; exact prep44
  · cases h; exact prep45
  · cases h; exact prep46
  · cases h; exact prep47
  · cases h; exact prep48
  · cases h; exact prep49
  · cases h; exact prep50
  · cases h; exact prep51
  · cases h; exact prep52
  · cases h; exact prep53
  · cases h; exact prep54
  · cases h; exact prep55
  · cases h; exact prep71
  · cases h; exact prep72
  · cases h; exact prep73
  · cases h; exact prep74
  · cases h; exact prep75
  · cases h; exact prep76
  · cases h; exact prep77
  · cases h; exact prep78
  · cases h; exact prep79
  · cases h; exact prep80
  · cases h; exact prep81
  · cases h; exact prep82
  · cases h; exact prep83
  · cases h; exact prep84
  · cases h; exact prep85
  · cases h; exact prep98
  · cases h; exact prep99
  · cases h; exact prep100
  · cases h; exact prep101
  · cases h; exact prep102
  · cases h; exact prep103
  · cases h; exact prep104
  · cases h; exact prep105
  · cases h; exact prep108
  · cases h; exact prep109
  · cases h; exact prep110
  · cases h; exact prep111
  · cases h; exact prep112
  · cases h; exact prep113
  · cases h; exact prep114
  · cases h; exact prep115
  · cases h; exact prep118
  · cases h; exact prep119
  · cases h; exact prep120
  · cases h; exact prep121
  · cases h; exact prep122
  · cases h; exact prep123
  · cases h; exact prep124
  · cases h; exact prep127
  · cases h; exact prep128
  · cases h; exact prep129
  · cases h; exact prep130
  · cases h; exact prep131
  · cases h⟩
theorem pk_ok : KOk Try.prog PKc := fun f args r h => by
  unfold PKc at h
  split at h
  · cases h
end Go.Proofs.Ytijlnmofehekdaa.Ow
