/- The texts of the functions are what the loaded functions become. -/
import Derived.Test.YtijlnmofehekdaaPFStoreNew
import Derived.Test.YtijlnmofehekdaaProg
import Derived.KernelRfl
namespace Go.Proofs.Ytijlnmofehekdaa.Ow
open Go
set_option maxRecDepth 100000
theorem prep4 : prep Try.prog hintF 4 = some p4 := by kernel_rfl
theorem prep9 : prep Try.prog hintF 9 = some p9 := by kernel_rfl
theorem prep10 : prep Try.prog hintF 10 = some p10 := by kernel_rfl
theorem prep11 : prep Try.prog hintF 11 = some p11 := by kernel_rfl
theorem prep12 : prep Try.prog hintF 12 = some p12 := by kernel_rfl
theorem prep13 : prep Try.prog hintF 13 = some p13 := by kernel_rfl
theorem prep14 : prep Try.prog hintF 14 = some p14 := by kernel_rfl
theorem prep27 : prep Try.prog hintF 27 = some p27 := by kernel_rfl
theorem prep28 : prep Try.prog hintF 28 = some p28 := by kernel_rfl
theorem prep29 : prep Try.prog hintF 29 = some p29 := by kernel_rfl
theorem prep30 : prep Try.prog hintF 30 = some p30 := by kernel_rfl
theorem prep31 : prep Try.prog hintF 31 = some p31 := by kernel_rfl
theorem prep32 : prep Try.prog hintF 32 = some p32 := by kernel_rfl
theorem prep33 : prep Try.prog hintF 33 = some p33 := by kernel_rfl
theorem prep34 : prep Try.prog hintF 34 = some p34 := by kernel_rfl
theorem prep35 : prep Try.prog hintF 35 = some p35 := by kernel_rfl
theorem prep36 : prep Try.prog hintF 36 = some p36 := by kernel_rfl
theorem prep37 : prep Try.prog hintF 37 = some p37 := by kernel_rfl
theorem prep38 : prep Try.prog hintF 38 = some p38 := by kernel_rfl
theorem prep39 : prep Try.prog hintF 39 = some p39 := by kernel_rfl
theorem prep41 : prep Try.prog hintF 41 = some p41 := by kernel_rfl
theorem prep43 : prep Try.prog hintF 43 = some p43 := by kernel_rfl
theorem prep45 : prep Try.prog hintF 45 = some p45 := by kernel_rfl
theorem prep48 : prep Try.prog hintF 48 = some p48 := by kernel_rfl
theorem prep50 : prep Try.prog hintF 50 = some p50 := by kernel_rfl
theorem prep51 : prep Try.prog hintF 51 = some p51 := by kernel_rfl
theorem prep55 : prep Try.prog hintF 55 = some p55 := by kernel_rfl
theorem prep56 : prep Try.prog hintF 56 = some p56 := by kernel_rfl
theorem prep57 : prep Try.prog hintF 57 = some p57 := by kernel_rfl
theorem prep58 : prep Try.prog hintF 58 = some p58 := by kernel_rfl
theorem prep59 : prep Try.prog hintF 59 = some p59 := by kernel_rfl
theorem prep60 : prep Try.prog hintF 60 = some p60 := by kernel_rfl
theorem prep61 : prep Try.prog hintF 61 = some p61 := by kernel_rfl
theorem prep62 : prep Try.prog hintF 62 = some p62 := by kernel_rfl
theorem prep63 : prep Try.prog hintF 63 = some p63 := by kernel_rfl
theorem prep64 : prep Try.prog hintF 64 = some p64 := by kernel_rfl
theorem prep65 : prep Try.prog hintF 65 = some p65 := by kernel_rfl
theorem prep66 : prep Try.prog hintF 66 = some p66 := by kernel_rfl
theorem prep67 : prep Try.prog hintF 67 = some p67 := by kernel_rfl
theorem prep68 : prep Try.prog hintF 68 = some p68 := by kernel_rfl
theorem prep69 : prep Try.prog hintF 69 = some p69 := by kernel_rfl
theorem prep70 : prep Try.prog hintF 70 = some p70 := by kernel_rfl
theorem prep71 : prep Try.prog hintF 71 = some p71 := by kernel_rfl
theorem prep72 : prep Try.prog hintF 72 = some p72 := by kernel_rfl
theorem prep73 : prep Try.prog hintF 73 = some p73 := by kernel_rfl
theorem prep74 : prep Try.prog hintF 74 = some p74 := by kernel_rfl
theorem prep76 : prep Try.prog hintF 76 = some p76 := by kernel_rfl
theorem prep79 : prep Try.prog hintF 79 = some p79 := by kernel_rfl
theorem prep80 : prep Try.prog hintF 80 = some p80 := by kernel_rfl
theorem prep81 : prep Try.prog hintF 81 = some p81 := by kernel_rfl
theorem prep82 : prep Try.prog hintF 82 = some p82 := by kernel_rfl
theorem prep83 : prep Try.prog hintF 83 = some p83 := by kernel_rfl
theorem prep86 : prep Try.prog hintF 86 = some p86 := by kernel_rfl
theorem prep87 : prep Try.prog hintF 87 = some p87 := by kernel_rfl
theorem prep88 : prep Try.prog hintF 88 = some p88 := by kernel_rfl
theorem prep89 : prep Try.prog hintF 89 = some p89 := by kernel_rfl
theorem prep90 : prep Try.prog hintF 90 = some p90 := by kernel_rfl
theorem prep91 : prep Try.prog hintF 91 = some p91 := by kernel_rfl
theorem prep92 : prep Try.prog hintF 92 = some p92 := by kernel_rfl
theorem prep93 : prep Try.prog hintF 93 = some p93 := by kernel_rfl
theorem prep94 : prep Try.prog hintF 94 = some p94 := by kernel_rfl
theorem prep95 : prep Try.prog hintF 95 = some p95 := by kernel_rfl
theorem prep96 : prep Try.prog hintF 96 = some p96 := by kernel_rfl
theorem prep97 : prep Try.prog hintF 97 = some p97 := by kernel_rfl
theorem prep98 : prep Try.prog hintF 98 = some p98 := by kernel_rfl
theorem prep99 : prep Try.prog hintF 99 = some p99 := by kernel_rfl
theorem prep100 : prep Try.prog hintF 100 = some p100 := by kernel_rfl
theorem prep102 : prep Try.prog hintF 102 = some p102 := by kernel_rfl
theorem prep103 : prep Try.prog hintF 103 = some p103 := by kernel_rfl
theorem prep104 : prep Try.prog hintF 104 = some p104 := by kernel_rfl
theorem prep105 : prep Try.prog hintF 105 = some p105 := by kernel_rfl
theorem prep106 : prep Try.prog hintF 106 = some p106 := by kernel_rfl
theorem prep107 : prep Try.prog hintF 107 = some p107 := by kernel_rfl
theorem prep108 : prep Try.prog hintF 108 = some p108 := by kernel_rfl
theorem prep109 : prep Try.prog hintF 109 = some p109 := by kernel_rfl
theorem prep110 : prep Try.prog hintF 110 = some p110 := by kernel_rfl
theorem prep111 : prep Try.prog hintF 111 = some p111 := by kernel_rfl
theorem prep112 : prep Try.prog hintF 112 = some p112 := by kernel_rfl
theorem prep113 : prep Try.prog hintF 113 = some p113 := by kernel_rfl
theorem prep114 : prep Try.prog hintF 114 = some p114 := by kernel_rfl
theorem prep115 : prep Try.prog hintF 115 = some p115 := by kernel_rfl
theorem prep116 : prep Try.prog hintF 116 = some p116 := by kernel_rfl
theorem prep117 : prep Try.prog hintF 117 = some p117 := by kernel_rfl
theorem prep118 : prep Try.prog hintF 118 = some p118 := by kernel_rfl
theorem prep119 : prep Try.prog hintF 119 = some p119 := by kernel_rfl
theorem prep120 : prep Try.prog hintF 120 = some p120 := by kernel_rfl
theorem prep121 : prep Try.prog hintF 121 = some p121 := by kernel_rfl
theorem prep122 : prep Try.prog hintF 122 = some p122 := by kernel_rfl
theorem prep123 : prep Try.prog hintF 123 = some p123 := by kernel_rfl
theorem prep124 : prep Try.prog hintF 124 = some p124 := by kernel_rfl
theorem prep126 : prep Try.prog hintF 126 = some p126 := by kernel_rfl
theorem prep127 : prep Try.prog hintF 127 = some p127 := by kernel_rfl
theorem prep128 : prep Try.prog hintF 128 = some p128 := by kernel_rfl
theorem prep129 : prep Try.prog hintF 129 = some p129 := by kernel_rfl
theorem prep130 : prep Try.prog hintF 130 = some p130 := by kernel_rfl
theorem prep131 : prep Try.prog hintF 131 = some p131 := by kernel_rfl
theorem gok : GOk Try.prog hintF G := ⟨fun f pf h => by
  unfold G at h
  split at h
  · cases h; exact prep4
  · cases h; exact prep9
  · cases h; exact prep10
  · cases h; exact prep11
  · cases h; exact prep12
  · cases h; exact prep13
  · cases h; exact prep14
  · cases h; exact prep27
  · cases h; exact prep28
  · cases h; exact prep29
  · cases h; exact prep30
  · cases h; exact prep31
  · cases h; exact prep32
  · cases h; exact prep33
  · cases h; exact prep34
  · cases h; exact prep35
  · cases h; exact prep36
  · cases h; exact prep37
  · cases h; exact prep38
  · cases h; exact prep39
  · cases h; exact prep41
  · cases h; exact prep43
  · cases h; exact prep45
  · cases h; exact prep48
  · cases h; exact prep50
  · cases h; exact prep51
  · cases h; exact prep55
  · cases h; exact prep56
  · cases h; exact prep57
  · cases h; exact prep58
  · cases h; exact prep59
  · cases h; exact prep60
  · cases h; exact prep61
  · cases h; exact prep62
  · cases h; exact prep63
  · cases h; exact prep64
  · cases h; exact prep65
  · cases h; exact prep66
  · cases h; exact prep67
  · cases h; exact prep68
  · cases h; exact prep69
  · cases h; exact prep70
  · cases h; exact prep71
  · cases h; exact prep72
  · cases h; exact prep73
  · cases h; exact prep74
  · cases h; exact prep76
  · cases h; exact prep79
  · cases h; exact prep80
  · cases h; exact prep81
  · cases h; exact prep82
  · cases h; exact prep83
  · cases h; exact prep86
  · cases h; exact prep87
  · cases h; exact prep88
  · cases h; exact prep89
  · cases h; exact prep90
  · cases h; exact prep91
  · cases h; exact prep92
  · cases h; exact prep93
  · cases h; exact prep94
  · cases h; exact prep95
  · cases h; exact prep96
  · cases h; exact prep97
  · cases h; exact prep98
  · cases h; exact prep99
  · cases h; exact prep100
  · cases h; exact prep102
  · cases h; exact prep103
  · cases h; exact prep104
  · cases h; exact prep105
  · cases h; exact prep106
  · cases h; exact prep107
  · cases h; exact prep108
  · cases h; exact prep109
  · cases h; exact prep110
  · cases h; exact prep111
  · cases h; exact prep112
  · cases h; exact prep113
  · cases h; exact prep114
  · cases h; exact prep115
  · cases h; exact prep116
  · cases h; exact prep117
  · cases h; exact prep118
  · cases h; exact prep119
  · cases h; exact prep120
  · cases h; exact prep121
  · cases h; exact prep122
  · cases h; exact prep123
  · cases h; exact prep124
  · cases h; exact prep126
  · cases h; exact prep127
  · cases h; exact prep128
  · cases h; exact prep129
  · cases h; exact prep130
  · cases h; exact prep131
  · cases h⟩
theorem pk_ok : KOk Try.prog PKc := fun f args r h => by
  unfold PKc at h
  split at h
  · obtain ⟨⟨hk, h1, h2⟩, h⟩ := ite_some h
    subst hk
    cases h
    exact clone_ok (t := 26) (b := 4) (el := 5) Try.func125 (by decide +kernel) rfl rfl rfl Try.underlying26 (by kernel_rfl) (by kernel_rfl) (by kernel_rfl) (by omega) h1 h2
  · cases h
end Go.Proofs.Ytijlnmofehekdaa.Ow
