/- The texts of the functions are what the loaded functions become. -/
import Derived.Test.YtcbcackolaphhaaGreatPFTrouble
import Derived.Test.YtcbcackolaphhaaGreatProg
import Derived.Test.YtcbcackolaphhaaGreatJoin
import Derived.KernelRfl
namespace Go.Proofs.YtcbcackolaphhaaGreat.Ow
open Go
set_option maxRecDepth 100000
theorem prep5 : prep Tryz.prog hintF 5 = some p5 := by kernel_rfl
theorem prep10 : prep Tryz.prog hintF 10 = some p10 := by kernel_rfl
theorem prep13 : prep Tryz.prog hintF 13 = some p13 := by kernel_rfl
theorem prep17 : prep Tryz.prog hintF 17 = some p17 := by kernel_rfl
theorem prep18 : prep Tryz.prog hintF 18 = some p18 := by kernel_rfl
theorem prep19 : prep Tryz.prog hintF 19 = some p19 := by kernel_rfl
theorem prep20 : prep Tryz.prog hintF 20 = some p20 := by kernel_rfl
theorem prep21 : prep Tryz.prog hintF 21 = some p21 := by kernel_rfl
theorem prep22 : prep Tryz.prog hintF 22 = some p22 := by kernel_rfl
theorem prep23 : prep Tryz.prog hintF 23 = some p23 := by kernel_rfl
theorem prep24 : prep Tryz.prog hintF 24 = some p24 := by kernel_rfl
theorem prep25 : prep Tryz.prog hintF 25 = some p25 := by kernel_rfl
theorem prep28 : prep Tryz.prog hintF 28 = some p28 := by kernel_rfl
theorem prep32 : prep Tryz.prog hintF 32 = some p32 := by kernel_rfl
theorem prep33 : prep Tryz.prog hintF 33 = some p33 := by kernel_rfl
theorem prep42 : prep Tryz.prog hintF 42 = some p42 := by kernel_rfl
theorem prep43 : prep Tryz.prog hintF 43 = some p43 := by kernel_rfl
theorem prep44 : prep Tryz.prog hintF 44 = some p44 := by kernel_rfl
theorem prep45 : prep Tryz.prog hintF 45 = some p45 := by kernel_rfl
theorem prep46 : prep Tryz.prog hintF 46 = some p46 := by kernel_rfl
theorem prep47 : prep Tryz.prog hintF 47 = some p47 := by kernel_rfl
theorem prep48 : prep Tryz.prog hintF 48 = some p48 := by kernel_rfl
theorem prep49 : prep Tryz.prog hintF 49 = some p49 := by kernel_rfl
theorem prep50 : prep Tryz.prog hintF 50 = some p50 := by kernel_rfl
theorem prep51 : prep Tryz.prog hintF 51 = some p51 := by kernel_rfl
theorem prep52 : prep Tryz.prog hintF 52 = some p52 := by kernel_rfl
theorem prep53 : prep Tryz.prog hintF 53 = some p53 := by kernel_rfl
theorem prep54 : prep Tryz.prog hintF 54 = some p54 := by kernel_rfl
theorem prep55 : prep Tryz.prog hintF 55 = some p55 := by kernel_rfl
theorem prep56 : prep Tryz.prog hintF 56 = some p56 := by kernel_rfl
theorem prep57 : prep Tryz.prog hintF 57 = some p57 := by kernel_rfl
theorem prep58 : prep Tryz.prog hintF 58 = some p58 := by kernel_rfl
theorem prep59 : prep Tryz.prog hintF 59 = some p59 := by kernel_rfl
theorem prep60 : prep Tryz.prog hintF 60 = some p60 := by kernel_rfl
theorem prep61 : prep Tryz.prog hintF 61 = some p61 := by kernel_rfl
theorem prep62 : prep Tryz.prog hintF 62 = some p62 := by kernel_rfl
theorem prep63 : prep Tryz.prog hintF 63 = some p63 := by kernel_rfl
theorem prep64 : prep Tryz.prog hintF 64 = some p64 := by kernel_rfl
theorem prep65 : prep Tryz.prog hintF 65 = some p65 := by kernel_rfl
theorem prep66 : prep Tryz.prog hintF 66 = some p66 := by kernel_rfl
theorem prep68 : prep Tryz.prog hintF 68 = some p68 := by kernel_rfl
theorem prep72 : prep Tryz.prog hintF 72 = some p72 := by kernel_rfl
theorem prep76 : prep Tryz.prog hintF 76 = some p76 := by kernel_rfl
theorem prep77 : prep Tryz.prog hintF 77 = some p77 := by kernel_rfl
theorem prep78 : prep Tryz.prog hintF 78 = some p78 := by kernel_rfl
theorem prep79 : prep Tryz.prog hintF 79 = some p79 := by kernel_rfl
theorem prep80 : prep Tryz.prog hintF 80 = some p80 := by kernel_rfl
theorem prep81 : prep Tryz.prog hintF 81 = some p81 := by kernel_rfl
theorem prep82 : prep Tryz.prog hintF 82 = some p82 := by kernel_rfl
theorem prep83 : prep Tryz.prog hintF 83 = some p83 := by kernel_rfl
theorem prep84 : prep Tryz.prog hintF 84 = some p84 := by kernel_rfl
theorem prep85 : prep Tryz.prog hintF 85 = some p85 := by kernel_rfl
theorem prep86 : prep Tryz.prog hintF 86 = some p86 := by kernel_rfl
theorem prep88 : prep Tryz.prog hintF 88 = some p88 := by kernel_rfl
theorem prep89 : prep Tryz.prog hintF 89 = some p89 := by kernel_rfl
theorem prep90 : prep Tryz.prog hintF 90 = some p90 := by kernel_rfl
theorem prep91 : prep Tryz.prog hintF 91 = some p91 := by kernel_rfl
theorem prep92 : prep Tryz.prog hintF 92 = some p92 := by kernel_rfl
theorem prep94 : prep Tryz.prog hintF 94 = some p94 := by kernel_rfl
theorem prep95 : prep Tryz.prog hintF 95 = some p95 := by kernel_rfl
theorem prep96 : prep Tryz.prog hintF 96 = some p96 := by kernel_rfl
theorem prep97 : prep Tryz.prog hintF 97 = some p97 := by kernel_rfl
theorem prep98 : prep Tryz.prog hintF 98 = some p98 := by kernel_rfl
theorem prep99 : prep Tryz.prog hintF 99 = some p99 := by kernel_rfl
theorem prep100 : prep Tryz.prog hintF 100 = some p100 := by kernel_rfl
theorem prep101 : prep Tryz.prog hintF 101 = some p101 := by kernel_rfl
theorem prep102 : prep Tryz.prog hintF 102 = some p102 := by kernel_rfl
theorem prep103 : prep Tryz.prog hintF 103 = some p103 := by kernel_rfl
theorem prep104 : prep Tryz.prog hintF 104 = some p104 := by kernel_rfl
theorem prep105 : prep Tryz.prog hintF 105 = some p105 := by kernel_rfl
theorem prep106 : prep Tryz.prog hintF 106 = some p106 := by kernel_rfl
theorem prep107 : prep Tryz.prog hintF 107 = some p107 := by kernel_rfl
theorem prep108 : prep Tryz.prog hintF 108 = some p108 := by kernel_rfl
theorem prep109 : prep Tryz.prog hintF 109 = some p109 := by kernel_rfl
theorem prep110 : prep Tryz.prog hintF 110 = some p110 := by kernel_rfl
theorem prep114 : prep Tryz.prog hintF 114 = some p114 := by kernel_rfl
theorem prep115 : prep Tryz.prog hintF 115 = some p115 := by kernel_rfl
theorem prep116 : prep Tryz.prog hintF 116 = some p116 := by kernel_rfl
theorem prep117 : prep Tryz.prog hintF 117 = some p117 := by kernel_rfl
theorem prep118 : prep Tryz.prog hintF 118 = some p118 := by kernel_rfl
theorem prep119 : prep Tryz.prog hintF 119 = some p119 := by kernel_rfl
theorem prep120 : prep Tryz.prog hintF 120 = some p120 := by kernel_rfl
theorem prep121 : prep Tryz.prog hintF 121 = some p121 := by kernel_rfl
theorem prep122 : prep Tryz.prog hintF 122 = some p122 := by kernel_rfl
theorem prep123 : prep Tryz.prog hintF 123 = some p123 := by kernel_rfl
theorem prep124 : prep Tryz.prog hintF 124 = some p124 := by kernel_rfl
theorem prep125 : prep Tryz.prog hintF 125 = some p125 := by kernel_rfl
theorem prep126 : prep Tryz.prog hintF 126 = some p126 := by kernel_rfl
theorem prep127 : prep Tryz.prog hintF 127 = some p127 := by kernel_rfl
theorem prep128 : prep Tryz.prog hintF 128 = some p128 := by kernel_rfl
theorem prep129 : prep Tryz.prog hintF 129 = some p129 := by kernel_rfl
theorem prep132 : prep Tryz.prog hintF 132 = some p132 := by kernel_rfl
theorem prep133 : prep Tryz.prog hintF 133 = some p133 := by kernel_rfl
theorem prep134 : prep Tryz.prog hintF 134 = some p134 := by kernel_rfl
theorem prep135 : prep Tryz.prog hintF 135 = some p135 := by kernel_rfl
theorem prep136 : prep Tryz.prog hintF 136 = some p136 := by kernel_rfl
theorem prep137 : prep Tryz.prog hintF 137 = some p137 := by kernel_rfl
theorem prep138 : prep Tryz.prog hintF 138 = some p138 := by kernel_rfl
theorem prep139 : prep Tryz.prog hintF 139 = some p139 := by kernel_rfl
theorem prep140 : prep Tryz.prog hintF 140 = some p140 := by kernel_rfl
theorem prep141 : prep Tryz.prog hintF 141 = some p141 := by kernel_rfl
theorem prep142 : prep Tryz.prog hintF 142 = some p142 := by kernel_rfl
theorem prep145 : prep Tryz.prog hintF 145 = some p145 := by kernel_rfl
theorem prep146 : prep Tryz.prog hintF 146 = some p146 := by kernel_rfl
theorem prep147 : prep Tryz.prog hintF 147 = some p147 := by kernel_rfl
theorem prep148 : prep Tryz.prog hintF 148 = some p148 := by kernel_rfl
theorem prep149 : prep Tryz.prog hintF 149 = some p149 := by kernel_rfl
theorem prep150 : prep Tryz.prog hintF 150 = some p150 := by kernel_rfl
theorem prep151 : prep Tryz.prog hintF 151 = some p151 := by kernel_rfl
theorem prep152 : prep Tryz.prog hintF 152 = some p152 := by kernel_rfl
theorem prep153 : prep Tryz.prog hintF 153 = some p153 := by kernel_rfl
theorem prep154 : prep Tryz.prog hintF 154 = some p154 := by kernel_rfl
theorem prep155 : prep Tryz.prog hintF 155 = some p155 := by kernel_rfl
theorem prep156 : prep Tryz.prog hintF 156 = some p156 := by kernel_rfl
theorem prep157 : prep Tryz.prog hintF 157 = some p157 := by kernel_rfl
theorem prep158 : prep Tryz.prog hintF 158 = some p158 := by kernel_rfl
theorem prep159 : prep Tryz.prog hintF 159 = some p159 := by kernel_rfl
theorem prep160 : prep Tryz.prog hintF 160 = some p160 := by kernel_rfl
theorem prep161 : prep Tryz.prog hintF 161 = some p161 := by kernel_rfl
theorem prep162 : prep Tryz.prog hintF 162 = some p162 := by kernel_rfl
theorem prep163 : prep Tryz.prog hintF 163 = some p163 := by kernel_rfl
theorem prep164 : prep Tryz.prog hintF 164 = some p164 := by kernel_rfl
theorem prep165 : prep Tryz.prog hintF 165 = some p165 := by kernel_rfl
theorem prep166 : prep Tryz.prog hintF 166 = some p166 := by kernel_rfl
theorem prep167 : prep Tryz.prog hintF 167 = some p167 := by kernel_rfl
theorem gok : GOk Tryz.prog hintF G := ⟨fun f pf h => by
  unfold G at h
  split at h
  · cases h; exact prep5
  · cases h; exact prep10
  · cases h; exact prep13
  · cases h; exact prep17
  · cases h; exact prep18
  · cases h; exact prep19
  · cases h; exact prep20
  · cases h; exact prep21
  · cases h; exact prep22
  · cases h; exact prep23
  · cases h; exact prep24
  · cases h; exact prep25
  · cases h; exact prep28
  · cases h; exact prep32
  · cases h; exact prep33
  · cases h; exact prep42
  · cases h; exact prep43
  · cases h; exact prep44
  · cases h; exact prep45
  · cases h; exact prep46
  · cases h; exact prep47
  · cases h; exact prep48
  · cases h; exact prep49
  · cases h; exact prep50
  · cases h; exact prep51
  · cases h; exact prep52
  · cases h; exact prep53
  · cases h; exact prep54
  · cases h; exact prep55
  · cases h; exact prep56
  · cases h; exact prep57
  · cases h; exact prep58
  · cases h; exact prep59
  · cases h; exact prep60
  · cases h; exact prep61
  · cases h; exact prep62
  · cases h; exact prep63
  · cases h; exact prep64
  · cases h; exact prep65
  · cases h; exact prep66
  · cases h; exact prep68
  · cases h; exact prep72
  · cases h; exact prep76
  · cases h; exact prep77
  · cases h; exact prep78
  · cases h; exact prep79
  · cases h; exact prep80
  · cases h; exact prep81
  · cases h; exact prep82
  · cases h; exact prep83
  · cases h; exact prep84
  · cases h; exact prep85
  · cases h; exact prep86
  · cases h; exact prep88
  · cases h; exact prep89
  · cases h; exact prep90
  · cases h; exact prep91
  · cases h; exact prep92
  · cases h; exact prep94
  · cases h; exact prep95
  · cases h; exact prep96
  · cases h; exact prep97
  · cases h; exact prep98
  · cases h; exact prep99
  · cases h; exact prep100
  · cases h; exact prep101
  · cases h; exact prep102
  · cases h; exact prep103
  · cases h; exact prep104
  · cases h; exact prep105
  · cases h; exact prep106
  · cases h; exact prep107
  · cases h; exact prep108
  · cases h; exact prep109
  · cases h; exact prep110
  · cases h; exact prep114
  · cases h; exact prep115
  · cases h; exact prep116
  · cases h; exact prep117
  · cases h; exact prep118
  · cases h; exact prep119
  · cases h; exact prep120
  · cases h; exact prep121
  · cases h; exact prep122
  · cases h; exact prep123
  · cases h; exact prep124
  · cases h; exact prep125
  · cases h; exact prep126
  · cases h; exact prep127
  · cases h; exact prep128
  · cases h; exact prep129
  · cases h; exact prep132
  · cases h; exact prep133
  · cases h; exact prep134
  · cases h; exact prep135
  · cases h; exact prep136
  · cases h; exact prep137
  · cases h; exact prep138
  · cases h; exact prep139
  · cases h; exact prep140
  · cases h; exact prep141
  · cases h; exact prep142
  · cases h; exact prep145
  · cases h; exact prep146
  · cases h; exact prep147
  · cases h; exact prep148
  · cases h; exact prep149
  · cases h; exact prep150
  · cases h; exact prep151
  · cases h; exact prep152
  · cases h; exact prep153
  · cases h; exact prep154
  · cases h; exact prep155
  · cases h; exact prep156
  · cases h; exact prep157
  · cases h; exact prep158
  · cases h; exact prep159
  · cases h; exact prep160
  · cases h; exact prep161
  · cases h; exact prep162
  · cases h; exact prep163
  · cases h; exact prep164
  · cases h; exact prep165
  · cases h; exact prep166
  · cases h; exact prep167
  · cases h⟩
theorem pk_ok : KOk Tryz.prog PKc := fun f args r h => by
  unfold PKc at h
  split at h
  · exact joinK_ok ⟨_, Tryz.func87, by decide +kernel, fun h => Option.some_ne_none _ h⟩ ⟨Tryz.strings_Join_none, Tryz.strings_Join⟩ h
  · cases h
end Go.Proofs.YtcbcackolaphhaaGreat.Ow
