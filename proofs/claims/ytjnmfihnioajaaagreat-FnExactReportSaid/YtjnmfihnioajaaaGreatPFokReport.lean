/- The texts of the functions are what the loaded functions become. -/
import Derived.Test.YtjnmfihnioajaaaGreatPFReport
import Derived.Test.YtjnmfihnioajaaaGreatProg
import Derived.Test.YtjnmfihnioajaaaGreatJoin
import Derived.KernelRfl
namespace Go.Proofs.YtjnmfihnioajaaaGreat.Ow
open Go
set_option maxRecDepth 100000
theorem prep8 : prep Tryz.prog hintF 8 = some p8 := by kernel_rfl
theorem prep9 : prep Tryz.prog hintF 9 = some p9 := by kernel_rfl
theorem prep11 : prep Tryz.prog hintF 11 = some p11 := by kernel_rfl
theorem prep13 : prep Tryz.prog hintF 13 = some p13 := by kernel_rfl
theorem prep20 : prep Tryz.prog hintF 20 = some p20 := by kernel_rfl
theorem prep22 : prep Tryz.prog hintF 22 = some p22 := by kernel_rfl
theorem prep31 : prep Tryz.prog hintF 31 = some p31 := by kernel_rfl
theorem prep32 : prep Tryz.prog hintF 32 = some p32 := by kernel_rfl
theorem prep33 : prep Tryz.prog hintF 33 = some p33 := by kernel_rfl
theorem prep34 : prep Tryz.prog hintF 34 = some p34 := by kernel_rfl
theorem prep35 : prep Tryz.prog hintF 35 = some p35 := by kernel_rfl
theorem prep36 : prep Tryz.prog hintF 36 = some p36 := by kernel_rfl
theorem prep37 : prep Tryz.prog hintF 37 = some p37 := by kernel_rfl
theorem prep38 : prep Tryz.prog hintF 38 = some p38 := by kernel_rfl
theorem prep39 : prep Tryz.prog hintF 39 = some p39 := by kernel_rfl
theorem prep40 : prep Tryz.prog hintF 40 = some p40 := by kernel_rfl
theorem prep41 : prep Tryz.prog hintF 41 = some p41 := by kernel_rfl
theorem prep42 : prep Tryz.prog hintF 42 = some p42 := by kernel_rfl
theorem prep43 : prep Tryz.prog hintF 43 = some p43 := by kernel_rfl
theorem prep44 : prep Tryz.prog hintF 44 = some p44 := by kernel_rfl
theorem prep53 : prep Tryz.prog hintF 53 = some p53 := by kernel_rfl
theorem prep55 : prep Tryz.prog hintF 55 = some p55 := by kernel_rfl
theorem prep56 : prep Tryz.prog hintF 56 = some p56 := by kernel_rfl
theorem prep58 : prep Tryz.prog hintF 58 = some p58 := by kernel_rfl
theorem prep59 : prep Tryz.prog hintF 59 = some p59 := by kernel_rfl
theorem prep68 : prep Tryz.prog hintF 68 = some p68 := by kernel_rfl
theorem prep69 : prep Tryz.prog hintF 69 = some p69 := by kernel_rfl
theorem prep70 : prep Tryz.prog hintF 70 = some p70 := by kernel_rfl
theorem prep71 : prep Tryz.prog hintF 71 = some p71 := by kernel_rfl
theorem prep72 : prep Tryz.prog hintF 72 = some p72 := by kernel_rfl
theorem prep73 : prep Tryz.prog hintF 73 = some p73 := by kernel_rfl
theorem prep74 : prep Tryz.prog hintF 74 = some p74 := by kernel_rfl
theorem prep75 : prep Tryz.prog hintF 75 = some p75 := by kernel_rfl
theorem prep76 : prep Tryz.prog hintF 76 = some p76 := by kernel_rfl
theorem prep77 : prep Tryz.prog hintF 77 = some p77 := by kernel_rfl
theorem prep78 : prep Tryz.prog hintF 78 = some p78 := by kernel_rfl
theorem prep79 : prep Tryz.prog hintF 79 = some p79 := by kernel_rfl
theorem prep80 : prep Tryz.prog hintF 80 = some p80 := by kernel_rfl
theorem prep81 : prep Tryz.prog hintF 81 = some p81 := by kernel_rfl
theorem prep82 : prep Tryz.prog hintF 82 = some p82 := by kernel_rfl
theorem prep83 : prep Tryz.prog hintF 83 = some p83 := by kernel_rfl
theorem prep84 : prep Tryz.prog hintF 84 = some p84 := by kernel_rfl
theorem prep85 : prep Tryz.prog hintF 85 = some p85 := by kernel_rfl
theorem prep86 : prep Tryz.prog hintF 86 = some p86 := by kernel_rfl
theorem prep87 : prep Tryz.prog hintF 87 = some p87 := by kernel_rfl
theorem prep88 : prep Tryz.prog hintF 88 = some p88 := by kernel_rfl
theorem prep89 : prep Tryz.prog hintF 89 = some p89 := by kernel_rfl
theorem prep90 : prep Tryz.prog hintF 90 = some p90 := by kernel_rfl
theorem prep91 : prep Tryz.prog hintF 91 = some p91 := by kernel_rfl
theorem prep93 : prep Tryz.prog hintF 93 = some p93 := by kernel_rfl
theorem prep96 : prep Tryz.prog hintF 96 = some p96 := by kernel_rfl
theorem prep98 : prep Tryz.prog hintF 98 = some p98 := by kernel_rfl
theorem prep103 : prep Tryz.prog hintF 103 = some p103 := by kernel_rfl
theorem prep105 : prep Tryz.prog hintF 105 = some p105 := by kernel_rfl
theorem prep106 : prep Tryz.prog hintF 106 = some p106 := by kernel_rfl
theorem prep107 : prep Tryz.prog hintF 107 = some p107 := by kernel_rfl
theorem prep108 : prep Tryz.prog hintF 108 = some p108 := by kernel_rfl
theorem prep109 : prep Tryz.prog hintF 109 = some p109 := by kernel_rfl
theorem prep110 : prep Tryz.prog hintF 110 = some p110 := by kernel_rfl
theorem prep111 : prep Tryz.prog hintF 111 = some p111 := by kernel_rfl
theorem prep112 : prep Tryz.prog hintF 112 = some p112 := by kernel_rfl
theorem prep113 : prep Tryz.prog hintF 113 = some p113 := by kernel_rfl
theorem prep114 : prep Tryz.prog hintF 114 = some p114 := by kernel_rfl
theorem prep115 : prep Tryz.prog hintF 115 = some p115 := by kernel_rfl
theorem prep116 : prep Tryz.prog hintF 116 = some p116 := by kernel_rfl
theorem prep117 : prep Tryz.prog hintF 117 = some p117 := by kernel_rfl
theorem prep118 : prep Tryz.prog hintF 118 = some p118 := by kernel_rfl
theorem prep119 : prep Tryz.prog hintF 119 = some p119 := by kernel_rfl
theorem prep120 : prep Tryz.prog hintF 120 = some p120 := by kernel_rfl
theorem prep121 : prep Tryz.prog hintF 121 = some p121 := by kernel_rfl
theorem prep122 : prep Tryz.prog hintF 122 = some p122 := by kernel_rfl
theorem prep127 : prep Tryz.prog hintF 127 = some p127 := by kernel_rfl
theorem prep128 : prep Tryz.prog hintF 128 = some p128 := by kernel_rfl
theorem prep129 : prep Tryz.prog hintF 129 = some p129 := by kernel_rfl
theorem prep130 : prep Tryz.prog hintF 130 = some p130 := by kernel_rfl
theorem prep131 : prep Tryz.prog hintF 131 = some p131 := by kernel_rfl
theorem prep132 : prep Tryz.prog hintF 132 = some p132 := by kernel_rfl
theorem prep133 : prep Tryz.prog hintF 133 = some p133 := by kernel_rfl
theorem prep134 : prep Tryz.prog hintF 134 = some p134 := by kernel_rfl
theorem prep138 : prep Tryz.prog hintF 138 = some p138 := by kernel_rfl
theorem prep139 : prep Tryz.prog hintF 139 = some p139 := by kernel_rfl
theorem prep140 : prep Tryz.prog hintF 140 = some p140 := by kernel_rfl
theorem prep141 : prep Tryz.prog hintF 141 = some p141 := by kernel_rfl
theorem prep142 : prep Tryz.prog hintF 142 = some p142 := by kernel_rfl
theorem prep143 : prep Tryz.prog hintF 143 = some p143 := by kernel_rfl
theorem prep144 : prep Tryz.prog hintF 144 = some p144 := by kernel_rfl
theorem prep145 : prep Tryz.prog hintF 145 = some p145 := by kernel_rfl
theorem prep146 : prep Tryz.prog hintF 146 = some p146 := by kernel_rfl
theorem prep147 : prep Tryz.prog hintF 147 = some p147 := by kernel_rfl
theorem prep148 : prep Tryz.prog hintF 148 = some p148 := by kernel_rfl
theorem prep151 : prep Tryz.prog hintF 151 = some p151 := by kernel_rfl
theorem prep152 : prep Tryz.prog hintF 152 = some p152 := by kernel_rfl
theorem prep153 : prep Tryz.prog hintF 153 = some p153 := by kernel_rfl
theorem prep154 : prep Tryz.prog hintF 154 = some p154 := by kernel_rfl
theorem prep157 : prep Tryz.prog hintF 157 = some p157 := by kernel_rfl
theorem prep158 : prep Tryz.prog hintF 158 = some p158 := by kernel_rfl
theorem prep159 : prep Tryz.prog hintF 159 = some p159 := by kernel_rfl
theorem prep160 : prep Tryz.prog hintF 160 = some p160 := by kernel_rfl
theorem prep161 : prep Tryz.prog hintF 161 = some p161 := by kernel_rfl
theorem prep162 : prep Tryz.prog hintF 162 = some p162 := by kernel_rfl
theorem prep163 : prep Tryz.prog hintF 163 = some p163 := by kernel_rfl
theorem prep164 : prep Tryz.prog hintF 164 = some p164 := by kernel_rfl
theorem prep165 : prep Tryz.prog hintF 165 = some p165 := by kernel_rfl
theorem prep166 : prep Tryz.prog hintF 166 = some p166 := by kernel_rfl
theorem prep167 : prep Tryz.prog hintF 167 = some p167 := by kernel_rfl
theorem prep168 : prep Tryz.prog hintF 168 = some p168 := by kernel_rfl
theorem prep169 : prep Tryz.prog hintF 169 = some p169 := by kernel_rfl
theorem prep170 : prep Tryz.prog hintF 170 = some p170 := by kernel_rfl
theorem prep171 : prep Tryz.prog hintF 171 = some p171 := by kernel_rfl
theorem prep172 : prep Tryz.prog hintF 172 = some p172 := by kernel_rfl
theorem prep173 : prep Tryz.prog hintF 173 = some p173 := by kernel_rfl
theorem prep174 : prep Tryz.prog hintF 174 = some p174 := by kernel_rfl
theorem prep175 : prep Tryz.prog hintF 175 = some p175 := by kernel_rfl
theorem gok : GOk Tryz.prog hintF G := ⟨fun f pf h => by
  unfold G at h
  split at h
  · cases h; exact prep8
  · cases h; exact prep9
  · cases h; exact prep11
  · cases h; exact prep13
  · cases h; exact prep20
  · cases h; exact prep22
  · cases h; exact prep31
  · cases h; exact prep32
  · cases h; exact prep33
  · cases h; exact prep34
  · cases h; exact prep35
  · cases h; exact prep36
  · cases h; exact prep37
  · cases h; exact prep38
  · cases h; exact prep39
  · cases h; exact prep40
  · cases h; exact prep41
  · cases h; exact prep42
  · cases h; exact prep43
  · cases h; exact prep44
  · cases h; exact prep53
  · cases h; exact prep55
  · cases h; exact prep56
  · cases h; exact prep58
  · cases h; exact prep59
  · cases h; exact prep68
  · cases h; exact prep69
  · cases h; exact prep70
  · cases h; exact prep71
  · cases h; exact prep72
  · cases h; exact prep73
  · cases h; exact prep74
  · cases h; exact prep75
  · cases h; exact prep76
  · cases h; exact prep77
  · cases h; exact prep78
  · cases h; exact prep79
  · cases h; exact prep80
  · cases h; exact prep81
  · cases h; exact prep82
  · cases h; exact prep83
  · cases h; exact prep84
  · cases h; exact prep85
  · cases h; exact prep86
  · cases h; exact prep87
  · cases h; exact prep88
  · cases h; exact prep89
  · cases h; exact prep90
  · cases h; exact prep91
  · cases h; exact prep93
  · cases h; exact prep96
  · cases h; exact prep98
  · cases h; exact prep103
  · cases h; exact prep105
  · cases h; exact prep106
  · cases h; exact prep107
  · cases h; exact prep108
  · cases h; exact prep109
  · cases h; exact prep110
  · cases h; exact prep111
  · cases h; exact prep112
  · cases h; exact prep113
  · cases h; exact prep114
  · cases h; exact prep115
  · cases h; exact prep116
  · cases h; exact prep117
  · cases h; exact prep118
  · cases h; exact prep119
  · cases h; exact prep120
  · cases h; exact prep121
  · cases h; exact prep122
  · cases h; exact prep127
  · cases h; exact prep128
  · cases h; exact prep129
  · cases h; exact prep130
  · cases h; exact prep131
  · cases h; exact prep132
  · cases h; exact prep133
  · cases h; exact prep134
  · cases h; exact prep138
  · cases h; exact prep139
  · cases h; exact prep140
  · cases h; exact prep141
  · cases h; exact prep142
  · cases h; exact prep143
  · cases h; exact prep144
  · cases h; exact prep145
  · cases h; exact prep146
  · cases h; exact prep147
  · cases h; exact prep148
  · cases h; exact prep151
  · cases h; exact prep152
  · cases h; exact prep153
  · cases h; exact prep154
  · cases h; exact prep157
  · cases h; exact prep158
  · cases h; exact prep159
  · cases h; exact prep160
  · cases h; exact prep161
  · cases h; exact prep162
  · cases h; exact prep163
  · cases h; exact prep164
  · cases h; exact prep165
  · cases h; exact prep166
  · cases h; exact prep167
  · cases h; exact prep168
  · cases h; exact prep169
  · cases h; exact prep170
  · cases h; exact prep171
  · cases h; exact prep172
  · cases h; exact prep173
  · cases h; exact prep174
  · cases h; exact prep175
  · cases h⟩
theorem pk_ok : KOk Tryz.prog PKc := fun f args r h => by
  unfold PKc at h
  split at h
  · exact joinK_ok ⟨_, Tryz.func104, by decide +kernel, fun h => Option.some_ne_none _ h⟩ ⟨Tryz.strings_Join_none, Tryz.strings_Join⟩ h
  · cases h
end Go.Proofs.YtjnmfihnioajaaaGreat.Ow
