/- The texts of the functions: part 3. -/
import Derived.Test.YtbolhfegdocpeaaGreatPFa
import Derived.Test.YtbolhfegdocpeaaGreatProg
import Derived.KernelRfl
namespace Go.Proofs.YtbolhfegdocpeaaGreat.Ow
open Go
set_option maxRecDepth 100000
set_option maxHeartbeats 8000000
@[reducible] noncomputable def q125 : Q 125 := ⟨⟨31, [], _, _⟩, pf_of tp.2 Tryz.func125 (h := h125) rfl rfl rfl rfl (pS pA (pS pA pR))⟩
@[reducible] noncomputable def p125 : PF := q125.1
@[reducible] noncomputable def q126 : Q 126 := ⟨⟨11, [], _, _⟩, pf_of tp.2 Tryz.func126 (h := h126) rfl rfl rfl rfl (pS pA (pS pA pR))⟩
@[reducible] noncomputable def p126 : PF := q126.1
@[reducible] noncomputable def q127 : Q 127 := ⟨⟨18, [], _, _⟩, pf_of tp.2 Tryz.func127 (h := h127) rfl rfl rfl rfl (pS pA (pS pA (pS pA pR)))⟩
@[reducible] noncomputable def p127 : PF := q127.1
@[reducible] noncomputable def q128 : Q 128 := ⟨⟨45, [], _, _⟩, pf_of tp.2 Tryz.func128 (h := h128) rfl rfl rfl rfl (pS pA (pS pA pR))⟩
@[reducible] noncomputable def p128 : PF := q128.1
@[reducible] noncomputable def q129 : Q 129 := ⟨⟨5, [], _, _⟩, pf_of tp.2 Tryz.func129 (h := h129) rfl rfl rfl rfl (pS pA (pS pA pR))⟩
@[reducible] noncomputable def p129 : PF := q129.1
@[reducible] noncomputable def q130 : Q 130 := ⟨⟨19, [], _, _⟩, pf_of tp.2 Tryz.func130 (h := h130) rfl rfl rfl rfl (pS pA (pS (pS pA (pB (pL (pS (pS pA (pD pK pE)) (pS (pB (pS pA (pD (pS pA pR) pK))) pA))))) (pS pA pR)))⟩
@[reducible] noncomputable def p130 : PF := q130.1
@[reducible] noncomputable def qb130_0 : QB q130.1 0 := ⟨_, by cbv⟩
@[reducible] noncomputable def b130_0 : C := qb130_0.1
@[reducible] noncomputable def q131 : Q 131 := ⟨⟨47, [], _, _⟩, pf_of tp.2 Tryz.func131 (h := h131) rfl rfl rfl rfl (pS pA (pS (pS pA (pB (pL (pS (pS pA (pD pK pE)) (pS (pB (pS pA (pD (pS pA pR) pK))) pA))))) (pS pA pR)))⟩
@[reducible] noncomputable def p131 : PF := q131.1
@[reducible] noncomputable def qb131_0 : QB q131.1 0 := ⟨_, by cbv⟩
@[reducible] noncomputable def b131_0 : C := qb131_0.1
@[reducible] noncomputable def q132 : Q 132 := ⟨⟨81, [], _, _⟩, pf_of tp.2 Tryz.func132 (h := h132) rfl rfl rfl rfl (pS pA (pS (pS pA (pD (pS pA pR) pK)) (pS (pS pA (pB (pL (pS (pS pA (pD pK pE)) (pS (pB (pS pA (pD (pS pA pR) pK))) pA))))) (pS pA pR))))⟩
@[reducible] noncomputable def p132 : PF := q132.1
@[reducible] noncomputable def qb132_0 : QB q132.1 0 := ⟨_, by cbv⟩
@[reducible] noncomputable def b132_0 : C := qb132_0.1
@[reducible] noncomputable def q133 : Q 133 := ⟨⟨25, [], _, _⟩, pf_of tp.2 Tryz.func133 (h := h133) rfl rfl rfl rfl (pS pA (pS pA (pS (pS pA (pD pA pK)) (pS pA (pS pA pR)))))⟩
@[reducible] noncomputable def p133 : PF := q133.1
@[reducible] noncomputable def q134 : Q 134 := ⟨⟨68, [], _, _⟩, pf_of tp.2 Tryz.func134 (h := h134) rfl rfl rfl rfl (pS pA (pS (pS pA (pD (pS pA pR) pK)) (pS (pS pA (pB (pL (pS (pS pA (pD pK pE)) (pS (pB (pS (pX (.o 0 (.o 1 (.o 2 (.o 3 (.o 4 (.o 5 (.o 6 (.o 7 (.o 8 (.o 9 (.l 10 [] (.o 11 .f))))))))))))) (pD (pS pA pR) pK))) pA))))) (pS pA pR))))⟩
@[reducible] noncomputable def p134 : PF := q134.1
@[reducible] noncomputable def qb134_0 : QB q134.1 0 := ⟨_, by cbv⟩
@[reducible] noncomputable def b134_0 : C := qb134_0.1
@[reducible] noncomputable def q136 : Q 136 := ⟨⟨19, [], _, _⟩, pf_of tp.2 Tryz.func136 (h := h136) rfl rfl rfl rfl (pS pA (pS (pS pA (pB (pL (pS pA (pS (pD pK pE) (pS (pB (pS pA (pS pA (pD (pS pA pR) pK)))) pA)))))) (pS pA pR)))⟩
@[reducible] noncomputable def p136 : PF := q136.1
@[reducible] noncomputable def qb136_0 : QB q136.1 0 := ⟨_, by cbv⟩
@[reducible] noncomputable def b136_0 : C := qb136_0.1
@[reducible] noncomputable def q137 : Q 137 := ⟨⟨3, [], _, _⟩, pf_of tp.2 Tryz.func137 (h := h137) rfl rfl rfl rfl (pS pA (pS pA pR))⟩
@[reducible] noncomputable def p137 : PF := q137.1
@[reducible] noncomputable def q138 : Q 138 := ⟨⟨137, [1, 1, 1, 1, 1, 1], _, _⟩, pf_of tp.2 Tryz.func138 (h := h138) rfl rfl rfl rfl (pS pA (pS pA (pS pA (pS (pS pA (pB (pS (pS pA (pD pK (pS pA (pD pK (pS pA (pD pK (pS pA (pD pK pA)))))))) (pD (pS pA pR) (pS pA (pD (pS pA pR) (pS pA (pD (pS pA pR) (pS pA (pD (pS pA pR) (pS pA (pD (pS pA pR) (pS (pS pA (pD pK pA)) (pD (pS (pS pA (pB (pL (pS (pS pA (pD pK pE)) (pS (pB (pS pA (pD (pS pA pR) pK))) pA))))) (pS pA pR)) (pS pA (pD (pS pA pR) (pS (pS pA (pD pK pA)) (pD (pS pA pR) (pS pA (pD (pS (pS pA (pD (pS pA pR) pK)) (pS pA pR)) (pS (pS pA (pD pK (pS pA (pD pK pA)))) (pD (pS pA (pB (pL (pS (pS pA (pD pK pE)) (pS (pB (pS pA (pB (pL (pS (pS pA (pD pK pE)) (pS (pB (pS pA (pD (pS pA pR) pK))) pA)))))) pA))))) pK)))))))))))))))))))))) (pS pA pR)))))⟩
@[reducible] noncomputable def p138 : PF := q138.1
@[reducible] noncomputable def qb138_0 : QB q138.1 2 := ⟨_, by cbv⟩
@[reducible] noncomputable def b138_0 : C := qb138_0.1
@[reducible] noncomputable def qb138_1 : QB q138.1 1 := ⟨_, by cbv⟩
@[reducible] noncomputable def b138_1 : C := qb138_1.1
@[reducible] noncomputable def qb138_2 : QB q138.1 0 := ⟨_, by cbv⟩
@[reducible] noncomputable def b138_2 : C := qb138_2.1
@[reducible] noncomputable def q139 : Q 139 := ⟨⟨86, [], _, _⟩, pf_of tp.2 Tryz.func139 (h := h139) rfl rfl rfl rfl (pS pA (pS (pS pA (pD (pS pA pR) pK)) (pS (pS pA (pD (pS pA pR) pK)) (pS pA (pS (pS pA (pB (pL (pS (pS pA (pD pK pE)) (pS (pB (pS pA (pS (pX (.o 0 (.o 1 (.o 2 (.o 4 (.o 5 (.o 6 (.o 7 (.o 8 (.l 3 [] (.l 9 [] (.o 10 .f)))))))))))) (pS pA (pS (pS pA (pD (pS pA pR) pK)) (pS pA pA)))))) pA))))) (pS pA pR))))))⟩
@[reducible] noncomputable def p139 : PF := q139.1
@[reducible] noncomputable def qb139_0 : QB q139.1 0 := ⟨_, by cbv⟩
@[reducible] noncomputable def b139_0 : C := qb139_0.1
@[reducible] noncomputable def q140 : Q 140 := ⟨⟨26, [1], _, _⟩, pf_of tp.2 Tryz.func140 (h := h140) rfl rfl rfl rfl (pS pA (pS pA (pS pA (pS (pS pA (pB (pL (pS (pS pA (pD pK pE)) (pS (pB pA) pA))))) (pS pA pR)))))⟩
@[reducible] noncomputable def p140 : PF := q140.1
@[reducible] noncomputable def qb140_0 : QB q140.1 0 := ⟨_, by cbv⟩
@[reducible] noncomputable def b140_0 : C := qb140_0.1
@[reducible] noncomputable def q141 : Q 141 := ⟨⟨36, [], _, _⟩, pf_of tp.2 Tryz.func141 (h := h141) rfl rfl rfl rfl (pS pA (pS (pS pA (pD (pS pA pR) pK)) (pS pA (pS (pS pA (pD (pS pA pR) pK)) (pS pA (pS (pS pA (pD pA pK)) (pS pA pR)))))))⟩
@[reducible] noncomputable def p141 : PF := q141.1
@[reducible] noncomputable def q142 : Q 142 := ⟨⟨19, [], _, _⟩, pf_of tp.2 Tryz.func142 (h := h142) rfl rfl rfl rfl (pS pA (pS (pS pA (pB (pL (pS pA (pS (pD pK pE) (pS (pB (pS pA (pS pA (pD (pS pA pR) pK)))) pA)))))) (pS pA pR)))⟩
@[reducible] noncomputable def p142 : PF := q142.1
@[reducible] noncomputable def qb142_0 : QB q142.1 0 := ⟨_, by cbv⟩
@[reducible] noncomputable def b142_0 : C := qb142_0.1
@[reducible] noncomputable def q143 : Q 143 := ⟨⟨19, [], _, _⟩, pf_of tp.2 Tryz.func143 (h := h143) rfl rfl rfl rfl (pS pA (pS (pS pA (pB (pL (pS pA (pS (pD pK pE) (pS (pB (pS pA (pS pA (pD (pS pA pR) pK)))) pA)))))) (pS pA pR)))⟩
@[reducible] noncomputable def p143 : PF := q143.1
@[reducible] noncomputable def qb143_0 : QB q143.1 0 := ⟨_, by cbv⟩
@[reducible] noncomputable def b143_0 : C := qb143_0.1
@[reducible] noncomputable def q144 : Q 144 := ⟨⟨55, [1], _, _⟩, pf_of tp.2 Tryz.func144 (h := h144) rfl rfl rfl rfl (pS pA (pS pA (pS (pX (.o 0 (.o 1 (.o 2 (.l 3 [1] (.o 4 (.l 5 [1] (.l 6 [] (.o 7 (.l 8 [] .f)))))))))) (pS (pS pA (pB (pL (pS (pS pA (pD pK pE)) (pS (pB (pS pA (pB (pL (pS (pS pA (pD pK pE)) (pS (pB (pX (.o 0 (.o 1 (.o 2 (.o 3 (.o 4 (.o 5 (.o 6 (.o 7 (.o 8 (.l 9 [7,4,1] (.l 10 [1] (.o 11 (.l 12 [] .f))))))))))))))) pA)))))) pA))))) (pS pA (pS pA (pS pA (pS pA (pS pA pR)))))))))⟩
@[reducible] noncomputable def p144 : PF := q144.1
@[reducible] noncomputable def qb144_0 : QB q144.1 1 := ⟨_, by cbv⟩
@[reducible] noncomputable def b144_0 : C := qb144_0.1
@[reducible] noncomputable def qb144_1 : QB q144.1 0 := ⟨_, by cbv⟩
@[reducible] noncomputable def b144_1 : C := qb144_1.1
@[reducible] noncomputable def q145 : Q 145 := ⟨⟨17, [1], _, _⟩, pf_of tp.2 Tryz.func145 (h := h145) rfl rfl rfl rfl (pS pA (pS pA (pS (pS pA (pB (pL (pS (pS pA (pD pK pE)) (pS (pB (pX (.o 0 (.o 1 (.l 2 [0] (.l 3 [] (.l 4 [] .f))))))) pA))))) (pS pA pR))))⟩
@[reducible] noncomputable def p145 : PF := q145.1
@[reducible] noncomputable def qb145_0 : QB q145.1 0 := ⟨_, by cbv⟩
@[reducible] noncomputable def b145_0 : C := qb145_0.1
@[reducible] noncomputable def q146 : Q 146 := ⟨⟨36, [1, 1], _, _⟩, pf_of tp.2 Tryz.func146 (h := h146) rfl rfl rfl rfl (pS pA (pS pA (pS (pS pA (pB (pS pA (pD (pS pA pR) (pS pA (pD (pS (pX (.o 1 (.o 2 (.o 3 (.o 5 (.o 10 (.o 11 (.o 12 (.a (.l 0 [] (.a (.l 4 [] (.l 6 [] (.l 7 [] (.o 8 (.l 9 [] (.l 13 [] (.l 14 [] (.o 15 .f)))))))) (.l 6 [] (.l 4 [] (.l 7 [] (.o 8 (.l 9 [] (.l 13 [] (.l 14 [] (.o 15 .f)))))))))) (.l 6 [] (.l 0 [] (.l 4 [] (.l 7 [] (.o 8 (.l 9 [] (.l 13 [] (.l 14 [] (.o 15 .f)))))))))))))))))) pR) pK)))))) (pS pA pR))))⟩
@[reducible] noncomputable def p146 : PF := q146.1
@[reducible] noncomputable def q147 : Q 147 := ⟨⟨46, [], _, _⟩, pf_of tp.2 Tryz.func147 (h := h147) rfl rfl rfl rfl (pS pA (pS (pS pA (pD (pS pA pR) pK)) (pS pA (pS (pB (pL (pS (pS pA (pD pK pE)) (pB pA)))) (pS pA (pS pA (pS pA pR)))))))⟩
@[reducible] noncomputable def p147 : PF := q147.1
@[reducible] noncomputable def qb147_0 : QB q147.1 0 := ⟨_, by cbv⟩
@[reducible] noncomputable def b147_0 : C := qb147_0.1
@[reducible] noncomputable def q148 : Q 148 := ⟨⟨16, [], _, _⟩, pf_of tp.2 Tryz.func148 (h := h148) rfl rfl rfl rfl (pS pA (pS pA (pS (pS pA (pB (pL (pS (pS pA (pD pK pE)) (pS (pB (pX (.o 0 (.o 1 (.o 2 (.l 3 [1] (.l 4 [1] (.l 5 [] (.o 6 (.l 7 [] .f)))))))))) pA))))) (pS pA pR))))⟩
@[reducible] noncomputable def p148 : PF := q148.1
@[reducible] noncomputable def qb148_0 : QB q148.1 0 := ⟨_, by cbv⟩
@[reducible] noncomputable def b148_0 : C := qb148_0.1
@[reducible] noncomputable def q149 : Q 149 := ⟨⟨38, [], _, _⟩, pf_of tp.2 Tryz.func149 (h := h149) rfl rfl rfl rfl (pS pA (pS (pS pA (pD (pS pA pR) pK)) (pS (pX (.o 0 (.o 2 (.a (.l 1 [2] (.a (.l 3 [] (.o 4 (.o 5 (.o 6 (.l 7 [] (.l 8 [] (.o 9 .f))))))) (.l 7 [2] (.l 3 [] (.o 4 (.o 5 (.o 6 (.l 8 [] (.o 9 .f))))))))) (.l 7 [2,0] (.l 1 [2] (.l 3 [] (.o 4 (.o 5 (.o 6 (.l 8 [] (.o 9 .f)))))))))))) (pS (pS pA (pD pA pK)) (pS (pS pA (pD (pS pA pR) pK)) (pS pA pR))))))⟩
@[reducible] noncomputable def p149 : PF := q149.1
@[reducible] noncomputable def q150 : Q 150 := ⟨⟨69, [], _, _⟩, pf_of tp.2 Tryz.func150 (h := h150) rfl rfl rfl rfl (pS pA (pS (pS pA (pB (pS pA (pD (pS pA pR) (pS (pS pA (pD pK (pS pA (pD pK (pS pA (pD pK pA)))))) (pD (pS (pX (.o 0 (.o 1 (.o 2 (.o 3 (.o 4 (.o 5 (.o 6 (.l 7 [] (.o 8 (.o 9 (.o 10 (.o 11 (.o 12 (.o 13 (.o 14 (.o 15 (.o 16 (.o 17 (.o 18 (.o 19 (.l 20 [11] (.o 21 (.l 22 [] (.o 23 (.o 24 (.o 25 (.o 26 (.o 27 (.o 28 (.o 29 (.o 30 (.l 31 [] (.o 32 (.o 33 (.o 34 (.o 35 (.o 36 (.o 37 (.o 38 (.o 39 .f))))))))))))))))))))))))))))))))))))))))) pR) pK)))))) (pS pA pR)))⟩
@[reducible] noncomputable def p150 : PF := q150.1
@[reducible] noncomputable def q151 : Q 151 := ⟨⟨49, [], _, _⟩, pf_of tp.2 Tryz.func151 (h := h151) rfl rfl rfl rfl (pS pA (pS pA (pS pA (pS (pS pA (pB (pL (pS (pS pA (pD pK pE)) (pS (pB pA) pA))))) (pS (pS pA (pB (pL (pS (pS pA (pD pK pE)) (pS (pB pA) pA))))) (pS pA pR))))))⟩
@[reducible] noncomputable def p151 : PF := q151.1
@[reducible] noncomputable def qb151_0 : QB q151.1 1 := ⟨_, by cbv⟩
@[reducible] noncomputable def b151_0 : C := qb151_0.1
@[reducible] noncomputable def qb151_1 : QB q151.1 0 := ⟨_, by cbv⟩
@[reducible] noncomputable def b151_1 : C := qb151_1.1
@[reducible] noncomputable def q152 : Q 152 := ⟨⟨25, [], _, _⟩, pf_of tp.2 Tryz.func152 (h := h152) rfl rfl rfl rfl (pS pA (pS pA (pS (pS pA (pD (pS pA pR) pK)) (pS (pB (pL (pS (pS pA (pD pK pE)) (pB (pS pA pA))))) (pS pA pR)))))⟩
@[reducible] noncomputable def p152 : PF := q152.1
@[reducible] noncomputable def qb152_0 : QB q152.1 0 := ⟨_, by cbv⟩
@[reducible] noncomputable def b152_0 : C := qb152_0.1
@[reducible] noncomputable def q153 : Q 153 := ⟨⟨19, [], _, _⟩, pf_of tp.2 Tryz.func153 (h := h153) rfl rfl rfl rfl (pS pA (pS pA pR))⟩
@[reducible] noncomputable def p153 : PF := q153.1
@[reducible] noncomputable def q154 : Q 154 := ⟨⟨28, [], _, _⟩, pf_of tp.2 Tryz.func154 (h := h154) rfl rfl rfl rfl (pS pA (pS pA (pS (pS pA (pB (pL (pS (pS pA (pD pK pE)) (pS (pB (pS pA pA)) pA))))) (pS pA pR))))⟩
@[reducible] noncomputable def p154 : PF := q154.1
@[reducible] noncomputable def qb154_0 : QB q154.1 0 := ⟨_, by cbv⟩
@[reducible] noncomputable def b154_0 : C := qb154_0.1
@[reducible] noncomputable def q155 : Q 155 := ⟨⟨18, [1], _, _⟩, pf_of tp.2 Tryz.func155 (h := h155) rfl rfl rfl rfl (pS pA (pS pA (pS (pS pA (pB (pL (pS (pS pA (pD pK pE)) (pS (pB pA) pA))))) (pS pA pR))))⟩
@[reducible] noncomputable def p155 : PF := q155.1
@[reducible] noncomputable def qb155_0 : QB q155.1 0 := ⟨_, by cbv⟩
@[reducible] noncomputable def b155_0 : C := qb155_0.1
@[reducible] noncomputable def q156 : Q 156 := ⟨⟨12, [], _, _⟩, pf_of tp.2 Tryz.func156 (h := h156) rfl rfl rfl rfl (pS pA (pS (pX (.o 1 (.o 2 (.o 5 (.o 6 (.a (.l 0 [6,2] (.a (.l 3 [6] (.l 4 [6] (.l 7 [] (.o 8 (.l 9 [] .f))))) (.l 4 [6,2] (.l 3 [6] (.l 7 [] (.o 8 (.l 9 [] .f))))))) (.l 4 [6,2] (.l 0 [6,2] (.l 3 [6] (.l 7 [] (.o 8 (.l 9 [] .f)))))))))))) pR))⟩
@[reducible] noncomputable def p156 : PF := q156.1
@[reducible] noncomputable def q157 : Q 157 := ⟨⟨36, [], _, _⟩, pf_of tp.2 Tryz.func157 (h := h157) rfl rfl rfl rfl (pS pA (pS pA (pS pA (pS (pB (pS pA (pD (pS pA pR) (pS pA (pD (pS pA pR) pK))))) (pS pA pR)))))⟩
@[reducible] noncomputable def p157 : PF := q157.1
@[reducible] noncomputable def q158 : Q 158 := ⟨⟨29, [], _, _⟩, pf_of tp.2 Tryz.func158 (h := h158) rfl rfl rfl rfl (pS pA (pS pA (pS pA (pS pA (pS (pB (pL (pS (pS pA (pD pK pE)) (pB pA)))) (pS pA pR))))))⟩
@[reducible] noncomputable def p158 : PF := q158.1
@[reducible] noncomputable def qb158_0 : QB q158.1 0 := ⟨_, by cbv⟩
@[reducible] noncomputable def b158_0 : C := qb158_0.1
@[reducible] noncomputable def q159 : Q 159 := ⟨⟨19, [], _, _⟩, pf_of tp.2 Tryz.func159 (h := h159) rfl rfl rfl rfl (pS pA (pS (pS pA (pB (pL (pS pA (pS (pD pK pE) (pS (pB (pS pA (pS pA (pD (pS pA pR) pK)))) pA)))))) (pS pA pR)))⟩
@[reducible] noncomputable def p159 : PF := q159.1
@[reducible] noncomputable def qb159_0 : QB q159.1 0 := ⟨_, by cbv⟩
@[reducible] noncomputable def b159_0 : C := qb159_0.1
@[reducible] noncomputable def q163 : Q 163 := ⟨⟨6, [], _, _⟩, pf_of tp.2 Tryz.func163 (h := h163) rfl rfl rfl rfl (pS pA (pS pA pR))⟩
@[reducible] noncomputable def p163 : PF := q163.1
@[reducible] noncomputable def q164 : Q 164 := ⟨⟨26, [], _, _⟩, pf_of tp.2 Tryz.func164 (h := h164) rfl rfl rfl rfl (pS pA (pS (pS pA (pB (pL (pS pA (pS (pD pK pE) (pS (pB (pS pA (pS pA (pD (pS pA pR) pK)))) pA)))))) (pS pA pR)))⟩
@[reducible] noncomputable def p164 : PF := q164.1
@[reducible] noncomputable def qb164_0 : QB q164.1 0 := ⟨_, by cbv⟩
@[reducible] noncomputable def b164_0 : C := qb164_0.1
@[reducible] noncomputable def q165 : Q 165 := ⟨⟨9, [], _, _⟩, pf_of tp.2 Tryz.func165 (h := h165) rfl rfl rfl rfl (pS pA (pS pA pR))⟩
@[reducible] noncomputable def p165 : PF := q165.1
@[reducible] noncomputable def q166 : Q 166 := ⟨⟨6, [], _, _⟩, pf_of tp.2 Tryz.func166 (h := h166) rfl rfl rfl rfl (pS pA (pS pA pR))⟩
@[reducible] noncomputable def p166 : PF := q166.1
@[reducible] noncomputable def q167 : Q 167 := ⟨⟨29, [], _, _⟩, pf_of tp.2 Tryz.func167 (h := h167) rfl rfl rfl rfl (pS pA (pS (pS pA (pB (pL (pS pA (pS (pD pK pE) (pS (pB (pS pA (pS pA (pD (pS pA pR) pK)))) pA)))))) (pS pA pR)))⟩
@[reducible] noncomputable def p167 : PF := q167.1
@[reducible] noncomputable def qb167_0 : QB q167.1 0 := ⟨_, by cbv⟩
@[reducible] noncomputable def b167_0 : C := qb167_0.1
@[reducible] noncomputable def q168 : Q 168 := ⟨⟨40, [], _, _⟩, pf_of tp.2 Tryz.func168 (h := h168) rfl rfl rfl rfl (pS pA (pS pA (pS pA (pS (pS pA (pD (pS pA pR) pK)) (pS pA pR)))))⟩
@[reducible] noncomputable def p168 : PF := q168.1
@[reducible] noncomputable def q169 : Q 169 := ⟨⟨32, [], _, _⟩, pf_of tp.2 Tryz.func169 (h := h169) rfl rfl rfl rfl (pS pA (pS (pS pA (pD (pS pA pR) pK)) (pS (pS pA (pB (pL (pS pA (pS (pD pK pE) (pS (pB (pS pA (pS pA (pS pA (pD (pS pA pR) pK))))) pA)))))) (pS pA pR))))⟩
@[reducible] noncomputable def p169 : PF := q169.1
@[reducible] noncomputable def qb169_0 : QB q169.1 0 := ⟨_, by cbv⟩
@[reducible] noncomputable def b169_0 : C := qb169_0.1
@[reducible] noncomputable def q170 : Q 170 := ⟨⟨32, [], _, _⟩, pf_of tp.2 Tryz.func170 (h := h170) rfl rfl rfl rfl (pS pA (pS (pS pA (pB (pL (pS (pS pA (pD pK pE)) (pS (pB (pS (pX (.o 0 (.o 1 (.o 2 (.o 3 (.l 4 [] (.o 5 (.o 6 (.o 7 (.o 8 (.o 9 (.o 10 (.o 11 (.o 12 (.o 13 (.o 14 (.o 15 (.o 16 (.o 17 (.o 18 (.o 19 (.o 20 (.o 21 .f))))))))))))))))))))))) (pD (pS pA pR) pK))) pA))))) (pS pA pR)))⟩
@[reducible] noncomputable def p170 : PF := q170.1
@[reducible] noncomputable def qb170_0 : QB q170.1 0 := ⟨_, by cbv⟩
@[reducible] noncomputable def b170_0 : C := qb170_0.1
@[reducible] noncomputable def q171 : Q 171 := ⟨⟨29, [], _, _⟩, pf_of tp.2 Tryz.func171 (h := h171) rfl rfl rfl rfl (pS pA (pS (pS pA (pB (pL (pS (pS pA (pD pK pE)) (pS (pB (pS (pX (.o 0 (.o 1 (.o 2 (.o 3 (.l 4 [] (.o 5 (.o 6 (.o 7 (.o 8 (.o 9 (.o 10 (.o 11 (.o 12 (.o 13 (.l 14 [] (.o 15 .f))))))))))))))))) (pD (pS pA pR) pK))) pA))))) (pS pA pR)))⟩
@[reducible] noncomputable def p171 : PF := q171.1
@[reducible] noncomputable def qb171_0 : QB q171.1 0 := ⟨_, by cbv⟩
@[reducible] noncomputable def b171_0 : C := qb171_0.1
@[reducible] noncomputable def q172 : Q 172 := ⟨⟨69, [], _, _⟩, pf_of tp.2 Tryz.func172 (h := h172) rfl rfl rfl rfl (pS pA (pS (pS pA (pD (pS pA pR) pK)) (pS (pX (.o 0 (.o 1 (.o 2 (.o 3 (.o 4 (.o 5 (.o 6 (.o 7 (.o 8 (.o 9 (.o 10 (.o 11 (.o 12 (.o 13 (.o 14 (.o 15 (.o 16 (.o 17 (.o 18 (.o 19 (.o 20 (.o 21 (.o 22 .f)))))))))))))))))))))))) (pS pA (pS (pS pA (pD (pS pA pR) pK)) (pS pA (pS (pS (pX (.o 0 (.o 1 (.o 2 (.o 3 (.o 4 (.o 7 (.a (.l 5 [] (.a (.l 6 [] (.l 8 [] (.o 9 (.o 10 .f)))) (.l 8 [] (.l 6 [] (.o 9 (.o 10 .f)))))) (.l 8 [3] (.l 5 [] (.l 6 [] (.o 9 (.o 10 .f))))))))))))) (pD (pS pA pR) pK)) (pS pA pR))))))))⟩
@[reducible] noncomputable def p172 : PF := q172.1
@[reducible] noncomputable def q173 : Q 173 := ⟨⟨29, [], _, _⟩, pf_of tp.2 Tryz.func173 (h := h173) rfl rfl rfl rfl (pS pA (pS pA (pS (pS pA (pB (pL (pS (pS pA (pD pK pE)) (pS (pB (pX (.o 0 (.o 1 (.o 3 (.o 4 (.o 5 (.o 6 (.o 7 (.l 2 [7,4,1] (.l 8 [1] (.l 9 [1] (.l 10 [] (.o 11 (.l 12 [] .f))))))))))))))) pA))))) (pS pA pR))))⟩
@[reducible] noncomputable def p173 : PF := q173.1
@[reducible] noncomputable def qb173_0 : QB q173.1 0 := ⟨_, by cbv⟩
@[reducible] noncomputable def b173_0 : C := qb173_0.1
@[reducible] noncomputable def q174 : Q 174 := ⟨⟨45, [], _, _⟩, pf_of tp.2 Tryz.func174 (h := h174) rfl rfl rfl rfl (pS pA (pS pA (pS (pS pA (pD (pS pA pR) pK)) (pS (pS pA (pB (pL (pS (pS pA (pD pK pE)) (pS (pB pA) pA))))) (pS pA pR)))))⟩
@[reducible] noncomputable def p174 : PF := q174.1
@[reducible] noncomputable def qb174_0 : QB q174.1 0 := ⟨_, by cbv⟩
@[reducible] noncomputable def b174_0 : C := qb174_0.1
@[reducible] noncomputable def q175 : Q 175 := ⟨⟨13, [], _, _⟩, pf_of tp.2 Tryz.func175 (h := h175) rfl rfl rfl rfl (pS pA (pS pA (pS (pS pA (pD (pS pA pR) pK)) (pS pA pR))))⟩
@[reducible] noncomputable def p175 : PF := q175.1
@[reducible] noncomputable def q176 : Q 176 := ⟨⟨19, [], _, _⟩, pf_of tp.2 Tryz.func176 (h := h176) rfl rfl rfl rfl (pS pA (pS (pS pA (pD (pS pA pR) pK)) (pS pA (pS (pX (.o 0 (.o 2 (.o 3 (.o 4 (.a (.l 1 [4,2] (.a (.l 5 [2] (.a (.l 6 [2] (.a (.l 7 [2] (.l 8 [2] (.o 9 (.l 10 [] .f)))) (.l 8 [2] (.l 7 [2] (.o 9 (.l 10 [] .f)))))) (.a (.l 7 [2] (.a (.l 6 [2] (.l 8 [2] (.o 9 (.l 10 [] .f)))) (.l 8 [2] (.l 6 [2] (.o 9 (.l 10 [] .f)))))) (.l 8 [2] (.a (.l 6 [2] (.l 7 [2] (.o 9 (.l 10 [] .f)))) (.l 7 [2] (.l 6 [2] (.o 9 (.l 10 [] .f))))))))) (.a (.l 6 [4,2] (.a (.l 5 [2] (.a (.l 7 [2] (.l 8 [2] (.o 9 (.l 10 [] .f)))) (.l 8 [2] (.l 7 [2] (.o 9 (.l 10 [] .f)))))) (.a (.l 7 [4,2] (.a (.l 5 [2] (.l 8 [2] (.o 9 (.l 10 [] .f)))) (.l 8 [4,2] (.l 5 [2] (.o 9 (.l 10 [] .f)))))) (.l 8 [4,2] (.a (.l 5 [2] (.l 7 [2] (.o 9 (.l 10 [] .f)))) (.l 7 [4,2] (.l 5 [2] (.o 9 (.l 10 [] .f))))))))) (.a (.l 7 [4,2] (.a (.l 5 [2] (.a (.l 6 [2] (.l 8 [2] (.o 9 (.l 10 [] .f)))) (.l 8 [2] (.l 6 [2] (.o 9 (.l 10 [] .f)))))) (.a (.l 6 [4,2] (.a (.l 5 [2] (.l 8 [2] (.o 9 (.l 10 [] .f)))) (.l 8 [4,2] (.l 5 [2] (.o 9 (.l 10 [] .f)))))) (.l 8 [4,2] (.a (.l 5 [2] (.l 6 [2] (.o 9 (.l 10 [] .f)))) (.l 6 [4,2] (.l 5 [2] (.o 9 (.l 10 [] .f))))))))) (.l 8 [4,2] (.a (.l 5 [2] (.a (.l 6 [2] (.l 7 [2] (.o 9 (.l 10 [] .f)))) (.l 7 [2] (.l 6 [2] (.o 9 (.l 10 [] .f)))))) (.a (.l 6 [4,2] (.a (.l 5 [2] (.l 7 [2] (.o 9 (.l 10 [] .f)))) (.l 7 [4,2] (.l 5 [2] (.o 9 (.l 10 [] .f)))))) (.l 7 [4,2] (.a (.l 5 [2] (.l 6 [2] (.o 9 (.l 10 [] .f)))) (.l 6 [4,2] (.l 5 [2] (.o 9 (.l 10 [] .f))))))))))))) (.a (.l 6 [4,2] (.a (.l 1 [4,2] (.a (.l 5 [2] (.a (.l 7 [2] (.l 8 [2] (.o 9 (.l 10 [] .f)))) (.l 8 [2] (.l 7 [2] (.o 9 (.l 10 [] .f)))))) (.a (.l 7 [4,2] (.a (.l 5 [2] (.l 8 [2] (.o 9 (.l 10 [] .f)))) (.l 8 [4,2] (.l 5 [2] (.o 9 (.l 10 [] .f)))))) (.l 8 [4,2] (.a (.l 5 [2] (.l 7 [2] (.o 9 (.l 10 [] .f)))) (.l 7 [4,2] (.l 5 [2] (.o 9 (.l 10 [] .f))))))))) (.a (.l 7 [4,2] (.a (.l 1 [4,2] (.a (.l 5 [2] (.l 8 [2] (.o 9 (.l 10 [] .f)))) (.l 8 [4,2] (.l 5 [2] (.o 9 (.l 10 [] .f)))))) (.l 8 [4,2] (.l 1 [4,2] (.l 5 [2] (.o 9 (.l 10 [] .f))))))) (.l 8 [4,2] (.a (.l 1 [4,2] (.a (.l 5 [2] (.l 7 [2] (.o 9 (.l 10 [] .f)))) (.l 7 [4,2] (.l 5 [2] (.o 9 (.l 10 [] .f)))))) (.l 7 [4,2] (.l 1 [4,2] (.l 5 [2] (.o 9 (.l 10 [] .f)))))))))) (.a (.l 7 [4,2] (.a (.l 1 [4,2] (.a (.l 5 [2] (.a (.l 6 [2] (.l 8 [2] (.o 9 (.l 10 [] .f)))) (.l 8 [2] (.l 6 [2] (.o 9 (.l 10 [] .f)))))) (.a (.l 6 [4,2] (.a (.l 5 [2] (.l 8 [2] (.o 9 (.l 10 [] .f)))) (.l 8 [4,2] (.l 5 [2] (.o 9 (.l 10 [] .f)))))) (.l 8 [4,2] (.a (.l 5 [2] (.l 6 [2] (.o 9 (.l 10 [] .f)))) (.l 6 [4,2] (.l 5 [2] (.o 9 (.l 10 [] .f))))))))) (.a (.l 6 [4,2] (.a (.l 1 [4,2] (.a (.l 5 [2] (.l 8 [2] (.o 9 (.l 10 [] .f)))) (.l 8 [4,2] (.l 5 [2] (.o 9 (.l 10 [] .f)))))) (.l 8 [4,2] (.l 1 [4,2] (.l 5 [2] (.o 9 (.l 10 [] .f))))))) (.l 8 [4,2] (.a (.l 1 [4,2] (.a (.l 5 [2] (.l 6 [2] (.o 9 (.l 10 [] .f)))) (.l 6 [4,2] (.l 5 [2] (.o 9 (.l 10 [] .f)))))) (.l 6 [4,2] (.l 1 [4,2] (.l 5 [2] (.o 9 (.l 10 [] .f)))))))))) (.l 8 [4,2] (.a (.l 1 [4,2] (.a (.l 5 [2] (.a (.l 6 [2] (.l 7 [2] (.o 9 (.l 10 [] .f)))) (.l 7 [2] (.l 6 [2] (.o 9 (.l 10 [] .f)))))) (.a (.l 6 [4,2] (.a (.l 5 [2] (.l 7 [2] (.o 9 (.l 10 [] .f)))) (.l 7 [4,2] (.l 5 [2] (.o 9 (.l 10 [] .f)))))) (.l 7 [4,2] (.a (.l 5 [2] (.l 6 [2] (.o 9 (.l 10 [] .f)))) (.l 6 [4,2] (.l 5 [2] (.o 9 (.l 10 [] .f))))))))) (.a (.l 6 [4,2] (.a (.l 1 [4,2] (.a (.l 5 [2] (.l 7 [2] (.o 9 (.l 10 [] .f)))) (.l 7 [4,2] (.l 5 [2] (.o 9 (.l 10 [] .f)))))) (.l 7 [4,2] (.l 1 [4,2] (.l 5 [2] (.o 9 (.l 10 [] .f))))))) (.l 7 [4,2] (.a (.l 1 [4,2] (.a (.l 5 [2] (.l 6 [2] (.o 9 (.l 10 [] .f)))) (.l 6 [4,2] (.l 5 [2] (.o 9 (.l 10 [] .f)))))) (.l 6 [4,2] (.l 1 [4,2] (.l 5 [2] (.o 9 (.l 10 [] .f)))))))))))))))))) pR))))⟩
@[reducible] noncomputable def p176 : PF := q176.1
@[reducible] noncomputable def q177 : Q 177 := ⟨⟨95, [1, 1, 1, 1, 1], _, _⟩, pf_of tp.2 Tryz.func177 (h := h177) rfl rfl rfl rfl (pS pA (pS (pS pA (pD (pS pA (pS pA pR)) pK)) (pS (pS pA (pD (pS pA pR) pK)) (pS (pS pA (pB (pS pA (pD (pS pA (pS pA pR)) (pS (pS pA (pD pK (pS pA (pD pK pA)))) (pD (pS pA (pS pA pR)) (pS (pS pA (pD pK (pS pA (pD pK pA)))) (pD (pS pA (pS pA pR)) pK)))))))) (pS pA (pS pA pR))))))⟩
@[reducible] noncomputable def p177 : PF := q177.1
@[reducible] noncomputable def q178 : Q 178 := ⟨⟨69, [], _, _⟩, pf_of tp.2 Tryz.func178 (h := h178) rfl rfl rfl rfl (pS pA (pS (pX (.o 1 (.o 2 (.o 5 (.o 6 (.o 8 (.o 9 (.a (.l 0 [9,6,2] (.a (.l 3 [9,6] (.a (.l 4 [9,6] (.a (.l 7 [9] (.o 10 (.l 11 [9] (.l 12 [] .f)))) (.l 11 [9,6] (.l 7 [9] (.o 10 (.l 12 [] .f)))))) (.l 11 [9,6] (.l 4 [9,6] (.l 7 [9] (.o 10 (.l 12 [] .f))))))) (.a (.l 4 [9,6,2] (.a (.l 3 [9,6] (.a (.l 7 [9] (.o 10 (.l 11 [9] (.l 12 [] .f)))) (.l 11 [9,6] (.l 7 [9] (.o 10 (.l 12 [] .f)))))) (.l 11 [9,6,2] (.l 3 [9,6] (.l 7 [9] (.o 10 (.l 12 [] .f))))))) (.l 11 [9,6,2] (.a (.l 3 [9,6] (.l 4 [9,6] (.l 7 [9] (.o 10 (.l 12 [] .f))))) (.l 4 [9,6,2] (.l 3 [9,6] (.l 7 [9] (.o 10 (.l 12 [] .f)))))))))) (.a (.l 4 [9,6,2] (.a (.l 0 [9,6,2] (.a (.l 3 [9,6] (.a (.l 7 [9] (.o 10 (.l 11 [9] (.l 12 [] .f)))) (.l 11 [9,6] (.l 7 [9] (.o 10 (.l 12 [] .f)))))) (.l 11 [9,6,2] (.l 3 [9,6] (.l 7 [9] (.o 10 (.l 12 [] .f))))))) (.l 11 [9,6,2] (.l 0 [9,6,2] (.l 3 [9,6] (.l 7 [9] (.o 10 (.l 12 [] .f)))))))) (.l 11 [9,6,2] (.a (.l 0 [9,6,2] (.a (.l 3 [9,6] (.l 4 [9,6] (.l 7 [9] (.o 10 (.l 12 [] .f))))) (.l 4 [9,6,2] (.l 3 [9,6] (.l 7 [9] (.o 10 (.l 12 [] .f))))))) (.l 4 [9,6,2] (.l 0 [9,6,2] (.l 3 [9,6] (.l 7 [9] (.o 10 (.l 12 [] .f))))))))))))))))) (pS (pS pA (pB (pL (pS (pS pA (pD pK pE)) (pS (pB (pX (.o 0 (.o 1 (.o 2 (.o 3 (.o 4 (.o 5 (.o 6 (.l 7 [1] (.l 8 [1] (.l 9 [] (.o 10 (.l 11 [] .f)))))))))))))) pA))))) (pS (pS pA (pB (pL (pS (pS pA (pD pK pE)) (pS (pB (pX (.o 0 (.o 1 (.o 2 (.o 3 (.o 4 (.o 5 (.o 6 (.o 7 (.o 8 (.o 9 (.o 10 (.o 11 (.o 12 (.o 13 (.o 15 (.o 16 (.o 17 (.o 18 (.o 19 (.o 20 (.l 14 [20,16,13,9,7,3,1] (.l 21 [13,9,7,3,1] (.o 22 (.l 23 [1] (.l 24 [] (.o 25 (.l 26 [] .f))))))))))))))))))))))))))))) pA))))) (pS pA pR)))))⟩
@[reducible] noncomputable def p178 : PF := q178.1
@[reducible] noncomputable def qb178_0 : QB q178.1 1 := ⟨_, by cbv⟩
@[reducible] noncomputable def b178_0 : C := qb178_0.1
@[reducible] noncomputable def qb178_1 : QB q178.1 0 := ⟨_, by cbv⟩
@[reducible] noncomputable def b178_1 : C := qb178_1.1
@[reducible] noncomputable def q179 : Q 179 := ⟨⟨24, [], _, _⟩, pf_of tp.2 Tryz.func179 (h := h179) rfl rfl rfl rfl (pS pA (pS pA (pS (pS pA (pD pA pK)) (pS (pS pA (pD (pS pA pR) pK)) (pS pA pR)))))⟩
@[reducible] noncomputable def p179 : PF := q179.1
@[reducible] noncomputable def q180 : Q 180 := ⟨⟨85, [], _, _⟩, pf_of tp.2 Tryz.func180 (h := h180) rfl rfl rfl rfl (pS pA (pS (pS pA (pD (pS pA pR) pK)) (pS pA (pS (pS pA (pB (pL (pS (pS pA (pD pK pE)) (pS (pB pA) pA))))) (pS (pS pA (pB (pL (pS (pS pA (pD pK pE)) (pS (pB (pS pA (pS pA (pB (pL (pS (pS pA (pD pK pE)) (pS (pB pA) pA))))))) pA))))) (pS (pX (.o 0 (.o 1 (.o 2 (.o 4 (.o 5 (.o 9 (.o 10 (.l 3 [10,5] (.l 6 [10] (.o 7 (.o 8 (.l 11 [] (.o 12 (.o 13 (.l 14 [] (.l 15 [] (.o 16 .f)))))))))))))))))) (pS pA pR)))))))⟩
@[reducible] noncomputable def p180 : PF := q180.1
@[reducible] noncomputable def qb180_0 : QB q180.1 2 := ⟨_, by cbv⟩
@[reducible] noncomputable def b180_0 : C := qb180_0.1
@[reducible] noncomputable def qb180_1 : QB q180.1 1 := ⟨_, by cbv⟩
@[reducible] noncomputable def b180_1 : C := qb180_1.1
@[reducible] noncomputable def qb180_2 : QB q180.1 0 := ⟨_, by cbv⟩
@[reducible] noncomputable def b180_2 : C := qb180_2.1
@[reducible] noncomputable def q183 : Q 183 := ⟨⟨19, [], _, _⟩, pf_of tp.2 Tryz.func183 (h := h183) rfl rfl rfl rfl (pS pA (pS (pS pA (pB (pL (pS pA (pS (pD pK pE) (pS (pB (pS pA (pS pA (pD (pS pA pR) pK)))) pA)))))) (pS pA pR)))⟩
@[reducible] noncomputable def p183 : PF := q183.1
@[reducible] noncomputable def qb183_0 : QB q183.1 0 := ⟨_, by cbv⟩
@[reducible] noncomputable def b183_0 : C := qb183_0.1
@[reducible] noncomputable def q184 : Q 184 := ⟨⟨68, [], _, _⟩, pf_of tp.2 Tryz.func184 (h := h184) rfl rfl rfl rfl (pS pA (pS (pS pA (pD (pS pA pR) pK)) (pS (pX (.o 0 (.o 1 (.o 2 (.o 3 (.o 4 (.o 5 (.o 6 (.o 7 (.o 8 (.o 9 (.o 10 (.o 11 (.o 12 (.o 13 (.o 14 (.o 15 (.o 16 (.o 17 (.o 18 (.o 19 (.o 20 (.o 21 (.o 22 .f)))))))))))))))))))))))) (pS pA (pS (pS pA (pD (pS pA pR) pK)) (pS pA (pS (pS pA (pD (pS pA pR) pK)) (pS pA pR))))))))⟩
@[reducible] noncomputable def p184 : PF := q184.1
@[reducible] noncomputable def q185 : Q 185 := ⟨⟨65, [], _, _⟩, pf_of tp.2 Tryz.func185 (h := h185) rfl rfl rfl rfl (pS pA (pS pA (pS pA (pS pA (pS (pS pA (pB (pL (pS (pS pA (pD pK pE)) (pS (pB (pS pA pA)) pA))))) (pS pA (pS pA (pS pA (pS pA (pS pA (pS (pS (pX (.o 0 (.o 1 (.o 2 (.o 3 (.o 4 (.o 5 (.o 6 (.o 9 (.a (.l 7 [] (.a (.l 8 [] (.l 10 [] (.o 11 (.o 12 (.o 13 (.o 14 (.o 15 (.o 16 (.o 17 .f))))))))) (.l 10 [] (.l 8 [] (.o 11 (.o 12 (.o 13 (.o 14 (.o 15 (.o 16 (.o 17 .f))))))))))) (.l 10 [6] (.l 7 [] (.l 8 [] (.o 11 (.o 12 (.o 13 (.o 14 (.o 15 (.o 16 (.o 17 .f)))))))))))))))))))) (pD (pS pA pR) pK)) (pS pA pR))))))))))))⟩
@[reducible] noncomputable def p185 : PF := q185.1
@[reducible] noncomputable def qb185_0 : QB q185.1 0 := ⟨_, by cbv⟩
@[reducible] noncomputable def b185_0 : C := qb185_0.1
@[reducible] noncomputable def q186 : Q 186 := ⟨⟨170, [1, 1, 1, 1, 1], _, _⟩, pf_of tp.2 Tryz.func186 (h := h186) rfl rfl rfl rfl (pS pA (pS (pS pA (pD (pS pA pR) pK)) (pS (pS pA (pD (pS pA (pS (pS pA (pD (pS pA pR) pK)) (pS (pX (.o 0 (.o 1 (.o 2 (.o 3 (.o 5 (.o 6 (.o 7 (.o 8 (.o 9 (.o 10 (.o 11 (.o 12 (.o 13 (.o 14 (.l 4 [11,8,6,3,1] (.l 15 [3,1] (.o 16 (.o 17 (.l 18 [] .f)))))))))))))))))))) (pS pA pR)))) pK)) (pS pA (pS (pB (pL (pS (pS (pX (.o 0 (.o 1 (.o 2 (.o 3 (.o 4 (.o 5 (.o 6 (.o 7 (.o 8 (.o 9 (.o 10 (.o 11 (.o 12 (.o 13 (.o 14 (.o 15 (.o 16 (.o 17 (.o 18 (.o 19 (.o 20 (.o 21 (.o 22 (.o 23 (.o 24 (.o 25 (.o 26 (.o 27 (.o 28 (.o 29 .f))))))))))))))))))))))))))))))) (pD pK pE)) (pB pA)))) (pS pA (pS (pX (.o 1 (.o 2 (.o 3 (.o 4 (.o 6 (.o 7 (.o 8 (.o 9 (.o 10 (.l 0 [7,2] (.l 5 [7] (.l 11 [] (.o 12 (.l 13 [] .f))))))))))))))) (pS pA (pS (pS pA (pD (pS pA pR) pK)) (pS pA (pS (pX (.o 0 (.o 1 (.o 2 (.o 3 (.o 4 (.o 5 (.o 6 (.o 7 (.o 8 (.a (.l 9 [] (.o 10 (.o 11 (.o 12 (.l 13 [] (.l 14 [] (.o 15 .f))))))) (.l 13 [8,7,5,3,1] (.l 9 [] (.o 10 (.o 11 (.o 12 (.l 14 [] (.o 15 .f)))))))))))))))))) (pS pA (pS (pS pA (pB (pL (pS (pS pA (pD pK pE)) (pS (pB (pS (pX (.o 0 (.o 1 (.o 2 (.o 3 (.o 4 (.o 5 (.l 6 [] (.o 7 .f))))))))) (pD (pX (.o 0 (.o 1 (.o 2 (.o 3 (.o 4 (.l 5 [0] (.l 6 [] (.l 7 [] .f))))))))) pK))) pA))))) (pS pA pR))))))))))))))⟩
@[reducible] noncomputable def p186 : PF := q186.1
@[reducible] noncomputable def qb186_0 : QB q186.1 1 := ⟨_, by cbv⟩
@[reducible] noncomputable def b186_0 : C := qb186_0.1
@[reducible] noncomputable def qb186_1 : QB q186.1 0 := ⟨_, by cbv⟩
@[reducible] noncomputable def b186_1 : C := qb186_1.1
@[reducible] noncomputable def q187 : Q 187 := ⟨⟨95, [1, 1, 1, 1, 1], _, _⟩, pf_of tp.2 Tryz.func187 (h := h187) rfl rfl rfl rfl (pS pA (pS (pS pA (pD (pS pA pR) pK)) (pS (pS pA (pD (pS pA pR) pK)) (pS (pS pA (pD pA pK)) (pS (pS pA (pD (pS pA pR) pK)) (pS (pX (.o 0 (.o 1 (.o 2 (.o 3 (.o 4 (.o 5 (.o 6 (.o 7 (.o 8 (.o 9 (.o 10 (.l 11 [1] (.l 12 [] (.o 13 (.l 14 [] .f)))))))))))))))) (pS (pX (.o 0 (.o 1 (.o 2 (.o 3 (.o 4 (.o 5 (.o 6 (.o 7 (.o 8 (.a (.l 9 [] (.o 10 (.o 11 (.o 12 (.l 13 [] (.l 14 [] (.o 15 .f))))))) (.l 13 [7,4,1] (.l 9 [] (.o 10 (.o 11 (.o 12 (.l 14 [] (.o 15 .f)))))))))))))))))) (pS pA (pS (pS (pX (.o 0 (.o 1 (.o 2 (.l 3 [1] (.o 4 (.o 5 (.o 6 .f)))))))) (pD pA pK)) (pS pA pR))))))))))⟩
@[reducible] noncomputable def p187 : PF := q187.1
@[reducible] noncomputable def q188 : Q 188 := ⟨⟨69, [1, 1, 1, 1, 1], _, _⟩, pf_of tp.2 Tryz.func188 (h := h188) rfl rfl rfl rfl (pS pA (pS (pS pA (pD (pS pA pR) pK)) (pS (pS pA (pB (pS pA (pD (pS pA (pS pA pR)) (pS pA (pD (pS pA (pS pA pR)) pK)))))) (pS (pS (pX (.o 0 (.o 1 (.o 2 (.o 3 (.o 4 (.o 5 (.o 6 (.o 7 (.o 8 (.o 9 (.o 10 (.o 11 .f))))))))))))) (pD (pS pA pR) pK)) (pS pA pR)))))⟩
@[reducible] noncomputable def p188 : PF := q188.1
@[reducible] noncomputable def q189 : Q 189 := ⟨⟨69, [1, 1, 1, 1, 1], _, _⟩, pf_of tp.2 Tryz.func189 (h := h189) rfl rfl rfl rfl (pS pA (pS pA (pS (pS pA (pD (pS (pS pA (pD (pS pA pR) pK)) (pS (pX (.o 0 (.o 1 (.o 2 (.o 3 (.o 4 (.l 5 [3,1] (.o 6 (.l 7 [] .f))))))))) (pS pA pR))) pK)) (pS (pS pA (pD (pS pA pR) pK)) (pS (pS pA (pD (pS pA (pS pA (pX (.o 0 (.o 1 (.o 2 (.o 3 (.o 4 (.o 5 (.o 6 (.o 7 (.o 8 (.l 9 [3,1] (.o 10 (.o 11 (.l 12 [] .f)))))))))))))))) pK)) (pS pA pR))))))⟩
@[reducible] noncomputable def p189 : PF := q189.1
@[reducible] noncomputable def q190 : Q 190 := ⟨⟨129, [1, 1, 1, 1, 1], _, _⟩, pf_of tp.2 Tryz.func190 (h := h190) rfl rfl rfl rfl (pS pA (pS (pS pA (pD (pS pA pR) pK)) (pS (pX (.o 0 (.o 1 (.o 2 (.o 3 (.o 4 (.o 5 (.o 6 (.o 7 (.o 8 (.o 9 (.o 10 (.o 11 (.o 12 (.a (.l 13 [12,9,7,5,3,1] (.l 14 [12,9,7,5,3,1] (.l 15 [12,9,7] (.l 16 [] .f)))) (.l 14 [12,9,7,5,3,1] (.l 13 [12,9,7,5,3,1] (.l 15 [12,9,7] (.l 16 [] .f))))))))))))))))))) (pS (pS pA (pB (pS pA (pD (pS pA (pS (pS pA (pD (pS pA pR) pK)) (pS pA (pS pA (pS pA (pS pA (pS pA pR))))))) (pS pA (pD (pS pA (pS (pS pA (pB (pL (pS (pS pA (pD pK pE)) (pS (pB (pX (.o 0 (.o 1 (.o 2 (.o 3 (.o 4 (.o 5 (.o 6 (.o 7 (.o 8 (.o 9 (.o 10 (.o 11 (.o 12 (.o 13 (.l 14 [] (.o 15 (.o 16 .f))))))))))))))))))) pA))))) (pS pA (pS (pS pA (pD (pS pA pR) pK)) (pS pA (pS pA pR)))))) pK)))))) (pS pA (pS (pS pA (pD (pS pA pR) pK)) (pS pA (pS pA pR))))))))⟩
@[reducible] noncomputable def p190 : PF := q190.1
@[reducible] noncomputable def qb190_0 : QB q190.1 0 := ⟨_, by cbv⟩
@[reducible] noncomputable def b190_0 : C := qb190_0.1
end Go.Proofs.YtbolhfegdocpeaaGreat.Ow
