/- The texts of the functions: part 2. -/
import Derived.Test.YtbolhfegdocpeaaGreatPFa
import Derived.Test.YtbolhfegdocpeaaGreatProg
import Derived.KernelRfl
namespace Go.Proofs.YtbolhfegdocpeaaGreat.Ow
open Go
set_option maxRecDepth 100000
set_option maxHeartbeats 8000000
@[reducible] noncomputable def q63 : Q 63 := ⟨⟨75, [], _, _⟩, pf_of tp.2 Tryz.func63 (h := h63) rfl rfl rfl rfl (pS pA (pS (pS pA (pD (pS pA pR) pK)) (pS (pS pA (pB (pL (pS pA (pS (pD pK pE) (pS (pB (pS pA (pS pA (pD (pS pA pR) pK)))) pA)))))) (pS (pS pA (pB (pL (pS pA (pS (pD pK pE) (pS (pB (pS pA (pS pA (pB (pL (pS pA (pS (pD pK pE) (pS (pB (pS pA (pS pA (pD (pS pA pR) pK)))) pA)))))))) pA)))))) (pS pA pR)))))⟩
@[reducible] noncomputable def p63 : PF := q63.1
@[reducible] noncomputable def qb63_0 : QB q63.1 2 := ⟨_, by cbv⟩
@[reducible] noncomputable def b63_0 : C := qb63_0.1
@[reducible] noncomputable def qb63_1 : QB q63.1 1 := ⟨_, by cbv⟩
@[reducible] noncomputable def b63_1 : C := qb63_1.1
@[reducible] noncomputable def qb63_2 : QB q63.1 0 := ⟨_, by cbv⟩
@[reducible] noncomputable def b63_2 : C := qb63_2.1
@[reducible] noncomputable def q64 : Q 64 := ⟨⟨5, [], _, _⟩, pf_of tp.2 Tryz.func64 (h := h64) rfl rfl rfl rfl (pS pA (pS pA pR))⟩
@[reducible] noncomputable def p64 : PF := q64.1
@[reducible] noncomputable def q65 : Q 65 := ⟨⟨5, [], _, _⟩, pf_of tp.2 Tryz.func65 (h := h65) rfl rfl rfl rfl (pS pA (pS pA pR))⟩
@[reducible] noncomputable def p65 : PF := q65.1
@[reducible] noncomputable def q66 : Q 66 := ⟨⟨34, [1], _, _⟩, pf_of tp.2 Tryz.func66 (h := h66) rfl rfl rfl rfl (pS pA (pS pA (pS (pS pA (pB (pS pA (pD pA (pS pA (pD (pX (.o 0 (.o 1 (.o 2 (.l 3 [1] (.l 4 [1] (.l 5 [] (.o 6 (.l 7 [] .f))))))))) (pS pA (pD (pS pA (pD (pX (.o 0 (.o 1 (.o 2 (.l 3 [1] (.o 4 (.l 5 [] .f))))))) pK)) pK)))))))) (pS pA pR))))⟩
@[reducible] noncomputable def p66 : PF := q66.1
@[reducible] noncomputable def q67 : Q 67 := ⟨⟨9, [1], _, _⟩, pf_of tp.2 Tryz.func67 (h := h67) rfl rfl rfl rfl (pS pA (pS pA pR))⟩
@[reducible] noncomputable def p67 : PF := q67.1
@[reducible] noncomputable def q68 : Q 68 := ⟨⟨37, [1], _, _⟩, pf_of tp.2 Tryz.func68 (h := h68) rfl rfl rfl rfl (pS pA (pS (pS pA (pD (pS pA pR) pK)) (pS (pS pA (pD (pS pA pR) pK)) (pS pA (pS pA (pS pA (pS pA (pS pA pR))))))))⟩
@[reducible] noncomputable def p68 : PF := q68.1
@[reducible] noncomputable def q69 : Q 69 := ⟨⟨15, [], _, _⟩, pf_of tp.2 Tryz.func69 (h := h69) rfl rfl rfl rfl (pS pA (pS pA pR))⟩
@[reducible] noncomputable def p69 : PF := q69.1
@[reducible] noncomputable def q70 : Q 70 := ⟨⟨22, [], _, _⟩, pf_of tp.2 Tryz.func70 (h := h70) rfl rfl rfl rfl (pS pA (pS pA pR))⟩
@[reducible] noncomputable def p70 : PF := q70.1
@[reducible] noncomputable def q71 : Q 71 := ⟨⟨9, [], _, _⟩, pf_of tp.2 Tryz.func71 (h := h71) rfl rfl rfl rfl (pS pA (pS pA pR))⟩
@[reducible] noncomputable def p71 : PF := q71.1
@[reducible] noncomputable def q72 : Q 72 := ⟨⟨31, [], _, _⟩, pf_of tp.2 Tryz.func72 (h := h72) rfl rfl rfl rfl (pS pA (pS (pS pA (pB (pL (pS (pS pA (pD pK pE)) (pS (pB (pS pA (pD (pS pA pR) pK))) pA))))) (pS pA pR)))⟩
@[reducible] noncomputable def p72 : PF := q72.1
@[reducible] noncomputable def qb72_0 : QB q72.1 0 := ⟨_, by cbv⟩
@[reducible] noncomputable def b72_0 : C := qb72_0.1
@[reducible] noncomputable def q73 : Q 73 := ⟨⟨18, [], _, _⟩, pf_of tp.2 Tryz.func73 (h := h73) rfl rfl rfl rfl (pS pA (pS (pS pA (pB (pL (pS (pS pA (pD pK pE)) (pS (pB (pS pA (pD (pS pA pR) pK))) pA))))) (pS pA pR)))⟩
@[reducible] noncomputable def p73 : PF := q73.1
@[reducible] noncomputable def qb73_0 : QB q73.1 0 := ⟨_, by cbv⟩
@[reducible] noncomputable def b73_0 : C := qb73_0.1
@[reducible] noncomputable def q74 : Q 74 := ⟨⟨28, [], _, _⟩, pf_of tp.2 Tryz.func74 (h := h74) rfl rfl rfl rfl (pS pA (pS pA (pS (pS pA (pD (pS pA pR) pK)) (pS pA pR))))⟩
@[reducible] noncomputable def p74 : PF := q74.1
@[reducible] noncomputable def q75 : Q 75 := ⟨⟨12, [1, 1], _, _⟩, pf_of tp.2 Tryz.func75 (h := h75) rfl rfl rfl rfl (pS pA (pS pA pR))⟩
@[reducible] noncomputable def p75 : PF := q75.1
@[reducible] noncomputable def q76 : Q 76 := ⟨⟨13, [], _, _⟩, pf_of tp.2 Tryz.func76 (h := h76) rfl rfl rfl rfl (pS pA (pS pA pR))⟩
@[reducible] noncomputable def p76 : PF := q76.1
@[reducible] noncomputable def q78 : Q 78 := ⟨⟨22, [], _, _⟩, pf_of tp.2 Tryz.func78 (h := h78) rfl rfl rfl rfl (pS pA (pS pA (pS pA pR)))⟩
@[reducible] noncomputable def p78 : PF := q78.1
@[reducible] noncomputable def q79 : Q 79 := ⟨⟨32, [], _, _⟩, pf_of tp.2 Tryz.func79 (h := h79) rfl rfl rfl rfl (pS pA (pS pA (pS pA (pS pA pR))))⟩
@[reducible] noncomputable def p79 : PF := q79.1
@[reducible] noncomputable def q80 : Q 80 := ⟨⟨41, [], _, _⟩, pf_of tp.2 Tryz.func80 (h := h80) rfl rfl rfl rfl (pS pA (pS (pS pA (pD (pS pA pR) pK)) (pS pA pR)))⟩
@[reducible] noncomputable def p80 : PF := q80.1
@[reducible] noncomputable def q81 : Q 81 := ⟨⟨2, [], _, _⟩, pf_of tp.2 Tryz.func81 (h := h81) rfl rfl rfl rfl (pS pA (pS pA pR))⟩
@[reducible] noncomputable def p81 : PF := q81.1
@[reducible] noncomputable def q82 : Q 82 := ⟨⟨79, [1], _, _⟩, pf_of tp.2 Tryz.func82 (h := h82) rfl rfl rfl rfl (pS pA (pS pA (pS (pS pA (pB (pS pA (pD pA (pS pA (pD pA (pS pA (pD pA (pS pA (pD (pX (.o 0 (.o 1 (.o 2 (.o 4 (.l 3 [1] (.l 5 [1] (.o 6 (.l 7 [] .f))))))))) (pS pA (pD (pX (.o 0 (.o 1 (.o 2 (.o 4 (.l 3 [1] (.l 5 [1] (.o 6 (.l 7 [] .f))))))))) (pS pA (pD (pX (.o 0 (.o 1 (.o 2 (.o 4 (.l 3 [1] (.l 5 [1] (.o 6 (.l 7 [] .f))))))))) (pS pA (pD (pX (.o 0 (.o 1 (.o 2 (.l 3 [1] (.l 4 [1] (.l 5 [1] (.l 6 [] (.o 7 (.l 8 [] .f)))))))))) (pS pA (pD pA (pS pA (pD pA (pS pA (pD pA pK)))))))))))))))))))))) (pS pA pR))))⟩
@[reducible] noncomputable def p82 : PF := q82.1
@[reducible] noncomputable def q83 : Q 83 := ⟨⟨11, [1], _, _⟩, pf_of tp.2 Tryz.func83 (h := h83) rfl rfl rfl rfl (pS pA (pS pA (pS pA pR)))⟩
@[reducible] noncomputable def p83 : PF := q83.1
@[reducible] noncomputable def q84 : Q 84 := ⟨⟨109, [1], _, _⟩, pf_of tp.2 Tryz.func84 (h := h84) rfl rfl rfl rfl (pS pA (pS pA (pS (pS pA (pB (pS pA (pD (pX (.o 0 (.o 1 (.o 2 (.o 4 (.l 3 [1] (.l 5 [1] (.o 6 (.l 7 [] .f))))))))) (pS pA (pD (pX (.o 0 (.o 1 (.o 2 (.o 4 (.o 7 (.l 3 [1] (.l 5 [1] (.o 6 (.l 8 [1] (.l 9 [1] (.o 10 (.l 11 [1] (.l 12 [] (.o 13 (.l 14 [] .f)))))))))))))))) (pS pA (pD (pX (.o 0 (.o 1 (.o 2 (.o 5 (.l 3 [1] (.o 4 (.l 6 [1] (.o 7 (.l 8 [1] (.l 9 [] (.o 10 (.l 11 [] .f))))))))))))) (pS pA (pD (pX (.o 0 (.o 1 (.o 2 (.l 3 [1] (.l 4 [1] (.l 5 [] (.o 6 (.l 7 [] .f))))))))) (pS pA (pD pA (pS pA (pD (pX (.o 0 (.o 1 (.o 2 (.o 3 (.o 4 (.o 5 (.o 6 (.o 7 (.o 8 (.o 9 (.o 10 (.o 11 (.l 12 [6,3,1] (.l 13 [1] (.o 14 (.o 15 (.l 16 [] .f)))))))))))))))))) (pS pA (pD (pS (pX (.o 0 (.o 1 (.o 2 (.o 3 (.o 4 (.o 5 (.o 6 (.o 7 (.o 8 (.o 9 (.o 10 (.o 11 (.l 12 [] .f)))))))))))))) (pX (.o 0 (.o 1 (.o 2 (.o 3 (.o 4 (.o 5 (.o 6 (.o 7 (.o 8 (.o 9 (.o 10 (.o 11 (.l 12 [1] (.o 13 (.o 14 (.l 15 [] .f)))))))))))))))))) pK)))))))))))))))) (pS pA pR))))⟩
@[reducible] noncomputable def p84 : PF := q84.1
@[reducible] noncomputable def q85 : Q 85 := ⟨⟨45, [], _, _⟩, pf_of tp.2 Tryz.func85 (h := h85) rfl rfl rfl rfl (pS pA (pS pA (pS (pB (pS pA (pD (pS pA pR) (pS pA (pD (pS pA pR) (pS pA (pD (pS pA pR) (pS pA (pD (pS pA pR) (pS (pX (.o 0 (.o 1 (.o 2 (.o 3 (.o 4 (.o 5 (.o 6 (.o 7 (.o 8 (.o 9 (.o 10 (.o 11 (.o 12 (.o 13 (.o 14 (.o 15 (.o 16 (.o 17 (.o 18 .f)))))))))))))))))))) (pD (pS pA pR) pK))))))))))) (pS pA pR))))⟩
@[reducible] noncomputable def p85 : PF := q85.1
@[reducible] noncomputable def q86 : Q 86 := ⟨⟨5, [], _, _⟩, pf_of tp.2 Tryz.func86 (h := h86) rfl rfl rfl rfl (pS pA (pS pA pR))⟩
@[reducible] noncomputable def p86 : PF := q86.1
@[reducible] noncomputable def q87 : Q 87 := ⟨⟨51, [], _, _⟩, pf_of tp.2 Tryz.func87 (h := h87) rfl rfl rfl rfl (pS pA (pS pA (pS (pS pA (pB (pL (pS (pS pA (pD pK pE)) (pS (pB pA) pA))))) (pS pA (pS (pB (pS pA (pD (pS pA pR) (pS pA (pD (pS pA pR) (pS pA (pD (pS pA pR) (pS pA (pD (pS pA pR) (pS pA (pD (pS pA pR) pK))))))))))) (pS pA pR))))))⟩
@[reducible] noncomputable def p87 : PF := q87.1
@[reducible] noncomputable def qb87_0 : QB q87.1 0 := ⟨_, by cbv⟩
@[reducible] noncomputable def b87_0 : C := qb87_0.1
@[reducible] noncomputable def q88 : Q 88 := ⟨⟨164, [], _, _⟩, pf_of tp.2 Tryz.func88 (h := h88) rfl rfl rfl rfl (pS pA (pS (pS pA (pD (pS pA pR) pK)) (pS (pS pA (pS pA (pD (pS pA pR) pK))) (pS (pS pA (pB (pL (pS pA (pS (pD pK pE) (pS (pB (pS pA (pS pA (pS pA (pD (pS pA pR) pK))))) pA)))))) (pS (pS pA (pB (pL (pS pA (pS (pD pK pE) (pS (pB (pS pA (pS pA (pD (pS pA pR) pK)))) pA)))))) (pS pA pR))))))⟩
@[reducible] noncomputable def p88 : PF := q88.1
@[reducible] noncomputable def qb88_0 : QB q88.1 1 := ⟨_, by cbv⟩
@[reducible] noncomputable def b88_0 : C := qb88_0.1
@[reducible] noncomputable def qb88_1 : QB q88.1 0 := ⟨_, by cbv⟩
@[reducible] noncomputable def b88_1 : C := qb88_1.1
@[reducible] noncomputable def q89 : Q 89 := ⟨⟨99, [], _, _⟩, pf_of tp.2 Tryz.func89 (h := h89) rfl rfl rfl rfl (pS pA (pS (pS pA (pD (pS pA pR) pK)) (pS (pS pA (pB (pL (pS (pS pA (pD pK pE)) (pS (pB (pS (pX (.o 0 (.o 1 (.o 2 (.o 3 (.o 4 (.l 5 [] (.o 6 (.o 7 (.o 8 (.o 9 (.o 10 (.o 11 (.o 12 (.o 13 (.o 14 (.o 15 (.o 16 (.o 17 (.o 18 (.o 19 (.o 20 (.o 21 (.o 22 (.o 23 (.o 24 .f)))))))))))))))))))))))))) (pD (pS pA pR) pK))) pA))))) (pS pA (pS pA pR)))))⟩
@[reducible] noncomputable def p89 : PF := q89.1
@[reducible] noncomputable def qb89_0 : QB q89.1 0 := ⟨_, by cbv⟩
@[reducible] noncomputable def b89_0 : C := qb89_0.1
@[reducible] noncomputable def q90 : Q 90 := ⟨⟨4, [], _, _⟩, pf_of tp.2 Tryz.func90 (h := h90) rfl rfl rfl rfl (pS pA (pS (pS pA (pD (pS pA pR) pK)) (pS pA pR)))⟩
@[reducible] noncomputable def p90 : PF := q90.1
@[reducible] noncomputable def q91 : Q 91 := ⟨⟨2, [], _, _⟩, pf_of tp.2 Tryz.func91 (h := h91) rfl rfl rfl rfl (pS pA (pS pA pR))⟩
@[reducible] noncomputable def p91 : PF := q91.1
@[reducible] noncomputable def q92 : Q 92 := ⟨⟨20, [], _, _⟩, pf_of tp.2 Tryz.func92 (h := h92) rfl rfl rfl rfl (pS pA (pS pA (pS (pS pA (pD pA pK)) (pS pA pR))))⟩
@[reducible] noncomputable def p92 : PF := q92.1
@[reducible] noncomputable def q93 : Q 93 := ⟨⟨28, [1], _, _⟩, pf_of tp.2 Tryz.func93 (h := h93) rfl rfl rfl rfl (pS pA (pB (pL (pS (pS pA (pD pK pE)) (pS (pB (pX (.o 0 (.o 1 (.o 2 (.o 3 (.o 4 (.o 5 (.o 6 (.o 7 (.o 8 (.o 9 (.o 10 (.o 11 (.o 12 (.l 13 [] (.o 14 (.l 15 [] .f)))))))))))))))))) pA)))))⟩
@[reducible] noncomputable def p93 : PF := q93.1
@[reducible] noncomputable def qb93_0 : QB q93.1 0 := ⟨_, by cbv⟩
@[reducible] noncomputable def b93_0 : C := qb93_0.1
@[reducible] noncomputable def q94 : Q 94 := ⟨⟨2, [], _, _⟩, pf_of tp.2 Tryz.func94 (h := h94) rfl rfl rfl rfl (pS pA (pS pA pR))⟩
@[reducible] noncomputable def p94 : PF := q94.1
@[reducible] noncomputable def q95 : Q 95 := ⟨⟨21, [], _, _⟩, pf_of tp.2 Tryz.func95 (h := h95) rfl rfl rfl rfl (pS pA (pS pA (pS (pS pA (pD pA pK)) (pS pA pR))))⟩
@[reducible] noncomputable def p95 : PF := q95.1
@[reducible] noncomputable def q96 : Q 96 := ⟨⟨37, [1], _, _⟩, pf_of tp.2 Tryz.func96 (h := h96) rfl rfl rfl rfl (pS pA (pS pA (pS (pS pA (pB (pL (pS (pS pA (pD pK pE)) (pS (pB pA) pA))))) (pS (pS pA (pB (pS pA (pD (pS pA pR) (pS pA (pD pA (pS pA (pD (pS pA pR) pK)))))))) (pS pA pR)))))⟩
@[reducible] noncomputable def p96 : PF := q96.1
@[reducible] noncomputable def qb96_0 : QB q96.1 0 := ⟨_, by cbv⟩
@[reducible] noncomputable def b96_0 : C := qb96_0.1
@[reducible] noncomputable def q97 : Q 97 := ⟨⟨87, [], _, _⟩, pf_of tp.2 Tryz.func97 (h := h97) rfl rfl rfl rfl (pS pA (pS (pS pA (pB (pL (pS (pS pA (pD pK pE)) (pS (pB (pS pA (pB (pL (pS (pS pA (pD pK pE)) (pS (pB (pS (pX (.o 0 (.o 1 (.o 2 (.o 3 (.o 4 (.o 5 (.o 6 (.o 7 (.o 8 (.o 9 (.o 10 (.o 11 (.o 12 (.o 13 (.o 14 (.o 15 (.o 16 (.o 17 (.o 18 .f)))))))))))))))))))) (pD (pS pA pR) pK))) pA)))))) pA))))) (pS (pS pA (pB (pL (pS (pS pA (pD pK pE)) (pS (pB (pS pA (pS (pX (.o 0 (.o 1 (.l 2 [] (.o 3 (.o 4 (.o 5 (.o 6 (.l 7 [] (.o 8 (.o 9 (.o 10 (.o 11 (.o 12 (.o 13 (.o 14 (.o 15 (.o 16 (.o 17 (.o 18 (.o 19 (.o 20 (.o 21 (.o 22 (.o 23 (.o 24 (.o 25 (.o 26 (.o 27 (.o 28 (.o 29 (.o 30 (.o 31 (.o 32 (.o 33 (.o 34 (.o 35 (.o 36 .f)))))))))))))))))))))))))))))))))))))) (pD (pS pA pR) pK)))) pA))))) (pS pA pR))))⟩
@[reducible] noncomputable def p97 : PF := q97.1
@[reducible] noncomputable def qb97_0 : QB q97.1 2 := ⟨_, by cbv⟩
@[reducible] noncomputable def b97_0 : C := qb97_0.1
@[reducible] noncomputable def qb97_1 : QB q97.1 1 := ⟨_, by cbv⟩
@[reducible] noncomputable def b97_1 : C := qb97_1.1
@[reducible] noncomputable def qb97_2 : QB q97.1 0 := ⟨_, by cbv⟩
@[reducible] noncomputable def b97_2 : C := qb97_2.1
@[reducible] noncomputable def q98 : Q 98 := ⟨⟨9, [], _, _⟩, pf_of tp.2 Tryz.func98 (h := h98) rfl rfl rfl rfl (pS pA (pS pA pR))⟩
@[reducible] noncomputable def p98 : PF := q98.1
@[reducible] noncomputable def q99 : Q 99 := ⟨⟨9, [], _, _⟩, pf_of tp.2 Tryz.func99 (h := h99) rfl rfl rfl rfl (pS pA (pS pA pR))⟩
@[reducible] noncomputable def p99 : PF := q99.1
@[reducible] noncomputable def q100 : Q 100 := ⟨⟨66, [1], _, _⟩, pf_of tp.2 Tryz.func100 (h := h100) rfl rfl rfl rfl (pS pA (pS pA (pS pA (pS (pS pA (pB (pL (pS (pS pA (pD pK pE)) (pS (pB (pS pA (pS (pS pA (pD pA pK)) (pS (pS pA (pD (pS (pX (.o 0 (.o 1 (.o 2 (.o 3 (.o 5 (.l 4 [2,0] (.l 6 [2,0] (.l 7 [] (.o 8 (.o 9 (.o 10 (.l 11 [] .f))))))))))))) pE) pK)) (pS pA (pS pA (pD pA pK))))))) pA))))) (pS pA pR)))))⟩
@[reducible] noncomputable def p100 : PF := q100.1
@[reducible] noncomputable def qb100_0 : QB q100.1 0 := ⟨_, by cbv⟩
@[reducible] noncomputable def b100_0 : C := qb100_0.1
@[reducible] noncomputable def q101 : Q 101 := ⟨⟨23, [1], _, _⟩, pf_of tp.2 Tryz.func101 (h := h101) rfl rfl rfl rfl (pS pA (pS pA (pS (pS pA (pD pA pK)) (pS pA (pS (pS pA (pB (pL (pS (pS pA (pD pK pE)) (pS (pB pA) pA))))) (pS pA pR))))))⟩
@[reducible] noncomputable def p101 : PF := q101.1
@[reducible] noncomputable def qb101_0 : QB q101.1 0 := ⟨_, by cbv⟩
@[reducible] noncomputable def b101_0 : C := qb101_0.1
@[reducible] noncomputable def q102 : Q 102 := ⟨⟨58, [1], _, _⟩, pf_of tp.2 Tryz.func102 (h := h102) rfl rfl rfl rfl (pS pA (pS pA (pS (pX (.o 0 (.o 1 (.o 2 (.o 3 (.o 4 (.o 5 (.o 6 (.o 7 (.o 8 (.o 9 (.o 10 (.o 11 (.o 12 .f)))))))))))))) (pS (pS (pX (.o 0 (.o 1 (.o 2 (.o 3 (.o 4 (.o 5 (.o 6 (.o 7 (.o 8 (.o 9 .f))))))))))) (pD (pS (pX (.o 0 (.o 1 (.o 2 (.o 3 (.o 4 (.o 5 (.o 6 (.o 7 (.o 8 (.o 9 (.o 10 (.o 11 (.o 12 (.o 13 (.o 14 .f)))))))))))))))) pA) pK)) (pS pA pR)))))⟩
@[reducible] noncomputable def p102 : PF := q102.1
@[reducible] noncomputable def q103 : Q 103 := ⟨⟨9, [], _, _⟩, pf_of tp.2 Tryz.func103 (h := h103) rfl rfl rfl rfl (pS pA (pS pA pR))⟩
@[reducible] noncomputable def p103 : PF := q103.1
@[reducible] noncomputable def q104 : Q 104 := ⟨⟨6, [], _, _⟩, pf_of tp.2 Tryz.func104 (h := h104) rfl rfl rfl rfl (pS pA (pS pA pR))⟩
@[reducible] noncomputable def p104 : PF := q104.1
@[reducible] noncomputable def q105 : Q 105 := ⟨⟨6, [], _, _⟩, pf_of tp.2 Tryz.func105 (h := h105) rfl rfl rfl rfl (pS pA (pS pA pR))⟩
@[reducible] noncomputable def p105 : PF := q105.1
@[reducible] noncomputable def q106 : Q 106 := ⟨⟨8, [], _, _⟩, pf_of tp.2 Tryz.func106 (h := h106) rfl rfl rfl rfl (pS pA (pS pA pR))⟩
@[reducible] noncomputable def p106 : PF := q106.1
@[reducible] noncomputable def q107 : Q 107 := ⟨⟨9, [], _, _⟩, pf_of tp.2 Tryz.func107 (h := h107) rfl rfl rfl rfl (pS pA (pS pA pR))⟩
@[reducible] noncomputable def p107 : PF := q107.1
@[reducible] noncomputable def q108 : Q 108 := ⟨⟨6, [], _, _⟩, pf_of tp.2 Tryz.func108 (h := h108) rfl rfl rfl rfl (pS pA (pS pA pR))⟩
@[reducible] noncomputable def p108 : PF := q108.1
@[reducible] noncomputable def q109 : Q 109 := ⟨⟨2, [], _, _⟩, pf_of tp.2 Tryz.func109 (h := h109) rfl rfl rfl rfl (pS pA (pS pA pR))⟩
@[reducible] noncomputable def p109 : PF := q109.1
@[reducible] noncomputable def q110 : Q 110 := ⟨⟨10, [], _, _⟩, pf_of tp.2 Tryz.func110 (h := h110) rfl rfl rfl rfl (pS pA (pS (pS pA (pD (pS pA pR) pK)) (pS pA pR)))⟩
@[reducible] noncomputable def p110 : PF := q110.1
@[reducible] noncomputable def q111 : Q 111 := ⟨⟨10, [], _, _⟩, pf_of tp.2 Tryz.func111 (h := h111) rfl rfl rfl rfl (pS pA (pS (pS pA (pD (pS pA pR) pK)) (pS pA pR)))⟩
@[reducible] noncomputable def p111 : PF := q111.1
@[reducible] noncomputable def q112 : Q 112 := ⟨⟨12, [1], _, _⟩, pf_of tp.2 Tryz.func112 (h := h112) rfl rfl rfl rfl (pS pA (pS pA (pS (pX (.o 0 (.o 1 (.o 2 (.l 3 [1] (.o 4 (.o 5 (.l 6 [] .f)))))))) pR)))⟩
@[reducible] noncomputable def p112 : PF := q112.1
@[reducible] noncomputable def q113 : Q 113 := ⟨⟨47, [1], _, _⟩, pf_of tp.2 Tryz.func113 (h := h113) rfl rfl rfl rfl (pS pA (pS pA (pS (pS pA (pB (pS pA (pD (pX (.o 0 (.o 1 (.o 2 (.l 3 [1] (.l 4 [1] (.l 5 [1] (.l 6 [] (.o 7 (.l 8 [] .f)))))))))) (pS pA (pD (pX (.o 0 (.o 1 (.o 2 (.o 4 (.l 3 [1] (.l 5 [1] (.o 6 (.l 7 [] .f))))))))) (pS pA (pD pA (pS pA (pD (pS pA pA) (pS pA (pD pA (pS pA (pD pA pK)))))))))))))) (pS pA pR))))⟩
@[reducible] noncomputable def p113 : PF := q113.1
@[reducible] noncomputable def q114 : Q 114 := ⟨⟨30, [1], _, _⟩, pf_of tp.2 Tryz.func114 (h := h114) rfl rfl rfl rfl (pS pA (pS pA (pS (pS pA (pB (pS pA (pD pA (pS pA (pD pA (pS pA (pD pA pK)))))))) (pS pA pR))))⟩
@[reducible] noncomputable def p114 : PF := q114.1
@[reducible] noncomputable def q115 : Q 115 := ⟨⟨25, [1], _, _⟩, pf_of tp.2 Tryz.func115 (h := h115) rfl rfl rfl rfl (pS pA (pS pA (pS (pS pA (pB (pL (pS (pS pA (pD pK pE)) (pS (pB pA) pA))))) (pS (pS pA (pD (pS pA pR) pK)) (pS pA pR)))))⟩
@[reducible] noncomputable def p115 : PF := q115.1
@[reducible] noncomputable def qb115_0 : QB q115.1 0 := ⟨_, by cbv⟩
@[reducible] noncomputable def b115_0 : C := qb115_0.1
@[reducible] noncomputable def q116 : Q 116 := ⟨⟨73, [1], _, _⟩, pf_of tp.2 Tryz.func116 (h := h116) rfl rfl rfl rfl (pS pA (pS pA (pS pA (pS pA (pS (pS pA (pB (pL (pS (pS pA (pD pK pE)) (pS (pB (pS pA (pS (pS pA (pD pA pK)) (pS (pS pA (pD pA pK)) (pS (pS pA (pD pA pK)) (pS pA (pS pA (pS pA (pD pA pK))))))))) pA))))) (pS (pX (.o 0 (.o 1 (.o 2 (.l 3 [] .f))))) pR))))))⟩
@[reducible] noncomputable def p116 : PF := q116.1
@[reducible] noncomputable def qb116_0 : QB q116.1 0 := ⟨_, by cbv⟩
@[reducible] noncomputable def b116_0 : C := qb116_0.1
@[reducible] noncomputable def q117 : Q 117 := ⟨⟨21, [], _, _⟩, pf_of tp.2 Tryz.func117 (h := h117) rfl rfl rfl rfl (pS pA (pS (pS pA (pD (pS pA pR) pK)) (pS pA (pS pA (pS pA pR)))))⟩
@[reducible] noncomputable def p117 : PF := q117.1
@[reducible] noncomputable def q118 : Q 118 := ⟨⟨32, [1], _, _⟩, pf_of tp.2 Tryz.func118 (h := h118) rfl rfl rfl rfl (pS pA (pS pA (pS (pS pA (pD (pS pA (pS pA (pS pA pR))) pK)) (pS pA (pS pA (pS (pS pA (pD pA pK)) (pS pA pR)))))))⟩
@[reducible] noncomputable def p118 : PF := q118.1
@[reducible] noncomputable def q119 : Q 119 := ⟨⟨39, [], _, _⟩, pf_of tp.2 Tryz.func119 (h := h119) rfl rfl rfl rfl (pS pA (pS pA (pS pA (pS (pS pA (pD (pS pA pR) pK)) (pS (pS pA (pD pA pA)) (pS pA pR))))))⟩
@[reducible] noncomputable def p119 : PF := q119.1
@[reducible] noncomputable def q120 : Q 120 := ⟨⟨23, [], _, _⟩, pf_of tp.2 Tryz.func120 (h := h120) rfl rfl rfl rfl (pS pA (pS pA (pS (pS pA (pB (pL (pS pA (pS (pD pK pE) (pS (pB (pS pA (pS pA (pD pA pK)))) pA)))))) (pS pA pR))))⟩
@[reducible] noncomputable def p120 : PF := q120.1
@[reducible] noncomputable def qb120_0 : QB q120.1 0 := ⟨_, by cbv⟩
@[reducible] noncomputable def b120_0 : C := qb120_0.1
@[reducible] noncomputable def q121 : Q 121 := ⟨⟨9, [], _, _⟩, pf_of tp.2 Tryz.func121 (h := h121) rfl rfl rfl rfl (pS pA (pS pA pR))⟩
@[reducible] noncomputable def p121 : PF := q121.1
@[reducible] noncomputable def q123 : Q 123 := ⟨⟨24, [], _, _⟩, pf_of tp.2 Tryz.func123 (h := h123) rfl rfl rfl rfl (pS pA (pS (pS pA (pB (pL (pS (pS pA (pD pK pE)) (pS (pB (pS pA (pD (pS pA pR) pK))) pA))))) (pS pA pR)))⟩
@[reducible] noncomputable def p123 : PF := q123.1
@[reducible] noncomputable def qb123_0 : QB q123.1 0 := ⟨_, by cbv⟩
@[reducible] noncomputable def b123_0 : C := qb123_0.1
@[reducible] noncomputable def q124 : Q 124 := ⟨⟨11, [], _, _⟩, pf_of tp.2 Tryz.func124 (h := h124) rfl rfl rfl rfl (pS pA (pS pA pR))⟩
@[reducible] noncomputable def p124 : PF := q124.1
end Go.Proofs.YtbolhfegdocpeaaGreat.Ow
