/- The texts of the functions: part 1. -/
import Derived.Test.YtbolhfegdocpeaaGreatPFa
import Derived.Test.YtbolhfegdocpeaaGreatProg
import Derived.KernelRfl
namespace Go.Proofs.YtbolhfegdocpeaaGreat.Ow
open Go
set_option maxRecDepth 100000
set_option maxHeartbeats 8000000
@[reducible] noncomputable def q3 : Q 3 := ⟨⟨156, [], _, _⟩, pf_of tp.2 Tryz.func3 (h := h3) rfl rfl rfl rfl (pS pA (pS (pS pA (pD (pS pA pR) pK)) (pS pA (pS pA (pS pA (pS pA (pS pA (pS pA (pS pA (pS pA (pS (pS (pX (.o 0 (.o 1 (.o 2 (.o 3 (.o 4 (.o 5 (.o 6 (.o 7 (.o 8 (.o 9 (.o 10 (.o 11 (.o 12 (.o 13 (.o 14 (.l 15 [] (.o 16 (.o 17 (.o 18 (.o 19 (.o 20 (.o 22 (.o 23 (.l 21 [23,22] (.l 24 [] (.o 25 (.o 26 (.o 27 (.o 28 (.o 29 (.o 30 (.o 31 (.o 32 (.o 33 (.o 34 (.o 35 (.o 36 (.o 37 (.o 38 (.o 40 (.l 39 [40] (.l 41 [] (.o 42 (.o 43 .f))))))))))))))))))))))))))))))))))))))))))))) (pD (pS pA pR) pK)) (pS (pS pA (pD (pS pA (pS pA (pD (pS pA pR) pK))) pK)) (pS (pS pA (pD (pS pA pR) pK)) (pS pA (pS pA pR)))))))))))))))⟩
@[reducible] noncomputable def p3 : PF := q3.1
@[reducible] noncomputable def q4 : Q 4 := ⟨⟨98, [], _, _⟩, pf_of tp.2 Tryz.func4 (h := h4) rfl rfl rfl rfl (pS pA (pS (pS pA (pD (pS pA pR) pK)) (pS pA (pS pA (pS (pS pA (pD (pS pA pR) pK)) (pS (pS pA (pB (pL (pS (pS pA (pD pK pE)) (pS (pB (pS (pX (.o 0 (.o 1 (.o 2 (.o 3 (.o 4 (.o 5 (.o 6 (.o 7 (.o 8 (.o 9 (.o 11 (.o 12 (.o 13 (.o 14 (.o 15 (.o 16 (.o 17 (.o 18 (.o 19 (.o 20 (.l 10 [20,15,12] (.l 21 [] (.o 22 .f)))))))))))))))))))))))) (pD (pS pA pR) pK))) pA))))) (pS (pS pA (pD (pS pA pR) pK)) (pS pA (pS (pX (.o 0 (.o 1 (.o 2 (.o 3 (.o 4 (.o 5 (.o 6 (.o 7 (.o 8 (.o 9 (.o 10 (.o 11 (.o 12 (.o 13 (.o 14 (.o 15 (.o 16 (.o 17 (.o 18 (.o 19 (.l 20 [] (.o 21 (.o 22 (.o 23 (.o 24 (.o 25 (.o 26 (.o 27 (.o 28 (.o 30 (.o 31 (.o 32 (.o 33 (.l 29 [32] (.o 34 (.o 35 (.o 36 .f)))))))))))))))))))))))))))))))))))))) pR)))))))))⟩
@[reducible] noncomputable def p4 : PF := q4.1
@[reducible] noncomputable def qb4_0 : QB q4.1 0 := ⟨_, by cbv⟩
@[reducible] noncomputable def b4_0 : C := qb4_0.1
@[reducible] noncomputable def q5 : Q 5 := ⟨⟨104, [], _, _⟩, pf_of tp.2 Tryz.func5 (h := h5) rfl rfl rfl rfl (pS pA (pS (pS pA (pD (pS pA pR) pK)) (pS pA (pS pA (pS pA (pS pA (pS pA (pS (pS (pX (.o 0 (.o 2 (.o 3 (.o 4 (.a (.l 1 [2] (.l 5 [] (.l 6 [] (.o 7 (.o 8 (.o 9 (.o 10 (.o 11 (.o 12 (.o 13 (.o 14 (.o 16 (.a (.l 15 [] (.l 17 [] (.o 18 (.o 19 .f)))) (.l 17 [] (.l 15 [] (.o 18 (.o 19 .f))))))))))))))))) (.l 5 [] (.a (.l 1 [] (.l 6 [] (.o 7 (.o 8 (.o 9 (.o 10 (.o 11 (.o 12 (.o 13 (.o 14 (.o 16 (.a (.l 15 [] (.l 17 [] (.o 18 (.o 19 .f)))) (.l 17 [] (.l 15 [] (.o 18 (.o 19 .f)))))))))))))))) (.l 6 [] (.l 1 [] (.o 7 (.o 8 (.o 9 (.o 10 (.o 11 (.o 12 (.o 13 (.o 14 (.o 16 (.a (.l 15 [] (.l 17 [] (.o 18 (.o 19 .f)))) (.l 17 [] (.l 15 [] (.o 18 (.o 19 .f)))))))))))))))))))))))) (pD (pS pA pR) pK)) (pS (pS pA (pD (pS pA pR) pK)) (pS pA (pS (pS pA (pB (pL (pS (pS pA (pD pK pE)) (pS (pB pA) pA))))) (pS (pX (.o 0 (.o 1 (.o 2 (.o 3 (.o 4 (.o 5 (.o 6 (.o 7 (.o 8 (.o 9 (.o 10 (.o 12 (.a (.l 11 [] (.l 13 [] (.o 14 (.o 15 (.o 16 .f))))) (.l 13 [] (.l 11 [] (.o 14 (.o 15 (.o 16 .f))))))))))))))))))) pR))))))))))))⟩
@[reducible] noncomputable def p5 : PF := q5.1
@[reducible] noncomputable def qb5_0 : QB q5.1 0 := ⟨_, by cbv⟩
@[reducible] noncomputable def b5_0 : C := qb5_0.1
@[reducible] noncomputable def q6 : Q 6 := ⟨⟨93, [], _, _⟩, pf_of tp.2 Tryz.func6 (h := h6) rfl rfl rfl rfl (pS pA (pS (pS pA (pD (pS pA pR) pK)) (pS pA (pS pA (pS pA (pS (pX (.o 0 (.o 2 (.l 1 [2] (.l 3 [] (.o 4 (.o 5 .f))))))) (pS (pS (pX (.o 0 (.o 2 (.l 1 [2] (.l 3 [] (.o 4 (.o 5 (.o 6 (.o 8 (.l 7 [8] (.l 9 [] (.o 10 (.o 11 (.o 12 (.o 13 (.o 14 (.o 16 (.o 17 (.l 15 [17,16] (.l 18 [] (.o 19 (.o 20 (.o 21 (.o 22 (.o 24 (.l 23 [24] (.l 25 [] (.o 26 (.o 27 (.o 28 (.o 29 (.o 30 (.o 31 (.o 32 (.o 33 (.o 34 .f)))))))))))))))))))))))))))))))))))) (pD (pS pA pR) pK)) (pS (pS pA (pB (pL (pS (pS pA (pD pK pE)) (pS (pB (pS (pX (.o 0 (.o 1 (.o 2 (.o 3 (.o 4 (.o 5 (.o 6 (.o 7 (.o 8 .f)))))))))) (pD (pS pA pR) pK))) pA))))) (pS (pX (.o 0 (.o 3 (.l 1 [3] (.o 2 (.l 4 [] (.o 5 (.o 6 (.o 7 (.o 8 (.o 9 (.o 10 (.o 11 (.o 12 .f)))))))))))))) pR)))))))))⟩
@[reducible] noncomputable def p6 : PF := q6.1
@[reducible] noncomputable def qb6_0 : QB q6.1 0 := ⟨_, by cbv⟩
@[reducible] noncomputable def b6_0 : C := qb6_0.1
@[reducible] noncomputable def q7 : Q 7 := ⟨⟨6, [], _, _⟩, pf_of tp.2 Tryz.func7 (h := h7) rfl rfl rfl rfl (pS pA (pS pA pR))⟩
@[reducible] noncomputable def p7 : PF := q7.1
@[reducible] noncomputable def q8 : Q 8 := ⟨⟨15, [], _, _⟩, pf_of tp.2 Tryz.func8 (h := h8) rfl rfl rfl rfl (pS pA (pS pA (pS pA pR)))⟩
@[reducible] noncomputable def p8 : PF := q8.1
@[reducible] noncomputable def q9 : Q 9 := ⟨⟨20, [], _, _⟩, pf_of tp.2 Tryz.func9 (h := h9) rfl rfl rfl rfl (pS pA (pS (pS pA (pD (pS pA pR) pK)) (pS (pX (.o 0 (.o 1 (.o 2 (.o 3 (.l 4 [1] (.l 5 [] (.o 6 (.l 7 [] (.o 8 .f)))))))))) pR)))⟩
@[reducible] noncomputable def p9 : PF := q9.1
@[reducible] noncomputable def q10 : Q 10 := ⟨⟨20, [], _, _⟩, pf_of tp.2 Tryz.func10 (h := h10) rfl rfl rfl rfl (pS pA (pS (pS pA (pD (pS pA pR) pK)) (pS (pX (.o 0 (.o 1 (.o 2 (.o 3 (.l 4 [1] (.l 5 [] (.o 6 (.l 7 [] (.o 8 .f)))))))))) pR)))⟩
@[reducible] noncomputable def p10 : PF := q10.1
@[reducible] noncomputable def q11 : Q 11 := ⟨⟨14, [], _, _⟩, pf_of tp.2 Tryz.func11 (h := h11) rfl rfl rfl rfl (pS pA (pS pA (pS (pX (.o 0 (.o 1 (.l 2 [1] (.l 3 [] .f))))) pR)))⟩
@[reducible] noncomputable def p11 : PF := q11.1
@[reducible] noncomputable def q12 : Q 12 := ⟨⟨15, [], _, _⟩, pf_of tp.2 Tryz.func12 (h := h12) rfl rfl rfl rfl (pS pA (pS pA (pS (pX (.o 0 (.o 1 (.o 2 (.l 3 [2] (.o 4 .f)))))) pR)))⟩
@[reducible] noncomputable def p12 : PF := q12.1
@[reducible] noncomputable def q13 : Q 13 := ⟨⟨30, [], _, _⟩, pf_of tp.2 Tryz.func13 (h := h13) rfl rfl rfl rfl (pS pA (pS (pS pA (pD (pS pA pR) pK)) (pS (pS pA (pB (pL (pS (pS pA (pD pK pE)) (pS (pB (pS pA (pS pA (pD (pS pA pR) pK)))) pA))))) (pS pA pR))))⟩
@[reducible] noncomputable def p13 : PF := q13.1
@[reducible] noncomputable def qb13_0 : QB q13.1 0 := ⟨_, by cbv⟩
@[reducible] noncomputable def b13_0 : C := qb13_0.1
@[reducible] noncomputable def q14 : Q 14 := ⟨⟨33, [], _, _⟩, pf_of tp.2 Tryz.func14 (h := h14) rfl rfl rfl rfl (pS pA (pS (pS pA (pD (pS pA pR) pK)) (pS (pS pA (pB (pL (pS (pS pA (pD pK pE)) (pS (pB (pS pA (pS pA (pD (pS pA pR) pK)))) pA))))) (pS pA pR))))⟩
@[reducible] noncomputable def p14 : PF := q14.1
@[reducible] noncomputable def qb14_0 : QB q14.1 0 := ⟨_, by cbv⟩
@[reducible] noncomputable def b14_0 : C := qb14_0.1
@[reducible] noncomputable def q15 : Q 15 := ⟨⟨12, [], _, _⟩, pf_of tp.2 Tryz.func15 (h := h15) rfl rfl rfl rfl (pS pA (pS pA (pS pA pR)))⟩
@[reducible] noncomputable def p15 : PF := q15.1
@[reducible] noncomputable def q16 : Q 16 := ⟨⟨26, [], _, _⟩, pf_of tp.2 Tryz.func16 (h := h16) rfl rfl rfl rfl (pS pA (pS (pS pA (pD (pS pA pR) pK)) (pS (pS pA (pB (pL (pS (pS pA (pD pK pE)) (pS (pB (pS (pX (.o 0 (.o 1 (.o 2 (.o 3 (.o 4 (.o 5 (.o 6 (.o 7 (.o 8 .f)))))))))) (pD (pS pA pR) pK))) pA))))) (pS pA pR))))⟩
@[reducible] noncomputable def p16 : PF := q16.1
@[reducible] noncomputable def qb16_0 : QB q16.1 0 := ⟨_, by cbv⟩
@[reducible] noncomputable def b16_0 : C := qb16_0.1
@[reducible] noncomputable def q17 : Q 17 := ⟨⟨22, [], _, _⟩, pf_of tp.2 Tryz.func17 (h := h17) rfl rfl rfl rfl (pS pA (pS pA (pS pA pR)))⟩
@[reducible] noncomputable def p17 : PF := q17.1
@[reducible] noncomputable def q18 : Q 18 := ⟨⟨22, [], _, _⟩, pf_of tp.2 Tryz.func18 (h := h18) rfl rfl rfl rfl (pS pA (pS pA (pS pA pR)))⟩
@[reducible] noncomputable def p18 : PF := q18.1
@[reducible] noncomputable def q19 : Q 19 := ⟨⟨24, [], _, _⟩, pf_of tp.2 Tryz.func19 (h := h19) rfl rfl rfl rfl (pS pA (pS pA (pS (pS pA (pB (pL (pS pA (pS (pD pK pE) (pS (pB (pS pA pA)) pA)))))) (pS pA pR))))⟩
@[reducible] noncomputable def p19 : PF := q19.1
@[reducible] noncomputable def qb19_0 : QB q19.1 0 := ⟨_, by cbv⟩
@[reducible] noncomputable def b19_0 : C := qb19_0.1
@[reducible] noncomputable def q20 : Q 20 := ⟨⟨26, [], _, _⟩, pf_of tp.2 Tryz.func20 (h := h20) rfl rfl rfl rfl (pS pA (pS pA (pS (pS pA (pB (pL (pS (pS pA (pD pK pE)) (pS (pB pA) pA))))) (pS pA pR))))⟩
@[reducible] noncomputable def p20 : PF := q20.1
@[reducible] noncomputable def qb20_0 : QB q20.1 0 := ⟨_, by cbv⟩
@[reducible] noncomputable def b20_0 : C := qb20_0.1
@[reducible] noncomputable def q21 : Q 21 := ⟨⟨124, [], _, _⟩, pf_of tp.2 Tryz.func21 (h := h21) rfl rfl rfl rfl (pS pA (pS (pS pA (pD (pS pA pR) pK)) (pS (pS pA (pB (pL (pS pA (pS (pD pK pE) (pS (pB (pS pA (pS (pX (.o 0 (.o 1 (.l 2 [] (.o 3 (.o 4 (.o 5 (.o 6 (.l 7 [] (.o 8 (.o 9 (.o 10 (.o 11 (.o 12 (.o 13 (.o 14 (.o 15 (.o 16 (.o 17 (.o 18 (.o 19 (.o 20 (.o 21 (.o 22 (.o 23 (.o 24 (.o 25 (.o 26 (.o 27 (.o 28 (.o 29 (.o 30 (.o 31 (.o 32 (.o 33 (.o 34 (.o 35 (.o 36 .f)))))))))))))))))))))))))))))))))))))) (pD (pS pA pR) pK)))) pA)))))) (pS (pS pA (pB (pL (pS pA (pS (pD pK pE) (pS (pB (pS pA (pS pA (pD (pS pA pR) pK)))) pA)))))) (pS (pS pA (pB (pL (pS pA (pS (pD pK pE) (pS (pB (pS pA (pS pA (pD (pS pA pR) pK)))) pA)))))) (pS pA pR))))))⟩
@[reducible] noncomputable def p21 : PF := q21.1
@[reducible] noncomputable def qb21_0 : QB q21.1 2 := ⟨_, by cbv⟩
@[reducible] noncomputable def b21_0 : C := qb21_0.1
@[reducible] noncomputable def qb21_1 : QB q21.1 1 := ⟨_, by cbv⟩
@[reducible] noncomputable def b21_1 : C := qb21_1.1
@[reducible] noncomputable def qb21_2 : QB q21.1 0 := ⟨_, by cbv⟩
@[reducible] noncomputable def b21_2 : C := qb21_2.1
@[reducible] noncomputable def q22 : Q 22 := ⟨⟨20, [], _, _⟩, pf_of tp.2 Tryz.func22 (h := h22) rfl rfl rfl rfl (pS pA (pS pA (pS pA (pS (pS pA (pD (pS (pX (.o 0 (.o 1 (.l 2 [0] (.o 3 (.l 4 [] (.o 5 .f))))))) pR) pK)) (pS (pX (.o 0 (.o 1 (.o 2 (.l 3 [0] (.l 4 [] (.o 5 .f))))))) pR)))))⟩
@[reducible] noncomputable def p22 : PF := q22.1
@[reducible] noncomputable def q23 : Q 23 := ⟨⟨40, [], _, _⟩, pf_of tp.2 Tryz.func23 (h := h23) rfl rfl rfl rfl (pS pA (pS (pS pA (pD (pS pA pR) pK)) (pS pA (pS (pX (.o 0 (.o 1 (.o 2 (.o 3 (.o 4 (.o 5 (.o 6 (.o 7 (.o 8 (.o 9 (.o 10 (.o 11 (.o 12 (.o 13 (.o 15 (.o 16 (.o 17 (.l 14 [17] (.l 18 [] (.o 19 (.o 20 .f)))))))))))))))))))))) pR))))⟩
@[reducible] noncomputable def p23 : PF := q23.1
@[reducible] noncomputable def q24 : Q 24 := ⟨⟨62, [], _, _⟩, pf_of tp.2 Tryz.func24 (h := h24) rfl rfl rfl rfl (pS pA (pS (pS pA (pD (pS pA pR) pK)) (pS (pX (.o 0 (.o 1 (.o 2 (.o 3 (.o 4 (.o 5 (.o 6 (.o 7 (.o 8 (.o 9 (.l 10 [] (.o 11 .f))))))))))))) (pS (pS pA (pB (pL (pS (pS pA (pD pK pE)) (pS (pB (pS (pX (.o 0 (.o 1 (.o 2 (.o 3 (.o 4 (.o 5 (.o 6 (.l 7 [] (.o 8 .f)))))))))) (pD (pS pA pR) pK))) pA))))) (pS pA pR)))))⟩
@[reducible] noncomputable def p24 : PF := q24.1
@[reducible] noncomputable def qb24_0 : QB q24.1 0 := ⟨_, by cbv⟩
@[reducible] noncomputable def b24_0 : C := qb24_0.1
@[reducible] noncomputable def q25 : Q 25 := ⟨⟨9, [], _, _⟩, pf_of tp.2 Tryz.func25 (h := h25) rfl rfl rfl rfl (pS pA (pS pA pR))⟩
@[reducible] noncomputable def p25 : PF := q25.1
@[reducible] noncomputable def q26 : Q 26 := ⟨⟨9, [], _, _⟩, pf_of tp.2 Tryz.func26 (h := h26) rfl rfl rfl rfl (pS pA (pS pA pR))⟩
@[reducible] noncomputable def p26 : PF := q26.1
@[reducible] noncomputable def q27 : Q 27 := ⟨⟨18, [], _, _⟩, pf_of tp.2 Tryz.func27 (h := h27) rfl rfl rfl rfl (pS pA (pS (pS pA (pB (pL (pS (pS pA (pD pK pE)) (pS (pB (pS pA (pD (pS pA pR) pK))) pA))))) (pS pA pR)))⟩
@[reducible] noncomputable def p27 : PF := q27.1
@[reducible] noncomputable def qb27_0 : QB q27.1 0 := ⟨_, by cbv⟩
@[reducible] noncomputable def b27_0 : C := qb27_0.1
@[reducible] noncomputable def q28 : Q 28 := ⟨⟨20, [], _, _⟩, pf_of tp.2 Tryz.func28 (h := h28) rfl rfl rfl rfl (pS pA (pS pA (pS pA (pS pA (pS (pX (.o 0 (.o 1 (.o 2 (.l 3 [0] (.o 4 (.l 5 [] (.o 6 (.o 7 .f))))))))) pR)))))⟩
@[reducible] noncomputable def p28 : PF := q28.1
@[reducible] noncomputable def q29 : Q 29 := ⟨⟨24, [], _, _⟩, pf_of tp.2 Tryz.func29 (h := h29) rfl rfl rfl rfl (pS pA (pS (pS pA (pD (pS pA pR) pK)) (pS pA pR)))⟩
@[reducible] noncomputable def p29 : PF := q29.1
@[reducible] noncomputable def q30 : Q 30 := ⟨⟨31, [], _, _⟩, pf_of tp.2 Tryz.func30 (h := h30) rfl rfl rfl rfl (pS pA (pS pA (pS pA (pS pA (pS (pS pA (pD pA pK)) (pS pA (pS (pX (.o 0 (.o 1 (.o 2 (.o 3 (.l 4 [0] (.l 5 [0] (.l 6 [] (.o 7 (.o 8 (.o 9 .f))))))))))) pR)))))))⟩
@[reducible] noncomputable def p30 : PF := q30.1
@[reducible] noncomputable def q31 : Q 31 := ⟨⟨53, [], _, _⟩, pf_of tp.2 Tryz.func31 (h := h31) rfl rfl rfl rfl (pS pA (pS (pB (pS pA (pD (pS pA pR) (pS pA (pD (pS pA pR) (pS pA (pD (pS pA pR) pK))))))) (pS pA (pS (pS pA (pB (pL (pS pA (pS (pD pK pE) (pS (pB (pS pA pA)) pA)))))) (pS pA pR)))))⟩
@[reducible] noncomputable def p31 : PF := q31.1
@[reducible] noncomputable def qb31_0 : QB q31.1 0 := ⟨_, by cbv⟩
@[reducible] noncomputable def b31_0 : C := qb31_0.1
@[reducible] noncomputable def q32 : Q 32 := ⟨⟨73, [], _, _⟩, pf_of tp.2 Tryz.func32 (h := h32) rfl rfl rfl rfl (pS pA (pS pA (pS (pB (pS pA (pD (pS pA pR) (pS pA (pD (pS pA pR) (pS pA (pD (pS pA pR) pK))))))) (pS (pS pA (pB (pL (pS (pS pA (pD pK pE)) (pS (pB (pS pA pA)) pA))))) (pS pA pR)))))⟩
@[reducible] noncomputable def p32 : PF := q32.1
@[reducible] noncomputable def qb32_0 : QB q32.1 0 := ⟨_, by cbv⟩
@[reducible] noncomputable def b32_0 : C := qb32_0.1
@[reducible] noncomputable def q33 : Q 33 := ⟨⟨43, [], _, _⟩, pf_of tp.2 Tryz.func33 (h := h33) rfl rfl rfl rfl (pS pA (pS (pS pA (pD (pS pA pR) pK)) (pS pA (pS (pS pA (pD (pS pA pR) pK)) (pS pA pR)))))⟩
@[reducible] noncomputable def p33 : PF := q33.1
@[reducible] noncomputable def q34 : Q 34 := ⟨⟨6, [], _, _⟩, pf_of tp.2 Tryz.func34 (h := h34) rfl rfl rfl rfl (pS pA (pS pA pR))⟩
@[reducible] noncomputable def p34 : PF := q34.1
@[reducible] noncomputable def q35 : Q 35 := ⟨⟨6, [], _, _⟩, pf_of tp.2 Tryz.func35 (h := h35) rfl rfl rfl rfl (pS pA (pS pA pR))⟩
@[reducible] noncomputable def p35 : PF := q35.1
@[reducible] noncomputable def q36 : Q 36 := ⟨⟨32, [], _, _⟩, pf_of tp.2 Tryz.func36 (h := h36) rfl rfl rfl rfl (pS pA (pS pA (pS (pS pA (pD (pS pA (pS (pX (.o 0 (.o 1 (.l 2 [0] (.l 3 [] (.l 4 [] .f)))))) pR)) pK)) (pS pA (pS pA (pS (pX (.o 0 (.o 1 (.o 2 (.o 3 (.o 4 (.o 5 (.o 6 (.o 7 (.l 8 [6,4,1] (.o 9 (.o 10 (.l 11 [10,6] (.l 12 [] .f)))))))))))))) pR))))))⟩
@[reducible] noncomputable def p36 : PF := q36.1
@[reducible] noncomputable def q37 : Q 37 := ⟨⟨6, [], _, _⟩, pf_of tp.2 Tryz.func37 (h := h37) rfl rfl rfl rfl (pS pA (pS pA pR))⟩
@[reducible] noncomputable def p37 : PF := q37.1
@[reducible] noncomputable def q38 : Q 38 := ⟨⟨6, [], _, _⟩, pf_of tp.2 Tryz.func38 (h := h38) rfl rfl rfl rfl (pS pA (pS pA pR))⟩
@[reducible] noncomputable def p38 : PF := q38.1
@[reducible] noncomputable def q39 : Q 39 := ⟨⟨35, [], _, _⟩, pf_of tp.2 Tryz.func39 (h := h39) rfl rfl rfl rfl (pS pA (pS pA (pS (pS pA (pD (pS pA pR) pK)) (pS (pS pA (pB (pL (pS pA (pS (pD pK pE) (pS (pB (pS pA (pS pA (pS pA (pD pA pK))))) pA)))))) (pS pA pR)))))⟩
@[reducible] noncomputable def p39 : PF := q39.1
@[reducible] noncomputable def qb39_0 : QB q39.1 0 := ⟨_, by cbv⟩
@[reducible] noncomputable def b39_0 : C := qb39_0.1
@[reducible] noncomputable def q40 : Q 40 := ⟨⟨36, [], _, _⟩, pf_of tp.2 Tryz.func40 (h := h40) rfl rfl rfl rfl (pS pA (pS pA (pS (pS pA (pB (pL (pS (pS pA (pD pK pE)) (pS (pB (pS (pX (.o 0 (.o 1 (.o 2 (.o 3 (.o 4 (.o 5 (.l 6 [] (.o 7 .f))))))))) (pS pA (pD pA pK)))) pA))))) (pS pA pR))))⟩
@[reducible] noncomputable def p40 : PF := q40.1
@[reducible] noncomputable def qb40_0 : QB q40.1 0 := ⟨_, by cbv⟩
@[reducible] noncomputable def b40_0 : C := qb40_0.1
@[reducible] noncomputable def q41 : Q 41 := ⟨⟨10, [], _, _⟩, pf_of tp.2 Tryz.func41 (h := h41) rfl rfl rfl rfl (pS pA (pS (pB (pS pA (pD (pS pA pR) (pS pA (pD (pS pA pR) pK))))) (pS pA pR)))⟩
@[reducible] noncomputable def p41 : PF := q41.1
@[reducible] noncomputable def q42 : Q 42 := ⟨⟨10, [], _, _⟩, pf_of tp.2 Tryz.func42 (h := h42) rfl rfl rfl rfl (pS pA (pS (pB (pS pA (pD (pS pA pR) (pS pA (pD (pS pA pR) pK))))) (pS pA pR)))⟩
@[reducible] noncomputable def p42 : PF := q42.1
@[reducible] noncomputable def q43 : Q 43 := ⟨⟨12, [], _, _⟩, pf_of tp.2 Tryz.func43 (h := h43) rfl rfl rfl rfl (pS pA (pS (pB (pS pA (pD (pS pA pR) (pS pA (pD (pS pA pR) pK))))) (pS pA pR)))⟩
@[reducible] noncomputable def p43 : PF := q43.1
@[reducible] noncomputable def q44 : Q 44 := ⟨⟨12, [], _, _⟩, pf_of tp.2 Tryz.func44 (h := h44) rfl rfl rfl rfl (pS pA (pS (pB (pS pA (pD (pS pA pR) (pS pA (pD (pS pA pR) pK))))) (pS pA pR)))⟩
@[reducible] noncomputable def p44 : PF := q44.1
@[reducible] noncomputable def q45 : Q 45 := ⟨⟨52, [], _, _⟩, pf_of tp.2 Tryz.func45 (h := h45) rfl rfl rfl rfl (pS pA (pS (pB (pS pA (pD (pS pA pR) (pS pA (pD (pS pA pR) (pS pA (pD (pS pA pR) (pS pA (pD (pS pA pR) pK))))))))) (pS pA pR)))⟩
@[reducible] noncomputable def p45 : PF := q45.1
@[reducible] noncomputable def q46 : Q 46 := ⟨⟨52, [], _, _⟩, pf_of tp.2 Tryz.func46 (h := h46) rfl rfl rfl rfl (pS pA (pS (pB (pS pA (pD (pS pA pR) (pS pA (pD (pS pA pR) (pS pA (pD (pS pA pR) (pS pA (pD (pS pA pR) pK))))))))) (pS pA pR)))⟩
@[reducible] noncomputable def p46 : PF := q46.1
@[reducible] noncomputable def q47 : Q 47 := ⟨⟨60, [], _, _⟩, pf_of tp.2 Tryz.func47 (h := h47) rfl rfl rfl rfl (pS pA (pS (pS pA (pD (pS pA pR) pK)) (pS pA (pS (pS pA (pB (pL (pS pA (pS (pD pK pE) (pS (pB (pS pA (pS (pX (.o 0 (.o 2 (.o 4 (.l 1 [4,2] (.l 3 [4] (.l 5 [] (.l 6 [] (.o 7 .f))))))))) (pS (pS pA (pB (pL (pS pA (pS (pD pK pE) (pS (pB (pS pA (pS pA (pD (pX (.o 0 (.o 1 (.o 2 (.o 4 (.o 5 (.o 6 (.o 7 (.o 8 (.o 9 (.o 10 (.l 3 [9,6] (.l 11 [] (.l 12 [] (.l 13 [] (.o 14 .f)))))))))))))))) pK)))) pA)))))) pA)))) pA)))))) (pS pA pR)))))⟩
@[reducible] noncomputable def p47 : PF := q47.1
@[reducible] noncomputable def qb47_0 : QB q47.1 1 := ⟨_, by cbv⟩
@[reducible] noncomputable def b47_0 : C := qb47_0.1
@[reducible] noncomputable def qb47_1 : QB q47.1 0 := ⟨_, by cbv⟩
@[reducible] noncomputable def b47_1 : C := qb47_1.1
@[reducible] noncomputable def q48 : Q 48 := ⟨⟨68, [], _, _⟩, pf_of tp.2 Tryz.func48 (h := h48) rfl rfl rfl rfl (pS pA (pS pA (pS (pS pA (pB (pL (pS (pS pA (pD pK pE)) (pS (pB (pS pA (pS (pX (.o 0 (.o 1 (.o 5 (.o 9 (.l 2 [9,5] (.o 3 (.o 4 (.l 6 [9] (.o 7 (.o 8 (.l 10 [] (.o 11 (.o 12 .f)))))))))))))) (pS (pS pA (pB (pL (pS (pS pA (pD pK pE)) (pS (pB (pS pA (pD (pX (.o 0 (.o 1 (.o 2 (.o 3 (.o 4 (.o 5 (.o 6 (.o 7 (.o 11 (.o 12 (.o 13 (.o 14 (.o 15 (.o 16 (.o 17 (.l 8 [16,13] (.o 9 (.o 10 (.l 18 [] (.o 19 (.o 20 .f)))))))))))))))))))))) pK))) pA))))) pA)))) pA))))) (pS pA pR))))⟩
@[reducible] noncomputable def p48 : PF := q48.1
@[reducible] noncomputable def qb48_0 : QB q48.1 1 := ⟨_, by cbv⟩
@[reducible] noncomputable def b48_0 : C := qb48_0.1
@[reducible] noncomputable def qb48_1 : QB q48.1 0 := ⟨_, by cbv⟩
@[reducible] noncomputable def b48_1 : C := qb48_1.1
@[reducible] noncomputable def q49 : Q 49 := ⟨⟨31, [], _, _⟩, pf_of tp.2 Tryz.func49 (h := h49) rfl rfl rfl rfl (pS pA (pS pA (pS pA (pS pA (pS (pX (.o 0 (.o 1 (.o 2 (.o 3 (.o 4 (.o 5 (.o 6 (.l 7 [0] (.l 8 [] (.o 9 (.o 10 .f)))))))))))) pR)))))⟩
@[reducible] noncomputable def p49 : PF := q49.1
@[reducible] noncomputable def q50 : Q 50 := ⟨⟨15, [], _, _⟩, pf_of tp.2 Tryz.func50 (h := h50) rfl rfl rfl rfl (pS pA (pS pA pR))⟩
@[reducible] noncomputable def p50 : PF := q50.1
@[reducible] noncomputable def q51 : Q 51 := ⟨⟨32, [], _, _⟩, pf_of tp.2 Tryz.func51 (h := h51) rfl rfl rfl rfl (pS pA (pS pA (pS (pS pA (pB (pL (pS pA (pS (pD pK pE) (pS (pB (pS pA (pS pA (pD pA pK)))) pA)))))) (pS pA pR))))⟩
@[reducible] noncomputable def p51 : PF := q51.1
@[reducible] noncomputable def qb51_0 : QB q51.1 0 := ⟨_, by cbv⟩
@[reducible] noncomputable def b51_0 : C := qb51_0.1
@[reducible] noncomputable def q52 : Q 52 := ⟨⟨35, [], _, _⟩, pf_of tp.2 Tryz.func52 (h := h52) rfl rfl rfl rfl (pS pA (pS pA (pS (pS pA (pD (pS pA pR) pK)) (pS (pB (pL (pB (pS pA (pS pA (pS (pS pA (pD pE pK)) pA)))))) (pS pA (pS pA pR))))))⟩
@[reducible] noncomputable def p52 : PF := q52.1
@[reducible] noncomputable def qb52_0 : QB q52.1 0 := ⟨_, by cbv⟩
@[reducible] noncomputable def b52_0 : C := qb52_0.1
@[reducible] noncomputable def q53 : Q 53 := ⟨⟨15, [], _, _⟩, pf_of tp.2 Tryz.func53 (h := h53) rfl rfl rfl rfl (pS pA (pS pA pR))⟩
@[reducible] noncomputable def p53 : PF := q53.1
@[reducible] noncomputable def q54 : Q 54 := ⟨⟨39, [], _, _⟩, pf_of tp.2 Tryz.func54 (h := h54) rfl rfl rfl rfl (pS pA (pS pA (pS (pS pA (pB (pL (pS (pS pA (pD pK pE)) (pS (pB (pS (pX (.o 0 (.o 1 (.o 2 (.o 3 (.o 4 (.o 5 (.o 6 (.l 7 [] .f))))))))) (pD (pX (.o 0 (.o 1 (.o 2 (.o 3 (.o 4 (.o 5 (.o 6 (.o 7 (.o 8 (.o 9 (.o 10 (.o 11 (.o 12 (.o 13 (.o 14 (.l 15 [] (.o 16 .f)))))))))))))))))) pK))) pA))))) (pS pA pR))))⟩
@[reducible] noncomputable def p54 : PF := q54.1
@[reducible] noncomputable def qb54_0 : QB q54.1 0 := ⟨_, by cbv⟩
@[reducible] noncomputable def b54_0 : C := qb54_0.1
@[reducible] noncomputable def q55 : Q 55 := ⟨⟨37, [], _, _⟩, pf_of tp.2 Tryz.func55 (h := h55) rfl rfl rfl rfl (pS pA (pS pA (pS (pB (pL (pS (pS pA (pD pK pE)) (pB (pS pA (pS (pS pA (pD pE pK)) pA)))))) (pS pA pR))))⟩
@[reducible] noncomputable def p55 : PF := q55.1
@[reducible] noncomputable def qb55_0 : QB q55.1 0 := ⟨_, by cbv⟩
@[reducible] noncomputable def b55_0 : C := qb55_0.1
@[reducible] noncomputable def q56 : Q 56 := ⟨⟨35, [1], _, _⟩, pf_of tp.2 Tryz.func56 (h := h56) rfl rfl rfl rfl (pS pA (pS pA (pS (pX (.o 0 (.o 1 (.o 2 (.o 3 (.o 4 (.o 5 (.a (.l 6 [0] (.a (.l 7 [] (.o 8 (.o 9 (.o 10 (.l 11 [] (.l 12 [] (.o 13 .f))))))) (.l 11 [0] (.l 7 [] (.o 8 (.o 9 (.o 10 (.l 12 [] (.o 13 .f))))))))) (.l 11 [3,0] (.l 6 [0] (.l 7 [] (.o 8 (.o 9 (.o 10 (.l 12 [] (.o 13 .f)))))))))))))))) (pS (pS pA (pB (pS pA (pD pA (pS pA (pD pA pK)))))) (pS (pX (.o 0 (.o 1 (.l 2 [1] (.l 3 [] .f))))) pR)))))⟩
@[reducible] noncomputable def p56 : PF := q56.1
@[reducible] noncomputable def q57 : Q 57 := ⟨⟨32, [], _, _⟩, pf_of tp.2 Tryz.func57 (h := h57) rfl rfl rfl rfl (pS pA (pS pA (pS (pS pA (pB (pL (pS (pS pA (pD pK pE)) (pS (pB pA) pA))))) (pS pA pR))))⟩
@[reducible] noncomputable def p57 : PF := q57.1
@[reducible] noncomputable def qb57_0 : QB q57.1 0 := ⟨_, by cbv⟩
@[reducible] noncomputable def b57_0 : C := qb57_0.1
@[reducible] noncomputable def q58 : Q 58 := ⟨⟨26, [], _, _⟩, pf_of tp.2 Tryz.func58 (h := h58) rfl rfl rfl rfl (pS pA (pS (pS pA (pD (pS pA pR) pK)) (pS (pS pA (pB (pL (pS pA (pS (pD pK pE) (pS (pB (pS pA (pS (pX (.o 0 (.o 1 (.o 2 (.o 3 (.o 4 (.o 5 (.o 6 (.o 7 (.o 8 .f)))))))))) (pD (pS pA pR) pK)))) pA)))))) (pS pA pR))))⟩
@[reducible] noncomputable def p58 : PF := q58.1
@[reducible] noncomputable def qb58_0 : QB q58.1 0 := ⟨_, by cbv⟩
@[reducible] noncomputable def b58_0 : C := qb58_0.1
@[reducible] noncomputable def q59 : Q 59 := ⟨⟨127, [], _, _⟩, pf_of tp.2 Tryz.func59 (h := h59) rfl rfl rfl rfl (pS pA (pS (pS pA (pD (pS pA pR) pK)) (pS (pS pA (pB (pL (pS (pS pA (pD pK pE)) (pS (pB (pS pA (pS (pS pA (pD (pS pA pR) pK)) (pS pA (pB (pL (pS (pS pA (pD pK pE)) (pS (pB (pS (pX (.o 0 (.o 1 (.o 2 (.o 3 (.o 4 (.o 5 (.o 6 (.o 7 (.o 8 .f)))))))))) (pD (pS pA pR) pK))) pA)))))))) pA))))) (pS (pS pA (pB (pL (pS (pS pA (pD pK pE)) (pS (pB (pS pA (pD (pS pA pR) pK))) pA))))) (pS (pS pA (pB (pL (pS (pS pA (pD pK pE)) (pS (pB (pS (pX (.o 0 (.o 1 (.o 2 (.o 3 (.o 4 (.o 5 (.o 6 (.o 7 (.l 8 [] (.o 9 (.o 10 (.o 11 (.o 12 (.o 13 (.o 14 (.o 15 (.o 16 (.o 17 (.o 18 (.o 19 (.o 20 (.o 21 (.o 22 (.o 23 (.o 24 (.o 25 (.o 26 (.o 27 .f))))))))))))))))))))))))))))) (pD (pS pA pR) pK))) pA))))) (pS pA pR))))))⟩
@[reducible] noncomputable def p59 : PF := q59.1
@[reducible] noncomputable def qb59_0 : QB q59.1 3 := ⟨_, by cbv⟩
@[reducible] noncomputable def b59_0 : C := qb59_0.1
@[reducible] noncomputable def qb59_1 : QB q59.1 2 := ⟨_, by cbv⟩
@[reducible] noncomputable def b59_1 : C := qb59_1.1
@[reducible] noncomputable def qb59_2 : QB q59.1 1 := ⟨_, by cbv⟩
@[reducible] noncomputable def b59_2 : C := qb59_2.1
@[reducible] noncomputable def qb59_3 : QB q59.1 0 := ⟨_, by cbv⟩
@[reducible] noncomputable def b59_3 : C := qb59_3.1
@[reducible] noncomputable def q60 : Q 60 := ⟨⟨32, [], _, _⟩, pf_of tp.2 Tryz.func60 (h := h60) rfl rfl rfl rfl (pS pA (pS (pS pA (pB (pL (pS (pS pA (pD pK pE)) (pS (pB (pS (pX (.o 0 (.o 1 (.o 2 (.o 3 (.o 4 (.o 5 (.o 6 (.o 7 (.o 8 .f)))))))))) (pD (pS pA pR) pK))) pA))))) (pS pA pR)))⟩
@[reducible] noncomputable def p60 : PF := q60.1
@[reducible] noncomputable def qb60_0 : QB q60.1 0 := ⟨_, by cbv⟩
@[reducible] noncomputable def b60_0 : C := qb60_0.1
@[reducible] noncomputable def q61 : Q 61 := ⟨⟨41, [], _, _⟩, pf_of tp.2 Tryz.func61 (h := h61) rfl rfl rfl rfl (pS pA (pS (pB (pS pA (pD (pS pA pR) (pS pA (pD (pS pA pR) (pS pA (pD (pS pA pR) pK))))))) (pS pA pR)))⟩
@[reducible] noncomputable def p61 : PF := q61.1
@[reducible] noncomputable def q62 : Q 62 := ⟨⟨31, [], _, _⟩, pf_of tp.2 Tryz.func62 (h := h62) rfl rfl rfl rfl (pS pA (pS (pS pA (pD (pS pA pR) pK)) (pS pA (pS pA (pS (pB (pL (pS (pS pA (pD pK pE)) (pB (pS pA (pS (pS pA (pD pA pK)) (pS pA pA))))))) (pS (pS pA (pD (pS pA pR) pK)) (pS pA pR)))))))⟩
@[reducible] noncomputable def p62 : PF := q62.1
@[reducible] noncomputable def qb62_0 : QB q62.1 0 := ⟨_, by cbv⟩
@[reducible] noncomputable def b62_0 : C := qb62_0.1
end Go.Proofs.YtbolhfegdocpeaaGreat.Ow
