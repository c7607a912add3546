/- The texts of the functions: part 4. -/
import Derived.Test.YtbolhfegdocpeaaGreatPFa
import Derived.Test.YtbolhfegdocpeaaGreatProg
import Derived.KernelRfl
namespace Go.Proofs.YtbolhfegdocpeaaGreat.Ow
open Go
set_option maxRecDepth 100000
set_option maxHeartbeats 8000000
@[reducible] noncomputable def q191 : Q 191 := ⟨⟨55, [], _, _⟩, pf_of tp.2 Tryz.func191 (h := h191) rfl rfl rfl rfl (pS pA (pS pA (pS pA (pS pA (pS pA (pS pA (pS pA (pS pA (pS pA (pS (pS pA (pB (pL (pS (pS pA (pD pK pE)) (pS (pB (pX (.o 0 (.o 1 (.o 3 (.o 4 (.o 5 (.o 6 (.o 7 (.l 2 [7,4,1] (.l 8 [1] (.l 9 [1] (.l 10 [] (.o 11 (.l 12 [] .f))))))))))))))) pA))))) (pS pA pR)))))))))))⟩
@[reducible] noncomputable def p191 : PF := q191.1
@[reducible] noncomputable def qb191_0 : QB q191.1 0 := ⟨_, by cbv⟩
@[reducible] noncomputable def b191_0 : C := qb191_0.1
@[reducible] noncomputable def q194 : Q 194 := ⟨⟨64, [], _, _⟩, pf_of tp.2 Tryz.func194 (h := h194) rfl rfl rfl rfl (pS pA (pS pA (pS pA (pS pA (pS (pS pA (pB (pL (pS pA (pS (pD pK pE) (pS (pB (pS pA pA)) pA)))))) (pS pA (pS pA (pS pA (pS pA (pS (pS pA (pD (pS pA pR) pK)) (pS pA pR)))))))))))⟩
@[reducible] noncomputable def p194 : PF := q194.1
@[reducible] noncomputable def qb194_0 : QB q194.1 0 := ⟨_, by cbv⟩
@[reducible] noncomputable def b194_0 : C := qb194_0.1
@[reducible] noncomputable def q195 : Q 195 := ⟨⟨10, [], _, _⟩, pf_of tp.2 Tryz.func195 (h := h195) rfl rfl rfl rfl (pS pA (pS pA pR))⟩
@[reducible] noncomputable def p195 : PF := q195.1
@[reducible] noncomputable def q196 : Q 196 := ⟨⟨28, [], _, _⟩, pf_of tp.2 Tryz.func196 (h := h196) rfl rfl rfl rfl (pS pA (pS pA (pS pA (pS pA (pS pA (pS pA pR))))))⟩
@[reducible] noncomputable def p196 : PF := q196.1
@[reducible] noncomputable def q197 : Q 197 := ⟨⟨28, [1], _, _⟩, pf_of tp.2 Tryz.func197 (h := h197) rfl rfl rfl rfl (pS pA (pS pA (pS pA (pS (pS pA (pB (pL (pS (pS pA (pD pK pE)) (pS (pB (pS pA pA)) pA))))) (pS pA pR)))))⟩
@[reducible] noncomputable def p197 : PF := q197.1
@[reducible] noncomputable def qb197_0 : QB q197.1 0 := ⟨_, by cbv⟩
@[reducible] noncomputable def b197_0 : C := qb197_0.1
@[reducible] noncomputable def q198 : Q 198 := ⟨⟨36, [1], _, _⟩, pf_of tp.2 Tryz.func198 (h := h198) rfl rfl rfl rfl (pS pA (pS (pX (.o 0 (.o 1 (.o 2 (.o 3 (.o 4 (.o 5 (.o 6 (.o 7 (.l 8 [] (.o 9 (.o 10 (.o 11 (.o 12 (.o 13 (.o 14 (.o 15 .f))))))))))))))))) (pS (pS pA (pD (pS pA (pS pA pR)) pK)) (pS pA (pS pA pR)))))⟩
@[reducible] noncomputable def p198 : PF := q198.1
@[reducible] noncomputable def q199 : Q 199 := ⟨⟨49, [], _, _⟩, pf_of tp.2 Tryz.func199 (h := h199) rfl rfl rfl rfl (pS pA (pS (pS pA (pD (pS pA (pS (pS pA (pD (pS pA pR) pK)) (pS pA pR))) pK)) (pS pA (pS (pS pA (pD (pS pA pR) pK)) (pS pA pR)))))⟩
@[reducible] noncomputable def p199 : PF := q199.1
@[reducible] noncomputable def q200 : Q 200 := ⟨⟨101, [1, 1, 1, 1, 1], _, _⟩, pf_of tp.2 Tryz.func200 (h := h200) rfl rfl rfl rfl (pS pA (pS pA (pS (pS pA (pB (pL (pS (pS pA (pD pK pE)) (pS (pB (pS pA (pS pA (pD pA pK)))) pA))))) (pS pA (pS pA (pS pA (pS pA (pS pA (pS pA (pS pA (pS pA pR)))))))))))⟩
@[reducible] noncomputable def p200 : PF := q200.1
@[reducible] noncomputable def qb200_0 : QB q200.1 0 := ⟨_, by cbv⟩
@[reducible] noncomputable def b200_0 : C := qb200_0.1
@[reducible] noncomputable def q201 : Q 201 := ⟨⟨61, [], _, _⟩, pf_of tp.2 Tryz.func201 (h := h201) rfl rfl rfl rfl (pS pA (pS (pS pA (pD (pS pA pR) pK)) (pS (pX (.o 0 (.o 2 (.o 3 (.a (.l 1 [3] (.a (.l 4 [] (.o 5 (.o 6 (.o 7 (.l 8 [] (.l 9 [] (.o 10 .f))))))) (.l 8 [3] (.l 4 [] (.o 5 (.o 6 (.o 7 (.l 9 [] (.o 10 .f))))))))) (.l 8 [3,0] (.l 1 [3] (.l 4 [] (.o 5 (.o 6 (.o 7 (.l 9 [] (.o 10 .f))))))))))))) (pS (pS pA (pD (pS pA pR) pK)) (pS pA pR)))))⟩
@[reducible] noncomputable def p201 : PF := q201.1
@[reducible] noncomputable def q202 : Q 202 := ⟨⟨61, [3, 4, 5, 1, 1], _, _⟩, pf_of tp.2 Tryz.func202 (h := h202) rfl rfl rfl rfl (pS pA (pS (pS pA (pB (pL (pS (pS pA (pD pK pE)) (pS (pB (pS (pS (pX (.o 0 (.o 1 (.o 2 (.o 3 (.o 4 (.o 5 (.l 6 [] .f)))))))) (pD pE pK)) (pS pA (pS (pB (pL (pS (pS (pX (.o 0 (.o 1 (.o 2 (.o 3 (.o 4 (.o 5 (.o 6 (.o 7 (.o 8 (.o 9 (.o 10 (.o 11 (.o 12 (.o 13 (.o 14 (.o 15 (.o 16 .f)))))))))))))))))) (pD pK pE)) (pB pA)))) (pS pA (pS pA pA)))))) pA))))) (pS pA pR)))⟩
@[reducible] noncomputable def p202 : PF := q202.1
@[reducible] noncomputable def qb202_0 : QB q202.1 1 := ⟨_, by cbv⟩
@[reducible] noncomputable def b202_0 : C := qb202_0.1
@[reducible] noncomputable def qb202_1 : QB q202.1 0 := ⟨_, by cbv⟩
@[reducible] noncomputable def b202_1 : C := qb202_1.1
@[reducible] noncomputable def q203 : Q 203 := ⟨⟨64, [1, 1, 1, 1, 1], _, _⟩, pf_of tp.2 Tryz.func203 (h := h203) rfl rfl rfl rfl (pS pA (pS (pS pA (pB (pL (pS (pS pA (pD pK pE)) (pS (pB (pS pA (pS (pS (pX (.o 0 (.o 1 (.o 2 (.o 3 (.o 4 (.o 5 (.o 6 (.o 7 (.o 8 (.o 9 (.o 10 (.o 11 .f))))))))))))) (pD pE pK)) (pS (pS pA (pD (pS pA pE) pK)) (pS pA (pS (pS pA (pD pA pK)) pA)))))) pA))))) (pS pA pR)))⟩
@[reducible] noncomputable def p203 : PF := q203.1
@[reducible] noncomputable def qb203_0 : QB q203.1 0 := ⟨_, by cbv⟩
@[reducible] noncomputable def b203_0 : C := qb203_0.1
@[reducible] noncomputable def q204 : Q 204 := ⟨⟨23, [], _, _⟩, pf_of tp.2 Tryz.func204 (h := h204) rfl rfl rfl rfl (pS pA (pS (pX (.o 0 (.l 1 [] (.o 2 (.o 3 (.o 4 (.o 5 (.o 6 (.o 7 (.o 8 (.o 9 (.o 10 (.l 11 [8] (.o 12 (.o 13 (.o 14 (.o 15 (.o 16 (.o 17 (.o 18 (.o 19 (.o 20 .f)))))))))))))))))))))) pR))⟩
@[reducible] noncomputable def p204 : PF := q204.1
@[reducible] noncomputable def q205 : Q 205 := ⟨⟨65, [], _, _⟩, pf_of tp.2 Tryz.func205 (h := h205) rfl rfl rfl rfl (pS pA (pS (pS pA (pD (pS pA pR) pK)) (pS (pX (.o 0 (.o 2 (.o 3 (.o 4 (.o 5 (.a (.l 1 [3] (.a (.l 6 [] (.l 7 [] (.l 8 [] .f))) (.l 7 [3] (.l 6 [] (.l 8 [] .f))))) (.l 7 [3,0] (.l 1 [3] (.l 6 [] (.l 8 [] .f))))))))))) (pS (pS (pX (.o 0 (.o 1 (.o 2 (.o 3 (.l 4 [1] (.o 5 (.o 6 .f)))))))) (pD pA pK)) (pS (pS pA (pD (pS pA pR) pK)) (pS (pX (.o 0 (.o 1 (.o 2 (.o 3 (.o 4 (.o 5 (.o 6 (.l 7 [0] (.l 8 [] (.o 9 .f))))))))))) pR))))))⟩
@[reducible] noncomputable def p205 : PF := q205.1
@[reducible] noncomputable def q206 : Q 206 := ⟨⟨7, [], _, _⟩, pf_of tp.2 Tryz.func206 (h := h206) rfl rfl rfl rfl (pS pA (pS (pS pA (pD (pS pA pR) pK)) (pS pA pR)))⟩
@[reducible] noncomputable def p206 : PF := q206.1
@[reducible] noncomputable def q207 : Q 207 := ⟨⟨58, [1, 1, 1, 1, 1], _, _⟩, pf_of tp.2 Tryz.func207 (h := h207) rfl rfl rfl rfl (pS pA (pS (pS (pX (.o 0 (.o 1 (.o 2 (.o 3 (.o 4 (.o 5 (.o 6 (.o 7 (.o 8 (.o 9 (.l 10 [] .f)))))))))))) (pB (pS pA (pD (pS pA pR) (pS pA (pD pA pK)))))) (pS (pX (.o 0 (.o 1 (.o 2 (.o 3 (.o 4 (.o 5 (.o 6 (.o 7 (.o 8 (.o 9 (.a (.l 10 [] (.o 11 (.o 12 (.o 13 (.o 14 (.a (.l 15 [] (.l 16 [] (.l 17 [] (.l 18 [] (.o 19 .f))))) (.l 16 [] (.l 15 [] (.l 17 [] (.l 18 [] (.o 19 .f))))))))))) (.a (.l 15 [9,6,4,1] (.a (.l 10 [] (.o 11 (.o 12 (.o 13 (.o 14 (.l 16 [] (.l 17 [] (.l 18 [] (.o 19 .f))))))))) (.l 16 [9,6,4,1] (.l 10 [] (.o 11 (.o 12 (.o 13 (.o 14 (.l 17 [] (.l 18 [] (.o 19 .f))))))))))) (.l 16 [9,6,4,1] (.a (.l 10 [] (.o 11 (.o 12 (.o 13 (.o 14 (.l 15 [] (.l 17 [] (.l 18 [] (.o 19 .f))))))))) (.l 15 [9,6,4,1] (.l 10 [] (.o 11 (.o 12 (.o 13 (.o 14 (.l 17 [] (.l 18 [] (.o 19 .f)))))))))))))))))))))))) (pS (pS pA (pD (pS pA pR) pK)) (pS pA (pS pA (pS pA pR)))))))⟩
@[reducible] noncomputable def p207 : PF := q207.1
@[reducible] noncomputable def q208 : Q 208 := ⟨⟨44, [1, 1, 1, 1, 1], _, _⟩, pf_of tp.2 Tryz.func208 (h := h208) rfl rfl rfl rfl (pS pA (pS (pS pA (pD (pS pA pR) pK)) (pS (pS pA (pD (pS pA pR) pK)) (pS pA (pS pA (pS pA pR))))))⟩
@[reducible] noncomputable def p208 : PF := q208.1
@[reducible] noncomputable def q209 : Q 209 := ⟨⟨28, [], _, _⟩, pf_of tp.2 Tryz.func209 (h := h209) rfl rfl rfl rfl (pS pA (pS pA (pS (pS pA (pD (pS pA pR) pK)) (pS pA (pS pA (pS pA (pS pA pR)))))))⟩
@[reducible] noncomputable def p209 : PF := q209.1
@[reducible] noncomputable def q210 : Q 210 := ⟨⟨32, [], _, _⟩, pf_of tp.2 Tryz.func210 (h := h210) rfl rfl rfl rfl (pS pA (pS pA (pS pA (pS pA (pS (pS pA (pB (pL (pS (pS pA (pD pK pE)) (pS (pB (pX (.o 0 (.o 1 (.o 3 (.o 4 (.o 5 (.o 6 (.o 7 (.l 2 [7,4,1] (.l 8 [1] (.l 9 [1] (.l 10 [] (.o 11 (.l 12 [] .f))))))))))))))) pA))))) (pS pA pR))))))⟩
@[reducible] noncomputable def p210 : PF := q210.1
@[reducible] noncomputable def qb210_0 : QB q210.1 0 := ⟨_, by cbv⟩
@[reducible] noncomputable def b210_0 : C := qb210_0.1
@[reducible] noncomputable def q211 : Q 211 := ⟨⟨49, [], _, _⟩, pf_of tp.2 Tryz.func211 (h := h211) rfl rfl rfl rfl (pS pA (pS pA (pS pA (pS pA (pS (pS pA (pD (pS pA pR) pK)) (pS (pS pA (pD pA pA)) (pS pA pR)))))))⟩
@[reducible] noncomputable def p211 : PF := q211.1
@[reducible] noncomputable def q212 : Q 212 := ⟨⟨34, [1, 1, 1, 1, 1], _, _⟩, pf_of tp.2 Tryz.func212 (h := h212) rfl rfl rfl rfl (pS pA (pS (pS pA (pB (pL (pS (pS pA (pD pK pE)) (pS (pB (pS pA (pD pA pK))) pA))))) (pS (pX (.o 0 (.o 1 (.o 2 (.o 3 (.o 4 (.o 5 (.o 6 (.o 7 (.l 8 [1] (.o 9 (.l 10 [] .f)))))))))))) (pS pA pR))))⟩
@[reducible] noncomputable def p212 : PF := q212.1
@[reducible] noncomputable def qb212_0 : QB q212.1 0 := ⟨_, by cbv⟩
@[reducible] noncomputable def b212_0 : C := qb212_0.1
@[reducible] noncomputable def q213 : Q 213 := ⟨⟨70, [], _, _⟩, pf_of tp.2 Tryz.func213 (h := h213) rfl rfl rfl rfl (pS pA (pS (pS pA (pD (pS (pX (.o 0 (.o 2 (.l 1 [2] (.l 3 [] (.l 4 [] (.l 5 [] (.o 6 .f)))))))) pR) pK)) (pS pA (pS pA (pS pA (pS (pX (.o 0 (.o 2 (.a (.l 1 [2] (.a (.l 3 [] (.l 4 [] (.l 5 [] .f))) (.l 4 [2] (.l 3 [] (.l 5 [] .f))))) (.l 4 [2,0] (.l 1 [2] (.l 3 [] (.l 5 [] .f)))))))) (pS pA (pS pA (pS pA (pS pA (pS (pX (.o 0 (.o 2 (.a (.l 1 [2] (.a (.l 3 [] (.l 4 [] (.l 5 [] .f))) (.l 4 [2] (.l 3 [] (.l 5 [] .f))))) (.l 4 [2,0] (.l 1 [2] (.l 3 [] (.l 5 [] .f)))))))) (pS (pS pA (pD (pS (pX (.o 0 (.o 2 (.l 1 [2] (.l 3 [] (.l 4 [] (.l 5 [] (.o 6 .f)))))))) pR) pK)) (pS (pX (.o 0 (.o 1 (.l 2 [1] (.l 3 [] (.o 4 .f)))))) pR)))))))))))))⟩
@[reducible] noncomputable def p213 : PF := q213.1
@[reducible] noncomputable def q214 : Q 214 := ⟨⟨11, [], _, _⟩, pf_of tp.2 Tryz.func214 (h := h214) rfl rfl rfl rfl (pS pA (pS pA pR))⟩
@[reducible] noncomputable def p214 : PF := q214.1
@[reducible] noncomputable def q215 : Q 215 := ⟨⟨19, [], _, _⟩, pf_of tp.2 Tryz.func215 (h := h215) rfl rfl rfl rfl (pS pA (pS pA (pS (pS pA (pD (pS pA pR) pK)) (pS pA (pS pA pR)))))⟩
@[reducible] noncomputable def p215 : PF := q215.1
@[reducible] noncomputable def q216 : Q 216 := ⟨⟨19, [], _, _⟩, pf_of tp.2 Tryz.func216 (h := h216) rfl rfl rfl rfl (pS pA (pS pA (pS (pS pA (pD (pS pA pR) pK)) (pS pA (pS pA (pS pA pR))))))⟩
@[reducible] noncomputable def p216 : PF := q216.1
@[reducible] noncomputable def q217 : Q 217 := ⟨⟨28, [1], _, _⟩, pf_of tp.2 Tryz.func217 (h := h217) rfl rfl rfl rfl (pS pA (pS pA (pS pA (pS (pS pA (pB (pL (pS (pS pA (pD pK pE)) (pS (pB (pS pA pA)) pA))))) (pS pA pR)))))⟩
@[reducible] noncomputable def p217 : PF := q217.1
@[reducible] noncomputable def qb217_0 : QB q217.1 0 := ⟨_, by cbv⟩
@[reducible] noncomputable def b217_0 : C := qb217_0.1
@[reducible] noncomputable def q218 : Q 218 := ⟨⟨33, [1], _, _⟩, pf_of tp.2 Tryz.func218 (h := h218) rfl rfl rfl rfl (pS pA (pS (pS pA (pD (pS pA pR) pK)) (pS (pX (.o 0 (.o 1 (.o 2 (.o 3 (.o 4 (.o 5 (.o 6 (.o 7 (.l 8 [] (.o 9 (.o 10 (.o 11 (.o 12 (.o 13 (.o 14 (.o 15 .f))))))))))))))))) (pS pA (pS pA pR)))))⟩
@[reducible] noncomputable def p218 : PF := q218.1
@[reducible] noncomputable def q219 : Q 219 := ⟨⟨41, [], _, _⟩, pf_of tp.2 Tryz.func219 (h := h219) rfl rfl rfl rfl (pS pA (pS (pS pA (pD (pS pA pR) pK)) (pS pA (pS (pS pA (pB (pL (pS pA (pS (pD pK pE) (pS (pB (pS pA pA)) pA)))))) (pS (pX (.o 0 (.o 1 (.o 2 (.o 4 (.o 5 (.o 8 (.o 9 (.o 12 (.o 13 (.l 3 [13,9,5] (.l 6 [13,9] (.o 7 (.l 10 [13] (.o 11 (.l 14 [] (.l 15 [] (.l 16 [] (.o 17 .f))))))))))))))))))) pR)))))⟩
@[reducible] noncomputable def p219 : PF := q219.1
@[reducible] noncomputable def qb219_0 : QB q219.1 0 := ⟨_, by cbv⟩
@[reducible] noncomputable def b219_0 : C := qb219_0.1
@[reducible] noncomputable def q220 : Q 220 := ⟨⟨15, [], _, _⟩, pf_of tp.2 Tryz.func220 (h := h220) rfl rfl rfl rfl (pS pA (pS pA pR))⟩
@[reducible] noncomputable def p220 : PF := q220.1
@[reducible] noncomputable def q221 : Q 221 := ⟨⟨55, [], _, _⟩, pf_of tp.2 Tryz.func221 (h := h221) rfl rfl rfl rfl (pS pA (pS pA (pS (pS pA (pB (pL (pS (pS pA (pD pK pE)) (pS (pB (pS (pS pA (pD (pS pA pR) pK)) (pS pA (pS pA (pS pA (pD (pS (pS pA (pD (pS pA pR) pK)) (pS pA pR)) pK)))))) pA))))) (pS pA pR))))⟩
@[reducible] noncomputable def p221 : PF := q221.1
@[reducible] noncomputable def qb221_0 : QB q221.1 0 := ⟨_, by cbv⟩
@[reducible] noncomputable def b221_0 : C := qb221_0.1
@[reducible] noncomputable def q222 : Q 222 := ⟨⟨49, [], _, _⟩, pf_of tp.2 Tryz.func222 (h := h222) rfl rfl rfl rfl (pS pA (pS pA (pS pA (pS (pS pA (pB (pL (pS (pS pA (pD pK pE)) (pB (pS pA (pS pA (pS pA pA)))))))) (pS (pS (pX (.o 0 (.o 1 (.o 2 (.o 3 (.o 6 (.a (.l 4 [] (.a (.l 5 [] (.l 7 [] (.o 8 (.o 9 .f)))) (.l 7 [] (.l 5 [] (.o 8 (.o 9 .f)))))) (.l 7 [] (.l 4 [] (.l 5 [] (.o 8 (.o 9 .f)))))))))))) (pD (pS pA pR) pK)) (pS pA pR))))))⟩
@[reducible] noncomputable def p222 : PF := q222.1
@[reducible] noncomputable def qb222_0 : QB q222.1 0 := ⟨_, by cbv⟩
@[reducible] noncomputable def b222_0 : C := qb222_0.1
@[reducible] noncomputable def q223 : Q 223 := ⟨⟨112, [], _, _⟩, pf_of tp.2 Tryz.func223 (h := h223) rfl rfl rfl rfl (pS pA (pS pA (pS pA (pS (pS pA (pD (pS pA pR) pK)) (pS pA (pS pA (pS pA (pS pA (pS pA (pS pA (pS (pS pA (pB (pL (pS (pS pA (pD pK pE)) (pS (pB (pS pA pA)) pA))))) (pS pA (pS (pS (pX (.o 0 (.o 1 (.o 2 (.o 3 (.o 4 (.o 5 (.o 6 (.o 7 (.o 8 (.o 9 (.o 10 (.o 11 (.o 12 (.o 13 (.o 14 (.o 15 (.o 16 (.o 17 (.o 18 (.o 19 (.o 20 (.o 22 (.o 23 (.o 24 (.o 25 (.o 26 (.o 27 (.o 28 (.a (.l 21 [] (.l 29 [] (.o 30 (.o 31 .f)))) (.l 29 [] (.l 21 [] (.o 30 (.o 31 .f)))))))))))))))))))))))))))))))))) (pD (pS pA pR) pK)) (pS pA pR))))))))))))))⟩
@[reducible] noncomputable def p223 : PF := q223.1
@[reducible] noncomputable def qb223_0 : QB q223.1 0 := ⟨_, by cbv⟩
@[reducible] noncomputable def b223_0 : C := qb223_0.1
@[reducible] noncomputable def q224 : Q 224 := ⟨⟨104, [1, 1, 1, 1, 1, 1, 1, 1, 1, 1, 1, 1, 1, 1, 1, 1], _, _⟩, pf_of tp.2 Tryz.func224 (h := h224) rfl rfl rfl rfl (pS pA (pS pA (pS (pS pA (pB (pS pA (pD (pS pA pR) (pS pA (pD (pS pA (pS pA pR)) (pS pA (pD (pS pA pR) (pS pA (pD (pS pA (pS (pS pA (pD pA pK)) (pS (pS pA (pD (pS pA pR) pK)) (pS (pX (.o 0 (.o 1 (.o 2 (.o 3 (.o 4 (.o 5 (.o 6 (.o 7 (.o 8 (.l 9 [0] (.l 10 [] (.o 11 .f))))))))))))) pR)))) pK)))))))))) (pS (pS pA (pD (pS pA pR) pK)) (pS pA pR)))))⟩
@[reducible] noncomputable def p224 : PF := q224.1
@[reducible] noncomputable def q225 : Q 225 := ⟨⟨21, [], _, _⟩, pf_of tp.2 Tryz.func225 (h := h225) rfl rfl rfl rfl (pS pA (pS pA (pS (pS pA (pB (pL (pS (pS pA (pD pK pE)) (pS (pB pA) pA))))) (pS pA pR))))⟩
@[reducible] noncomputable def p225 : PF := q225.1
@[reducible] noncomputable def qb225_0 : QB q225.1 0 := ⟨_, by cbv⟩
@[reducible] noncomputable def b225_0 : C := qb225_0.1
@[reducible] noncomputable def q226 : Q 226 := ⟨⟨21, [1, 1, 1, 1, 1, 1, 1, 1, 1, 1, 1, 1, 1, 1, 1, 1], _, _⟩, pf_of tp.2 Tryz.func226 (h := h226) rfl rfl rfl rfl (pS pA (pS pA (pS pA (pS pA pR))))⟩
@[reducible] noncomputable def p226 : PF := q226.1
@[reducible] noncomputable def q227 : Q 227 := ⟨⟨28, [], _, _⟩, pf_of tp.2 Tryz.func227 (h := h227) rfl rfl rfl rfl (pS pA (pS pA (pS (pS pA (pB (pL (pS (pS pA (pD pK pE)) (pS (pB (pS pA (pD pA pK))) pA))))) (pS pA pR))))⟩
@[reducible] noncomputable def p227 : PF := q227.1
@[reducible] noncomputable def qb227_0 : QB q227.1 0 := ⟨_, by cbv⟩
@[reducible] noncomputable def b227_0 : C := qb227_0.1
@[reducible] noncomputable def q228 : Q 228 := ⟨⟨33, [0, 0, 0, 0, 0, 0, 0, 0, 0, 0, 0, 0, 0, 0, 0, 0, 0, 0, 0, 0, 0, 2], _, _⟩, pf_of tp.2 Tryz.func228 (h := h228) rfl rfl rfl rfl (pS pA (pS pA (pS (pS pA (pB (pL (pS (pS pA (pD pK pE)) (pS (pB (pS pA (pD pA pK))) pA))))) (pS pA pR))))⟩
@[reducible] noncomputable def p228 : PF := q228.1
@[reducible] noncomputable def qb228_0 : QB q228.1 0 := ⟨_, by cbv⟩
@[reducible] noncomputable def b228_0 : C := qb228_0.1
@[reducible] noncomputable def q229 : Q 229 := ⟨⟨67, [], _, _⟩, pf_of tp.2 Tryz.func229 (h := h229) rfl rfl rfl rfl (pS pA (pS (pS pA (pD (pS pA pR) pK)) (pS (pB (pS pA (pD (pS pA pR) (pS pA (pD (pS pA pR) pK))))) (pS pA pR))))⟩
@[reducible] noncomputable def p229 : PF := q229.1
@[reducible] noncomputable def q230 : Q 230 := ⟨⟨92, [], _, _⟩, pf_of tp.2 Tryz.func230 (h := h230) rfl rfl rfl rfl (pS pA (pS (pS pA (pD (pS (pX (.o 0 (.o 2 (.l 1 [2] (.l 3 [] (.l 4 [] (.l 5 [] (.o 6 .f)))))))) pR) pK)) (pS pA (pS (pX (.o 0 (.o 2 (.a (.l 1 [2] (.a (.l 3 [] (.a (.l 4 [] (.l 5 [] (.l 6 [] (.l 7 [] .f)))) (.l 5 [] (.l 4 [] (.l 6 [] (.l 7 [] .f)))))) (.a (.l 4 [2] (.a (.l 3 [] (.l 5 [] (.l 6 [] (.l 7 [] .f)))) (.l 5 [2] (.l 3 [] (.l 6 [] (.l 7 [] .f)))))) (.l 5 [2] (.a (.l 3 [] (.l 4 [] (.l 6 [] (.l 7 [] .f)))) (.l 4 [2] (.l 3 [] (.l 6 [] (.l 7 [] .f))))))))) (.a (.l 4 [2,0] (.a (.l 1 [2] (.a (.l 3 [] (.l 5 [] (.l 6 [] (.l 7 [] .f)))) (.l 5 [2] (.l 3 [] (.l 6 [] (.l 7 [] .f)))))) (.l 5 [2,0] (.l 1 [2] (.l 3 [] (.l 6 [] (.l 7 [] .f))))))) (.l 5 [2,0] (.a (.l 1 [2] (.a (.l 3 [] (.l 4 [] (.l 6 [] (.l 7 [] .f)))) (.l 4 [2] (.l 3 [] (.l 6 [] (.l 7 [] .f)))))) (.l 4 [2,0] (.l 1 [2] (.l 3 [] (.l 6 [] (.l 7 [] .f)))))))))))) (pS pA (pS pA (pS pA (pS (pX (.o 0 (.o 1 (.o 2 (.o 3 (.o 5 (.l 4 [3,1] (.l 6 [3,1] (.o 7 (.l 8 [] .f)))))))))) (pS pA (pS (pX (.o 0 (.o 1 (.o 2 (.o 3 (.o 5 (.l 4 [3,1] (.l 6 [3,1] (.o 7 (.l 8 [] .f)))))))))) (pS pA (pS pA (pS pA (pS pA (pS (pS pA (pD (pS (pX (.o 0 (.o 2 (.l 1 [2] (.l 3 [] (.l 4 [] (.l 5 [] (.o 6 .f)))))))) pR) pK)) (pS (pX (.o 0 (.o 1 (.l 2 [1] (.l 3 [] (.o 4 .f)))))) pR))))))))))))))))⟩
@[reducible] noncomputable def p230 : PF := q230.1
@[reducible] noncomputable def q231 : Q 231 := ⟨⟨108, [], _, _⟩, pf_of tp.2 Tryz.func231 (h := h231) rfl rfl rfl rfl (pS pA (pS pA (pS (pS pA (pD (pS pA pR) pK)) (pS (pS pA (pD (pS pA (pS (pX (.o 0 (.o 1 (.o 2 (.o 3 (.o 4 (.o 5 (.o 6 (.o 7 (.o 8 (.l 9 [1] (.o 10 (.l 11 [] .f))))))))))))) (pS (pX (.o 0 (.o 1 (.o 2 (.o 3 (.o 4 (.o 5 (.o 6 (.o 7 (.o 8 (.o 9 (.o 10 (.o 11 (.a (.l 12 [0] (.l 13 [] (.o 14 .f))) (.l 13 [9,6,2] (.l 12 [] (.o 14 .f))))))))))))))))) pR))) pK)) (pS pA (pS pA (pS pA (pS pA (pS (pS pA (pD (pS pA pR) pK)) (pS (pX (.o 0 (.o 1 (.o 2 (.o 3 (.o 4 (.o 5 (.o 6 (.o 8 (.o 9 (.o 10 (.l 7 [10,6,2,0] (.l 11 [6,2,0] (.o 12 (.o 13 (.a (.l 14 [0] (.l 15 [] (.o 16 .f))) (.l 15 [6,2] (.l 14 [] (.o 16 .f))))))))))))))))))) pR))))))))))⟩
@[reducible] noncomputable def p231 : PF := q231.1
@[reducible] noncomputable def q232 : Q 232 := ⟨⟨29, [], _, _⟩, pf_of tp.2 Tryz.func232 (h := h232) rfl rfl rfl rfl (pS pA (pS pA (pS pA (pS (pS pA (pD pA pK)) (pS pA pR)))))⟩
@[reducible] noncomputable def p232 : PF := q232.1
@[reducible] noncomputable def q233 : Q 233 := ⟨⟨11, [], _, _⟩, pf_of tp.2 Tryz.func233 (h := h233) rfl rfl rfl rfl (pS pA (pS (pS pA (pD (pS pA pR) pK)) (pS pA pR)))⟩
@[reducible] noncomputable def p233 : PF := q233.1
@[reducible] noncomputable def q234 : Q 234 := ⟨⟨43, [], _, _⟩, pf_of tp.2 Tryz.func234 (h := h234) rfl rfl rfl rfl (pS pA (pS pA pR))⟩
@[reducible] noncomputable def p234 : PF := q234.1
@[reducible] noncomputable def q235 : Q 235 := ⟨⟨14, [1, 1, 1, 1, 0, 0, 1, 1, 1, 1, 1, 1, 1, 1, 1, 1, 0, 0, 0, 0, 0, 0], _, _⟩, pf_of tp.2 Tryz.func235 (h := h235) rfl rfl rfl rfl (pS pA (pS pA (pS pA (pS pA pR))))⟩
@[reducible] noncomputable def p235 : PF := q235.1
@[reducible] noncomputable def q236 : Q 236 := ⟨⟨83, [], _, _⟩, pf_of tp.2 Tryz.func236 (h := h236) rfl rfl rfl rfl (pS pA (pS (pS pA (pD (pS pA pR) pK)) (pS (pS pA (pD (pS pA pR) pK)) (pS pA pR))))⟩
@[reducible] noncomputable def p236 : PF := q236.1
@[reducible] noncomputable def q237 : Q 237 := ⟨⟨57, [], _, _⟩, pf_of tp.2 Tryz.func237 (h := h237) rfl rfl rfl rfl (pS pA (pS (pS pA (pD (pS pA pR) pK)) (pS pA (pS pA (pS (pS pA (pB (pL (pS (pS pA (pD pK pE)) (pS (pB (pS pA (pS pA (pS pA (pS (pS pA (pD pE pK)) (pS (pS pA (pD pE pK)) (pS pA pR))))))) pA))))) (pS pA pR))))))⟩
@[reducible] noncomputable def p237 : PF := q237.1
@[reducible] noncomputable def qb237_0 : QB q237.1 0 := ⟨_, by cbv⟩
@[reducible] noncomputable def b237_0 : C := qb237_0.1
@[reducible] noncomputable def q238 : Q 238 := ⟨⟨10, [], _, _⟩, pf_of tp.2 Tryz.func238 (h := h238) rfl rfl rfl rfl (pS pA (pS pA pR))⟩
@[reducible] noncomputable def p238 : PF := q238.1
@[reducible] noncomputable def q239 : Q 239 := ⟨⟨19, [], _, _⟩, pf_of tp.2 Tryz.func239 (h := h239) rfl rfl rfl rfl (pS pA (pS pA (pS (pS pA (pB (pL (pS pA (pS (pD pK pE) (pS (pB (pS pA pA)) pA)))))) (pS pA pR))))⟩
@[reducible] noncomputable def p239 : PF := q239.1
@[reducible] noncomputable def qb239_0 : QB q239.1 0 := ⟨_, by cbv⟩
@[reducible] noncomputable def b239_0 : C := qb239_0.1
@[reducible] noncomputable def q240 : Q 240 := ⟨⟨7, [], _, _⟩, pf_of tp.2 Tryz.func240 (h := h240) rfl rfl rfl rfl (pS pA (pS (pS pA (pD (pS pA pR) pK)) (pS pA pR)))⟩
@[reducible] noncomputable def p240 : PF := q240.1
@[reducible] noncomputable def q241 : Q 241 := ⟨⟨96, [], _, _⟩, pf_of tp.2 Tryz.func241 (h := h241) rfl rfl rfl rfl (pS pA (pS pA (pS pA (pS (pS pA (pB (pL (pS (pS pA (pD pK pE)) (pB (pS pA (pS (pS pA (pD (pS pA (pS pA pE)) pK)) (pS (pS pA (pD (pS pA pR) pK)) (pS pA (pS pA (pS (pS pA (pD (pS (pS pA (pD (pS pA pR) pK)) (pS pA pE)) pK)) (pS (pS pA (pD (pS pA pR) pK)) (pS (pS pA (pB (pL (pS (pS pA (pD pK pE)) (pS (pB pA) pA))))) (pS pA (pD (pS pA pR) pK))))))))))))))) (pS (pS pA (pD (pS pA pR) pK)) (pS pA pR))))))⟩
@[reducible] noncomputable def p241 : PF := q241.1
@[reducible] noncomputable def qb241_0 : QB q241.1 1 := ⟨_, by cbv⟩
@[reducible] noncomputable def b241_0 : C := qb241_0.1
@[reducible] noncomputable def qb241_1 : QB q241.1 0 := ⟨_, by cbv⟩
@[reducible] noncomputable def b241_1 : C := qb241_1.1
@[reducible] noncomputable def q242 : Q 242 := ⟨⟨56, [1, 1, 1, 1, 1, 1, 1, 1, 1, 1, 1, 1, 1, 1, 1, 1], _, _⟩, pf_of tp.2 Tryz.func242 (h := h242) rfl rfl rfl rfl (pS pA (pS pA (pS pA (pS (pS pA (pB (pL (pS (pS pA (pD pK pE)) (pS (pB (pS pA (pD (pX (.o 0 (.o 1 (.o 2 (.o 3 (.o 4 (.o 5 (.o 6 (.o 7 (.o 8 (.l 9 [1] (.o 10 (.l 11 [] .f))))))))))))) (pS pA (pD (pX (.o 0 (.o 1 (.o 2 (.o 3 (.o 4 (.o 5 (.o 6 (.o 7 (.o 8 (.l 9 [1] (.o 10 (.l 11 [] .f))))))))))))) pK))))) pA))))) (pS pA (pS pA pR))))))⟩
@[reducible] noncomputable def p242 : PF := q242.1
@[reducible] noncomputable def qb242_0 : QB q242.1 0 := ⟨_, by cbv⟩
@[reducible] noncomputable def b242_0 : C := qb242_0.1
@[reducible] noncomputable def q243 : Q 243 := ⟨⟨26, [1, 1, 1, 1, 1, 1, 1, 1, 1, 1, 1, 1, 1, 1, 1, 1], _, _⟩, pf_of tp.2 Tryz.func243 (h := h243) rfl rfl rfl rfl (pS pA (pS pA (pS pA (pS pA (pS pA (pS (pS pA (pD (pS pA pA) pK)) (pS pA pR)))))))⟩
@[reducible] noncomputable def p243 : PF := q243.1
@[reducible] noncomputable def q244 : Q 244 := ⟨⟨59, [], _, _⟩, pf_of tp.2 Tryz.func244 (h := h244) rfl rfl rfl rfl (pS pA (pS pA (pS (pS pA (pD (pS pA pR) pK)) (pS pA (pS (pX (.o 0 (.o 1 (.o 2 (.o 3 (.o 4 (.o 5 (.o 6 (.o 7 (.o 8 (.l 9 [1] (.o 10 (.l 11 [] .f))))))))))))) (pS pA (pS (pS pA (pD (pS pA pR) pK)) (pS pA pR))))))))⟩
@[reducible] noncomputable def p244 : PF := q244.1
@[reducible] noncomputable def q245 : Q 245 := ⟨⟨60, [], _, _⟩, pf_of tp.2 Tryz.func245 (h := h245) rfl rfl rfl rfl (pS pA (pS pA (pS (pS pA (pD (pS pA pR) pK)) (pS (pS pA (pB (pL (pS (pS pA (pD pK pE)) (pB (pS pA (pS (pS pA (pD (pS pA (pS pA pE)) pK)) (pS (pS pA (pD pA pK)) (pS pA pA))))))))) (pS pA pR)))))⟩
@[reducible] noncomputable def p245 : PF := q245.1
@[reducible] noncomputable def qb245_0 : QB q245.1 0 := ⟨_, by cbv⟩
@[reducible] noncomputable def b245_0 : C := qb245_0.1
@[reducible] noncomputable def q246 : Q 246 := ⟨⟨23, [], _, _⟩, pf_of tp.2 Tryz.func246 (h := h246) rfl rfl rfl rfl (pS pA (pS (pX (.o 0 (.o 1 (.o 2 (.o 3 (.o 4 (.o 5 (.o 6 (.o 7 (.o 8 (.o 9 (.o 10 (.o 11 (.o 12 (.o 13 (.o 14 (.o 15 (.l 16 [] (.o 17 (.o 18 .f)))))))))))))))))))) pR))⟩
@[reducible] noncomputable def p246 : PF := q246.1
@[reducible] noncomputable def q247 : Q 247 := ⟨⟨97, [], _, _⟩, pf_of tp.2 Tryz.func247 (h := h247) rfl rfl rfl rfl (pS pA (pS (pS pA (pD (pS pA pR) pK)) (pS pA (pS (pS pA (pB (pS pA (pD (pS pA pR) (pS pA (pD (pS (pS pA (pD (pS pA pR) pK)) (pS pA pR)) (pS pA (pD (pS (pS pA (pD (pS pA pR) pK)) (pS pA pR)) pK)))))))) (pS (pB (pS (pS pA (pD pK pA)) (pD (pS pA pR) (pS (pS pA (pD pK pA)) (pD (pS pA pR) (pS (pS pA (pD pK (pS pA (pD pK pA)))) (pD (pS pA pR) pK))))))) (pS pA pR))))))⟩
@[reducible] noncomputable def p247 : PF := q247.1
@[reducible] noncomputable def q248 : Q 248 := ⟨⟨29, [], _, _⟩, pf_of tp.2 Tryz.func248 (h := h248) rfl rfl rfl rfl (pS pA (pS (pS pA (pD (pS pA pR) pK)) (pS (pX (.o 0 (.o 1 (.o 2 (.o 3 (.o 4 (.o 5 (.o 6 (.o 7 (.o 8 (.o 9 (.o 10 (.o 11 (.o 12 (.o 13 (.l 14 [] (.o 15 .f))))))))))))))))) pR)))⟩
@[reducible] noncomputable def p248 : PF := q248.1
@[reducible] noncomputable def q249 : Q 249 := ⟨⟨13, [1, 1, 1, 1, 1, 1, 1, 1, 1, 1, 1, 1, 1, 1, 1, 1], _, _⟩, pf_of tp.2 Tryz.func249 (h := h249) rfl rfl rfl rfl (pS pA (pS pA (pS pA (pS pA (pS pA (pS pA (pS pA (pS pA pR))))))))⟩
@[reducible] noncomputable def p249 : PF := q249.1
@[reducible] noncomputable def q250 : Q 250 := ⟨⟨19, [], _, _⟩, pf_of tp.2 Tryz.func250 (h := h250) rfl rfl rfl rfl (pS pA (pS (pX (.o 0 (.l 1 [] (.o 2 (.o 3 (.l 4 [] (.o 5 (.o 6 (.o 7 (.o 8 (.o 10 (.o 11 (.l 9 [11] (.o 12 (.o 13 (.o 14 .f)))))))))))))))) pR))⟩
@[reducible] noncomputable def p250 : PF := q250.1
@[reducible] noncomputable def q251 : Q 251 := ⟨⟨27, [], _, _⟩, pf_of tp.2 Tryz.func251 (h := h251) rfl rfl rfl rfl (pS pA (pS (pS pA (pD (pS pA pR) pK)) (pS pA (pS (pB (pL (pS (pS pA (pD pK pE)) (pB (pS pA pA))))) (pS pA pR)))))⟩
@[reducible] noncomputable def p251 : PF := q251.1
@[reducible] noncomputable def qb251_0 : QB q251.1 0 := ⟨_, by cbv⟩
@[reducible] noncomputable def b251_0 : C := qb251_0.1
@[reducible] noncomputable def q252 : Q 252 := ⟨⟨27, [], _, _⟩, pf_of tp.2 Tryz.func252 (h := h252) rfl rfl rfl rfl (pS pA (pS pA (pS (pS pA (pB (pL (pS (pS pA (pD pK pE)) (pS (pB (pS pA (pS pA (pD (pS pA pA) pK)))) pA))))) (pS pA pR))))⟩
@[reducible] noncomputable def p252 : PF := q252.1
@[reducible] noncomputable def qb252_0 : QB q252.1 0 := ⟨_, by cbv⟩
@[reducible] noncomputable def b252_0 : C := qb252_0.1
end Go.Proofs.YtbolhfegdocpeaaGreat.Ow
