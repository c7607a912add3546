/- The texts of the functions: part 5. -/
import Derived.Test.YtbolhfegdocpeaaGreatPFa
import Derived.Test.YtbolhfegdocpeaaGreatProg
import Derived.KernelRfl
namespace Go.Proofs.YtbolhfegdocpeaaGreat.Ow
open Go
set_option maxRecDepth 100000
set_option maxHeartbeats 8000000
@[reducible] noncomputable def q253 : Q 253 := ⟨⟨53, [], _, _⟩, pf_of tp.2 Tryz.func253 (h := h253) rfl rfl rfl rfl (pS pA (pS (pB (pS (pS pA (pD pK (pX (.o 0 (.o 1 (.o 2 (.o 3 (.o 4 (.o 5 (.o 6 (.o 7 (.o 8 (.o 9 (.o 10 (.o 11 (.o 12 (.o 13 (.o 14 (.o 15 (.o 16 (.o 17 .f))))))))))))))))))))) (pD (pS pA pR) (pS pA (pD (pS pA pR) (pS pA (pD (pS pA pR) pK))))))) (pS pA pR)))⟩
@[reducible] noncomputable def p253 : PF := q253.1
@[reducible] noncomputable def q254 : Q 254 := ⟨⟨34, [], _, _⟩, pf_of tp.2 Tryz.func254 (h := h254) rfl rfl rfl rfl (pS pA (pS pA (pS (pS pA (pB (pL (pS (pS pA (pD pK pE)) (pS (pB pA) pA))))) (pS (pS pA (pB (pL (pS (pS pA (pD pK pE)) (pS (pB pA) pA))))) (pS pA pR)))))⟩
@[reducible] noncomputable def p254 : PF := q254.1
@[reducible] noncomputable def qb254_0 : QB q254.1 1 := ⟨_, by cbv⟩
@[reducible] noncomputable def b254_0 : C := qb254_0.1
@[reducible] noncomputable def qb254_1 : QB q254.1 0 := ⟨_, by cbv⟩
@[reducible] noncomputable def b254_1 : C := qb254_1.1
@[reducible] noncomputable def q255 : Q 255 := ⟨⟨51, [], _, _⟩, pf_of tp.2 Tryz.func255 (h := h255) rfl rfl rfl rfl (pS pA (pS pA (pS (pS pA (pD (pS pA pR) pK)) (pS (pB (pL (pS (pS (pX (.o 0 (.o 1 (.o 2 (.o 3 (.o 4 (.o 5 (.o 6 (.o 7 (.o 8 (.o 9 (.o 10 (.o 11 (.o 12 (.o 13 (.o 14 (.o 15 (.o 16 (.o 17 (.o 18 (.o 19 (.o 20 (.o 21 (.o 22 (.o 23 (.o 24 (.o 25 (.o 26 .f)))))))))))))))))))))))))))) (pD pK pE)) (pB pA)))) (pS pA pR)))))⟩
@[reducible] noncomputable def p255 : PF := q255.1
@[reducible] noncomputable def qb255_0 : QB q255.1 0 := ⟨_, by cbv⟩
@[reducible] noncomputable def b255_0 : C := qb255_0.1
end Go.Proofs.YtbolhfegdocpeaaGreat.Ow
