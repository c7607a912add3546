/- The texts of the functions: part 5. -/
import Derived.Test.YtbolhfegdocpeaaGreatPFa
import Derived.Test.YtbolhfegdocpeaaGreatProg
import Derived.KernelRfl
namespace Go.Proofs.YtbolhfegdocpeaaGreat.Ow
open Go
set_option maxRecDepth 100000
set_option maxHeartbeats 8000000
noncomputable section
abbrev q253:Q 253:=⟨⟨53,[],_,_⟩,pF h253 Tryz.func253 rfl (pU (pS (pB (pS (pU (pD pK (pX (.r 0 18 .f)))) (pD (pU pR) (pU (pD (pU pR) (pU (pD (pU pR) pK))))))) (pU pR)))⟩
abbrev p253:=q253.1
abbrev q254:Q 254:=⟨⟨34,[],_,_⟩,pF h254 Tryz.func254 rfl (pU (pU (pS (pU (pB (pL (pS (pU (pD pK pE)) (pS (pB pA) pA))))) (pS (pU (pB (pL (pS (pU (pD pK pE)) (pS (pB pA) pA))))) (pU pR)))))⟩
abbrev p254:=q254.1
abbrev qb254_0:QB q254.1 1:=⟨_,by cbv⟩
abbrev b254_0:=qb254_0.1
abbrev qb254_1:QB q254.1 0:=⟨_,by cbv⟩
abbrev b254_1:=qb254_1.1
abbrev q255:Q 255:=⟨⟨51,[],_,_⟩,pF h255 Tryz.func255 rfl (pU (pU (pS (pU (pD (pU pR) pK)) (pS (pB (pL (pS (pS (pX (.r 0 27 .f)) (pD pK pE)) (pB pA)))) (pU pR)))))⟩
abbrev p255:=q255.1
abbrev qb255_0:QB q255.1 0:=⟨_,by cbv⟩
abbrev b255_0:=qb255_0.1
end
end Go.Proofs.YtbolhfegdocpeaaGreat.Ow
