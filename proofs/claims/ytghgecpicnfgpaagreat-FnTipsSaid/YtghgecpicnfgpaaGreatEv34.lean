/- What all drawn laws begin with: a code is not too long; its bytes. -/
import Derived.Test.YtghgecpicnfgpaaGreatEv30
namespace Go.Proofs.YtghgecpicnfgpaaGreat.Ow
open Go
set_option linter.unusedVariables false
set_option linter.unusedSimpArgs false
set_option maxHeartbeats 4000000
theorem ev_big [PKI] (x:LI) (h:x.length<=9223372036854775807):sG 7 [.v (.im 1 (enc fU x))]=some ⟨[.v (.sc (.bool (decide (1048576<x.length))))],[],[]⟩:=by
 refine sK p7 ?_;have e:decide ((1048576:Int)<x.length)=decide (1048576<x.length):=by
  by_cases h:1048576<x.length
  ·rw[decide_eq_true h,decide_eq_true (by omega)]
  ·rw[decide_eq_false h,decide_eq_false (by omega)]
 simp[p7,  e]
theorem okU_byt {x:LI} (h:okU x) (hl:x.length<=1048576):byt x:=⟨hl,λn hn=>by
 have:=h.2 n hn;simp[Lit.wf,IntKind.min,IntKind.max,IntKind.bits,IntKind.signed]at this;omega⟩
end Go.Proofs.YtghgecpicnfgpaaGreat.Ow
