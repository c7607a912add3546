/- What all drawn laws begin with: a code is not too long; its bytes. -/
import Derived.Test.YtbolhfegdocpeaaGreatEv26
namespace Go.Proofs.YtbolhfegdocpeaaGreat.Ow
open Go
set_option linter.unusedVariables false
set_option linter.unusedSimpArgs false
set_option maxHeartbeats 4000000
variable {PK:Nat->List Arg->Option Res}
theorem ev_big (x:List Int) (h:x.length<=9223372036854775807):AH G PK md 7 [.v (.im 1 (enc fU x))]=some ⟨[.v (.sc (.bool (decide (1048576<x.length))))],[],[]⟩:=by
 refine AA (pf:=p7) rfl (by simp[p7]) ?_;have e:decide ((1048576:Int)<x.length)=decide (1048576<x.length):=by
  by_cases h:1048576<x.length
  ·rw[decide_eq_true h,decide_eq_true (by omega)]
  ·rw[decide_eq_false h,decide_eq_false (by omega)]
 simp[p7,md,e]
theorem okU_byt {x:List Int} (h:okU x) (hl:x.length<=1048576):byt x:=⟨hl,fun n hn=>by
 have:=h.2 n hn;simp[Lit.wf,IntKind.min,IntKind.max,IntKind.bits,IntKind.signed]at this;omega⟩
end Go.Proofs.YtbolhfegdocpeaaGreat.Ow
