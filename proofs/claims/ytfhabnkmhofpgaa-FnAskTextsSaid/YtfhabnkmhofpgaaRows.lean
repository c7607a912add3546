/-
  No cell of these rows narrows 'for every input' (looked for: loops, veiled, ifaces, maps, wideKeys, modest, calm, conditions, laid).
  DERIVED. THE GIVEN ROWS OF THIS SEAT. 12 by the template 'for every input the law returns true; each argument reads behind the call as it read before'; 0 by the template 'total and deterministic' (their statements: YtfhabnkmhofpgaaTotals.lean).
  GIVEN WITH THE SEED: the statements are not yours to turn. If you find one false, say at which input.
  Laid BY PROGRAM, IN A SANDBOX (cutbox-rows.mjs): the forced cells as the released guide's own fill.sh prints them over the translation 83cc2705a1696b52… (all of the seat's roots in one cut). By AI agents, Wed Nov 11 2026. No macro, syntax, notation, axiom, sorry.
-/
import Derived.Test.YtfhabnkmhofpgaaChecked
import GoSem.Claim
import GoSem.ClaimJoined
import GoSem.ClaimMapViews
import Derived.JoinedTies
import Derived.KernelRfl
namespace Go.Proofs.Ytfhabnkmhofpgaa
/- THE CELL 'sum', in the pinned program and in every row, IS THE sha256 OF THE DUMP (.gsa) THAT YtfhabnkmhofpgaaProg.lean LOADS. Nothing in Lean hashes anything: it is a label: what it is worth is what the hold of that sum in a sandbox is worth. -/
noncomputable def Try.pinned : Pinned := { name := "ytfhabnkmhofpgaa", sum := "83cc2705a1696b526b180289f1e46375897c97a1bb9f623ebbc87e2614d395b1", checked := Try.checked }
namespace Rows
def none {H : Type} : Left H := { results := [], args := [] }

/-- 'laws.FnExactPaceOk': WHATEVER THE INPUT: true; the input reads as it did. -/
def fnExactPaceOkSpec : ChangeSpec := { name := "fnExactPaceOk", fn := fun _ => fun
  | [d] => { results := [.lit (.bool true)], args := [d] }
  | _ => none }
def fnExactPaceOkRow : OpenClaim := { program := "ytfhabnkmhofpgaa", sum := "83cc2705a1696b526b180289f1e46375897c97a1bb9f623ebbc87e2614d395b1", func := "loop.example/g00399/laws.FnExactPaceOk", spec := "fnExactPaceOk", apart := false }
def FnExactPaceOkSaid : Prop := fnExactPaceOkRow.holds Try.pinned (OpenSpec.ofChange fnExactPaceOkSpec)

/-- ITS FALSE NEIGHBOUR: 'it returns false'. Refute it at one input. -/
def fnExactPaceOkWrong : ChangeSpec := { name := "fnExactPaceOk", fn := fun _ => fun
  | [d] => { results := [.lit (.bool false)], args := [d] }
  | _ => none }
def FnExactPaceOkWrongFalsely : Prop := fnExactPaceOkRow.holds Try.pinned (OpenSpec.ofChange fnExactPaceOkWrong)

/-- 'laws.FnExactPaceNew': WHATEVER THE INPUT: true; the input reads as it did. -/
def fnExactPaceNewSpec : ChangeSpec := { name := "fnExactPaceNew", fn := fun _ => fun
  | [d1, d2] => { results := [.lit (.bool true)], args := [d1, d2] }
  | _ => none }
def fnExactPaceNewRow : OpenClaim := { program := "ytfhabnkmhofpgaa", sum := "83cc2705a1696b526b180289f1e46375897c97a1bb9f623ebbc87e2614d395b1", func := "loop.example/g00399/laws.FnExactPaceNew", spec := "fnExactPaceNew", apart := false }
def FnExactPaceNewSaid : Prop := fnExactPaceNewRow.holds Try.pinned (OpenSpec.ofChange fnExactPaceNewSpec)

/-- ITS FALSE NEIGHBOUR: 'it returns false'. Refute it at one input. -/
def fnExactPaceNewWrong : ChangeSpec := { name := "fnExactPaceNew", fn := fun _ => fun
  | [d1, d2] => { results := [.lit (.bool false)], args := [d1, d2] }
  | _ => none }
def FnExactPaceNewWrongFalsely : Prop := fnExactPaceNewRow.holds Try.pinned (OpenSpec.ofChange fnExactPaceNewWrong)

/-- 'laws.FnExactSpend': WHATEVER THE INPUT: true; the input reads as it did. -/
def fnExactSpendSpec : ChangeSpec := { name := "fnExactSpend", fn := fun _ => fun
  | [d1, d2] => { results := [.lit (.bool true)], args := [d1, d2] }
  | _ => none }
def fnExactSpendRow : OpenClaim := { program := "ytfhabnkmhofpgaa", sum := "83cc2705a1696b526b180289f1e46375897c97a1bb9f623ebbc87e2614d395b1", func := "loop.example/g00399/laws.FnExactSpend", spec := "fnExactSpend", apart := false }
def FnExactSpendSaid : Prop := fnExactSpendRow.holds Try.pinned (OpenSpec.ofChange fnExactSpendSpec)

/-- ITS FALSE NEIGHBOUR: 'it returns false'. Refute it at one input. -/
def fnExactSpendWrong : ChangeSpec := { name := "fnExactSpend", fn := fun _ => fun
  | [d1, d2] => { results := [.lit (.bool false)], args := [d1, d2] }
  | _ => none }
def FnExactSpendWrongFalsely : Prop := fnExactSpendRow.holds Try.pinned (OpenSpec.ofChange fnExactSpendWrong)

/-- 'laws.FnExactPaceTick': WHATEVER THE INPUT: true; the input reads as it did. -/
def fnExactPaceTickSpec : ChangeSpec := { name := "fnExactPaceTick", fn := fun _ => fun
  | [d] => { results := [.lit (.bool true)], args := [d] }
  | _ => none }
def fnExactPaceTickRow : OpenClaim := { program := "ytfhabnkmhofpgaa", sum := "83cc2705a1696b526b180289f1e46375897c97a1bb9f623ebbc87e2614d395b1", func := "loop.example/g00399/laws.FnExactPaceTick", spec := "fnExactPaceTick", apart := false }
def FnExactPaceTickSaid : Prop := fnExactPaceTickRow.holds Try.pinned (OpenSpec.ofChange fnExactPaceTickSpec)

/-- ITS FALSE NEIGHBOUR: 'it returns false'. Refute it at one input. -/
def fnExactPaceTickWrong : ChangeSpec := { name := "fnExactPaceTick", fn := fun _ => fun
  | [d] => { results := [.lit (.bool false)], args := [d] }
  | _ => none }
def FnExactPaceTickWrongFalsely : Prop := fnExactPaceTickRow.holds Try.pinned (OpenSpec.ofChange fnExactPaceTickWrong)

/-- 'laws.FnExactAskOk': WHATEVER THE INPUT: true; the input reads as it did. -/
def fnExactAskOkSpec : ChangeSpec := { name := "fnExactAskOk", fn := fun _ => fun
  | [d] => { results := [.lit (.bool true)], args := [d] }
  | _ => none }
def fnExactAskOkRow : OpenClaim := { program := "ytfhabnkmhofpgaa", sum := "83cc2705a1696b526b180289f1e46375897c97a1bb9f623ebbc87e2614d395b1", func := "loop.example/g00399/laws.FnExactAskOk", spec := "fnExactAskOk", apart := false }
def FnExactAskOkSaid : Prop := fnExactAskOkRow.holds Try.pinned (OpenSpec.ofChange fnExactAskOkSpec)

/-- ITS FALSE NEIGHBOUR: 'it returns false'. Refute it at one input. -/
def fnExactAskOkWrong : ChangeSpec := { name := "fnExactAskOk", fn := fun _ => fun
  | [d] => { results := [.lit (.bool false)], args := [d] }
  | _ => none }
def FnExactAskOkWrongFalsely : Prop := fnExactAskOkRow.holds Try.pinned (OpenSpec.ofChange fnExactAskOkWrong)

/-- 'laws.FnBetween': WHATEVER THE INPUT: true; the input reads as it did. -/
def fnBetweenSpec : ChangeSpec := { name := "fnBetween", fn := fun _ => fun
  | [d] => { results := [.lit (.bool true)], args := [d] }
  | _ => none }
def fnBetweenRow : OpenClaim := { program := "ytfhabnkmhofpgaa", sum := "83cc2705a1696b526b180289f1e46375897c97a1bb9f623ebbc87e2614d395b1", func := "loop.example/g00399/laws.FnBetween", spec := "fnBetween", apart := false }
def FnBetweenSaid : Prop := fnBetweenRow.holds Try.pinned (OpenSpec.ofChange fnBetweenSpec)

/-- ITS FALSE NEIGHBOUR: 'it returns false'. Refute it at one input. -/
def fnBetweenWrong : ChangeSpec := { name := "fnBetween", fn := fun _ => fun
  | [d] => { results := [.lit (.bool false)], args := [d] }
  | _ => none }
def FnBetweenWrongFalsely : Prop := fnBetweenRow.holds Try.pinned (OpenSpec.ofChange fnBetweenWrong)

/-- 'laws.FnExactBetween': WHATEVER THE INPUT: true; the input reads as it did. -/
def fnExactBetweenSpec : ChangeSpec := { name := "fnExactBetween", fn := fun _ => fun
  | [d1, d2] => { results := [.lit (.bool true)], args := [d1, d2] }
  | _ => none }
def fnExactBetweenRow : OpenClaim := { program := "ytfhabnkmhofpgaa", sum := "83cc2705a1696b526b180289f1e46375897c97a1bb9f623ebbc87e2614d395b1", func := "loop.example/g00399/laws.FnExactBetween", spec := "fnExactBetween", apart := false }
def FnExactBetweenSaid : Prop := fnExactBetweenRow.holds Try.pinned (OpenSpec.ofChange fnExactBetweenSpec)

/-- ITS FALSE NEIGHBOUR: 'it returns false'. Refute it at one input. -/
def fnExactBetweenWrong : ChangeSpec := { name := "fnExactBetween", fn := fun _ => fun
  | [d1, d2] => { results := [.lit (.bool false)], args := [d1, d2] }
  | _ => none }
def FnExactBetweenWrongFalsely : Prop := fnExactBetweenRow.holds Try.pinned (OpenSpec.ofChange fnExactBetweenWrong)

/-- 'laws.FnExactSnapText': WHATEVER THE INPUT: true; the input reads as it did. -/
def fnExactSnapTextSpec : ChangeSpec := { name := "fnExactSnapText", fn := fun _ => fun
  | [d] => { results := [.lit (.bool true)], args := [d] }
  | _ => none }
def fnExactSnapTextRow : OpenClaim := { program := "ytfhabnkmhofpgaa", sum := "83cc2705a1696b526b180289f1e46375897c97a1bb9f623ebbc87e2614d395b1", func := "loop.example/g00399/laws.FnExactSnapText", spec := "fnExactSnapText", recurses := true, apart := false }
def FnExactSnapTextSaid : Prop := fnExactSnapTextRow.holds Try.pinned (OpenSpec.ofChange fnExactSnapTextSpec)

/-- ITS FALSE NEIGHBOUR: 'it returns false'. Refute it at one input. -/
def fnExactSnapTextWrong : ChangeSpec := { name := "fnExactSnapText", fn := fun _ => fun
  | [d] => { results := [.lit (.bool false)], args := [d] }
  | _ => none }
def FnExactSnapTextWrongFalsely : Prop := fnExactSnapTextRow.holds Try.pinned (OpenSpec.ofChange fnExactSnapTextWrong)

/-- 'laws.FnPaces': WHATEVER THE INPUT: true; the input reads as it did. -/
def fnPacesSpec : ChangeSpec := { name := "fnPaces", fn := fun _ => fun
  | [d] => { results := [.lit (.bool true)], args := [d] }
  | _ => none }
def fnPacesRow : OpenClaim := { program := "ytfhabnkmhofpgaa", sum := "83cc2705a1696b526b180289f1e46375897c97a1bb9f623ebbc87e2614d395b1", func := "loop.example/g00399/laws.FnPaces", spec := "fnPaces", apart := false }
def FnPacesSaid : Prop := fnPacesRow.holds Try.pinned (OpenSpec.ofChange fnPacesSpec)

/-- ITS FALSE NEIGHBOUR: 'it returns false'. Refute it at one input. -/
def fnPacesWrong : ChangeSpec := { name := "fnPaces", fn := fun _ => fun
  | [d] => { results := [.lit (.bool false)], args := [d] }
  | _ => none }
def FnPacesWrongFalsely : Prop := fnPacesRow.holds Try.pinned (OpenSpec.ofChange fnPacesWrong)

/-- 'laws.FnExactAnswerText': WHATEVER THE INPUT: true; the input reads as it did. -/
def fnExactAnswerTextSpec : ChangeSpec := { name := "fnExactAnswerText", fn := fun _ => fun
  | [d] => { results := [.lit (.bool true)], args := [d] }
  | _ => none }
def fnExactAnswerTextRow : OpenClaim := { program := "ytfhabnkmhofpgaa", sum := "83cc2705a1696b526b180289f1e46375897c97a1bb9f623ebbc87e2614d395b1", func := "loop.example/g00399/laws.FnExactAnswerText", spec := "fnExactAnswerText", inPlace := ["internal/abi.NoEscape", "internal/bytealg.MakeNoZero"], apart := false }
def FnExactAnswerTextSaid : Prop := fnExactAnswerTextRow.holds Try.pinned (OpenSpec.ofChange fnExactAnswerTextSpec)

/-- ITS FALSE NEIGHBOUR: 'it returns false'. Refute it at one input. -/
def fnExactAnswerTextWrong : ChangeSpec := { name := "fnExactAnswerText", fn := fun _ => fun
  | [d] => { results := [.lit (.bool false)], args := [d] }
  | _ => none }
def FnExactAnswerTextWrongFalsely : Prop := fnExactAnswerTextRow.holds Try.pinned (OpenSpec.ofChange fnExactAnswerTextWrong)

/-- 'laws.FnExactAskText': WHATEVER THE INPUT: true; the input reads as it did. -/
def fnExactAskTextSpec : ChangeSpec := { name := "fnExactAskText", fn := fun _ => fun
  | [d] => { results := [.lit (.bool true)], args := [d] }
  | _ => none }
def fnExactAskTextRow : OpenClaim := { program := "ytfhabnkmhofpgaa", sum := "83cc2705a1696b526b180289f1e46375897c97a1bb9f623ebbc87e2614d395b1", func := "loop.example/g00399/laws.FnExactAskText", spec := "fnExactAskText", inPlace := ["internal/abi.NoEscape", "internal/bytealg.MakeNoZero"], recurses := true, apart := false }
def FnExactAskTextSaid : Prop := fnExactAskTextRow.holds Try.pinned (OpenSpec.ofChange fnExactAskTextSpec)

/-- ITS FALSE NEIGHBOUR: 'it returns false'. Refute it at one input. -/
def fnExactAskTextWrong : ChangeSpec := { name := "fnExactAskText", fn := fun _ => fun
  | [d] => { results := [.lit (.bool false)], args := [d] }
  | _ => none }
def FnExactAskTextWrongFalsely : Prop := fnExactAskTextRow.holds Try.pinned (OpenSpec.ofChange fnExactAskTextWrong)

/-- 'laws.FnAskTexts': WHATEVER THE INPUT: true; the input reads as it did. -/
def fnAskTextsSpec : ChangeSpec := { name := "fnAskTexts", fn := fun _ => fun
  | [d] => { results := [.lit (.bool true)], args := [d] }
  | _ => none }
def fnAskTextsRow : OpenClaim := { program := "ytfhabnkmhofpgaa", sum := "83cc2705a1696b526b180289f1e46375897c97a1bb9f623ebbc87e2614d395b1", func := "loop.example/g00399/laws.FnAskTexts", spec := "fnAskTexts", inPlace := ["internal/abi.NoEscape", "internal/bytealg.MakeNoZero"], recurses := true, apart := false }
def FnAskTextsSaid : Prop := fnAskTextsRow.holds Try.pinned (OpenSpec.ofChange fnAskTextsSpec)

/-- ITS FALSE NEIGHBOUR: 'it returns false'. Refute it at one input. -/
def fnAskTextsWrong : ChangeSpec := { name := "fnAskTexts", fn := fun _ => fun
  | [d] => { results := [.lit (.bool false)], args := [d] }
  | _ => none }
def FnAskTextsWrongFalsely : Prop := fnAskTextsRow.holds Try.pinned (OpenSpec.ofChange fnAskTextsWrong)

/- THE SECOND FORM. 'bulk': how many values and letters a reading holds, each counted each time it is reached (what is shared counts as often as it is met; a slice's spare places count too). A statement '..UptoSaid' is the law's where the arguments, and the package variables that the reading takes, are together of bulk at most 1048576: NARROWER than '..Said'. Prove '..Said' where nothing that the law and all that it calls make is longer than what came in: it says more and counts as full. Else prove '..UptoSaid'. A law counts once. -/
mutual
def uptoBulk {H : Type} : DataW H → Nat
  | .lit (.string bytes) => bytes.length + 1
  | .lit _ => 1
  | .nil => 1
  | .ptr d => uptoBulk d + 1
  | .slice elems spare => uptoBulkAll elems + uptoBulkAll spare + 1
  | .agg parts => uptoBulkAll parts + 1
  | .iface _ d => uptoBulk d + 1
  | .map entries => uptoBulkEntries entries + 1
  | .held _ => 1
def uptoBulkAll {H : Type} : List (DataW H) → Nat
  | [] => 0
  | d :: r => uptoBulk d + uptoBulkAll r
def uptoBulkEntries {H : Type} : List (Lit × DataW H) → Nat
  | [] => 0
  | x :: r => uptoBulkEntry x + uptoBulkEntries r
def uptoBulkEntry {H : Type} : Lit × DataW H → Nat
  | (.string bytes, d) => bytes.length + uptoBulk d + 1
  | (_, d) => uptoBulk d + 1
 end
def uptoSmall : (H : Type) → List (DataW H) → Bool := fun _ ds => decide (uptoBulkAll ds ≤ 1048576)
def OpenSpec.upto (s : _root_.Go.ChangeSpec) : _root_.Go.OpenSpec := { _root_.Go.OpenSpec.ofChange s with cond := some uptoSmall }

/-- 'laws.FnExactPaceOk', WHERE WHAT IT READS IS OF BULK AT MOST 1048576: true; the input reads as it did. -/
def fnExactPaceOkUptoRow : OpenClaim := { program := "ytfhabnkmhofpgaa", sum := "83cc2705a1696b526b180289f1e46375897c97a1bb9f623ebbc87e2614d395b1", func := "loop.example/g00399/laws.FnExactPaceOk", spec := "fnExactPaceOk", apart := false, narrowed := true }
def FnExactPaceOkUptoSaid : Prop := fnExactPaceOkUptoRow.holds Try.pinned (OpenSpec.upto fnExactPaceOkSpec)

/-- 'laws.FnExactPaceNew', WHERE WHAT IT READS IS OF BULK AT MOST 1048576: true; the input reads as it did. -/
def fnExactPaceNewUptoRow : OpenClaim := { program := "ytfhabnkmhofpgaa", sum := "83cc2705a1696b526b180289f1e46375897c97a1bb9f623ebbc87e2614d395b1", func := "loop.example/g00399/laws.FnExactPaceNew", spec := "fnExactPaceNew", apart := false, narrowed := true }
def FnExactPaceNewUptoSaid : Prop := fnExactPaceNewUptoRow.holds Try.pinned (OpenSpec.upto fnExactPaceNewSpec)

/-- 'laws.FnExactSpend', WHERE WHAT IT READS IS OF BULK AT MOST 1048576: true; the input reads as it did. -/
def fnExactSpendUptoRow : OpenClaim := { program := "ytfhabnkmhofpgaa", sum := "83cc2705a1696b526b180289f1e46375897c97a1bb9f623ebbc87e2614d395b1", func := "loop.example/g00399/laws.FnExactSpend", spec := "fnExactSpend", apart := false, narrowed := true }
def FnExactSpendUptoSaid : Prop := fnExactSpendUptoRow.holds Try.pinned (OpenSpec.upto fnExactSpendSpec)

/-- 'laws.FnExactPaceTick', WHERE WHAT IT READS IS OF BULK AT MOST 1048576: true; the input reads as it did. -/
def fnExactPaceTickUptoRow : OpenClaim := { program := "ytfhabnkmhofpgaa", sum := "83cc2705a1696b526b180289f1e46375897c97a1bb9f623ebbc87e2614d395b1", func := "loop.example/g00399/laws.FnExactPaceTick", spec := "fnExactPaceTick", apart := false, narrowed := true }
def FnExactPaceTickUptoSaid : Prop := fnExactPaceTickUptoRow.holds Try.pinned (OpenSpec.upto fnExactPaceTickSpec)

/-- 'laws.FnExactAskOk', WHERE WHAT IT READS IS OF BULK AT MOST 1048576: true; the input reads as it did. -/
def fnExactAskOkUptoRow : OpenClaim := { program := "ytfhabnkmhofpgaa", sum := "83cc2705a1696b526b180289f1e46375897c97a1bb9f623ebbc87e2614d395b1", func := "loop.example/g00399/laws.FnExactAskOk", spec := "fnExactAskOk", apart := false, narrowed := true }
def FnExactAskOkUptoSaid : Prop := fnExactAskOkUptoRow.holds Try.pinned (OpenSpec.upto fnExactAskOkSpec)

/-- 'laws.FnBetween', WHERE WHAT IT READS IS OF BULK AT MOST 1048576: true; the input reads as it did. -/
def fnBetweenUptoRow : OpenClaim := { program := "ytfhabnkmhofpgaa", sum := "83cc2705a1696b526b180289f1e46375897c97a1bb9f623ebbc87e2614d395b1", func := "loop.example/g00399/laws.FnBetween", spec := "fnBetween", apart := false, narrowed := true }
def FnBetweenUptoSaid : Prop := fnBetweenUptoRow.holds Try.pinned (OpenSpec.upto fnBetweenSpec)

/-- 'laws.FnExactBetween', WHERE WHAT IT READS IS OF BULK AT MOST 1048576: true; the input reads as it did. -/
def fnExactBetweenUptoRow : OpenClaim := { program := "ytfhabnkmhofpgaa", sum := "83cc2705a1696b526b180289f1e46375897c97a1bb9f623ebbc87e2614d395b1", func := "loop.example/g00399/laws.FnExactBetween", spec := "fnExactBetween", apart := false, narrowed := true }
def FnExactBetweenUptoSaid : Prop := fnExactBetweenUptoRow.holds Try.pinned (OpenSpec.upto fnExactBetweenSpec)

/-- 'laws.FnExactSnapText', WHERE WHAT IT READS IS OF BULK AT MOST 1048576: true; the input reads as it did. -/
def fnExactSnapTextUptoRow : OpenClaim := { program := "ytfhabnkmhofpgaa", sum := "83cc2705a1696b526b180289f1e46375897c97a1bb9f623ebbc87e2614d395b1", func := "loop.example/g00399/laws.FnExactSnapText", spec := "fnExactSnapText", recurses := true, apart := false, narrowed := true }
def FnExactSnapTextUptoSaid : Prop := fnExactSnapTextUptoRow.holds Try.pinned (OpenSpec.upto fnExactSnapTextSpec)

/-- 'laws.FnPaces', WHERE WHAT IT READS IS OF BULK AT MOST 1048576: true; the input reads as it did. -/
def fnPacesUptoRow : OpenClaim := { program := "ytfhabnkmhofpgaa", sum := "83cc2705a1696b526b180289f1e46375897c97a1bb9f623ebbc87e2614d395b1", func := "loop.example/g00399/laws.FnPaces", spec := "fnPaces", apart := false, narrowed := true }
def FnPacesUptoSaid : Prop := fnPacesUptoRow.holds Try.pinned (OpenSpec.upto fnPacesSpec)

/-- 'laws.FnExactAnswerText', WHERE WHAT IT READS IS OF BULK AT MOST 1048576: true; the input reads as it did. -/
def fnExactAnswerTextUptoRow : OpenClaim := { program := "ytfhabnkmhofpgaa", sum := "83cc2705a1696b526b180289f1e46375897c97a1bb9f623ebbc87e2614d395b1", func := "loop.example/g00399/laws.FnExactAnswerText", spec := "fnExactAnswerText", inPlace := ["internal/abi.NoEscape", "internal/bytealg.MakeNoZero"], apart := false, narrowed := true }
def FnExactAnswerTextUptoSaid : Prop := fnExactAnswerTextUptoRow.holds Try.pinned (OpenSpec.upto fnExactAnswerTextSpec)

/-- 'laws.FnExactAskText', WHERE WHAT IT READS IS OF BULK AT MOST 1048576: true; the input reads as it did. -/
def fnExactAskTextUptoRow : OpenClaim := { program := "ytfhabnkmhofpgaa", sum := "83cc2705a1696b526b180289f1e46375897c97a1bb9f623ebbc87e2614d395b1", func := "loop.example/g00399/laws.FnExactAskText", spec := "fnExactAskText", inPlace := ["internal/abi.NoEscape", "internal/bytealg.MakeNoZero"], recurses := true, apart := false, narrowed := true }
def FnExactAskTextUptoSaid : Prop := fnExactAskTextUptoRow.holds Try.pinned (OpenSpec.upto fnExactAskTextSpec)

/-- 'laws.FnAskTexts', WHERE WHAT IT READS IS OF BULK AT MOST 1048576: true; the input reads as it did. -/
def fnAskTextsUptoRow : OpenClaim := { program := "ytfhabnkmhofpgaa", sum := "83cc2705a1696b526b180289f1e46375897c97a1bb9f623ebbc87e2614d395b1", func := "loop.example/g00399/laws.FnAskTexts", spec := "fnAskTexts", inPlace := ["internal/abi.NoEscape", "internal/bytealg.MakeNoZero"], recurses := true, apart := false, narrowed := true }
def FnAskTextsUptoSaid : Prop := fnAskTextsUptoRow.holds Try.pinned (OpenSpec.upto fnAskTextsSpec)

end Rows
end Go.Proofs.Ytfhabnkmhofpgaa
