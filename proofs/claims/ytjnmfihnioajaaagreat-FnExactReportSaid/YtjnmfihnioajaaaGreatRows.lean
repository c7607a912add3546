/-
  No cell of these rows narrows 'for every input' (looked for: loops, veiled, ifaces, maps, wideKeys, modest, calm, conditions, laid).
  DERIVED. THE GIVEN ROWS OF THIS SEAT. 6 by the template 'for every input the law returns true; each argument reads behind the call as it read before'; 0 by the template 'total and deterministic' (their statements: YtjnmfihnioajaaaGreatTotals.lean).
  GIVEN WITH THE SEED: the statements are not yours to turn. If you find one false, say at which input.
  Laid BY PROGRAM, IN A SANDBOX (cutbox-rows.mjs): the forced cells as the released guide's own fill.sh prints them over the translation 5840cda145483cb0… (all of the seat's roots in one cut). By AI agents, Wed Nov 11 2026. No macro, syntax, notation, axiom, sorry.
-/
import Derived.Test.YtjnmfihnioajaaaGreatChecked
import GoSem.Claim
import GoSem.ClaimJoined
import GoSem.ClaimMapViews
import Derived.JoinedTies
import Derived.KernelRfl
namespace Go.Proofs.YtjnmfihnioajaaaGreat
/- THE CELL 'sum', in the pinned program and in every row, IS THE sha256 OF THE DUMP (.gsa) THAT YtjnmfihnioajaaaGreatProg.lean LOADS. Nothing in Lean hashes anything: it is a label: what it is worth is what the hold of that sum in a sandbox is worth. -/
noncomputable def Tryz.pinned : Pinned := { name := "ytjnmfihnioajaaagreat", sum := "5840cda145483cb065da80dba5096218702855f0f83dfa7f270a1042185f6dc5", checked := Tryz.checked }
namespace Rows
def none {H : Type} : Left H := { results := [], args := [] }

/-- 'laws.FnExactOwed': WHATEVER THE INPUT: true; the input reads as it did. -/
def fnExactOwedSpec : ChangeSpec := { name := "fnExactOwed", fn := fun _ => fun
  | [d] => { results := [.lit (.bool true)], args := [d] }
  | _ => none }
def fnExactOwedRow : OpenClaim := { program := "ytjnmfihnioajaaagreat", sum := "5840cda145483cb065da80dba5096218702855f0f83dfa7f270a1042185f6dc5", func := "loop.example/g00399/laws.FnExactOwed", spec := "fnExactOwed", unfollowed := true, recurses := true, apart := false }
def FnExactOwedSaid : Prop := fnExactOwedRow.holds Tryz.pinned (OpenSpec.ofChange fnExactOwedSpec)

/-- ITS FALSE NEIGHBOUR: 'it returns false'. Refute it at one input. -/
def fnExactOwedWrong : ChangeSpec := { name := "fnExactOwed", fn := fun _ => fun
  | [d] => { results := [.lit (.bool false)], args := [d] }
  | _ => none }
def FnExactOwedWrongFalsely : Prop := fnExactOwedRow.holds Tryz.pinned (OpenSpec.ofChange fnExactOwedWrong)

/-- 'laws.FnExactStoreOk': WHATEVER THE INPUT: true; the input reads as it did. -/
def fnExactStoreOkSpec : ChangeSpec := { name := "fnExactStoreOk", fn := fun _ => fun
  | [d] => { results := [.lit (.bool true)], args := [d] }
  | _ => none }
def fnExactStoreOkRow : OpenClaim := { program := "ytjnmfihnioajaaagreat", sum := "5840cda145483cb065da80dba5096218702855f0f83dfa7f270a1042185f6dc5", func := "loop.example/g00399/laws.FnExactStoreOk", spec := "fnExactStoreOk", unfollowed := true, recurses := true, apart := false }
def FnExactStoreOkSaid : Prop := fnExactStoreOkRow.holds Tryz.pinned (OpenSpec.ofChange fnExactStoreOkSpec)

/-- ITS FALSE NEIGHBOUR: 'it returns false'. Refute it at one input. -/
def fnExactStoreOkWrong : ChangeSpec := { name := "fnExactStoreOk", fn := fun _ => fun
  | [d] => { results := [.lit (.bool false)], args := [d] }
  | _ => none }
def FnExactStoreOkWrongFalsely : Prop := fnExactStoreOkRow.holds Tryz.pinned (OpenSpec.ofChange fnExactStoreOkWrong)

/-- 'laws.FnExactMomentOf': WHATEVER THE INPUT: true; the input reads as it did. -/
def fnExactMomentOfSpec : ChangeSpec := { name := "fnExactMomentOf", fn := fun _ => fun
  | [d1, d2] => { results := [.lit (.bool true)], args := [d1, d2] }
  | _ => none }
def fnExactMomentOfRow : OpenClaim := { program := "ytjnmfihnioajaaagreat", sum := "5840cda145483cb065da80dba5096218702855f0f83dfa7f270a1042185f6dc5", func := "loop.example/g00399/laws.FnExactMomentOf", spec := "fnExactMomentOf", unfollowed := true, recurses := true, apart := false }
def FnExactMomentOfSaid : Prop := fnExactMomentOfRow.holds Tryz.pinned (OpenSpec.ofChange fnExactMomentOfSpec)

/-- ITS FALSE NEIGHBOUR: 'it returns false'. Refute it at one input. -/
def fnExactMomentOfWrong : ChangeSpec := { name := "fnExactMomentOf", fn := fun _ => fun
  | [d1, d2] => { results := [.lit (.bool false)], args := [d1, d2] }
  | _ => none }
def FnExactMomentOfWrongFalsely : Prop := fnExactMomentOfRow.holds Tryz.pinned (OpenSpec.ofChange fnExactMomentOfWrong)

/-- 'laws.FnExactSure': WHATEVER THE INPUT: true; the input reads as it did. -/
def fnExactSureSpec : ChangeSpec := { name := "fnExactSure", fn := fun _ => fun
  | [d1, d2] => { results := [.lit (.bool true)], args := [d1, d2] }
  | _ => none }
def fnExactSureRow : OpenClaim := { program := "ytjnmfihnioajaaagreat", sum := "5840cda145483cb065da80dba5096218702855f0f83dfa7f270a1042185f6dc5", func := "loop.example/g00399/laws.FnExactSure", spec := "fnExactSure", unfollowed := true, recurses := true, apart := false }
def FnExactSureSaid : Prop := fnExactSureRow.holds Tryz.pinned (OpenSpec.ofChange fnExactSureSpec)

/-- ITS FALSE NEIGHBOUR: 'it returns false'. Refute it at one input. -/
def fnExactSureWrong : ChangeSpec := { name := "fnExactSure", fn := fun _ => fun
  | [d1, d2] => { results := [.lit (.bool false)], args := [d1, d2] }
  | _ => none }
def FnExactSureWrongFalsely : Prop := fnExactSureRow.holds Tryz.pinned (OpenSpec.ofChange fnExactSureWrong)

/-- 'laws.FnExactSnapOf': WHATEVER THE INPUT: true; the input reads as it did. -/
def fnExactSnapOfSpec : ChangeSpec := { name := "fnExactSnapOf", fn := fun _ => fun
  | [d1, d2] => { results := [.lit (.bool true)], args := [d1, d2] }
  | _ => none }
def fnExactSnapOfRow : OpenClaim := { program := "ytjnmfihnioajaaagreat", sum := "5840cda145483cb065da80dba5096218702855f0f83dfa7f270a1042185f6dc5", func := "loop.example/g00399/laws.FnExactSnapOf", spec := "fnExactSnapOf", unfollowed := true, recurses := true, apart := false }
def FnExactSnapOfSaid : Prop := fnExactSnapOfRow.holds Tryz.pinned (OpenSpec.ofChange fnExactSnapOfSpec)

/-- ITS FALSE NEIGHBOUR: 'it returns false'. Refute it at one input. -/
def fnExactSnapOfWrong : ChangeSpec := { name := "fnExactSnapOf", fn := fun _ => fun
  | [d1, d2] => { results := [.lit (.bool false)], args := [d1, d2] }
  | _ => none }
def FnExactSnapOfWrongFalsely : Prop := fnExactSnapOfRow.holds Tryz.pinned (OpenSpec.ofChange fnExactSnapOfWrong)

/-- 'laws.FnExactReport': WHATEVER THE INPUT: true; the input reads as it did. -/
def fnExactReportSpec : ChangeSpec := { name := "fnExactReport", fn := fun _ => fun
  | [d] => { results := [.lit (.bool true)], args := [d] }
  | _ => none }
def fnExactReportRow : OpenClaim := { program := "ytjnmfihnioajaaagreat", sum := "5840cda145483cb065da80dba5096218702855f0f83dfa7f270a1042185f6dc5", func := "loop.example/g00399/laws.FnExactReport", spec := "fnExactReport", inPlace := ["internal/abi.NoEscape", "internal/bytealg.MakeNoZero"], unfollowed := true, recurses := true, apart := false }
def FnExactReportSaid : Prop := fnExactReportRow.holds Tryz.pinned (OpenSpec.ofChange fnExactReportSpec)

/-- ITS FALSE NEIGHBOUR: 'it returns false'. Refute it at one input. -/
def fnExactReportWrong : ChangeSpec := { name := "fnExactReport", fn := fun _ => fun
  | [d] => { results := [.lit (.bool false)], args := [d] }
  | _ => none }
def FnExactReportWrongFalsely : Prop := fnExactReportRow.holds Tryz.pinned (OpenSpec.ofChange fnExactReportWrong)

/- THE SECOND FORM. 'bulk': how many values and letters a reading holds, each counted each time it is reached (what is shared counts as often as it is met; a slice's spare places count too). A statement '..UptoSaid' is the law's where the arguments, and the package variables that the reading takes, are together of bulk at most 1048576: NARROWER than '..Said'. Prove '..Said' where nothing that the law and all that it calls make is longer than what came in: it says more and counts as full. Else prove '..UptoSaid'. A law counts once. -/
mutual
def uptoBulk {H : Type} : DataW H → Nat
  | .lit (.string bytes) => bytes.length + 1
  | .lit _ => 1
  | .nil => 1
  | .ptr d => uptoBulk d + 1
  | .slice elems spare => uptoBulkAll elems + uptoBulkAll spare + 1
  | .agg parts => uptoBulkAll parts + 1
  | .iface _ d => uptoBulk d + 1
  | .map entries => uptoBulkEntries entries + 1
  | .held _ => 1
def uptoBulkAll {H : Type} : List (DataW H) → Nat
  | [] => 0
  | d :: r => uptoBulk d + uptoBulkAll r
def uptoBulkEntries {H : Type} : List (Lit × DataW H) → Nat
  | [] => 0
  | x :: r => uptoBulkEntry x + uptoBulkEntries r
def uptoBulkEntry {H : Type} : Lit × DataW H → Nat
  | (.string bytes, d) => bytes.length + uptoBulk d + 1
  | (_, d) => uptoBulk d + 1
 end
def uptoSmall : (H : Type) → List (DataW H) → Bool := fun _ ds => decide (uptoBulkAll ds ≤ 1048576)
def OpenSpec.upto (s : _root_.Go.ChangeSpec) : _root_.Go.OpenSpec := { _root_.Go.OpenSpec.ofChange s with cond := some uptoSmall }

/-- 'laws.FnExactOwed', WHERE WHAT IT READS IS OF BULK AT MOST 1048576: true; the input reads as it did. -/
def fnExactOwedUptoRow : OpenClaim := { program := "ytjnmfihnioajaaagreat", sum := "5840cda145483cb065da80dba5096218702855f0f83dfa7f270a1042185f6dc5", func := "loop.example/g00399/laws.FnExactOwed", spec := "fnExactOwed", unfollowed := true, recurses := true, apart := false, narrowed := true }
def FnExactOwedUptoSaid : Prop := fnExactOwedUptoRow.holds Tryz.pinned (OpenSpec.upto fnExactOwedSpec)

/-- 'laws.FnExactStoreOk', WHERE WHAT IT READS IS OF BULK AT MOST 1048576: true; the input reads as it did. -/
def fnExactStoreOkUptoRow : OpenClaim := { program := "ytjnmfihnioajaaagreat", sum := "5840cda145483cb065da80dba5096218702855f0f83dfa7f270a1042185f6dc5", func := "loop.example/g00399/laws.FnExactStoreOk", spec := "fnExactStoreOk", unfollowed := true, recurses := true, apart := false, narrowed := true }
def FnExactStoreOkUptoSaid : Prop := fnExactStoreOkUptoRow.holds Tryz.pinned (OpenSpec.upto fnExactStoreOkSpec)

/-- 'laws.FnExactMomentOf', WHERE WHAT IT READS IS OF BULK AT MOST 1048576: true; the input reads as it did. -/
def fnExactMomentOfUptoRow : OpenClaim := { program := "ytjnmfihnioajaaagreat", sum := "5840cda145483cb065da80dba5096218702855f0f83dfa7f270a1042185f6dc5", func := "loop.example/g00399/laws.FnExactMomentOf", spec := "fnExactMomentOf", unfollowed := true, recurses := true, apart := false, narrowed := true }
def FnExactMomentOfUptoSaid : Prop := fnExactMomentOfUptoRow.holds Tryz.pinned (OpenSpec.upto fnExactMomentOfSpec)

/-- 'laws.FnExactSure', WHERE WHAT IT READS IS OF BULK AT MOST 1048576: true; the input reads as it did. -/
def fnExactSureUptoRow : OpenClaim := { program := "ytjnmfihnioajaaagreat", sum := "5840cda145483cb065da80dba5096218702855f0f83dfa7f270a1042185f6dc5", func := "loop.example/g00399/laws.FnExactSure", spec := "fnExactSure", unfollowed := true, recurses := true, apart := false, narrowed := true }
def FnExactSureUptoSaid : Prop := fnExactSureUptoRow.holds Tryz.pinned (OpenSpec.upto fnExactSureSpec)

/-- 'laws.FnExactSnapOf', WHERE WHAT IT READS IS OF BULK AT MOST 1048576: true; the input reads as it did. -/
def fnExactSnapOfUptoRow : OpenClaim := { program := "ytjnmfihnioajaaagreat", sum := "5840cda145483cb065da80dba5096218702855f0f83dfa7f270a1042185f6dc5", func := "loop.example/g00399/laws.FnExactSnapOf", spec := "fnExactSnapOf", unfollowed := true, recurses := true, apart := false, narrowed := true }
def FnExactSnapOfUptoSaid : Prop := fnExactSnapOfUptoRow.holds Tryz.pinned (OpenSpec.upto fnExactSnapOfSpec)

/-- 'laws.FnExactReport', WHERE WHAT IT READS IS OF BULK AT MOST 1048576: true; the input reads as it did. -/
def fnExactReportUptoRow : OpenClaim := { program := "ytjnmfihnioajaaagreat", sum := "5840cda145483cb065da80dba5096218702855f0f83dfa7f270a1042185f6dc5", func := "loop.example/g00399/laws.FnExactReport", spec := "fnExactReport", inPlace := ["internal/abi.NoEscape", "internal/bytealg.MakeNoZero"], unfollowed := true, recurses := true, apart := false, narrowed := true }
def FnExactReportUptoSaid : Prop := fnExactReportUptoRow.holds Tryz.pinned (OpenSpec.upto fnExactReportSpec)

end Rows
end Go.Proofs.YtjnmfihnioajaaaGreat
