/-
  No cell of these rows narrows 'for every input' (looked for: loops, veiled, ifaces, maps, wideKeys, modest, calm, conditions, laid).
  DERIVED. THE GIVEN ROWS OF THIS SEAT. 3 by the template 'for every input the law returns true; each argument reads behind the call as it read before'; 0 by the template 'total and deterministic' (their statements: YtcbcackolaphhaaGreatTotals.lean).
  GIVEN WITH THE SEED: the statements are not yours to turn. If you find one false, say at which input.
  Laid BY PROGRAM, IN A SANDBOX (cutbox-rows.mjs): the forced cells as the released guide's own fill.sh prints them over the translation 82132381e584e202… (all of the seat's roots in one cut). By AI agents, Wed Nov 11 2026. No macro, syntax, notation, axiom, sorry.
-/
import Derived.Test.YtcbcackolaphhaaGreatChecked
import GoSem.Claim
import GoSem.ClaimJoined
import GoSem.ClaimMapViews
import Derived.JoinedTies
import Derived.KernelRfl
namespace Go.Proofs.YtcbcackolaphhaaGreat
/- THE CELL 'sum', in the pinned program and in every row, IS THE sha256 OF THE DUMP (.gsa) THAT YtcbcackolaphhaaGreatProg.lean LOADS. Nothing in Lean hashes anything: it is a label: what it is worth is what the hold of that sum in a sandbox is worth. -/
noncomputable def Tryz.pinned : Pinned := { name := "ytcbcackolaphhaagreat", sum := "82132381e584e202fb028d3f68bd136d0c0e59f6e959ef1edb81f68e8dfd1853", checked := Tryz.checked }
namespace Rows
def none {H : Type} : Left H := { results := [], args := [] }

/-- 'laws.FnExactBlockAt': WHATEVER THE INPUT: true; the input reads as it did. -/
def fnExactBlockAtSpec : ChangeSpec := { name := "fnExactBlockAt", fn := fun _ => fun
  | [d1, d2, d3] => { results := [.lit (.bool true)], args := [d1, d2, d3] }
  | _ => none }
def fnExactBlockAtRow : OpenClaim := { program := "ytcbcackolaphhaagreat", sum := "82132381e584e202fb028d3f68bd136d0c0e59f6e959ef1edb81f68e8dfd1853", func := "loop.example/g00399/laws.FnExactBlockAt", spec := "fnExactBlockAt", unfollowed := true, recurses := true, apart := false }
def FnExactBlockAtSaid : Prop := fnExactBlockAtRow.holds Tryz.pinned (OpenSpec.ofChange fnExactBlockAtSpec)

/-- ITS FALSE NEIGHBOUR: 'it returns false'. Refute it at one input. -/
def fnExactBlockAtWrong : ChangeSpec := { name := "fnExactBlockAt", fn := fun _ => fun
  | [d1, d2, d3] => { results := [.lit (.bool false)], args := [d1, d2, d3] }
  | _ => none }
def FnExactBlockAtWrongFalsely : Prop := fnExactBlockAtRow.holds Tryz.pinned (OpenSpec.ofChange fnExactBlockAtWrong)

/-- 'laws.FnExactGetBytes': WHATEVER THE INPUT: true; the input reads as it did. -/
def fnExactGetBytesSpec : ChangeSpec := { name := "fnExactGetBytes", fn := fun _ => fun
  | [d1, d2, d3, d4] => { results := [.lit (.bool true)], args := [d1, d2, d3, d4] }
  | _ => none }
def fnExactGetBytesRow : OpenClaim := { program := "ytcbcackolaphhaagreat", sum := "82132381e584e202fb028d3f68bd136d0c0e59f6e959ef1edb81f68e8dfd1853", func := "loop.example/g00399/laws.FnExactGetBytes", spec := "fnExactGetBytes", unfollowed := true, recurses := true, apart := false }
def FnExactGetBytesSaid : Prop := fnExactGetBytesRow.holds Tryz.pinned (OpenSpec.ofChange fnExactGetBytesSpec)

/-- ITS FALSE NEIGHBOUR: 'it returns false'. Refute it at one input. -/
def fnExactGetBytesWrong : ChangeSpec := { name := "fnExactGetBytes", fn := fun _ => fun
  | [d1, d2, d3, d4] => { results := [.lit (.bool false)], args := [d1, d2, d3, d4] }
  | _ => none }
def FnExactGetBytesWrongFalsely : Prop := fnExactGetBytesRow.holds Tryz.pinned (OpenSpec.ofChange fnExactGetBytesWrong)

/-- 'laws.FnExactTrouble': WHATEVER THE INPUT: true; the input reads as it did. -/
def fnExactTroubleSpec : ChangeSpec := { name := "fnExactTrouble", fn := fun _ => fun
  | [d] => { results := [.lit (.bool true)], args := [d] }
  | _ => none }
def fnExactTroubleRow : OpenClaim := { program := "ytcbcackolaphhaagreat", sum := "82132381e584e202fb028d3f68bd136d0c0e59f6e959ef1edb81f68e8dfd1853", func := "loop.example/g00399/laws.FnExactTrouble", spec := "fnExactTrouble", inPlace := ["internal/abi.NoEscape", "internal/bytealg.MakeNoZero"], unfollowed := true, recurses := true, apart := false }
def FnExactTroubleSaid : Prop := fnExactTroubleRow.holds Tryz.pinned (OpenSpec.ofChange fnExactTroubleSpec)

/-- ITS FALSE NEIGHBOUR: 'it returns false'. Refute it at one input. -/
def fnExactTroubleWrong : ChangeSpec := { name := "fnExactTrouble", fn := fun _ => fun
  | [d] => { results := [.lit (.bool false)], args := [d] }
  | _ => none }
def FnExactTroubleWrongFalsely : Prop := fnExactTroubleRow.holds Tryz.pinned (OpenSpec.ofChange fnExactTroubleWrong)

/- THE SECOND FORM. 'bulk': how many values and letters a reading holds, each counted each time it is reached (what is shared counts as often as it is met; a slice's spare places count too). A statement '..UptoSaid' is the law's where the arguments, and the package variables that the reading takes, are together of bulk at most 1048576: NARROWER than '..Said'. Prove '..Said' where nothing that the law and all that it calls make is longer than what came in: it says more and counts as full. Else prove '..UptoSaid'. A law counts once. -/
mutual
def uptoBulk {H : Type} : DataW H → Nat
  | .lit (.string bytes) => bytes.length + 1
  | .lit _ => 1
  | .nil => 1
  | .ptr d => uptoBulk d + 1
  | .slice elems spare => uptoBulkAll elems + uptoBulkAll spare + 1
  | .agg parts => uptoBulkAll parts + 1
  | .iface _ d => uptoBulk d + 1
  | .map entries => uptoBulkEntries entries + 1
  | .held _ => 1
def uptoBulkAll {H : Type} : List (DataW H) → Nat
  | [] => 0
  | d :: r => uptoBulk d + uptoBulkAll r
def uptoBulkEntries {H : Type} : List (Lit × DataW H) → Nat
  | [] => 0
  | x :: r => uptoBulkEntry x + uptoBulkEntries r
def uptoBulkEntry {H : Type} : Lit × DataW H → Nat
  | (.string bytes, d) => bytes.length + uptoBulk d + 1
  | (_, d) => uptoBulk d + 1
 end
def uptoSmall : (H : Type) → List (DataW H) → Bool := fun _ ds => decide (uptoBulkAll ds ≤ 1048576)
def OpenSpec.upto (s : _root_.Go.ChangeSpec) : _root_.Go.OpenSpec := { _root_.Go.OpenSpec.ofChange s with cond := some uptoSmall }

/-- 'laws.FnExactBlockAt', WHERE WHAT IT READS IS OF BULK AT MOST 1048576: true; the input reads as it did. -/
def fnExactBlockAtUptoRow : OpenClaim := { program := "ytcbcackolaphhaagreat", sum := "82132381e584e202fb028d3f68bd136d0c0e59f6e959ef1edb81f68e8dfd1853", func := "loop.example/g00399/laws.FnExactBlockAt", spec := "fnExactBlockAt", unfollowed := true, recurses := true, apart := false, narrowed := true }
def FnExactBlockAtUptoSaid : Prop := fnExactBlockAtUptoRow.holds Tryz.pinned (OpenSpec.upto fnExactBlockAtSpec)

/-- 'laws.FnExactGetBytes', WHERE WHAT IT READS IS OF BULK AT MOST 1048576: true; the input reads as it did. -/
def fnExactGetBytesUptoRow : OpenClaim := { program := "ytcbcackolaphhaagreat", sum := "82132381e584e202fb028d3f68bd136d0c0e59f6e959ef1edb81f68e8dfd1853", func := "loop.example/g00399/laws.FnExactGetBytes", spec := "fnExactGetBytes", unfollowed := true, recurses := true, apart := false, narrowed := true }
def FnExactGetBytesUptoSaid : Prop := fnExactGetBytesUptoRow.holds Tryz.pinned (OpenSpec.upto fnExactGetBytesSpec)

/-- 'laws.FnExactTrouble', WHERE WHAT IT READS IS OF BULK AT MOST 1048576: true; the input reads as it did. -/
def fnExactTroubleUptoRow : OpenClaim := { program := "ytcbcackolaphhaagreat", sum := "82132381e584e202fb028d3f68bd136d0c0e59f6e959ef1edb81f68e8dfd1853", func := "loop.example/g00399/laws.FnExactTrouble", spec := "fnExactTrouble", inPlace := ["internal/abi.NoEscape", "internal/bytealg.MakeNoZero"], unfollowed := true, recurses := true, apart := false, narrowed := true }
def FnExactTroubleUptoSaid : Prop := fnExactTroubleUptoRow.holds Tryz.pinned (OpenSpec.upto fnExactTroubleSpec)

end Rows
end Go.Proofs.YtcbcackolaphhaaGreat
