/-
  No cell of these rows narrows 'for every input' (looked for: loops, veiled, ifaces, maps, wideKeys, modest, calm, conditions, laid).
  DERIVED. THE GIVEN ROWS OF THIS SEAT. 4 by the template 'for every input the law returns true; each argument reads behind the call as it read before'; 0 by the template 'total and deterministic' (their statements: YtghgecpicnfgpaaGreatTotals.lean).
  GIVEN WITH THE SEED: the statements are not yours to turn. If you find one false, say at which input.
  Laid BY PROGRAM, IN A SANDBOX (cutbox-rows.mjs): the forced cells as the released guide's own fill.sh prints them over the translation 95382b06f27f2818… (all of the seat's roots in one cut). By AI agents, Wed Nov 11 2026. No macro, syntax, notation, axiom, sorry.
-/
import Derived.Test.YtghgecpicnfgpaaGreatChecked
import GoSem.Claim
import GoSem.ClaimJoined
import GoSem.ClaimMapViews
import Derived.JoinedTies
import Derived.KernelRfl
namespace Go.Proofs.YtghgecpicnfgpaaGreat
/- THE CELL 'sum', in the pinned program and in every row, IS THE sha256 OF THE DUMP (.gsa) THAT YtghgecpicnfgpaaGreatProg.lean LOADS. Nothing in Lean hashes anything: it is a label: what it is worth is what the hold of that sum in a sandbox is worth. -/
noncomputable def Tryz.pinned : Pinned := { name := "ytghgecpicnfgpaagreat", sum := "95382b06f27f2818bb6fc06c7fe5ef6000f2dadde32251e4fd083fd1ccda78ea", checked := Tryz.checked }
namespace Rows
def none {H : Type} : Left H := { results := [], args := [] }

/-- 'laws.FnLinks': WHATEVER THE INPUT: true; the input reads as it did. -/
def fnLinksSpec : ChangeSpec := { name := "fnLinks", fn := fun _ => fun
  | [d] => { results := [.lit (.bool true)], args := [d] }
  | _ => none }
def fnLinksRow : OpenClaim := { program := "ytghgecpicnfgpaagreat", sum := "95382b06f27f2818bb6fc06c7fe5ef6000f2dadde32251e4fd083fd1ccda78ea", func := "loop.example/g00399/laws.FnLinks", spec := "fnLinks", inPlace := ["slices.overlaps[int]"], unfollowed := true, recurses := true, apart := false }
def FnLinksSaid : Prop := fnLinksRow.holds Tryz.pinned (OpenSpec.ofChange fnLinksSpec)

/-- ITS FALSE NEIGHBOUR: 'it returns false'. Refute it at one input. -/
def fnLinksWrong : ChangeSpec := { name := "fnLinks", fn := fun _ => fun
  | [d] => { results := [.lit (.bool false)], args := [d] }
  | _ => none }
def FnLinksWrongFalsely : Prop := fnLinksRow.holds Tryz.pinned (OpenSpec.ofChange fnLinksWrong)

/-- 'laws.FnDepths': WHATEVER THE INPUT: true; the input reads as it did. -/
def fnDepthsSpec : ChangeSpec := { name := "fnDepths", fn := fun _ => fun
  | [d] => { results := [.lit (.bool true)], args := [d] }
  | _ => none }
def fnDepthsRow : OpenClaim := { program := "ytghgecpicnfgpaagreat", sum := "95382b06f27f2818bb6fc06c7fe5ef6000f2dadde32251e4fd083fd1ccda78ea", func := "loop.example/g00399/laws.FnDepths", spec := "fnDepths", inPlace := ["slices.overlaps[int]"], unfollowed := true, recurses := true, apart := false }
def FnDepthsSaid : Prop := fnDepthsRow.holds Tryz.pinned (OpenSpec.ofChange fnDepthsSpec)

/-- ITS FALSE NEIGHBOUR: 'it returns false'. Refute it at one input. -/
def fnDepthsWrong : ChangeSpec := { name := "fnDepths", fn := fun _ => fun
  | [d] => { results := [.lit (.bool false)], args := [d] }
  | _ => none }
def FnDepthsWrongFalsely : Prop := fnDepthsRow.holds Tryz.pinned (OpenSpec.ofChange fnDepthsWrong)

/-- 'laws.FnTips': WHATEVER THE INPUT: true; the input reads as it did. -/
def fnTipsSpec : ChangeSpec := { name := "fnTips", fn := fun _ => fun
  | [d] => { results := [.lit (.bool true)], args := [d] }
  | _ => none }
def fnTipsRow : OpenClaim := { program := "ytghgecpicnfgpaagreat", sum := "95382b06f27f2818bb6fc06c7fe5ef6000f2dadde32251e4fd083fd1ccda78ea", func := "loop.example/g00399/laws.FnTips", spec := "fnTips", inPlace := ["slices.overlaps[int]"], unfollowed := true, recurses := true, apart := false }
def FnTipsSaid : Prop := fnTipsRow.holds Tryz.pinned (OpenSpec.ofChange fnTipsSpec)

/-- ITS FALSE NEIGHBOUR: 'it returns false'. Refute it at one input. -/
def fnTipsWrong : ChangeSpec := { name := "fnTips", fn := fun _ => fun
  | [d] => { results := [.lit (.bool false)], args := [d] }
  | _ => none }
def FnTipsWrongFalsely : Prop := fnTipsRow.holds Tryz.pinned (OpenSpec.ofChange fnTipsWrong)

/-- 'laws.FnCommon': WHATEVER THE INPUT: true; the input reads as it did. -/
def fnCommonSpec : ChangeSpec := { name := "fnCommon", fn := fun _ => fun
  | [d] => { results := [.lit (.bool true)], args := [d] }
  | _ => none }
def fnCommonRow : OpenClaim := { program := "ytghgecpicnfgpaagreat", sum := "95382b06f27f2818bb6fc06c7fe5ef6000f2dadde32251e4fd083fd1ccda78ea", func := "loop.example/g00399/laws.FnCommon", spec := "fnCommon", inPlace := ["slices.overlaps[int]"], unfollowed := true, recurses := true, apart := false }
def FnCommonSaid : Prop := fnCommonRow.holds Tryz.pinned (OpenSpec.ofChange fnCommonSpec)

/-- ITS FALSE NEIGHBOUR: 'it returns false'. Refute it at one input. -/
def fnCommonWrong : ChangeSpec := { name := "fnCommon", fn := fun _ => fun
  | [d] => { results := [.lit (.bool false)], args := [d] }
  | _ => none }
def FnCommonWrongFalsely : Prop := fnCommonRow.holds Tryz.pinned (OpenSpec.ofChange fnCommonWrong)

/- THE SECOND FORM. 'bulk': how many values and letters a reading holds, each counted each time it is reached (what is shared counts as often as it is met; a slice's spare places count too). A statement '..UptoSaid' is the law's where the arguments, and the package variables that the reading takes, are together of bulk at most 1048576: NARROWER than '..Said'. Prove '..Said' where nothing that the law and all that it calls make is longer than what came in: it says more and counts as full. Else prove '..UptoSaid'. A law counts once. -/
mutual
def uptoBulk {H : Type} : DataW H → Nat
  | .lit (.string bytes) => bytes.length + 1
  | .lit _ => 1
  | .nil => 1
  | .ptr d => uptoBulk d + 1
  | .slice elems spare => uptoBulkAll elems + uptoBulkAll spare + 1
  | .agg parts => uptoBulkAll parts + 1
  | .iface _ d => uptoBulk d + 1
  | .map entries => uptoBulkEntries entries + 1
  | .held _ => 1
def uptoBulkAll {H : Type} : List (DataW H) → Nat
  | [] => 0
  | d :: r => uptoBulk d + uptoBulkAll r
def uptoBulkEntries {H : Type} : List (Lit × DataW H) → Nat
  | [] => 0
  | x :: r => uptoBulkEntry x + uptoBulkEntries r
def uptoBulkEntry {H : Type} : Lit × DataW H → Nat
  | (.string bytes, d) => bytes.length + uptoBulk d + 1
  | (_, d) => uptoBulk d + 1
 end
def uptoSmall : (H : Type) → List (DataW H) → Bool := fun _ ds => decide (uptoBulkAll ds ≤ 1048576)
def OpenSpec.upto (s : _root_.Go.ChangeSpec) : _root_.Go.OpenSpec := { _root_.Go.OpenSpec.ofChange s with cond := some uptoSmall }

/-- 'laws.FnLinks', WHERE WHAT IT READS IS OF BULK AT MOST 1048576: true; the input reads as it did. -/
def fnLinksUptoRow : OpenClaim := { program := "ytghgecpicnfgpaagreat", sum := "95382b06f27f2818bb6fc06c7fe5ef6000f2dadde32251e4fd083fd1ccda78ea", func := "loop.example/g00399/laws.FnLinks", spec := "fnLinks", inPlace := ["slices.overlaps[int]"], unfollowed := true, recurses := true, apart := false, narrowed := true }
def FnLinksUptoSaid : Prop := fnLinksUptoRow.holds Tryz.pinned (OpenSpec.upto fnLinksSpec)

/-- 'laws.FnDepths', WHERE WHAT IT READS IS OF BULK AT MOST 1048576: true; the input reads as it did. -/
def fnDepthsUptoRow : OpenClaim := { program := "ytghgecpicnfgpaagreat", sum := "95382b06f27f2818bb6fc06c7fe5ef6000f2dadde32251e4fd083fd1ccda78ea", func := "loop.example/g00399/laws.FnDepths", spec := "fnDepths", inPlace := ["slices.overlaps[int]"], unfollowed := true, recurses := true, apart := false, narrowed := true }
def FnDepthsUptoSaid : Prop := fnDepthsUptoRow.holds Tryz.pinned (OpenSpec.upto fnDepthsSpec)

/-- 'laws.FnTips', WHERE WHAT IT READS IS OF BULK AT MOST 1048576: true; the input reads as it did. -/
def fnTipsUptoRow : OpenClaim := { program := "ytghgecpicnfgpaagreat", sum := "95382b06f27f2818bb6fc06c7fe5ef6000f2dadde32251e4fd083fd1ccda78ea", func := "loop.example/g00399/laws.FnTips", spec := "fnTips", inPlace := ["slices.overlaps[int]"], unfollowed := true, recurses := true, apart := false, narrowed := true }
def FnTipsUptoSaid : Prop := fnTipsUptoRow.holds Tryz.pinned (OpenSpec.upto fnTipsSpec)

/-- 'laws.FnCommon', WHERE WHAT IT READS IS OF BULK AT MOST 1048576: true; the input reads as it did. -/
def fnCommonUptoRow : OpenClaim := { program := "ytghgecpicnfgpaagreat", sum := "95382b06f27f2818bb6fc06c7fe5ef6000f2dadde32251e4fd083fd1ccda78ea", func := "loop.example/g00399/laws.FnCommon", spec := "fnCommon", inPlace := ["slices.overlaps[int]"], unfollowed := true, recurses := true, apart := false, narrowed := true }
def FnCommonUptoSaid : Prop := fnCommonUptoRow.holds Tryz.pinned (OpenSpec.upto fnCommonSpec)

end Rows
end Go.Proofs.YtghgecpicnfgpaaGreat
