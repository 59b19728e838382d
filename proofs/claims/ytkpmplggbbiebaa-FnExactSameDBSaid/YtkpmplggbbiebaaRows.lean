/-
  No cell of these rows narrows 'for every input' (looked for: loops, veiled, ifaces, maps, wideKeys, modest, calm, conditions, laid).
  DERIVED. THE GIVEN ROWS OF THIS SEAT. 4 by the template 'for every input the law returns true; each argument reads behind the call as it read before'; 0 by the template 'total and deterministic' (their statements: YtkpmplggbbiebaaTotals.lean).
  GIVEN WITH THE SEED: the statements are not yours to turn. If you find one false, say at which input.
  Laid BY PROGRAM, IN A SANDBOX (cutbox-rows.mjs): the forced cells as the released guide's own fill.sh prints them over the translation caba3cf6a91060f7… (all of the seat's roots in one cut). By AI agents, Wed Nov 11 2026. No macro, syntax, notation, axiom, sorry.
-/
import Derived.Test.YtkpmplggbbiebaaChecked
import GoSem.Claim
import GoSem.ClaimJoined
import GoSem.ClaimMapViews
import Derived.JoinedTies
import Derived.KernelRfl
namespace Go.Proofs.Ytkpmplggbbiebaa
/- THE CELL 'sum', in the pinned program and in every row, IS THE sha256 OF THE DUMP (.gsa) THAT YtkpmplggbbiebaaProg.lean LOADS. Nothing in Lean hashes anything: it is a label: what it is worth is what the hold of that sum in a sandbox is worth. -/
noncomputable def Try.pinned : Pinned := { name := "ytkpmplggbbiebaa", sum := "caba3cf6a91060f720841613137b283a15307e1b56c11619881752fabeda07e6", checked := Try.checked }
namespace Rows
def none {H : Type} : Left H := { results := [], args := [] }

/-- 'laws.FnExactSameDB': WHATEVER THE INPUT: true; the input reads as it did. -/
def fnExactSameDBSpec : ChangeSpec := { name := "fnExactSameDB", fn := fun _ => fun
  | [d1, d2] => { results := [.lit (.bool true)], args := [d1, d2] }
  | _ => none }
def fnExactSameDBRow : OpenClaim := { program := "ytkpmplggbbiebaa", sum := "caba3cf6a91060f720841613137b283a15307e1b56c11619881752fabeda07e6", func := "loop.example/g00905/laws.FnExactSameDB", spec := "fnExactSameDB", unfollowed := true, recurses := true, apart := false }
def FnExactSameDBSaid : Prop := fnExactSameDBRow.holds Try.pinned (OpenSpec.ofChange fnExactSameDBSpec)

/-- ITS FALSE NEIGHBOUR: 'it returns false'. Refute it at one input. -/
def fnExactSameDBWrong : ChangeSpec := { name := "fnExactSameDB", fn := fun _ => fun
  | [d1, d2] => { results := [.lit (.bool false)], args := [d1, d2] }
  | _ => none }
def FnExactSameDBWrongFalsely : Prop := fnExactSameDBRow.holds Try.pinned (OpenSpec.ofChange fnExactSameDBWrong)

/-- 'laws.FnExactFilterFor': WHATEVER THE INPUT: true; the input reads as it did. -/
def fnExactFilterForSpec : ChangeSpec := { name := "fnExactFilterFor", fn := fun _ => fun
  | [d] => { results := [.lit (.bool true)], args := [d] }
  | _ => none }
def fnExactFilterForRow : OpenClaim := { program := "ytkpmplggbbiebaa", sum := "caba3cf6a91060f720841613137b283a15307e1b56c11619881752fabeda07e6", func := "loop.example/g00905/laws.FnExactFilterFor", spec := "fnExactFilterFor", inPlace := ["internal/abi.NoEscape", "internal/bytealg.MakeNoZero"], unfollowed := true, recurses := true, apart := false }
def FnExactFilterForSaid : Prop := fnExactFilterForRow.holds Try.pinned (OpenSpec.ofChange fnExactFilterForSpec)

/-- ITS FALSE NEIGHBOUR: 'it returns false'. Refute it at one input. -/
def fnExactFilterForWrong : ChangeSpec := { name := "fnExactFilterFor", fn := fun _ => fun
  | [d] => { results := [.lit (.bool false)], args := [d] }
  | _ => none }
def FnExactFilterForWrongFalsely : Prop := fnExactFilterForRow.holds Try.pinned (OpenSpec.ofChange fnExactFilterForWrong)

/-- 'laws.FnExactApplyRecord': WHATEVER THE INPUT: true; the input reads as it did. -/
def fnExactApplyRecordSpec : ChangeSpec := { name := "fnExactApplyRecord", fn := fun _ => fun
  | [d1, d2] => { results := [.lit (.bool true)], args := [d1, d2] }
  | _ => none }
def fnExactApplyRecordRow : OpenClaim := { program := "ytkpmplggbbiebaa", sum := "caba3cf6a91060f720841613137b283a15307e1b56c11619881752fabeda07e6", func := "loop.example/g00905/laws.FnExactApplyRecord", spec := "fnExactApplyRecord", inPlace := ["internal/bytealg.abigen_runtime_cmpstring", "slices.overlaps[loop.example/g00905/impl.Pair]"], unfollowed := true, recurses := true, apart := false }
def FnExactApplyRecordSaid : Prop := fnExactApplyRecordRow.holds Try.pinned (OpenSpec.ofChange fnExactApplyRecordSpec)

/-- ITS FALSE NEIGHBOUR: 'it returns false'. Refute it at one input. -/
def fnExactApplyRecordWrong : ChangeSpec := { name := "fnExactApplyRecord", fn := fun _ => fun
  | [d1, d2] => { results := [.lit (.bool false)], args := [d1, d2] }
  | _ => none }
def FnExactApplyRecordWrongFalsely : Prop := fnExactApplyRecordRow.holds Try.pinned (OpenSpec.ofChange fnExactApplyRecordWrong)

/-- 'laws.FnExactRetireBlock': WHATEVER THE INPUT: true; the input reads as it did. -/
def fnExactRetireBlockSpec : ChangeSpec := { name := "fnExactRetireBlock", fn := fun _ => fun
  | [d1, d2] => { results := [.lit (.bool true)], args := [d1, d2] }
  | _ => none }
def fnExactRetireBlockRow : OpenClaim := { program := "ytkpmplggbbiebaa", sum := "caba3cf6a91060f720841613137b283a15307e1b56c11619881752fabeda07e6", func := "loop.example/g00905/laws.FnExactRetireBlock", spec := "fnExactRetireBlock", inPlace := ["slices.overlaps[int64]"], unfollowed := true, recurses := true, apart := false }
def FnExactRetireBlockSaid : Prop := fnExactRetireBlockRow.holds Try.pinned (OpenSpec.ofChange fnExactRetireBlockSpec)

/-- ITS FALSE NEIGHBOUR: 'it returns false'. Refute it at one input. -/
def fnExactRetireBlockWrong : ChangeSpec := { name := "fnExactRetireBlock", fn := fun _ => fun
  | [d1, d2] => { results := [.lit (.bool false)], args := [d1, d2] }
  | _ => none }
def FnExactRetireBlockWrongFalsely : Prop := fnExactRetireBlockRow.holds Try.pinned (OpenSpec.ofChange fnExactRetireBlockWrong)

/- THE SECOND FORM. 'bulk': how many values and letters a reading holds, each counted each time it is reached (what is shared counts as often as it is met; a slice's spare places count too). A statement '..UptoSaid' is the law's where the arguments, and the package variables that the reading takes, are together of bulk at most 1048576: NARROWER than '..Said'. Prove '..Said' where nothing that the law and all that it calls make is longer than what came in: it says more and counts as full. Else prove '..UptoSaid'. A law counts once. -/
mutual
def uptoBulk {H : Type} : DataW H → Nat
  | .lit (.string bytes) => bytes.length + 1
  | .lit _ => 1
  | .nil => 1
  | .ptr d => uptoBulk d + 1
  | .slice elems spare => uptoBulkAll elems + uptoBulkAll spare + 1
  | .agg parts => uptoBulkAll parts + 1
  | .iface _ d => uptoBulk d + 1
  | .map entries => uptoBulkEntries entries + 1
  | .held _ => 1
def uptoBulkAll {H : Type} : List (DataW H) → Nat
  | [] => 0
  | d :: r => uptoBulk d + uptoBulkAll r
def uptoBulkEntries {H : Type} : List (Lit × DataW H) → Nat
  | [] => 0
  | x :: r => uptoBulkEntry x + uptoBulkEntries r
def uptoBulkEntry {H : Type} : Lit × DataW H → Nat
  | (.string bytes, d) => bytes.length + uptoBulk d + 1
  | (_, d) => uptoBulk d + 1
 end
def uptoSmall : (H : Type) → List (DataW H) → Bool := fun _ ds => decide (uptoBulkAll ds ≤ 1048576)
def OpenSpec.upto (s : _root_.Go.ChangeSpec) : _root_.Go.OpenSpec := { _root_.Go.OpenSpec.ofChange s with cond := some uptoSmall }

/-- 'laws.FnExactSameDB', WHERE WHAT IT READS IS OF BULK AT MOST 1048576: true; the input reads as it did. -/
def fnExactSameDBUptoRow : OpenClaim := { program := "ytkpmplggbbiebaa", sum := "caba3cf6a91060f720841613137b283a15307e1b56c11619881752fabeda07e6", func := "loop.example/g00905/laws.FnExactSameDB", spec := "fnExactSameDB", unfollowed := true, recurses := true, apart := false, narrowed := true }
def FnExactSameDBUptoSaid : Prop := fnExactSameDBUptoRow.holds Try.pinned (OpenSpec.upto fnExactSameDBSpec)

/-- 'laws.FnExactFilterFor', WHERE WHAT IT READS IS OF BULK AT MOST 1048576: true; the input reads as it did. -/
def fnExactFilterForUptoRow : OpenClaim := { program := "ytkpmplggbbiebaa", sum := "caba3cf6a91060f720841613137b283a15307e1b56c11619881752fabeda07e6", func := "loop.example/g00905/laws.FnExactFilterFor", spec := "fnExactFilterFor", inPlace := ["internal/abi.NoEscape", "internal/bytealg.MakeNoZero"], unfollowed := true, recurses := true, apart := false, narrowed := true }
def FnExactFilterForUptoSaid : Prop := fnExactFilterForUptoRow.holds Try.pinned (OpenSpec.upto fnExactFilterForSpec)

/-- 'laws.FnExactApplyRecord', WHERE WHAT IT READS IS OF BULK AT MOST 1048576: true; the input reads as it did. -/
def fnExactApplyRecordUptoRow : OpenClaim := { program := "ytkpmplggbbiebaa", sum := "caba3cf6a91060f720841613137b283a15307e1b56c11619881752fabeda07e6", func := "loop.example/g00905/laws.FnExactApplyRecord", spec := "fnExactApplyRecord", inPlace := ["internal/bytealg.abigen_runtime_cmpstring", "slices.overlaps[loop.example/g00905/impl.Pair]"], unfollowed := true, recurses := true, apart := false, narrowed := true }
def FnExactApplyRecordUptoSaid : Prop := fnExactApplyRecordUptoRow.holds Try.pinned (OpenSpec.upto fnExactApplyRecordSpec)

/-- 'laws.FnExactRetireBlock', WHERE WHAT IT READS IS OF BULK AT MOST 1048576: true; the input reads as it did. -/
def fnExactRetireBlockUptoRow : OpenClaim := { program := "ytkpmplggbbiebaa", sum := "caba3cf6a91060f720841613137b283a15307e1b56c11619881752fabeda07e6", func := "loop.example/g00905/laws.FnExactRetireBlock", spec := "fnExactRetireBlock", inPlace := ["slices.overlaps[int64]"], unfollowed := true, recurses := true, apart := false, narrowed := true }
def FnExactRetireBlockUptoSaid : Prop := fnExactRetireBlockUptoRow.holds Try.pinned (OpenSpec.upto fnExactRetireBlockSpec)

end Rows
end Go.Proofs.Ytkpmplggbbiebaa
