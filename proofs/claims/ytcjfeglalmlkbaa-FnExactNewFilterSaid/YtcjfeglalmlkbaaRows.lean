/-
  No cell of these rows narrows 'for every input' (looked for: loops, veiled, ifaces, maps, wideKeys, modest, calm, conditions, laid).
  DERIVED. THE GIVEN ROWS OF THIS SEAT. 11 by the template 'for every input the law returns true; each argument reads behind the call as it read before'; 0 by the template 'total and deterministic' (their statements: YtcjfeglalmlkbaaTotals.lean).
  GIVEN WITH THE SEED: the statements are not yours to turn. If you find one false, say at which input.
  Laid BY PROGRAM, IN A SANDBOX (cutbox-rows.mjs): the forced cells as the released guide's own fill.sh prints them over the translation 35ee7d008d7ae4da… (all of the seat's roots in one cut). By AI agents, Wed Nov 11 2026. No macro, syntax, notation, axiom, sorry.
-/
import Derived.Test.YtcjfeglalmlkbaaChecked
import GoSem.Claim
import GoSem.ClaimJoined
import GoSem.ClaimMapViews
import Derived.JoinedTies
import Derived.KernelRfl
namespace Go.Proofs.Ytcjfeglalmlkbaa
/- THE CELL 'sum', in the pinned program and in every row, IS THE sha256 OF THE DUMP (.gsa) THAT YtcjfeglalmlkbaaProg.lean LOADS. Nothing in Lean hashes anything: it is a label: what it is worth is what the hold of that sum in a sandbox is worth. -/
noncomputable def Try.pinned : Pinned := { name := "ytcjfeglalmlkbaa", sum := "35ee7d008d7ae4daea0d66d89526a09fcc7dd4439217924d4540b572ae9efa1c", checked := Try.checked }
namespace Rows
def none {H : Type} : Left H := { results := [], args := [] }

/-- 'laws.FnExactNewFilter': WHATEVER THE INPUT: true; the input reads as it did. -/
def fnExactNewFilterSpec : ChangeSpec := { name := "fnExactNewFilter", fn := fun _ => fun
  | [d] => { results := [.lit (.bool true)], args := [d] }
  | _ => none }
def fnExactNewFilterRow : OpenClaim := { program := "ytcjfeglalmlkbaa", sum := "35ee7d008d7ae4daea0d66d89526a09fcc7dd4439217924d4540b572ae9efa1c", func := "loop.example/g00905/laws.FnExactNewFilter", spec := "fnExactNewFilter", inPlace := ["internal/abi.NoEscape", "internal/bytealg.MakeNoZero"], apart := false }
def FnExactNewFilterSaid : Prop := fnExactNewFilterRow.holds Try.pinned (OpenSpec.ofChange fnExactNewFilterSpec)

/-- ITS FALSE NEIGHBOUR: 'it returns false'. Refute it at one input. -/
def fnExactNewFilterWrong : ChangeSpec := { name := "fnExactNewFilter", fn := fun _ => fun
  | [d] => { results := [.lit (.bool false)], args := [d] }
  | _ => none }
def FnExactNewFilterWrongFalsely : Prop := fnExactNewFilterRow.holds Try.pinned (OpenSpec.ofChange fnExactNewFilterWrong)

/-- 'laws.FnWearBound': WHATEVER THE INPUT: true; the input reads as it did. -/
def fnWearBoundSpec : ChangeSpec := { name := "fnWearBound", fn := fun _ => fun
  | [d] => { results := [.lit (.bool true)], args := [d] }
  | _ => none }
def fnWearBoundRow : OpenClaim := { program := "ytcjfeglalmlkbaa", sum := "35ee7d008d7ae4daea0d66d89526a09fcc7dd4439217924d4540b572ae9efa1c", func := "loop.example/g00905/laws.FnWearBound", spec := "fnWearBound", unfollowed := true, recurses := true, apart := false }
def FnWearBoundSaid : Prop := fnWearBoundRow.holds Try.pinned (OpenSpec.ofChange fnWearBoundSpec)

/-- ITS FALSE NEIGHBOUR: 'it returns false'. Refute it at one input. -/
def fnWearBoundWrong : ChangeSpec := { name := "fnWearBound", fn := fun _ => fun
  | [d] => { results := [.lit (.bool false)], args := [d] }
  | _ => none }
def FnWearBoundWrongFalsely : Prop := fnWearBoundRow.holds Try.pinned (OpenSpec.ofChange fnWearBoundWrong)

/-- 'laws.FnExactSetPage': WHATEVER THE INPUT: true; the input reads as it did. -/
def fnExactSetPageSpec : ChangeSpec := { name := "fnExactSetPage", fn := fun _ => fun
  | [d1, d2, d3, d4] => { results := [.lit (.bool true)], args := [d1, d2, d3, d4] }
  | _ => none }
def fnExactSetPageRow : OpenClaim := { program := "ytcjfeglalmlkbaa", sum := "35ee7d008d7ae4daea0d66d89526a09fcc7dd4439217924d4540b572ae9efa1c", func := "loop.example/g00905/laws.FnExactSetPage", spec := "fnExactSetPage", apart := false }
def FnExactSetPageSaid : Prop := fnExactSetPageRow.holds Try.pinned (OpenSpec.ofChange fnExactSetPageSpec)

/-- ITS FALSE NEIGHBOUR: 'it returns false'. Refute it at one input. -/
def fnExactSetPageWrong : ChangeSpec := { name := "fnExactSetPage", fn := fun _ => fun
  | [d1, d2, d3, d4] => { results := [.lit (.bool false)], args := [d1, d2, d3, d4] }
  | _ => none }
def FnExactSetPageWrongFalsely : Prop := fnExactSetPageRow.holds Try.pinned (OpenSpec.ofChange fnExactSetPageWrong)

/-- 'laws.FnExactPlaceData': WHATEVER THE INPUT: true; the input reads as it did. -/
def fnExactPlaceDataSpec : ChangeSpec := { name := "fnExactPlaceData", fn := fun _ => fun
  | [d1, d2] => { results := [.lit (.bool true)], args := [d1, d2] }
  | _ => none }
def fnExactPlaceDataRow : OpenClaim := { program := "ytcjfeglalmlkbaa", sum := "35ee7d008d7ae4daea0d66d89526a09fcc7dd4439217924d4540b572ae9efa1c", func := "loop.example/g00905/laws.FnExactPlaceData", spec := "fnExactPlaceData", unfollowed := true, recurses := true, apart := false }
def FnExactPlaceDataSaid : Prop := fnExactPlaceDataRow.holds Try.pinned (OpenSpec.ofChange fnExactPlaceDataSpec)

/-- ITS FALSE NEIGHBOUR: 'it returns false'. Refute it at one input. -/
def fnExactPlaceDataWrong : ChangeSpec := { name := "fnExactPlaceData", fn := fun _ => fun
  | [d1, d2] => { results := [.lit (.bool false)], args := [d1, d2] }
  | _ => none }
def FnExactPlaceDataWrongFalsely : Prop := fnExactPlaceDataRow.holds Try.pinned (OpenSpec.ofChange fnExactPlaceDataWrong)

/-- 'laws.FnExactRewriteHot': WHATEVER THE INPUT: true; the input reads as it did. -/
def fnExactRewriteHotSpec : ChangeSpec := { name := "fnExactRewriteHot", fn := fun _ => fun
  | [d1, d2] => { results := [.lit (.bool true)], args := [d1, d2] }
  | _ => none }
def fnExactRewriteHotRow : OpenClaim := { program := "ytcjfeglalmlkbaa", sum := "35ee7d008d7ae4daea0d66d89526a09fcc7dd4439217924d4540b572ae9efa1c", func := "loop.example/g00905/laws.FnExactRewriteHot", spec := "fnExactRewriteHot", unfollowed := true, recurses := true, apart := false }
def FnExactRewriteHotSaid : Prop := fnExactRewriteHotRow.holds Try.pinned (OpenSpec.ofChange fnExactRewriteHotSpec)

/-- ITS FALSE NEIGHBOUR: 'it returns false'. Refute it at one input. -/
def fnExactRewriteHotWrong : ChangeSpec := { name := "fnExactRewriteHot", fn := fun _ => fun
  | [d1, d2] => { results := [.lit (.bool false)], args := [d1, d2] }
  | _ => none }
def FnExactRewriteHotWrongFalsely : Prop := fnExactRewriteHotRow.holds Try.pinned (OpenSpec.ofChange fnExactRewriteHotWrong)

/-- 'laws.FnExactTablesIn': WHATEVER THE INPUT: true; the input reads as it did. -/
def fnExactTablesInSpec : ChangeSpec := { name := "fnExactTablesIn", fn := fun _ => fun
  | [d1, d2] => { results := [.lit (.bool true)], args := [d1, d2] }
  | _ => none }
def fnExactTablesInRow : OpenClaim := { program := "ytcjfeglalmlkbaa", sum := "35ee7d008d7ae4daea0d66d89526a09fcc7dd4439217924d4540b572ae9efa1c", func := "loop.example/g00905/laws.FnExactTablesIn", spec := "fnExactTablesIn", inPlace := ["internal/bytealg.abigen_runtime_cmpstring"], unfollowed := true, recurses := true, apart := false }
def FnExactTablesInSaid : Prop := fnExactTablesInRow.holds Try.pinned (OpenSpec.ofChange fnExactTablesInSpec)

/-- ITS FALSE NEIGHBOUR: 'it returns false'. Refute it at one input. -/
def fnExactTablesInWrong : ChangeSpec := { name := "fnExactTablesIn", fn := fun _ => fun
  | [d1, d2] => { results := [.lit (.bool false)], args := [d1, d2] }
  | _ => none }
def FnExactTablesInWrongFalsely : Prop := fnExactTablesInRow.holds Try.pinned (OpenSpec.ofChange fnExactTablesInWrong)

/-- 'laws.FnExactLevelMove': WHATEVER THE INPUT: true; the input reads as it did. -/
def fnExactLevelMoveSpec : ChangeSpec := { name := "fnExactLevelMove", fn := fun _ => fun
  | [d] => { results := [.lit (.bool true)], args := [d] }
  | _ => none }
def fnExactLevelMoveRow : OpenClaim := { program := "ytcjfeglalmlkbaa", sum := "35ee7d008d7ae4daea0d66d89526a09fcc7dd4439217924d4540b572ae9efa1c", func := "loop.example/g00905/laws.FnExactLevelMove", spec := "fnExactLevelMove", unfollowed := true, recurses := true, apart := false }
def FnExactLevelMoveSaid : Prop := fnExactLevelMoveRow.holds Try.pinned (OpenSpec.ofChange fnExactLevelMoveSpec)

/-- ITS FALSE NEIGHBOUR: 'it returns false'. Refute it at one input. -/
def fnExactLevelMoveWrong : ChangeSpec := { name := "fnExactLevelMove", fn := fun _ => fun
  | [d] => { results := [.lit (.bool false)], args := [d] }
  | _ => none }
def FnExactLevelMoveWrongFalsely : Prop := fnExactLevelMoveRow.holds Try.pinned (OpenSpec.ofChange fnExactLevelMoveWrong)

/-- 'laws.FnExactEraseBlock': WHATEVER THE INPUT: true; the input reads as it did. -/
def fnExactEraseBlockSpec : ChangeSpec := { name := "fnExactEraseBlock", fn := fun _ => fun
  | [d1, d2] => { results := [.lit (.bool true)], args := [d1, d2] }
  | _ => none }
def fnExactEraseBlockRow : OpenClaim := { program := "ytcjfeglalmlkbaa", sum := "35ee7d008d7ae4daea0d66d89526a09fcc7dd4439217924d4540b572ae9efa1c", func := "loop.example/g00905/laws.FnExactEraseBlock", spec := "fnExactEraseBlock", unfollowed := true, recurses := true, apart := false }
def FnExactEraseBlockSaid : Prop := fnExactEraseBlockRow.holds Try.pinned (OpenSpec.ofChange fnExactEraseBlockSpec)

/-- ITS FALSE NEIGHBOUR: 'it returns false'. Refute it at one input. -/
def fnExactEraseBlockWrong : ChangeSpec := { name := "fnExactEraseBlock", fn := fun _ => fun
  | [d1, d2] => { results := [.lit (.bool false)], args := [d1, d2] }
  | _ => none }
def FnExactEraseBlockWrongFalsely : Prop := fnExactEraseBlockRow.holds Try.pinned (OpenSpec.ofChange fnExactEraseBlockWrong)

/-- 'laws.FnExactLevelWear': WHATEVER THE INPUT: true; the input reads as it did. -/
def fnExactLevelWearSpec : ChangeSpec := { name := "fnExactLevelWear", fn := fun _ => fun
  | [d] => { results := [.lit (.bool true)], args := [d] }
  | _ => none }
def fnExactLevelWearRow : OpenClaim := { program := "ytcjfeglalmlkbaa", sum := "35ee7d008d7ae4daea0d66d89526a09fcc7dd4439217924d4540b572ae9efa1c", func := "loop.example/g00905/laws.FnExactLevelWear", spec := "fnExactLevelWear", unfollowed := true, recurses := true, apart := false }
def FnExactLevelWearSaid : Prop := fnExactLevelWearRow.holds Try.pinned (OpenSpec.ofChange fnExactLevelWearSpec)

/-- ITS FALSE NEIGHBOUR: 'it returns false'. Refute it at one input. -/
def fnExactLevelWearWrong : ChangeSpec := { name := "fnExactLevelWear", fn := fun _ => fun
  | [d] => { results := [.lit (.bool false)], args := [d] }
  | _ => none }
def FnExactLevelWearWrongFalsely : Prop := fnExactLevelWearRow.holds Try.pinned (OpenSpec.ofChange fnExactLevelWearWrong)

/-- 'laws.FnBadBlocks': WHATEVER THE INPUT: true; the input reads as it did. -/
def fnBadBlocksSpec : ChangeSpec := { name := "fnBadBlocks", fn := fun _ => fun
  | [d] => { results := [.lit (.bool true)], args := [d] }
  | _ => none }
def fnBadBlocksRow : OpenClaim := { program := "ytcjfeglalmlkbaa", sum := "35ee7d008d7ae4daea0d66d89526a09fcc7dd4439217924d4540b572ae9efa1c", func := "loop.example/g00905/laws.FnBadBlocks", spec := "fnBadBlocks", inPlace := ["slices.overlaps[int64]"], unfollowed := true, recurses := true, apart := false }
def FnBadBlocksSaid : Prop := fnBadBlocksRow.holds Try.pinned (OpenSpec.ofChange fnBadBlocksSpec)

/-- ITS FALSE NEIGHBOUR: 'it returns false'. Refute it at one input. -/
def fnBadBlocksWrong : ChangeSpec := { name := "fnBadBlocks", fn := fun _ => fun
  | [d] => { results := [.lit (.bool false)], args := [d] }
  | _ => none }
def FnBadBlocksWrongFalsely : Prop := fnBadBlocksRow.holds Try.pinned (OpenSpec.ofChange fnBadBlocksWrong)

/-- 'laws.FnExactRetireBlock': WHATEVER THE INPUT: true; the input reads as it did. -/
def fnExactRetireBlockSpec : ChangeSpec := { name := "fnExactRetireBlock", fn := fun _ => fun
  | [d1, d2] => { results := [.lit (.bool true)], args := [d1, d2] }
  | _ => none }
def fnExactRetireBlockRow : OpenClaim := { program := "ytcjfeglalmlkbaa", sum := "35ee7d008d7ae4daea0d66d89526a09fcc7dd4439217924d4540b572ae9efa1c", func := "loop.example/g00905/laws.FnExactRetireBlock", spec := "fnExactRetireBlock", inPlace := ["slices.overlaps[int64]"], unfollowed := true, recurses := true, apart := false }
def FnExactRetireBlockSaid : Prop := fnExactRetireBlockRow.holds Try.pinned (OpenSpec.ofChange fnExactRetireBlockSpec)

/-- ITS FALSE NEIGHBOUR: 'it returns false'. Refute it at one input. -/
def fnExactRetireBlockWrong : ChangeSpec := { name := "fnExactRetireBlock", fn := fun _ => fun
  | [d1, d2] => { results := [.lit (.bool false)], args := [d1, d2] }
  | _ => none }
def FnExactRetireBlockWrongFalsely : Prop := fnExactRetireBlockRow.holds Try.pinned (OpenSpec.ofChange fnExactRetireBlockWrong)

/- THE SECOND FORM. 'bulk': how many values and letters a reading holds, each counted each time it is reached (what is shared counts as often as it is met; a slice's spare places count too). A statement '..UptoSaid' is the law's where the arguments, and the package variables that the reading takes, are together of bulk at most 1048576: NARROWER than '..Said'. Prove '..Said' where nothing that the law and all that it calls make is longer than what came in: it says more and counts as full. Else prove '..UptoSaid'. A law counts once. -/
mutual
def uptoBulk {H : Type} : DataW H → Nat
  | .lit (.string bytes) => bytes.length + 1
  | .lit _ => 1
  | .nil => 1
  | .ptr d => uptoBulk d + 1
  | .slice elems spare => uptoBulkAll elems + uptoBulkAll spare + 1
  | .agg parts => uptoBulkAll parts + 1
  | .iface _ d => uptoBulk d + 1
  | .map entries => uptoBulkEntries entries + 1
  | .held _ => 1
def uptoBulkAll {H : Type} : List (DataW H) → Nat
  | [] => 0
  | d :: r => uptoBulk d + uptoBulkAll r
def uptoBulkEntries {H : Type} : List (Lit × DataW H) → Nat
  | [] => 0
  | x :: r => uptoBulkEntry x + uptoBulkEntries r
def uptoBulkEntry {H : Type} : Lit × DataW H → Nat
  | (.string bytes, d) => bytes.length + uptoBulk d + 1
  | (_, d) => uptoBulk d + 1
 end
def uptoSmall : (H : Type) → List (DataW H) → Bool := fun _ ds => decide (uptoBulkAll ds ≤ 1048576)
def OpenSpec.upto (s : _root_.Go.ChangeSpec) : _root_.Go.OpenSpec := { _root_.Go.OpenSpec.ofChange s with cond := some uptoSmall }

/-- 'laws.FnExactNewFilter', WHERE WHAT IT READS IS OF BULK AT MOST 1048576: true; the input reads as it did. -/
def fnExactNewFilterUptoRow : OpenClaim := { program := "ytcjfeglalmlkbaa", sum := "35ee7d008d7ae4daea0d66d89526a09fcc7dd4439217924d4540b572ae9efa1c", func := "loop.example/g00905/laws.FnExactNewFilter", spec := "fnExactNewFilter", inPlace := ["internal/abi.NoEscape", "internal/bytealg.MakeNoZero"], apart := false, narrowed := true }
def FnExactNewFilterUptoSaid : Prop := fnExactNewFilterUptoRow.holds Try.pinned (OpenSpec.upto fnExactNewFilterSpec)

/-- 'laws.FnWearBound', WHERE WHAT IT READS IS OF BULK AT MOST 1048576: true; the input reads as it did. -/
def fnWearBoundUptoRow : OpenClaim := { program := "ytcjfeglalmlkbaa", sum := "35ee7d008d7ae4daea0d66d89526a09fcc7dd4439217924d4540b572ae9efa1c", func := "loop.example/g00905/laws.FnWearBound", spec := "fnWearBound", unfollowed := true, recurses := true, apart := false, narrowed := true }
def FnWearBoundUptoSaid : Prop := fnWearBoundUptoRow.holds Try.pinned (OpenSpec.upto fnWearBoundSpec)

/-- 'laws.FnExactSetPage', WHERE WHAT IT READS IS OF BULK AT MOST 1048576: true; the input reads as it did. -/
def fnExactSetPageUptoRow : OpenClaim := { program := "ytcjfeglalmlkbaa", sum := "35ee7d008d7ae4daea0d66d89526a09fcc7dd4439217924d4540b572ae9efa1c", func := "loop.example/g00905/laws.FnExactSetPage", spec := "fnExactSetPage", apart := false, narrowed := true }
def FnExactSetPageUptoSaid : Prop := fnExactSetPageUptoRow.holds Try.pinned (OpenSpec.upto fnExactSetPageSpec)

/-- 'laws.FnExactPlaceData', WHERE WHAT IT READS IS OF BULK AT MOST 1048576: true; the input reads as it did. -/
def fnExactPlaceDataUptoRow : OpenClaim := { program := "ytcjfeglalmlkbaa", sum := "35ee7d008d7ae4daea0d66d89526a09fcc7dd4439217924d4540b572ae9efa1c", func := "loop.example/g00905/laws.FnExactPlaceData", spec := "fnExactPlaceData", unfollowed := true, recurses := true, apart := false, narrowed := true }
def FnExactPlaceDataUptoSaid : Prop := fnExactPlaceDataUptoRow.holds Try.pinned (OpenSpec.upto fnExactPlaceDataSpec)

/-- 'laws.FnExactRewriteHot', WHERE WHAT IT READS IS OF BULK AT MOST 1048576: true; the input reads as it did. -/
def fnExactRewriteHotUptoRow : OpenClaim := { program := "ytcjfeglalmlkbaa", sum := "35ee7d008d7ae4daea0d66d89526a09fcc7dd4439217924d4540b572ae9efa1c", func := "loop.example/g00905/laws.FnExactRewriteHot", spec := "fnExactRewriteHot", unfollowed := true, recurses := true, apart := false, narrowed := true }
def FnExactRewriteHotUptoSaid : Prop := fnExactRewriteHotUptoRow.holds Try.pinned (OpenSpec.upto fnExactRewriteHotSpec)

/-- 'laws.FnExactTablesIn', WHERE WHAT IT READS IS OF BULK AT MOST 1048576: true; the input reads as it did. -/
def fnExactTablesInUptoRow : OpenClaim := { program := "ytcjfeglalmlkbaa", sum := "35ee7d008d7ae4daea0d66d89526a09fcc7dd4439217924d4540b572ae9efa1c", func := "loop.example/g00905/laws.FnExactTablesIn", spec := "fnExactTablesIn", inPlace := ["internal/bytealg.abigen_runtime_cmpstring"], unfollowed := true, recurses := true, apart := false, narrowed := true }
def FnExactTablesInUptoSaid : Prop := fnExactTablesInUptoRow.holds Try.pinned (OpenSpec.upto fnExactTablesInSpec)

/-- 'laws.FnExactLevelMove', WHERE WHAT IT READS IS OF BULK AT MOST 1048576: true; the input reads as it did. -/
def fnExactLevelMoveUptoRow : OpenClaim := { program := "ytcjfeglalmlkbaa", sum := "35ee7d008d7ae4daea0d66d89526a09fcc7dd4439217924d4540b572ae9efa1c", func := "loop.example/g00905/laws.FnExactLevelMove", spec := "fnExactLevelMove", unfollowed := true, recurses := true, apart := false, narrowed := true }
def FnExactLevelMoveUptoSaid : Prop := fnExactLevelMoveUptoRow.holds Try.pinned (OpenSpec.upto fnExactLevelMoveSpec)

/-- 'laws.FnExactEraseBlock', WHERE WHAT IT READS IS OF BULK AT MOST 1048576: true; the input reads as it did. -/
def fnExactEraseBlockUptoRow : OpenClaim := { program := "ytcjfeglalmlkbaa", sum := "35ee7d008d7ae4daea0d66d89526a09fcc7dd4439217924d4540b572ae9efa1c", func := "loop.example/g00905/laws.FnExactEraseBlock", spec := "fnExactEraseBlock", unfollowed := true, recurses := true, apart := false, narrowed := true }
def FnExactEraseBlockUptoSaid : Prop := fnExactEraseBlockUptoRow.holds Try.pinned (OpenSpec.upto fnExactEraseBlockSpec)

/-- 'laws.FnExactLevelWear', WHERE WHAT IT READS IS OF BULK AT MOST 1048576: true; the input reads as it did. -/
def fnExactLevelWearUptoRow : OpenClaim := { program := "ytcjfeglalmlkbaa", sum := "35ee7d008d7ae4daea0d66d89526a09fcc7dd4439217924d4540b572ae9efa1c", func := "loop.example/g00905/laws.FnExactLevelWear", spec := "fnExactLevelWear", unfollowed := true, recurses := true, apart := false, narrowed := true }
def FnExactLevelWearUptoSaid : Prop := fnExactLevelWearUptoRow.holds Try.pinned (OpenSpec.upto fnExactLevelWearSpec)

/-- 'laws.FnBadBlocks', WHERE WHAT IT READS IS OF BULK AT MOST 1048576: true; the input reads as it did. -/
def fnBadBlocksUptoRow : OpenClaim := { program := "ytcjfeglalmlkbaa", sum := "35ee7d008d7ae4daea0d66d89526a09fcc7dd4439217924d4540b572ae9efa1c", func := "loop.example/g00905/laws.FnBadBlocks", spec := "fnBadBlocks", inPlace := ["slices.overlaps[int64]"], unfollowed := true, recurses := true, apart := false, narrowed := true }
def FnBadBlocksUptoSaid : Prop := fnBadBlocksUptoRow.holds Try.pinned (OpenSpec.upto fnBadBlocksSpec)

/-- 'laws.FnExactRetireBlock', WHERE WHAT IT READS IS OF BULK AT MOST 1048576: true; the input reads as it did. -/
def fnExactRetireBlockUptoRow : OpenClaim := { program := "ytcjfeglalmlkbaa", sum := "35ee7d008d7ae4daea0d66d89526a09fcc7dd4439217924d4540b572ae9efa1c", func := "loop.example/g00905/laws.FnExactRetireBlock", spec := "fnExactRetireBlock", inPlace := ["slices.overlaps[int64]"], unfollowed := true, recurses := true, apart := false, narrowed := true }
def FnExactRetireBlockUptoSaid : Prop := fnExactRetireBlockUptoRow.holds Try.pinned (OpenSpec.upto fnExactRetireBlockSpec)

end Rows
end Go.Proofs.Ytcjfeglalmlkbaa
