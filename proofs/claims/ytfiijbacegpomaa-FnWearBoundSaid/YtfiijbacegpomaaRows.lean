/-
  No cell of these rows narrows 'for every input' (looked for: loops, veiled, ifaces, maps, wideKeys, modest, calm, conditions, laid).
  DERIVED. THE GIVEN ROWS OF THIS SEAT. 7 by the template 'for every input the law returns true; each argument reads behind the call as it read before'; 0 by the template 'total and deterministic' (their statements: YtfiijbacegpomaaTotals.lean).
  GIVEN WITH THE SEED: the statements are not yours to turn. If you find one false, say at which input.
  Laid BY PROGRAM, IN A SANDBOX (cutbox-rows.mjs): the forced cells as the released guide's own fill.sh prints them over the translation 564e1a2ef84bfe96… (all of the seat's roots in one cut). By AI agents, Wed Nov 11 2026. No macro, syntax, notation, axiom, sorry.
-/
import Derived.Test.YtfiijbacegpomaaChecked
import GoSem.Claim
import GoSem.ClaimJoined
import GoSem.ClaimMapViews
import Derived.JoinedTies
import Derived.KernelRfl
namespace Go.Proofs.Ytfiijbacegpomaa
/- THE CELL 'sum', in the pinned program and in every row, IS THE sha256 OF THE DUMP (.gsa) THAT YtfiijbacegpomaaProg.lean LOADS. Nothing in Lean hashes anything: it is a label: what it is worth is what the hold of that sum in a sandbox is worth. -/
noncomputable def Try.pinned : Pinned := { name := "ytfiijbacegpomaa", sum := "564e1a2ef84bfe968d052cd741982fb6ee71ba3bd22dfa0c4198104b3aa9e6cc", checked := Try.checked }
namespace Rows
def none {H : Type} : Left H := { results := [], args := [] }

/-- 'laws.FnWearBound': WHATEVER THE INPUT: true; the input reads as it did. -/
def fnWearBoundSpec : ChangeSpec := { name := "fnWearBound", fn := fun _ => fun
  | [d] => { results := [.lit (.bool true)], args := [d] }
  | _ => none }
def fnWearBoundRow : OpenClaim := { program := "ytfiijbacegpomaa", sum := "564e1a2ef84bfe968d052cd741982fb6ee71ba3bd22dfa0c4198104b3aa9e6cc", func := "loop.example/g00905/laws.FnWearBound", spec := "fnWearBound", unfollowed := true, recurses := true, apart := false }
def FnWearBoundSaid : Prop := fnWearBoundRow.holds Try.pinned (OpenSpec.ofChange fnWearBoundSpec)

/-- ITS FALSE NEIGHBOUR: 'it returns false'. Refute it at one input. -/
def fnWearBoundWrong : ChangeSpec := { name := "fnWearBound", fn := fun _ => fun
  | [d] => { results := [.lit (.bool false)], args := [d] }
  | _ => none }
def FnWearBoundWrongFalsely : Prop := fnWearBoundRow.holds Try.pinned (OpenSpec.ofChange fnWearBoundWrong)

/-- 'laws.FnBadBlocks': WHATEVER THE INPUT: true; the input reads as it did. -/
def fnBadBlocksSpec : ChangeSpec := { name := "fnBadBlocks", fn := fun _ => fun
  | [d] => { results := [.lit (.bool true)], args := [d] }
  | _ => none }
def fnBadBlocksRow : OpenClaim := { program := "ytfiijbacegpomaa", sum := "564e1a2ef84bfe968d052cd741982fb6ee71ba3bd22dfa0c4198104b3aa9e6cc", func := "loop.example/g00905/laws.FnBadBlocks", spec := "fnBadBlocks", inPlace := ["slices.overlaps[int64]"], unfollowed := true, recurses := true, apart := false }
def FnBadBlocksSaid : Prop := fnBadBlocksRow.holds Try.pinned (OpenSpec.ofChange fnBadBlocksSpec)

/-- ITS FALSE NEIGHBOUR: 'it returns false'. Refute it at one input. -/
def fnBadBlocksWrong : ChangeSpec := { name := "fnBadBlocks", fn := fun _ => fun
  | [d] => { results := [.lit (.bool false)], args := [d] }
  | _ => none }
def FnBadBlocksWrongFalsely : Prop := fnBadBlocksRow.holds Try.pinned (OpenSpec.ofChange fnBadBlocksWrong)

/-- 'laws.FnExactJoinPages': WHATEVER THE INPUT: true; the input reads as it did. -/
def fnExactJoinPagesSpec : ChangeSpec := { name := "fnExactJoinPages", fn := fun _ => fun
  | [d] => { results := [.lit (.bool true)], args := [d] }
  | _ => none }
def fnExactJoinPagesRow : OpenClaim := { program := "ytfiijbacegpomaa", sum := "564e1a2ef84bfe968d052cd741982fb6ee71ba3bd22dfa0c4198104b3aa9e6cc", func := "loop.example/g00905/laws.FnExactJoinPages", spec := "fnExactJoinPages", inPlace := ["internal/abi.NoEscape"], apart := false }
def FnExactJoinPagesSaid : Prop := fnExactJoinPagesRow.holds Try.pinned (OpenSpec.ofChange fnExactJoinPagesSpec)

/-- ITS FALSE NEIGHBOUR: 'it returns false'. Refute it at one input. -/
def fnExactJoinPagesWrong : ChangeSpec := { name := "fnExactJoinPages", fn := fun _ => fun
  | [d] => { results := [.lit (.bool false)], args := [d] }
  | _ => none }
def FnExactJoinPagesWrongFalsely : Prop := fnExactJoinPagesRow.holds Try.pinned (OpenSpec.ofChange fnExactJoinPagesWrong)

/-- 'laws.FnExactEncodeEdit': WHATEVER THE INPUT: true; the input reads as it did. -/
def fnExactEncodeEditSpec : ChangeSpec := { name := "fnExactEncodeEdit", fn := fun _ => fun
  | [d] => { results := [.lit (.bool true)], args := [d] }
  | _ => none }
def fnExactEncodeEditRow : OpenClaim := { program := "ytfiijbacegpomaa", sum := "564e1a2ef84bfe968d052cd741982fb6ee71ba3bd22dfa0c4198104b3aa9e6cc", func := "loop.example/g00905/laws.FnExactEncodeEdit", spec := "fnExactEncodeEdit", inPlace := ["internal/abi.NoEscape"], unfollowed := true, recurses := true, apart := false }
def FnExactEncodeEditSaid : Prop := fnExactEncodeEditRow.holds Try.pinned (OpenSpec.ofChange fnExactEncodeEditSpec)

/-- ITS FALSE NEIGHBOUR: 'it returns false'. Refute it at one input. -/
def fnExactEncodeEditWrong : ChangeSpec := { name := "fnExactEncodeEdit", fn := fun _ => fun
  | [d] => { results := [.lit (.bool false)], args := [d] }
  | _ => none }
def FnExactEncodeEditWrongFalsely : Prop := fnExactEncodeEditRow.holds Try.pinned (OpenSpec.ofChange fnExactEncodeEditWrong)

/-- 'laws.FnExactEncodeVersion': WHATEVER THE INPUT: true; the input reads as it did. -/
def fnExactEncodeVersionSpec : ChangeSpec := { name := "fnExactEncodeVersion", fn := fun _ => fun
  | [d] => { results := [.lit (.bool true)], args := [d] }
  | _ => none }
def fnExactEncodeVersionRow : OpenClaim := { program := "ytfiijbacegpomaa", sum := "564e1a2ef84bfe968d052cd741982fb6ee71ba3bd22dfa0c4198104b3aa9e6cc", func := "loop.example/g00905/laws.FnExactEncodeVersion", spec := "fnExactEncodeVersion", inPlace := ["internal/bytealg.abigen_runtime_cmpstring", "internal/abi.NoEscape"], unfollowed := true, recurses := true, apart := false }
def FnExactEncodeVersionSaid : Prop := fnExactEncodeVersionRow.holds Try.pinned (OpenSpec.ofChange fnExactEncodeVersionSpec)

/-- ITS FALSE NEIGHBOUR: 'it returns false'. Refute it at one input. -/
def fnExactEncodeVersionWrong : ChangeSpec := { name := "fnExactEncodeVersion", fn := fun _ => fun
  | [d] => { results := [.lit (.bool false)], args := [d] }
  | _ => none }
def FnExactEncodeVersionWrongFalsely : Prop := fnExactEncodeVersionRow.holds Try.pinned (OpenSpec.ofChange fnExactEncodeVersionWrong)

/-- 'laws.FnExactRecoverMap': WHATEVER THE INPUT: true; the input reads as it did. -/
def fnExactRecoverMapSpec : ChangeSpec := { name := "fnExactRecoverMap", fn := fun _ => fun
  | [d1, d2, d3, d4] => { results := [.lit (.bool true)], args := [d1, d2, d3, d4] }
  | _ => none }
def fnExactRecoverMapRow : OpenClaim := { program := "ytfiijbacegpomaa", sum := "564e1a2ef84bfe968d052cd741982fb6ee71ba3bd22dfa0c4198104b3aa9e6cc", func := "loop.example/g00905/laws.FnExactRecoverMap", spec := "fnExactRecoverMap", unfollowed := true, recurses := true, apart := false }
def FnExactRecoverMapSaid : Prop := fnExactRecoverMapRow.holds Try.pinned (OpenSpec.ofChange fnExactRecoverMapSpec)

/-- ITS FALSE NEIGHBOUR: 'it returns false'. Refute it at one input. -/
def fnExactRecoverMapWrong : ChangeSpec := { name := "fnExactRecoverMap", fn := fun _ => fun
  | [d1, d2, d3, d4] => { results := [.lit (.bool false)], args := [d1, d2, d3, d4] }
  | _ => none }
def FnExactRecoverMapWrongFalsely : Prop := fnExactRecoverMapRow.holds Try.pinned (OpenSpec.ofChange fnExactRecoverMapWrong)

/-- 'laws.FnExactRecoverFrom': WHATEVER THE INPUT: true; the input reads as it did. -/
def fnExactRecoverFromSpec : ChangeSpec := { name := "fnExactRecoverFrom", fn := fun _ => fun
  | [d1, d2] => { results := [.lit (.bool true)], args := [d1, d2] }
  | _ => none }
def fnExactRecoverFromRow : OpenClaim := { program := "ytfiijbacegpomaa", sum := "564e1a2ef84bfe968d052cd741982fb6ee71ba3bd22dfa0c4198104b3aa9e6cc", func := "loop.example/g00905/laws.FnExactRecoverFrom", spec := "fnExactRecoverFrom", unfollowed := true, recurses := true, apart := false }
def FnExactRecoverFromSaid : Prop := fnExactRecoverFromRow.holds Try.pinned (OpenSpec.ofChange fnExactRecoverFromSpec)

/-- ITS FALSE NEIGHBOUR: 'it returns false'. Refute it at one input. -/
def fnExactRecoverFromWrong : ChangeSpec := { name := "fnExactRecoverFrom", fn := fun _ => fun
  | [d1, d2] => { results := [.lit (.bool false)], args := [d1, d2] }
  | _ => none }
def FnExactRecoverFromWrongFalsely : Prop := fnExactRecoverFromRow.holds Try.pinned (OpenSpec.ofChange fnExactRecoverFromWrong)

/- THE SECOND FORM. 'bulk': how many values and letters a reading holds, each counted each time it is reached (what is shared counts as often as it is met; a slice's spare places count too). A statement '..UptoSaid' is the law's where the arguments, and the package variables that the reading takes, are together of bulk at most 1048576: NARROWER than '..Said'. Prove '..Said' where nothing that the law and all that it calls make is longer than what came in: it says more and counts as full. Else prove '..UptoSaid'. A law counts once. -/
mutual
def uptoBulk {H : Type} : DataW H → Nat
  | .lit (.string bytes) => bytes.length + 1
  | .lit _ => 1
  | .nil => 1
  | .ptr d => uptoBulk d + 1
  | .slice elems spare => uptoBulkAll elems + uptoBulkAll spare + 1
  | .agg parts => uptoBulkAll parts + 1
  | .iface _ d => uptoBulk d + 1
  | .map entries => uptoBulkEntries entries + 1
  | .held _ => 1
def uptoBulkAll {H : Type} : List (DataW H) → Nat
  | [] => 0
  | d :: r => uptoBulk d + uptoBulkAll r
def uptoBulkEntries {H : Type} : List (Lit × DataW H) → Nat
  | [] => 0
  | x :: r => uptoBulkEntry x + uptoBulkEntries r
def uptoBulkEntry {H : Type} : Lit × DataW H → Nat
  | (.string bytes, d) => bytes.length + uptoBulk d + 1
  | (_, d) => uptoBulk d + 1
 end
def uptoSmall : (H : Type) → List (DataW H) → Bool := fun _ ds => decide (uptoBulkAll ds ≤ 1048576)
def OpenSpec.upto (s : _root_.Go.ChangeSpec) : _root_.Go.OpenSpec := { _root_.Go.OpenSpec.ofChange s with cond := some uptoSmall }

/-- 'laws.FnWearBound', WHERE WHAT IT READS IS OF BULK AT MOST 1048576: true; the input reads as it did. -/
def fnWearBoundUptoRow : OpenClaim := { program := "ytfiijbacegpomaa", sum := "564e1a2ef84bfe968d052cd741982fb6ee71ba3bd22dfa0c4198104b3aa9e6cc", func := "loop.example/g00905/laws.FnWearBound", spec := "fnWearBound", unfollowed := true, recurses := true, apart := false, narrowed := true }
def FnWearBoundUptoSaid : Prop := fnWearBoundUptoRow.holds Try.pinned (OpenSpec.upto fnWearBoundSpec)

/-- 'laws.FnBadBlocks', WHERE WHAT IT READS IS OF BULK AT MOST 1048576: true; the input reads as it did. -/
def fnBadBlocksUptoRow : OpenClaim := { program := "ytfiijbacegpomaa", sum := "564e1a2ef84bfe968d052cd741982fb6ee71ba3bd22dfa0c4198104b3aa9e6cc", func := "loop.example/g00905/laws.FnBadBlocks", spec := "fnBadBlocks", inPlace := ["slices.overlaps[int64]"], unfollowed := true, recurses := true, apart := false, narrowed := true }
def FnBadBlocksUptoSaid : Prop := fnBadBlocksUptoRow.holds Try.pinned (OpenSpec.upto fnBadBlocksSpec)

/-- 'laws.FnExactJoinPages', WHERE WHAT IT READS IS OF BULK AT MOST 1048576: true; the input reads as it did. -/
def fnExactJoinPagesUptoRow : OpenClaim := { program := "ytfiijbacegpomaa", sum := "564e1a2ef84bfe968d052cd741982fb6ee71ba3bd22dfa0c4198104b3aa9e6cc", func := "loop.example/g00905/laws.FnExactJoinPages", spec := "fnExactJoinPages", inPlace := ["internal/abi.NoEscape"], apart := false, narrowed := true }
def FnExactJoinPagesUptoSaid : Prop := fnExactJoinPagesUptoRow.holds Try.pinned (OpenSpec.upto fnExactJoinPagesSpec)

/-- 'laws.FnExactEncodeEdit', WHERE WHAT IT READS IS OF BULK AT MOST 1048576: true; the input reads as it did. -/
def fnExactEncodeEditUptoRow : OpenClaim := { program := "ytfiijbacegpomaa", sum := "564e1a2ef84bfe968d052cd741982fb6ee71ba3bd22dfa0c4198104b3aa9e6cc", func := "loop.example/g00905/laws.FnExactEncodeEdit", spec := "fnExactEncodeEdit", inPlace := ["internal/abi.NoEscape"], unfollowed := true, recurses := true, apart := false, narrowed := true }
def FnExactEncodeEditUptoSaid : Prop := fnExactEncodeEditUptoRow.holds Try.pinned (OpenSpec.upto fnExactEncodeEditSpec)

/-- 'laws.FnExactEncodeVersion', WHERE WHAT IT READS IS OF BULK AT MOST 1048576: true; the input reads as it did. -/
def fnExactEncodeVersionUptoRow : OpenClaim := { program := "ytfiijbacegpomaa", sum := "564e1a2ef84bfe968d052cd741982fb6ee71ba3bd22dfa0c4198104b3aa9e6cc", func := "loop.example/g00905/laws.FnExactEncodeVersion", spec := "fnExactEncodeVersion", inPlace := ["internal/bytealg.abigen_runtime_cmpstring", "internal/abi.NoEscape"], unfollowed := true, recurses := true, apart := false, narrowed := true }
def FnExactEncodeVersionUptoSaid : Prop := fnExactEncodeVersionUptoRow.holds Try.pinned (OpenSpec.upto fnExactEncodeVersionSpec)

/-- 'laws.FnExactRecoverMap', WHERE WHAT IT READS IS OF BULK AT MOST 1048576: true; the input reads as it did. -/
def fnExactRecoverMapUptoRow : OpenClaim := { program := "ytfiijbacegpomaa", sum := "564e1a2ef84bfe968d052cd741982fb6ee71ba3bd22dfa0c4198104b3aa9e6cc", func := "loop.example/g00905/laws.FnExactRecoverMap", spec := "fnExactRecoverMap", unfollowed := true, recurses := true, apart := false, narrowed := true }
def FnExactRecoverMapUptoSaid : Prop := fnExactRecoverMapUptoRow.holds Try.pinned (OpenSpec.upto fnExactRecoverMapSpec)

/-- 'laws.FnExactRecoverFrom', WHERE WHAT IT READS IS OF BULK AT MOST 1048576: true; the input reads as it did. -/
def fnExactRecoverFromUptoRow : OpenClaim := { program := "ytfiijbacegpomaa", sum := "564e1a2ef84bfe968d052cd741982fb6ee71ba3bd22dfa0c4198104b3aa9e6cc", func := "loop.example/g00905/laws.FnExactRecoverFrom", spec := "fnExactRecoverFrom", unfollowed := true, recurses := true, apart := false, narrowed := true }
def FnExactRecoverFromUptoSaid : Prop := fnExactRecoverFromUptoRow.holds Try.pinned (OpenSpec.upto fnExactRecoverFromSpec)

end Rows
end Go.Proofs.Ytfiijbacegpomaa
