/-
  No cell of these rows narrows 'for every input' (looked for: loops, veiled, ifaces, maps, wideKeys, modest, calm, conditions, laid).
  DERIVED. THE GIVEN ROWS OF THIS SEAT. 11 by the template 'for every input the law returns true; each argument reads behind the call as it read before'; 0 by the template 'total and deterministic' (their statements: YthlmjmejnlalaaaTotals.lean).
  GIVEN WITH THE SEED: the statements are not yours to turn. If you find one false, say at which input.
  Laid BY PROGRAM, IN A SANDBOX (cutbox-rows.mjs): the forced cells as the released guide's own fill.sh prints them over the translation 421f6489b3a7e6f2… (all of the seat's roots in one cut). By AI agents, Wed Nov 11 2026. No macro, syntax, notation, axiom, sorry.
-/
import Derived.Test.YthlmjmejnlalaaaChecked
import GoSem.Claim
import GoSem.ClaimJoined
import GoSem.ClaimMapViews
import Derived.JoinedTies
import Derived.KernelRfl
namespace Go.Proofs.Ythlmjmejnlalaaa
/- THE CELL 'sum', in the pinned program and in every row, IS THE sha256 OF THE DUMP (.gsa) THAT YthlmjmejnlalaaaProg.lean LOADS. Nothing in Lean hashes anything: it is a label: what it is worth is what the hold of that sum in a sandbox is worth. -/
noncomputable def Try.pinned : Pinned := { name := "ythlmjmejnlalaaa", sum := "421f6489b3a7e6f2f755aa335486d615091bf2d64c981e590d82c4ff24e41661", checked := Try.checked }
namespace Rows
def none {H : Type} : Left H := { results := [], args := [] }

/-- 'laws.FnExactValidFragments': WHATEVER THE INPUT: true; the input reads as it did. -/
def fnExactValidFragmentsSpec : ChangeSpec := { name := "fnExactValidFragments", fn := fun _ => fun
  | [d] => { results := [.lit (.bool true)], args := [d] }
  | _ => none }
def fnExactValidFragmentsRow : OpenClaim := { program := "ythlmjmejnlalaaa", sum := "421f6489b3a7e6f2f755aa335486d615091bf2d64c981e590d82c4ff24e41661", func := "loop.example/g00905/laws.FnExactValidFragments", spec := "fnExactValidFragments", unfollowed := true, recurses := true, apart := false }
def FnExactValidFragmentsSaid : Prop := fnExactValidFragmentsRow.holds Try.pinned (OpenSpec.ofChange fnExactValidFragmentsSpec)

/-- ITS FALSE NEIGHBOUR: 'it returns false'. Refute it at one input. -/
def fnExactValidFragmentsWrong : ChangeSpec := { name := "fnExactValidFragments", fn := fun _ => fun
  | [d] => { results := [.lit (.bool false)], args := [d] }
  | _ => none }
def FnExactValidFragmentsWrongFalsely : Prop := fnExactValidFragmentsRow.holds Try.pinned (OpenSpec.ofChange fnExactValidFragmentsWrong)

/-- 'laws.FnExactNewFilter': WHATEVER THE INPUT: true; the input reads as it did. -/
def fnExactNewFilterSpec : ChangeSpec := { name := "fnExactNewFilter", fn := fun _ => fun
  | [d] => { results := [.lit (.bool true)], args := [d] }
  | _ => none }
def fnExactNewFilterRow : OpenClaim := { program := "ythlmjmejnlalaaa", sum := "421f6489b3a7e6f2f755aa335486d615091bf2d64c981e590d82c4ff24e41661", func := "loop.example/g00905/laws.FnExactNewFilter", spec := "fnExactNewFilter", inPlace := ["internal/abi.NoEscape", "internal/bytealg.MakeNoZero"], apart := false }
def FnExactNewFilterSaid : Prop := fnExactNewFilterRow.holds Try.pinned (OpenSpec.ofChange fnExactNewFilterSpec)

/-- ITS FALSE NEIGHBOUR: 'it returns false'. Refute it at one input. -/
def fnExactNewFilterWrong : ChangeSpec := { name := "fnExactNewFilter", fn := fun _ => fun
  | [d] => { results := [.lit (.bool false)], args := [d] }
  | _ => none }
def FnExactNewFilterWrongFalsely : Prop := fnExactNewFilterRow.holds Try.pinned (OpenSpec.ofChange fnExactNewFilterWrong)

/-- 'laws.FnExactCoverSeq': WHATEVER THE INPUT: true; the input reads as it did. -/
def fnExactCoverSeqSpec : ChangeSpec := { name := "fnExactCoverSeq", fn := fun _ => fun
  | [d1, d2, d3] => { results := [.lit (.bool true)], args := [d1, d2, d3] }
  | _ => none }
def fnExactCoverSeqRow : OpenClaim := { program := "ythlmjmejnlalaaa", sum := "421f6489b3a7e6f2f755aa335486d615091bf2d64c981e590d82c4ff24e41661", func := "loop.example/g00905/laws.FnExactCoverSeq", spec := "fnExactCoverSeq", unfollowed := true, recurses := true, apart := false }
def FnExactCoverSeqSaid : Prop := fnExactCoverSeqRow.holds Try.pinned (OpenSpec.ofChange fnExactCoverSeqSpec)

/-- ITS FALSE NEIGHBOUR: 'it returns false'. Refute it at one input. -/
def fnExactCoverSeqWrong : ChangeSpec := { name := "fnExactCoverSeq", fn := fun _ => fun
  | [d1, d2, d3] => { results := [.lit (.bool false)], args := [d1, d2, d3] }
  | _ => none }
def FnExactCoverSeqWrongFalsely : Prop := fnExactCoverSeqRow.holds Try.pinned (OpenSpec.ofChange fnExactCoverSeqWrong)

/-- 'laws.FnExactValidEdit': WHATEVER THE INPUT: true; the input reads as it did. -/
def fnExactValidEditSpec : ChangeSpec := { name := "fnExactValidEdit", fn := fun _ => fun
  | [d] => { results := [.lit (.bool true)], args := [d] }
  | _ => none }
def fnExactValidEditRow : OpenClaim := { program := "ythlmjmejnlalaaa", sum := "421f6489b3a7e6f2f755aa335486d615091bf2d64c981e590d82c4ff24e41661", func := "loop.example/g00905/laws.FnExactValidEdit", spec := "fnExactValidEdit", unfollowed := true, recurses := true, apart := false }
def FnExactValidEditSaid : Prop := fnExactValidEditRow.holds Try.pinned (OpenSpec.ofChange fnExactValidEditSpec)

/-- ITS FALSE NEIGHBOUR: 'it returns false'. Refute it at one input. -/
def fnExactValidEditWrong : ChangeSpec := { name := "fnExactValidEdit", fn := fun _ => fun
  | [d] => { results := [.lit (.bool false)], args := [d] }
  | _ => none }
def FnExactValidEditWrongFalsely : Prop := fnExactValidEditRow.holds Try.pinned (OpenSpec.ofChange fnExactValidEditWrong)

/-- 'laws.FnWearBound': WHATEVER THE INPUT: true; the input reads as it did. -/
def fnWearBoundSpec : ChangeSpec := { name := "fnWearBound", fn := fun _ => fun
  | [d] => { results := [.lit (.bool true)], args := [d] }
  | _ => none }
def fnWearBoundRow : OpenClaim := { program := "ythlmjmejnlalaaa", sum := "421f6489b3a7e6f2f755aa335486d615091bf2d64c981e590d82c4ff24e41661", func := "loop.example/g00905/laws.FnWearBound", spec := "fnWearBound", unfollowed := true, recurses := true, apart := false }
def FnWearBoundSaid : Prop := fnWearBoundRow.holds Try.pinned (OpenSpec.ofChange fnWearBoundSpec)

/-- ITS FALSE NEIGHBOUR: 'it returns false'. Refute it at one input. -/
def fnWearBoundWrong : ChangeSpec := { name := "fnWearBound", fn := fun _ => fun
  | [d] => { results := [.lit (.bool false)], args := [d] }
  | _ => none }
def FnWearBoundWrongFalsely : Prop := fnWearBoundRow.holds Try.pinned (OpenSpec.ofChange fnWearBoundWrong)

/-- 'laws.FnExactKeyRange': WHATEVER THE INPUT: true; the input reads as it did. -/
def fnExactKeyRangeSpec : ChangeSpec := { name := "fnExactKeyRange", fn := fun _ => fun
  | [d] => { results := [.lit (.bool true)], args := [d] }
  | _ => none }
def fnExactKeyRangeRow : OpenClaim := { program := "ythlmjmejnlalaaa", sum := "421f6489b3a7e6f2f755aa335486d615091bf2d64c981e590d82c4ff24e41661", func := "loop.example/g00905/laws.FnExactKeyRange", spec := "fnExactKeyRange", inPlace := ["internal/bytealg.abigen_runtime_cmpstring"], apart := false }
def FnExactKeyRangeSaid : Prop := fnExactKeyRangeRow.holds Try.pinned (OpenSpec.ofChange fnExactKeyRangeSpec)

/-- ITS FALSE NEIGHBOUR: 'it returns false'. Refute it at one input. -/
def fnExactKeyRangeWrong : ChangeSpec := { name := "fnExactKeyRange", fn := fun _ => fun
  | [d] => { results := [.lit (.bool false)], args := [d] }
  | _ => none }
def FnExactKeyRangeWrongFalsely : Prop := fnExactKeyRangeRow.holds Try.pinned (OpenSpec.ofChange fnExactKeyRangeWrong)

/-- 'laws.FnExactValidVersion': WHATEVER THE INPUT: true; the input reads as it did. -/
def fnExactValidVersionSpec : ChangeSpec := { name := "fnExactValidVersion", fn := fun _ => fun
  | [d] => { results := [.lit (.bool true)], args := [d] }
  | _ => none }
def fnExactValidVersionRow : OpenClaim := { program := "ythlmjmejnlalaaa", sum := "421f6489b3a7e6f2f755aa335486d615091bf2d64c981e590d82c4ff24e41661", func := "loop.example/g00905/laws.FnExactValidVersion", spec := "fnExactValidVersion", inPlace := ["internal/bytealg.abigen_runtime_cmpstring"], unfollowed := true, recurses := true, apart := false }
def FnExactValidVersionSaid : Prop := fnExactValidVersionRow.holds Try.pinned (OpenSpec.ofChange fnExactValidVersionSpec)

/-- ITS FALSE NEIGHBOUR: 'it returns false'. Refute it at one input. -/
def fnExactValidVersionWrong : ChangeSpec := { name := "fnExactValidVersion", fn := fun _ => fun
  | [d] => { results := [.lit (.bool false)], args := [d] }
  | _ => none }
def FnExactValidVersionWrongFalsely : Prop := fnExactValidVersionRow.holds Try.pinned (OpenSpec.ofChange fnExactValidVersionWrong)

/-- 'laws.FnExactSetPage': WHATEVER THE INPUT: true; the input reads as it did. -/
def fnExactSetPageSpec : ChangeSpec := { name := "fnExactSetPage", fn := fun _ => fun
  | [d1, d2, d3, d4] => { results := [.lit (.bool true)], args := [d1, d2, d3, d4] }
  | _ => none }
def fnExactSetPageRow : OpenClaim := { program := "ythlmjmejnlalaaa", sum := "421f6489b3a7e6f2f755aa335486d615091bf2d64c981e590d82c4ff24e41661", func := "loop.example/g00905/laws.FnExactSetPage", spec := "fnExactSetPage", apart := false }
def FnExactSetPageSaid : Prop := fnExactSetPageRow.holds Try.pinned (OpenSpec.ofChange fnExactSetPageSpec)

/-- ITS FALSE NEIGHBOUR: 'it returns false'. Refute it at one input. -/
def fnExactSetPageWrong : ChangeSpec := { name := "fnExactSetPage", fn := fun _ => fun
  | [d1, d2, d3, d4] => { results := [.lit (.bool false)], args := [d1, d2, d3, d4] }
  | _ => none }
def FnExactSetPageWrongFalsely : Prop := fnExactSetPageRow.holds Try.pinned (OpenSpec.ofChange fnExactSetPageWrong)

/-- 'laws.FnExactGetVisible': WHATEVER THE INPUT: true; the input reads as it did. -/
def fnExactGetVisibleSpec : ChangeSpec := { name := "fnExactGetVisible", fn := fun _ => fun
  | [d1, d2, d3] => { results := [.lit (.bool true)], args := [d1, d2, d3] }
  | _ => none }
def fnExactGetVisibleRow : OpenClaim := { program := "ythlmjmejnlalaaa", sum := "421f6489b3a7e6f2f755aa335486d615091bf2d64c981e590d82c4ff24e41661", func := "loop.example/g00905/laws.FnExactGetVisible", spec := "fnExactGetVisible", inPlace := ["internal/bytealg.abigen_runtime_cmpstring"], apart := false }
def FnExactGetVisibleSaid : Prop := fnExactGetVisibleRow.holds Try.pinned (OpenSpec.ofChange fnExactGetVisibleSpec)

/-- ITS FALSE NEIGHBOUR: 'it returns false'. Refute it at one input. -/
def fnExactGetVisibleWrong : ChangeSpec := { name := "fnExactGetVisible", fn := fun _ => fun
  | [d1, d2, d3] => { results := [.lit (.bool false)], args := [d1, d2, d3] }
  | _ => none }
def FnExactGetVisibleWrongFalsely : Prop := fnExactGetVisibleRow.holds Try.pinned (OpenSpec.ofChange fnExactGetVisibleWrong)

/-- 'laws.FnExactPotentialOf': WHATEVER THE INPUT: true; the input reads as it did. -/
def fnExactPotentialOfSpec : ChangeSpec := { name := "fnExactPotentialOf", fn := fun _ => fun
  | [d] => { results := [.lit (.bool true)], args := [d] }
  | _ => none }
def fnExactPotentialOfRow : OpenClaim := { program := "ythlmjmejnlalaaa", sum := "421f6489b3a7e6f2f755aa335486d615091bf2d64c981e590d82c4ff24e41661", func := "loop.example/g00905/laws.FnExactPotentialOf", spec := "fnExactPotentialOf", inPlace := ["internal/bytealg.abigen_runtime_cmpstring"], unfollowed := true, recurses := true, apart := false }
def FnExactPotentialOfSaid : Prop := fnExactPotentialOfRow.holds Try.pinned (OpenSpec.ofChange fnExactPotentialOfSpec)

/-- ITS FALSE NEIGHBOUR: 'it returns false'. Refute it at one input. -/
def fnExactPotentialOfWrong : ChangeSpec := { name := "fnExactPotentialOf", fn := fun _ => fun
  | [d] => { results := [.lit (.bool false)], args := [d] }
  | _ => none }
def FnExactPotentialOfWrongFalsely : Prop := fnExactPotentialOfRow.holds Try.pinned (OpenSpec.ofChange fnExactPotentialOfWrong)

/-- 'laws.FnExactCompactRuns': WHATEVER THE INPUT: true; the input reads as it did. -/
def fnExactCompactRunsSpec : ChangeSpec := { name := "fnExactCompactRuns", fn := fun _ => fun
  | [d1, d2, d3] => { results := [.lit (.bool true)], args := [d1, d2, d3] }
  | _ => none }
def fnExactCompactRunsRow : OpenClaim := { program := "ythlmjmejnlalaaa", sum := "421f6489b3a7e6f2f755aa335486d615091bf2d64c981e590d82c4ff24e41661", func := "loop.example/g00905/laws.FnExactCompactRuns", spec := "fnExactCompactRuns", inPlace := ["internal/bytealg.abigen_runtime_cmpstring"], unfollowed := true, recurses := true, apart := false }
def FnExactCompactRunsSaid : Prop := fnExactCompactRunsRow.holds Try.pinned (OpenSpec.ofChange fnExactCompactRunsSpec)

/-- ITS FALSE NEIGHBOUR: 'it returns false'. Refute it at one input. -/
def fnExactCompactRunsWrong : ChangeSpec := { name := "fnExactCompactRuns", fn := fun _ => fun
  | [d1, d2, d3] => { results := [.lit (.bool false)], args := [d1, d2, d3] }
  | _ => none }
def FnExactCompactRunsWrongFalsely : Prop := fnExactCompactRunsRow.holds Try.pinned (OpenSpec.ofChange fnExactCompactRunsWrong)

/- THE SECOND FORM. 'bulk': how many values and letters a reading holds, each counted each time it is reached (what is shared counts as often as it is met; a slice's spare places count too). A statement '..UptoSaid' is the law's where the arguments, and the package variables that the reading takes, are together of bulk at most 1048576: NARROWER than '..Said'. Prove '..Said' where nothing that the law and all that it calls make is longer than what came in: it says more and counts as full. Else prove '..UptoSaid'. A law counts once. -/
mutual
def uptoBulk {H : Type} : DataW H → Nat
  | .lit (.string bytes) => bytes.length + 1
  | .lit _ => 1
  | .nil => 1
  | .ptr d => uptoBulk d + 1
  | .slice elems spare => uptoBulkAll elems + uptoBulkAll spare + 1
  | .agg parts => uptoBulkAll parts + 1
  | .iface _ d => uptoBulk d + 1
  | .map entries => uptoBulkEntries entries + 1
  | .held _ => 1
def uptoBulkAll {H : Type} : List (DataW H) → Nat
  | [] => 0
  | d :: r => uptoBulk d + uptoBulkAll r
def uptoBulkEntries {H : Type} : List (Lit × DataW H) → Nat
  | [] => 0
  | x :: r => uptoBulkEntry x + uptoBulkEntries r
def uptoBulkEntry {H : Type} : Lit × DataW H → Nat
  | (.string bytes, d) => bytes.length + uptoBulk d + 1
  | (_, d) => uptoBulk d + 1
 end
def uptoSmall : (H : Type) → List (DataW H) → Bool := fun _ ds => decide (uptoBulkAll ds ≤ 1048576)
def OpenSpec.upto (s : _root_.Go.ChangeSpec) : _root_.Go.OpenSpec := { _root_.Go.OpenSpec.ofChange s with cond := some uptoSmall }

/-- 'laws.FnExactValidFragments', WHERE WHAT IT READS IS OF BULK AT MOST 1048576: true; the input reads as it did. -/
def fnExactValidFragmentsUptoRow : OpenClaim := { program := "ythlmjmejnlalaaa", sum := "421f6489b3a7e6f2f755aa335486d615091bf2d64c981e590d82c4ff24e41661", func := "loop.example/g00905/laws.FnExactValidFragments", spec := "fnExactValidFragments", unfollowed := true, recurses := true, apart := false, narrowed := true }
def FnExactValidFragmentsUptoSaid : Prop := fnExactValidFragmentsUptoRow.holds Try.pinned (OpenSpec.upto fnExactValidFragmentsSpec)

/-- 'laws.FnExactNewFilter', WHERE WHAT IT READS IS OF BULK AT MOST 1048576: true; the input reads as it did. -/
def fnExactNewFilterUptoRow : OpenClaim := { program := "ythlmjmejnlalaaa", sum := "421f6489b3a7e6f2f755aa335486d615091bf2d64c981e590d82c4ff24e41661", func := "loop.example/g00905/laws.FnExactNewFilter", spec := "fnExactNewFilter", inPlace := ["internal/abi.NoEscape", "internal/bytealg.MakeNoZero"], apart := false, narrowed := true }
def FnExactNewFilterUptoSaid : Prop := fnExactNewFilterUptoRow.holds Try.pinned (OpenSpec.upto fnExactNewFilterSpec)

/-- 'laws.FnExactCoverSeq', WHERE WHAT IT READS IS OF BULK AT MOST 1048576: true; the input reads as it did. -/
def fnExactCoverSeqUptoRow : OpenClaim := { program := "ythlmjmejnlalaaa", sum := "421f6489b3a7e6f2f755aa335486d615091bf2d64c981e590d82c4ff24e41661", func := "loop.example/g00905/laws.FnExactCoverSeq", spec := "fnExactCoverSeq", unfollowed := true, recurses := true, apart := false, narrowed := true }
def FnExactCoverSeqUptoSaid : Prop := fnExactCoverSeqUptoRow.holds Try.pinned (OpenSpec.upto fnExactCoverSeqSpec)

/-- 'laws.FnExactValidEdit', WHERE WHAT IT READS IS OF BULK AT MOST 1048576: true; the input reads as it did. -/
def fnExactValidEditUptoRow : OpenClaim := { program := "ythlmjmejnlalaaa", sum := "421f6489b3a7e6f2f755aa335486d615091bf2d64c981e590d82c4ff24e41661", func := "loop.example/g00905/laws.FnExactValidEdit", spec := "fnExactValidEdit", unfollowed := true, recurses := true, apart := false, narrowed := true }
def FnExactValidEditUptoSaid : Prop := fnExactValidEditUptoRow.holds Try.pinned (OpenSpec.upto fnExactValidEditSpec)

/-- 'laws.FnWearBound', WHERE WHAT IT READS IS OF BULK AT MOST 1048576: true; the input reads as it did. -/
def fnWearBoundUptoRow : OpenClaim := { program := "ythlmjmejnlalaaa", sum := "421f6489b3a7e6f2f755aa335486d615091bf2d64c981e590d82c4ff24e41661", func := "loop.example/g00905/laws.FnWearBound", spec := "fnWearBound", unfollowed := true, recurses := true, apart := false, narrowed := true }
def FnWearBoundUptoSaid : Prop := fnWearBoundUptoRow.holds Try.pinned (OpenSpec.upto fnWearBoundSpec)

/-- 'laws.FnExactKeyRange', WHERE WHAT IT READS IS OF BULK AT MOST 1048576: true; the input reads as it did. -/
def fnExactKeyRangeUptoRow : OpenClaim := { program := "ythlmjmejnlalaaa", sum := "421f6489b3a7e6f2f755aa335486d615091bf2d64c981e590d82c4ff24e41661", func := "loop.example/g00905/laws.FnExactKeyRange", spec := "fnExactKeyRange", inPlace := ["internal/bytealg.abigen_runtime_cmpstring"], apart := false, narrowed := true }
def FnExactKeyRangeUptoSaid : Prop := fnExactKeyRangeUptoRow.holds Try.pinned (OpenSpec.upto fnExactKeyRangeSpec)

/-- 'laws.FnExactValidVersion', WHERE WHAT IT READS IS OF BULK AT MOST 1048576: true; the input reads as it did. -/
def fnExactValidVersionUptoRow : OpenClaim := { program := "ythlmjmejnlalaaa", sum := "421f6489b3a7e6f2f755aa335486d615091bf2d64c981e590d82c4ff24e41661", func := "loop.example/g00905/laws.FnExactValidVersion", spec := "fnExactValidVersion", inPlace := ["internal/bytealg.abigen_runtime_cmpstring"], unfollowed := true, recurses := true, apart := false, narrowed := true }
def FnExactValidVersionUptoSaid : Prop := fnExactValidVersionUptoRow.holds Try.pinned (OpenSpec.upto fnExactValidVersionSpec)

/-- 'laws.FnExactSetPage', WHERE WHAT IT READS IS OF BULK AT MOST 1048576: true; the input reads as it did. -/
def fnExactSetPageUptoRow : OpenClaim := { program := "ythlmjmejnlalaaa", sum := "421f6489b3a7e6f2f755aa335486d615091bf2d64c981e590d82c4ff24e41661", func := "loop.example/g00905/laws.FnExactSetPage", spec := "fnExactSetPage", apart := false, narrowed := true }
def FnExactSetPageUptoSaid : Prop := fnExactSetPageUptoRow.holds Try.pinned (OpenSpec.upto fnExactSetPageSpec)

/-- 'laws.FnExactGetVisible', WHERE WHAT IT READS IS OF BULK AT MOST 1048576: true; the input reads as it did. -/
def fnExactGetVisibleUptoRow : OpenClaim := { program := "ythlmjmejnlalaaa", sum := "421f6489b3a7e6f2f755aa335486d615091bf2d64c981e590d82c4ff24e41661", func := "loop.example/g00905/laws.FnExactGetVisible", spec := "fnExactGetVisible", inPlace := ["internal/bytealg.abigen_runtime_cmpstring"], apart := false, narrowed := true }
def FnExactGetVisibleUptoSaid : Prop := fnExactGetVisibleUptoRow.holds Try.pinned (OpenSpec.upto fnExactGetVisibleSpec)

/-- 'laws.FnExactPotentialOf', WHERE WHAT IT READS IS OF BULK AT MOST 1048576: true; the input reads as it did. -/
def fnExactPotentialOfUptoRow : OpenClaim := { program := "ythlmjmejnlalaaa", sum := "421f6489b3a7e6f2f755aa335486d615091bf2d64c981e590d82c4ff24e41661", func := "loop.example/g00905/laws.FnExactPotentialOf", spec := "fnExactPotentialOf", inPlace := ["internal/bytealg.abigen_runtime_cmpstring"], unfollowed := true, recurses := true, apart := false, narrowed := true }
def FnExactPotentialOfUptoSaid : Prop := fnExactPotentialOfUptoRow.holds Try.pinned (OpenSpec.upto fnExactPotentialOfSpec)

/-- 'laws.FnExactCompactRuns', WHERE WHAT IT READS IS OF BULK AT MOST 1048576: true; the input reads as it did. -/
def fnExactCompactRunsUptoRow : OpenClaim := { program := "ythlmjmejnlalaaa", sum := "421f6489b3a7e6f2f755aa335486d615091bf2d64c981e590d82c4ff24e41661", func := "loop.example/g00905/laws.FnExactCompactRuns", spec := "fnExactCompactRuns", inPlace := ["internal/bytealg.abigen_runtime_cmpstring"], unfollowed := true, recurses := true, apart := false, narrowed := true }
def FnExactCompactRunsUptoSaid : Prop := fnExactCompactRunsUptoRow.holds Try.pinned (OpenSpec.upto fnExactCompactRunsSpec)

end Rows
end Go.Proofs.Ythlmjmejnlalaaa
