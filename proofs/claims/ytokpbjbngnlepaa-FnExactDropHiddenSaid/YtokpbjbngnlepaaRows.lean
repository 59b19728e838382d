/-
  No cell of these rows narrows 'for every input' (looked for: loops, veiled, ifaces, maps, wideKeys, modest, calm, conditions, laid).
  DERIVED. THE GIVEN ROWS OF THIS SEAT. 7 by the template 'for every input the law returns true; each argument reads behind the call as it read before'; 0 by the template 'total and deterministic' (their statements: YtokpbjbngnlepaaTotals.lean).
  GIVEN WITH THE SEED: the statements are not yours to turn. If you find one false, say at which input.
  Laid BY PROGRAM, IN A SANDBOX (cutbox-rows.mjs): the forced cells as the released guide's own fill.sh prints them over the translation a7cfc2d21bd82a30… (all of the seat's roots in one cut). By AI agents, Wed Nov 11 2026. No macro, syntax, notation, axiom, sorry.
-/
import Derived.Test.YtokpbjbngnlepaaChecked
import GoSem.Claim
import GoSem.ClaimJoined
import GoSem.ClaimMapViews
import Derived.JoinedTies
import Derived.KernelRfl
namespace Go.Proofs.Ytokpbjbngnlepaa
/- THE CELL 'sum', in the pinned program and in every row, IS THE sha256 OF THE DUMP (.gsa) THAT YtokpbjbngnlepaaProg.lean LOADS. Nothing in Lean hashes anything: it is a label: what it is worth is what the hold of that sum in a sandbox is worth. -/
noncomputable def Try.pinned : Pinned := { name := "ytokpbjbngnlepaa", sum := "a7cfc2d21bd82a300c340d3d6b816a0dc01e2b43ac196b0f80d24e8537f45b19", checked := Try.checked }
namespace Rows
def none {H : Type} : Left H := { results := [], args := [] }

/-- 'laws.FnExactWearOfZone': WHATEVER THE INPUT: true; the input reads as it did. -/
def fnExactWearOfZoneSpec : ChangeSpec := { name := "fnExactWearOfZone", fn := fun _ => fun
  | [d1, d2] => { results := [.lit (.bool true)], args := [d1, d2] }
  | _ => none }
def fnExactWearOfZoneRow : OpenClaim := { program := "ytokpbjbngnlepaa", sum := "a7cfc2d21bd82a300c340d3d6b816a0dc01e2b43ac196b0f80d24e8537f45b19", func := "loop.example/g00905/laws.FnExactWearOfZone", spec := "fnExactWearOfZone", unfollowed := true, recurses := true, apart := false }
def FnExactWearOfZoneSaid : Prop := fnExactWearOfZoneRow.holds Try.pinned (OpenSpec.ofChange fnExactWearOfZoneSpec)

/-- ITS FALSE NEIGHBOUR: 'it returns false'. Refute it at one input. -/
def fnExactWearOfZoneWrong : ChangeSpec := { name := "fnExactWearOfZone", fn := fun _ => fun
  | [d1, d2] => { results := [.lit (.bool false)], args := [d1, d2] }
  | _ => none }
def FnExactWearOfZoneWrongFalsely : Prop := fnExactWearOfZoneRow.holds Try.pinned (OpenSpec.ofChange fnExactWearOfZoneWrong)

/-- 'laws.FnExactScanVisible': WHATEVER THE INPUT: true; the input reads as it did. -/
def fnExactScanVisibleSpec : ChangeSpec := { name := "fnExactScanVisible", fn := fun _ => fun
  | [d1, d2, d3, d4] => { results := [.lit (.bool true)], args := [d1, d2, d3, d4] }
  | _ => none }
def fnExactScanVisibleRow : OpenClaim := { program := "ytokpbjbngnlepaa", sum := "a7cfc2d21bd82a300c340d3d6b816a0dc01e2b43ac196b0f80d24e8537f45b19", func := "loop.example/g00905/laws.FnExactScanVisible", spec := "fnExactScanVisible", inPlace := ["internal/bytealg.abigen_runtime_cmpstring"], unfollowed := true, recurses := true, apart := false }
def FnExactScanVisibleSaid : Prop := fnExactScanVisibleRow.holds Try.pinned (OpenSpec.ofChange fnExactScanVisibleSpec)

/-- ITS FALSE NEIGHBOUR: 'it returns false'. Refute it at one input. -/
def fnExactScanVisibleWrong : ChangeSpec := { name := "fnExactScanVisible", fn := fun _ => fun
  | [d1, d2, d3, d4] => { results := [.lit (.bool false)], args := [d1, d2, d3, d4] }
  | _ => none }
def FnExactScanVisibleWrongFalsely : Prop := fnExactScanVisibleRow.holds Try.pinned (OpenSpec.ofChange fnExactScanVisibleWrong)

/-- 'laws.FnExactVisibleAt': WHATEVER THE INPUT: true; the input reads as it did. -/
def fnExactVisibleAtSpec : ChangeSpec := { name := "fnExactVisibleAt", fn := fun _ => fun
  | [d1, d2] => { results := [.lit (.bool true)], args := [d1, d2] }
  | _ => none }
def fnExactVisibleAtRow : OpenClaim := { program := "ytokpbjbngnlepaa", sum := "a7cfc2d21bd82a300c340d3d6b816a0dc01e2b43ac196b0f80d24e8537f45b19", func := "loop.example/g00905/laws.FnExactVisibleAt", spec := "fnExactVisibleAt", inPlace := ["internal/bytealg.abigen_runtime_cmpstring"], unfollowed := true, recurses := true, apart := false }
def FnExactVisibleAtSaid : Prop := fnExactVisibleAtRow.holds Try.pinned (OpenSpec.ofChange fnExactVisibleAtSpec)

/-- ITS FALSE NEIGHBOUR: 'it returns false'. Refute it at one input. -/
def fnExactVisibleAtWrong : ChangeSpec := { name := "fnExactVisibleAt", fn := fun _ => fun
  | [d1, d2] => { results := [.lit (.bool false)], args := [d1, d2] }
  | _ => none }
def FnExactVisibleAtWrongFalsely : Prop := fnExactVisibleAtRow.holds Try.pinned (OpenSpec.ofChange fnExactVisibleAtWrong)

/-- 'laws.FnExactDropHidden': WHATEVER THE INPUT: true; the input reads as it did. -/
def fnExactDropHiddenSpec : ChangeSpec := { name := "fnExactDropHidden", fn := fun _ => fun
  | [d1, d2, d3] => { results := [.lit (.bool true)], args := [d1, d2, d3] }
  | _ => none }
def fnExactDropHiddenRow : OpenClaim := { program := "ytokpbjbngnlepaa", sum := "a7cfc2d21bd82a300c340d3d6b816a0dc01e2b43ac196b0f80d24e8537f45b19", func := "loop.example/g00905/laws.FnExactDropHidden", spec := "fnExactDropHidden", inPlace := ["internal/bytealg.abigen_runtime_cmpstring"], unfollowed := true, recurses := true, apart := false }
def FnExactDropHiddenSaid : Prop := fnExactDropHiddenRow.holds Try.pinned (OpenSpec.ofChange fnExactDropHiddenSpec)

/-- ITS FALSE NEIGHBOUR: 'it returns false'. Refute it at one input. -/
def fnExactDropHiddenWrong : ChangeSpec := { name := "fnExactDropHidden", fn := fun _ => fun
  | [d1, d2, d3] => { results := [.lit (.bool false)], args := [d1, d2, d3] }
  | _ => none }
def FnExactDropHiddenWrongFalsely : Prop := fnExactDropHiddenRow.holds Try.pinned (OpenSpec.ofChange fnExactDropHiddenWrong)

/-- 'laws.FnExactInsertMem': WHATEVER THE INPUT: true; the input reads as it did. -/
def fnExactInsertMemSpec : ChangeSpec := { name := "fnExactInsertMem", fn := fun _ => fun
  | [d1, d2] => { results := [.lit (.bool true)], args := [d1, d2] }
  | _ => none }
def fnExactInsertMemRow : OpenClaim := { program := "ytokpbjbngnlepaa", sum := "a7cfc2d21bd82a300c340d3d6b816a0dc01e2b43ac196b0f80d24e8537f45b19", func := "loop.example/g00905/laws.FnExactInsertMem", spec := "fnExactInsertMem", inPlace := ["internal/bytealg.abigen_runtime_cmpstring", "slices.overlaps[loop.example/g00905/impl.Record]"], unfollowed := true, recurses := true, apart := false }
def FnExactInsertMemSaid : Prop := fnExactInsertMemRow.holds Try.pinned (OpenSpec.ofChange fnExactInsertMemSpec)

/-- ITS FALSE NEIGHBOUR: 'it returns false'. Refute it at one input. -/
def fnExactInsertMemWrong : ChangeSpec := { name := "fnExactInsertMem", fn := fun _ => fun
  | [d1, d2] => { results := [.lit (.bool false)], args := [d1, d2] }
  | _ => none }
def FnExactInsertMemWrongFalsely : Prop := fnExactInsertMemRow.holds Try.pinned (OpenSpec.ofChange fnExactInsertMemWrong)

/-- 'laws.FnExactSplitRun': WHATEVER THE INPUT: true; the input reads as it did. -/
def fnExactSplitRunSpec : ChangeSpec := { name := "fnExactSplitRun", fn := fun _ => fun
  | [d] => { results := [.lit (.bool true)], args := [d] }
  | _ => none }
def fnExactSplitRunRow : OpenClaim := { program := "ytokpbjbngnlepaa", sum := "a7cfc2d21bd82a300c340d3d6b816a0dc01e2b43ac196b0f80d24e8537f45b19", func := "loop.example/g00905/laws.FnExactSplitRun", spec := "fnExactSplitRun", inPlace := ["internal/bytealg.abigen_runtime_cmpstring"], unfollowed := true, recurses := true, apart := false }
def FnExactSplitRunSaid : Prop := fnExactSplitRunRow.holds Try.pinned (OpenSpec.ofChange fnExactSplitRunSpec)

/-- ITS FALSE NEIGHBOUR: 'it returns false'. Refute it at one input. -/
def fnExactSplitRunWrong : ChangeSpec := { name := "fnExactSplitRun", fn := fun _ => fun
  | [d] => { results := [.lit (.bool false)], args := [d] }
  | _ => none }
def FnExactSplitRunWrongFalsely : Prop := fnExactSplitRunRow.holds Try.pinned (OpenSpec.ofChange fnExactSplitRunWrong)

/-- 'laws.FnExactFragmentRecords': WHATEVER THE INPUT: true; the input reads as it did. -/
def fnExactFragmentRecordsSpec : ChangeSpec := { name := "fnExactFragmentRecords", fn := fun _ => fun
  | [d] => { results := [.lit (.bool true)], args := [d] }
  | _ => none }
def fnExactFragmentRecordsRow : OpenClaim := { program := "ytokpbjbngnlepaa", sum := "a7cfc2d21bd82a300c340d3d6b816a0dc01e2b43ac196b0f80d24e8537f45b19", func := "loop.example/g00905/laws.FnExactFragmentRecords", spec := "fnExactFragmentRecords", unfollowed := true, recurses := true, apart := false }
def FnExactFragmentRecordsSaid : Prop := fnExactFragmentRecordsRow.holds Try.pinned (OpenSpec.ofChange fnExactFragmentRecordsSpec)

/-- ITS FALSE NEIGHBOUR: 'it returns false'. Refute it at one input. -/
def fnExactFragmentRecordsWrong : ChangeSpec := { name := "fnExactFragmentRecords", fn := fun _ => fun
  | [d] => { results := [.lit (.bool false)], args := [d] }
  | _ => none }
def FnExactFragmentRecordsWrongFalsely : Prop := fnExactFragmentRecordsRow.holds Try.pinned (OpenSpec.ofChange fnExactFragmentRecordsWrong)

/- THE SECOND FORM. 'bulk': how many values and letters a reading holds, each counted each time it is reached (what is shared counts as often as it is met; a slice's spare places count too). A statement '..UptoSaid' is the law's where the arguments, and the package variables that the reading takes, are together of bulk at most 1048576: NARROWER than '..Said'. Prove '..Said' where nothing that the law and all that it calls make is longer than what came in: it says more and counts as full. Else prove '..UptoSaid'. A law counts once. -/
mutual
def uptoBulk {H : Type} : DataW H → Nat
  | .lit (.string bytes) => bytes.length + 1
  | .lit _ => 1
  | .nil => 1
  | .ptr d => uptoBulk d + 1
  | .slice elems spare => uptoBulkAll elems + uptoBulkAll spare + 1
  | .agg parts => uptoBulkAll parts + 1
  | .iface _ d => uptoBulk d + 1
  | .map entries => uptoBulkEntries entries + 1
  | .held _ => 1
def uptoBulkAll {H : Type} : List (DataW H) → Nat
  | [] => 0
  | d :: r => uptoBulk d + uptoBulkAll r
def uptoBulkEntries {H : Type} : List (Lit × DataW H) → Nat
  | [] => 0
  | x :: r => uptoBulkEntry x + uptoBulkEntries r
def uptoBulkEntry {H : Type} : Lit × DataW H → Nat
  | (.string bytes, d) => bytes.length + uptoBulk d + 1
  | (_, d) => uptoBulk d + 1
 end
def uptoSmall : (H : Type) → List (DataW H) → Bool := fun _ ds => decide (uptoBulkAll ds ≤ 1048576)
def OpenSpec.upto (s : _root_.Go.ChangeSpec) : _root_.Go.OpenSpec := { _root_.Go.OpenSpec.ofChange s with cond := some uptoSmall }

/-- 'laws.FnExactWearOfZone', WHERE WHAT IT READS IS OF BULK AT MOST 1048576: true; the input reads as it did. -/
def fnExactWearOfZoneUptoRow : OpenClaim := { program := "ytokpbjbngnlepaa", sum := "a7cfc2d21bd82a300c340d3d6b816a0dc01e2b43ac196b0f80d24e8537f45b19", func := "loop.example/g00905/laws.FnExactWearOfZone", spec := "fnExactWearOfZone", unfollowed := true, recurses := true, apart := false, narrowed := true }
def FnExactWearOfZoneUptoSaid : Prop := fnExactWearOfZoneUptoRow.holds Try.pinned (OpenSpec.upto fnExactWearOfZoneSpec)

/-- 'laws.FnExactScanVisible', WHERE WHAT IT READS IS OF BULK AT MOST 1048576: true; the input reads as it did. -/
def fnExactScanVisibleUptoRow : OpenClaim := { program := "ytokpbjbngnlepaa", sum := "a7cfc2d21bd82a300c340d3d6b816a0dc01e2b43ac196b0f80d24e8537f45b19", func := "loop.example/g00905/laws.FnExactScanVisible", spec := "fnExactScanVisible", inPlace := ["internal/bytealg.abigen_runtime_cmpstring"], unfollowed := true, recurses := true, apart := false, narrowed := true }
def FnExactScanVisibleUptoSaid : Prop := fnExactScanVisibleUptoRow.holds Try.pinned (OpenSpec.upto fnExactScanVisibleSpec)

/-- 'laws.FnExactVisibleAt', WHERE WHAT IT READS IS OF BULK AT MOST 1048576: true; the input reads as it did. -/
def fnExactVisibleAtUptoRow : OpenClaim := { program := "ytokpbjbngnlepaa", sum := "a7cfc2d21bd82a300c340d3d6b816a0dc01e2b43ac196b0f80d24e8537f45b19", func := "loop.example/g00905/laws.FnExactVisibleAt", spec := "fnExactVisibleAt", inPlace := ["internal/bytealg.abigen_runtime_cmpstring"], unfollowed := true, recurses := true, apart := false, narrowed := true }
def FnExactVisibleAtUptoSaid : Prop := fnExactVisibleAtUptoRow.holds Try.pinned (OpenSpec.upto fnExactVisibleAtSpec)

/-- 'laws.FnExactDropHidden', WHERE WHAT IT READS IS OF BULK AT MOST 1048576: true; the input reads as it did. -/
def fnExactDropHiddenUptoRow : OpenClaim := { program := "ytokpbjbngnlepaa", sum := "a7cfc2d21bd82a300c340d3d6b816a0dc01e2b43ac196b0f80d24e8537f45b19", func := "loop.example/g00905/laws.FnExactDropHidden", spec := "fnExactDropHidden", inPlace := ["internal/bytealg.abigen_runtime_cmpstring"], unfollowed := true, recurses := true, apart := false, narrowed := true }
def FnExactDropHiddenUptoSaid : Prop := fnExactDropHiddenUptoRow.holds Try.pinned (OpenSpec.upto fnExactDropHiddenSpec)

/-- 'laws.FnExactInsertMem', WHERE WHAT IT READS IS OF BULK AT MOST 1048576: true; the input reads as it did. -/
def fnExactInsertMemUptoRow : OpenClaim := { program := "ytokpbjbngnlepaa", sum := "a7cfc2d21bd82a300c340d3d6b816a0dc01e2b43ac196b0f80d24e8537f45b19", func := "loop.example/g00905/laws.FnExactInsertMem", spec := "fnExactInsertMem", inPlace := ["internal/bytealg.abigen_runtime_cmpstring", "slices.overlaps[loop.example/g00905/impl.Record]"], unfollowed := true, recurses := true, apart := false, narrowed := true }
def FnExactInsertMemUptoSaid : Prop := fnExactInsertMemUptoRow.holds Try.pinned (OpenSpec.upto fnExactInsertMemSpec)

/-- 'laws.FnExactSplitRun', WHERE WHAT IT READS IS OF BULK AT MOST 1048576: true; the input reads as it did. -/
def fnExactSplitRunUptoRow : OpenClaim := { program := "ytokpbjbngnlepaa", sum := "a7cfc2d21bd82a300c340d3d6b816a0dc01e2b43ac196b0f80d24e8537f45b19", func := "loop.example/g00905/laws.FnExactSplitRun", spec := "fnExactSplitRun", inPlace := ["internal/bytealg.abigen_runtime_cmpstring"], unfollowed := true, recurses := true, apart := false, narrowed := true }
def FnExactSplitRunUptoSaid : Prop := fnExactSplitRunUptoRow.holds Try.pinned (OpenSpec.upto fnExactSplitRunSpec)

/-- 'laws.FnExactFragmentRecords', WHERE WHAT IT READS IS OF BULK AT MOST 1048576: true; the input reads as it did. -/
def fnExactFragmentRecordsUptoRow : OpenClaim := { program := "ytokpbjbngnlepaa", sum := "a7cfc2d21bd82a300c340d3d6b816a0dc01e2b43ac196b0f80d24e8537f45b19", func := "loop.example/g00905/laws.FnExactFragmentRecords", spec := "fnExactFragmentRecords", unfollowed := true, recurses := true, apart := false, narrowed := true }
def FnExactFragmentRecordsUptoSaid : Prop := fnExactFragmentRecordsUptoRow.holds Try.pinned (OpenSpec.upto fnExactFragmentRecordsSpec)

end Rows
end Go.Proofs.Ytokpbjbngnlepaa
