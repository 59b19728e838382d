/-
  No cell of these rows narrows 'for every input' (looked for: loops, veiled, ifaces, maps, wideKeys, modest, calm, conditions, laid).
  DERIVED. THE GIVEN ROWS OF THIS SEAT. 12 by the template 'for every input the law returns true; each argument reads behind the call as it read before'; 0 by the template 'total and deterministic' (their statements: YthlmjmejnlalaabTotals.lean).
  GIVEN WITH THE SEED: the statements are not yours to turn. If you find one false, say at which input.
  Laid BY PROGRAM, IN A SANDBOX (cutbox-rows.mjs): the forced cells as the released guide's own fill.sh prints them over the translation 716db78bb8791af8… (all of the seat's roots in one cut). By AI agents, Wed Nov 11 2026. No macro, syntax, notation, axiom, sorry.
-/
import Derived.Test.YthlmjmejnlalaabChecked
import GoSem.Claim
import GoSem.ClaimJoined
import GoSem.ClaimMapViews
import Derived.JoinedTies
import Derived.KernelRfl
namespace Go.Proofs.Ythlmjmejnlalaab
/- THE CELL 'sum', in the pinned program and in every row, IS THE sha256 OF THE DUMP (.gsa) THAT YthlmjmejnlalaabProg.lean LOADS. Nothing in Lean hashes anything: it is a label: what it is worth is what the hold of that sum in a sandbox is worth. -/
noncomputable def Try.pinned : Pinned := { name := "ythlmjmejnlalaab", sum := "716db78bb8791af8c5bad670b50cbaa661b6f1d4f11363ccf4a5790a0c084ba4", checked := Try.checked }
namespace Rows
def none {H : Type} : Left H := { results := [], args := [] }

/-- 'laws.FnExactClipFragments': WHATEVER THE INPUT: true; the input reads as it did. -/
def fnExactClipFragmentsSpec : ChangeSpec := { name := "fnExactClipFragments", fn := fun _ => fun
  | [d1, d2, d3] => { results := [.lit (.bool true)], args := [d1, d2, d3] }
  | _ => none }
def fnExactClipFragmentsRow : OpenClaim := { program := "ythlmjmejnlalaab", sum := "716db78bb8791af8c5bad670b50cbaa661b6f1d4f11363ccf4a5790a0c084ba4", func := "loop.example/g00905/laws.FnExactClipFragments", spec := "fnExactClipFragments", unfollowed := true, recurses := true, apart := false }
def FnExactClipFragmentsSaid : Prop := fnExactClipFragmentsRow.holds Try.pinned (OpenSpec.ofChange fnExactClipFragmentsSpec)

/-- ITS FALSE NEIGHBOUR: 'it returns false'. Refute it at one input. -/
def fnExactClipFragmentsWrong : ChangeSpec := { name := "fnExactClipFragments", fn := fun _ => fun
  | [d1, d2, d3] => { results := [.lit (.bool false)], args := [d1, d2, d3] }
  | _ => none }
def FnExactClipFragmentsWrongFalsely : Prop := fnExactClipFragmentsRow.holds Try.pinned (OpenSpec.ofChange fnExactClipFragmentsWrong)

/-- 'laws.FnExactFragmentRecords': WHATEVER THE INPUT: true; the input reads as it did. -/
def fnExactFragmentRecordsSpec : ChangeSpec := { name := "fnExactFragmentRecords", fn := fun _ => fun
  | [d] => { results := [.lit (.bool true)], args := [d] }
  | _ => none }
def fnExactFragmentRecordsRow : OpenClaim := { program := "ythlmjmejnlalaab", sum := "716db78bb8791af8c5bad670b50cbaa661b6f1d4f11363ccf4a5790a0c084ba4", func := "loop.example/g00905/laws.FnExactFragmentRecords", spec := "fnExactFragmentRecords", unfollowed := true, recurses := true, apart := false }
def FnExactFragmentRecordsSaid : Prop := fnExactFragmentRecordsRow.holds Try.pinned (OpenSpec.ofChange fnExactFragmentRecordsSpec)

/-- ITS FALSE NEIGHBOUR: 'it returns false'. Refute it at one input. -/
def fnExactFragmentRecordsWrong : ChangeSpec := { name := "fnExactFragmentRecords", fn := fun _ => fun
  | [d] => { results := [.lit (.bool false)], args := [d] }
  | _ => none }
def FnExactFragmentRecordsWrongFalsely : Prop := fnExactFragmentRecordsRow.holds Try.pinned (OpenSpec.ofChange fnExactFragmentRecordsWrong)

/-- 'laws.FnExactPruneFragments': WHATEVER THE INPUT: true; the input reads as it did. -/
def fnExactPruneFragmentsSpec : ChangeSpec := { name := "fnExactPruneFragments", fn := fun _ => fun
  | [d1, d2] => { results := [.lit (.bool true)], args := [d1, d2] }
  | _ => none }
def fnExactPruneFragmentsRow : OpenClaim := { program := "ythlmjmejnlalaab", sum := "716db78bb8791af8c5bad670b50cbaa661b6f1d4f11363ccf4a5790a0c084ba4", func := "loop.example/g00905/laws.FnExactPruneFragments", spec := "fnExactPruneFragments", unfollowed := true, recurses := true, apart := false }
def FnExactPruneFragmentsSaid : Prop := fnExactPruneFragmentsRow.holds Try.pinned (OpenSpec.ofChange fnExactPruneFragmentsSpec)

/-- ITS FALSE NEIGHBOUR: 'it returns false'. Refute it at one input. -/
def fnExactPruneFragmentsWrong : ChangeSpec := { name := "fnExactPruneFragments", fn := fun _ => fun
  | [d1, d2] => { results := [.lit (.bool false)], args := [d1, d2] }
  | _ => none }
def FnExactPruneFragmentsWrongFalsely : Prop := fnExactPruneFragmentsRow.holds Try.pinned (OpenSpec.ofChange fnExactPruneFragmentsWrong)

/-- 'laws.FnExactFilterFor': WHATEVER THE INPUT: true; the input reads as it did. -/
def fnExactFilterForSpec : ChangeSpec := { name := "fnExactFilterFor", fn := fun _ => fun
  | [d] => { results := [.lit (.bool true)], args := [d] }
  | _ => none }
def fnExactFilterForRow : OpenClaim := { program := "ythlmjmejnlalaab", sum := "716db78bb8791af8c5bad670b50cbaa661b6f1d4f11363ccf4a5790a0c084ba4", func := "loop.example/g00905/laws.FnExactFilterFor", spec := "fnExactFilterFor", inPlace := ["internal/abi.NoEscape", "internal/bytealg.MakeNoZero"], unfollowed := true, recurses := true, apart := false }
def FnExactFilterForSaid : Prop := fnExactFilterForRow.holds Try.pinned (OpenSpec.ofChange fnExactFilterForSpec)

/-- ITS FALSE NEIGHBOUR: 'it returns false'. Refute it at one input. -/
def fnExactFilterForWrong : ChangeSpec := { name := "fnExactFilterFor", fn := fun _ => fun
  | [d] => { results := [.lit (.bool false)], args := [d] }
  | _ => none }
def FnExactFilterForWrongFalsely : Prop := fnExactFilterForRow.holds Try.pinned (OpenSpec.ofChange fnExactFilterForWrong)

/-- 'laws.FnExactLiveInZone': WHATEVER THE INPUT: true; the input reads as it did. -/
def fnExactLiveInZoneSpec : ChangeSpec := { name := "fnExactLiveInZone", fn := fun _ => fun
  | [d1, d2] => { results := [.lit (.bool true)], args := [d1, d2] }
  | _ => none }
def fnExactLiveInZoneRow : OpenClaim := { program := "ythlmjmejnlalaab", sum := "716db78bb8791af8c5bad670b50cbaa661b6f1d4f11363ccf4a5790a0c084ba4", func := "loop.example/g00905/laws.FnExactLiveInZone", spec := "fnExactLiveInZone", inPlace := ["internal/bytealg.abigen_runtime_cmpstring"], unfollowed := true, recurses := true, apart := false }
def FnExactLiveInZoneSaid : Prop := fnExactLiveInZoneRow.holds Try.pinned (OpenSpec.ofChange fnExactLiveInZoneSpec)

/-- ITS FALSE NEIGHBOUR: 'it returns false'. Refute it at one input. -/
def fnExactLiveInZoneWrong : ChangeSpec := { name := "fnExactLiveInZone", fn := fun _ => fun
  | [d1, d2] => { results := [.lit (.bool false)], args := [d1, d2] }
  | _ => none }
def FnExactLiveInZoneWrongFalsely : Prop := fnExactLiveInZoneRow.holds Try.pinned (OpenSpec.ofChange fnExactLiveInZoneWrong)

/-- 'laws.FnExactEncodeEdit': WHATEVER THE INPUT: true; the input reads as it did. -/
def fnExactEncodeEditSpec : ChangeSpec := { name := "fnExactEncodeEdit", fn := fun _ => fun
  | [d] => { results := [.lit (.bool true)], args := [d] }
  | _ => none }
def fnExactEncodeEditRow : OpenClaim := { program := "ythlmjmejnlalaab", sum := "716db78bb8791af8c5bad670b50cbaa661b6f1d4f11363ccf4a5790a0c084ba4", func := "loop.example/g00905/laws.FnExactEncodeEdit", spec := "fnExactEncodeEdit", inPlace := ["internal/abi.NoEscape"], unfollowed := true, recurses := true, apart := false }
def FnExactEncodeEditSaid : Prop := fnExactEncodeEditRow.holds Try.pinned (OpenSpec.ofChange fnExactEncodeEditSpec)

/-- ITS FALSE NEIGHBOUR: 'it returns false'. Refute it at one input. -/
def fnExactEncodeEditWrong : ChangeSpec := { name := "fnExactEncodeEdit", fn := fun _ => fun
  | [d] => { results := [.lit (.bool false)], args := [d] }
  | _ => none }
def FnExactEncodeEditWrongFalsely : Prop := fnExactEncodeEditRow.holds Try.pinned (OpenSpec.ofChange fnExactEncodeEditWrong)

/-- 'laws.FnExactPlaceData': WHATEVER THE INPUT: true; the input reads as it did. -/
def fnExactPlaceDataSpec : ChangeSpec := { name := "fnExactPlaceData", fn := fun _ => fun
  | [d1, d2] => { results := [.lit (.bool true)], args := [d1, d2] }
  | _ => none }
def fnExactPlaceDataRow : OpenClaim := { program := "ythlmjmejnlalaab", sum := "716db78bb8791af8c5bad670b50cbaa661b6f1d4f11363ccf4a5790a0c084ba4", func := "loop.example/g00905/laws.FnExactPlaceData", spec := "fnExactPlaceData", unfollowed := true, recurses := true, apart := false }
def FnExactPlaceDataSaid : Prop := fnExactPlaceDataRow.holds Try.pinned (OpenSpec.ofChange fnExactPlaceDataSpec)

/-- ITS FALSE NEIGHBOUR: 'it returns false'. Refute it at one input. -/
def fnExactPlaceDataWrong : ChangeSpec := { name := "fnExactPlaceData", fn := fun _ => fun
  | [d1, d2] => { results := [.lit (.bool false)], args := [d1, d2] }
  | _ => none }
def FnExactPlaceDataWrongFalsely : Prop := fnExactPlaceDataRow.holds Try.pinned (OpenSpec.ofChange fnExactPlaceDataWrong)

/-- 'laws.FnExactEncodeVersion': WHATEVER THE INPUT: true; the input reads as it did. -/
def fnExactEncodeVersionSpec : ChangeSpec := { name := "fnExactEncodeVersion", fn := fun _ => fun
  | [d] => { results := [.lit (.bool true)], args := [d] }
  | _ => none }
def fnExactEncodeVersionRow : OpenClaim := { program := "ythlmjmejnlalaab", sum := "716db78bb8791af8c5bad670b50cbaa661b6f1d4f11363ccf4a5790a0c084ba4", func := "loop.example/g00905/laws.FnExactEncodeVersion", spec := "fnExactEncodeVersion", inPlace := ["internal/bytealg.abigen_runtime_cmpstring", "internal/abi.NoEscape"], unfollowed := true, recurses := true, apart := false }
def FnExactEncodeVersionSaid : Prop := fnExactEncodeVersionRow.holds Try.pinned (OpenSpec.ofChange fnExactEncodeVersionSpec)

/-- ITS FALSE NEIGHBOUR: 'it returns false'. Refute it at one input. -/
def fnExactEncodeVersionWrong : ChangeSpec := { name := "fnExactEncodeVersion", fn := fun _ => fun
  | [d] => { results := [.lit (.bool false)], args := [d] }
  | _ => none }
def FnExactEncodeVersionWrongFalsely : Prop := fnExactEncodeVersionRow.holds Try.pinned (OpenSpec.ofChange fnExactEncodeVersionWrong)

/-- 'laws.FnExactPowerOn': WHATEVER THE INPUT: true; the input reads as it did. -/
def fnExactPowerOnSpec : ChangeSpec := { name := "fnExactPowerOn", fn := fun _ => fun
  | [d] => { results := [.lit (.bool true)], args := [d] }
  | _ => none }
def fnExactPowerOnRow : OpenClaim := { program := "ythlmjmejnlalaab", sum := "716db78bb8791af8c5bad670b50cbaa661b6f1d4f11363ccf4a5790a0c084ba4", func := "loop.example/g00905/laws.FnExactPowerOn", spec := "fnExactPowerOn", unfollowed := true, recurses := true, apart := false }
def FnExactPowerOnSaid : Prop := fnExactPowerOnRow.holds Try.pinned (OpenSpec.ofChange fnExactPowerOnSpec)

/-- ITS FALSE NEIGHBOUR: 'it returns false'. Refute it at one input. -/
def fnExactPowerOnWrong : ChangeSpec := { name := "fnExactPowerOn", fn := fun _ => fun
  | [d] => { results := [.lit (.bool false)], args := [d] }
  | _ => none }
def FnExactPowerOnWrongFalsely : Prop := fnExactPowerOnRow.holds Try.pinned (OpenSpec.ofChange fnExactPowerOnWrong)

/-- 'laws.FnExactArmFuse': WHATEVER THE INPUT: true; the input reads as it did. -/
def fnExactArmFuseSpec : ChangeSpec := { name := "fnExactArmFuse", fn := fun _ => fun
  | [d1, d2, d3] => { results := [.lit (.bool true)], args := [d1, d2, d3] }
  | _ => none }
def fnExactArmFuseRow : OpenClaim := { program := "ythlmjmejnlalaab", sum := "716db78bb8791af8c5bad670b50cbaa661b6f1d4f11363ccf4a5790a0c084ba4", func := "loop.example/g00905/laws.FnExactArmFuse", spec := "fnExactArmFuse", unfollowed := true, recurses := true, apart := false }
def FnExactArmFuseSaid : Prop := fnExactArmFuseRow.holds Try.pinned (OpenSpec.ofChange fnExactArmFuseSpec)

/-- ITS FALSE NEIGHBOUR: 'it returns false'. Refute it at one input. -/
def fnExactArmFuseWrong : ChangeSpec := { name := "fnExactArmFuse", fn := fun _ => fun
  | [d1, d2, d3] => { results := [.lit (.bool false)], args := [d1, d2, d3] }
  | _ => none }
def FnExactArmFuseWrongFalsely : Prop := fnExactArmFuseRow.holds Try.pinned (OpenSpec.ofChange fnExactArmFuseWrong)

/-- 'laws.FnExactSplitRun': WHATEVER THE INPUT: true; the input reads as it did. -/
def fnExactSplitRunSpec : ChangeSpec := { name := "fnExactSplitRun", fn := fun _ => fun
  | [d] => { results := [.lit (.bool true)], args := [d] }
  | _ => none }
def fnExactSplitRunRow : OpenClaim := { program := "ythlmjmejnlalaab", sum := "716db78bb8791af8c5bad670b50cbaa661b6f1d4f11363ccf4a5790a0c084ba4", func := "loop.example/g00905/laws.FnExactSplitRun", spec := "fnExactSplitRun", inPlace := ["internal/bytealg.abigen_runtime_cmpstring"], unfollowed := true, recurses := true, apart := false }
def FnExactSplitRunSaid : Prop := fnExactSplitRunRow.holds Try.pinned (OpenSpec.ofChange fnExactSplitRunSpec)

/-- ITS FALSE NEIGHBOUR: 'it returns false'. Refute it at one input. -/
def fnExactSplitRunWrong : ChangeSpec := { name := "fnExactSplitRun", fn := fun _ => fun
  | [d] => { results := [.lit (.bool false)], args := [d] }
  | _ => none }
def FnExactSplitRunWrongFalsely : Prop := fnExactSplitRunRow.holds Try.pinned (OpenSpec.ofChange fnExactSplitRunWrong)

/-- 'laws.FnExactRewriteHot': WHATEVER THE INPUT: true; the input reads as it did. -/
def fnExactRewriteHotSpec : ChangeSpec := { name := "fnExactRewriteHot", fn := fun _ => fun
  | [d1, d2] => { results := [.lit (.bool true)], args := [d1, d2] }
  | _ => none }
def fnExactRewriteHotRow : OpenClaim := { program := "ythlmjmejnlalaab", sum := "716db78bb8791af8c5bad670b50cbaa661b6f1d4f11363ccf4a5790a0c084ba4", func := "loop.example/g00905/laws.FnExactRewriteHot", spec := "fnExactRewriteHot", unfollowed := true, recurses := true, apart := false }
def FnExactRewriteHotSaid : Prop := fnExactRewriteHotRow.holds Try.pinned (OpenSpec.ofChange fnExactRewriteHotSpec)

/-- ITS FALSE NEIGHBOUR: 'it returns false'. Refute it at one input. -/
def fnExactRewriteHotWrong : ChangeSpec := { name := "fnExactRewriteHot", fn := fun _ => fun
  | [d1, d2] => { results := [.lit (.bool false)], args := [d1, d2] }
  | _ => none }
def FnExactRewriteHotWrongFalsely : Prop := fnExactRewriteHotRow.holds Try.pinned (OpenSpec.ofChange fnExactRewriteHotWrong)

/- THE SECOND FORM. 'bulk': how many values and letters a reading holds, each counted each time it is reached (what is shared counts as often as it is met; a slice's spare places count too). A statement '..UptoSaid' is the law's where the arguments, and the package variables that the reading takes, are together of bulk at most 1048576: NARROWER than '..Said'. Prove '..Said' where nothing that the law and all that it calls make is longer than what came in: it says more and counts as full. Else prove '..UptoSaid'. A law counts once. -/
mutual
def uptoBulk {H : Type} : DataW H → Nat
  | .lit (.string bytes) => bytes.length + 1
  | .lit _ => 1
  | .nil => 1
  | .ptr d => uptoBulk d + 1
  | .slice elems spare => uptoBulkAll elems + uptoBulkAll spare + 1
  | .agg parts => uptoBulkAll parts + 1
  | .iface _ d => uptoBulk d + 1
  | .map entries => uptoBulkEntries entries + 1
  | .held _ => 1
def uptoBulkAll {H : Type} : List (DataW H) → Nat
  | [] => 0
  | d :: r => uptoBulk d + uptoBulkAll r
def uptoBulkEntries {H : Type} : List (Lit × DataW H) → Nat
  | [] => 0
  | x :: r => uptoBulkEntry x + uptoBulkEntries r
def uptoBulkEntry {H : Type} : Lit × DataW H → Nat
  | (.string bytes, d) => bytes.length + uptoBulk d + 1
  | (_, d) => uptoBulk d + 1
 end
def uptoSmall : (H : Type) → List (DataW H) → Bool := fun _ ds => decide (uptoBulkAll ds ≤ 1048576)
def OpenSpec.upto (s : _root_.Go.ChangeSpec) : _root_.Go.OpenSpec := { _root_.Go.OpenSpec.ofChange s with cond := some uptoSmall }

/-- 'laws.FnExactClipFragments', WHERE WHAT IT READS IS OF BULK AT MOST 1048576: true; the input reads as it did. -/
def fnExactClipFragmentsUptoRow : OpenClaim := { program := "ythlmjmejnlalaab", sum := "716db78bb8791af8c5bad670b50cbaa661b6f1d4f11363ccf4a5790a0c084ba4", func := "loop.example/g00905/laws.FnExactClipFragments", spec := "fnExactClipFragments", unfollowed := true, recurses := true, apart := false, narrowed := true }
def FnExactClipFragmentsUptoSaid : Prop := fnExactClipFragmentsUptoRow.holds Try.pinned (OpenSpec.upto fnExactClipFragmentsSpec)

/-- 'laws.FnExactFragmentRecords', WHERE WHAT IT READS IS OF BULK AT MOST 1048576: true; the input reads as it did. -/
def fnExactFragmentRecordsUptoRow : OpenClaim := { program := "ythlmjmejnlalaab", sum := "716db78bb8791af8c5bad670b50cbaa661b6f1d4f11363ccf4a5790a0c084ba4", func := "loop.example/g00905/laws.FnExactFragmentRecords", spec := "fnExactFragmentRecords", unfollowed := true, recurses := true, apart := false, narrowed := true }
def FnExactFragmentRecordsUptoSaid : Prop := fnExactFragmentRecordsUptoRow.holds Try.pinned (OpenSpec.upto fnExactFragmentRecordsSpec)

/-- 'laws.FnExactPruneFragments', WHERE WHAT IT READS IS OF BULK AT MOST 1048576: true; the input reads as it did. -/
def fnExactPruneFragmentsUptoRow : OpenClaim := { program := "ythlmjmejnlalaab", sum := "716db78bb8791af8c5bad670b50cbaa661b6f1d4f11363ccf4a5790a0c084ba4", func := "loop.example/g00905/laws.FnExactPruneFragments", spec := "fnExactPruneFragments", unfollowed := true, recurses := true, apart := false, narrowed := true }
def FnExactPruneFragmentsUptoSaid : Prop := fnExactPruneFragmentsUptoRow.holds Try.pinned (OpenSpec.upto fnExactPruneFragmentsSpec)

/-- 'laws.FnExactFilterFor', WHERE WHAT IT READS IS OF BULK AT MOST 1048576: true; the input reads as it did. -/
def fnExactFilterForUptoRow : OpenClaim := { program := "ythlmjmejnlalaab", sum := "716db78bb8791af8c5bad670b50cbaa661b6f1d4f11363ccf4a5790a0c084ba4", func := "loop.example/g00905/laws.FnExactFilterFor", spec := "fnExactFilterFor", inPlace := ["internal/abi.NoEscape", "internal/bytealg.MakeNoZero"], unfollowed := true, recurses := true, apart := false, narrowed := true }
def FnExactFilterForUptoSaid : Prop := fnExactFilterForUptoRow.holds Try.pinned (OpenSpec.upto fnExactFilterForSpec)

/-- 'laws.FnExactLiveInZone', WHERE WHAT IT READS IS OF BULK AT MOST 1048576: true; the input reads as it did. -/
def fnExactLiveInZoneUptoRow : OpenClaim := { program := "ythlmjmejnlalaab", sum := "716db78bb8791af8c5bad670b50cbaa661b6f1d4f11363ccf4a5790a0c084ba4", func := "loop.example/g00905/laws.FnExactLiveInZone", spec := "fnExactLiveInZone", inPlace := ["internal/bytealg.abigen_runtime_cmpstring"], unfollowed := true, recurses := true, apart := false, narrowed := true }
def FnExactLiveInZoneUptoSaid : Prop := fnExactLiveInZoneUptoRow.holds Try.pinned (OpenSpec.upto fnExactLiveInZoneSpec)

/-- 'laws.FnExactEncodeEdit', WHERE WHAT IT READS IS OF BULK AT MOST 1048576: true; the input reads as it did. -/
def fnExactEncodeEditUptoRow : OpenClaim := { program := "ythlmjmejnlalaab", sum := "716db78bb8791af8c5bad670b50cbaa661b6f1d4f11363ccf4a5790a0c084ba4", func := "loop.example/g00905/laws.FnExactEncodeEdit", spec := "fnExactEncodeEdit", inPlace := ["internal/abi.NoEscape"], unfollowed := true, recurses := true, apart := false, narrowed := true }
def FnExactEncodeEditUptoSaid : Prop := fnExactEncodeEditUptoRow.holds Try.pinned (OpenSpec.upto fnExactEncodeEditSpec)

/-- 'laws.FnExactPlaceData', WHERE WHAT IT READS IS OF BULK AT MOST 1048576: true; the input reads as it did. -/
def fnExactPlaceDataUptoRow : OpenClaim := { program := "ythlmjmejnlalaab", sum := "716db78bb8791af8c5bad670b50cbaa661b6f1d4f11363ccf4a5790a0c084ba4", func := "loop.example/g00905/laws.FnExactPlaceData", spec := "fnExactPlaceData", unfollowed := true, recurses := true, apart := false, narrowed := true }
def FnExactPlaceDataUptoSaid : Prop := fnExactPlaceDataUptoRow.holds Try.pinned (OpenSpec.upto fnExactPlaceDataSpec)

/-- 'laws.FnExactEncodeVersion', WHERE WHAT IT READS IS OF BULK AT MOST 1048576: true; the input reads as it did. -/
def fnExactEncodeVersionUptoRow : OpenClaim := { program := "ythlmjmejnlalaab", sum := "716db78bb8791af8c5bad670b50cbaa661b6f1d4f11363ccf4a5790a0c084ba4", func := "loop.example/g00905/laws.FnExactEncodeVersion", spec := "fnExactEncodeVersion", inPlace := ["internal/bytealg.abigen_runtime_cmpstring", "internal/abi.NoEscape"], unfollowed := true, recurses := true, apart := false, narrowed := true }
def FnExactEncodeVersionUptoSaid : Prop := fnExactEncodeVersionUptoRow.holds Try.pinned (OpenSpec.upto fnExactEncodeVersionSpec)

/-- 'laws.FnExactPowerOn', WHERE WHAT IT READS IS OF BULK AT MOST 1048576: true; the input reads as it did. -/
def fnExactPowerOnUptoRow : OpenClaim := { program := "ythlmjmejnlalaab", sum := "716db78bb8791af8c5bad670b50cbaa661b6f1d4f11363ccf4a5790a0c084ba4", func := "loop.example/g00905/laws.FnExactPowerOn", spec := "fnExactPowerOn", unfollowed := true, recurses := true, apart := false, narrowed := true }
def FnExactPowerOnUptoSaid : Prop := fnExactPowerOnUptoRow.holds Try.pinned (OpenSpec.upto fnExactPowerOnSpec)

/-- 'laws.FnExactArmFuse', WHERE WHAT IT READS IS OF BULK AT MOST 1048576: true; the input reads as it did. -/
def fnExactArmFuseUptoRow : OpenClaim := { program := "ythlmjmejnlalaab", sum := "716db78bb8791af8c5bad670b50cbaa661b6f1d4f11363ccf4a5790a0c084ba4", func := "loop.example/g00905/laws.FnExactArmFuse", spec := "fnExactArmFuse", unfollowed := true, recurses := true, apart := false, narrowed := true }
def FnExactArmFuseUptoSaid : Prop := fnExactArmFuseUptoRow.holds Try.pinned (OpenSpec.upto fnExactArmFuseSpec)

/-- 'laws.FnExactSplitRun', WHERE WHAT IT READS IS OF BULK AT MOST 1048576: true; the input reads as it did. -/
def fnExactSplitRunUptoRow : OpenClaim := { program := "ythlmjmejnlalaab", sum := "716db78bb8791af8c5bad670b50cbaa661b6f1d4f11363ccf4a5790a0c084ba4", func := "loop.example/g00905/laws.FnExactSplitRun", spec := "fnExactSplitRun", inPlace := ["internal/bytealg.abigen_runtime_cmpstring"], unfollowed := true, recurses := true, apart := false, narrowed := true }
def FnExactSplitRunUptoSaid : Prop := fnExactSplitRunUptoRow.holds Try.pinned (OpenSpec.upto fnExactSplitRunSpec)

/-- 'laws.FnExactRewriteHot', WHERE WHAT IT READS IS OF BULK AT MOST 1048576: true; the input reads as it did. -/
def fnExactRewriteHotUptoRow : OpenClaim := { program := "ythlmjmejnlalaab", sum := "716db78bb8791af8c5bad670b50cbaa661b6f1d4f11363ccf4a5790a0c084ba4", func := "loop.example/g00905/laws.FnExactRewriteHot", spec := "fnExactRewriteHot", unfollowed := true, recurses := true, apart := false, narrowed := true }
def FnExactRewriteHotUptoSaid : Prop := fnExactRewriteHotUptoRow.holds Try.pinned (OpenSpec.upto fnExactRewriteHotSpec)

end Rows
end Go.Proofs.Ythlmjmejnlalaab
