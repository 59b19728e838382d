/-
  No cell of these rows narrows 'for every input' (looked for: loops, veiled, ifaces, maps, wideKeys, modest, calm, conditions, laid).
  DERIVED. THE GIVEN ROWS OF THIS SEAT. 11 by the template 'for every input the law returns true; each argument reads behind the call as it read before'; 0 by the template 'total and deterministic' (their statements: YtnanphkenjneoaaTotals.lean).
  GIVEN WITH THE SEED: the statements are not yours to turn. If you find one false, say at which input.
  Laid BY PROGRAM, IN A SANDBOX (cutbox-rows.mjs): the forced cells as the released guide's own fill.sh prints them over the translation fbe785d57c04bb15… (all of the seat's roots in one cut). By AI agents, Wed Nov 11 2026. No macro, syntax, notation, axiom, sorry.
-/
import Derived.Test.YtnanphkenjneoaaChecked
import GoSem.Claim
import GoSem.ClaimJoined
import GoSem.ClaimMapViews
import Derived.JoinedTies
import Derived.KernelRfl
namespace Go.Proofs.Ytnanphkenjneoaa
/- THE CELL 'sum', in the pinned program and in every row, IS THE sha256 OF THE DUMP (.gsa) THAT YtnanphkenjneoaaProg.lean LOADS. Nothing in Lean hashes anything: it is a label: what it is worth is what the hold of that sum in a sandbox is worth. -/
noncomputable def Try.pinned : Pinned := { name := "ytnanphkenjneoaa", sum := "fbe785d57c04bb154688b80706f081951128f53331fccdb6efc6aec7eb56a520", checked := Try.checked }
namespace Rows
def none {H : Type} : Left H := { results := [], args := [] }

/-- 'laws.FnExactOverlapsRef': WHATEVER THE INPUT: true; the input reads as it did. -/
def fnExactOverlapsRefSpec : ChangeSpec := { name := "fnExactOverlapsRef", fn := fun _ => fun
  | [d1, d2, d3] => { results := [.lit (.bool true)], args := [d1, d2, d3] }
  | _ => none }
def fnExactOverlapsRefRow : OpenClaim := { program := "ytnanphkenjneoaa", sum := "fbe785d57c04bb154688b80706f081951128f53331fccdb6efc6aec7eb56a520", func := "loop.example/g00905/laws.FnExactOverlapsRef", spec := "fnExactOverlapsRef", apart := false }
def FnExactOverlapsRefSaid : Prop := fnExactOverlapsRefRow.holds Try.pinned (OpenSpec.ofChange fnExactOverlapsRefSpec)

/-- ITS FALSE NEIGHBOUR: 'it returns false'. Refute it at one input. -/
def fnExactOverlapsRefWrong : ChangeSpec := { name := "fnExactOverlapsRef", fn := fun _ => fun
  | [d1, d2, d3] => { results := [.lit (.bool false)], args := [d1, d2, d3] }
  | _ => none }
def FnExactOverlapsRefWrongFalsely : Prop := fnExactOverlapsRefRow.holds Try.pinned (OpenSpec.ofChange fnExactOverlapsRefWrong)

/-- 'laws.FnExactValidTable': WHATEVER THE INPUT: true; the input reads as it did. -/
def fnExactValidTableSpec : ChangeSpec := { name := "fnExactValidTable", fn := fun _ => fun
  | [d] => { results := [.lit (.bool true)], args := [d] }
  | _ => none }
def fnExactValidTableRow : OpenClaim := { program := "ytnanphkenjneoaa", sum := "fbe785d57c04bb154688b80706f081951128f53331fccdb6efc6aec7eb56a520", func := "loop.example/g00905/laws.FnExactValidTable", spec := "fnExactValidTable", apart := false }
def FnExactValidTableSaid : Prop := fnExactValidTableRow.holds Try.pinned (OpenSpec.ofChange fnExactValidTableSpec)

/-- ITS FALSE NEIGHBOUR: 'it returns false'. Refute it at one input. -/
def fnExactValidTableWrong : ChangeSpec := { name := "fnExactValidTable", fn := fun _ => fun
  | [d] => { results := [.lit (.bool false)], args := [d] }
  | _ => none }
def FnExactValidTableWrongFalsely : Prop := fnExactValidTableRow.holds Try.pinned (OpenSpec.ofChange fnExactValidTableWrong)

/-- 'laws.FnExactProbesOf': WHATEVER THE INPUT: true; the input reads as it did. -/
def fnExactProbesOfSpec : ChangeSpec := { name := "fnExactProbesOf", fn := fun _ => fun
  | [d1, d2] => { results := [.lit (.bool true)], args := [d1, d2] }
  | _ => none }
def fnExactProbesOfRow : OpenClaim := { program := "ytnanphkenjneoaa", sum := "fbe785d57c04bb154688b80706f081951128f53331fccdb6efc6aec7eb56a520", func := "loop.example/g00905/laws.FnExactProbesOf", spec := "fnExactProbesOf", apart := false }
def FnExactProbesOfSaid : Prop := fnExactProbesOfRow.holds Try.pinned (OpenSpec.ofChange fnExactProbesOfSpec)

/-- ITS FALSE NEIGHBOUR: 'it returns false'. Refute it at one input. -/
def fnExactProbesOfWrong : ChangeSpec := { name := "fnExactProbesOf", fn := fun _ => fun
  | [d1, d2] => { results := [.lit (.bool false)], args := [d1, d2] }
  | _ => none }
def FnExactProbesOfWrongFalsely : Prop := fnExactProbesOfRow.holds Try.pinned (OpenSpec.ofChange fnExactProbesOfWrong)

/-- 'laws.FnExactSamePairs': WHATEVER THE INPUT: true; the input reads as it did. -/
def fnExactSamePairsSpec : ChangeSpec := { name := "fnExactSamePairs", fn := fun _ => fun
  | [d1, d2] => { results := [.lit (.bool true)], args := [d1, d2] }
  | _ => none }
def fnExactSamePairsRow : OpenClaim := { program := "ytnanphkenjneoaa", sum := "fbe785d57c04bb154688b80706f081951128f53331fccdb6efc6aec7eb56a520", func := "loop.example/g00905/laws.FnExactSamePairs", spec := "fnExactSamePairs", apart := false }
def FnExactSamePairsSaid : Prop := fnExactSamePairsRow.holds Try.pinned (OpenSpec.ofChange fnExactSamePairsSpec)

/-- ITS FALSE NEIGHBOUR: 'it returns false'. Refute it at one input. -/
def fnExactSamePairsWrong : ChangeSpec := { name := "fnExactSamePairs", fn := fun _ => fun
  | [d1, d2] => { results := [.lit (.bool false)], args := [d1, d2] }
  | _ => none }
def FnExactSamePairsWrongFalsely : Prop := fnExactSamePairsRow.holds Try.pinned (OpenSpec.ofChange fnExactSamePairsWrong)

/-- 'laws.FnExactJoinPages': WHATEVER THE INPUT: true; the input reads as it did. -/
def fnExactJoinPagesSpec : ChangeSpec := { name := "fnExactJoinPages", fn := fun _ => fun
  | [d] => { results := [.lit (.bool true)], args := [d] }
  | _ => none }
def fnExactJoinPagesRow : OpenClaim := { program := "ytnanphkenjneoaa", sum := "fbe785d57c04bb154688b80706f081951128f53331fccdb6efc6aec7eb56a520", func := "loop.example/g00905/laws.FnExactJoinPages", spec := "fnExactJoinPages", inPlace := ["internal/abi.NoEscape"], apart := false }
def FnExactJoinPagesSaid : Prop := fnExactJoinPagesRow.holds Try.pinned (OpenSpec.ofChange fnExactJoinPagesSpec)

/-- ITS FALSE NEIGHBOUR: 'it returns false'. Refute it at one input. -/
def fnExactJoinPagesWrong : ChangeSpec := { name := "fnExactJoinPages", fn := fun _ => fun
  | [d] => { results := [.lit (.bool false)], args := [d] }
  | _ => none }
def FnExactJoinPagesWrongFalsely : Prop := fnExactJoinPagesRow.holds Try.pinned (OpenSpec.ofChange fnExactJoinPagesWrong)

/-- 'laws.FnExactRangeOf': WHATEVER THE INPUT: true; the input reads as it did. -/
def fnExactRangeOfSpec : ChangeSpec := { name := "fnExactRangeOf", fn := fun _ => fun
  | [d] => { results := [.lit (.bool true)], args := [d] }
  | _ => none }
def fnExactRangeOfRow : OpenClaim := { program := "ytnanphkenjneoaa", sum := "fbe785d57c04bb154688b80706f081951128f53331fccdb6efc6aec7eb56a520", func := "loop.example/g00905/laws.FnExactRangeOf", spec := "fnExactRangeOf", apart := false }
def FnExactRangeOfSaid : Prop := fnExactRangeOfRow.holds Try.pinned (OpenSpec.ofChange fnExactRangeOfSpec)

/-- ITS FALSE NEIGHBOUR: 'it returns false'. Refute it at one input. -/
def fnExactRangeOfWrong : ChangeSpec := { name := "fnExactRangeOf", fn := fun _ => fun
  | [d] => { results := [.lit (.bool false)], args := [d] }
  | _ => none }
def FnExactRangeOfWrongFalsely : Prop := fnExactRangeOfRow.holds Try.pinned (OpenSpec.ofChange fnExactRangeOfWrong)

/-- 'laws.FnExactGreedyVictim': WHATEVER THE INPUT: true; the input reads as it did. -/
def fnExactGreedyVictimSpec : ChangeSpec := { name := "fnExactGreedyVictim", fn := fun _ => fun
  | [d1, d2] => { results := [.lit (.bool true)], args := [d1, d2] }
  | _ => none }
def fnExactGreedyVictimRow : OpenClaim := { program := "ytnanphkenjneoaa", sum := "fbe785d57c04bb154688b80706f081951128f53331fccdb6efc6aec7eb56a520", func := "loop.example/g00905/laws.FnExactGreedyVictim", spec := "fnExactGreedyVictim", unfollowed := true, recurses := true, apart := false }
def FnExactGreedyVictimSaid : Prop := fnExactGreedyVictimRow.holds Try.pinned (OpenSpec.ofChange fnExactGreedyVictimSpec)

/-- ITS FALSE NEIGHBOUR: 'it returns false'. Refute it at one input. -/
def fnExactGreedyVictimWrong : ChangeSpec := { name := "fnExactGreedyVictim", fn := fun _ => fun
  | [d1, d2] => { results := [.lit (.bool false)], args := [d1, d2] }
  | _ => none }
def FnExactGreedyVictimWrongFalsely : Prop := fnExactGreedyVictimRow.holds Try.pinned (OpenSpec.ofChange fnExactGreedyVictimWrong)

/-- 'laws.FnExactCostBenefitVictim': WHATEVER THE INPUT: true; the input reads as it did. -/
def fnExactCostBenefitVictimSpec : ChangeSpec := { name := "fnExactCostBenefitVictim", fn := fun _ => fun
  | [d1, d2] => { results := [.lit (.bool true)], args := [d1, d2] }
  | _ => none }
def fnExactCostBenefitVictimRow : OpenClaim := { program := "ytnanphkenjneoaa", sum := "fbe785d57c04bb154688b80706f081951128f53331fccdb6efc6aec7eb56a520", func := "loop.example/g00905/laws.FnExactCostBenefitVictim", spec := "fnExactCostBenefitVictim", unfollowed := true, recurses := true, apart := false }
def FnExactCostBenefitVictimSaid : Prop := fnExactCostBenefitVictimRow.holds Try.pinned (OpenSpec.ofChange fnExactCostBenefitVictimSpec)

/-- ITS FALSE NEIGHBOUR: 'it returns false'. Refute it at one input. -/
def fnExactCostBenefitVictimWrong : ChangeSpec := { name := "fnExactCostBenefitVictim", fn := fun _ => fun
  | [d1, d2] => { results := [.lit (.bool false)], args := [d1, d2] }
  | _ => none }
def FnExactCostBenefitVictimWrongFalsely : Prop := fnExactCostBenefitVictimRow.holds Try.pinned (OpenSpec.ofChange fnExactCostBenefitVictimWrong)

/-- 'laws.FnExactPickVictim': WHATEVER THE INPUT: true; the input reads as it did. -/
def fnExactPickVictimSpec : ChangeSpec := { name := "fnExactPickVictim", fn := fun _ => fun
  | [d1, d2, d3] => { results := [.lit (.bool true)], args := [d1, d2, d3] }
  | _ => none }
def fnExactPickVictimRow : OpenClaim := { program := "ytnanphkenjneoaa", sum := "fbe785d57c04bb154688b80706f081951128f53331fccdb6efc6aec7eb56a520", func := "loop.example/g00905/laws.FnExactPickVictim", spec := "fnExactPickVictim", unfollowed := true, recurses := true, apart := false }
def FnExactPickVictimSaid : Prop := fnExactPickVictimRow.holds Try.pinned (OpenSpec.ofChange fnExactPickVictimSpec)

/-- ITS FALSE NEIGHBOUR: 'it returns false'. Refute it at one input. -/
def fnExactPickVictimWrong : ChangeSpec := { name := "fnExactPickVictim", fn := fun _ => fun
  | [d1, d2, d3] => { results := [.lit (.bool false)], args := [d1, d2, d3] }
  | _ => none }
def FnExactPickVictimWrongFalsely : Prop := fnExactPickVictimRow.holds Try.pinned (OpenSpec.ofChange fnExactPickVictimWrong)

/-- 'laws.FnExactSameFragments': WHATEVER THE INPUT: true; the input reads as it did. -/
def fnExactSameFragmentsSpec : ChangeSpec := { name := "fnExactSameFragments", fn := fun _ => fun
  | [d1, d2] => { results := [.lit (.bool true)], args := [d1, d2] }
  | _ => none }
def fnExactSameFragmentsRow : OpenClaim := { program := "ytnanphkenjneoaa", sum := "fbe785d57c04bb154688b80706f081951128f53331fccdb6efc6aec7eb56a520", func := "loop.example/g00905/laws.FnExactSameFragments", spec := "fnExactSameFragments", unfollowed := true, recurses := true, apart := false }
def FnExactSameFragmentsSaid : Prop := fnExactSameFragmentsRow.holds Try.pinned (OpenSpec.ofChange fnExactSameFragmentsSpec)

/-- ITS FALSE NEIGHBOUR: 'it returns false'. Refute it at one input. -/
def fnExactSameFragmentsWrong : ChangeSpec := { name := "fnExactSameFragments", fn := fun _ => fun
  | [d1, d2] => { results := [.lit (.bool false)], args := [d1, d2] }
  | _ => none }
def FnExactSameFragmentsWrongFalsely : Prop := fnExactSameFragmentsRow.holds Try.pinned (OpenSpec.ofChange fnExactSameFragmentsWrong)

/-- 'laws.FnExactSameVersion': WHATEVER THE INPUT: true; the input reads as it did. -/
def fnExactSameVersionSpec : ChangeSpec := { name := "fnExactSameVersion", fn := fun _ => fun
  | [d1, d2] => { results := [.lit (.bool true)], args := [d1, d2] }
  | _ => none }
def fnExactSameVersionRow : OpenClaim := { program := "ytnanphkenjneoaa", sum := "fbe785d57c04bb154688b80706f081951128f53331fccdb6efc6aec7eb56a520", func := "loop.example/g00905/laws.FnExactSameVersion", spec := "fnExactSameVersion", apart := false }
def FnExactSameVersionSaid : Prop := fnExactSameVersionRow.holds Try.pinned (OpenSpec.ofChange fnExactSameVersionSpec)

/-- ITS FALSE NEIGHBOUR: 'it returns false'. Refute it at one input. -/
def fnExactSameVersionWrong : ChangeSpec := { name := "fnExactSameVersion", fn := fun _ => fun
  | [d1, d2] => { results := [.lit (.bool false)], args := [d1, d2] }
  | _ => none }
def FnExactSameVersionWrongFalsely : Prop := fnExactSameVersionRow.holds Try.pinned (OpenSpec.ofChange fnExactSameVersionWrong)

/- THE SECOND FORM. 'bulk': how many values and letters a reading holds, each counted each time it is reached (what is shared counts as often as it is met; a slice's spare places count too). A statement '..UptoSaid' is the law's where the arguments, and the package variables that the reading takes, are together of bulk at most 1048576: NARROWER than '..Said'. Prove '..Said' where nothing that the law and all that it calls make is longer than what came in: it says more and counts as full. Else prove '..UptoSaid'. A law counts once. -/
mutual
def uptoBulk {H : Type} : DataW H → Nat
  | .lit (.string bytes) => bytes.length + 1
  | .lit _ => 1
  | .nil => 1
  | .ptr d => uptoBulk d + 1
  | .slice elems spare => uptoBulkAll elems + uptoBulkAll spare + 1
  | .agg parts => uptoBulkAll parts + 1
  | .iface _ d => uptoBulk d + 1
  | .map entries => uptoBulkEntries entries + 1
  | .held _ => 1
def uptoBulkAll {H : Type} : List (DataW H) → Nat
  | [] => 0
  | d :: r => uptoBulk d + uptoBulkAll r
def uptoBulkEntries {H : Type} : List (Lit × DataW H) → Nat
  | [] => 0
  | x :: r => uptoBulkEntry x + uptoBulkEntries r
def uptoBulkEntry {H : Type} : Lit × DataW H → Nat
  | (.string bytes, d) => bytes.length + uptoBulk d + 1
  | (_, d) => uptoBulk d + 1
 end
def uptoSmall : (H : Type) → List (DataW H) → Bool := fun _ ds => decide (uptoBulkAll ds ≤ 1048576)
def OpenSpec.upto (s : _root_.Go.ChangeSpec) : _root_.Go.OpenSpec := { _root_.Go.OpenSpec.ofChange s with cond := some uptoSmall }

/-- 'laws.FnExactOverlapsRef', WHERE WHAT IT READS IS OF BULK AT MOST 1048576: true; the input reads as it did. -/
def fnExactOverlapsRefUptoRow : OpenClaim := { program := "ytnanphkenjneoaa", sum := "fbe785d57c04bb154688b80706f081951128f53331fccdb6efc6aec7eb56a520", func := "loop.example/g00905/laws.FnExactOverlapsRef", spec := "fnExactOverlapsRef", apart := false, narrowed := true }
def FnExactOverlapsRefUptoSaid : Prop := fnExactOverlapsRefUptoRow.holds Try.pinned (OpenSpec.upto fnExactOverlapsRefSpec)

/-- 'laws.FnExactValidTable', WHERE WHAT IT READS IS OF BULK AT MOST 1048576: true; the input reads as it did. -/
def fnExactValidTableUptoRow : OpenClaim := { program := "ytnanphkenjneoaa", sum := "fbe785d57c04bb154688b80706f081951128f53331fccdb6efc6aec7eb56a520", func := "loop.example/g00905/laws.FnExactValidTable", spec := "fnExactValidTable", apart := false, narrowed := true }
def FnExactValidTableUptoSaid : Prop := fnExactValidTableUptoRow.holds Try.pinned (OpenSpec.upto fnExactValidTableSpec)

/-- 'laws.FnExactProbesOf', WHERE WHAT IT READS IS OF BULK AT MOST 1048576: true; the input reads as it did. -/
def fnExactProbesOfUptoRow : OpenClaim := { program := "ytnanphkenjneoaa", sum := "fbe785d57c04bb154688b80706f081951128f53331fccdb6efc6aec7eb56a520", func := "loop.example/g00905/laws.FnExactProbesOf", spec := "fnExactProbesOf", apart := false, narrowed := true }
def FnExactProbesOfUptoSaid : Prop := fnExactProbesOfUptoRow.holds Try.pinned (OpenSpec.upto fnExactProbesOfSpec)

/-- 'laws.FnExactSamePairs', WHERE WHAT IT READS IS OF BULK AT MOST 1048576: true; the input reads as it did. -/
def fnExactSamePairsUptoRow : OpenClaim := { program := "ytnanphkenjneoaa", sum := "fbe785d57c04bb154688b80706f081951128f53331fccdb6efc6aec7eb56a520", func := "loop.example/g00905/laws.FnExactSamePairs", spec := "fnExactSamePairs", apart := false, narrowed := true }
def FnExactSamePairsUptoSaid : Prop := fnExactSamePairsUptoRow.holds Try.pinned (OpenSpec.upto fnExactSamePairsSpec)

/-- 'laws.FnExactJoinPages', WHERE WHAT IT READS IS OF BULK AT MOST 1048576: true; the input reads as it did. -/
def fnExactJoinPagesUptoRow : OpenClaim := { program := "ytnanphkenjneoaa", sum := "fbe785d57c04bb154688b80706f081951128f53331fccdb6efc6aec7eb56a520", func := "loop.example/g00905/laws.FnExactJoinPages", spec := "fnExactJoinPages", inPlace := ["internal/abi.NoEscape"], apart := false, narrowed := true }
def FnExactJoinPagesUptoSaid : Prop := fnExactJoinPagesUptoRow.holds Try.pinned (OpenSpec.upto fnExactJoinPagesSpec)

/-- 'laws.FnExactRangeOf', WHERE WHAT IT READS IS OF BULK AT MOST 1048576: true; the input reads as it did. -/
def fnExactRangeOfUptoRow : OpenClaim := { program := "ytnanphkenjneoaa", sum := "fbe785d57c04bb154688b80706f081951128f53331fccdb6efc6aec7eb56a520", func := "loop.example/g00905/laws.FnExactRangeOf", spec := "fnExactRangeOf", apart := false, narrowed := true }
def FnExactRangeOfUptoSaid : Prop := fnExactRangeOfUptoRow.holds Try.pinned (OpenSpec.upto fnExactRangeOfSpec)

/-- 'laws.FnExactGreedyVictim', WHERE WHAT IT READS IS OF BULK AT MOST 1048576: true; the input reads as it did. -/
def fnExactGreedyVictimUptoRow : OpenClaim := { program := "ytnanphkenjneoaa", sum := "fbe785d57c04bb154688b80706f081951128f53331fccdb6efc6aec7eb56a520", func := "loop.example/g00905/laws.FnExactGreedyVictim", spec := "fnExactGreedyVictim", unfollowed := true, recurses := true, apart := false, narrowed := true }
def FnExactGreedyVictimUptoSaid : Prop := fnExactGreedyVictimUptoRow.holds Try.pinned (OpenSpec.upto fnExactGreedyVictimSpec)

/-- 'laws.FnExactCostBenefitVictim', WHERE WHAT IT READS IS OF BULK AT MOST 1048576: true; the input reads as it did. -/
def fnExactCostBenefitVictimUptoRow : OpenClaim := { program := "ytnanphkenjneoaa", sum := "fbe785d57c04bb154688b80706f081951128f53331fccdb6efc6aec7eb56a520", func := "loop.example/g00905/laws.FnExactCostBenefitVictim", spec := "fnExactCostBenefitVictim", unfollowed := true, recurses := true, apart := false, narrowed := true }
def FnExactCostBenefitVictimUptoSaid : Prop := fnExactCostBenefitVictimUptoRow.holds Try.pinned (OpenSpec.upto fnExactCostBenefitVictimSpec)

/-- 'laws.FnExactPickVictim', WHERE WHAT IT READS IS OF BULK AT MOST 1048576: true; the input reads as it did. -/
def fnExactPickVictimUptoRow : OpenClaim := { program := "ytnanphkenjneoaa", sum := "fbe785d57c04bb154688b80706f081951128f53331fccdb6efc6aec7eb56a520", func := "loop.example/g00905/laws.FnExactPickVictim", spec := "fnExactPickVictim", unfollowed := true, recurses := true, apart := false, narrowed := true }
def FnExactPickVictimUptoSaid : Prop := fnExactPickVictimUptoRow.holds Try.pinned (OpenSpec.upto fnExactPickVictimSpec)

/-- 'laws.FnExactSameFragments', WHERE WHAT IT READS IS OF BULK AT MOST 1048576: true; the input reads as it did. -/
def fnExactSameFragmentsUptoRow : OpenClaim := { program := "ytnanphkenjneoaa", sum := "fbe785d57c04bb154688b80706f081951128f53331fccdb6efc6aec7eb56a520", func := "loop.example/g00905/laws.FnExactSameFragments", spec := "fnExactSameFragments", unfollowed := true, recurses := true, apart := false, narrowed := true }
def FnExactSameFragmentsUptoSaid : Prop := fnExactSameFragmentsUptoRow.holds Try.pinned (OpenSpec.upto fnExactSameFragmentsSpec)

/-- 'laws.FnExactSameVersion', WHERE WHAT IT READS IS OF BULK AT MOST 1048576: true; the input reads as it did. -/
def fnExactSameVersionUptoRow : OpenClaim := { program := "ytnanphkenjneoaa", sum := "fbe785d57c04bb154688b80706f081951128f53331fccdb6efc6aec7eb56a520", func := "loop.example/g00905/laws.FnExactSameVersion", spec := "fnExactSameVersion", apart := false, narrowed := true }
def FnExactSameVersionUptoSaid : Prop := fnExactSameVersionUptoRow.holds Try.pinned (OpenSpec.upto fnExactSameVersionSpec)

end Rows
end Go.Proofs.Ytnanphkenjneoaa
