/-
  No cell of these rows narrows 'for every input' (looked for: loops, veiled, ifaces, maps, wideKeys, modest, calm, conditions, laid).
  DERIVED. THE GIVEN ROWS OF THIS SEAT. 5 by the template 'for every input the law returns true; each argument reads behind the call as it read before'; 0 by the template 'total and deterministic' (their statements: YtokpbjbngnlepaaGreatTotals.lean).
  GIVEN WITH THE SEED: the statements are not yours to turn. If you find one false, say at which input.
  Laid BY PROGRAM, IN A SANDBOX (cutbox-rows.mjs): the forced cells as the released guide's own fill.sh prints them over the translation a56bc44bd22cfcdd… (all of the seat's roots in one cut). By AI agents, Wed Nov 11 2026. No macro, syntax, notation, axiom, sorry.
-/
import Derived.Test.YtokpbjbngnlepaaGreatChecked
import GoSem.Claim
import GoSem.ClaimJoined
import GoSem.ClaimMapViews
import Derived.JoinedTies
import Derived.KernelRfl
namespace Go.Proofs.YtokpbjbngnlepaaGreat
/- THE CELL 'sum', in the pinned program and in every row, IS THE sha256 OF THE DUMP (.gsa) THAT YtokpbjbngnlepaaGreatProg.lean LOADS. Nothing in Lean hashes anything: it is a label: what it is worth is what the hold of that sum in a sandbox is worth. -/
noncomputable def Tryz.pinned : Pinned := { name := "ytokpbjbngnlepaagreat", sum := "a56bc44bd22cfcdd9898a3fa19f6d12d52ab90b0d82b14504fb9b22f4f520edf", checked := Tryz.checked }
namespace Rows
def none {H : Type} : Left H := { results := [], args := [] }

/-- 'laws.FnExactRoleOf': WHATEVER THE INPUT: true; the input reads as it did. -/
def fnExactRoleOfSpec : ChangeSpec := { name := "fnExactRoleOf", fn := fun _ => fun
  | [d1, d2, d3] => { results := [.lit (.bool true)], args := [d1, d2, d3] }
  | _ => none }
def fnExactRoleOfRow : OpenClaim := { program := "ytokpbjbngnlepaagreat", sum := "a56bc44bd22cfcdd9898a3fa19f6d12d52ab90b0d82b14504fb9b22f4f520edf", func := "loop.example/g00905/laws.FnExactRoleOf", spec := "fnExactRoleOf", inPlace := ["internal/bytealg.abigen_runtime_cmpstring"], unfollowed := true, recurses := true, apart := false }
def FnExactRoleOfSaid : Prop := fnExactRoleOfRow.holds Tryz.pinned (OpenSpec.ofChange fnExactRoleOfSpec)

/-- ITS FALSE NEIGHBOUR: 'it returns false'. Refute it at one input. -/
def fnExactRoleOfWrong : ChangeSpec := { name := "fnExactRoleOf", fn := fun _ => fun
  | [d1, d2, d3] => { results := [.lit (.bool false)], args := [d1, d2, d3] }
  | _ => none }
def FnExactRoleOfWrongFalsely : Prop := fnExactRoleOfRow.holds Tryz.pinned (OpenSpec.ofChange fnExactRoleOfWrong)

/-- 'laws.FnExactVictimZone': WHATEVER THE INPUT: true; the input reads as it did. -/
def fnExactVictimZoneSpec : ChangeSpec := { name := "fnExactVictimZone", fn := fun _ => fun
  | [d1, d2] => { results := [.lit (.bool true)], args := [d1, d2] }
  | _ => none }
def fnExactVictimZoneRow : OpenClaim := { program := "ytokpbjbngnlepaagreat", sum := "a56bc44bd22cfcdd9898a3fa19f6d12d52ab90b0d82b14504fb9b22f4f520edf", func := "loop.example/g00905/laws.FnExactVictimZone", spec := "fnExactVictimZone", inPlace := ["internal/bytealg.abigen_runtime_cmpstring"], unfollowed := true, recurses := true, apart := false }
def FnExactVictimZoneSaid : Prop := fnExactVictimZoneRow.holds Tryz.pinned (OpenSpec.ofChange fnExactVictimZoneSpec)

/-- ITS FALSE NEIGHBOUR: 'it returns false'. Refute it at one input. -/
def fnExactVictimZoneWrong : ChangeSpec := { name := "fnExactVictimZone", fn := fun _ => fun
  | [d1, d2] => { results := [.lit (.bool false)], args := [d1, d2] }
  | _ => none }
def FnExactVictimZoneWrongFalsely : Prop := fnExactVictimZoneRow.holds Tryz.pinned (OpenSpec.ofChange fnExactVictimZoneWrong)

/-- 'laws.FnExactFreshZone': WHATEVER THE INPUT: true; the input reads as it did. -/
def fnExactFreshZoneSpec : ChangeSpec := { name := "fnExactFreshZone", fn := fun _ => fun
  | [d1, d2] => { results := [.lit (.bool true)], args := [d1, d2] }
  | _ => none }
def fnExactFreshZoneRow : OpenClaim := { program := "ytokpbjbngnlepaagreat", sum := "a56bc44bd22cfcdd9898a3fa19f6d12d52ab90b0d82b14504fb9b22f4f520edf", func := "loop.example/g00905/laws.FnExactFreshZone", spec := "fnExactFreshZone", inPlace := ["internal/bytealg.abigen_runtime_cmpstring"], unfollowed := true, recurses := true, apart := false }
def FnExactFreshZoneSaid : Prop := fnExactFreshZoneRow.holds Tryz.pinned (OpenSpec.ofChange fnExactFreshZoneSpec)

/-- ITS FALSE NEIGHBOUR: 'it returns false'. Refute it at one input. -/
def fnExactFreshZoneWrong : ChangeSpec := { name := "fnExactFreshZone", fn := fun _ => fun
  | [d1, d2] => { results := [.lit (.bool false)], args := [d1, d2] }
  | _ => none }
def FnExactFreshZoneWrongFalsely : Prop := fnExactFreshZoneRow.holds Tryz.pinned (OpenSpec.ofChange fnExactFreshZoneWrong)

/-- 'laws.FnExactZonesWith': WHATEVER THE INPUT: true; the input reads as it did. -/
def fnExactZonesWithSpec : ChangeSpec := { name := "fnExactZonesWith", fn := fun _ => fun
  | [d1, d2, d3] => { results := [.lit (.bool true)], args := [d1, d2, d3] }
  | _ => none }
def fnExactZonesWithRow : OpenClaim := { program := "ytokpbjbngnlepaagreat", sum := "a56bc44bd22cfcdd9898a3fa19f6d12d52ab90b0d82b14504fb9b22f4f520edf", func := "loop.example/g00905/laws.FnExactZonesWith", spec := "fnExactZonesWith", inPlace := ["internal/bytealg.abigen_runtime_cmpstring"], unfollowed := true, recurses := true, apart := false }
def FnExactZonesWithSaid : Prop := fnExactZonesWithRow.holds Tryz.pinned (OpenSpec.ofChange fnExactZonesWithSpec)

/-- ITS FALSE NEIGHBOUR: 'it returns false'. Refute it at one input. -/
def fnExactZonesWithWrong : ChangeSpec := { name := "fnExactZonesWith", fn := fun _ => fun
  | [d1, d2, d3] => { results := [.lit (.bool false)], args := [d1, d2, d3] }
  | _ => none }
def FnExactZonesWithWrongFalsely : Prop := fnExactZonesWithRow.holds Tryz.pinned (OpenSpec.ofChange fnExactZonesWithWrong)

/-- 'laws.FnExactPlaceTable': WHATEVER THE INPUT: true; the input reads as it did. -/
def fnExactPlaceTableSpec : ChangeSpec := { name := "fnExactPlaceTable", fn := fun _ => fun
  | [d1, d2, d3, d4] => { results := [.lit (.bool true)], args := [d1, d2, d3, d4] }
  | _ => none }
def fnExactPlaceTableRow : OpenClaim := { program := "ytokpbjbngnlepaagreat", sum := "a56bc44bd22cfcdd9898a3fa19f6d12d52ab90b0d82b14504fb9b22f4f520edf", func := "loop.example/g00905/laws.FnExactPlaceTable", spec := "fnExactPlaceTable", inPlace := ["internal/bytealg.abigen_runtime_cmpstring"], unfollowed := true, recurses := true, apart := false }
def FnExactPlaceTableSaid : Prop := fnExactPlaceTableRow.holds Tryz.pinned (OpenSpec.ofChange fnExactPlaceTableSpec)

/-- ITS FALSE NEIGHBOUR: 'it returns false'. Refute it at one input. -/
def fnExactPlaceTableWrong : ChangeSpec := { name := "fnExactPlaceTable", fn := fun _ => fun
  | [d1, d2, d3, d4] => { results := [.lit (.bool false)], args := [d1, d2, d3, d4] }
  | _ => none }
def FnExactPlaceTableWrongFalsely : Prop := fnExactPlaceTableRow.holds Tryz.pinned (OpenSpec.ofChange fnExactPlaceTableWrong)

/- THE SECOND FORM. 'bulk': how many values and letters a reading holds, each counted each time it is reached (what is shared counts as often as it is met; a slice's spare places count too). A statement '..UptoSaid' is the law's where the arguments, and the package variables that the reading takes, are together of bulk at most 1048576: NARROWER than '..Said'. Prove '..Said' where nothing that the law and all that it calls make is longer than what came in: it says more and counts as full. Else prove '..UptoSaid'. A law counts once. -/
mutual
def uptoBulk {H : Type} : DataW H → Nat
  | .lit (.string bytes) => bytes.length + 1
  | .lit _ => 1
  | .nil => 1
  | .ptr d => uptoBulk d + 1
  | .slice elems spare => uptoBulkAll elems + uptoBulkAll spare + 1
  | .agg parts => uptoBulkAll parts + 1
  | .iface _ d => uptoBulk d + 1
  | .map entries => uptoBulkEntries entries + 1
  | .held _ => 1
def uptoBulkAll {H : Type} : List (DataW H) → Nat
  | [] => 0
  | d :: r => uptoBulk d + uptoBulkAll r
def uptoBulkEntries {H : Type} : List (Lit × DataW H) → Nat
  | [] => 0
  | x :: r => uptoBulkEntry x + uptoBulkEntries r
def uptoBulkEntry {H : Type} : Lit × DataW H → Nat
  | (.string bytes, d) => bytes.length + uptoBulk d + 1
  | (_, d) => uptoBulk d + 1
 end
def uptoSmall : (H : Type) → List (DataW H) → Bool := fun _ ds => decide (uptoBulkAll ds ≤ 1048576)
def OpenSpec.upto (s : _root_.Go.ChangeSpec) : _root_.Go.OpenSpec := { _root_.Go.OpenSpec.ofChange s with cond := some uptoSmall }

/-- 'laws.FnExactRoleOf', WHERE WHAT IT READS IS OF BULK AT MOST 1048576: true; the input reads as it did. -/
def fnExactRoleOfUptoRow : OpenClaim := { program := "ytokpbjbngnlepaagreat", sum := "a56bc44bd22cfcdd9898a3fa19f6d12d52ab90b0d82b14504fb9b22f4f520edf", func := "loop.example/g00905/laws.FnExactRoleOf", spec := "fnExactRoleOf", inPlace := ["internal/bytealg.abigen_runtime_cmpstring"], unfollowed := true, recurses := true, apart := false, narrowed := true }
def FnExactRoleOfUptoSaid : Prop := fnExactRoleOfUptoRow.holds Tryz.pinned (OpenSpec.upto fnExactRoleOfSpec)

/-- 'laws.FnExactVictimZone', WHERE WHAT IT READS IS OF BULK AT MOST 1048576: true; the input reads as it did. -/
def fnExactVictimZoneUptoRow : OpenClaim := { program := "ytokpbjbngnlepaagreat", sum := "a56bc44bd22cfcdd9898a3fa19f6d12d52ab90b0d82b14504fb9b22f4f520edf", func := "loop.example/g00905/laws.FnExactVictimZone", spec := "fnExactVictimZone", inPlace := ["internal/bytealg.abigen_runtime_cmpstring"], unfollowed := true, recurses := true, apart := false, narrowed := true }
def FnExactVictimZoneUptoSaid : Prop := fnExactVictimZoneUptoRow.holds Tryz.pinned (OpenSpec.upto fnExactVictimZoneSpec)

/-- 'laws.FnExactFreshZone', WHERE WHAT IT READS IS OF BULK AT MOST 1048576: true; the input reads as it did. -/
def fnExactFreshZoneUptoRow : OpenClaim := { program := "ytokpbjbngnlepaagreat", sum := "a56bc44bd22cfcdd9898a3fa19f6d12d52ab90b0d82b14504fb9b22f4f520edf", func := "loop.example/g00905/laws.FnExactFreshZone", spec := "fnExactFreshZone", inPlace := ["internal/bytealg.abigen_runtime_cmpstring"], unfollowed := true, recurses := true, apart := false, narrowed := true }
def FnExactFreshZoneUptoSaid : Prop := fnExactFreshZoneUptoRow.holds Tryz.pinned (OpenSpec.upto fnExactFreshZoneSpec)

/-- 'laws.FnExactZonesWith', WHERE WHAT IT READS IS OF BULK AT MOST 1048576: true; the input reads as it did. -/
def fnExactZonesWithUptoRow : OpenClaim := { program := "ytokpbjbngnlepaagreat", sum := "a56bc44bd22cfcdd9898a3fa19f6d12d52ab90b0d82b14504fb9b22f4f520edf", func := "loop.example/g00905/laws.FnExactZonesWith", spec := "fnExactZonesWith", inPlace := ["internal/bytealg.abigen_runtime_cmpstring"], unfollowed := true, recurses := true, apart := false, narrowed := true }
def FnExactZonesWithUptoSaid : Prop := fnExactZonesWithUptoRow.holds Tryz.pinned (OpenSpec.upto fnExactZonesWithSpec)

/-- 'laws.FnExactPlaceTable', WHERE WHAT IT READS IS OF BULK AT MOST 1048576: true; the input reads as it did. -/
def fnExactPlaceTableUptoRow : OpenClaim := { program := "ytokpbjbngnlepaagreat", sum := "a56bc44bd22cfcdd9898a3fa19f6d12d52ab90b0d82b14504fb9b22f4f520edf", func := "loop.example/g00905/laws.FnExactPlaceTable", spec := "fnExactPlaceTable", inPlace := ["internal/bytealg.abigen_runtime_cmpstring"], unfollowed := true, recurses := true, apart := false, narrowed := true }
def FnExactPlaceTableUptoSaid : Prop := fnExactPlaceTableUptoRow.holds Tryz.pinned (OpenSpec.upto fnExactPlaceTableSpec)

end Rows
end Go.Proofs.YtokpbjbngnlepaaGreat
