/- The law's row, over the pure theorem: every argument is read as a tree; the call answers true and leaves all memory as it was. No condition. -/
import Derived.Test.YtokpbjbngnlepaaGreatRows
import Derived.Test.YtokpbjbngnlepaaGreatKPlaceTable
import Derived.Test.YtokpbjbngnlepaaGreatMPlaceTable
import Derived.WalkKit
import Derived.ProofKit
import Derived.OpenShut
import Derived.ShutString
import Derived.ChangeOld
import Derived.Below
import Derived.SizedLaws
namespace Go.Proofs.YtokpbjbngnlepaaGreat.IPlaceTable
open Go.ChangeShapes Go.WideShapes Go.ChangeAt Go.RowKit Go.Proofs.YtokpbjbngnlepaaGreatIT
open Go.ChangeMaps (open_string shut_string)
set_option linter.unusedVariables false
theorem over : Rows.fnExactPlaceTableRow.holds Tryz.pinned (OpenSpec.ofChange Rows.fnExactPlaceTableSpec) :=
  OpenClaim.holds_of_wide 7 Tryz.f7 rfl rfl rfl rfl rfl rfl rfl ⟨rfl, rfl, rfl, rfl, rfl⟩ rfl rfl rfl rfl rfl over1 Tryz.func7 over2
    (of_decide_eq_true over3) (by unfold Func.isWrapper; first | (rw [if_pos (by decide +kernel)]; kernel_rfl) | (rw [if_neg (by decide +kernel)]; exact ⟨rfl, rfl⟩))
    (fun os started H enc _ => lifted os started H enc)
theorem proved : Rows.FnExactPlaceTableSaid := over
#print axioms proved
end Go.Proofs.YtokpbjbngnlepaaGreat.IPlaceTable
namespace Go.Proofs.YtokpbjbngnlepaaGreat
/-- The row, under a short name, for the claim. -/
theorem fnExactPlaceTable_holds : Rows.FnExactPlaceTableSaid := IPlaceTable.proved
end Go.Proofs.YtokpbjbngnlepaaGreat
