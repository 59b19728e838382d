/- The law's row, over the pure theorem: every argument is read as a tree; the call answers true and leaves all memory as it was. No condition. -/
import Derived.Test.YtokpbjbngnlepaaGreatRows
import Derived.Test.YtokpbjbngnlepaaGreatKRoleOf
import Derived.Test.YtokpbjbngnlepaaGreatMRoleOf
import Derived.WalkKit
import Derived.ProofKit
import Derived.OpenShut
import Derived.ShutString
import Derived.ChangeOld
import Derived.Below
import Derived.SizedLaws
namespace Go.Proofs.YtokpbjbngnlepaaGreat.IRoleOf
open Go.ChangeShapes Go.WideShapes Go.ChangeAt Go.RowKit Go.Proofs.YtokpbjbngnlepaaGreatIT
open Go.ChangeMaps (open_string shut_string)
set_option linter.unusedVariables false
theorem over : Rows.fnExactRoleOfRow.holds Tryz.pinned (OpenSpec.ofChange Rows.fnExactRoleOfSpec) :=
  OpenClaim.holds_of_wide 3 Tryz.f3 rfl rfl rfl rfl rfl rfl rfl ⟨rfl, rfl, rfl, rfl, rfl⟩ rfl rfl rfl rfl rfl over1 Tryz.func3 over2
    (of_decide_eq_true over3) (by unfold Func.isWrapper; first | (rw [if_pos (by decide +kernel)]; kernel_rfl) | (rw [if_neg (by decide +kernel)]; exact ⟨rfl, rfl⟩))
    (fun os started H enc _ => lifted os started H enc)
theorem proved : Rows.FnExactRoleOfSaid := over
#print axioms proved
end Go.Proofs.YtokpbjbngnlepaaGreat.IRoleOf
namespace Go.Proofs.YtokpbjbngnlepaaGreat
/-- The row, under a short name, for the claim. -/
theorem fnExactRoleOf_holds : Rows.FnExactRoleOfSaid := IRoleOf.proved
end Go.Proofs.YtokpbjbngnlepaaGreat
