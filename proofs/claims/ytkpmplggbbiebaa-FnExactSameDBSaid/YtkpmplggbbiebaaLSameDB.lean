/- The law's row, over the pure theorem: every argument is read as a tree; the call answers true and leaves all memory as it was. No condition. -/
import Derived.Test.YtkpmplggbbiebaaRows
import Derived.Test.YtkpmplggbbiebaaKSameDB
import Derived.Test.YtkpmplggbbiebaaMSameDB
import Derived.WalkKit
import Derived.ProofKit
import Derived.OpenShut
import Derived.ShutString
import Derived.ChangeOld
import Derived.Below
import Derived.SizedLaws
namespace Go.Proofs.Ytkpmplggbbiebaa.ISameDB
open Go.ChangeShapes Go.WideShapes Go.ChangeAt Go.RowKit Go.Proofs.YtkpmplggbbiebaaIT
open Go.ChangeMaps (open_string shut_string)
set_option linter.unusedVariables false
theorem over : Rows.fnExactSameDBRow.holds Try.pinned (OpenSpec.ofChange Rows.fnExactSameDBSpec) :=
  OpenClaim.holds_of_wide 3 Try.f3 rfl rfl rfl rfl rfl rfl rfl ⟨rfl, rfl, rfl, rfl, rfl⟩ rfl rfl rfl rfl rfl over1 Try.func3 over2
    (of_decide_eq_true over3) (by unfold Func.isWrapper; first | (rw [if_pos (by decide +kernel)]; kernel_rfl) | (rw [if_neg (by decide +kernel)]; exact ⟨rfl, rfl⟩))
    (fun os started H enc _ => lifted os started H enc)
theorem proved : Rows.FnExactSameDBSaid := over
#print axioms proved
end Go.Proofs.Ytkpmplggbbiebaa.ISameDB
namespace Go.Proofs.Ytkpmplggbbiebaa
/-- The row, under a short name, for the claim. -/
theorem fnExactSameDB_holds : Rows.FnExactSameDBSaid := ISameDB.proved
end Go.Proofs.Ytkpmplggbbiebaa
