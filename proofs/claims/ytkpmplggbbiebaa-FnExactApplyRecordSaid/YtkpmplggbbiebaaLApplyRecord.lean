/- The law's row, over the pure theorem: every argument is read as a tree; the call answers true and leaves all memory as it was. No condition. -/
import Derived.Test.YtkpmplggbbiebaaRows
import Derived.Test.YtkpmplggbbiebaaKApplyRecord
import Derived.Test.YtkpmplggbbiebaaMApplyRecord
import Derived.WalkKit
import Derived.ProofKit
import Derived.OpenShut
import Derived.ShutString
import Derived.ChangeOld
import Derived.Below
import Derived.SizedLaws
namespace Go.Proofs.Ytkpmplggbbiebaa.IApplyRecord
open Go.ChangeShapes Go.WideShapes Go.ChangeAt Go.RowKit Go.Proofs.YtkpmplggbbiebaaIT
open Go.ChangeMaps (open_string shut_string)
set_option linter.unusedVariables false
theorem over : Rows.fnExactApplyRecordRow.holds Try.pinned (OpenSpec.ofChange Rows.fnExactApplyRecordSpec) :=
  OpenClaim.holds_of_wide 5 Try.f5 rfl rfl rfl rfl rfl rfl rfl ⟨rfl, rfl, rfl, rfl, rfl⟩ rfl rfl rfl rfl rfl over1 Try.func5 over2
    (of_decide_eq_true over3) (by unfold Func.isWrapper; first | (rw [if_pos (by decide +kernel)]; kernel_rfl) | (rw [if_neg (by decide +kernel)]; exact ⟨rfl, rfl⟩))
    (fun os started H enc _ => lifted os started H enc)
theorem proved : Rows.FnExactApplyRecordSaid := over
#print axioms proved
end Go.Proofs.Ytkpmplggbbiebaa.IApplyRecord
namespace Go.Proofs.Ytkpmplggbbiebaa
/-- The row, under a short name, for the claim. -/
theorem fnExactApplyRecord_holds : Rows.FnExactApplyRecordSaid := IApplyRecord.proved
end Go.Proofs.Ytkpmplggbbiebaa
