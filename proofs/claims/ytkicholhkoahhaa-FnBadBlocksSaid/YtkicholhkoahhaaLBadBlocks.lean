/- The law's row, over the pure theorem: every argument is read as a tree; the call answers true and leaves all memory as it was. No condition. -/
import Derived.Test.YtkicholhkoahhaaRows
import Derived.Test.YtkicholhkoahhaaKBadBlocks
import Derived.Test.YtkicholhkoahhaaMBadBlocks
import Derived.WalkKit
import Derived.ProofKit
import Derived.OpenShut
import Derived.ShutString
import Derived.ChangeOld
import Derived.Below
import Derived.SizedLaws
namespace Go.Proofs.Ytkicholhkoahhaa.IBadBlocks
open Go.ChangeShapes Go.WideShapes Go.ChangeAt Go.RowKit Go.Proofs.YtkicholhkoahhaaIT
open Go.ChangeMaps (open_string shut_string)
set_option linter.unusedVariables false
theorem over : Rows.fnBadBlocksRow.holds Try.pinned (OpenSpec.ofChange Rows.fnBadBlocksSpec) :=
  OpenClaim.holds_of_wide 4 Try.f4 rfl rfl rfl rfl rfl rfl rfl ⟨rfl, rfl, rfl, rfl, rfl⟩ rfl rfl rfl rfl rfl over1 Try.func4 over2
    (of_decide_eq_true over3) (by unfold Func.isWrapper; first | (rw [if_pos (by decide +kernel)]; kernel_rfl) | (rw [if_neg (by decide +kernel)]; exact ⟨rfl, rfl⟩))
    (fun os started H enc _ => lifted os started H enc)
theorem proved : Rows.FnBadBlocksSaid := over
#print axioms proved
end Go.Proofs.Ytkicholhkoahhaa.IBadBlocks
namespace Go.Proofs.Ytkicholhkoahhaa
/-- The row, under a short name, for the claim. -/
theorem fnBadBlocks_holds : Rows.FnBadBlocksSaid := IBadBlocks.proved
end Go.Proofs.Ytkicholhkoahhaa
