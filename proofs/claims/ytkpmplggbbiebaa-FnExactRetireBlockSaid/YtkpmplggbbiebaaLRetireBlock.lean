/- The law's row, over the pure theorem: every argument is read as a tree; the call answers true and leaves all memory as it was. No condition. -/
import Derived.Test.YtkpmplggbbiebaaRows
import Derived.Test.YtkpmplggbbiebaaKRetireBlock
import Derived.Test.YtkpmplggbbiebaaMRetireBlock
import Derived.WalkKit
import Derived.ProofKit
import Derived.OpenShut
import Derived.ShutString
import Derived.ChangeOld
import Derived.Below
import Derived.SizedLaws
namespace Go.Proofs.Ytkpmplggbbiebaa.IRetireBlock
open Go.ChangeShapes Go.WideShapes Go.ChangeAt Go.RowKit Go.Proofs.YtkpmplggbbiebaaIT
open Go.ChangeMaps (open_string shut_string)
set_option linter.unusedVariables false
theorem over : Rows.fnExactRetireBlockRow.holds Try.pinned (OpenSpec.ofChange Rows.fnExactRetireBlockSpec) :=
  OpenClaim.holds_of_wide 6 Try.f6 rfl rfl rfl rfl rfl rfl rfl ⟨rfl, rfl, rfl, rfl, rfl⟩ rfl rfl rfl rfl rfl over1 Try.func6 over2
    (of_decide_eq_true over3) (by unfold Func.isWrapper; first | (rw [if_pos (by decide +kernel)]; kernel_rfl) | (rw [if_neg (by decide +kernel)]; exact ⟨rfl, rfl⟩))
    (fun os started H enc _ => lifted os started H enc)
theorem proved : Rows.FnExactRetireBlockSaid := over
#print axioms proved
end Go.Proofs.Ytkpmplggbbiebaa.IRetireBlock
namespace Go.Proofs.Ytkpmplggbbiebaa
/-- The row, under a short name, for the claim. -/
theorem fnExactRetireBlock_holds : Rows.FnExactRetireBlockSaid := IRetireBlock.proved
end Go.Proofs.Ytkpmplggbbiebaa
