/- The law's row, over the pure theorem: every argument is read as a tree; the call answers true and leaves all memory as it was. No condition. -/
import Derived.Test.YtinjfceidedcnaaRows
import Derived.Test.YtinjfceidedcnaaKRoomIn
import Derived.Test.YtinjfceidedcnaaMRoomIn
import Derived.WalkKit
import Derived.ProofKit
import Derived.OpenShut
import Derived.ShutString
import Derived.ChangeOld
import Derived.Below
import Derived.SizedLaws
namespace Go.Proofs.Ytinjfceidedcnaa.IRoomIn
open Go.ChangeShapes Go.WideShapes Go.ChangeAt Go.RowKit Go.Proofs.YtinjfceidedcnaaIT
open Go.ChangeMaps (open_string shut_string)
set_option linter.unusedVariables false
theorem over : Rows.fnExactRoomInRow.holds Try.pinned (OpenSpec.ofChange Rows.fnExactRoomInSpec) :=
  OpenClaim.holds_of_wide 10 Try.f10 rfl rfl rfl rfl rfl rfl rfl ⟨rfl, rfl, rfl, rfl, rfl⟩ rfl rfl rfl rfl rfl over1 Try.func10 over2
    (of_decide_eq_true over3) (by unfold Func.isWrapper; first | (rw [if_pos (by decide +kernel)]; kernel_rfl) | (rw [if_neg (by decide +kernel)]; exact ⟨rfl, rfl⟩))
    (fun os started H enc _ => lifted os started H enc)
theorem proved : Rows.FnExactRoomInSaid := over
#print axioms proved
end Go.Proofs.Ytinjfceidedcnaa.IRoomIn
namespace Go.Proofs.Ytinjfceidedcnaa
/-- The row, under a short name, for the claim. -/
theorem fnExactRoomIn_holds : Rows.FnExactRoomInSaid := IRoomIn.proved
end Go.Proofs.Ytinjfceidedcnaa
