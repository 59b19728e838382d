/- The law's row, over the pure theorem: every argument is read as a tree; the call answers true and leaves all memory as it was. No condition. -/
import Derived.Test.YtkicholhkoahhaaRows
import Derived.WalkKit
import Derived.ProofKit
import Derived.OpenShut
import Derived.ShutString
import Derived.ChangeOld
import Derived.Below
import Derived.SizedLaws
namespace Go.Proofs.Ytkicholhkoahhaa.IBadBlocks
open Go.ChangeShapes Go.WideShapes Go.ChangeAt Go.RowKit
open Go.ChangeMaps (open_string shut_string)
set_option linter.unusedVariables false
theorem over2 : joinedFacts Try.pinned.checked.prog 4 Try.f4 Rows.fnBadBlocksSpec Rows.fnBadBlocksRow = true := by kernel_rfl
end Go.Proofs.Ytkicholhkoahhaa.IBadBlocks
