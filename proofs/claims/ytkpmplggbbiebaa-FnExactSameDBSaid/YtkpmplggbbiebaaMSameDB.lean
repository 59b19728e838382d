/- The law's row, over the pure theorem: every argument is read as a tree; the call answers true and leaves all memory as it was. No condition. -/
import Derived.Test.YtkpmplggbbiebaaRows
import Derived.WalkKit
import Derived.ProofKit
import Derived.OpenShut
import Derived.ShutString
import Derived.ChangeOld
import Derived.Below
import Derived.SizedLaws
namespace Go.Proofs.Ytkpmplggbbiebaa.ISameDB
open Go.ChangeShapes Go.WideShapes Go.ChangeAt Go.RowKit
open Go.ChangeMaps (open_string shut_string)
set_option linter.unusedVariables false
theorem over2 : joinedFacts Try.pinned.checked.prog 3 Try.f3 Rows.fnExactSameDBSpec Rows.fnExactSameDBRow = true := by kernel_rfl
end Go.Proofs.Ytkpmplggbbiebaa.ISameDB
