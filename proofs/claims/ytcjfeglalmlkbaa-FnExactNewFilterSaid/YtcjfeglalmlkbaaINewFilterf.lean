/- Printed by a program of this work (wip/it/itf.py): typed trees; the families sz, to, eq. No condition beyond what each theorem states. -/
import Derived.Test.YtcjfeglalmlkbaaINewFilterx
import Derived.Test.YtcjfeglalmlkbaaIt2
namespace Go.Proofs.Ytcjfeglalmlkbaa.INewFilter
open Go Go.Proofs.YtcjfeglalmlkbaaIT
set_option linter.unusedVariables false
set_option linter.unusedSimpArgs false
end Go.Proofs.Ytcjfeglalmlkbaa.INewFilter
