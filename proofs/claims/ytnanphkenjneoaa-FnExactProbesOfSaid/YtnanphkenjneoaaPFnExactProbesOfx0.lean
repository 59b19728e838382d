/- Printed by a program of this work (wip/tools: the print, turned): each function as a plain Lean function, and the proof that the call does what it says; no condition beyond what each theorem states. -/
import Derived.Test.YtnanphkenjneoaaProg
import Derived.Below
import Derived.Deep.Draws
import Derived.Deep.AppendLies
import Derived.Maps.AppendAt
import Derived.OwnWalk
import Derived.Laws.BytesArg
import Derived.Laws.MakeOwn
import Derived.Laws.OwnMore
import Derived.Deep.OwnRows
import Derived.Tactics
import Derived.Lib.ConvBytes
import Derived.Laws.Slices
import Derived.WalkKit
import Derived.KernelRfl
import Derived.RowKit3
import Derived.Deep.LoopGhost
import Derived.Deep.QuietTactic
import Derived.BigQuiet
import Derived.WideLaws
import Derived.Deep.DeepCutAuto
import Derived.Deep.CutBlock
import Derived.Deep.RegionHeld3
import Derived.Laws.Rows
import Derived.Lib.AppendStr
import Derived.ArgAppend
import Derived.Laws.IdiomCopy
import Derived.OrdersHeld
import Derived.Laws.BitsLemmas
import Derived.RowKit
import Derived.Shelf.Abstract
import Derived.Test.YtnanphkenjneoaaWWords
import Derived.Test.YtnanphkenjneoaaWLast
import Derived.Test.YtnanphkenjneoaaWTab
import Derived.Test.YtnanphkenjneoaaWFour
import Derived.Test.YtnanphkenjneoaaWQPut
import Derived.Test.YtnanphkenjneoaaWApart
import Derived.Test.YtnanphkenjneoaaWArr
import Derived.Test.YtnanphkenjneoaaWZeros
import Derived.Test.YtnanphkenjneoaaWFoot
import Derived.Test.YtnanphkenjneoaaWKept
import Derived.Test.YtnanphkenjneoaaWShare
import Derived.Test.YtnanphkenjneoaaWN
import Derived.Test.YtnanphkenjneoaaWFootNe
import Derived.Test.YtnanphkenjneoaaWAt
import Derived.Test.YtnanphkenjneoaaWEqStruct
import Derived.Test.YtnanphkenjneoaaWRepsOne
import Derived.Test.YtnanphkenjneoaaWInv
import Derived.Test.YtnanphkenjneoaaWInvWords
import Derived.Test.YtnanphkenjneoaaWGuard
import Derived.Test.YtnanphkenjneoaaWNEv
import Derived.Test.YtnanphkenjneoaaWMore
import Derived.Test.YtnanphkenjneoaaWOpen
import Derived.Test.YtnanphkenjneoaaWLp
namespace Go.Proofs.Ytnanphkenjneoaa.PFnExactProbesOf
open Go.RowKit Go.Proofs.YtnanphkenjneoaaW.PrintWords Go.Proofs.YtnanphkenjneoaaW.PrintLast Go.Proofs.YtnanphkenjneoaaW.PrintMore Go.Proofs.YtnanphkenjneoaaW.Open
attribute [local go_sem] max2_int min2_int max_two min_two max_three min_three max_four min_four   -- for this text's walks alone
set_option linter.unusedVariables false
set_option linter.unusedSimpArgs false



def errW : Option Int → Value
  | none => .nilIface
  | some c => .iface 0 (.int .i64 c)
theorem errW_none : errW none = .nilIface := rfl
theorem errW_some (c : Int) : errW (some c) = .iface 0 (.int .i64 c) := rfl

theorem info2 : (Try.prog.info? 2).map (fun i => (i.zero, i.size, i.bytes)) = some (some (.int .i64 0), 1, 8) := by kernel_rfl
-- the values' own types

end Go.Proofs.Ytnanphkenjneoaa.PFnExactProbesOf
