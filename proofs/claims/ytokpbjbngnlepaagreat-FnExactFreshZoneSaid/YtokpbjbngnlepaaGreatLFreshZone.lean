/- The law's row, over the pure theorem: every argument is read as a tree; the call answers true and leaves all memory as it was. No condition. -/
import Derived.Test.YtokpbjbngnlepaaGreatRows
import Derived.Test.YtokpbjbngnlepaaGreatKFreshZone
import Derived.Test.YtokpbjbngnlepaaGreatMFreshZone
import Derived.WalkKit
import Derived.ProofKit
import Derived.OpenShut
import Derived.ShutString
import Derived.ChangeOld
import Derived.Below
import Derived.SizedLaws
namespace Go.Proofs.YtokpbjbngnlepaaGreat.IFreshZone
open Go.ChangeShapes Go.WideShapes Go.ChangeAt Go.RowKit Go.Proofs.YtokpbjbngnlepaaGreatIT
open Go.ChangeMaps (open_string shut_string)
set_option linter.unusedVariables false
theorem over : Rows.fnExactFreshZoneRow.holds Tryz.pinned (OpenSpec.ofChange Rows.fnExactFreshZoneSpec) :=
  OpenClaim.holds_of_wide 5 Tryz.f5 rfl rfl rfl rfl rfl rfl rfl ⟨rfl, rfl, rfl, rfl, rfl⟩ rfl rfl rfl rfl rfl over1 Tryz.func5 over2
    (of_decide_eq_true over3) (by unfold Func.isWrapper; first | (rw [if_pos (by decide +kernel)]; kernel_rfl) | (rw [if_neg (by decide +kernel)]; exact ⟨rfl, rfl⟩))
    (fun os started H enc _ => lifted os started H enc)
theorem proved : Rows.FnExactFreshZoneSaid := over
#print axioms proved
end Go.Proofs.YtokpbjbngnlepaaGreat.IFreshZone
namespace Go.Proofs.YtokpbjbngnlepaaGreat
/-- The row, under a short name, for the claim. -/
theorem fnExactFreshZone_holds : Rows.FnExactFreshZoneSaid := IFreshZone.proved
end Go.Proofs.YtokpbjbngnlepaaGreat
