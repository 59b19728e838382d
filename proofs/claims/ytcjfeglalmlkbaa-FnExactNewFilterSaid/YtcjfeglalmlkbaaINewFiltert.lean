/- Printed by a program of this work (wip/it/itp.py): the tables of types and functions. No condition. -/
import Derived.Test.YtcjfeglalmlkbaaChecked
import Derived.Test.YtcjfeglalmlkbaaIt7
import Derived.Lib.Walk
import Derived.Lib.Strings
import Derived.Lib.Slices
import Derived.Test.YtcjfeglalmlkbaaItRp
import Derived.Test.YtcjfeglalmlkbaaSh
namespace Go.Proofs.Ytcjfeglalmlkbaa.INewFilter
open Go Go.Proofs.YtcjfeglalmlkbaaIT
set_option linter.unusedVariables false
noncomputable def tys : BT TI := (.node (.node (.node (.node .nil 2 ⟨(.i .i64), 1, 8, 0, []⟩ .nil) 3 ⟨(.i .i64), 1, 8, 0, []⟩ .nil) 4 ⟨.b, 1, 1, 0, []⟩ (.node .nil 5 ⟨(.i .u8), 1, 1, 0, []⟩ .nil)) 9 ⟨.s, 1, 16, 0, []⟩ (.node (.node (.node .nil 25 ⟨(.sl 5 1), 1, 24, 5, []⟩ .nil) 110 ⟨(.i .u64), 1, 8, 0, []⟩ .nil) 179 ⟨.pt, 1, 8, 0, []⟩ (.node .nil 181 ⟨(.agg [.pt, (.sl 5 1)]), 2, 32, 0, [(0, 179), (1, 25)]⟩ .nil)))
noncomputable def fi3 : FI := mkFI Try.f3 .b [] [] []
noncomputable def fi14 : FI := mkFI Try.f14 (.tup [.s, (.i .i64)]) [] [] []
noncomputable def fi15 : FI := mkFI Try.f15 (.tup [.s, (.i .i64)]) [] [] []
noncomputable def fi69 : FI := mkFI Try.f69 .b [] [] []
noncomputable def fi70 : FI := mkFI Try.f70 .b [] [] []
noncomputable def fi71 : FI := mkFI Try.f71 .s [] [] []
noncomputable def fi77 : FI := mkFI Try.f77 .b [] [] []
noncomputable def fns : BT FI := (.node (.node (.node .nil 3 fi3 .nil) 14 fi14 (.node .nil 15 fi15 .nil)) 69 fi69 (.node (.node .nil 70 fi70 .nil) 71 fi71 (.node .nil 77 fi77 .nil)))
theorem ty_ok : tys.all (tyOk Try.prog) = true := by kernel_rfl
theorem pr71 : PrOk Try.prog 71 prRepeat := prRepeat_ok Try.strings_Repeat
noncomputable def pos : BT (List AV → List Root → Option (AV × List Root)) := .nil
noncomputable def prs : BT (List AV → Option AV) := (.node .nil 71 prRepeat .nil)
noncomputable def E : Env := ⟨tys.get, fns.get, prs.get, pos.get⟩
theorem fn_ok : fns.All (FnOk Try.prog) := ⟨⟨⟨trivial, fnOk_mk Try.func3 (by kernel_rfl), trivial⟩, fnOk_mk Try.func14 (by kernel_rfl), ⟨trivial, fnOk_mk Try.func15 (by kernel_rfl), trivial⟩⟩, fnOk_mk Try.func69 (by kernel_rfl), ⟨⟨trivial, fnOk_mk Try.func70 (by kernel_rfl), trivial⟩, fnOk_mk Try.func71 (by kernel_rfl), ⟨trivial, fnOk_mk Try.func77 (by kernel_rfl), trivial⟩⟩⟩
theorem pr_ok : prs.All (PrOk Try.prog) := ⟨trivial, pr71, trivial⟩
theorem po_ok : pos.All (PoOk Try.prog) := trivial
theorem env : EnvOk Try.prog E := ⟨fun t ti h => tys.get_all ty_ok h, fun g fi h => fns.get_All fn_ok h, by kernel_rfl, fun g p h => prs.get_All pr_ok h, fun g p h => pos.get_All po_ok h⟩
theorem ty2 : E.Γ 2 = some ⟨(.i .i64), 1, 8, 0, []⟩ := by kernel_rfl
theorem fn3 : E.Φ 3 = some fi3 := by kernel_rfl
end Go.Proofs.Ytcjfeglalmlkbaa.INewFilter
