/- Printed by a program of this work (wip/it/itp.py): the tables of types and functions. No condition. -/
import Derived.Test.YthlmjmejnlalaaaChecked
import Derived.Test.YthlmjmejnlalaaaIt1
namespace Go.Proofs.Ythlmjmejnlalaaa.IValidEdit
open Go Go.Proofs.YthlmjmejnlalaaaIT
set_option linter.unusedVariables false
noncomputable def tys : BT TI := (.node (.node (.node (.node .nil 2 ⟨(.i .i64), 1, 8, 0, []⟩ .nil) 3 ⟨(.i .i64), 1, 8, 0, []⟩ (.node .nil 4 ⟨.b, 1, 1, 0, []⟩ .nil)) 9 ⟨.s, 1, 16, 0, []⟩ (.node (.node .nil 31 ⟨.fn, 1, 8, 0, []⟩ .nil) 34 ⟨(.sl 2 1), 1, 24, 2, []⟩ (.node .nil 35 ⟨(.sl 176 10), 1, 24, 176, []⟩ .nil))) 37 ⟨(.agg [(.i .i64), (.i .i64), (.sl 2 1), (.sl 176 10)]), 4, 64, 0, [(0, 2), (1, 2), (2, 34), (3, 35)]⟩ (.node (.node (.node .nil 40 ⟨(.sl 118 10), 1, 24, 118, []⟩ .nil) 42 ⟨(.agg [(.i .i64), (.i .i64), (.sl 2 1), (.sl 118 10)]), 4, 64, 0, [(0, 2), (1, 2), (2, 34), (3, 40)]⟩ (.node .nil 115 ⟨.pt, 1, 8, 0, []⟩ .nil)) 118 ⟨(.agg [(.i .i64), (.i .i64), (.i .i64), (.i .i64), (.i .i64), .s, .s, (.i .i64), (.i .i64), (.i .i64)]), 10, 96, 0, [(0, 2), (1, 2), (2, 2), (3, 2), (4, 2), (5, 9), (6, 9), (7, 2), (8, 2), (9, 2)]⟩ (.node (.node .nil 176 ⟨(.agg [(.i .i64), (.i .i64), (.i .i64), (.i .i64), (.i .i64), .s, .s, (.i .i64), (.i .i64), (.i .i64)]), 10, 96, 0, [(0, 2), (1, 2), (2, 2), (3, 2), (4, 2), (5, 9), (6, 9), (7, 2), (8, 2), (9, 2)]⟩ .nil) 178 ⟨.pt, 1, 8, 0, []⟩ .nil)))
noncomputable def fi6 : FI := mkFI Try.f6 .b []
noncomputable def fi23 : FI := mkFI Try.f23 (.i .i64) []
noncomputable def fi24 : FI := mkFI Try.f24 .b []
noncomputable def fi25 : FI := mkFI Try.f25 (.agg [(.i .i64), (.i .i64), (.sl 2 1), (.sl 118 10)]) []
noncomputable def fi26 : FI := mkFI Try.f26 .b [(2, [1, 6, 7, 8], 1), (6, [1, 6, 7, 8], 1)]
noncomputable def fi27 : FI := mkFI Try.f27 .b []
noncomputable def fi59 : FI := mkFI Try.f59 (.sl 2 1) [(3, [0, 3, 4], 2)]
noncomputable def fi62 : FI := mkFI Try.f62 .b [(4, [0, 1, 5], 0)]
noncomputable def fi72 : FI := mkFI Try.f72 .b []
noncomputable def fi77 : FI := mkFI Try.f77 (.i .i64) []
noncomputable def fi78 : FI := mkFI Try.f78 (.i .i64) [(5, [0, 1, 5], 0)]
noncomputable def fi79 : FI := mkFI Try.f79 .b [(4, [0, 3], 0), (5, [0, 3], 0), (9, [0, 4], 0), (10, [0, 4], 0)]
noncomputable def fi80 : FI := mkFI Try.f80 (.sl 118 10) [(3, [0, 3, 4], 2)]
noncomputable def fi81 : FI := mkFI Try.f81 .b []
noncomputable def fi82 : FI := mkFI Try.f82 .b [(2, [0, 3], 0)]
noncomputable def fi83 : FI := mkFI Try.f83 .b []
noncomputable def fi84 : FI := mkFI Try.f84 .b [(4, [0, 1, 5], 0)]
noncomputable def fi90 : FI := mkFI Try.f90 .b []
noncomputable def fi141 : FI := mkFI Try.f141 (.i .i64) []
noncomputable def fi142 : FI := mkFI Try.f142 .b []
noncomputable def fi143 : FI := mkFI Try.f143 (.agg [(.i .i64), (.i .i64), (.i .i64), (.i .i64), (.i .i64), .s, .s, (.i .i64), (.i .i64), (.i .i64)]) []
noncomputable def fi144 : FI := mkFI Try.f144 .b []
noncomputable def fi145 : FI := mkFI Try.f145 .b []
noncomputable def fi146 : FI := mkFI Try.f146 .b []
noncomputable def fi192 : FI := mkFI Try.f192 (.i .i64) [(2, [0, 1, 7, 8], 0)]
noncomputable def fns : BT FI := (.node (.node (.node (.node (.node .nil 6 fi6 .nil) 23 fi23 (.node .nil 24 fi24 .nil)) 25 fi25 (.node (.node .nil 26 fi26 .nil) 27 fi27 .nil)) 59 fi59 (.node (.node (.node .nil 62 fi62 .nil) 72 fi72 .nil) 77 fi77 (.node (.node .nil 78 fi78 .nil) 79 fi79 .nil))) 80 fi80 (.node (.node (.node (.node .nil 81 fi81 .nil) 82 fi82 (.node .nil 83 fi83 .nil)) 84 fi84 (.node (.node .nil 90 fi90 .nil) 141 fi141 .nil)) 142 fi142 (.node (.node (.node .nil 143 fi143 .nil) 144 fi144 .nil) 145 fi145 (.node (.node .nil 146 fi146 .nil) 192 fi192 .nil))))
noncomputable def E : Env := ⟨tys.get, fns.get⟩
theorem ty_ok : tys.all (tyOk Try.prog) = true := by kernel_rfl
theorem fn_ok : fns.All (FnOk Try.prog) := ⟨⟨⟨⟨⟨trivial, fnOk_mk Try.func6 (by kernel_rfl), trivial⟩, fnOk_mk Try.func23 (by kernel_rfl), ⟨trivial, fnOk_mk Try.func24 (by kernel_rfl), trivial⟩⟩, fnOk_mk Try.func25 (by kernel_rfl), ⟨⟨trivial, fnOk_mk Try.func26 (by kernel_rfl), trivial⟩, fnOk_mk Try.func27 (by kernel_rfl), trivial⟩⟩, fnOk_mk Try.func59 (by kernel_rfl), ⟨⟨⟨trivial, fnOk_mk Try.func62 (by kernel_rfl), trivial⟩, fnOk_mk Try.func72 (by kernel_rfl), trivial⟩, fnOk_mk Try.func77 (by kernel_rfl), ⟨⟨trivial, fnOk_mk Try.func78 (by kernel_rfl), trivial⟩, fnOk_mk Try.func79 (by kernel_rfl), trivial⟩⟩⟩, fnOk_mk Try.func80 (by kernel_rfl), ⟨⟨⟨⟨trivial, fnOk_mk Try.func81 (by kernel_rfl), trivial⟩, fnOk_mk Try.func82 (by kernel_rfl), ⟨trivial, fnOk_mk Try.func83 (by kernel_rfl), trivial⟩⟩, fnOk_mk Try.func84 (by kernel_rfl), ⟨⟨trivial, fnOk_mk Try.func90 (by kernel_rfl), trivial⟩, fnOk_mk Try.func141 (by kernel_rfl), trivial⟩⟩, fnOk_mk Try.func142 (by kernel_rfl), ⟨⟨⟨trivial, fnOk_mk Try.func143 (by kernel_rfl), trivial⟩, fnOk_mk Try.func144 (by kernel_rfl), trivial⟩, fnOk_mk Try.func145 (by kernel_rfl), ⟨⟨trivial, fnOk_mk Try.func146 (by kernel_rfl), trivial⟩, fnOk_mk Try.func192 (by kernel_rfl), trivial⟩⟩⟩⟩
theorem env : EnvOk Try.prog E := ⟨fun t ti h => tys.get_all ty_ok h, fun g fi h => fns.get_All fn_ok h, by kernel_rfl⟩
theorem ty37 : E.Γ 37 = some ⟨(.agg [(.i .i64), (.i .i64), (.sl 2 1), (.sl 176 10)]), 4, 64, 0, [(0, 2), (1, 2), (2, 34), (3, 35)]⟩ := by kernel_rfl
theorem fn6 : E.Φ 6 = some fi6 := by kernel_rfl
end Go.Proofs.Ythlmjmejnlalaaa.IValidEdit
