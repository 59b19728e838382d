/- Printed by a program of this work (wip/it/itp.py): the tables of types and functions. No condition. -/
import Derived.Test.YtkpmplggbbiebaaChecked
import Derived.Test.YtkpmplggbbiebaaIt7
import Derived.Lib.Walk
import Derived.Lib.Strings
import Derived.Lib.Slices
namespace Go.Proofs.Ytkpmplggbbiebaa.ISameDB
open Go Go.Proofs.YtkpmplggbbiebaaIT
set_option linter.unusedVariables false
noncomputable def tys : BT TI := (.node (.node (.node (.node (.node (.node .nil 2 ⟨(.i .i64), 1, 8, 0, []⟩ .nil) 3 ⟨(.i .i64), 1, 8, 0, []⟩ .nil) 4 ⟨.b, 1, 1, 0, []⟩ (.node .nil 9 ⟨.s, 1, 16, 0, []⟩ .nil)) 23 ⟨(.agg [(.i .i64), (.i .i64), (.i .i64)]), 3, 24, 0, [(0, 2), (1, 2), (2, 2)]⟩ (.node (.node .nil 24 ⟨(.sl 202 4), 1, 24, 202, []⟩ .nil) 26 ⟨(.agg [(.i .i64), (.i .i64), (.i .i64), (.sl 202 4), (.i .i64), (.i .i64), .b, (.i .i64)]), 8, 80, 0, [(0, 23), (3, 24), (4, 2), (5, 2), (6, 4), (7, 2)]⟩ (.node .nil 27 ⟨(.sl 167 6), 1, 24, 167, []⟩ .nil))) 29 ⟨(.agg [(.i .i64), (.i .i64), (.i .i64), (.sl 202 4), (.i .i64), (.i .i64), .b, (.i .i64), (.sl 167 6)]), 9, 104, 0, [(0, 26), (8, 27)]⟩ (.node (.node (.node (.node .nil 30 ⟨(.sl 169 10), 1, 24, 169, []⟩ .nil) 32 ⟨(.agg [(.i .i64), (.i .i64), (.i .i64), (.sl 169 10)]), 4, 48, 0, [(0, 2), (1, 2), (2, 2), (3, 30)]⟩ .nil) 33 ⟨(.sl 63 5), 1, 24, 63, []⟩ (.node .nil 34 ⟨(.sl 2 1), 1, 24, 2, []⟩ .nil)) 36 ⟨(.agg [(.i .i64), (.i .i64), (.i .i64), (.sl 202 4), (.i .i64), (.i .i64), .b, (.i .i64), (.sl 167 6), (.i .i64), (.i .i64), (.i .i64), (.sl 169 10), (.i .i64), (.i .i64), (.sl 63 5), (.i .i64), (.i .i64), (.sl 2 1)]), 19, 232, 0, [(0, 29), (9, 32), (13, 2), (14, 2), (15, 33), (16, 2), (17, 2), (18, 34)]⟩ (.node (.node .nil 39 ⟨(.agg [(.i .i64), (.i .i64), (.i .i64)]), 3, 24, 1, [(0, 2), (1, 2), (2, 2)]⟩ .nil) 40 ⟨(.sl 172 4), 1, 24, 172, []⟩ (.node .nil 42 ⟨(.agg [(.i .i64), (.i .i64), (.i .i64), (.sl 172 4), (.i .i64), (.i .i64), .b, (.i .i64)]), 8, 80, 0, [(0, 39), (3, 40), (4, 2), (5, 2), (6, 4), (7, 2)]⟩ .nil)))) 43 ⟨(.sl 129 6), 1, 24, 129, []⟩ (.node (.node (.node (.node (.node .nil 45 ⟨(.agg [(.i .i64), (.i .i64), (.i .i64), (.sl 172 4), (.i .i64), (.i .i64), .b, (.i .i64), (.sl 129 6)]), 9, 104, 0, [(0, 42), (8, 43)]⟩ .nil) 46 ⟨(.sl 131 10), 1, 24, 131, []⟩ .nil) 48 ⟨(.agg [(.i .i64), (.i .i64), (.i .i64), (.sl 131 10)]), 4, 48, 0, [(0, 2), (1, 2), (2, 2), (3, 46)]⟩ (.node .nil 49 ⟨(.sl 70 5), 1, 24, 70, []⟩ .nil)) 51 ⟨(.agg [(.i .i64), (.i .i64), (.i .i64), (.sl 172 4), (.i .i64), (.i .i64), .b, (.i .i64), (.sl 129 6), (.i .i64), (.i .i64), (.i .i64), (.sl 131 10), (.i .i64), (.i .i64), (.sl 70 5), (.i .i64), (.i .i64), (.sl 2 1)]), 19, 232, 0, [(0, 45), (9, 48), (13, 2), (14, 2), (15, 49), (16, 2), (17, 2), (18, 34)]⟩ (.node (.node .nil 54 ⟨(.sl 9 1), 1, 24, 9, []⟩ .nil) 63 ⟨(.agg [.s, (.i .i64), (.i .i64), .s, .s]), 5, 64, 0, [(0, 9), (1, 2), (2, 2), (3, 9), (4, 9)]⟩ (.node .nil 70 ⟨(.agg [.s, (.i .i64), (.i .i64), .s, .s]), 5, 64, 1, [(0, 9), (1, 2), (2, 2), (3, 9), (4, 9)]⟩ .nil))) 129 ⟨(.agg [(.i .i64), (.sl 2 1), (.i .i64), (.i .i64), (.sl 2 1), (.sl 9 1)]), 6, 96, 0, [(0, 2), (1, 34), (2, 2), (3, 2), (4, 34), (5, 54)]⟩ (.node (.node (.node .nil 131 ⟨(.agg [(.i .i64), (.i .i64), (.i .i64), (.i .i64), (.i .i64), .s, .s, (.i .i64), (.i .i64), (.i .i64)]), 10, 96, 1, [(0, 2), (1, 2), (2, 2), (3, 2), (4, 2), (5, 9), (6, 9), (7, 2), (8, 2), (9, 2)]⟩ .nil) 136 ⟨.fn, 1, 8, 0, []⟩ (.node .nil 167 ⟨(.agg [(.i .i64), (.sl 2 1), (.i .i64), (.i .i64), (.sl 2 1), (.sl 9 1)]), 6, 96, 0, [(0, 2), (1, 34), (2, 2), (3, 2), (4, 34), (5, 54)]⟩ .nil)) 169 ⟨(.agg [(.i .i64), (.i .i64), (.i .i64), (.i .i64), (.i .i64), .s, .s, (.i .i64), (.i .i64), (.i .i64)]), 10, 96, 0, [(0, 2), (1, 2), (2, 2), (3, 2), (4, 2), (5, 9), (6, 9), (7, 2), (8, 2), (9, 2)]⟩ (.node (.node .nil 170 ⟨.fn, 1, 8, 0, []⟩ .nil) 172 ⟨(.agg [(.i .i64), (.i .i64), .b, (.sl 9 1)]), 4, 48, 0, [(0, 2), (1, 2), (2, 4), (3, 54)]⟩ (.node .nil 202 ⟨(.agg [(.i .i64), (.i .i64), .b, (.sl 9 1)]), 4, 48, 0, [(0, 2), (1, 2), (2, 4), (3, 54)]⟩ .nil)))))
noncomputable def fi3 : FI := mkFI Try.f3 .b [] [] []
noncomputable def fi7 : FI := mkFI Try.f7 (.i .i64) [] [] []
noncomputable def fi8 : FI := mkFI Try.f8 .b [] [] []
noncomputable def fi9 : FI := mkFI Try.f9 (.agg [(.i .i64), (.i .i64), (.i .i64), (.sl 172 4), (.i .i64), (.i .i64), .b, (.i .i64), (.sl 129 6), (.i .i64), (.i .i64), (.i .i64), (.sl 131 10), (.i .i64), (.i .i64), (.sl 70 5), (.i .i64), (.i .i64), (.sl 2 1)]) [] [] []
noncomputable def fi10 : FI := mkFI Try.f10 .b [] [] []
noncomputable def fi11 : FI := mkFI Try.f11 .b [] [] []
noncomputable def fi12 : FI := mkFI Try.f12 (.i .i64) [(5, [0, 1, 5], 0)] [] []
noncomputable def fi14 : FI := mkFI Try.f14 (.sl 9 1) [(3, [0, 3, 4], 2)] [] []
noncomputable def fi16 : FI := mkFI Try.f16 .b [(4, [0, 1, 5], 0)] [] []
noncomputable def fi18 : FI := mkFI Try.f18 (.i .i64) [] [] []
noncomputable def fi21 : FI := mkFI Try.f21 (.agg [.s, (.i .i64), (.i .i64), .s, .s]) [] [] []
noncomputable def fi33 : FI := mkFI Try.f33 (.i .i64) [] [] []
noncomputable def fi34 : FI := mkFI Try.f34 (.i .i64) [] [] []
noncomputable def fi35 : FI := mkFI Try.f35 (.i .i64) [(5, [0, 1, 5], 0)] [] []
noncomputable def fi36 : FI := mkFI Try.f36 (.i .i64) [] [] []
noncomputable def fi37 : FI := mkFI Try.f37 .b [(4, [2, 3, 5], 2)] [] []
noncomputable def fi38 : FI := mkFI Try.f38 .b [(4, [2, 3, 5], 2)] [] []
noncomputable def fi39 : FI := mkFI Try.f39 .b [(4, [0, 1, 5], 0)] [] []
noncomputable def fi40 : FI := mkFI Try.f40 .b [(4, [0, 1, 5], 0)] [] []
noncomputable def fi41 : FI := mkFI Try.f41 (.agg [(.i .i64), (.i .i64), (.i .i64), (.sl 172 4), (.i .i64), (.i .i64), .b, (.i .i64), (.sl 129 6)]) [] [] []
noncomputable def fi42 : FI := mkFI Try.f42 (.agg [(.i .i64), (.i .i64), (.i .i64), (.sl 131 10)]) [] [] []
noncomputable def fi43 : FI := mkFI Try.f43 (.sl 70 5) [(3, [0, 3, 4], 2)] [] []
noncomputable def fi44 : FI := mkFI Try.f44 (.sl 2 1) [(3, [0, 3, 4], 2)] [] []
noncomputable def fi45 : FI := mkFI Try.f45 .b [] [] []
noncomputable def fi46 : FI := mkFI Try.f46 .b [] [] []
noncomputable def fi47 : FI := mkFI Try.f47 .b [(4, [0, 1, 12, 13], 0)] [] []
noncomputable def fi48 : FI := mkFI Try.f48 .b [(4, [0, 1, 12, 13], 0)] [] []
noncomputable def fi49 : FI := mkFI Try.f49 .b [] [] []
noncomputable def fi50 : FI := mkFI Try.f50 .b [] [] []
noncomputable def fi51 : FI := mkFI Try.f51 .b [(4, [0, 1, 5], 0)] [] []
noncomputable def fi52 : FI := mkFI Try.f52 .b [(4, [0, 1, 5], 0)] [] []
noncomputable def fi77 : FI := mkFI Try.f77 (.agg [(.i .i64), (.i .i64), (.i .i64)]) [] [] []
noncomputable def fi82 : FI := mkFI Try.f82 .b [] [] []
noncomputable def fi85 : FI := mkFI Try.f85 (.i .i64) [] [] []
noncomputable def fi86 : FI := mkFI Try.f86 (.i .i64) [(5, [0, 1, 5], 0)] [] []
noncomputable def fi87 : FI := mkFI Try.f87 (.i .i64) [(5, [0, 1, 5], 0)] [] []
noncomputable def fi88 : FI := mkFI Try.f88 .b [(4, [2, 3, 5], 2)] [] []
noncomputable def fi89 : FI := mkFI Try.f89 .b [(4, [0, 1, 5], 0)] [] []
noncomputable def fi90 : FI := mkFI Try.f90 .b [(4, [0, 1, 5], 0)] [] []
noncomputable def fi91 : FI := mkFI Try.f91 (.agg [(.i .i64), (.i .i64), (.i .i64), (.sl 172 4), (.i .i64), (.i .i64), .b, (.i .i64)]) [] [] []
noncomputable def fi92 : FI := mkFI Try.f92 (.sl 129 6) [(3, [0, 3, 4], 2)] [] []
noncomputable def fi93 : FI := mkFI Try.f93 (.sl 131 10) [(3, [0, 3, 4], 2)] [] []
noncomputable def fi94 : FI := mkFI Try.f94 .b [] [] []
noncomputable def fi95 : FI := mkFI Try.f95 .b [(4, [1, 2, 15, 16, 17], 0)] [] []
noncomputable def fi96 : FI := mkFI Try.f96 .b [] [] []
noncomputable def fi97 : FI := mkFI Try.f97 .b [(4, [0, 1, 12, 13], 0)] [] []
noncomputable def fi98 : FI := mkFI Try.f98 .b [] [] []
noncomputable def fi99 : FI := mkFI Try.f99 .b [(4, [0, 1, 5], 0)] [] []
noncomputable def fi100 : FI := mkFI Try.f100 .b [(4, [0, 1, 5], 0)] [] []
noncomputable def fi101 : FI := mkFI Try.f101 .b [] [] []
noncomputable def fi131 : FI := mkFI Try.f131 (.i .i64) [(5, [0, 1, 5], 0)] [] []
noncomputable def fi132 : FI := mkFI Try.f132 (.i .i64) [] [] []
noncomputable def fi133 : FI := mkFI Try.f133 (.i .i64) [] [] []
noncomputable def fi134 : FI := mkFI Try.f134 .b [(4, [2, 3, 5], 2)] [] []
noncomputable def fi135 : FI := mkFI Try.f135 (.sl 172 4) [(3, [0, 3, 4], 2)] [] []
noncomputable def fi136 : FI := mkFI Try.f136 (.agg [(.i .i64), (.sl 2 1), (.i .i64), (.i .i64), (.sl 2 1), (.sl 9 1)]) [] [] []
noncomputable def fi137 : FI := mkFI Try.f137 (.agg [(.i .i64), (.i .i64), (.i .i64), (.i .i64), (.i .i64), .s, .s, (.i .i64), (.i .i64), (.i .i64)]) [] [] []
noncomputable def fi138 : FI := mkFI Try.f138 .b [(4, [1, 2, 15, 16, 17], 0)] [] []
noncomputable def fi139 : FI := mkFI Try.f139 .b [] [] []
noncomputable def fi140 : FI := mkFI Try.f140 .b [(4, [0, 1, 12, 13], 0)] [] []
noncomputable def fi141 : FI := mkFI Try.f141 .b [(4, [0, 1, 5], 0)] [] []
noncomputable def fi142 : FI := mkFI Try.f142 .b [] [] []
noncomputable def fi143 : FI := mkFI Try.f143 .b [] [] []
noncomputable def fi170 : FI := mkFI Try.f170 (.i .i64) [] [] []
noncomputable def fi171 : FI := mkFI Try.f171 (.agg [(.i .i64), (.i .i64), .b, (.sl 9 1)]) [] [] []
noncomputable def fi172 : FI := mkFI Try.f172 .b [] [] []
noncomputable def fns : BT FI := (.node (.node (.node (.node (.node (.node (.node .nil 3 fi3 .nil) 7 fi7 .nil) 8 fi8 (.node .nil 9 fi9 .nil)) 10 fi10 (.node (.node .nil 11 fi11 .nil) 12 fi12 (.node .nil 14 fi14 .nil))) 16 fi16 (.node (.node (.node .nil 18 fi18 .nil) 21 fi21 (.node .nil 33 fi33 .nil)) 34 fi34 (.node (.node .nil 35 fi35 .nil) 36 fi36 (.node .nil 37 fi37 .nil)))) 38 fi38 (.node (.node (.node (.node (.node .nil 39 fi39 .nil) 40 fi40 .nil) 41 fi41 (.node .nil 42 fi42 .nil)) 43 fi43 (.node (.node .nil 44 fi44 .nil) 45 fi45 (.node .nil 46 fi46 .nil))) 47 fi47 (.node (.node (.node .nil 48 fi48 .nil) 49 fi49 (.node .nil 50 fi50 .nil)) 51 fi51 (.node (.node .nil 52 fi52 .nil) 77 fi77 (.node .nil 82 fi82 .nil))))) 85 fi85 (.node (.node (.node (.node (.node (.node .nil 86 fi86 .nil) 87 fi87 .nil) 88 fi88 (.node .nil 89 fi89 .nil)) 90 fi90 (.node (.node .nil 91 fi91 .nil) 92 fi92 (.node .nil 93 fi93 .nil))) 94 fi94 (.node (.node (.node .nil 95 fi95 .nil) 96 fi96 (.node .nil 97 fi97 .nil)) 98 fi98 (.node (.node .nil 99 fi99 .nil) 100 fi100 (.node .nil 101 fi101 .nil)))) 131 fi131 (.node (.node (.node (.node .nil 132 fi132 .nil) 133 fi133 (.node .nil 134 fi134 .nil)) 135 fi135 (.node (.node .nil 136 fi136 .nil) 137 fi137 (.node .nil 138 fi138 .nil))) 139 fi139 (.node (.node (.node .nil 140 fi140 .nil) 141 fi141 (.node .nil 142 fi142 .nil)) 143 fi143 (.node (.node .nil 170 fi170 .nil) 171 fi171 (.node .nil 172 fi172 .nil))))))
theorem ty_ok : tys.all (tyOk Try.prog) = true := by kernel_rfl
noncomputable def pos : BT (List AV → List Root → Option (AV × List Root)) := .nil
noncomputable def prs : BT (List AV → Option AV) := .nil
noncomputable def E : Env := ⟨tys.get, fns.get, prs.get, pos.get⟩
theorem fn_ok : fns.All (FnOk Try.prog) := ⟨⟨⟨⟨⟨⟨⟨trivial, fnOk_mk Try.func3 (by kernel_rfl), trivial⟩, fnOk_mk Try.func7 (by kernel_rfl), trivial⟩, fnOk_mk Try.func8 (by kernel_rfl), ⟨trivial, fnOk_mk Try.func9 (by kernel_rfl), trivial⟩⟩, fnOk_mk Try.func10 (by kernel_rfl), ⟨⟨trivial, fnOk_mk Try.func11 (by kernel_rfl), trivial⟩, fnOk_mk Try.func12 (by kernel_rfl), ⟨trivial, fnOk_mk Try.func14 (by kernel_rfl), trivial⟩⟩⟩, fnOk_mk Try.func16 (by kernel_rfl), ⟨⟨⟨trivial, fnOk_mk Try.func18 (by kernel_rfl), trivial⟩, fnOk_mk Try.func21 (by kernel_rfl), ⟨trivial, fnOk_mk Try.func33 (by kernel_rfl), trivial⟩⟩, fnOk_mk Try.func34 (by kernel_rfl), ⟨⟨trivial, fnOk_mk Try.func35 (by kernel_rfl), trivial⟩, fnOk_mk Try.func36 (by kernel_rfl), ⟨trivial, fnOk_mk Try.func37 (by kernel_rfl), trivial⟩⟩⟩⟩, fnOk_mk Try.func38 (by kernel_rfl), ⟨⟨⟨⟨⟨trivial, fnOk_mk Try.func39 (by kernel_rfl), trivial⟩, fnOk_mk Try.func40 (by kernel_rfl), trivial⟩, fnOk_mk Try.func41 (by kernel_rfl), ⟨trivial, fnOk_mk Try.func42 (by kernel_rfl), trivial⟩⟩, fnOk_mk Try.func43 (by kernel_rfl), ⟨⟨trivial, fnOk_mk Try.func44 (by kernel_rfl), trivial⟩, fnOk_mk Try.func45 (by kernel_rfl), ⟨trivial, fnOk_mk Try.func46 (by kernel_rfl), trivial⟩⟩⟩, fnOk_mk Try.func47 (by kernel_rfl), ⟨⟨⟨trivial, fnOk_mk Try.func48 (by kernel_rfl), trivial⟩, fnOk_mk Try.func49 (by kernel_rfl), ⟨trivial, fnOk_mk Try.func50 (by kernel_rfl), trivial⟩⟩, fnOk_mk Try.func51 (by kernel_rfl), ⟨⟨trivial, fnOk_mk Try.func52 (by kernel_rfl), trivial⟩, fnOk_mk Try.func77 (by kernel_rfl), ⟨trivial, fnOk_mk Try.func82 (by kernel_rfl), trivial⟩⟩⟩⟩⟩, fnOk_mk Try.func85 (by kernel_rfl), ⟨⟨⟨⟨⟨⟨trivial, fnOk_mk Try.func86 (by kernel_rfl), trivial⟩, fnOk_mk Try.func87 (by kernel_rfl), trivial⟩, fnOk_mk Try.func88 (by kernel_rfl), ⟨trivial, fnOk_mk Try.func89 (by kernel_rfl), trivial⟩⟩, fnOk_mk Try.func90 (by kernel_rfl), ⟨⟨trivial, fnOk_mk Try.func91 (by kernel_rfl), trivial⟩, fnOk_mk Try.func92 (by kernel_rfl), ⟨trivial, fnOk_mk Try.func93 (by kernel_rfl), trivial⟩⟩⟩, fnOk_mk Try.func94 (by kernel_rfl), ⟨⟨⟨trivial, fnOk_mk Try.func95 (by kernel_rfl), trivial⟩, fnOk_mk Try.func96 (by kernel_rfl), ⟨trivial, fnOk_mk Try.func97 (by kernel_rfl), trivial⟩⟩, fnOk_mk Try.func98 (by kernel_rfl), ⟨⟨trivial, fnOk_mk Try.func99 (by kernel_rfl), trivial⟩, fnOk_mk Try.func100 (by kernel_rfl), ⟨trivial, fnOk_mk Try.func101 (by kernel_rfl), trivial⟩⟩⟩⟩, fnOk_mk Try.func131 (by kernel_rfl), ⟨⟨⟨⟨trivial, fnOk_mk Try.func132 (by kernel_rfl), trivial⟩, fnOk_mk Try.func133 (by kernel_rfl), ⟨trivial, fnOk_mk Try.func134 (by kernel_rfl), trivial⟩⟩, fnOk_mk Try.func135 (by kernel_rfl), ⟨⟨trivial, fnOk_mk Try.func136 (by kernel_rfl), trivial⟩, fnOk_mk Try.func137 (by kernel_rfl), ⟨trivial, fnOk_mk Try.func138 (by kernel_rfl), trivial⟩⟩⟩, fnOk_mk Try.func139 (by kernel_rfl), ⟨⟨⟨trivial, fnOk_mk Try.func140 (by kernel_rfl), trivial⟩, fnOk_mk Try.func141 (by kernel_rfl), ⟨trivial, fnOk_mk Try.func142 (by kernel_rfl), trivial⟩⟩, fnOk_mk Try.func143 (by kernel_rfl), ⟨⟨trivial, fnOk_mk Try.func170 (by kernel_rfl), trivial⟩, fnOk_mk Try.func171 (by kernel_rfl), ⟨trivial, fnOk_mk Try.func172 (by kernel_rfl), trivial⟩⟩⟩⟩⟩⟩
theorem pr_ok : prs.All (PrOk Try.prog) := trivial
theorem po_ok : pos.All (PoOk Try.prog) := trivial
theorem env : EnvOk Try.prog E := ⟨fun t ti h => tys.get_all ty_ok h, fun g fi h => fns.get_All fn_ok h, by kernel_rfl, fun g p h => prs.get_All pr_ok h, fun g p h => pos.get_All po_ok h⟩
theorem ty36 : E.Γ 36 = some ⟨(.agg [(.i .i64), (.i .i64), (.i .i64), (.sl 202 4), (.i .i64), (.i .i64), .b, (.i .i64), (.sl 167 6), (.i .i64), (.i .i64), (.i .i64), (.sl 169 10), (.i .i64), (.i .i64), (.sl 63 5), (.i .i64), (.i .i64), (.sl 2 1)]), 19, 232, 0, [(0, 29), (9, 32), (13, 2), (14, 2), (15, 33), (16, 2), (17, 2), (18, 34)]⟩ := by kernel_rfl
theorem fn3 : E.Φ 3 = some fi3 := by kernel_rfl
end Go.Proofs.Ytkpmplggbbiebaa.ISameDB
