/- Printed by a program of this work (wip/it/itp.py): the tables of types and functions. No condition. -/
import Derived.Test.YtinjfceidedcnaaChecked
import Derived.Test.YtinjfceidedcnaaIt7
import Derived.Lib.Walk
import Derived.Lib.Strings
import Derived.Lib.Slices
namespace Go.Proofs.Ytinjfceidedcnaa.IRoomIn
open Go Go.Proofs.YtinjfceidedcnaaIT
set_option linter.unusedVariables false
noncomputable def tys : BT TI := (.node (.node (.node (.node (.node .nil 2 ⟨(.i .i64), 1, 8, 0, []⟩ .nil) 3 ⟨(.i .i64), 1, 8, 0, []⟩ (.node .nil 4 ⟨.b, 1, 1, 0, []⟩ .nil)) 9 ⟨.s, 1, 16, 0, []⟩ (.node (.node .nil 41 ⟨(.sl 2 1), 1, 24, 2, []⟩ .nil) 61 ⟨(.agg [(.i .i64), (.i .i64), (.i .i64)]), 3, 24, 0, [(0, 2), (1, 2), (2, 2)]⟩ .nil)) 62 ⟨(.sl 159 4), 1, 24, 159, []⟩ (.node (.node (.node .nil 64 ⟨(.agg [(.i .i64), (.i .i64), (.i .i64), (.sl 159 4), (.i .i64), (.i .i64), .b, (.i .i64)]), 8, 80, 0, [(0, 61), (3, 62), (4, 2), (5, 2), (6, 4), (7, 2)]⟩ .nil) 65 ⟨(.sl 131 6), 1, 24, 131, []⟩ .nil) 67 ⟨(.agg [(.i .i64), (.i .i64), (.i .i64), (.sl 159 4), (.i .i64), (.i .i64), .b, (.i .i64), (.sl 131 6)]), 9, 104, 0, [(0, 64), (8, 65)]⟩ (.node (.node .nil 70 ⟨(.agg [(.i .i64), (.i .i64), (.i .i64)]), 3, 24, 0, [(0, 2), (1, 2), (2, 2)]⟩ .nil) 71 ⟨(.sl 147 4), 1, 24, 147, []⟩ .nil))) 73 ⟨(.agg [(.i .i64), (.i .i64), (.i .i64), (.sl 147 4), (.i .i64), (.i .i64), .b, (.i .i64)]), 8, 80, 0, [(0, 70), (3, 71), (4, 2), (5, 2), (6, 4), (7, 2)]⟩ (.node (.node (.node (.node .nil 74 ⟨(.sl 134 6), 1, 24, 134, []⟩ .nil) 76 ⟨(.agg [(.i .i64), (.i .i64), (.i .i64), (.sl 147 4), (.i .i64), (.i .i64), .b, (.i .i64), (.sl 134 6)]), 9, 104, 0, [(0, 73), (8, 74)]⟩ (.node .nil 82 ⟨.fn, 1, 8, 0, []⟩ .nil)) 100 ⟨.pt, 1, 8, 0, []⟩ (.node (.node .nil 109 ⟨.fn, 1, 8, 0, [(2, 4)]⟩ .nil) 116 ⟨(.sl 9 1), 1, 24, 9, []⟩ .nil)) 131 ⟨(.agg [(.i .i64), (.sl 2 1), (.i .i64), (.i .i64), (.sl 2 1), (.sl 9 1)]), 6, 96, 0, [(0, 2), (1, 41), (2, 2), (3, 2), (4, 41), (5, 116)]⟩ (.node (.node (.node .nil 134 ⟨(.agg [(.i .i64), (.sl 2 1), (.i .i64), (.i .i64), (.sl 2 1), (.sl 9 1)]), 6, 96, 0, [(0, 2), (1, 41), (2, 2), (3, 2), (4, 41), (5, 116)]⟩ .nil) 147 ⟨(.agg [(.i .i64), (.i .i64), .b, (.sl 9 1)]), 4, 48, 0, [(0, 2), (1, 2), (2, 4), (3, 116)]⟩ .nil) 151 ⟨.fn, 1, 8, 0, []⟩ (.node (.node .nil 159 ⟨(.agg [(.i .i64), (.i .i64), .b, (.sl 9 1)]), 4, 48, 0, [(0, 2), (1, 2), (2, 4), (3, 116)]⟩ .nil) 166 ⟨.fn, 1, 8, 0, []⟩ .nil))))
noncomputable def fi10 : FI := mkFI Try.f10 .b [] [] []
noncomputable def fi28 : FI := mkFI Try.f28 (.sl 2 1) [(3, [0, 3, 4], 2)] [] []
noncomputable def fi30 : FI := mkFI Try.f30 .b [(4, [0, 1, 5], 0)] [] []
noncomputable def fi42 : FI := mkFI Try.f42 (.i .i64) [] [] []
noncomputable def fi43 : FI := mkFI Try.f43 (.i .i64) [] [] []
noncomputable def fi44 : FI := mkFI Try.f44 (.agg [(.i .i64), (.i .i64), (.i .i64), (.sl 147 4), (.i .i64), (.i .i64), .b, (.i .i64), (.sl 134 6)]) [] [] []
noncomputable def fi45 : FI := mkFI Try.f45 (.i .i64) [] [] []
noncomputable def fi46 : FI := mkFI Try.f46 .b [] [] []
noncomputable def fi80 : FI := mkFI Try.f80 (.i .i64) [] [] []
noncomputable def fi81 : FI := mkFI Try.f81 (.i .i64) [(5, [0, 1, 5], 0)] [] []
noncomputable def fi82 : FI := mkFI Try.f82 .b [(5, [1, 3, 4], 2), (11, [1, 3, 4, 5, 6], 3)] [] []
noncomputable def fi83 : FI := mkFI Try.f83 .b [] [] []
noncomputable def fi84 : FI := mkFI Try.f84 (.i .i64) [(4, [0, 5], 1)] [] []
noncomputable def fi85 : FI := mkFI Try.f85 (.agg [(.i .i64), (.i .i64), (.i .i64), (.sl 147 4), (.i .i64), (.i .i64), .b, (.i .i64)]) [] [] []
noncomputable def fi86 : FI := mkFI Try.f86 (.sl 134 6) [(3, [0, 3, 4], 2)] [] []
noncomputable def fi87 : FI := mkFI Try.f87 .b [(5, [1, 3, 26, 27, 28], 2), (10, [1, 3, 26, 27, 28, 46, 47, 48], 2)] [] []
noncomputable def fi88 : FI := mkFI Try.f88 .b [] [] []
noncomputable def fi89 : FI := mkFI Try.f89 (.i .i64) [(4, [0, 5], 1)] [] []
noncomputable def fi90 : FI := mkFI Try.f90 .b [] [] []
noncomputable def fi91 : FI := mkFI Try.f91 .b [(4, [0, 1, 5], 0)] [] []
noncomputable def fi99 : FI := mkFI Try.f99 .b [] [] []
noncomputable def fi103 : FI := mkFI Try.f103 .b [] [] []
noncomputable def fi107 : FI := mkFI Try.f107 .b [] [] []
noncomputable def fi124 : FI := mkFI Try.f124 (.i .i64) [(5, [0, 1, 5], 0)] [] []
noncomputable def fi125 : FI := mkFI Try.f125 (.i .i64) [] [] []
noncomputable def fi126 : FI := mkFI Try.f126 .b [(4, [1, 3], 1)] [] []
noncomputable def fi127 : FI := mkFI Try.f127 (.i .i64) [] [] []
noncomputable def fi128 : FI := mkFI Try.f128 .b [(4, [2, 3, 5], 2)] [] []
noncomputable def fi129 : FI := mkFI Try.f129 .b [(4, [2, 3, 5], 2), (9, [3, 6], 2)] [] []
noncomputable def fi130 : FI := mkFI Try.f130 .b [(14, [2, 3, 5], 2), (15, [2, 3, 5, 6], 2)] [] []
noncomputable def fi131 : FI := mkFI Try.f131 .b [(2, [0, 1, 5], 0)] [] []
noncomputable def fi132 : FI := mkFI Try.f132 (.agg [(.i .i64), (.i .i64), (.i .i64)]) [] [] []
noncomputable def fi133 : FI := mkFI Try.f133 (.sl 147 4) [(3, [0, 3, 4], 2)] [] []
noncomputable def fi134 : FI := mkFI Try.f134 (.agg [(.i .i64), (.sl 2 1), (.i .i64), (.i .i64), (.sl 2 1), (.sl 9 1)]) [] [] []
noncomputable def fi135 : FI := mkFI Try.f135 .b [] [] []
noncomputable def fi136 : FI := mkFI Try.f136 .b [(4, [0, 19, 20, 21], 0)] [] []
noncomputable def fi137 : FI := mkFI Try.f137 .b [] [] []
noncomputable def fi138 : FI := mkFI Try.f138 .b [] [] []
noncomputable def fi139 : FI := mkFI Try.f139 (.i .i64) [] [] []
noncomputable def fi140 : FI := mkFI Try.f140 .b [] [] []
noncomputable def fi141 : FI := mkFI Try.f141 .b [(4, [0, 1, 5], 0)] [] []
noncomputable def fi142 : FI := mkFI Try.f142 .b [] [] []
noncomputable def fi146 : FI := mkFI Try.f146 .b [] [] []
noncomputable def fi147 : FI := mkFI Try.f147 .b [] [] []
noncomputable def fi155 : FI := mkFI Try.f155 (.i .i64) [] [] []
noncomputable def fi156 : FI := mkFI Try.f156 (.i .i64) [] [] []
noncomputable def fi157 : FI := mkFI Try.f157 (.i .i64) [(5, [0, 1, 5], 0)] [] []
noncomputable def fi158 : FI := mkFI Try.f158 .b [] [] []
noncomputable def fi159 : FI := mkFI Try.f159 .b [(4, [1, 2, 5], 1), (5, [1, 2, 5], 1)] [] []
noncomputable def fi160 : FI := mkFI Try.f160 (.i .i64) [(3, [0, 3, 4], 0)] [] []
noncomputable def fi161 : FI := mkFI Try.f161 (.agg [(.i .i64), (.i .i64), .b, (.sl 9 1)]) [] [] []
noncomputable def fi162 : FI := mkFI Try.f162 (.sl 9 1) [(3, [0, 3, 4], 2)] [] []
noncomputable def fi163 : FI := mkFI Try.f163 .b [] [] []
noncomputable def fi164 : FI := mkFI Try.f164 (.i .i64) [] [] []
noncomputable def fi165 : FI := mkFI Try.f165 .b [] [] []
noncomputable def fi166 : FI := mkFI Try.f166 .b [] [] []
noncomputable def fi167 : FI := mkFI Try.f167 .b [(4, [3, 28, 29, 30], 2), (8, [3, 28, 29, 30], 2)] [] []
noncomputable def fi168 : FI := mkFI Try.f168 (.i .i64) [(3, [3, 6, 7, 8], 0)] [] []
noncomputable def fi169 : FI := mkFI Try.f169 .b [] [] []
noncomputable def fi170 : FI := mkFI Try.f170 .b [] [] []
noncomputable def fi171 : FI := mkFI Try.f171 .b [] [] []
noncomputable def fi172 : FI := mkFI Try.f172 .b [] [] []
noncomputable def fi173 : FI := mkFI Try.f173 .b [(4, [0, 1, 5], 0)] [] []
noncomputable def fi174 : FI := mkFI Try.f174 (.i .i64) [(2, [0, 1, 7, 8], 0)] [] []
noncomputable def fi178 : FI := mkFI Try.f178 (.i .i64) [(2, [0, 1, 7, 8], 0)] [] []
noncomputable def fi179 : FI := mkFI Try.f179 (.i .i64) [(2, [0, 1, 7, 8], 0)] [] []
noncomputable def fi180 : FI := mkFI Try.f180 .b [] [] []
noncomputable def fns : BT FI := (.node (.node (.node (.node (.node (.node (.node .nil 10 fi10 .nil) 28 fi28 .nil) 30 fi30 (.node .nil 42 fi42 .nil)) 43 fi43 (.node (.node .nil 44 fi44 .nil) 45 fi45 (.node .nil 46 fi46 .nil))) 80 fi80 (.node (.node (.node .nil 81 fi81 .nil) 82 fi82 (.node .nil 83 fi83 .nil)) 84 fi84 (.node (.node .nil 85 fi85 .nil) 86 fi86 (.node .nil 87 fi87 .nil)))) 88 fi88 (.node (.node (.node (.node (.node .nil 89 fi89 .nil) 90 fi90 .nil) 91 fi91 (.node .nil 99 fi99 .nil)) 103 fi103 (.node (.node .nil 107 fi107 .nil) 124 fi124 (.node .nil 125 fi125 .nil))) 126 fi126 (.node (.node (.node .nil 127 fi127 .nil) 128 fi128 (.node .nil 129 fi129 .nil)) 130 fi130 (.node (.node .nil 131 fi131 .nil) 132 fi132 (.node .nil 133 fi133 .nil))))) 134 fi134 (.node (.node (.node (.node (.node (.node .nil 135 fi135 .nil) 136 fi136 .nil) 137 fi137 (.node .nil 138 fi138 .nil)) 139 fi139 (.node (.node .nil 140 fi140 .nil) 141 fi141 (.node .nil 142 fi142 .nil))) 146 fi146 (.node (.node (.node .nil 147 fi147 .nil) 155 fi155 (.node .nil 156 fi156 .nil)) 157 fi157 (.node (.node .nil 158 fi158 .nil) 159 fi159 (.node .nil 160 fi160 .nil)))) 161 fi161 (.node (.node (.node (.node (.node .nil 162 fi162 .nil) 163 fi163 .nil) 164 fi164 (.node .nil 165 fi165 .nil)) 166 fi166 (.node (.node .nil 167 fi167 .nil) 168 fi168 (.node .nil 169 fi169 .nil))) 170 fi170 (.node (.node (.node .nil 171 fi171 .nil) 172 fi172 (.node .nil 173 fi173 .nil)) 174 fi174 (.node (.node .nil 178 fi178 .nil) 179 fi179 (.node .nil 180 fi180 .nil))))))
theorem ty_ok : tys.all (tyOk Try.prog) = true := by kernel_rfl
noncomputable def pos : BT (List AV → List Root → Option (AV × List Root)) := .nil
noncomputable def prs : BT (List AV → Option AV) := .nil
noncomputable def E : Env := ⟨tys.get, fns.get, prs.get, pos.get⟩
theorem fn_ok : fns.All (FnOk Try.prog) := ⟨⟨⟨⟨⟨⟨⟨trivial, fnOk_mk Try.func10 (by kernel_rfl), trivial⟩, fnOk_mk Try.func28 (by kernel_rfl), trivial⟩, fnOk_mk Try.func30 (by kernel_rfl), ⟨trivial, fnOk_mk Try.func42 (by kernel_rfl), trivial⟩⟩, fnOk_mk Try.func43 (by kernel_rfl), ⟨⟨trivial, fnOk_mk Try.func44 (by kernel_rfl), trivial⟩, fnOk_mk Try.func45 (by kernel_rfl), ⟨trivial, fnOk_mk Try.func46 (by kernel_rfl), trivial⟩⟩⟩, fnOk_mk Try.func80 (by kernel_rfl), ⟨⟨⟨trivial, fnOk_mk Try.func81 (by kernel_rfl), trivial⟩, fnOk_mk Try.func82 (by kernel_rfl), ⟨trivial, fnOk_mk Try.func83 (by kernel_rfl), trivial⟩⟩, fnOk_mk Try.func84 (by kernel_rfl), ⟨⟨trivial, fnOk_mk Try.func85 (by kernel_rfl), trivial⟩, fnOk_mk Try.func86 (by kernel_rfl), ⟨trivial, fnOk_mk Try.func87 (by kernel_rfl), trivial⟩⟩⟩⟩, fnOk_mk Try.func88 (by kernel_rfl), ⟨⟨⟨⟨⟨trivial, fnOk_mk Try.func89 (by kernel_rfl), trivial⟩, fnOk_mk Try.func90 (by kernel_rfl), trivial⟩, fnOk_mk Try.func91 (by kernel_rfl), ⟨trivial, fnOk_mk Try.func99 (by kernel_rfl), trivial⟩⟩, fnOk_mk Try.func103 (by kernel_rfl), ⟨⟨trivial, fnOk_mk Try.func107 (by kernel_rfl), trivial⟩, fnOk_mk Try.func124 (by kernel_rfl), ⟨trivial, fnOk_mk Try.func125 (by kernel_rfl), trivial⟩⟩⟩, fnOk_mk Try.func126 (by kernel_rfl), ⟨⟨⟨trivial, fnOk_mk Try.func127 (by kernel_rfl), trivial⟩, fnOk_mk Try.func128 (by kernel_rfl), ⟨trivial, fnOk_mk Try.func129 (by kernel_rfl), trivial⟩⟩, fnOk_mk Try.func130 (by kernel_rfl), ⟨⟨trivial, fnOk_mk Try.func131 (by kernel_rfl), trivial⟩, fnOk_mk Try.func132 (by kernel_rfl), ⟨trivial, fnOk_mk Try.func133 (by kernel_rfl), trivial⟩⟩⟩⟩⟩, fnOk_mk Try.func134 (by kernel_rfl), ⟨⟨⟨⟨⟨⟨trivial, fnOk_mk Try.func135 (by kernel_rfl), trivial⟩, fnOk_mk Try.func136 (by kernel_rfl), trivial⟩, fnOk_mk Try.func137 (by kernel_rfl), ⟨trivial, fnOk_mk Try.func138 (by kernel_rfl), trivial⟩⟩, fnOk_mk Try.func139 (by kernel_rfl), ⟨⟨trivial, fnOk_mk Try.func140 (by kernel_rfl), trivial⟩, fnOk_mk Try.func141 (by kernel_rfl), ⟨trivial, fnOk_mk Try.func142 (by kernel_rfl), trivial⟩⟩⟩, fnOk_mk Try.func146 (by kernel_rfl), ⟨⟨⟨trivial, fnOk_mk Try.func147 (by kernel_rfl), trivial⟩, fnOk_mk Try.func155 (by kernel_rfl), ⟨trivial, fnOk_mk Try.func156 (by kernel_rfl), trivial⟩⟩, fnOk_mk Try.func157 (by kernel_rfl), ⟨⟨trivial, fnOk_mk Try.func158 (by kernel_rfl), trivial⟩, fnOk_mk Try.func159 (by kernel_rfl), ⟨trivial, fnOk_mk Try.func160 (by kernel_rfl), trivial⟩⟩⟩⟩, fnOk_mk Try.func161 (by kernel_rfl), ⟨⟨⟨⟨⟨trivial, fnOk_mk Try.func162 (by kernel_rfl), trivial⟩, fnOk_mk Try.func163 (by kernel_rfl), trivial⟩, fnOk_mk Try.func164 (by kernel_rfl), ⟨trivial, fnOk_mk Try.func165 (by kernel_rfl), trivial⟩⟩, fnOk_mk Try.func166 (by kernel_rfl), ⟨⟨trivial, fnOk_mk Try.func167 (by kernel_rfl), trivial⟩, fnOk_mk Try.func168 (by kernel_rfl), ⟨trivial, fnOk_mk Try.func169 (by kernel_rfl), trivial⟩⟩⟩, fnOk_mk Try.func170 (by kernel_rfl), ⟨⟨⟨trivial, fnOk_mk Try.func171 (by kernel_rfl), trivial⟩, fnOk_mk Try.func172 (by kernel_rfl), ⟨trivial, fnOk_mk Try.func173 (by kernel_rfl), trivial⟩⟩, fnOk_mk Try.func174 (by kernel_rfl), ⟨⟨trivial, fnOk_mk Try.func178 (by kernel_rfl), trivial⟩, fnOk_mk Try.func179 (by kernel_rfl), ⟨trivial, fnOk_mk Try.func180 (by kernel_rfl), trivial⟩⟩⟩⟩⟩⟩
theorem pr_ok : prs.All (PrOk Try.prog) := trivial
theorem po_ok : pos.All (PoOk Try.prog) := trivial
theorem env : EnvOk Try.prog E := ⟨fun t ti h => tys.get_all ty_ok h, fun g fi h => fns.get_All fn_ok h, by kernel_rfl, fun g p h => prs.get_All pr_ok h, fun g p h => pos.get_All po_ok h⟩
theorem ty2 : E.Γ 2 = some ⟨(.i .i64), 1, 8, 0, []⟩ := by kernel_rfl
theorem ty67 : E.Γ 67 = some ⟨(.agg [(.i .i64), (.i .i64), (.i .i64), (.sl 159 4), (.i .i64), (.i .i64), .b, (.i .i64), (.sl 131 6)]), 9, 104, 0, [(0, 64), (8, 65)]⟩ := by kernel_rfl
theorem fn10 : E.Φ 10 = some fi10 := by kernel_rfl
end Go.Proofs.Ytinjfceidedcnaa.IRoomIn
