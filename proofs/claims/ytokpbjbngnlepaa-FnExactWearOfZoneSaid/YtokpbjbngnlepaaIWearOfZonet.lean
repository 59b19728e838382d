/- Printed by a program of this work (wip/it/itp.py): the tables of types and functions. No condition. -/
import Derived.Test.YtokpbjbngnlepaaChecked
import Derived.Test.YtokpbjbngnlepaaIt7
import Derived.Lib.Walk
import Derived.Lib.Strings
import Derived.Lib.Slices
namespace Go.Proofs.Ytokpbjbngnlepaa.IWearOfZone
open Go Go.Proofs.YtokpbjbngnlepaaIT
set_option linter.unusedVariables false
noncomputable def tys : BT TI := (.node (.node (.node (.node (.node .nil 2 ⟨(.i .i64), 1, 8, 0, []⟩ .nil) 3 ⟨(.i .i64), 1, 8, 0, []⟩ (.node .nil 4 ⟨.b, 1, 1, 0, []⟩ .nil)) 9 ⟨.s, 1, 16, 0, []⟩ (.node (.node .nil 23 ⟨(.agg [(.i .i64), (.i .i64), (.i .i64)]), 3, 24, 0, [(0, 2), (1, 2), (2, 2)]⟩ .nil) 24 ⟨(.sl 159 4), 1, 24, 159, []⟩ .nil)) 26 ⟨(.agg [(.i .i64), (.i .i64), (.i .i64), (.sl 159 4), (.i .i64), (.i .i64), .b, (.i .i64)]), 8, 80, 0, [(0, 23), (3, 24), (4, 2), (5, 2), (6, 4), (7, 2)]⟩ (.node (.node (.node .nil 27 ⟨(.sl 121 6), 1, 24, 121, []⟩ .nil) 29 ⟨(.agg [(.i .i64), (.i .i64), (.i .i64), (.sl 159 4), (.i .i64), (.i .i64), .b, (.i .i64), (.sl 121 6)]), 9, 104, 0, [(0, 26), (8, 27)]⟩ .nil) 32 ⟨(.agg [(.i .i64), (.i .i64), (.i .i64)]), 3, 24, 0, [(0, 2), (1, 2), (2, 2)]⟩ (.node (.node .nil 33 ⟨(.sl 130 4), 1, 24, 130, []⟩ .nil) 35 ⟨(.agg [(.i .i64), (.i .i64), (.i .i64), (.sl 130 4), (.i .i64), (.i .i64), .b, (.i .i64)]), 8, 80, 0, [(0, 32), (3, 33), (4, 2), (5, 2), (6, 4), (7, 2)]⟩ .nil))) 36 ⟨(.sl 124 6), 1, 24, 124, []⟩ (.node (.node (.node (.node .nil 38 ⟨(.agg [(.i .i64), (.i .i64), (.i .i64), (.sl 130 4), (.i .i64), (.i .i64), .b, (.i .i64), (.sl 124 6)]), 9, 104, 0, [(0, 35), (8, 36)]⟩ .nil) 55 ⟨(.sl 2 1), 1, 24, 2, []⟩ (.node .nil 87 ⟨.pt, 1, 8, 0, []⟩ .nil)) 119 ⟨(.sl 9 1), 1, 24, 9, []⟩ (.node (.node .nil 121 ⟨(.agg [(.i .i64), (.sl 2 1), (.i .i64), (.i .i64), (.sl 2 1), (.sl 9 1)]), 6, 96, 0, [(0, 2), (1, 55), (2, 2), (3, 2), (4, 55), (5, 119)]⟩ .nil) 124 ⟨(.agg [(.i .i64), (.sl 2 1), (.i .i64), (.i .i64), (.sl 2 1), (.sl 9 1)]), 6, 96, 0, [(0, 2), (1, 55), (2, 2), (3, 2), (4, 55), (5, 119)]⟩ .nil)) 130 ⟨(.agg [(.i .i64), (.i .i64), .b, (.sl 9 1)]), 4, 48, 0, [(0, 2), (1, 2), (2, 4), (3, 119)]⟩ (.node (.node (.node .nil 134 ⟨.fn, 1, 8, 0, [(2, 4)]⟩ .nil) 139 ⟨.fn, 1, 8, 0, []⟩ .nil) 159 ⟨(.agg [(.i .i64), (.i .i64), .b, (.sl 9 1)]), 4, 48, 0, [(0, 2), (1, 2), (2, 4), (3, 119)]⟩ (.node (.node .nil 168 ⟨.fn, 1, 8, 0, []⟩ .nil) 176 ⟨.fn, 1, 8, 0, []⟩ .nil))))
noncomputable def fi3 : FI := mkFI Try.f3 .b [] [] []
noncomputable def fi10 : FI := mkFI Try.f10 (.i .i64) [] [] []
noncomputable def fi11 : FI := mkFI Try.f11 (.i .i64) [] [] []
noncomputable def fi12 : FI := mkFI Try.f12 (.agg [(.i .i64), (.i .i64), (.i .i64), (.sl 130 4), (.i .i64), (.i .i64), .b, (.i .i64), (.sl 124 6)]) [] [] []
noncomputable def fi13 : FI := mkFI Try.f13 (.i .i64) [] [] []
noncomputable def fi14 : FI := mkFI Try.f14 .b [] [] []
noncomputable def fi27 : FI := mkFI Try.f27 (.sl 2 1) [(3, [0, 3, 4], 2)] [] []
noncomputable def fi29 : FI := mkFI Try.f29 .b [(4, [0, 1, 5], 0)] [] []
noncomputable def fi47 : FI := mkFI Try.f47 (.i .i64) [] [] []
noncomputable def fi48 : FI := mkFI Try.f48 (.i .i64) [(5, [0, 1, 5], 0)] [] []
noncomputable def fi49 : FI := mkFI Try.f49 .b [(5, [1, 3, 4], 2), (11, [1, 3, 4, 5, 6], 3)] [] []
noncomputable def fi50 : FI := mkFI Try.f50 .b [] [] []
noncomputable def fi51 : FI := mkFI Try.f51 (.i .i64) [(3, [0, 1, 5, 6], 0)] [] []
noncomputable def fi52 : FI := mkFI Try.f52 (.agg [(.i .i64), (.i .i64), (.i .i64), (.sl 130 4), (.i .i64), (.i .i64), .b, (.i .i64)]) [] [] []
noncomputable def fi53 : FI := mkFI Try.f53 (.sl 124 6) [(3, [0, 3, 4], 2)] [] []
noncomputable def fi54 : FI := mkFI Try.f54 .b [(5, [1, 3, 26, 27, 28], 2), (10, [1, 3, 26, 27, 28, 46, 47, 48], 2)] [] []
noncomputable def fi55 : FI := mkFI Try.f55 .b [] [] []
noncomputable def fi56 : FI := mkFI Try.f56 (.i .i64) [(3, [0, 5, 15, 16, 17], 0)] [] []
noncomputable def fi57 : FI := mkFI Try.f57 .b [] [] []
noncomputable def fi58 : FI := mkFI Try.f58 .b [(4, [0, 1, 5], 0)] [] []
noncomputable def fi89 : FI := mkFI Try.f89 (.i .i64) [(5, [0, 1, 5], 0)] [] []
noncomputable def fi90 : FI := mkFI Try.f90 (.i .i64) [] [] []
noncomputable def fi91 : FI := mkFI Try.f91 .b [(4, [1, 3], 1)] [] []
noncomputable def fi92 : FI := mkFI Try.f92 (.i .i64) [] [] []
noncomputable def fi93 : FI := mkFI Try.f93 .b [(4, [2, 3, 5], 2)] [] []
noncomputable def fi94 : FI := mkFI Try.f94 .b [(4, [2, 3, 5], 2), (9, [3, 6], 2)] [] []
noncomputable def fi95 : FI := mkFI Try.f95 .b [(14, [2, 3, 5], 2), (15, [2, 3, 5, 6], 2)] [] []
noncomputable def fi96 : FI := mkFI Try.f96 .b [(2, [0, 1, 5], 0)] [] []
noncomputable def fi97 : FI := mkFI Try.f97 .b [] [] []
noncomputable def fi98 : FI := mkFI Try.f98 (.agg [(.i .i64), (.i .i64), (.i .i64)]) [] [] []
noncomputable def fi99 : FI := mkFI Try.f99 (.sl 130 4) [(3, [0, 3, 4], 2)] [] []
noncomputable def fi100 : FI := mkFI Try.f100 (.agg [(.i .i64), (.sl 2 1), (.i .i64), (.i .i64), (.sl 2 1), (.sl 9 1)]) [] [] []
noncomputable def fi101 : FI := mkFI Try.f101 .b [] [] []
noncomputable def fi102 : FI := mkFI Try.f102 .b [] [] []
noncomputable def fi103 : FI := mkFI Try.f103 .b [(4, [0, 19, 20, 21], 0)] [] []
noncomputable def fi104 : FI := mkFI Try.f104 .b [] [] []
noncomputable def fi105 : FI := mkFI Try.f105 .b [] [] []
noncomputable def fi106 : FI := mkFI Try.f106 .b [] [] []
noncomputable def fi107 : FI := mkFI Try.f107 .b [(4, [0, 1, 5], 0)] [] []
noncomputable def fi108 : FI := mkFI Try.f108 .b [] [] []
noncomputable def fi120 : FI := mkFI Try.f120 .b [] [] []
noncomputable def fi139 : FI := mkFI Try.f139 (.i .i64) [] [] []
noncomputable def fi142 : FI := mkFI Try.f142 (.i .i64) [] [] []
noncomputable def fi143 : FI := mkFI Try.f143 (.i .i64) [(5, [0, 1, 5], 0)] [] []
noncomputable def fi144 : FI := mkFI Try.f144 .b [] [] []
noncomputable def fi145 : FI := mkFI Try.f145 .b [(4, [1, 2, 5], 1), (5, [1, 2, 5], 1)] [] []
noncomputable def fi146 : FI := mkFI Try.f146 (.i .i64) [(3, [0, 3, 4], 0)] [] []
noncomputable def fi147 : FI := mkFI Try.f147 (.agg [(.i .i64), (.i .i64), .b, (.sl 9 1)]) [] [] []
noncomputable def fi148 : FI := mkFI Try.f148 (.sl 9 1) [(3, [0, 3, 4], 2)] [] []
noncomputable def fi149 : FI := mkFI Try.f149 .b [] [] []
noncomputable def fi150 : FI := mkFI Try.f150 (.i .i64) [] [] []
noncomputable def fi151 : FI := mkFI Try.f151 .b [] [] []
noncomputable def fi152 : FI := mkFI Try.f152 .b [] [] []
noncomputable def fi153 : FI := mkFI Try.f153 .b [(4, [3, 28, 29, 30], 2), (8, [3, 28, 29, 30], 2)] [] []
noncomputable def fi154 : FI := mkFI Try.f154 (.i .i64) [] [] []
noncomputable def fi155 : FI := mkFI Try.f155 (.i .i64) [(3, [3, 6, 7, 8], 0)] [] []
noncomputable def fi156 : FI := mkFI Try.f156 .b [] [] []
noncomputable def fi157 : FI := mkFI Try.f157 .b [] [] []
noncomputable def fi158 : FI := mkFI Try.f158 .b [] [] []
noncomputable def fi159 : FI := mkFI Try.f159 .b [] [] []
noncomputable def fi160 : FI := mkFI Try.f160 .b [(4, [0, 1, 5], 0)] [] []
noncomputable def fi166 : FI := mkFI Try.f166 .b [] [] []
noncomputable def fi167 : FI := mkFI Try.f167 .b [] [] []
noncomputable def fi176 : FI := mkFI Try.f176 (.i .i64) [(2, [0, 1, 7, 8], 0)] [] []
noncomputable def fi177 : FI := mkFI Try.f177 (.i .i64) [(2, [0, 1, 7, 8], 0)] [] []
noncomputable def fi178 : FI := mkFI Try.f178 .b [] [] []
noncomputable def fi179 : FI := mkFI Try.f179 (.i .i64) [(2, [0, 1, 7, 8], 0)] [] []
noncomputable def fns : BT FI := (.node (.node (.node (.node (.node (.node (.node .nil 3 fi3 .nil) 10 fi10 .nil) 11 fi11 (.node .nil 12 fi12 .nil)) 13 fi13 (.node (.node .nil 14 fi14 .nil) 27 fi27 (.node .nil 29 fi29 .nil))) 47 fi47 (.node (.node (.node .nil 48 fi48 .nil) 49 fi49 (.node .nil 50 fi50 .nil)) 51 fi51 (.node (.node .nil 52 fi52 .nil) 53 fi53 (.node .nil 54 fi54 .nil)))) 55 fi55 (.node (.node (.node (.node (.node .nil 56 fi56 .nil) 57 fi57 .nil) 58 fi58 (.node .nil 89 fi89 .nil)) 90 fi90 (.node (.node .nil 91 fi91 .nil) 92 fi92 (.node .nil 93 fi93 .nil))) 94 fi94 (.node (.node (.node .nil 95 fi95 .nil) 96 fi96 (.node .nil 97 fi97 .nil)) 98 fi98 (.node (.node .nil 99 fi99 .nil) 100 fi100 (.node .nil 101 fi101 .nil))))) 102 fi102 (.node (.node (.node (.node (.node (.node .nil 103 fi103 .nil) 104 fi104 .nil) 105 fi105 (.node .nil 106 fi106 .nil)) 107 fi107 (.node (.node .nil 108 fi108 .nil) 120 fi120 (.node .nil 139 fi139 .nil))) 142 fi142 (.node (.node (.node .nil 143 fi143 .nil) 144 fi144 (.node .nil 145 fi145 .nil)) 146 fi146 (.node (.node .nil 147 fi147 .nil) 148 fi148 (.node .nil 149 fi149 .nil)))) 150 fi150 (.node (.node (.node (.node (.node .nil 151 fi151 .nil) 152 fi152 .nil) 153 fi153 (.node .nil 154 fi154 .nil)) 155 fi155 (.node (.node .nil 156 fi156 .nil) 157 fi157 (.node .nil 158 fi158 .nil))) 159 fi159 (.node (.node (.node .nil 160 fi160 .nil) 166 fi166 (.node .nil 167 fi167 .nil)) 176 fi176 (.node (.node .nil 177 fi177 .nil) 178 fi178 (.node .nil 179 fi179 .nil))))))
theorem ty_ok : tys.all (tyOk Try.prog) = true := by kernel_rfl
noncomputable def pos : BT (List AV → List Root → Option (AV × List Root)) := .nil
noncomputable def prs : BT (List AV → Option AV) := .nil
noncomputable def E : Env := ⟨tys.get, fns.get, prs.get, pos.get⟩
theorem fn_ok : fns.All (FnOk Try.prog) := ⟨⟨⟨⟨⟨⟨⟨trivial, fnOk_mk Try.func3 (by kernel_rfl), trivial⟩, fnOk_mk Try.func10 (by kernel_rfl), trivial⟩, fnOk_mk Try.func11 (by kernel_rfl), ⟨trivial, fnOk_mk Try.func12 (by kernel_rfl), trivial⟩⟩, fnOk_mk Try.func13 (by kernel_rfl), ⟨⟨trivial, fnOk_mk Try.func14 (by kernel_rfl), trivial⟩, fnOk_mk Try.func27 (by kernel_rfl), ⟨trivial, fnOk_mk Try.func29 (by kernel_rfl), trivial⟩⟩⟩, fnOk_mk Try.func47 (by kernel_rfl), ⟨⟨⟨trivial, fnOk_mk Try.func48 (by kernel_rfl), trivial⟩, fnOk_mk Try.func49 (by kernel_rfl), ⟨trivial, fnOk_mk Try.func50 (by kernel_rfl), trivial⟩⟩, fnOk_mk Try.func51 (by kernel_rfl), ⟨⟨trivial, fnOk_mk Try.func52 (by kernel_rfl), trivial⟩, fnOk_mk Try.func53 (by kernel_rfl), ⟨trivial, fnOk_mk Try.func54 (by kernel_rfl), trivial⟩⟩⟩⟩, fnOk_mk Try.func55 (by kernel_rfl), ⟨⟨⟨⟨⟨trivial, fnOk_mk Try.func56 (by kernel_rfl), trivial⟩, fnOk_mk Try.func57 (by kernel_rfl), trivial⟩, fnOk_mk Try.func58 (by kernel_rfl), ⟨trivial, fnOk_mk Try.func89 (by kernel_rfl), trivial⟩⟩, fnOk_mk Try.func90 (by kernel_rfl), ⟨⟨trivial, fnOk_mk Try.func91 (by kernel_rfl), trivial⟩, fnOk_mk Try.func92 (by kernel_rfl), ⟨trivial, fnOk_mk Try.func93 (by kernel_rfl), trivial⟩⟩⟩, fnOk_mk Try.func94 (by kernel_rfl), ⟨⟨⟨trivial, fnOk_mk Try.func95 (by kernel_rfl), trivial⟩, fnOk_mk Try.func96 (by kernel_rfl), ⟨trivial, fnOk_mk Try.func97 (by kernel_rfl), trivial⟩⟩, fnOk_mk Try.func98 (by kernel_rfl), ⟨⟨trivial, fnOk_mk Try.func99 (by kernel_rfl), trivial⟩, fnOk_mk Try.func100 (by kernel_rfl), ⟨trivial, fnOk_mk Try.func101 (by kernel_rfl), trivial⟩⟩⟩⟩⟩, fnOk_mk Try.func102 (by kernel_rfl), ⟨⟨⟨⟨⟨⟨trivial, fnOk_mk Try.func103 (by kernel_rfl), trivial⟩, fnOk_mk Try.func104 (by kernel_rfl), trivial⟩, fnOk_mk Try.func105 (by kernel_rfl), ⟨trivial, fnOk_mk Try.func106 (by kernel_rfl), trivial⟩⟩, fnOk_mk Try.func107 (by kernel_rfl), ⟨⟨trivial, fnOk_mk Try.func108 (by kernel_rfl), trivial⟩, fnOk_mk Try.func120 (by kernel_rfl), ⟨trivial, fnOk_mk Try.func139 (by kernel_rfl), trivial⟩⟩⟩, fnOk_mk Try.func142 (by kernel_rfl), ⟨⟨⟨trivial, fnOk_mk Try.func143 (by kernel_rfl), trivial⟩, fnOk_mk Try.func144 (by kernel_rfl), ⟨trivial, fnOk_mk Try.func145 (by kernel_rfl), trivial⟩⟩, fnOk_mk Try.func146 (by kernel_rfl), ⟨⟨trivial, fnOk_mk Try.func147 (by kernel_rfl), trivial⟩, fnOk_mk Try.func148 (by kernel_rfl), ⟨trivial, fnOk_mk Try.func149 (by kernel_rfl), trivial⟩⟩⟩⟩, fnOk_mk Try.func150 (by kernel_rfl), ⟨⟨⟨⟨⟨trivial, fnOk_mk Try.func151 (by kernel_rfl), trivial⟩, fnOk_mk Try.func152 (by kernel_rfl), trivial⟩, fnOk_mk Try.func153 (by kernel_rfl), ⟨trivial, fnOk_mk Try.func154 (by kernel_rfl), trivial⟩⟩, fnOk_mk Try.func155 (by kernel_rfl), ⟨⟨trivial, fnOk_mk Try.func156 (by kernel_rfl), trivial⟩, fnOk_mk Try.func157 (by kernel_rfl), ⟨trivial, fnOk_mk Try.func158 (by kernel_rfl), trivial⟩⟩⟩, fnOk_mk Try.func159 (by kernel_rfl), ⟨⟨⟨trivial, fnOk_mk Try.func160 (by kernel_rfl), trivial⟩, fnOk_mk Try.func166 (by kernel_rfl), ⟨trivial, fnOk_mk Try.func167 (by kernel_rfl), trivial⟩⟩, fnOk_mk Try.func176 (by kernel_rfl), ⟨⟨trivial, fnOk_mk Try.func177 (by kernel_rfl), trivial⟩, fnOk_mk Try.func178 (by kernel_rfl), ⟨trivial, fnOk_mk Try.func179 (by kernel_rfl), trivial⟩⟩⟩⟩⟩⟩
theorem pr_ok : prs.All (PrOk Try.prog) := trivial
theorem po_ok : pos.All (PoOk Try.prog) := trivial
theorem env : EnvOk Try.prog E := ⟨fun t ti h => tys.get_all ty_ok h, fun g fi h => fns.get_All fn_ok h, by kernel_rfl, fun g p h => prs.get_All pr_ok h, fun g p h => pos.get_All po_ok h⟩
theorem ty2 : E.Γ 2 = some ⟨(.i .i64), 1, 8, 0, []⟩ := by kernel_rfl
theorem ty29 : E.Γ 29 = some ⟨(.agg [(.i .i64), (.i .i64), (.i .i64), (.sl 159 4), (.i .i64), (.i .i64), .b, (.i .i64), (.sl 121 6)]), 9, 104, 0, [(0, 26), (8, 27)]⟩ := by kernel_rfl
theorem fn3 : E.Φ 3 = some fi3 := by kernel_rfl
end Go.Proofs.Ytokpbjbngnlepaa.IWearOfZone
