/- Printed by a program of this work (wip/it/itp.py): the tables of types and functions. No condition. -/
import Derived.Test.YthlmjmejnlalaaaChecked
import Derived.Test.YthlmjmejnlalaaaIt3
import Derived.Lib.Walk
import Derived.Lib.Strings
import Derived.Lib.Slices
namespace Go.Proofs.Ythlmjmejnlalaaa.IPotentialOf
open Go Go.Proofs.YthlmjmejnlalaaaIT
set_option linter.unusedVariables false
noncomputable def tys : BT TI := (.node (.node (.node (.node .nil 2 ⟨(.i .i64), 1, 8, 0, []⟩ .nil) 3 ⟨(.i .i64), 1, 8, 0, []⟩ (.node .nil 4 ⟨.b, 1, 1, 0, []⟩ .nil)) 9 ⟨.s, 1, 16, 0, []⟩ (.node (.node .nil 35 ⟨(.sl 176 10), 1, 24, 176, []⟩ .nil) 40 ⟨(.sl 118 10), 1, 24, 118, []⟩ (.node .nil 69 ⟨(.agg [(.i .i64), (.i .i64), (.i .i64), (.sl 176 10)]), 4, 48, 0, [(0, 2), (1, 2), (2, 2), (3, 35)]⟩ .nil))) 73 ⟨(.agg [(.i .i64), (.i .i64), (.i .i64), (.sl 118 10)]), 4, 48, 0, [(0, 2), (1, 2), (2, 2), (3, 40)]⟩ (.node (.node (.node .nil 118 ⟨(.agg [(.i .i64), (.i .i64), (.i .i64), (.i .i64), (.i .i64), .s, .s, (.i .i64), (.i .i64), (.i .i64)]), 10, 96, 0, [(0, 2), (1, 2), (2, 2), (3, 2), (4, 2), (5, 9), (6, 9), (7, 2), (8, 2), (9, 2)]⟩ .nil) 119 ⟨.fn, 1, 8, 0, []⟩ (.node .nil 144 ⟨.pt, 1, 8, 0, []⟩ .nil)) 176 ⟨(.agg [(.i .i64), (.i .i64), (.i .i64), (.i .i64), (.i .i64), .s, .s, (.i .i64), (.i .i64), (.i .i64)]), 10, 96, 0, [(0, 2), (1, 2), (2, 2), (3, 2), (4, 2), (5, 9), (6, 9), (7, 2), (8, 2), (9, 2)]⟩ (.node (.node .nil 178 ⟨.pt, 1, 8, 0, []⟩ .nil) 226 ⟨(.sl 3 1), 1, 24, 3, []⟩ .nil)))
noncomputable def fi12 : FI := mkFI Try.f12 .b []
noncomputable def fi40 : FI := mkFI Try.f40 (.i .i64) []
noncomputable def fi42 : FI := mkFI Try.f42 (.agg [(.i .i64), (.i .i64), (.i .i64), (.sl 118 10)]) []
noncomputable def fi43 : FI := mkFI Try.f43 .b []
noncomputable def fi44 : FI := mkFI Try.f44 .b []
noncomputable def fi54 : FI := mkFI Try.f54 (.i .i64) [(5, [1, 3, 4], 1)]
noncomputable def fi55 : FI := mkFI Try.f55 (.i .i64) [(5, [3, 10, 11, 12], 0)]
noncomputable def fi72 : FI := mkFI Try.f72 .b []
noncomputable def fi78 : FI := mkFI Try.f78 (.i .i64) [(5, [0, 1, 5], 0)]
noncomputable def fi80 : FI := mkFI Try.f80 (.sl 118 10) [(3, [0, 3, 4], 2)]
noncomputable def fi81 : FI := mkFI Try.f81 .b []
noncomputable def fi84 : FI := mkFI Try.f84 .b [(4, [0, 1, 5], 0)]
noncomputable def fi90 : FI := mkFI Try.f90 .b []
noncomputable def fi104 : FI := mkFI Try.f104 .b [(4, [0, 3], 0), (9, [0, 3, 4], 0), (10, [0, 3, 4, 5], 0)]
noncomputable def fi105 : FI := mkFI Try.f105 .b [(2, [1, 7, 8, 9], 1), (10, [1, 7, 8, 9], 1)]
noncomputable def fi141 : FI := mkFI Try.f141 (.i .i64) []
noncomputable def fi142 : FI := mkFI Try.f142 .b []
noncomputable def fi143 : FI := mkFI Try.f143 (.agg [(.i .i64), (.i .i64), (.i .i64), (.i .i64), (.i .i64), .s, .s, (.i .i64), (.i .i64), (.i .i64)]) []
noncomputable def fi146 : FI := mkFI Try.f146 .b []
noncomputable def fi157 : FI := mkFI Try.f157 .b []
noncomputable def fi158 : FI := mkFI Try.f158 .b []
noncomputable def fi159 : FI := mkFI Try.f159 .b []
noncomputable def fi160 : FI := mkFI Try.f160 (.i .i64) [(3, [2, 3], 2)]
noncomputable def fi196 : FI := mkFI Try.f196 (.i .i64) [(2, [0, 1, 7, 8], 0)]
noncomputable def fi197 : FI := mkFI Try.f197 (.i .i64) []
noncomputable def fi198 : FI := mkFI Try.f198 (.i .i64) [(3, [3, 6, 7, 8], 0)]
noncomputable def fi199 : FI := mkFI Try.f199 (.i .i64) []
noncomputable def fi211 : FI := mkFI Try.f211 .b []
noncomputable def fi212 : FI := mkFI Try.f212 (.i .i64) []
noncomputable def fns : BT FI := (.node (.node (.node (.node (.node .nil 12 fi12 .nil) 40 fi40 (.node .nil 42 fi42 .nil)) 43 fi43 (.node (.node .nil 44 fi44 .nil) 54 fi54 (.node .nil 55 fi55 .nil))) 72 fi72 (.node (.node (.node .nil 78 fi78 .nil) 80 fi80 (.node .nil 81 fi81 .nil)) 84 fi84 (.node (.node .nil 90 fi90 .nil) 104 fi104 .nil))) 105 fi105 (.node (.node (.node (.node .nil 141 fi141 .nil) 142 fi142 (.node .nil 143 fi143 .nil)) 146 fi146 (.node (.node .nil 157 fi157 .nil) 158 fi158 (.node .nil 159 fi159 .nil))) 160 fi160 (.node (.node (.node .nil 196 fi196 .nil) 197 fi197 (.node .nil 198 fi198 .nil)) 199 fi199 (.node (.node .nil 211 fi211 .nil) 212 fi212 .nil))))
set_option maxHeartbeats 1000000 in
set_option maxRecDepth 100000 in
theorem pr212 : PrOk Try.prog 212 prCmp := by
  refine prCmp_ok ?_
  intro a b w
  go_enter Try.func212, Try.ntmps212
  go_wp2
  rw [run_callFunc_extern Try.func223 (by kernel_rfl) (by kernel_rfl) (by kernel_rfl) (e := Extern.BytealgCompare.compare) (by kernel_rfl), Lib.run_compareString]
  simp only [Result.andThen]
  rw [Oper.upon_value]
  go_wp2
  go_ret
  exact ⟨rfl, rfl⟩
noncomputable def prs : BT (List AV → Option AV) := (.node .nil 212 prCmp .nil)
noncomputable def E : Env := ⟨tys.get, fns.get, prs.get⟩
theorem ty_ok : tys.all (tyOk Try.prog) = true := by kernel_rfl
theorem fn_ok : fns.All (FnOk Try.prog) := ⟨⟨⟨⟨⟨trivial, fnOk_mk Try.func12 (by kernel_rfl), trivial⟩, fnOk_mk Try.func40 (by kernel_rfl), ⟨trivial, fnOk_mk Try.func42 (by kernel_rfl), trivial⟩⟩, fnOk_mk Try.func43 (by kernel_rfl), ⟨⟨trivial, fnOk_mk Try.func44 (by kernel_rfl), trivial⟩, fnOk_mk Try.func54 (by kernel_rfl), ⟨trivial, fnOk_mk Try.func55 (by kernel_rfl), trivial⟩⟩⟩, fnOk_mk Try.func72 (by kernel_rfl), ⟨⟨⟨trivial, fnOk_mk Try.func78 (by kernel_rfl), trivial⟩, fnOk_mk Try.func80 (by kernel_rfl), ⟨trivial, fnOk_mk Try.func81 (by kernel_rfl), trivial⟩⟩, fnOk_mk Try.func84 (by kernel_rfl), ⟨⟨trivial, fnOk_mk Try.func90 (by kernel_rfl), trivial⟩, fnOk_mk Try.func104 (by kernel_rfl), trivial⟩⟩⟩, fnOk_mk Try.func105 (by kernel_rfl), ⟨⟨⟨⟨trivial, fnOk_mk Try.func141 (by kernel_rfl), trivial⟩, fnOk_mk Try.func142 (by kernel_rfl), ⟨trivial, fnOk_mk Try.func143 (by kernel_rfl), trivial⟩⟩, fnOk_mk Try.func146 (by kernel_rfl), ⟨⟨trivial, fnOk_mk Try.func157 (by kernel_rfl), trivial⟩, fnOk_mk Try.func158 (by kernel_rfl), ⟨trivial, fnOk_mk Try.func159 (by kernel_rfl), trivial⟩⟩⟩, fnOk_mk Try.func160 (by kernel_rfl), ⟨⟨⟨trivial, fnOk_mk Try.func196 (by kernel_rfl), trivial⟩, fnOk_mk Try.func197 (by kernel_rfl), ⟨trivial, fnOk_mk Try.func198 (by kernel_rfl), trivial⟩⟩, fnOk_mk Try.func199 (by kernel_rfl), ⟨⟨trivial, fnOk_mk Try.func211 (by kernel_rfl), trivial⟩, fnOk_mk Try.func212 (by kernel_rfl), trivial⟩⟩⟩⟩
theorem pr_ok : prs.All (PrOk Try.prog) := ⟨trivial, pr212, trivial⟩
theorem env : EnvOk Try.prog E := ⟨fun t ti h => tys.get_all ty_ok h, fun g fi h => fns.get_All fn_ok h, by kernel_rfl, fun g p h => prs.get_All pr_ok h⟩
theorem ty69 : E.Γ 69 = some ⟨(.agg [(.i .i64), (.i .i64), (.i .i64), (.sl 176 10)]), 4, 48, 0, [(0, 2), (1, 2), (2, 2), (3, 35)]⟩ := by kernel_rfl
theorem fn12 : E.Φ 12 = some fi12 := by kernel_rfl
end Go.Proofs.Ythlmjmejnlalaaa.IPotentialOf
