/- Printed by a program of this work (wip/it/itp.py): the tables of types and functions. No condition. -/
import Derived.Test.YtinjfceidedcnaaChecked
import Derived.Test.YtinjfceidedcnaaIt7
import Derived.Lib.Walk
import Derived.Lib.Strings
import Derived.Lib.Slices
namespace Go.Proofs.Ytinjfceidedcnaa.IKeyRange
open Go Go.Proofs.YtinjfceidedcnaaIT
set_option linter.unusedVariables false
noncomputable def tys : BT TI := (.node (.node (.node (.node .nil 2 ⟨(.i .i64), 1, 8, 0, []⟩ .nil) 3 ⟨(.i .i64), 1, 8, 0, []⟩ .nil) 4 ⟨.b, 1, 1, 0, []⟩ (.node (.node .nil 9 ⟨.s, 1, 16, 0, []⟩ .nil) 22 ⟨(.sl 53 5), 1, 24, 53, []⟩ .nil)) 26 ⟨(.sl 57 5), 1, 24, 57, []⟩ (.node (.node (.node .nil 53 ⟨(.agg [.s, (.i .i64), (.i .i64), .s, .s]), 5, 64, 0, [(0, 9), (1, 2), (2, 2), (3, 9), (4, 9)]⟩ .nil) 57 ⟨(.agg [.s, (.i .i64), (.i .i64), .s, .s]), 5, 64, 0, [(0, 9), (1, 2), (2, 2), (3, 9), (4, 9)]⟩ .nil) 109 ⟨.fn, 1, 8, 0, [(2, 4)]⟩ (.node .nil 171 ⟨(.sl 3 1), 1, 24, 3, []⟩ .nil)))
noncomputable def fi3 : FI := mkFI Try.f3 .b [] [] []
noncomputable def fi12 : FI := mkFI Try.f12 (.i .i64) [(5, [0, 1, 5], 0)] [] []
noncomputable def fi13 : FI := mkFI Try.f13 (.tup [.s, .s]) [] [] []
noncomputable def fi14 : FI := mkFI Try.f14 (.sl 57 5) [(3, [0, 3, 4], 2)] [] []
noncomputable def fi15 : FI := mkFI Try.f15 (.tup [.s, .s]) [] [] []
noncomputable def fi16 : FI := mkFI Try.f16 .b [(4, [0, 1, 5], 0)] [] []
noncomputable def fi38 : FI := mkFI Try.f38 (.i .i64) [] [] []
noncomputable def fi40 : FI := mkFI Try.f40 (.agg [.s, (.i .i64), (.i .i64), .s, .s]) [] [] []
noncomputable def fi49 : FI := mkFI Try.f49 .b [] [] []
noncomputable def fi50 : FI := mkFI Try.f50 (.tup [.s, .s]) [(3, [0, 4, 5], 0), (4, [0, 4, 5], 0)] [] []
noncomputable def fi51 : FI := mkFI Try.f51 .b [(3, [0, 3, 7, 8, 9], 1), (7, [0, 3, 5, 7, 8, 9], 2)] [] []
noncomputable def fi52 : FI := mkFI Try.f52 (.tup [.s, .s]) [(3, [0, 4, 7, 8, 9], 0)] [] []
noncomputable def fi53 : FI := mkFI Try.f53 .b [] [] []
noncomputable def fi54 : FI := mkFI Try.f54 .b [(2, [0, 3], 0), (6, [0, 3], 0), (7, [0, 3, 4], 0)] [] []
noncomputable def fi55 : FI := mkFI Try.f55 .b [] [] []
noncomputable def fi57 : FI := mkFI Try.f57 .b [] [] []
noncomputable def fi72 : FI := mkFI Try.f72 .b [] [] []
noncomputable def fi75 : FI := mkFI Try.f75 .b [] [] []
noncomputable def fi94 : FI := mkFI Try.f94 .s [] [] []
noncomputable def fi95 : FI := mkFI Try.f95 .b [] [] []
noncomputable def fi96 : FI := mkFI Try.f96 .s [] [] []
noncomputable def fi97 : FI := mkFI Try.f97 .b [] [] []
noncomputable def fi99 : FI := mkFI Try.f99 .b [] [] []
noncomputable def fi103 : FI := mkFI Try.f103 .b [] [] []
noncomputable def fi110 : FI := mkFI Try.f110 .b [] [] []
noncomputable def fi121 : FI := mkFI Try.f121 (.i .i64) [] [] []
noncomputable def fi151 : FI := mkFI Try.f151 (.i .i64) [(3, [3, 6, 7, 8], 0)] [] []
noncomputable def fi152 : FI := mkFI Try.f152 (.i .i64) [] [] []
noncomputable def fi153 : FI := mkFI Try.f153 (.i .i64) [] [] []
noncomputable def fi175 : FI := mkFI Try.f175 (.i .i64) [] [] []
noncomputable def fi176 : FI := mkFI Try.f176 .b [] [] []
noncomputable def fns : BT FI := (.node (.node (.node (.node (.node .nil 3 fi3 .nil) 12 fi12 (.node .nil 13 fi13 .nil)) 14 fi14 (.node (.node .nil 15 fi15 .nil) 16 fi16 (.node .nil 38 fi38 .nil))) 40 fi40 (.node (.node (.node .nil 49 fi49 .nil) 50 fi50 (.node .nil 51 fi51 .nil)) 52 fi52 (.node (.node .nil 53 fi53 .nil) 54 fi54 (.node .nil 55 fi55 .nil)))) 57 fi57 (.node (.node (.node (.node .nil 72 fi72 .nil) 75 fi75 (.node .nil 94 fi94 .nil)) 95 fi95 (.node (.node .nil 96 fi96 .nil) 97 fi97 (.node .nil 99 fi99 .nil))) 103 fi103 (.node (.node (.node .nil 110 fi110 .nil) 121 fi121 (.node .nil 151 fi151 .nil)) 152 fi152 (.node (.node .nil 153 fi153 .nil) 175 fi175 (.node .nil 176 fi176 .nil)))))
theorem ty_ok : tys.all (tyOk Try.prog) = true := by kernel_rfl
set_option maxHeartbeats 1000000 in
set_option maxRecDepth 100000 in
theorem pr175 : PrOk Try.prog 175 prCmp := by
  refine prCmp_ok ?_
  intro a b w
  go_enter Try.func175, Try.ntmps175
  go_wp2
  rw [run_callFunc_extern Try.func181 (by kernel_rfl) (by kernel_rfl) (by kernel_rfl) (e := Extern.BytealgCompare.compare) (by kernel_rfl), Lib.run_compareString]
  simp only [Result.andThen]
  rw [Oper.upon_value]
  go_wp2
  go_ret
  exact ⟨rfl, rfl⟩
noncomputable def pos : BT (List AV → List Root → Option (AV × List Root)) := .nil
noncomputable def prs : BT (List AV → Option AV) := (.node .nil 175 prCmp .nil)
noncomputable def E : Env := ⟨tys.get, fns.get, prs.get, pos.get⟩
theorem fn_ok : fns.All (FnOk Try.prog) := ⟨⟨⟨⟨⟨trivial, fnOk_mk Try.func3 (by kernel_rfl), trivial⟩, fnOk_mk Try.func12 (by kernel_rfl), ⟨trivial, fnOk_mk Try.func13 (by kernel_rfl), trivial⟩⟩, fnOk_mk Try.func14 (by kernel_rfl), ⟨⟨trivial, fnOk_mk Try.func15 (by kernel_rfl), trivial⟩, fnOk_mk Try.func16 (by kernel_rfl), ⟨trivial, fnOk_mk Try.func38 (by kernel_rfl), trivial⟩⟩⟩, fnOk_mk Try.func40 (by kernel_rfl), ⟨⟨⟨trivial, fnOk_mk Try.func49 (by kernel_rfl), trivial⟩, fnOk_mk Try.func50 (by kernel_rfl), ⟨trivial, fnOk_mk Try.func51 (by kernel_rfl), trivial⟩⟩, fnOk_mk Try.func52 (by kernel_rfl), ⟨⟨trivial, fnOk_mk Try.func53 (by kernel_rfl), trivial⟩, fnOk_mk Try.func54 (by kernel_rfl), ⟨trivial, fnOk_mk Try.func55 (by kernel_rfl), trivial⟩⟩⟩⟩, fnOk_mk Try.func57 (by kernel_rfl), ⟨⟨⟨⟨trivial, fnOk_mk Try.func72 (by kernel_rfl), trivial⟩, fnOk_mk Try.func75 (by kernel_rfl), ⟨trivial, fnOk_mk Try.func94 (by kernel_rfl), trivial⟩⟩, fnOk_mk Try.func95 (by kernel_rfl), ⟨⟨trivial, fnOk_mk Try.func96 (by kernel_rfl), trivial⟩, fnOk_mk Try.func97 (by kernel_rfl), ⟨trivial, fnOk_mk Try.func99 (by kernel_rfl), trivial⟩⟩⟩, fnOk_mk Try.func103 (by kernel_rfl), ⟨⟨⟨trivial, fnOk_mk Try.func110 (by kernel_rfl), trivial⟩, fnOk_mk Try.func121 (by kernel_rfl), ⟨trivial, fnOk_mk Try.func151 (by kernel_rfl), trivial⟩⟩, fnOk_mk Try.func152 (by kernel_rfl), ⟨⟨trivial, fnOk_mk Try.func153 (by kernel_rfl), trivial⟩, fnOk_mk Try.func175 (by kernel_rfl), ⟨trivial, fnOk_mk Try.func176 (by kernel_rfl), trivial⟩⟩⟩⟩⟩
theorem pr_ok : prs.All (PrOk Try.prog) := ⟨trivial, pr175, trivial⟩
theorem po_ok : pos.All (PoOk Try.prog) := trivial
theorem env : EnvOk Try.prog E := ⟨fun t ti h => tys.get_all ty_ok h, fun g fi h => fns.get_All fn_ok h, by kernel_rfl, fun g p h => prs.get_All pr_ok h, fun g p h => pos.get_All po_ok h⟩
theorem ty22 : E.Γ 22 = some ⟨(.sl 53 5), 1, 24, 53, []⟩ := by kernel_rfl
theorem ty53 : E.Γ 53 = some ⟨(.agg [.s, (.i .i64), (.i .i64), .s, .s]), 5, 64, 0, [(0, 9), (1, 2), (2, 2), (3, 9), (4, 9)]⟩ := by kernel_rfl
theorem fn3 : E.Φ 3 = some fi3 := by kernel_rfl
end Go.Proofs.Ytinjfceidedcnaa.IKeyRange
