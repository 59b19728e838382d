/- Printed by a program of this work (wip/it/itp.py): the tables of types and functions. No condition. -/
import Derived.Test.YtkpmplggbbiebaaChecked
import Derived.Test.YtkpmplggbbiebaaIt7
import Derived.Test.YtkpmplggbbiebaaItIn
import Derived.Test.YtkpmplggbbiebaaIn114
import Derived.Lib.Walk
import Derived.Lib.Strings
import Derived.Lib.Slices
namespace Go.Proofs.Ytkpmplggbbiebaa.IApplyRecord
open Go Go.Proofs.YtkpmplggbbiebaaIT
set_option linter.unusedVariables false
noncomputable def tys : BT TI := (.node (.node (.node (.node .nil 2 ⟨(.i .i64), 1, 8, 0, []⟩ .nil) 3 ⟨(.i .i64), 1, 8, 0, []⟩ (.node .nil 4 ⟨.b, 1, 1, 0, []⟩ .nil)) 5 ⟨(.i .u8), 1, 1, 0, []⟩ (.node (.node .nil 9 ⟨.s, 1, 16, 0, []⟩ .nil) 61 ⟨(.sl 103 2), 1, 24, 103, []⟩ (.node .nil 63 ⟨(.agg [.s, (.i .i64), (.i .i64), .s, .s]), 5, 64, 0, [(0, 9), (1, 2), (2, 2), (3, 9), (4, 9)]⟩ .nil))) 66 ⟨(.sl 106 2), 1, 24, 106, []⟩ (.node (.node (.node .nil 70 ⟨(.agg [.s, (.i .i64), (.i .i64), .s, .s]), 5, 64, 0, [(0, 9), (1, 2), (2, 2), (3, 9), (4, 9)]⟩ .nil) 103 ⟨(.agg [.s, .s]), 2, 32, 0, [(0, 9), (1, 9)]⟩ (.node .nil 106 ⟨(.agg [.s, .s]), 2, 32, 0, [(0, 9), (1, 9)]⟩ .nil)) 141 ⟨(.sl 5 1), 1, 24, 5, []⟩ (.node (.node .nil 148 ⟨.fn, 1, 8, 0, []⟩ .nil) 152 ⟨.fn, 1, 8, 0, []⟩ (.node .nil 180 ⟨(.i .u64), 1, 8, 0, []⟩ .nil))))
noncomputable def fi5 : FI := mkFI Try.f5 .b [] [] []
noncomputable def fi17 : FI := mkFI Try.f17 (.i .i64) [(5, [0, 1, 5], 0)] [] []
noncomputable def fi18 : FI := mkFI Try.f18 (.i .i64) [] [] []
noncomputable def fi19 : FI := mkFI Try.f19 (.tup [(.sl 106 2), (.i .i64)]) [] [⟨[1, 5, 5, 5, 5, 5], (.tup [(.so 0), (.i .i64)]), [(.row true 106)], [(6, [0, 3, 6, 7, 8], 3), (7, [0, 3, 6, 7, 8], 3), (11, [0, 3, 6, 7, 8], 3), (15, [6], 3)]⟩] []
noncomputable def fi20 : FI := mkFI Try.f20 (.sl 106 2) [] [⟨[1], (.so 0), [(.row true 106)], [(3, [0, 3, 4], 2)]⟩] []
noncomputable def fi21 : FI := mkFI Try.f21 (.agg [.s, (.i .i64), (.i .i64), .s, .s]) [] [] []
noncomputable def fi22 : FI := mkFI Try.f22 (.tup [(.sl 106 2), (.i .i64)]) [] [⟨[1, 5, 5, 5, 5, 5], (.tup [(.pr 0), (.i .i64)]), [(.row true 106)], []⟩] []
noncomputable def fi23 : FI := mkFI Try.f23 .b [(4, [0, 1, 5], 0)] [] []
noncomputable def fi24 : FI := mkFI Try.f24 (.i .i64) [] [⟨[10, 5], (.i .i64), [(.same 106)], [(2, [0, 1, 5], 1)]⟩, ⟨[11, 5], (.i .i64), [(.same 106)], [(2, [0, 1, 5], 1)]⟩] [0]
noncomputable def fi25 : FI := mkFI Try.f25 (.i .i64) [(2, [0, 1, 5], 0)] [] []
noncomputable def fi53 : FI := mkFI Try.f53 .b [] [] []
noncomputable def fi57 : FI := mkFI Try.f57 .b [] [] []
noncomputable def fi59 : FI := mkFI Try.f59 (.i .i64) [] [] []
noncomputable def fi60 : FI := mkFI Try.f60 .b [(2, [0, 3], 0), (3, [0, 3], 0)] [] []
noncomputable def fi61 : FI := mkFI Try.f61 .b [] [] []
noncomputable def fi62 : FI := mkFI Try.f62 .b [] [] []
noncomputable def fi63 : FI := mkFI Try.f63 (.agg [.s, .s]) [] [] []
noncomputable def fi64 : FI := mkFI Try.f64 .b [(2, [0, 5, 6, 7], 0), (6, [0, 5, 6, 7], 0)] [] []
noncomputable def fi65 : FI := mkFI Try.f65 .b [] [] []
noncomputable def fi66 : FI := mkFI Try.f66 (.sl 106 2) [] [⟨[1, 5, 5, 5, 5, 5], (.pr 0), [(.row true 106)], []⟩] []
noncomputable def fi67 : FI := mkFI Try.f67 .b [] [] []
noncomputable def fi68 : FI := mkFI Try.f68 .s [(4, [0, 3], 0)] [] []
noncomputable def fi70 : FI := mkFI Try.f70 .b [] [] []
noncomputable def fi79 : FI := mkFI Try.f79 .b [] [] []
noncomputable def fi107 : FI := mkFI Try.f107 (.sl 106 2) [] [⟨[10, 10109, 5], (.pr 0), [(.same 106)], [(5, [0, 1, 5, 6], 1), (6, [0, 1, 5, 6], 1)]⟩] [0]
noncomputable def fi108 : FI := mkFI Try.f108 (.sl 106 2) [] [⟨[1], (.so 0), [(.row true 106)], []⟩] []
noncomputable def fi109 : FI := mkFI Try.f109 .b [] [] []
noncomputable def fi110 : FI := mkFI Try.f110 .b [] [] []
noncomputable def fi111 : FI := mkFI Try.f111 (.tup [(.i .i64), .b]) [(3, [0, 1, 2, 8, 9, 10], 0)] [] []
noncomputable def fi112 : FI := mkFI Try.f112 (.i .i64) [] [] []
noncomputable def fi113 : FI := mkFI Try.f113 (.i .i64) [] [] []
noncomputable def fi114 : FI := mkFI Try.f114 (.sl 106 2) [] [⟨[11, 5, 12], (.pr 0), [(.row true 106), (.row true 106)], []⟩] [0, 2]
noncomputable def fi152 : FI := mkFI Try.f152 (.i .i64) [(2, [0, 1, 7, 8], 0)] [] []
noncomputable def fi153 : FI := mkFI Try.f153 (.i .i64) [] [] []
noncomputable def fns : BT FI := (.node (.node (.node (.node (.node (.node .nil 5 fi5 .nil) 17 fi17 .nil) 18 fi18 (.node .nil 19 fi19 .nil)) 20 fi20 (.node (.node .nil 21 fi21 .nil) 22 fi22 (.node .nil 23 fi23 .nil))) 24 fi24 (.node (.node (.node (.node .nil 25 fi25 .nil) 53 fi53 .nil) 57 fi57 (.node .nil 59 fi59 .nil)) 60 fi60 (.node (.node .nil 61 fi61 .nil) 62 fi62 (.node .nil 63 fi63 .nil)))) 64 fi64 (.node (.node (.node (.node (.node .nil 65 fi65 .nil) 66 fi66 .nil) 67 fi67 (.node .nil 68 fi68 .nil)) 70 fi70 (.node (.node .nil 79 fi79 .nil) 107 fi107 (.node .nil 108 fi108 .nil))) 109 fi109 (.node (.node (.node .nil 110 fi110 .nil) 111 fi111 (.node .nil 112 fi112 .nil)) 113 fi113 (.node (.node .nil 114 fi114 .nil) 152 fi152 (.node .nil 153 fi153 .nil)))))
theorem ty_ok : tys.all (tyOk Try.prog) = true := by kernel_rfl
set_option maxHeartbeats 1000000 in
set_option maxRecDepth 100000 in
theorem pr153 : PrOk Try.prog 153 prCmp := by
  refine prCmp_ok ?_
  intro a b w
  go_enter Try.func153, Try.ntmps153
  go_wp2
  rw [run_callFunc_extern Try.func180 (by kernel_rfl) (by kernel_rfl) (by kernel_rfl) (e := Extern.BytealgCompare.compare) (by kernel_rfl), Lib.run_compareString]
  simp only [Result.andThen]
  rw [Oper.upon_value]
  go_wp2
  go_ret
  exact ⟨rfl, rfl⟩
noncomputable def E0 : Env := ⟨tys.get, fun _ => none, fun _ => none, fun _ => none⟩
theorem env0 : EnvOk Try.prog E0 := ⟨fun t ti h => tys.get_all ty_ok h, fun g fi h => (by cases h), by kernel_rfl, fun g p h => (by cases h), fun g p h => (by cases h)⟩
set_option maxRecDepth 100000 in
theorem po108 : PoOk Try.prog 108 (prClone 2 32 106) :=
  clone_ok env0 (f := Try.f108) (fi := fi108) (st1 := fun es => ⟨mkT 8 [(0, (.imm 2 es)), (1, .u), (2, (.sl 0 [] none)), (3, .u), (4, .u), (5, .u), (6, .u), (7, .u)], [.live true false false 106 []]⟩) Try.func108 rfl (by rfl) (by rfl) (by exact ⟨rfl, rfl, rfl⟩) (by exact ⟨rfl, rfl, rfl⟩) Try.underlying66
    (fun es => by kernel_rfl) (fun es => by kernel_rfl) (fun es => by kernel_rfl) (by kernel_rfl) (fun es h => (by kernel_rfl : _ = if es.length * 32 ≤ room then some (.sl 0 [] none, [.live true false false 106 es]) else none).trans (if_pos h))
theorem po114 : PoOk Try.prog 114 (prInsert 32 106) := insert_ok (te := ⟨(.agg [.s, .s]), 2, 32, 0, [(0, 9), (1, 9)]⟩) env0 (by kernel_rfl) Go.Proofs.YtkpmplggbbiebaaIns114.ok
noncomputable def pos : BT (List AV → List Root → Option (AV × List Root)) := (.node (.node .nil 108 (prClone 2 32 106) .nil) 114 (prInsert 32 106) .nil)
noncomputable def prs : BT (List AV → Option AV) := (.node .nil 153 prCmp .nil)
noncomputable def E : Env := ⟨tys.get, fns.get, prs.get, pos.get⟩
theorem fn_ok : fns.All (FnOk Try.prog) := ⟨⟨⟨⟨⟨⟨trivial, fnOk_mk Try.func5 (by kernel_rfl), trivial⟩, fnOk_mk Try.func17 (by kernel_rfl), trivial⟩, fnOk_mk Try.func18 (by kernel_rfl), ⟨trivial, fnOk_mk Try.func19 (by kernel_rfl), trivial⟩⟩, fnOk_mk Try.func20 (by kernel_rfl), ⟨⟨trivial, fnOk_mk Try.func21 (by kernel_rfl), trivial⟩, fnOk_mk Try.func22 (by kernel_rfl), ⟨trivial, fnOk_mk Try.func23 (by kernel_rfl), trivial⟩⟩⟩, fnOk_mk Try.func24 (by kernel_rfl), ⟨⟨⟨⟨trivial, fnOk_mk Try.func25 (by kernel_rfl), trivial⟩, fnOk_mk Try.func53 (by kernel_rfl), trivial⟩, fnOk_mk Try.func57 (by kernel_rfl), ⟨trivial, fnOk_mk Try.func59 (by kernel_rfl), trivial⟩⟩, fnOk_mk Try.func60 (by kernel_rfl), ⟨⟨trivial, fnOk_mk Try.func61 (by kernel_rfl), trivial⟩, fnOk_mk Try.func62 (by kernel_rfl), ⟨trivial, fnOk_mk Try.func63 (by kernel_rfl), trivial⟩⟩⟩⟩, fnOk_mk Try.func64 (by kernel_rfl), ⟨⟨⟨⟨⟨trivial, fnOk_mk Try.func65 (by kernel_rfl), trivial⟩, fnOk_mk Try.func66 (by kernel_rfl), trivial⟩, fnOk_mk Try.func67 (by kernel_rfl), ⟨trivial, fnOk_mk Try.func68 (by kernel_rfl), trivial⟩⟩, fnOk_mk Try.func70 (by kernel_rfl), ⟨⟨trivial, fnOk_mk Try.func79 (by kernel_rfl), trivial⟩, fnOk_mk Try.func107 (by kernel_rfl), ⟨trivial, fnOk_mk Try.func108 (by kernel_rfl), trivial⟩⟩⟩, fnOk_mk Try.func109 (by kernel_rfl), ⟨⟨⟨trivial, fnOk_mk Try.func110 (by kernel_rfl), trivial⟩, fnOk_mk Try.func111 (by kernel_rfl), ⟨trivial, fnOk_mk Try.func112 (by kernel_rfl), trivial⟩⟩, fnOk_mk Try.func113 (by kernel_rfl), ⟨⟨trivial, fnOk_mk Try.func114 (by kernel_rfl), trivial⟩, fnOk_mk Try.func152 (by kernel_rfl), ⟨trivial, fnOk_mk Try.func153 (by kernel_rfl), trivial⟩⟩⟩⟩⟩
theorem pr_ok : prs.All (PrOk Try.prog) := ⟨trivial, pr153, trivial⟩
theorem po_ok : pos.All (PoOk Try.prog) := ⟨⟨trivial, po108, trivial⟩, po114, trivial⟩
theorem env : EnvOk Try.prog E := ⟨fun t ti h => tys.get_all ty_ok h, fun g fi h => fns.get_All fn_ok h, by kernel_rfl, fun g p h => prs.get_All pr_ok h, fun g p h => pos.get_All po_ok h⟩
theorem ty61 : E.Γ 61 = some ⟨(.sl 103 2), 1, 24, 103, []⟩ := by kernel_rfl
theorem ty63 : E.Γ 63 = some ⟨(.agg [.s, (.i .i64), (.i .i64), .s, .s]), 5, 64, 0, [(0, 9), (1, 2), (2, 2), (3, 9), (4, 9)]⟩ := by kernel_rfl
theorem ty103 : E.Γ 103 = some ⟨(.agg [.s, .s]), 2, 32, 0, [(0, 9), (1, 9)]⟩ := by kernel_rfl
theorem fn5 : E.Φ 5 = some fi5 := by kernel_rfl
end Go.Proofs.Ytkpmplggbbiebaa.IApplyRecord
