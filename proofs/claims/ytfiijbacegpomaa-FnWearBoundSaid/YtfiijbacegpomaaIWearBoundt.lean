/- Printed by a program of this work (wip/it/itp.py): the tables of types and functions. No condition. -/
import Derived.Test.YtfiijbacegpomaaChecked
import Derived.Test.YtfiijbacegpomaaIt7
import Derived.Lib.Walk
import Derived.Lib.Strings
import Derived.Lib.Slices
namespace Go.Proofs.Ytfiijbacegpomaa.IWearBound
open Go Go.Proofs.YtfiijbacegpomaaIT
set_option linter.unusedVariables false
noncomputable def tys : BT TI := (.node (.node (.node (.node .nil 2 ⟨(.i .i64), 1, 8, 0, []⟩ .nil) 3 ⟨(.i .i64), 1, 8, 0, []⟩ (.node .nil 4 ⟨.b, 1, 1, 0, []⟩ .nil)) 5 ⟨(.i .u8), 1, 1, 0, []⟩ (.node (.node .nil 22 ⟨(.sl 5 1), 1, 24, 5, []⟩ .nil) 23 ⟨.pt, 1, 8, 0, []⟩ (.node .nil 25 ⟨(.i .u64), 1, 8, 0, []⟩ .nil))) 27 ⟨(.sl 2 1), 1, 24, 2, []⟩ (.node (.node (.node .nil 28 ⟨(.sl 4 1), 1, 24, 4, []⟩ .nil) 30 ⟨(.agg [(.sl 2 1), (.sl 4 1), (.sl 2 1), (.i .i64)]), 4, 80, 2, [(0, 27), (1, 28), (2, 27), (3, 2)]⟩ (.node .nil 98 ⟨(.agg [(.i .u64)]), 1, 8, 0, [(0, 25)]⟩ .nil)) 99 ⟨(.i .u64), 1, 8, 0, []⟩ (.node (.node .nil 111 ⟨.fn, 1, 8, 0, []⟩ .nil) 116 ⟨.fn, 1, 8, 0, []⟩ (.node .nil 183 ⟨.pt, 1, 8, 0, []⟩ .nil))))
noncomputable def fi3 : FI := mkFI Try.f3 .b [(7, [3, 4, 5, 6], 1000000), (11, [3, 4, 5, 6], 1000000), (16, [4, 7, 8], 1000000), (27, [4, 7, 8, 10, 12, 15, 16], 1000000), (28, [4, 7, 8, 10, 12, 15, 16], 1000000), (31, [4, 7, 8, 10, 12, 15, 16], 1000000)] [] []
noncomputable def fi10 : FI := mkFI Try.f10 .pt [] [⟨[1, 5], (.po 0), [(.var 98 (.agg [(.i .u64)]))], [(3, [0, 5, 6], 1000000)]⟩] []
noncomputable def fi11 : FI := mkFI Try.f11 (.i .i64) [] [⟨[1000, 5], (.i .i64), [(.var 98 (.agg [(.i .u64)]))], []⟩] [0]
noncomputable def fi12 : FI := mkFI Try.f12 (.tup [(.agg [(.sl 2 1), (.sl 4 1), (.sl 2 1), (.i .i64)]), (.i .i64), (.i .i64)]) [] [⟨[1, 1, 1, 5, 5], (.tup [(.agg [(.so 0), (.so 1), (.so 2), (.i .i64)]), (.i .i64), (.i .i64)]), [(.row true 2), (.row true 4), (.row true 2)], []⟩] []
noncomputable def fi13 : FI := mkFI Try.f13 .b [(5, [1, 3, 4], 1000000), (6, [1, 3, 4], 1000000)] [] []
noncomputable def fi14 : FI := mkFI Try.f14 (.tup [(.agg [(.sl 2 1), (.sl 4 1), (.sl 2 1), (.i .i64)]), (.i .i64), (.i .i64)]) [] [⟨[1, 1, 1, 5], (.tup [(.agg [(.so 0), (.so 1), (.so 2), (.i .i64)]), (.i .i64), (.i .i64)]), [(.row true 2), (.row true 4), (.row true 2)], [(5, [2, 5, 6], 1000000)]⟩] []
noncomputable def fi15 : FI := mkFI Try.f15 (.i .i64) [] [] []
noncomputable def fi16 : FI := mkFI Try.f16 (.i .i64) [(7, [0, 5, 6, 7, 24, 25, 26], 1000000)] [] []
noncomputable def fi54 : FI := mkFI Try.f54 .b [(5, [1, 33, 34, 35], 1000000), (9, [1, 33, 34, 35], 1000000)] [] []
noncomputable def fi55 : FI := mkFI Try.f55 .b [] [] []
noncomputable def fi56 : FI := mkFI Try.f56 (.agg [(.sl 2 1), (.sl 4 1), (.sl 2 1), (.i .i64)]) [] [⟨[1, 1, 1, 5], (.agg [(.so 0), (.so 1), (.so 2), (.i .i64)]), [(.row true 2), (.row true 4), (.row true 2)], []⟩] []
noncomputable def fi57 : FI := mkFI Try.f57 (.tup [(.i .i64), .b]) [] [⟨[1000, 5], (.tup [(.i .i64), .b]), [(.var 30 (.agg [(.so 1), (.so 2), (.so 3), (.i .i64)])), (.same 2), (.same 4), (.same 2)], [(7, [6], 1000004)]⟩] [0]
noncomputable def fi58 : FI := mkFI Try.f58 (.tup []) [] [⟨[1000, 5], (.tup []), [(.var 30 (.agg [(.so 1), (.so 2), (.so 3), (.i .i64)])), (.same 2), (.same 4), (.same 2)], []⟩] [0]
noncomputable def fi59 : FI := mkFI Try.f59 .b [] [] []
noncomputable def fi60 : FI := mkFI Try.f60 .b [] [] []
noncomputable def fi61 : FI := mkFI Try.f61 (.i .i64) [] [⟨[1000], (.i .i64), [(.var 30 (.agg [(.so 1), (.so 2), (.so 3), (.i .i64)])), (.same 2), (.same 4), (.same 2)], [(7, [0, 3], 1000004)]⟩] [0]
noncomputable def fi62 : FI := mkFI Try.f62 (.sl 2 1) [] [⟨[1, 1], (.so 0), [(.row true 2)], [(3, [1, 5, 8, 9], 1000000), (6, [1, 5, 6, 8, 9], 1000000), (7, [1, 5, 8, 9], 1000000)]⟩] []
noncomputable def fi63 : FI := mkFI Try.f63 .b [] [] []
noncomputable def fi64 : FI := mkFI Try.f64 (.i .i64) [(3, [0, 2, 7, 10, 11, 12], 1000000), (7, [0, 2, 7, 10, 11, 12], 1000000)] [] []
noncomputable def fi65 : FI := mkFI Try.f65 .b [] [] []
noncomputable def fi66 : FI := mkFI Try.f66 .b [] [] []
noncomputable def fi70 : FI := mkFI Try.f70 (.sl 2 1) [] [⟨[1], (.so 0), [(.row true 2)], []⟩] []
noncomputable def fi75 : FI := mkFI Try.f75 .b [] [] []
noncomputable def fi88 : FI := mkFI Try.f88 .b [] [] []
noncomputable def fi89 : FI := mkFI Try.f89 (.i .i64) [(2, [0, 1, 7, 8], 1000000)] [] []
noncomputable def fi136 : FI := mkFI Try.f136 (.sl 4 1) [] [⟨[1], (.so 0), [(.row true 4)], []⟩] []
noncomputable def fi137 : FI := mkFI Try.f137 (.i .i64) [] [] []
noncomputable def fi138 : FI := mkFI Try.f138 (.sl 2 1) [] [⟨[1, 1, 1, 5], (.pr 0), [(.row true 2)], []⟩] []
noncomputable def fi139 : FI := mkFI Try.f139 .b [] [] []
noncomputable def fi140 : FI := mkFI Try.f140 (.i .i64) [] [] []
noncomputable def fi141 : FI := mkFI Try.f141 .b [] [] []
noncomputable def fi142 : FI := mkFI Try.f142 .b [] [] []
noncomputable def fi145 : FI := mkFI Try.f145 (.sl 2 1) [] [⟨[10, 10181, 5], (.pr 0), [(.same 2)], [(5, [0, 1, 5, 6], 1000001), (6, [0, 1, 5, 6], 1000001)]⟩, ⟨[10, 10182, 5], (.pr 0), [(.same 2)], [(5, [0, 1, 5, 6], 1000001), (6, [0, 1, 5, 6], 1000001)]⟩] [0]
noncomputable def fi181 : FI := mkFI Try.f181 .b [] [] []
noncomputable def fi182 : FI := mkFI Try.f182 .b [] [] []
noncomputable def fi183 : FI := mkFI Try.f183 (.i .i64) [(2, [0, 1, 7, 8], 1000000)] [] []
noncomputable def fns : BT FI := (.node (.node (.node (.node (.node (.node .nil 3 fi3 .nil) 10 fi10 .nil) 11 fi11 (.node .nil 12 fi12 .nil)) 13 fi13 (.node (.node (.node .nil 14 fi14 .nil) 15 fi15 .nil) 16 fi16 (.node .nil 54 fi54 .nil))) 55 fi55 (.node (.node (.node (.node .nil 56 fi56 .nil) 57 fi57 .nil) 58 fi58 (.node .nil 59 fi59 .nil)) 60 fi60 (.node (.node .nil 61 fi61 .nil) 62 fi62 (.node .nil 63 fi63 .nil)))) 64 fi64 (.node (.node (.node (.node (.node .nil 65 fi65 .nil) 66 fi66 .nil) 70 fi70 (.node .nil 75 fi75 .nil)) 88 fi88 (.node (.node .nil 89 fi89 .nil) 136 fi136 (.node .nil 137 fi137 .nil))) 138 fi138 (.node (.node (.node (.node .nil 139 fi139 .nil) 140 fi140 .nil) 141 fi141 (.node .nil 142 fi142 .nil)) 145 fi145 (.node (.node .nil 181 fi181 .nil) 182 fi182 (.node .nil 183 fi183 .nil)))))
theorem ty_ok : tys.all (tyOk Try.prog) = true := by kernel_rfl
noncomputable def E0 : Env := ⟨tys.get, fun _ => none, fun _ => none, fun _ => none⟩
theorem env0 : EnvOk Try.prog E0 := ⟨fun t ti h => tys.get_all ty_ok h, fun g fi h => (by cases h), by kernel_rfl, fun g p h => (by cases h), fun g p h => (by cases h)⟩
set_option maxRecDepth 100000 in
theorem po70 : PoOk Try.prog 70 (prClone 1 8 2) :=
  clone_ok env0 (f := Try.f70) (fi := fi70) (st1 := fun es => ⟨mkT 8 [(0, (.imm 1 es)), (1, .u), (2, (.sl 0 [] none)), (3, .u), (4, .u), (5, .u), (6, .u), (7, .u)], [.live true false false 2 []]⟩) Try.func70 rfl (by rfl) (by rfl) (by exact ⟨rfl, rfl, rfl⟩) (by exact ⟨rfl, rfl, rfl⟩) Try.underlying27
    (fun es => by kernel_rfl) (fun es => by kernel_rfl) (fun es => by kernel_rfl) (by kernel_rfl) (fun es h => (by kernel_rfl : _ = if es.length * 8 ≤ room then some (.sl 0 [] none, [.live true false false 2 es]) else none).trans (if_pos h))
set_option maxRecDepth 100000 in
theorem po136 : PoOk Try.prog 136 (prClone 1 1 4) :=
  clone_ok env0 (f := Try.f136) (fi := fi136) (st1 := fun es => ⟨mkT 8 [(0, (.imm 1 es)), (1, .u), (2, (.sl 0 [] none)), (3, .u), (4, .u), (5, .u), (6, .u), (7, .u)], [.live true false false 4 []]⟩) Try.func136 rfl (by rfl) (by rfl) (by exact ⟨rfl, rfl, rfl⟩) (by exact ⟨rfl, rfl, rfl⟩) Try.underlying28
    (fun es => by kernel_rfl) (fun es => by kernel_rfl) (fun es => by kernel_rfl) (by kernel_rfl) (fun es h => (by kernel_rfl : _ = if es.length * 1 ≤ room then some (.sl 0 [] none, [.live true false false 4 es]) else none).trans (if_pos h))
noncomputable def pos : BT (List AV → List Root → Option (AV × List Root)) := (.node (.node .nil 70 (prClone 1 8 2) .nil) 136 (prClone 1 1 4) .nil)
noncomputable def prs : BT (List AV → Option AV) := .nil
noncomputable def E : Env := ⟨tys.get, fns.get, prs.get, pos.get⟩
theorem fn_ok : fns.All (FnOk Try.prog) := ⟨⟨⟨⟨⟨⟨trivial, fnOk_mk Try.func3 (by kernel_rfl), trivial⟩, fnOk_mk Try.func10 (by kernel_rfl), trivial⟩, fnOk_mk Try.func11 (by kernel_rfl), ⟨trivial, fnOk_mk Try.func12 (by kernel_rfl), trivial⟩⟩, fnOk_mk Try.func13 (by kernel_rfl), ⟨⟨⟨trivial, fnOk_mk Try.func14 (by kernel_rfl), trivial⟩, fnOk_mk Try.func15 (by kernel_rfl), trivial⟩, fnOk_mk Try.func16 (by kernel_rfl), ⟨trivial, fnOk_mk Try.func54 (by kernel_rfl), trivial⟩⟩⟩, fnOk_mk Try.func55 (by kernel_rfl), ⟨⟨⟨⟨trivial, fnOk_mk Try.func56 (by kernel_rfl), trivial⟩, fnOk_mk Try.func57 (by kernel_rfl), trivial⟩, fnOk_mk Try.func58 (by kernel_rfl), ⟨trivial, fnOk_mk Try.func59 (by kernel_rfl), trivial⟩⟩, fnOk_mk Try.func60 (by kernel_rfl), ⟨⟨trivial, fnOk_mk Try.func61 (by kernel_rfl), trivial⟩, fnOk_mk Try.func62 (by kernel_rfl), ⟨trivial, fnOk_mk Try.func63 (by kernel_rfl), trivial⟩⟩⟩⟩, fnOk_mk Try.func64 (by kernel_rfl), ⟨⟨⟨⟨⟨trivial, fnOk_mk Try.func65 (by kernel_rfl), trivial⟩, fnOk_mk Try.func66 (by kernel_rfl), trivial⟩, fnOk_mk Try.func70 (by kernel_rfl), ⟨trivial, fnOk_mk Try.func75 (by kernel_rfl), trivial⟩⟩, fnOk_mk Try.func88 (by kernel_rfl), ⟨⟨trivial, fnOk_mk Try.func89 (by kernel_rfl), trivial⟩, fnOk_mk Try.func136 (by kernel_rfl), ⟨trivial, fnOk_mk Try.func137 (by kernel_rfl), trivial⟩⟩⟩, fnOk_mk Try.func138 (by kernel_rfl), ⟨⟨⟨⟨trivial, fnOk_mk Try.func139 (by kernel_rfl), trivial⟩, fnOk_mk Try.func140 (by kernel_rfl), trivial⟩, fnOk_mk Try.func141 (by kernel_rfl), ⟨trivial, fnOk_mk Try.func142 (by kernel_rfl), trivial⟩⟩, fnOk_mk Try.func145 (by kernel_rfl), ⟨⟨trivial, fnOk_mk Try.func181 (by kernel_rfl), trivial⟩, fnOk_mk Try.func182 (by kernel_rfl), ⟨trivial, fnOk_mk Try.func183 (by kernel_rfl), trivial⟩⟩⟩⟩⟩
theorem pr_ok : prs.All (PrOk Try.prog) := trivial
theorem po_ok : pos.All (PoOk Try.prog) := ⟨⟨trivial, po70, trivial⟩, po136, trivial⟩
theorem env : EnvOk Try.prog E := ⟨fun t ti h => tys.get_all ty_ok h, fun g fi h => fns.get_All fn_ok h, by kernel_rfl, fun g p h => prs.get_All pr_ok h, fun g p h => pos.get_All po_ok h⟩
theorem ty5 : E.Γ 5 = some ⟨(.i .u8), 1, 1, 0, []⟩ := by kernel_rfl
theorem ty22 : E.Γ 22 = some ⟨(.sl 5 1), 1, 24, 5, []⟩ := by kernel_rfl
theorem fn3 : E.Φ 3 = some fi3 := by kernel_rfl
end Go.Proofs.Ytfiijbacegpomaa.IWearBound
