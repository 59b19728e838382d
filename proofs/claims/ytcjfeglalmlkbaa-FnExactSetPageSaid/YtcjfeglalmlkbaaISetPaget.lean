/- Printed by a program of this work (wip/it/itp.py): the tables of types and functions. No condition. -/
import Derived.Test.YtcjfeglalmlkbaaChecked
import Derived.Test.YtcjfeglalmlkbaaIt7
import Derived.Lib.Walk
import Derived.Lib.Strings
import Derived.Lib.Slices
namespace Go.Proofs.Ytcjfeglalmlkbaa.ISetPage
open Go Go.Proofs.YtcjfeglalmlkbaaIT
set_option linter.unusedVariables false
noncomputable def tys : BT TI := (.node (.node (.node (.node .nil 2 ⟨(.i .i64), 1, 8, 0, []⟩ .nil) 3 ⟨(.i .i64), 1, 8, 0, []⟩ .nil) 4 ⟨.b, 1, 1, 0, []⟩ (.node .nil 30 ⟨(.sl 2 1), 1, 24, 2, []⟩ .nil)) 31 ⟨(.sl 4 1), 1, 24, 4, []⟩ (.node (.node .nil 41 ⟨(.agg [(.i .i64), (.i .i64), (.sl 2 1), (.sl 4 1)]), 4, 64, 0, [(0, 2), (1, 2), (2, 30), (3, 31)]⟩ .nil) 43 ⟨(.agg [(.i .i64), (.i .i64), (.sl 2 1), (.sl 4 1)]), 4, 64, 0, [(0, 2), (1, 2), (2, 30), (3, 31)]⟩ (.node .nil 125 ⟨.pt, 1, 8, 0, []⟩ .nil)))
noncomputable def fi5 : FI := mkFI Try.f5 .b [] [] []
noncomputable def fi23 : FI := mkFI Try.f23 (.i .i64) [] [] []
noncomputable def fi24 : FI := mkFI Try.f24 (.tup [(.agg [(.i .i64), (.i .i64), (.sl 2 1), (.sl 4 1)]), (.i .i64)]) [] [⟨[5, 5, 1, 1, 5, 5, 5], (.tup [(.agg [(.i .i64), (.i .i64), (.so 0), (.so 1)]), (.i .i64)]), [(.row true 2), (.row true 4)], [(8, [1, 2, 3, 4, 8], 2)]⟩] []
noncomputable def fi25 : FI := mkFI Try.f25 (.agg [(.i .i64), (.i .i64), (.sl 2 1), (.sl 4 1)]) [] [⟨[5, 5, 1, 1], (.agg [(.i .i64), (.i .i64), (.so 0), (.so 1)]), [(.row true 2), (.row true 4)], []⟩] []
noncomputable def fi26 : FI := mkFI Try.f26 (.tup [(.agg [(.i .i64), (.i .i64), (.sl 2 1), (.sl 4 1)]), (.i .i64)]) [] [⟨[5, 5, 1, 1, 5, 5, 5], (.tup [(.agg [(.i .i64), (.i .i64), (.so 0), (.so 1)]), (.i .i64)]), [(.row true 2), (.row true 4)], [(8, [1, 2, 3, 4, 8], 2)]⟩] []
noncomputable def fi27 : FI := mkFI Try.f27 .b [] [] []
noncomputable def fi28 : FI := mkFI Try.f28 (.i .i64) [] [⟨[5, 5, 10, 12, 5], (.i .i64), [(.same 2), (.same 4)], []⟩] [0]
noncomputable def fi29 : FI := mkFI Try.f29 (.i .i64) [] [] []
noncomputable def fi70 : FI := mkFI Try.f70 .b [] [] []
noncomputable def fi73 : FI := mkFI Try.f73 .b [] [] []
noncomputable def fi77 : FI := mkFI Try.f77 .b [] [] []
noncomputable def fi85 : FI := mkFI Try.f85 (.i .i64) [] [] []
noncomputable def fi86 : FI := mkFI Try.f86 (.i .i64) [] [] []
noncomputable def fi87 : FI := mkFI Try.f87 .b [(4, [0, 3], 0), (8, [0, 3], 0), (9, [0, 3, 4], 0), (10, [0, 3, 4], 0)] [] []
noncomputable def fi88 : FI := mkFI Try.f88 (.i .i64) [(2, [0, 1, 5], 0), (3, [0, 1, 5], 0)] [] []
noncomputable def fi89 : FI := mkFI Try.f89 (.agg [(.i .i64), (.i .i64), (.sl 2 1), (.sl 4 1)]) [] [⟨[5], (.agg [(.i .i64), (.i .i64), (.so 0), (.so 1)]), [(.row true 2), (.row true 4)], []⟩] []
noncomputable def fi90 : FI := mkFI Try.f90 (.sl 2 1) [] [⟨[1], (.so 0), [(.row true 2)], [(3, [0, 3, 4], 2)]⟩] []
noncomputable def fi91 : FI := mkFI Try.f91 (.sl 4 1) [] [⟨[1], (.so 0), [(.row true 4)], [(3, [0, 3, 4], 2)]⟩] []
noncomputable def fi92 : FI := mkFI Try.f92 .b [(4, [1, 28, 29, 30], 1), (8, [1, 28, 29, 30], 1)] [] []
noncomputable def fi93 : FI := mkFI Try.f93 (.i .i64) [] [] []
noncomputable def fi94 : FI := mkFI Try.f94 (.i .i64) [(2, [0, 1, 7, 8], 0)] [] []
noncomputable def fi95 : FI := mkFI Try.f95 (.agg [(.i .i64), (.i .i64), (.sl 2 1), (.sl 4 1)]) [] [⟨[5, 5, 1, 1], (.agg [(.i .i64), (.i .i64), (.so 0), (.so 1)]), [(.row true 2), (.row true 4)], []⟩] []
noncomputable def fi96 : FI := mkFI Try.f96 .b [(4, [0, 1, 5], 0)] [] []
noncomputable def fi97 : FI := mkFI Try.f97 .b [(4, [0, 1, 5], 0)] [] []
noncomputable def fi98 : FI := mkFI Try.f98 (.i .i64) [] [⟨[10, 5], (.i .i64), [(.same 2)], [(2, [0, 1, 5], 1)]⟩] [0]
noncomputable def fi99 : FI := mkFI Try.f99 (.i .i64) [] [⟨[10, 5], (.i .i64), [(.same 4)], [(2, [0, 1, 5], 1)]⟩] [0]
noncomputable def fi100 : FI := mkFI Try.f100 (.i .i64) [(2, [0, 1, 5], 0)] [] []
noncomputable def fi101 : FI := mkFI Try.f101 (.i .i64) [(2, [0, 1, 5], 0)] [] []
noncomputable def fi134 : FI := mkFI Try.f134 (.sl 2 1) [] [⟨[1], (.so 0), [(.row true 2)], []⟩] []
noncomputable def fi151 : FI := mkFI Try.f151 .b [] [] []
noncomputable def fi158 : FI := mkFI Try.f158 (.sl 4 1) [] [⟨[1], (.so 0), [(.row true 4)], []⟩] []
noncomputable def fi165 : FI := mkFI Try.f165 .b [] [] []
noncomputable def fi166 : FI := mkFI Try.f166 (.sl 2 1) [] [⟨[1], (.so 0), [(.row true 2)], []⟩] []
noncomputable def fi167 : FI := mkFI Try.f167 .b [] [] []
noncomputable def fns : BT FI := (.node (.node (.node (.node (.node (.node .nil 5 fi5 .nil) 23 fi23 .nil) 24 fi24 (.node .nil 25 fi25 .nil)) 26 fi26 (.node (.node .nil 27 fi27 .nil) 28 fi28 (.node .nil 29 fi29 .nil))) 70 fi70 (.node (.node (.node (.node .nil 73 fi73 .nil) 77 fi77 .nil) 85 fi85 (.node .nil 86 fi86 .nil)) 87 fi87 (.node (.node .nil 88 fi88 .nil) 89 fi89 (.node .nil 90 fi90 .nil)))) 91 fi91 (.node (.node (.node (.node (.node .nil 92 fi92 .nil) 93 fi93 .nil) 94 fi94 (.node .nil 95 fi95 .nil)) 96 fi96 (.node (.node .nil 97 fi97 .nil) 98 fi98 (.node .nil 99 fi99 .nil))) 100 fi100 (.node (.node (.node .nil 101 fi101 .nil) 134 fi134 (.node .nil 151 fi151 .nil)) 158 fi158 (.node (.node .nil 165 fi165 .nil) 166 fi166 (.node .nil 167 fi167 .nil)))))
theorem ty_ok : tys.all (tyOk Try.prog) = true := by kernel_rfl
noncomputable def E0 : Env := ⟨tys.get, fun _ => none, fun _ => none, fun _ => none⟩
theorem env0 : EnvOk Try.prog E0 := ⟨fun t ti h => tys.get_all ty_ok h, fun g fi h => (by cases h), by kernel_rfl, fun g p h => (by cases h), fun g p h => (by cases h)⟩
set_option maxRecDepth 100000 in
theorem po134 : PoOk Try.prog 134 (prClone 1 8 2) :=
  clone_ok env0 (f := Try.f134) (fi := fi134) (st1 := fun es => ⟨mkT 8 [(0, (.imm 1 es)), (1, .u), (2, (.sl 0 [] none)), (3, .u), (4, .u), (5, .u), (6, .u), (7, .u)], [.live true false false 2 []]⟩) Try.func134 rfl (by rfl) (by rfl) (by exact ⟨rfl, rfl, rfl⟩) (by exact ⟨rfl, rfl, rfl⟩) Try.underlying30
    (fun es => by kernel_rfl) (fun es => by kernel_rfl) (fun es => by kernel_rfl) (by kernel_rfl) (fun es h => (by kernel_rfl : _ = if es.length * 8 ≤ room then some (.sl 0 [] none, [.live true false false 2 es]) else none).trans (if_pos h))
set_option maxRecDepth 100000 in
theorem po158 : PoOk Try.prog 158 (prClone 1 1 4) :=
  clone_ok env0 (f := Try.f158) (fi := fi158) (st1 := fun es => ⟨mkT 8 [(0, (.imm 1 es)), (1, .u), (2, (.sl 0 [] none)), (3, .u), (4, .u), (5, .u), (6, .u), (7, .u)], [.live true false false 4 []]⟩) Try.func158 rfl (by rfl) (by rfl) (by exact ⟨rfl, rfl, rfl⟩) (by exact ⟨rfl, rfl, rfl⟩) Try.underlying31
    (fun es => by kernel_rfl) (fun es => by kernel_rfl) (fun es => by kernel_rfl) (by kernel_rfl) (fun es h => (by kernel_rfl : _ = if es.length * 1 ≤ room then some (.sl 0 [] none, [.live true false false 4 es]) else none).trans (if_pos h))
noncomputable def pos : BT (List AV → List Root → Option (AV × List Root)) := (.node (.node .nil 134 (prClone 1 8 2) .nil) 158 (prClone 1 1 4) .nil)
noncomputable def prs : BT (List AV → Option AV) := .nil
noncomputable def E : Env := ⟨tys.get, fns.get, prs.get, pos.get⟩
theorem fn_ok : fns.All (FnOk Try.prog) := ⟨⟨⟨⟨⟨⟨trivial, fnOk_mk Try.func5 (by kernel_rfl), trivial⟩, fnOk_mk Try.func23 (by kernel_rfl), trivial⟩, fnOk_mk Try.func24 (by kernel_rfl), ⟨trivial, fnOk_mk Try.func25 (by kernel_rfl), trivial⟩⟩, fnOk_mk Try.func26 (by kernel_rfl), ⟨⟨trivial, fnOk_mk Try.func27 (by kernel_rfl), trivial⟩, fnOk_mk Try.func28 (by kernel_rfl), ⟨trivial, fnOk_mk Try.func29 (by kernel_rfl), trivial⟩⟩⟩, fnOk_mk Try.func70 (by kernel_rfl), ⟨⟨⟨⟨trivial, fnOk_mk Try.func73 (by kernel_rfl), trivial⟩, fnOk_mk Try.func77 (by kernel_rfl), trivial⟩, fnOk_mk Try.func85 (by kernel_rfl), ⟨trivial, fnOk_mk Try.func86 (by kernel_rfl), trivial⟩⟩, fnOk_mk Try.func87 (by kernel_rfl), ⟨⟨trivial, fnOk_mk Try.func88 (by kernel_rfl), trivial⟩, fnOk_mk Try.func89 (by kernel_rfl), ⟨trivial, fnOk_mk Try.func90 (by kernel_rfl), trivial⟩⟩⟩⟩, fnOk_mk Try.func91 (by kernel_rfl), ⟨⟨⟨⟨⟨trivial, fnOk_mk Try.func92 (by kernel_rfl), trivial⟩, fnOk_mk Try.func93 (by kernel_rfl), trivial⟩, fnOk_mk Try.func94 (by kernel_rfl), ⟨trivial, fnOk_mk Try.func95 (by kernel_rfl), trivial⟩⟩, fnOk_mk Try.func96 (by kernel_rfl), ⟨⟨trivial, fnOk_mk Try.func97 (by kernel_rfl), trivial⟩, fnOk_mk Try.func98 (by kernel_rfl), ⟨trivial, fnOk_mk Try.func99 (by kernel_rfl), trivial⟩⟩⟩, fnOk_mk Try.func100 (by kernel_rfl), ⟨⟨⟨trivial, fnOk_mk Try.func101 (by kernel_rfl), trivial⟩, fnOk_mk Try.func134 (by kernel_rfl), ⟨trivial, fnOk_mk Try.func151 (by kernel_rfl), trivial⟩⟩, fnOk_mk Try.func158 (by kernel_rfl), ⟨⟨trivial, fnOk_mk Try.func165 (by kernel_rfl), trivial⟩, fnOk_mk Try.func166 (by kernel_rfl), ⟨trivial, fnOk_mk Try.func167 (by kernel_rfl), trivial⟩⟩⟩⟩⟩
theorem pr_ok : prs.All (PrOk Try.prog) := trivial
theorem po_ok : pos.All (PoOk Try.prog) := ⟨⟨trivial, po134, trivial⟩, po158, trivial⟩
theorem env : EnvOk Try.prog E := ⟨fun t ti h => tys.get_all ty_ok h, fun g fi h => fns.get_All fn_ok h, by kernel_rfl, fun g p h => prs.get_All pr_ok h, fun g p h => pos.get_All po_ok h⟩
theorem ty2 : E.Γ 2 = some ⟨(.i .i64), 1, 8, 0, []⟩ := by kernel_rfl
theorem ty4 : E.Γ 4 = some ⟨.b, 1, 1, 0, []⟩ := by kernel_rfl
theorem ty41 : E.Γ 41 = some ⟨(.agg [(.i .i64), (.i .i64), (.sl 2 1), (.sl 4 1)]), 4, 64, 0, [(0, 2), (1, 2), (2, 30), (3, 31)]⟩ := by kernel_rfl
theorem fn5 : E.Φ 5 = some fi5 := by kernel_rfl
end Go.Proofs.Ytcjfeglalmlkbaa.ISetPage
