/- Printed by a program of this work (wip/it/itp.py): the tables of types and functions. No condition. -/
import Derived.Test.YtkpmplggbbiebaaChecked
import Derived.Test.YtkpmplggbbiebaaIt7
import Derived.Test.YtkpmplggbbiebaaItIn
import Derived.Test.YtkpmplggbbiebaaIn130
import Derived.Lib.Walk
import Derived.Lib.Strings
import Derived.Lib.Slices
namespace Go.Proofs.Ytkpmplggbbiebaa.IRetireBlock
open Go Go.Proofs.YtkpmplggbbiebaaIT
set_option linter.unusedVariables false
noncomputable def tys : BT TI := (.node (.node (.node (.node .nil 2 ⟨(.i .i64), 1, 8, 0, []⟩ .nil) 3 ⟨(.i .i64), 1, 8, 0, []⟩ .nil) 4 ⟨.b, 1, 1, 0, []⟩ (.node (.node .nil 23 ⟨(.agg [(.i .i64), (.i .i64), (.i .i64)]), 3, 24, 0, [(0, 2), (1, 2), (2, 2)]⟩ .nil) 34 ⟨(.sl 2 1), 1, 24, 2, []⟩ .nil)) 39 ⟨(.agg [(.i .i64), (.i .i64), (.i .i64)]), 3, 24, 0, [(0, 2), (1, 2), (2, 2)]⟩ (.node (.node (.node .nil 76 ⟨(.agg [(.i .i64), (.i .i64), (.i .i64), (.i .i64), (.sl 2 1), (.sl 2 1)]), 6, 80, 0, [(0, 23), (3, 2), (4, 34), (5, 34)]⟩ .nil) 79 ⟨(.agg [(.i .i64), (.i .i64), (.i .i64), (.i .i64), (.sl 2 1), (.sl 2 1)]), 6, 80, 0, [(0, 39), (3, 2), (4, 34), (5, 34)]⟩ .nil) 159 ⟨.fn, 1, 8, 0, []⟩ (.node .nil 180 ⟨(.i .u64), 1, 8, 0, []⟩ .nil)))
noncomputable def fi6 : FI := mkFI Try.f6 .b [] [] []
noncomputable def fi26 : FI := mkFI Try.f26 (.i .i64) [] [] []
noncomputable def fi27 : FI := mkFI Try.f27 (.tup [(.agg [(.i .i64), (.i .i64), (.i .i64), (.i .i64), (.sl 2 1), (.sl 2 1)]), (.i .i64)]) [] [⟨[5, 5, 5, 5, 1, 1, 5], (.tup [(.agg [(.i .i64), (.i .i64), (.i .i64), (.i .i64), (.so 0), (.so 1)]), (.i .i64)]), [(.row true 2), (.row true 2)], []⟩] []
noncomputable def fi28 : FI := mkFI Try.f28 (.agg [(.i .i64), (.i .i64), (.i .i64), (.i .i64), (.sl 2 1), (.sl 2 1)]) [] [⟨[5, 5, 5, 5, 1, 1], (.agg [(.i .i64), (.i .i64), (.i .i64), (.i .i64), (.so 0), (.so 1)]), [(.row true 2), (.row true 2)], []⟩] []
noncomputable def fi29 : FI := mkFI Try.f29 (.tup [(.agg [(.i .i64), (.i .i64), (.i .i64), (.i .i64), (.sl 2 1), (.sl 2 1)]), (.i .i64)]) [] [⟨[5, 5, 5, 5, 1, 1, 5], (.tup [(.agg [(.i .i64), (.i .i64), (.i .i64), (.i .i64), (.so 0), (.so 1)]), (.i .i64)]), [(.row true 2), (.row true 2)], []⟩] []
noncomputable def fi30 : FI := mkFI Try.f30 .b [] [] []
noncomputable def fi31 : FI := mkFI Try.f31 (.i .i64) [] [⟨[5, 5, 5, 5, 10, 12, 5], (.i .i64), [(.same 2), (.same 2)], []⟩] [0]
noncomputable def fi32 : FI := mkFI Try.f32 (.i .i64) [] [] []
noncomputable def fi36 : FI := mkFI Try.f36 (.i .i64) [] [] []
noncomputable def fi44 : FI := mkFI Try.f44 (.sl 2 1) [] [⟨[1], (.so 0), [(.row true 2)], [(3, [0, 3, 4], 2)]⟩] []
noncomputable def fi52 : FI := mkFI Try.f52 .b [(4, [0, 1, 5], 0)] [] []
noncomputable def fi69 : FI := mkFI Try.f69 .b [(4, [1, 3], 1), (5, [1, 3], 1)] [] []
noncomputable def fi70 : FI := mkFI Try.f70 .b [] [] []
noncomputable def fi71 : FI := mkFI Try.f71 (.i .i64) [] [] []
noncomputable def fi72 : FI := mkFI Try.f72 .b [(2, [0, 1, 5], 0)] [] []
noncomputable def fi73 : FI := mkFI Try.f73 (.agg [(.i .i64), (.i .i64), (.i .i64), (.i .i64), (.sl 2 1), (.sl 2 1)]) [] [⟨[5, 5, 5, 5, 1, 1], (.agg [(.i .i64), (.i .i64), (.i .i64), (.i .i64), (.so 0), (.so 1)]), [(.row true 2), (.row true 2)], []⟩] []
noncomputable def fi74 : FI := mkFI Try.f74 (.sl 2 1) [] [⟨[1, 5], (.so 0), [(.row true 2)], [(4, [0, 1, 5, 6, 7], 2), (10, [0, 1, 5, 6, 7], 2), (13, [5], 2)]⟩] []
noncomputable def fi75 : FI := mkFI Try.f75 (.i .i64) [(2, [1, 2, 5], 1)] [] []
noncomputable def fi76 : FI := mkFI Try.f76 (.sl 2 1) [] [⟨[5, 5, 5, 5, 1, 1, 5], (.so 0), [(.row true 2)], [(3, [1, 2, 5, 6], 3), (4, [1, 2, 5, 6], 3)]⟩] []
noncomputable def fi77 : FI := mkFI Try.f77 (.agg [(.i .i64), (.i .i64), (.i .i64)]) [] [] []
noncomputable def fi78 : FI := mkFI Try.f78 .b [(4, [1, 34, 35, 36], 1)] [] []
noncomputable def fi79 : FI := mkFI Try.f79 .b [] [] []
noncomputable def fi80 : FI := mkFI Try.f80 (.i .i64) [] [] []
noncomputable def fi81 : FI := mkFI Try.f81 (.tup [(.agg [(.i .i64), (.i .i64), (.i .i64), (.i .i64), (.sl 2 1), (.sl 2 1)]), (.i .i64)]) [] [⟨[5, 5, 5, 5, 1, 1, 5], (.tup [(.agg [(.i .i64), (.i .i64), (.i .i64), (.i .i64), (.so 0), (.so 1)]), (.i .i64)]), [(.row true 2), (.row true 2)], [(10, [1, 4, 6], 5)]⟩] []
noncomputable def fi82 : FI := mkFI Try.f82 .b [] [] []
noncomputable def fi83 : FI := mkFI Try.f83 (.i .i64) [] [⟨[10, 5], (.i .i64), [(.same 2)], [(2, [0, 1, 5], 1)]⟩] [0]
noncomputable def fi84 : FI := mkFI Try.f84 (.i .i64) [(2, [0, 1, 5], 0)] [] []
noncomputable def fi115 : FI := mkFI Try.f115 .b [] [] []
noncomputable def fi116 : FI := mkFI Try.f116 (.i .i64) [] [] []
noncomputable def fi117 : FI := mkFI Try.f117 .b [] [] []
noncomputable def fi118 : FI := mkFI Try.f118 (.sl 2 1) [] [⟨[1], (.so 0), [(.row true 2)], []⟩] []
noncomputable def fi119 : FI := mkFI Try.f119 .b [] [] []
noncomputable def fi120 : FI := mkFI Try.f120 .b [] [] []
noncomputable def fi121 : FI := mkFI Try.f121 .b [] [] []
noncomputable def fi122 : FI := mkFI Try.f122 (.i .i64) [] [] []
noncomputable def fi123 : FI := mkFI Try.f123 .b [] [] []
noncomputable def fi124 : FI := mkFI Try.f124 .b [] [] []
noncomputable def fi125 : FI := mkFI Try.f125 .b [] [] []
noncomputable def fi126 : FI := mkFI Try.f126 (.agg [(.i .i64), (.i .i64), (.i .i64), (.i .i64), (.sl 2 1), (.sl 2 1)]) [] [⟨[5, 5, 5, 5, 1, 1], (.agg [(.i .i64), (.i .i64), (.i .i64), (.i .i64), (.so 0), (.so 1)]), [(.row true 2), (.row true 2)], []⟩] []
noncomputable def fi127 : FI := mkFI Try.f127 (.i .i64) [(2, [0, 1, 7, 8], 0)] [] []
noncomputable def fi128 : FI := mkFI Try.f128 (.sl 2 1) [] [] []
noncomputable def fi129 : FI := mkFI Try.f129 (.tup [(.i .i64), .b]) [(3, [0, 1, 6, 7, 8], 0)] [] []
noncomputable def fi130 : FI := mkFI Try.f130 (.sl 2 1) [] [⟨[10, 5, 12], (.so 0), [(.row true 2), (.row true 2)], []⟩] [0, 2]
noncomputable def fi156 : FI := mkFI Try.f156 .b [] [] []
noncomputable def fi157 : FI := mkFI Try.f157 .b [(2, [0, 1, 2, 7], 0), (3, [0, 1, 2, 7], 0)] [] []
noncomputable def fi158 : FI := mkFI Try.f158 .b [(2, [0, 3], 0)] [] []
noncomputable def fi159 : FI := mkFI Try.f159 .b [] [] []
noncomputable def fi160 : FI := mkFI Try.f160 (.i .i64) [] [] []
noncomputable def fi161 : FI := mkFI Try.f161 (.i .i64) [] [] []
noncomputable def fi162 : FI := mkFI Try.f162 (.sl 2 1) [] [⟨[5, 5, 5, 5, 1, 1, 5], (.so 0), [(.row true 2)], [(3, [1, 2, 5, 6], 3)]⟩] []
noncomputable def fi163 : FI := mkFI Try.f163 (.sl 2 1) [] [⟨[1], (.so 0), [(.row true 2)], []⟩] []
noncomputable def fi164 : FI := mkFI Try.f164 (.sl 2 1) [] [⟨[10, 10165, 5], (.pr 0), [(.same 2)], [(5, [0, 1, 5, 6], 1), (6, [0, 1, 5, 6], 1)]⟩] [0]
noncomputable def fi165 : FI := mkFI Try.f165 .b [] [] []
noncomputable def fi166 : FI := mkFI Try.f166 .b [] [] []
noncomputable def fi167 : FI := mkFI Try.f167 .b [] [] []
noncomputable def fi182 : FI := mkFI Try.f182 .b [] [] []
noncomputable def fi183 : FI := mkFI Try.f183 .b [] [] []
noncomputable def fi184 : FI := mkFI Try.f184 (.i .i64) [(2, [0, 1, 7, 8], 0)] [] []
noncomputable def fi185 : FI := mkFI Try.f185 .b [] [] []
noncomputable def fns : BT FI := (.node (.node (.node (.node (.node (.node .nil 6 fi6 .nil) 26 fi26 (.node .nil 27 fi27 .nil)) 28 fi28 (.node (.node .nil 29 fi29 .nil) 30 fi30 (.node .nil 31 fi31 .nil))) 32 fi32 (.node (.node (.node .nil 36 fi36 .nil) 44 fi44 (.node .nil 52 fi52 .nil)) 69 fi69 (.node (.node .nil 70 fi70 .nil) 71 fi71 .nil))) 72 fi72 (.node (.node (.node (.node .nil 73 fi73 .nil) 74 fi74 (.node .nil 75 fi75 .nil)) 76 fi76 (.node (.node .nil 77 fi77 .nil) 78 fi78 (.node .nil 79 fi79 .nil))) 80 fi80 (.node (.node (.node .nil 81 fi81 .nil) 82 fi82 (.node .nil 83 fi83 .nil)) 84 fi84 (.node (.node .nil 115 fi115 .nil) 116 fi116 .nil)))) 117 fi117 (.node (.node (.node (.node (.node .nil 118 fi118 .nil) 119 fi119 (.node .nil 120 fi120 .nil)) 121 fi121 (.node (.node .nil 122 fi122 .nil) 123 fi123 (.node .nil 124 fi124 .nil))) 125 fi125 (.node (.node (.node .nil 126 fi126 .nil) 127 fi127 (.node .nil 128 fi128 .nil)) 129 fi129 (.node (.node .nil 130 fi130 .nil) 156 fi156 .nil))) 157 fi157 (.node (.node (.node (.node .nil 158 fi158 .nil) 159 fi159 (.node .nil 160 fi160 .nil)) 161 fi161 (.node (.node .nil 162 fi162 .nil) 163 fi163 (.node .nil 164 fi164 .nil))) 165 fi165 (.node (.node (.node .nil 166 fi166 .nil) 167 fi167 (.node .nil 182 fi182 .nil)) 183 fi183 (.node (.node .nil 184 fi184 .nil) 185 fi185 .nil)))))
theorem ty_ok : tys.all (tyOk Try.prog) = true := by kernel_rfl
noncomputable def E0 : Env := ⟨tys.get, fun _ => none, fun _ => none, fun _ => none⟩
theorem env0 : EnvOk Try.prog E0 := ⟨fun t ti h => tys.get_all ty_ok h, fun g fi h => (by cases h), by kernel_rfl, fun g p h => (by cases h), fun g p h => (by cases h)⟩
theorem po130 : PoOk Try.prog 130 (prInsert 8 2) := insert_ok (te := ⟨(.i .i64), 1, 8, 0, []⟩) env0 (by kernel_rfl) Go.Proofs.YtkpmplggbbiebaaIns130.ok
set_option maxRecDepth 100000 in
theorem po163 : PoOk Try.prog 163 (prClone 1 8 2) :=
  clone_ok env0 (f := Try.f163) (fi := fi163) (st1 := fun es => ⟨mkT 8 [(0, (.imm 1 es)), (1, .u), (2, (.sl 0 [] none)), (3, .u), (4, .u), (5, .u), (6, .u), (7, .u)], [.live true false false 2 []]⟩) Try.func163 rfl (by rfl) (by rfl) (by exact ⟨rfl, rfl, rfl⟩) (by exact ⟨rfl, rfl, rfl⟩) Try.underlying34
    (fun es => by kernel_rfl) (fun es => by kernel_rfl) (fun es => by kernel_rfl) (by kernel_rfl) (fun es h => (by kernel_rfl : _ = if es.length * 8 ≤ room then some (.sl 0 [] none, [.live true false false 2 es]) else none).trans (if_pos h))
noncomputable def pos : BT (List AV → List Root → Option (AV × List Root)) := (.node (.node .nil 130 (prInsert 8 2) .nil) 163 (prClone 1 8 2) .nil)
noncomputable def prs : BT (List AV → Option AV) := .nil
noncomputable def E : Env := ⟨tys.get, fns.get, prs.get, pos.get⟩
theorem fn_ok : fns.All (FnOk Try.prog) := ⟨⟨⟨⟨⟨⟨trivial, fnOk_mk Try.func6 (by kernel_rfl), trivial⟩, fnOk_mk Try.func26 (by kernel_rfl), ⟨trivial, fnOk_mk Try.func27 (by kernel_rfl), trivial⟩⟩, fnOk_mk Try.func28 (by kernel_rfl), ⟨⟨trivial, fnOk_mk Try.func29 (by kernel_rfl), trivial⟩, fnOk_mk Try.func30 (by kernel_rfl), ⟨trivial, fnOk_mk Try.func31 (by kernel_rfl), trivial⟩⟩⟩, fnOk_mk Try.func32 (by kernel_rfl), ⟨⟨⟨trivial, fnOk_mk Try.func36 (by kernel_rfl), trivial⟩, fnOk_mk Try.func44 (by kernel_rfl), ⟨trivial, fnOk_mk Try.func52 (by kernel_rfl), trivial⟩⟩, fnOk_mk Try.func69 (by kernel_rfl), ⟨⟨trivial, fnOk_mk Try.func70 (by kernel_rfl), trivial⟩, fnOk_mk Try.func71 (by kernel_rfl), trivial⟩⟩⟩, fnOk_mk Try.func72 (by kernel_rfl), ⟨⟨⟨⟨trivial, fnOk_mk Try.func73 (by kernel_rfl), trivial⟩, fnOk_mk Try.func74 (by kernel_rfl), ⟨trivial, fnOk_mk Try.func75 (by kernel_rfl), trivial⟩⟩, fnOk_mk Try.func76 (by kernel_rfl), ⟨⟨trivial, fnOk_mk Try.func77 (by kernel_rfl), trivial⟩, fnOk_mk Try.func78 (by kernel_rfl), ⟨trivial, fnOk_mk Try.func79 (by kernel_rfl), trivial⟩⟩⟩, fnOk_mk Try.func80 (by kernel_rfl), ⟨⟨⟨trivial, fnOk_mk Try.func81 (by kernel_rfl), trivial⟩, fnOk_mk Try.func82 (by kernel_rfl), ⟨trivial, fnOk_mk Try.func83 (by kernel_rfl), trivial⟩⟩, fnOk_mk Try.func84 (by kernel_rfl), ⟨⟨trivial, fnOk_mk Try.func115 (by kernel_rfl), trivial⟩, fnOk_mk Try.func116 (by kernel_rfl), trivial⟩⟩⟩⟩, fnOk_mk Try.func117 (by kernel_rfl), ⟨⟨⟨⟨⟨trivial, fnOk_mk Try.func118 (by kernel_rfl), trivial⟩, fnOk_mk Try.func119 (by kernel_rfl), ⟨trivial, fnOk_mk Try.func120 (by kernel_rfl), trivial⟩⟩, fnOk_mk Try.func121 (by kernel_rfl), ⟨⟨trivial, fnOk_mk Try.func122 (by kernel_rfl), trivial⟩, fnOk_mk Try.func123 (by kernel_rfl), ⟨trivial, fnOk_mk Try.func124 (by kernel_rfl), trivial⟩⟩⟩, fnOk_mk Try.func125 (by kernel_rfl), ⟨⟨⟨trivial, fnOk_mk Try.func126 (by kernel_rfl), trivial⟩, fnOk_mk Try.func127 (by kernel_rfl), ⟨trivial, fnOk_mk Try.func128 (by kernel_rfl), trivial⟩⟩, fnOk_mk Try.func129 (by kernel_rfl), ⟨⟨trivial, fnOk_mk Try.func130 (by kernel_rfl), trivial⟩, fnOk_mk Try.func156 (by kernel_rfl), trivial⟩⟩⟩, fnOk_mk Try.func157 (by kernel_rfl), ⟨⟨⟨⟨trivial, fnOk_mk Try.func158 (by kernel_rfl), trivial⟩, fnOk_mk Try.func159 (by kernel_rfl), ⟨trivial, fnOk_mk Try.func160 (by kernel_rfl), trivial⟩⟩, fnOk_mk Try.func161 (by kernel_rfl), ⟨⟨trivial, fnOk_mk Try.func162 (by kernel_rfl), trivial⟩, fnOk_mk Try.func163 (by kernel_rfl), ⟨trivial, fnOk_mk Try.func164 (by kernel_rfl), trivial⟩⟩⟩, fnOk_mk Try.func165 (by kernel_rfl), ⟨⟨⟨trivial, fnOk_mk Try.func166 (by kernel_rfl), trivial⟩, fnOk_mk Try.func167 (by kernel_rfl), ⟨trivial, fnOk_mk Try.func182 (by kernel_rfl), trivial⟩⟩, fnOk_mk Try.func183 (by kernel_rfl), ⟨⟨trivial, fnOk_mk Try.func184 (by kernel_rfl), trivial⟩, fnOk_mk Try.func185 (by kernel_rfl), trivial⟩⟩⟩⟩⟩
theorem pr_ok : prs.All (PrOk Try.prog) := trivial
theorem po_ok : pos.All (PoOk Try.prog) := ⟨⟨trivial, po130, trivial⟩, po163, trivial⟩
theorem env : EnvOk Try.prog E := ⟨fun t ti h => tys.get_all ty_ok h, fun g fi h => fns.get_All fn_ok h, by kernel_rfl, fun g p h => prs.get_All pr_ok h, fun g p h => pos.get_All po_ok h⟩
theorem ty2 : E.Γ 2 = some ⟨(.i .i64), 1, 8, 0, []⟩ := by kernel_rfl
theorem ty76 : E.Γ 76 = some ⟨(.agg [(.i .i64), (.i .i64), (.i .i64), (.i .i64), (.sl 2 1), (.sl 2 1)]), 6, 80, 0, [(0, 23), (3, 2), (4, 34), (5, 34)]⟩ := by kernel_rfl
theorem fn6 : E.Φ 6 = some fi6 := by kernel_rfl
end Go.Proofs.Ytkpmplggbbiebaa.IRetireBlock
