/- Printed by a program of this work (wip/it/itp.py): the tables of types and functions. No condition. -/
import Derived.Test.YtcjfeglalmlkbaaChecked
import Derived.Test.YtcjfeglalmlkbaaIt7
import Derived.Lib.Walk
import Derived.Lib.Strings
import Derived.Lib.Slices
namespace Go.Proofs.Ytcjfeglalmlkbaa.ILevelWear
open Go Go.Proofs.YtcjfeglalmlkbaaIT
set_option linter.unusedVariables false
noncomputable def tys : BT TI := (.node (.node (.node (.node .nil 2 ⟨(.i .i64), 1, 8, 0, []⟩ .nil) 3 ⟨(.i .i64), 1, 8, 0, []⟩ .nil) 4 ⟨.b, 1, 1, 0, []⟩ (.node (.node .nil 24 ⟨.fn, 1, 8, 0, []⟩ .nil) 30 ⟨(.sl 2 1), 1, 24, 2, []⟩ .nil)) 31 ⟨(.sl 4 1), 1, 24, 4, []⟩ (.node (.node (.node .nil 33 ⟨(.agg [(.sl 2 1), (.sl 4 1), (.sl 2 1), (.i .i64)]), 4, 80, 0, [(0, 30), (1, 31), (2, 30), (3, 2)]⟩ .nil) 50 ⟨(.agg [(.sl 2 1), (.sl 4 1), (.sl 2 1), (.i .i64)]), 4, 80, 0, [(0, 30), (1, 31), (2, 30), (3, 2)]⟩ .nil) 121 ⟨.fn, 1, 8, 0, []⟩ (.node .nil 189 ⟨.pt, 1, 8, 0, []⟩ .nil)))
noncomputable def fi11 : FI := mkFI Try.f11 .b [] [] []
noncomputable def fi19 : FI := mkFI Try.f19 .b [(5, [1, 3, 4], 1000000), (6, [1, 3, 4], 1000000)] [] []
noncomputable def fi20 : FI := mkFI Try.f20 (.tup [(.agg [(.sl 2 1), (.sl 4 1), (.sl 2 1), (.i .i64)]), (.i .i64), (.i .i64)]) [] [⟨[1, 1, 1, 5], (.tup [(.agg [(.so 0), (.so 1), (.so 2), (.i .i64)]), (.i .i64), (.i .i64)]), [(.row true 2), (.row true 4), (.row true 2)], [(5, [2, 5, 6], 1000000)]⟩] []
noncomputable def fi21 : FI := mkFI Try.f21 (.i .i64) [] [] []
noncomputable def fi30 : FI := mkFI Try.f30 (.i .i64) [] [] []
noncomputable def fi32 : FI := mkFI Try.f32 (.agg [(.sl 2 1), (.sl 4 1), (.sl 2 1), (.i .i64)]) [] [⟨[1, 1, 1, 5], (.agg [(.so 0), (.so 1), (.so 2), (.i .i64)]), [(.row true 2), (.row true 4), (.row true 2)], []⟩] []
noncomputable def fi34 : FI := mkFI Try.f34 .b [] [] []
noncomputable def fi35 : FI := mkFI Try.f35 (.i .i64) [] [⟨[10, 12, 14, 5, 5], (.i .i64), [(.same 2), (.same 4), (.same 2)], []⟩] [0]
noncomputable def fi36 : FI := mkFI Try.f36 (.i .i64) [] [] []
noncomputable def fi47 : FI := mkFI Try.f47 (.tup [(.agg [(.sl 2 1), (.sl 4 1), (.sl 2 1), (.i .i64)]), (.i .i64)]) [] [⟨[1, 1, 1, 5], (.tup [(.agg [(.so 0), (.so 1), (.so 2), (.i .i64)]), (.i .i64)]), [(.row true 2), (.row true 4), (.row true 2)], [(12, [2, 4, 5], 1000000)]⟩] []
noncomputable def fi56 : FI := mkFI Try.f56 (.tup [(.agg [(.sl 2 1), (.sl 4 1), (.sl 2 1), (.i .i64)]), (.i .i64), (.i .i64)]) [] [⟨[1, 1, 1, 5], (.tup [(.agg [(.so 0), (.so 1), (.so 2), (.i .i64)]), (.i .i64), (.i .i64)]), [(.row true 2), (.row true 4), (.row true 2)], [(5, [2, 5, 6], 1000000)]⟩] []
noncomputable def fi70 : FI := mkFI Try.f70 .b [] [] []
noncomputable def fi72 : FI := mkFI Try.f72 .b [(5, [1, 33, 34, 35], 1000000), (9, [1, 33, 34, 35], 1000000)] [] []
noncomputable def fi74 : FI := mkFI Try.f74 (.agg [(.sl 2 1), (.sl 4 1), (.sl 2 1), (.i .i64)]) [] [⟨[1, 1, 1, 5], (.agg [(.so 0), (.so 1), (.so 2), (.i .i64)]), [(.row true 2), (.row true 4), (.row true 2)], []⟩] []
noncomputable def fi76 : FI := mkFI Try.f76 (.tup []) [] [⟨[1000, 5], (.tup []), [(.var 33 (.agg [(.so 1), (.so 2), (.so 3), (.i .i64)])), (.same 2), (.same 4), (.same 2)], []⟩] [0]
noncomputable def fi77 : FI := mkFI Try.f77 .b [] [] []
noncomputable def fi78 : FI := mkFI Try.f78 .b [] [] []
noncomputable def fi79 : FI := mkFI Try.f79 (.i .i64) [] [⟨[1000], (.i .i64), [(.var 33 (.agg [(.so 1), (.so 2), (.so 3), (.i .i64)])), (.same 2), (.same 4), (.same 2)], [(7, [0, 3], 1000004)]⟩] [0]
noncomputable def fi80 : FI := mkFI Try.f80 (.sl 2 1) [] [⟨[1, 1], (.so 0), [(.row true 2)], [(3, [1, 5, 8, 9], 1000000), (6, [1, 5, 6, 8, 9], 1000000), (7, [1, 5, 8, 9], 1000000)]⟩] []
noncomputable def fi81 : FI := mkFI Try.f81 .b [] [] []
noncomputable def fi82 : FI := mkFI Try.f82 (.i .i64) [(3, [0, 2, 7, 10, 11, 12], 1000000), (7, [0, 2, 7, 10, 11, 12], 1000000)] [] []
noncomputable def fi83 : FI := mkFI Try.f83 .b [] [] []
noncomputable def fi84 : FI := mkFI Try.f84 .b [] [] []
noncomputable def fi85 : FI := mkFI Try.f85 (.i .i64) [] [] []
noncomputable def fi86 : FI := mkFI Try.f86 (.i .i64) [] [] []
noncomputable def fi90 : FI := mkFI Try.f90 (.sl 2 1) [] [⟨[1], (.so 0), [(.row true 2)], [(3, [0, 3, 4], 1000000)]⟩] []
noncomputable def fi91 : FI := mkFI Try.f91 (.sl 4 1) [] [⟨[1], (.so 0), [(.row true 4)], [(3, [0, 3, 4], 1000000)]⟩] []
noncomputable def fi94 : FI := mkFI Try.f94 (.i .i64) [(2, [0, 1, 7, 8], 1000000)] [] []
noncomputable def fi96 : FI := mkFI Try.f96 .b [(4, [0, 1, 5], 1000000)] [] []
noncomputable def fi97 : FI := mkFI Try.f97 .b [(4, [0, 1, 5], 1000000)] [] []
noncomputable def fi98 : FI := mkFI Try.f98 (.i .i64) [] [⟨[10, 5], (.i .i64), [(.same 2)], [(2, [0, 1, 5], 1000001)]⟩] [0]
noncomputable def fi99 : FI := mkFI Try.f99 (.i .i64) [] [⟨[10, 5], (.i .i64), [(.same 4)], [(2, [0, 1, 5], 1000001)]⟩] [0]
noncomputable def fi100 : FI := mkFI Try.f100 (.i .i64) [(2, [0, 1, 5], 1000000)] [] []
noncomputable def fi101 : FI := mkFI Try.f101 (.i .i64) [(2, [0, 1, 5], 1000000)] [] []
noncomputable def fi102 : FI := mkFI Try.f102 (.i .i64) [(3, [0, 1, 2, 7, 8], 1000000), (4, [0, 1, 2, 7, 8], 1000000), (13, [0, 1, 2, 7, 8, 9, 10], 1000000)] [] []
noncomputable def fi103 : FI := mkFI Try.f103 (.sl 2 1) [(3, [1, 3, 4], 1000000), (4, [1, 3, 4], 1000000)] [] []
noncomputable def fi104 : FI := mkFI Try.f104 (.agg [(.sl 2 1), (.sl 4 1), (.sl 2 1), (.i .i64)]) [] [⟨[1, 1, 1, 5], (.agg [(.so 0), (.so 1), (.so 2), (.i .i64)]), [(.row true 2), (.row true 4), (.row true 2)], []⟩] []
noncomputable def fi105 : FI := mkFI Try.f105 (.agg [(.sl 2 1), (.sl 4 1), (.sl 2 1), (.i .i64)]) [] [⟨[10, 12, 14, 5, 5], (.agg [(.so 0), (.so 1), (.so 2), (.i .i64)]), [(.same 2), (.same 4), (.same 2)], []⟩] [0]
noncomputable def fi114 : FI := mkFI Try.f114 .b [] [] []
noncomputable def fi115 : FI := mkFI Try.f115 (.i .i64) [(3, [0, 1, 2, 7, 8], 1000000), (4, [0, 1, 2, 7, 8], 1000000)] [] []
noncomputable def fi134 : FI := mkFI Try.f134 (.sl 2 1) [] [⟨[1], (.so 0), [(.row true 2)], []⟩] []
noncomputable def fi142 : FI := mkFI Try.f142 .b [(2, [0, 1, 5], 1000000)] [] []
noncomputable def fi151 : FI := mkFI Try.f151 .b [] [] []
noncomputable def fi158 : FI := mkFI Try.f158 (.sl 4 1) [] [⟨[1], (.so 0), [(.row true 4)], []⟩] []
noncomputable def fi159 : FI := mkFI Try.f159 (.i .i64) [] [] []
noncomputable def fi160 : FI := mkFI Try.f160 (.sl 2 1) [] [⟨[1, 1, 1, 5], (.pr 0), [(.row true 2)], []⟩] []
noncomputable def fi161 : FI := mkFI Try.f161 .b [] [] []
noncomputable def fi162 : FI := mkFI Try.f162 (.i .i64) [] [] []
noncomputable def fi163 : FI := mkFI Try.f163 .b [] [] []
noncomputable def fi164 : FI := mkFI Try.f164 .b [] [] []
noncomputable def fi166 : FI := mkFI Try.f166 (.sl 2 1) [] [⟨[1], (.so 0), [(.row true 2)], []⟩] []
noncomputable def fi176 : FI := mkFI Try.f176 (.i .i64) [] [] []
noncomputable def fi177 : FI := mkFI Try.f177 .b [] [] []
noncomputable def fi195 : FI := mkFI Try.f195 (.sl 2 1) [] [⟨[10, 10208, 5], (.pr 0), [(.same 2)], [(5, [0, 1, 5, 6], 1000001), (6, [0, 1, 5, 6], 1000001)]⟩, ⟨[10, 10207, 5], (.pr 0), [(.same 2)], [(5, [0, 1, 5, 6], 1000001), (6, [0, 1, 5, 6], 1000001)]⟩] [0]
noncomputable def fi207 : FI := mkFI Try.f207 .b [] [] []
noncomputable def fi208 : FI := mkFI Try.f208 .b [] [] []
noncomputable def fi209 : FI := mkFI Try.f209 (.i .i64) [(2, [0, 1, 7, 8], 1000000)] [] []
noncomputable def fi215 : FI := mkFI Try.f215 .b [(2, [0, 3], 1000000)] [] []
noncomputable def fi216 : FI := mkFI Try.f216 (.tup [(.i .i64), (.i .i64), .b]) [(5, [0, 1, 7, 8, 9, 10], 1000000), (6, [0, 1, 7, 8, 9, 10], 1000000), (9, [0, 1, 8, 9, 10], 1000000), (10, [0, 1, 7, 8, 9, 10], 1000000), (11, [0, 1, 7, 10], 1000000)] [] []
noncomputable def fns : BT FI := (.node (.node (.node (.node (.node (.node .nil 11 fi11 .nil) 19 fi19 (.node .nil 20 fi20 .nil)) 21 fi21 (.node (.node .nil 30 fi30 .nil) 32 fi32 (.node .nil 34 fi34 .nil))) 35 fi35 (.node (.node (.node .nil 36 fi36 .nil) 47 fi47 (.node .nil 56 fi56 .nil)) 70 fi70 (.node (.node .nil 72 fi72 .nil) 74 fi74 .nil))) 76 fi76 (.node (.node (.node (.node .nil 77 fi77 .nil) 78 fi78 (.node .nil 79 fi79 .nil)) 80 fi80 (.node (.node .nil 81 fi81 .nil) 82 fi82 (.node .nil 83 fi83 .nil))) 84 fi84 (.node (.node (.node .nil 85 fi85 .nil) 86 fi86 (.node .nil 90 fi90 .nil)) 91 fi91 (.node (.node .nil 94 fi94 .nil) 96 fi96 .nil)))) 97 fi97 (.node (.node (.node (.node (.node .nil 98 fi98 .nil) 99 fi99 (.node .nil 100 fi100 .nil)) 101 fi101 (.node (.node .nil 102 fi102 .nil) 103 fi103 (.node .nil 104 fi104 .nil))) 105 fi105 (.node (.node (.node .nil 114 fi114 .nil) 115 fi115 (.node .nil 134 fi134 .nil)) 142 fi142 (.node (.node .nil 151 fi151 .nil) 158 fi158 .nil))) 159 fi159 (.node (.node (.node (.node .nil 160 fi160 .nil) 161 fi161 (.node .nil 162 fi162 .nil)) 163 fi163 (.node (.node .nil 164 fi164 .nil) 166 fi166 (.node .nil 176 fi176 .nil))) 177 fi177 (.node (.node (.node .nil 195 fi195 .nil) 207 fi207 (.node .nil 208 fi208 .nil)) 209 fi209 (.node (.node .nil 215 fi215 .nil) 216 fi216 .nil)))))
theorem ty_ok : tys.all (tyOk Try.prog) = true := by kernel_rfl
noncomputable def E0 : Env := ⟨tys.get, fun _ => none, fun _ => none, fun _ => none⟩
theorem env0 : EnvOk Try.prog E0 := ⟨fun t ti h => tys.get_all ty_ok h, fun g fi h => (by cases h), by kernel_rfl, fun g p h => (by cases h), fun g p h => (by cases h)⟩
set_option maxRecDepth 100000 in
theorem po134 : PoOk Try.prog 134 (prClone 1 8 2) :=
  clone_ok env0 (f := Try.f134) (fi := fi134) (st1 := fun es => ⟨mkT 8 [(0, (.imm 1 es)), (1, .u), (2, (.sl 0 [] none)), (3, .u), (4, .u), (5, .u), (6, .u), (7, .u)], [.live true false false 2 []]⟩) Try.func134 rfl (by rfl) (by rfl) (by exact ⟨rfl, rfl, rfl⟩) (by exact ⟨rfl, rfl, rfl⟩) Try.underlying30
    (fun es => by kernel_rfl) (fun es => by kernel_rfl) (fun es => by kernel_rfl) (by kernel_rfl) (fun es h => (by kernel_rfl : _ = if es.length * 8 ≤ room then some (.sl 0 [] none, [.live true false false 2 es]) else none).trans (if_pos h))
set_option maxRecDepth 100000 in
theorem po158 : PoOk Try.prog 158 (prClone 1 1 4) :=
  clone_ok env0 (f := Try.f158) (fi := fi158) (st1 := fun es => ⟨mkT 8 [(0, (.imm 1 es)), (1, .u), (2, (.sl 0 [] none)), (3, .u), (4, .u), (5, .u), (6, .u), (7, .u)], [.live true false false 4 []]⟩) Try.func158 rfl (by rfl) (by rfl) (by exact ⟨rfl, rfl, rfl⟩) (by exact ⟨rfl, rfl, rfl⟩) Try.underlying31
    (fun es => by kernel_rfl) (fun es => by kernel_rfl) (fun es => by kernel_rfl) (by kernel_rfl) (fun es h => (by kernel_rfl : _ = if es.length * 1 ≤ room then some (.sl 0 [] none, [.live true false false 4 es]) else none).trans (if_pos h))
noncomputable def pos : BT (List AV → List Root → Option (AV × List Root)) := (.node (.node .nil 134 (prClone 1 8 2) .nil) 158 (prClone 1 1 4) .nil)
noncomputable def prs : BT (List AV → Option AV) := .nil
noncomputable def E : Env := ⟨tys.get, fns.get, prs.get, pos.get⟩
theorem fn_ok : fns.All (FnOk Try.prog) := ⟨⟨⟨⟨⟨⟨trivial, fnOk_mk Try.func11 (by kernel_rfl), trivial⟩, fnOk_mk Try.func19 (by kernel_rfl), ⟨trivial, fnOk_mk Try.func20 (by kernel_rfl), trivial⟩⟩, fnOk_mk Try.func21 (by kernel_rfl), ⟨⟨trivial, fnOk_mk Try.func30 (by kernel_rfl), trivial⟩, fnOk_mk Try.func32 (by kernel_rfl), ⟨trivial, fnOk_mk Try.func34 (by kernel_rfl), trivial⟩⟩⟩, fnOk_mk Try.func35 (by kernel_rfl), ⟨⟨⟨trivial, fnOk_mk Try.func36 (by kernel_rfl), trivial⟩, fnOk_mk Try.func47 (by kernel_rfl), ⟨trivial, fnOk_mk Try.func56 (by kernel_rfl), trivial⟩⟩, fnOk_mk Try.func70 (by kernel_rfl), ⟨⟨trivial, fnOk_mk Try.func72 (by kernel_rfl), trivial⟩, fnOk_mk Try.func74 (by kernel_rfl), trivial⟩⟩⟩, fnOk_mk Try.func76 (by kernel_rfl), ⟨⟨⟨⟨trivial, fnOk_mk Try.func77 (by kernel_rfl), trivial⟩, fnOk_mk Try.func78 (by kernel_rfl), ⟨trivial, fnOk_mk Try.func79 (by kernel_rfl), trivial⟩⟩, fnOk_mk Try.func80 (by kernel_rfl), ⟨⟨trivial, fnOk_mk Try.func81 (by kernel_rfl), trivial⟩, fnOk_mk Try.func82 (by kernel_rfl), ⟨trivial, fnOk_mk Try.func83 (by kernel_rfl), trivial⟩⟩⟩, fnOk_mk Try.func84 (by kernel_rfl), ⟨⟨⟨trivial, fnOk_mk Try.func85 (by kernel_rfl), trivial⟩, fnOk_mk Try.func86 (by kernel_rfl), ⟨trivial, fnOk_mk Try.func90 (by kernel_rfl), trivial⟩⟩, fnOk_mk Try.func91 (by kernel_rfl), ⟨⟨trivial, fnOk_mk Try.func94 (by kernel_rfl), trivial⟩, fnOk_mk Try.func96 (by kernel_rfl), trivial⟩⟩⟩⟩, fnOk_mk Try.func97 (by kernel_rfl), ⟨⟨⟨⟨⟨trivial, fnOk_mk Try.func98 (by kernel_rfl), trivial⟩, fnOk_mk Try.func99 (by kernel_rfl), ⟨trivial, fnOk_mk Try.func100 (by kernel_rfl), trivial⟩⟩, fnOk_mk Try.func101 (by kernel_rfl), ⟨⟨trivial, fnOk_mk Try.func102 (by kernel_rfl), trivial⟩, fnOk_mk Try.func103 (by kernel_rfl), ⟨trivial, fnOk_mk Try.func104 (by kernel_rfl), trivial⟩⟩⟩, fnOk_mk Try.func105 (by kernel_rfl), ⟨⟨⟨trivial, fnOk_mk Try.func114 (by kernel_rfl), trivial⟩, fnOk_mk Try.func115 (by kernel_rfl), ⟨trivial, fnOk_mk Try.func134 (by kernel_rfl), trivial⟩⟩, fnOk_mk Try.func142 (by kernel_rfl), ⟨⟨trivial, fnOk_mk Try.func151 (by kernel_rfl), trivial⟩, fnOk_mk Try.func158 (by kernel_rfl), trivial⟩⟩⟩, fnOk_mk Try.func159 (by kernel_rfl), ⟨⟨⟨⟨trivial, fnOk_mk Try.func160 (by kernel_rfl), trivial⟩, fnOk_mk Try.func161 (by kernel_rfl), ⟨trivial, fnOk_mk Try.func162 (by kernel_rfl), trivial⟩⟩, fnOk_mk Try.func163 (by kernel_rfl), ⟨⟨trivial, fnOk_mk Try.func164 (by kernel_rfl), trivial⟩, fnOk_mk Try.func166 (by kernel_rfl), ⟨trivial, fnOk_mk Try.func176 (by kernel_rfl), trivial⟩⟩⟩, fnOk_mk Try.func177 (by kernel_rfl), ⟨⟨⟨trivial, fnOk_mk Try.func195 (by kernel_rfl), trivial⟩, fnOk_mk Try.func207 (by kernel_rfl), ⟨trivial, fnOk_mk Try.func208 (by kernel_rfl), trivial⟩⟩, fnOk_mk Try.func209 (by kernel_rfl), ⟨⟨trivial, fnOk_mk Try.func215 (by kernel_rfl), trivial⟩, fnOk_mk Try.func216 (by kernel_rfl), trivial⟩⟩⟩⟩⟩
theorem pr_ok : prs.All (PrOk Try.prog) := trivial
theorem po_ok : pos.All (PoOk Try.prog) := ⟨⟨trivial, po134, trivial⟩, po158, trivial⟩
theorem env : EnvOk Try.prog E := ⟨fun t ti h => tys.get_all ty_ok h, fun g fi h => fns.get_All fn_ok h, by kernel_rfl, fun g p h => prs.get_All pr_ok h, fun g p h => pos.get_All po_ok h⟩
theorem ty50 : E.Γ 50 = some ⟨(.agg [(.sl 2 1), (.sl 4 1), (.sl 2 1), (.i .i64)]), 4, 80, 0, [(0, 30), (1, 31), (2, 30), (3, 2)]⟩ := by kernel_rfl
theorem fn11 : E.Φ 11 = some fi11 := by kernel_rfl
end Go.Proofs.Ytcjfeglalmlkbaa.ILevelWear
