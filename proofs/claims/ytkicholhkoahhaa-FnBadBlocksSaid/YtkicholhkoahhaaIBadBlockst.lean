/- Printed by a program of this work (wip/it/itp.py): the tables of types and functions. No condition. -/
import Derived.Test.YtkicholhkoahhaaChecked
import Derived.Test.YtkicholhkoahhaaIt7
import Derived.Test.YtkicholhkoahhaaItIn
import Derived.Test.YtkicholhkoahhaaIn105
import Derived.Lib.Walk
import Derived.Lib.Strings
import Derived.Lib.Slices
namespace Go.Proofs.Ytkicholhkoahhaa.IBadBlocks
open Go Go.Proofs.YtkicholhkoahhaaIT
set_option linter.unusedVariables false
noncomputable def tys : BT TI := (.node (.node (.node (.node .nil 2 ⟨(.i .i64), 1, 8, 0, []⟩ .nil) 3 ⟨(.i .i64), 1, 8, 0, []⟩ (.node .nil 4 ⟨.b, 1, 1, 0, []⟩ .nil)) 5 ⟨(.i .u8), 1, 1, 0, []⟩ (.node (.node .nil 36 ⟨(.sl 5 1), 1, 24, 5, []⟩ .nil) 37 ⟨.pt, 1, 8, 0, []⟩ .nil)) 39 ⟨(.i .u64), 1, 8, 0, []⟩ (.node (.node (.node .nil 42 ⟨(.agg [(.i .i64), (.i .i64), (.i .i64)]), 3, 24, 0, [(0, 2), (1, 2), (2, 2)]⟩ .nil) 43 ⟨(.sl 2 1), 1, 24, 2, []⟩ (.node .nil 45 ⟨(.agg [(.i .i64), (.i .i64), (.i .i64), (.i .i64), (.sl 2 1), (.sl 2 1)]), 6, 80, 2, [(0, 42), (3, 2), (4, 43), (5, 43)]⟩ .nil)) 85 ⟨(.agg [(.i .u64)]), 1, 8, 0, [(0, 39)]⟩ (.node (.node .nil 86 ⟨(.i .u64), 1, 8, 0, []⟩ .nil) 92 ⟨.fn, 1, 8, 0, []⟩ .nil)))
noncomputable def fi4 : FI := mkFI Try.f4 .b [(9, [3, 4, 5, 7], 1000000), (18, [3, 4, 5, 7], 1000000), (21, [3, 4, 5, 7, 13], 1000000)] [] []
noncomputable def fi15 : FI := mkFI Try.f15 .pt [] [⟨[1, 5], (.po 0), [(.var 85 (.agg [(.i .u64)]))], [(3, [0, 5, 6], 1)]⟩] []
noncomputable def fi16 : FI := mkFI Try.f16 (.i .i64) [] [⟨[1000, 5], (.i .i64), [(.var 85 (.agg [(.i .u64)]))], []⟩] [0]
noncomputable def fi17 : FI := mkFI Try.f17 (.tup [(.agg [(.i .i64), (.i .i64), (.i .i64), (.i .i64), (.sl 2 1), (.sl 2 1)]), (.i .i64)]) [] [⟨[5, 5, 5, 5, 1], (.tup [(.agg [(.i .i64), (.i .i64), (.i .i64), (.i .i64), (.so 0), (.so 1)]), (.i .i64)]), [(.row true 2), (.row true 2)], [(7, [3, 6, 8, 35, 36], 9), (15, [3, 6, 8, 10, 35, 36], 9)]⟩] []
noncomputable def fi18 : FI := mkFI Try.f18 (.tup [(.agg [(.i .i64), (.i .i64), (.i .i64), (.i .i64), (.sl 2 1), (.sl 2 1)]), (.i .i64)]) [] [⟨[5, 5, 5, 5, 1, 1, 5], (.tup [(.agg [(.i .i64), (.i .i64), (.i .i64), (.i .i64), (.so 0), (.so 1)]), (.i .i64)]), [(.row true 2), (.row true 2)], []⟩] []
noncomputable def fi19 : FI := mkFI Try.f19 (.tup [(.agg [(.i .i64), (.i .i64), (.i .i64), (.i .i64), (.sl 2 1), (.sl 2 1)]), (.i .i64)]) [] [⟨[5, 5, 5, 5, 1, 1, 5], (.tup [(.agg [(.i .i64), (.i .i64), (.i .i64), (.i .i64), (.so 0), (.so 1)]), (.i .i64)]), [(.row true 2), (.row true 2)], []⟩] []
noncomputable def fi20 : FI := mkFI Try.f20 .b [(4, [1, 3], 1), (5, [1, 3], 1)] [] []
noncomputable def fi21 : FI := mkFI Try.f21 .b [(4, [1, 34, 35, 36], 1)] [] []
noncomputable def fi22 : FI := mkFI Try.f22 (.tup [(.i .i64), (.i .i64)]) [] [] []
noncomputable def fi23 : FI := mkFI Try.f23 (.tup [(.i .i64), (.i .i64)]) [] [] []
noncomputable def fi46 : FI := mkFI Try.f46 .b [] [] []
noncomputable def fi47 : FI := mkFI Try.f47 .b [] [] []
noncomputable def fi48 : FI := mkFI Try.f48 .b [] [] []
noncomputable def fi49 : FI := mkFI Try.f49 (.sl 2 1) [] [⟨[1], (.so 0), [(.row true 2)], []⟩] []
noncomputable def fi50 : FI := mkFI Try.f50 (.i .i64) [] [] []
noncomputable def fi51 : FI := mkFI Try.f51 (.i .i64) [] [] []
noncomputable def fi52 : FI := mkFI Try.f52 .b [] [] []
noncomputable def fi53 : FI := mkFI Try.f53 (.sl 2 1) [] [⟨[5, 5, 5, 5, 1, 1, 5], (.pr 0), [(.row true 2)], []⟩] []
noncomputable def fi54 : FI := mkFI Try.f54 .b [] [] []
noncomputable def fi55 : FI := mkFI Try.f55 (.i .i64) [] [] []
noncomputable def fi56 : FI := mkFI Try.f56 (.tup [(.agg [(.i .i64), (.i .i64), (.i .i64), (.i .i64), (.sl 2 1), (.sl 2 1)]), (.i .i64)]) [] [⟨[5, 5, 5, 5, 1, 1, 5], (.tup [(.agg [(.i .i64), (.i .i64), (.i .i64), (.i .i64), (.so 0), (.so 1)]), (.i .i64)]), [(.row true 2), (.row true 2)], [(10, [1, 4, 6], 9)]⟩] []
noncomputable def fi57 : FI := mkFI Try.f57 .b [] [] []
noncomputable def fi58 : FI := mkFI Try.f58 (.i .i64) [] [] []
noncomputable def fi59 : FI := mkFI Try.f59 .b [(2, [0, 1, 5], 0)] [] []
noncomputable def fi60 : FI := mkFI Try.f60 (.agg [(.i .i64), (.i .i64), (.i .i64), (.i .i64), (.sl 2 1), (.sl 2 1)]) [] [⟨[5, 5, 5, 5, 1, 1], (.agg [(.i .i64), (.i .i64), (.i .i64), (.i .i64), (.so 0), (.so 1)]), [(.row true 2), (.row true 2)], []⟩] []
noncomputable def fi61 : FI := mkFI Try.f61 (.sl 2 1) [] [⟨[1, 5], (.so 0), [(.row true 2)], [(4, [0, 1, 5, 6, 7], 2), (10, [0, 1, 5, 6, 7], 2), (13, [5], 2)]⟩] []
noncomputable def fi62 : FI := mkFI Try.f62 (.i .i64) [(2, [1, 2, 5], 1)] [] []
noncomputable def fi63 : FI := mkFI Try.f63 (.sl 2 1) [] [⟨[5, 5, 5, 5, 1, 1, 5], (.so 0), [(.row true 2)], [(3, [1, 2, 5, 6], 3), (4, [1, 2, 5, 6], 3)]⟩] []
noncomputable def fi64 : FI := mkFI Try.f64 .b [] [] []
noncomputable def fi65 : FI := mkFI Try.f65 (.i .i64) [] [] []
noncomputable def fi66 : FI := mkFI Try.f66 .b [] [] []
noncomputable def fi67 : FI := mkFI Try.f67 .b [] [] []
noncomputable def fi68 : FI := mkFI Try.f68 .b [] [] []
noncomputable def fi69 : FI := mkFI Try.f69 .b [] [] []
noncomputable def fi70 : FI := mkFI Try.f70 (.i .i64) [(2, [0, 1, 7, 8], 0)] [] []
noncomputable def fi97 : FI := mkFI Try.f97 .b [(2, [0, 3], 0)] [] []
noncomputable def fi98 : FI := mkFI Try.f98 .b [] [] []
noncomputable def fi99 : FI := mkFI Try.f99 (.i .i64) [] [] []
noncomputable def fi100 : FI := mkFI Try.f100 (.sl 2 1) [] [⟨[10, 10102, 5], (.pr 0), [(.same 2)], [(5, [0, 1, 5, 6], 1), (6, [0, 1, 5, 6], 1)]⟩] [0]
noncomputable def fi101 : FI := mkFI Try.f101 (.sl 2 1) [] [⟨[5, 5, 5, 5, 1, 1, 5], (.so 0), [(.row true 2)], [(3, [1, 2, 5, 6], 3)]⟩] []
noncomputable def fi102 : FI := mkFI Try.f102 .b [] [] []
noncomputable def fi103 : FI := mkFI Try.f103 (.agg [(.i .i64), (.i .i64), (.i .i64), (.i .i64), (.sl 2 1), (.sl 2 1)]) [] [⟨[5, 5, 5, 5, 1, 1], (.agg [(.i .i64), (.i .i64), (.i .i64), (.i .i64), (.so 0), (.so 1)]), [(.row true 2), (.row true 2)], []⟩] []
noncomputable def fi104 : FI := mkFI Try.f104 (.tup [(.i .i64), .b]) [(3, [0, 1, 6, 7, 8], 0)] [] []
noncomputable def fi105 : FI := mkFI Try.f105 (.sl 2 1) [] [⟨[10, 5, 12], (.so 0), [(.row true 2), (.row true 2)], []⟩] [0, 2]
noncomputable def fi106 : FI := mkFI Try.f106 (.sl 2 1) [] [⟨[1], (.so 0), [(.row true 2)], []⟩] []
noncomputable def fi107 : FI := mkFI Try.f107 .b [] [] []
noncomputable def fi108 : FI := mkFI Try.f108 .b [(2, [0, 1, 2, 7], 0), (3, [0, 1, 2, 7], 0)] [] []
noncomputable def fi118 : FI := mkFI Try.f118 .b [] [] []
noncomputable def fi129 : FI := mkFI Try.f129 .b [] [] []
noncomputable def fi130 : FI := mkFI Try.f130 (.i .i64) [(2, [0, 1, 7, 8], 0)] [] []
noncomputable def fi131 : FI := mkFI Try.f131 .b [] [] []
noncomputable def fi132 : FI := mkFI Try.f132 .b [] [] []
noncomputable def fi141 : FI := mkFI Try.f141 .b [] [] []
noncomputable def fns : BT FI := (.node (.node (.node (.node (.node (.node .nil 4 fi4 .nil) 15 fi15 (.node .nil 16 fi16 .nil)) 17 fi17 (.node (.node .nil 18 fi18 .nil) 19 fi19 .nil)) 20 fi20 (.node (.node (.node .nil 21 fi21 .nil) 22 fi22 (.node .nil 23 fi23 .nil)) 46 fi46 (.node (.node .nil 47 fi47 .nil) 48 fi48 .nil))) 49 fi49 (.node (.node (.node (.node .nil 50 fi50 .nil) 51 fi51 (.node .nil 52 fi52 .nil)) 53 fi53 (.node (.node .nil 54 fi54 .nil) 55 fi55 .nil)) 56 fi56 (.node (.node (.node .nil 57 fi57 .nil) 58 fi58 .nil) 59 fi59 (.node (.node .nil 60 fi60 .nil) 61 fi61 .nil)))) 62 fi62 (.node (.node (.node (.node (.node .nil 63 fi63 .nil) 64 fi64 (.node .nil 65 fi65 .nil)) 66 fi66 (.node (.node .nil 67 fi67 .nil) 68 fi68 .nil)) 69 fi69 (.node (.node (.node .nil 70 fi70 .nil) 97 fi97 (.node .nil 98 fi98 .nil)) 99 fi99 (.node (.node .nil 100 fi100 .nil) 101 fi101 .nil))) 102 fi102 (.node (.node (.node (.node .nil 103 fi103 .nil) 104 fi104 (.node .nil 105 fi105 .nil)) 106 fi106 (.node (.node .nil 107 fi107 .nil) 108 fi108 .nil)) 118 fi118 (.node (.node (.node .nil 129 fi129 .nil) 130 fi130 .nil) 131 fi131 (.node (.node .nil 132 fi132 .nil) 141 fi141 .nil)))))
theorem ty_ok : tys.all (tyOk Try.prog) = true := by kernel_rfl
noncomputable def E0 : Env := ⟨tys.get, fun _ => none, fun _ => none, fun _ => none⟩
theorem env0 : EnvOk Try.prog E0 := ⟨fun t ti h => tys.get_all ty_ok h, fun g fi h => (by cases h), by kernel_rfl, fun g p h => (by cases h), fun g p h => (by cases h)⟩
set_option maxRecDepth 100000 in
theorem po49 : PoOk Try.prog 49 (prClone 1 8 2) :=
  clone_ok env0 (f := Try.f49) (fi := fi49) (st1 := fun es => ⟨mkT 8 [(0, (.imm 1 es)), (1, .u), (2, (.sl 0 [] none)), (3, .u), (4, .u), (5, .u), (6, .u), (7, .u)], [.live true false false 2 []]⟩) Try.func49 rfl (by rfl) (by rfl) (by exact ⟨rfl, rfl, rfl⟩) (by exact ⟨rfl, rfl, rfl⟩) Try.underlying43
    (fun es => by kernel_rfl) (fun es => by kernel_rfl) (fun es => by kernel_rfl) (by kernel_rfl) (fun es h => (by kernel_rfl : _ = if es.length * 8 ≤ room then some (.sl 0 [] none, [.live true false false 2 es]) else none).trans (if_pos h))
theorem po105 : PoOk Try.prog 105 (prInsert 8 2) := insert_ok (te := ⟨(.i .i64), 1, 8, 0, []⟩) env0 (by kernel_rfl) Go.Proofs.YtkicholhkoahhaaIns105.ok
noncomputable def pos : BT (List AV → List Root → Option (AV × List Root)) := (.node (.node .nil 49 (prClone 1 8 2) .nil) 105 (prInsert 8 2) .nil)
noncomputable def prs : BT (List AV → Option AV) := .nil
noncomputable def E : Env := ⟨tys.get, fns.get, prs.get, pos.get⟩
theorem fn_ok : fns.All (FnOk Try.prog) := ⟨⟨⟨⟨⟨⟨trivial, fnOk_mk Try.func4 (by kernel_rfl), trivial⟩, fnOk_mk Try.func15 (by kernel_rfl), ⟨trivial, fnOk_mk Try.func16 (by kernel_rfl), trivial⟩⟩, fnOk_mk Try.func17 (by kernel_rfl), ⟨⟨trivial, fnOk_mk Try.func18 (by kernel_rfl), trivial⟩, fnOk_mk Try.func19 (by kernel_rfl), trivial⟩⟩, fnOk_mk Try.func20 (by kernel_rfl), ⟨⟨⟨trivial, fnOk_mk Try.func21 (by kernel_rfl), trivial⟩, fnOk_mk Try.func22 (by kernel_rfl), ⟨trivial, fnOk_mk Try.func23 (by kernel_rfl), trivial⟩⟩, fnOk_mk Try.func46 (by kernel_rfl), ⟨⟨trivial, fnOk_mk Try.func47 (by kernel_rfl), trivial⟩, fnOk_mk Try.func48 (by kernel_rfl), trivial⟩⟩⟩, fnOk_mk Try.func49 (by kernel_rfl), ⟨⟨⟨⟨trivial, fnOk_mk Try.func50 (by kernel_rfl), trivial⟩, fnOk_mk Try.func51 (by kernel_rfl), ⟨trivial, fnOk_mk Try.func52 (by kernel_rfl), trivial⟩⟩, fnOk_mk Try.func53 (by kernel_rfl), ⟨⟨trivial, fnOk_mk Try.func54 (by kernel_rfl), trivial⟩, fnOk_mk Try.func55 (by kernel_rfl), trivial⟩⟩, fnOk_mk Try.func56 (by kernel_rfl), ⟨⟨⟨trivial, fnOk_mk Try.func57 (by kernel_rfl), trivial⟩, fnOk_mk Try.func58 (by kernel_rfl), trivial⟩, fnOk_mk Try.func59 (by kernel_rfl), ⟨⟨trivial, fnOk_mk Try.func60 (by kernel_rfl), trivial⟩, fnOk_mk Try.func61 (by kernel_rfl), trivial⟩⟩⟩⟩, fnOk_mk Try.func62 (by kernel_rfl), ⟨⟨⟨⟨⟨trivial, fnOk_mk Try.func63 (by kernel_rfl), trivial⟩, fnOk_mk Try.func64 (by kernel_rfl), ⟨trivial, fnOk_mk Try.func65 (by kernel_rfl), trivial⟩⟩, fnOk_mk Try.func66 (by kernel_rfl), ⟨⟨trivial, fnOk_mk Try.func67 (by kernel_rfl), trivial⟩, fnOk_mk Try.func68 (by kernel_rfl), trivial⟩⟩, fnOk_mk Try.func69 (by kernel_rfl), ⟨⟨⟨trivial, fnOk_mk Try.func70 (by kernel_rfl), trivial⟩, fnOk_mk Try.func97 (by kernel_rfl), ⟨trivial, fnOk_mk Try.func98 (by kernel_rfl), trivial⟩⟩, fnOk_mk Try.func99 (by kernel_rfl), ⟨⟨trivial, fnOk_mk Try.func100 (by kernel_rfl), trivial⟩, fnOk_mk Try.func101 (by kernel_rfl), trivial⟩⟩⟩, fnOk_mk Try.func102 (by kernel_rfl), ⟨⟨⟨⟨trivial, fnOk_mk Try.func103 (by kernel_rfl), trivial⟩, fnOk_mk Try.func104 (by kernel_rfl), ⟨trivial, fnOk_mk Try.func105 (by kernel_rfl), trivial⟩⟩, fnOk_mk Try.func106 (by kernel_rfl), ⟨⟨trivial, fnOk_mk Try.func107 (by kernel_rfl), trivial⟩, fnOk_mk Try.func108 (by kernel_rfl), trivial⟩⟩, fnOk_mk Try.func118 (by kernel_rfl), ⟨⟨⟨trivial, fnOk_mk Try.func129 (by kernel_rfl), trivial⟩, fnOk_mk Try.func130 (by kernel_rfl), trivial⟩, fnOk_mk Try.func131 (by kernel_rfl), ⟨⟨trivial, fnOk_mk Try.func132 (by kernel_rfl), trivial⟩, fnOk_mk Try.func141 (by kernel_rfl), trivial⟩⟩⟩⟩⟩
theorem pr_ok : prs.All (PrOk Try.prog) := trivial
theorem po_ok : pos.All (PoOk Try.prog) := ⟨⟨trivial, po49, trivial⟩, po105, trivial⟩
theorem env : EnvOk Try.prog E := ⟨fun t ti h => tys.get_all ty_ok h, fun g fi h => fns.get_All fn_ok h, by kernel_rfl, fun g p h => prs.get_All pr_ok h, fun g p h => pos.get_All po_ok h⟩
theorem ty5 : E.Γ 5 = some ⟨(.i .u8), 1, 1, 0, []⟩ := by kernel_rfl
theorem ty36 : E.Γ 36 = some ⟨(.sl 5 1), 1, 24, 5, []⟩ := by kernel_rfl
theorem fn4 : E.Φ 4 = some fi4 := by kernel_rfl
end Go.Proofs.Ytkicholhkoahhaa.IBadBlocks
