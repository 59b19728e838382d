/- Printed by a program of this work (wip/it/itp.py): the tables of types and functions. No condition. -/
import Derived.Test.YtokpbjbngnlepaaChecked
import Derived.Test.YtokpbjbngnlepaaIt7
import Derived.Lib.Walk
import Derived.Lib.Strings
import Derived.Lib.Slices
namespace Go.Proofs.Ytokpbjbngnlepaa.IVisibleAt
open Go Go.Proofs.YtokpbjbngnlepaaIT
set_option linter.unusedVariables false
noncomputable def tys : BT TI := (.node (.node (.node (.node (.node .nil 2 ⟨(.i .i64), 1, 8, 0, []⟩ .nil) 3 ⟨(.i .i64), 1, 8, 0, []⟩ .nil) 4 ⟨.b, 1, 1, 0, []⟩ (.node .nil 5 ⟨(.i .u8), 1, 1, 0, []⟩ .nil)) 9 ⟨.s, 1, 16, 0, []⟩ (.node (.node .nil 42 ⟨(.sl 62 5), 1, 24, 62, []⟩ .nil) 44 ⟨(.sl 99 2), 1, 24, 99, []⟩ (.node .nil 46 ⟨(.sl 66 5), 1, 24, 66, []⟩ .nil))) 62 ⟨(.agg [.s, (.i .i64), (.i .i64), .s, .s]), 5, 64, 0, [(0, 9), (1, 2), (2, 2), (3, 9), (4, 9)]⟩ (.node (.node (.node .nil 66 ⟨(.agg [.s, (.i .i64), (.i .i64), .s, .s]), 5, 64, 0, [(0, 9), (1, 2), (2, 2), (3, 9), (4, 9)]⟩ .nil) 99 ⟨(.agg [.s, .s]), 2, 32, 0, [(0, 9), (1, 9)]⟩ (.node .nil 103 ⟨.fn, 1, 8, 0, []⟩ .nil)) 119 ⟨(.sl 9 1), 1, 24, 9, []⟩ (.node (.node .nil 134 ⟨.fn, 1, 8, 0, [(2, 4)]⟩ .nil) 145 ⟨(.sl 5 1), 1, 24, 5, []⟩ (.node .nil 186 ⟨(.sl 3 1), 1, 24, 3, []⟩ .nil))))
noncomputable def fi5 : FI := mkFI Try.f5 .b [] [] []
noncomputable def fi15 : FI := mkFI Try.f15 (.i .i64) [(5, [0, 1, 5], 0)] [] []
noncomputable def fi17 : FI := mkFI Try.f17 (.sl 66 5) [] [⟨[1], (.so 0), [(.row true 66)], [(3, [0, 3, 4], 2)]⟩] []
noncomputable def fi18 : FI := mkFI Try.f18 (.sl 99 2) [] [⟨[1, 5, 5, 5], (.so 0), [(.row true 99)], []⟩] []
noncomputable def fi19 : FI := mkFI Try.f19 .b [(4, [0, 1, 5], 0)] [] []
noncomputable def fi20 : FI := mkFI Try.f20 .b [(4, [0, 1, 5], 0)] [] []
noncomputable def fi21 : FI := mkFI Try.f21 (.i .i64) [] [⟨[10, 5], (.i .i64), [(.same 66)], [(2, [0, 1, 5], 1)]⟩] [0]
noncomputable def fi22 : FI := mkFI Try.f22 (.i .i64) [] [⟨[10, 5], (.i .i64), [(.same 99)], [(2, [0, 1, 5], 1)]⟩] [0]
noncomputable def fi23 : FI := mkFI Try.f23 (.i .i64) [(2, [0, 1, 5], 0)] [] []
noncomputable def fi24 : FI := mkFI Try.f24 (.sl 99 2) [] [⟨[1, 5], (.so 0), [(.row true 99)], []⟩] []
noncomputable def fi25 : FI := mkFI Try.f25 (.sl 99 2) [] [⟨[1, 5], (.so 0), [(.row true 99)], []⟩] []
noncomputable def fi32 : FI := mkFI Try.f32 (.i .i64) [] [] []
noncomputable def fi34 : FI := mkFI Try.f34 (.agg [.s, (.i .i64), (.i .i64), .s, .s]) [] [] []
noncomputable def fi59 : FI := mkFI Try.f59 .b [(2, [0, 3], 0), (6, [0, 3], 0), (7, [0, 3, 4], 0)] [] []
noncomputable def fi61 : FI := mkFI Try.f61 (.sl 99 2) [] [⟨[1, 5, 5, 5], (.so 0), [(.row true 99)], [(4, [0, 1, 2, 3, 9, 10, 11], 2), (5, [0, 1, 2, 3, 9, 10, 11], 2), (8, [0, 1, 2, 3, 9, 11, 12], 2)]⟩] []
noncomputable def fi62 : FI := mkFI Try.f62 .b [(3, [0, 3, 7, 8, 9], 1), (7, [0, 3, 5, 7, 8, 9], 2)] [] []
noncomputable def fi63 : FI := mkFI Try.f63 .b [] [] []
noncomputable def fi64 : FI := mkFI Try.f64 (.sl 99 2) [] [⟨[1, 5, 5, 5], (.so 0), [(.row true 99)], [(4, [0, 1, 2, 3, 11, 22, 23, 24], 2), (7, [0, 1, 2, 3, 11, 13, 22, 23, 24], 2), (10, [0, 1, 2, 3, 11, 22, 23, 24], 2)]⟩] []
noncomputable def fi65 : FI := mkFI Try.f65 .b [] [] []
noncomputable def fi66 : FI := mkFI Try.f66 .b [] [] []
noncomputable def fi67 : FI := mkFI Try.f67 .s [(4, [0, 3], 0)] [] []
noncomputable def fi73 : FI := mkFI Try.f73 .b [] [] []
noncomputable def fi76 : FI := mkFI Try.f76 .b [] [] []
noncomputable def fi80 : FI := mkFI Try.f80 (.sl 66 5) [] [⟨[1], (.so 0), [(.row true 66)], []⟩] []
noncomputable def fi97 : FI := mkFI Try.f97 .b [] [] []
noncomputable def fi102 : FI := mkFI Try.f102 .b [] [] []
noncomputable def fi109 : FI := mkFI Try.f109 .b [] [] []
noncomputable def fi110 : FI := mkFI Try.f110 .b [] [] []
noncomputable def fi111 : FI := mkFI Try.f111 (.tup [.s, .b]) [] [] []
noncomputable def fi112 : FI := mkFI Try.f112 .b [] [] []
noncomputable def fi113 : FI := mkFI Try.f113 .b [] [] []
noncomputable def fi114 : FI := mkFI Try.f114 (.tup [(.sl 66 5), (.sl 66 5)]) [] [] []
noncomputable def fi115 : FI := mkFI Try.f115 (.sl 9 1) [(3, [3, 6, 7, 8], 2)] [] []
noncomputable def fi116 : FI := mkFI Try.f116 (.tup [.s, .b]) [] [] []
noncomputable def fi121 : FI := mkFI Try.f121 (.sl 66 5) [] [⟨[10, 10123], (.pr 0), [(.same 66)], [(5, [0, 1, 5, 6], 1), (6, [0, 1, 5, 6], 1)]⟩, ⟨[10, 10162], (.pr 0), [(.same 66)], [(5, [0, 1, 5, 6], 1), (6, [0, 1, 5, 6], 1)]⟩] [0]
noncomputable def fi123 : FI := mkFI Try.f123 .b [] [] []
noncomputable def fi129 : FI := mkFI Try.f129 .b [] [] []
noncomputable def fi132 : FI := mkFI Try.f132 (.i .i64) [] [] []
noncomputable def fi161 : FI := mkFI Try.f161 (.tup [(.agg [.s, (.i .i64), (.i .i64), .s, .s]), .b]) [(3, [0, 1, 2, 6, 8, 9], 2), (4, [0, 1, 2, 6, 8, 9], 2)] [] []
noncomputable def fi162 : FI := mkFI Try.f162 .b [] [] []
noncomputable def fi163 : FI := mkFI Try.f163 (.sl 9 1) [] [⟨[10], (.pr 0), [(.same 9)], [(4, [0, 3], 1), (9, [0, 3, 4, 5], 1), (10, [0, 3, 4, 5], 1)]⟩] [0]
noncomputable def fi164 : FI := mkFI Try.f164 (.tup [(.agg [.s, (.i .i64), (.i .i64), .s, .s]), .b]) [(3, [1, 2, 6, 8, 11, 12, 13], 2), (7, [1, 2, 6, 8, 11, 12, 13], 2)] [] []
noncomputable def fi165 : FI := mkFI Try.f165 .b [] [] []
noncomputable def fi168 : FI := mkFI Try.f168 (.i .i64) [(2, [0, 1, 7, 8], 0)] [] []
noncomputable def fi170 : FI := mkFI Try.f170 (.i .i64) [(3, [3, 6, 7, 8], 0)] [] []
noncomputable def fi171 : FI := mkFI Try.f171 (.i .i64) [] [] []
noncomputable def fi172 : FI := mkFI Try.f172 (.i .i64) [] [] []
noncomputable def fi180 : FI := mkFI Try.f180 (.i .i64) [] [] []
noncomputable def fi181 : FI := mkFI Try.f181 .b [] [] []
noncomputable def fns : BT FI := (.node (.node (.node (.node (.node (.node .nil 5 fi5 .nil) 15 fi15 (.node .nil 17 fi17 .nil)) 18 fi18 (.node (.node .nil 19 fi19 .nil) 20 fi20 .nil)) 21 fi21 (.node (.node (.node .nil 22 fi22 .nil) 23 fi23 .nil) 24 fi24 (.node (.node .nil 25 fi25 .nil) 32 fi32 .nil))) 34 fi34 (.node (.node (.node (.node .nil 59 fi59 .nil) 61 fi61 .nil) 62 fi62 (.node (.node .nil 63 fi63 .nil) 64 fi64 .nil)) 65 fi65 (.node (.node (.node .nil 66 fi66 .nil) 67 fi67 .nil) 73 fi73 (.node (.node .nil 76 fi76 .nil) 80 fi80 .nil)))) 97 fi97 (.node (.node (.node (.node (.node .nil 102 fi102 .nil) 109 fi109 (.node .nil 110 fi110 .nil)) 111 fi111 (.node (.node .nil 112 fi112 .nil) 113 fi113 .nil)) 114 fi114 (.node (.node (.node .nil 115 fi115 .nil) 116 fi116 .nil) 121 fi121 (.node (.node .nil 123 fi123 .nil) 129 fi129 .nil))) 132 fi132 (.node (.node (.node (.node .nil 161 fi161 .nil) 162 fi162 .nil) 163 fi163 (.node (.node .nil 164 fi164 .nil) 165 fi165 .nil)) 168 fi168 (.node (.node (.node .nil 170 fi170 .nil) 171 fi171 .nil) 172 fi172 (.node (.node .nil 180 fi180 .nil) 181 fi181 .nil)))))
theorem ty_ok : tys.all (tyOk Try.prog) = true := by kernel_rfl
set_option maxHeartbeats 1000000 in
set_option maxRecDepth 100000 in
theorem pr180 : PrOk Try.prog 180 prCmp := by
  refine prCmp_ok ?_
  intro a b w
  go_enter Try.func180, Try.ntmps180
  go_wp2
  rw [run_callFunc_extern Try.func183 (by kernel_rfl) (by kernel_rfl) (by kernel_rfl) (e := Extern.BytealgCompare.compare) (by kernel_rfl), Lib.run_compareString]
  simp only [Result.andThen]
  rw [Oper.upon_value]
  go_wp2
  go_ret
  exact ⟨rfl, rfl⟩
noncomputable def E0 : Env := ⟨tys.get, fun _ => none, fun _ => none, fun _ => none⟩
theorem env0 : EnvOk Try.prog E0 := ⟨fun t ti h => tys.get_all ty_ok h, fun g fi h => (by cases h), by kernel_rfl, fun g p h => (by cases h), fun g p h => (by cases h)⟩
set_option maxRecDepth 100000 in
theorem po80 : PoOk Try.prog 80 (prClone 5 64 66) :=
  clone_ok env0 (f := Try.f80) (fi := fi80) (st1 := fun es => ⟨mkT 8 [(0, (.imm 5 es)), (1, .u), (2, (.sl 0 [] none)), (3, .u), (4, .u), (5, .u), (6, .u), (7, .u)], [.live true false false 66 []]⟩) Try.func80 rfl (by rfl) (by rfl) (by exact ⟨rfl, rfl, rfl⟩) (by exact ⟨rfl, rfl, rfl⟩) Try.underlying46
    (fun es => by kernel_rfl) (fun es => by kernel_rfl) (fun es => by kernel_rfl) (by kernel_rfl) (fun es h => (by kernel_rfl : _ = if es.length * 64 ≤ room then some (.sl 0 [] none, [.live true false false 66 es]) else none).trans (if_pos h))
noncomputable def pos : BT (List AV → List Root → Option (AV × List Root)) := (.node .nil 80 (prClone 5 64 66) .nil)
noncomputable def prs : BT (List AV → Option AV) := (.node .nil 180 prCmp .nil)
noncomputable def E : Env := ⟨tys.get, fns.get, prs.get, pos.get⟩
theorem fn_ok : fns.All (FnOk Try.prog) := ⟨⟨⟨⟨⟨⟨trivial, fnOk_mk Try.func5 (by kernel_rfl), trivial⟩, fnOk_mk Try.func15 (by kernel_rfl), ⟨trivial, fnOk_mk Try.func17 (by kernel_rfl), trivial⟩⟩, fnOk_mk Try.func18 (by kernel_rfl), ⟨⟨trivial, fnOk_mk Try.func19 (by kernel_rfl), trivial⟩, fnOk_mk Try.func20 (by kernel_rfl), trivial⟩⟩, fnOk_mk Try.func21 (by kernel_rfl), ⟨⟨⟨trivial, fnOk_mk Try.func22 (by kernel_rfl), trivial⟩, fnOk_mk Try.func23 (by kernel_rfl), trivial⟩, fnOk_mk Try.func24 (by kernel_rfl), ⟨⟨trivial, fnOk_mk Try.func25 (by kernel_rfl), trivial⟩, fnOk_mk Try.func32 (by kernel_rfl), trivial⟩⟩⟩, fnOk_mk Try.func34 (by kernel_rfl), ⟨⟨⟨⟨trivial, fnOk_mk Try.func59 (by kernel_rfl), trivial⟩, fnOk_mk Try.func61 (by kernel_rfl), trivial⟩, fnOk_mk Try.func62 (by kernel_rfl), ⟨⟨trivial, fnOk_mk Try.func63 (by kernel_rfl), trivial⟩, fnOk_mk Try.func64 (by kernel_rfl), trivial⟩⟩, fnOk_mk Try.func65 (by kernel_rfl), ⟨⟨⟨trivial, fnOk_mk Try.func66 (by kernel_rfl), trivial⟩, fnOk_mk Try.func67 (by kernel_rfl), trivial⟩, fnOk_mk Try.func73 (by kernel_rfl), ⟨⟨trivial, fnOk_mk Try.func76 (by kernel_rfl), trivial⟩, fnOk_mk Try.func80 (by kernel_rfl), trivial⟩⟩⟩⟩, fnOk_mk Try.func97 (by kernel_rfl), ⟨⟨⟨⟨⟨trivial, fnOk_mk Try.func102 (by kernel_rfl), trivial⟩, fnOk_mk Try.func109 (by kernel_rfl), ⟨trivial, fnOk_mk Try.func110 (by kernel_rfl), trivial⟩⟩, fnOk_mk Try.func111 (by kernel_rfl), ⟨⟨trivial, fnOk_mk Try.func112 (by kernel_rfl), trivial⟩, fnOk_mk Try.func113 (by kernel_rfl), trivial⟩⟩, fnOk_mk Try.func114 (by kernel_rfl), ⟨⟨⟨trivial, fnOk_mk Try.func115 (by kernel_rfl), trivial⟩, fnOk_mk Try.func116 (by kernel_rfl), trivial⟩, fnOk_mk Try.func121 (by kernel_rfl), ⟨⟨trivial, fnOk_mk Try.func123 (by kernel_rfl), trivial⟩, fnOk_mk Try.func129 (by kernel_rfl), trivial⟩⟩⟩, fnOk_mk Try.func132 (by kernel_rfl), ⟨⟨⟨⟨trivial, fnOk_mk Try.func161 (by kernel_rfl), trivial⟩, fnOk_mk Try.func162 (by kernel_rfl), trivial⟩, fnOk_mk Try.func163 (by kernel_rfl), ⟨⟨trivial, fnOk_mk Try.func164 (by kernel_rfl), trivial⟩, fnOk_mk Try.func165 (by kernel_rfl), trivial⟩⟩, fnOk_mk Try.func168 (by kernel_rfl), ⟨⟨⟨trivial, fnOk_mk Try.func170 (by kernel_rfl), trivial⟩, fnOk_mk Try.func171 (by kernel_rfl), trivial⟩, fnOk_mk Try.func172 (by kernel_rfl), ⟨⟨trivial, fnOk_mk Try.func180 (by kernel_rfl), trivial⟩, fnOk_mk Try.func181 (by kernel_rfl), trivial⟩⟩⟩⟩⟩
theorem pr_ok : prs.All (PrOk Try.prog) := ⟨trivial, pr180, trivial⟩
theorem po_ok : pos.All (PoOk Try.prog) := ⟨trivial, po80, trivial⟩
theorem env : EnvOk Try.prog E := ⟨fun t ti h => tys.get_all ty_ok h, fun g fi h => fns.get_All fn_ok h, by kernel_rfl, fun g p h => prs.get_All pr_ok h, fun g p h => pos.get_All po_ok h⟩
theorem ty2 : E.Γ 2 = some ⟨(.i .i64), 1, 8, 0, []⟩ := by kernel_rfl
theorem ty42 : E.Γ 42 = some ⟨(.sl 62 5), 1, 24, 62, []⟩ := by kernel_rfl
theorem ty62 : E.Γ 62 = some ⟨(.agg [.s, (.i .i64), (.i .i64), .s, .s]), 5, 64, 0, [(0, 9), (1, 2), (2, 2), (3, 9), (4, 9)]⟩ := by kernel_rfl
theorem fn5 : E.Φ 5 = some fi5 := by kernel_rfl
end Go.Proofs.Ytokpbjbngnlepaa.IVisibleAt
