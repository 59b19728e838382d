/- Printed by a program of this work (wip/it/itp.py): the tables of types and functions. No condition. -/
import Derived.Test.YtokpbjbngnlepaaChecked
import Derived.Test.YtokpbjbngnlepaaIt7
import Derived.Lib.Walk
import Derived.Lib.Strings
import Derived.Lib.Slices
namespace Go.Proofs.Ytokpbjbngnlepaa.IDropHidden
open Go Go.Proofs.YtokpbjbngnlepaaIT
set_option linter.unusedVariables false
noncomputable def tys : BT TI := (.node (.node (.node (.node .nil 2 ⟨(.i .i64), 1, 8, 0, []⟩ .nil) 3 ⟨(.i .i64), 1, 8, 0, []⟩ (.node .nil 4 ⟨.b, 1, 1, 0, []⟩ .nil)) 5 ⟨(.i .u8), 1, 1, 0, []⟩ (.node (.node .nil 9 ⟨.s, 1, 16, 0, []⟩ .nil) 42 ⟨(.sl 62 5), 1, 24, 62, []⟩ (.node .nil 46 ⟨(.sl 66 5), 1, 24, 66, []⟩ .nil))) 55 ⟨(.sl 2 1), 1, 24, 2, []⟩ (.node (.node (.node .nil 62 ⟨(.agg [.s, (.i .i64), (.i .i64), .s, .s]), 5, 64, 0, [(0, 9), (1, 2), (2, 2), (3, 9), (4, 9)]⟩ .nil) 66 ⟨(.agg [.s, (.i .i64), (.i .i64), .s, .s]), 5, 64, 0, [(0, 9), (1, 2), (2, 2), (3, 9), (4, 9)]⟩ (.node .nil 103 ⟨.fn, 1, 8, 0, []⟩ .nil)) 134 ⟨.fn, 1, 8, 0, [(2, 4)]⟩ (.node (.node .nil 145 ⟨(.sl 5 1), 1, 24, 5, []⟩ .nil) 176 ⟨.fn, 1, 8, 0, []⟩ (.node .nil 186 ⟨(.sl 3 1), 1, 24, 3, []⟩ .nil))))
noncomputable def fi6 : FI := mkFI Try.f6 .b [] [] []
noncomputable def fi15 : FI := mkFI Try.f15 (.i .i64) [(5, [0, 1, 5], 0)] [] []
noncomputable def fi17 : FI := mkFI Try.f17 (.sl 66 5) [] [⟨[1], (.so 0), [(.row true 66)], [(3, [0, 3, 4], 2)]⟩] []
noncomputable def fi20 : FI := mkFI Try.f20 .b [(4, [0, 1, 5], 0)] [] []
noncomputable def fi21 : FI := mkFI Try.f21 (.i .i64) [] [⟨[10, 5], (.i .i64), [(.same 66)], [(2, [0, 1, 5], 1)]⟩, ⟨[11, 5], (.i .i64), [(.same 66)], [(2, [0, 1, 5], 1)]⟩] [0]
noncomputable def fi26 : FI := mkFI Try.f26 (.sl 66 5) [] [⟨[1, 1, 5], (.so 0), [(.row true 66)], []⟩] []
noncomputable def fi27 : FI := mkFI Try.f27 (.sl 2 1) [] [⟨[1], (.so 0), [(.row true 2)], [(3, [0, 3, 4], 2)]⟩] []
noncomputable def fi28 : FI := mkFI Try.f28 (.sl 66 5) [] [⟨[1, 1, 5], (.pr 0), [(.row true 66)], []⟩] []
noncomputable def fi29 : FI := mkFI Try.f29 .b [(4, [0, 1, 5], 0)] [] []
noncomputable def fi30 : FI := mkFI Try.f30 (.i .i64) [] [⟨[10, 5], (.i .i64), [(.same 2)], [(2, [0, 1, 5], 1)]⟩] [0]
noncomputable def fi31 : FI := mkFI Try.f31 (.i .i64) [(2, [0, 1, 5], 0)] [] []
noncomputable def fi32 : FI := mkFI Try.f32 (.i .i64) [] [] []
noncomputable def fi34 : FI := mkFI Try.f34 (.agg [.s, (.i .i64), (.i .i64), .s, .s]) [] [] []
noncomputable def fi59 : FI := mkFI Try.f59 .b [(2, [0, 3], 0), (6, [0, 3], 0), (7, [0, 3, 4], 0)] [] []
noncomputable def fi62 : FI := mkFI Try.f62 .b [(3, [0, 3, 7, 8, 9], 1), (7, [0, 3, 5, 7, 8, 9], 2)] [] []
noncomputable def fi66 : FI := mkFI Try.f66 .b [] [] []
noncomputable def fi67 : FI := mkFI Try.f67 .s [(4, [0, 3], 0)] [] []
noncomputable def fi68 : FI := mkFI Try.f68 .b [(2, [0, 3], 0), (3, [0, 3], 0)] [] []
noncomputable def fi69 : FI := mkFI Try.f69 (.sl 66 5) [] [⟨[1, 1, 5], (.so 0), [(.row true 66)], [(3, [0, 1, 2, 7, 8], 2), (4, [0, 1, 2, 7, 8], 2), (6, [0, 1, 2, 7, 8], 2), (11, [7, 9, 10], 3), (12, [7, 9, 10], 3)]⟩] []
noncomputable def fi70 : FI := mkFI Try.f70 .b [] [] []
noncomputable def fi71 : FI := mkFI Try.f71 (.sl 66 5) [] [⟨[1, 1, 5], (.pr 0), [(.row true 66)], []⟩] []
noncomputable def fi73 : FI := mkFI Try.f73 .b [] [] []
noncomputable def fi76 : FI := mkFI Try.f76 .b [] [] []
noncomputable def fi80 : FI := mkFI Try.f80 (.sl 66 5) [] [⟨[1], (.so 0), [(.row true 66)], []⟩] []
noncomputable def fi97 : FI := mkFI Try.f97 .b [] [] []
noncomputable def fi102 : FI := mkFI Try.f102 .b [] [] []
noncomputable def fi109 : FI := mkFI Try.f109 .b [] [] []
noncomputable def fi110 : FI := mkFI Try.f110 .b [] [] []
noncomputable def fi112 : FI := mkFI Try.f112 .b [] [] []
noncomputable def fi113 : FI := mkFI Try.f113 .b [] [] []
noncomputable def fi117 : FI := mkFI Try.f117 .b [(3, [0, 2, 4, 7, 8], 1), (4, [0, 2, 4, 7, 8], 1), (6, [0, 2, 4, 8], 1), (10, [2, 4, 7, 9], 1), (11, [2, 4, 7, 9], 1)] [] []
noncomputable def fi118 : FI := mkFI Try.f118 .b [(2, [0, 3, 5], 1), (3, [0, 3, 5], 1)] [] []
noncomputable def fi119 : FI := mkFI Try.f119 .b [(2, [0, 3], 0)] [] []
noncomputable def fi120 : FI := mkFI Try.f120 .b [] [] []
noncomputable def fi121 : FI := mkFI Try.f121 (.sl 66 5) [] [⟨[10, 10122, 5, 5], (.pr 0), [(.same 66)], [(5, [0, 1, 5, 6], 1), (6, [0, 1, 5, 6], 1)]⟩, ⟨[10, 10125], (.pr 0), [(.same 66)], [(5, [0, 1, 5, 6], 1), (6, [0, 1, 5, 6], 1)]⟩, ⟨[11, 10126, 5], (.pr 0), [(.same 66)], [(5, [0, 1, 5, 6], 1), (6, [0, 1, 5, 6], 1)]⟩] [0]
noncomputable def fi122 : FI := mkFI Try.f122 .b [] [] []
noncomputable def fi123 : FI := mkFI Try.f123 .b [] [] []
noncomputable def fi124 : FI := mkFI Try.f124 .b [(3, [2, 4, 7, 10, 11, 12], 2), (7, [2, 4, 7, 10, 11, 12], 2)] [] []
noncomputable def fi125 : FI := mkFI Try.f125 .b [] [] []
noncomputable def fi126 : FI := mkFI Try.f126 .b [] [] []
noncomputable def fi127 : FI := mkFI Try.f127 .b [] [] []
noncomputable def fi128 : FI := mkFI Try.f128 .b [] [] []
noncomputable def fi129 : FI := mkFI Try.f129 .b [] [] []
noncomputable def fi132 : FI := mkFI Try.f132 (.i .i64) [] [] []
noncomputable def fi165 : FI := mkFI Try.f165 .b [] [] []
noncomputable def fi166 : FI := mkFI Try.f166 .b [] [] []
noncomputable def fi167 : FI := mkFI Try.f167 .b [] [] []
noncomputable def fi168 : FI := mkFI Try.f168 (.i .i64) [(2, [0, 1, 7, 8], 0)] [] []
noncomputable def fi169 : FI := mkFI Try.f169 .b [] [] []
noncomputable def fi170 : FI := mkFI Try.f170 (.i .i64) [(3, [3, 6, 7, 8], 0)] [] []
noncomputable def fi171 : FI := mkFI Try.f171 (.i .i64) [] [] []
noncomputable def fi172 : FI := mkFI Try.f172 (.i .i64) [] [] []
noncomputable def fi179 : FI := mkFI Try.f179 (.i .i64) [(2, [0, 1, 7, 8], 0)] [] []
noncomputable def fi180 : FI := mkFI Try.f180 (.i .i64) [] [] []
noncomputable def fi181 : FI := mkFI Try.f181 .b [] [] []
noncomputable def fns : BT FI := (.node (.node (.node (.node (.node (.node .nil 6 fi6 .nil) 15 fi15 (.node .nil 17 fi17 .nil)) 20 fi20 (.node (.node .nil 21 fi21 .nil) 26 fi26 .nil)) 27 fi27 (.node (.node (.node .nil 28 fi28 .nil) 29 fi29 (.node .nil 30 fi30 .nil)) 31 fi31 (.node (.node .nil 32 fi32 .nil) 34 fi34 .nil))) 59 fi59 (.node (.node (.node (.node .nil 62 fi62 .nil) 66 fi66 (.node .nil 67 fi67 .nil)) 68 fi68 (.node (.node .nil 69 fi69 .nil) 70 fi70 .nil)) 71 fi71 (.node (.node (.node .nil 73 fi73 .nil) 76 fi76 (.node .nil 80 fi80 .nil)) 97 fi97 (.node (.node .nil 102 fi102 .nil) 109 fi109 .nil)))) 110 fi110 (.node (.node (.node (.node (.node .nil 112 fi112 .nil) 113 fi113 (.node .nil 117 fi117 .nil)) 118 fi118 (.node (.node .nil 119 fi119 .nil) 120 fi120 .nil)) 121 fi121 (.node (.node (.node .nil 122 fi122 .nil) 123 fi123 (.node .nil 124 fi124 .nil)) 125 fi125 (.node (.node .nil 126 fi126 .nil) 127 fi127 .nil))) 128 fi128 (.node (.node (.node (.node .nil 129 fi129 .nil) 132 fi132 (.node .nil 165 fi165 .nil)) 166 fi166 (.node (.node .nil 167 fi167 .nil) 168 fi168 .nil)) 169 fi169 (.node (.node (.node .nil 170 fi170 .nil) 171 fi171 (.node .nil 172 fi172 .nil)) 179 fi179 (.node (.node .nil 180 fi180 .nil) 181 fi181 .nil)))))
theorem ty_ok : tys.all (tyOk Try.prog) = true := by kernel_rfl
set_option maxHeartbeats 1000000 in
set_option maxRecDepth 100000 in
theorem pr180 : PrOk Try.prog 180 prCmp := by
  refine prCmp_ok ?_
  intro a b w
  go_enter Try.func180, Try.ntmps180
  go_wp2
  rw [run_callFunc_extern Try.func183 (by kernel_rfl) (by kernel_rfl) (by kernel_rfl) (e := Extern.BytealgCompare.compare) (by kernel_rfl), Lib.run_compareString]
  simp only [Result.andThen]
  rw [Oper.upon_value]
  go_wp2
  go_ret
  exact ⟨rfl, rfl⟩
noncomputable def E0 : Env := ⟨tys.get, fun _ => none, fun _ => none, fun _ => none⟩
theorem env0 : EnvOk Try.prog E0 := ⟨fun t ti h => tys.get_all ty_ok h, fun g fi h => (by cases h), by kernel_rfl, fun g p h => (by cases h), fun g p h => (by cases h)⟩
set_option maxRecDepth 100000 in
theorem po80 : PoOk Try.prog 80 (prClone 5 64 66) :=
  clone_ok env0 (f := Try.f80) (fi := fi80) (st1 := fun es => ⟨mkT 8 [(0, (.imm 5 es)), (1, .u), (2, (.sl 0 [] none)), (3, .u), (4, .u), (5, .u), (6, .u), (7, .u)], [.live true false false 66 []]⟩) Try.func80 rfl (by rfl) (by rfl) (by exact ⟨rfl, rfl, rfl⟩) (by exact ⟨rfl, rfl, rfl⟩) Try.underlying46
    (fun es => by kernel_rfl) (fun es => by kernel_rfl) (fun es => by kernel_rfl) (by kernel_rfl) (fun es h => (by kernel_rfl : _ = if es.length * 64 ≤ room then some (.sl 0 [] none, [.live true false false 66 es]) else none).trans (if_pos h))
noncomputable def pos : BT (List AV → List Root → Option (AV × List Root)) := (.node .nil 80 (prClone 5 64 66) .nil)
noncomputable def prs : BT (List AV → Option AV) := (.node .nil 180 prCmp .nil)
noncomputable def E : Env := ⟨tys.get, fns.get, prs.get, pos.get⟩
theorem fn_ok : fns.All (FnOk Try.prog) := ⟨⟨⟨⟨⟨⟨trivial, fnOk_mk Try.func6 (by kernel_rfl), trivial⟩, fnOk_mk Try.func15 (by kernel_rfl), ⟨trivial, fnOk_mk Try.func17 (by kernel_rfl), trivial⟩⟩, fnOk_mk Try.func20 (by kernel_rfl), ⟨⟨trivial, fnOk_mk Try.func21 (by kernel_rfl), trivial⟩, fnOk_mk Try.func26 (by kernel_rfl), trivial⟩⟩, fnOk_mk Try.func27 (by kernel_rfl), ⟨⟨⟨trivial, fnOk_mk Try.func28 (by kernel_rfl), trivial⟩, fnOk_mk Try.func29 (by kernel_rfl), ⟨trivial, fnOk_mk Try.func30 (by kernel_rfl), trivial⟩⟩, fnOk_mk Try.func31 (by kernel_rfl), ⟨⟨trivial, fnOk_mk Try.func32 (by kernel_rfl), trivial⟩, fnOk_mk Try.func34 (by kernel_rfl), trivial⟩⟩⟩, fnOk_mk Try.func59 (by kernel_rfl), ⟨⟨⟨⟨trivial, fnOk_mk Try.func62 (by kernel_rfl), trivial⟩, fnOk_mk Try.func66 (by kernel_rfl), ⟨trivial, fnOk_mk Try.func67 (by kernel_rfl), trivial⟩⟩, fnOk_mk Try.func68 (by kernel_rfl), ⟨⟨trivial, fnOk_mk Try.func69 (by kernel_rfl), trivial⟩, fnOk_mk Try.func70 (by kernel_rfl), trivial⟩⟩, fnOk_mk Try.func71 (by kernel_rfl), ⟨⟨⟨trivial, fnOk_mk Try.func73 (by kernel_rfl), trivial⟩, fnOk_mk Try.func76 (by kernel_rfl), ⟨trivial, fnOk_mk Try.func80 (by kernel_rfl), trivial⟩⟩, fnOk_mk Try.func97 (by kernel_rfl), ⟨⟨trivial, fnOk_mk Try.func102 (by kernel_rfl), trivial⟩, fnOk_mk Try.func109 (by kernel_rfl), trivial⟩⟩⟩⟩, fnOk_mk Try.func110 (by kernel_rfl), ⟨⟨⟨⟨⟨trivial, fnOk_mk Try.func112 (by kernel_rfl), trivial⟩, fnOk_mk Try.func113 (by kernel_rfl), ⟨trivial, fnOk_mk Try.func117 (by kernel_rfl), trivial⟩⟩, fnOk_mk Try.func118 (by kernel_rfl), ⟨⟨trivial, fnOk_mk Try.func119 (by kernel_rfl), trivial⟩, fnOk_mk Try.func120 (by kernel_rfl), trivial⟩⟩, fnOk_mk Try.func121 (by kernel_rfl), ⟨⟨⟨trivial, fnOk_mk Try.func122 (by kernel_rfl), trivial⟩, fnOk_mk Try.func123 (by kernel_rfl), ⟨trivial, fnOk_mk Try.func124 (by kernel_rfl), trivial⟩⟩, fnOk_mk Try.func125 (by kernel_rfl), ⟨⟨trivial, fnOk_mk Try.func126 (by kernel_rfl), trivial⟩, fnOk_mk Try.func127 (by kernel_rfl), trivial⟩⟩⟩, fnOk_mk Try.func128 (by kernel_rfl), ⟨⟨⟨⟨trivial, fnOk_mk Try.func129 (by kernel_rfl), trivial⟩, fnOk_mk Try.func132 (by kernel_rfl), ⟨trivial, fnOk_mk Try.func165 (by kernel_rfl), trivial⟩⟩, fnOk_mk Try.func166 (by kernel_rfl), ⟨⟨trivial, fnOk_mk Try.func167 (by kernel_rfl), trivial⟩, fnOk_mk Try.func168 (by kernel_rfl), trivial⟩⟩, fnOk_mk Try.func169 (by kernel_rfl), ⟨⟨⟨trivial, fnOk_mk Try.func170 (by kernel_rfl), trivial⟩, fnOk_mk Try.func171 (by kernel_rfl), ⟨trivial, fnOk_mk Try.func172 (by kernel_rfl), trivial⟩⟩, fnOk_mk Try.func179 (by kernel_rfl), ⟨⟨trivial, fnOk_mk Try.func180 (by kernel_rfl), trivial⟩, fnOk_mk Try.func181 (by kernel_rfl), trivial⟩⟩⟩⟩⟩
theorem pr_ok : prs.All (PrOk Try.prog) := ⟨trivial, pr180, trivial⟩
theorem po_ok : pos.All (PoOk Try.prog) := ⟨trivial, po80, trivial⟩
theorem env : EnvOk Try.prog E := ⟨fun t ti h => tys.get_all ty_ok h, fun g fi h => fns.get_All fn_ok h, by kernel_rfl, fun g p h => prs.get_All pr_ok h, fun g p h => pos.get_All po_ok h⟩
theorem ty2 : E.Γ 2 = some ⟨(.i .i64), 1, 8, 0, []⟩ := by kernel_rfl
theorem ty4 : E.Γ 4 = some ⟨.b, 1, 1, 0, []⟩ := by kernel_rfl
theorem ty42 : E.Γ 42 = some ⟨(.sl 62 5), 1, 24, 62, []⟩ := by kernel_rfl
theorem ty55 : E.Γ 55 = some ⟨(.sl 2 1), 1, 24, 2, []⟩ := by kernel_rfl
theorem ty62 : E.Γ 62 = some ⟨(.agg [.s, (.i .i64), (.i .i64), .s, .s]), 5, 64, 0, [(0, 9), (1, 2), (2, 2), (3, 9), (4, 9)]⟩ := by kernel_rfl
theorem fn6 : E.Φ 6 = some fi6 := by kernel_rfl
end Go.Proofs.Ytokpbjbngnlepaa.IDropHidden
