/- Printed by a program of this work (wip/it/itp.py): the tables of types and functions. No condition. -/
import Derived.Test.YtcjfeglalmlkbaaChecked
import Derived.Test.YtcjfeglalmlkbaaIt7
import Derived.Lib.Walk
import Derived.Lib.Strings
import Derived.Lib.Slices
namespace Go.Proofs.Ytcjfeglalmlkbaa.ITablesIn
open Go Go.Proofs.YtcjfeglalmlkbaaIT
set_option linter.unusedVariables false
noncomputable def tys : BT TI := (.node (.node (.node (.node (.node .nil 2 ⟨(.i .i64), 1, 8, 0, []⟩ .nil) 3 ⟨(.i .i64), 1, 8, 0, []⟩ .nil) 4 ⟨.b, 1, 1, 0, []⟩ (.node .nil 5 ⟨(.i .u8), 1, 1, 0, []⟩ .nil)) 9 ⟨.s, 1, 16, 0, []⟩ (.node (.node .nil 25 ⟨(.sl 5 1), 1, 24, 5, []⟩ .nil) 58 ⟨(.sl 193 10), 1, 24, 193, []⟩ (.node .nil 60 ⟨(.agg [(.i .i64), (.i .i64), (.i .i64), (.sl 193 10)]), 4, 48, 0, [(0, 2), (1, 2), (2, 2), (3, 58)]⟩ .nil))) 62 ⟨(.sl 148 10), 1, 24, 148, []⟩ (.node (.node (.node .nil 65 ⟨(.agg [(.i .i64), (.i .i64), (.i .i64), (.sl 148 10)]), 4, 48, 0, [(0, 2), (1, 2), (2, 2), (3, 62)]⟩ .nil) 141 ⟨.pt, 1, 8, 0, []⟩ (.node .nil 148 ⟨(.agg [(.i .i64), (.i .i64), (.i .i64), (.i .i64), (.i .i64), .s, .s, (.i .i64), (.i .i64), (.i .i64)]), 10, 96, 0, [(0, 2), (1, 2), (2, 2), (3, 2), (4, 2), (5, 9), (6, 9), (7, 2), (8, 2), (9, 2)]⟩ .nil)) 193 ⟨(.agg [(.i .i64), (.i .i64), (.i .i64), (.i .i64), (.i .i64), .s, .s, (.i .i64), (.i .i64), (.i .i64)]), 10, 96, 0, [(0, 2), (1, 2), (2, 2), (3, 2), (4, 2), (5, 9), (6, 9), (7, 2), (8, 2), (9, 2)]⟩ (.node (.node .nil 194 ⟨.pt, 1, 8, 0, []⟩ .nil) 200 ⟨.fn, 1, 8, 0, []⟩ (.node .nil 245 ⟨(.sl 3 1), 1, 24, 3, []⟩ .nil))))
noncomputable def fi8 : FI := mkFI Try.f8 .b [] [] []
noncomputable def fi38 : FI := mkFI Try.f38 (.i .i64) [] [] []
noncomputable def fi39 : FI := mkFI Try.f39 (.sl 148 10) [] [⟨[5, 5, 5, 1, 5], (.so 0), [(.row true 148)], []⟩] []
noncomputable def fi40 : FI := mkFI Try.f40 (.agg [(.i .i64), (.i .i64), (.i .i64), (.sl 148 10)]) [] [⟨[5, 5, 5, 1], (.agg [(.i .i64), (.i .i64), (.i .i64), (.so 0)]), [(.row true 148)], []⟩] []
noncomputable def fi41 : FI := mkFI Try.f41 (.sl 148 10) [] [⟨[5, 5, 5, 1, 5], (.pr 0), [(.row true 148)], []⟩] []
noncomputable def fi42 : FI := mkFI Try.f42 .b [(4, [0, 1, 5], 0)] [] []
noncomputable def fi43 : FI := mkFI Try.f43 .b [] [] []
noncomputable def fi44 : FI := mkFI Try.f44 (.i .i64) [] [⟨[5, 5, 5, 10, 5], (.i .i64), [(.same 148)], []⟩] [0]
noncomputable def fi45 : FI := mkFI Try.f45 (.i .i64) [] [⟨[10, 5], (.i .i64), [(.same 148)], [(2, [0, 1, 5], 1)]⟩, ⟨[11, 5], (.i .i64), [(.same 148)], [(2, [0, 1, 5], 1)]⟩] [0]
noncomputable def fi46 : FI := mkFI Try.f46 (.i .i64) [(2, [0, 1, 5], 0)] [] []
noncomputable def fi70 : FI := mkFI Try.f70 .b [] [] []
noncomputable def fi77 : FI := mkFI Try.f77 .b [] [] []
noncomputable def fi106 : FI := mkFI Try.f106 (.i .i64) [(5, [0, 1, 5], 0)] [] []
noncomputable def fi107 : FI := mkFI Try.f107 .b [(4, [0, 3], 0), (9, [0, 3, 4], 0), (10, [0, 3, 4, 5], 0)] [] []
noncomputable def fi108 : FI := mkFI Try.f108 (.sl 148 10) [] [⟨[5, 5], (.so 0), [(.row true 148)], [(3, [0, 1, 5, 6], 2), (4, [0, 1, 5, 6], 2)]⟩] []
noncomputable def fi109 : FI := mkFI Try.f109 (.sl 148 10) [] [⟨[1], (.so 0), [(.row true 148)], [(3, [0, 3, 4], 2)]⟩] []
noncomputable def fi110 : FI := mkFI Try.f110 .b [] [] []
noncomputable def fi111 : FI := mkFI Try.f111 (.sl 148 10) [] [⟨[5, 5, 5, 1, 5], (.pr 0), [(.row true 148)], []⟩] []
noncomputable def fi112 : FI := mkFI Try.f112 .b [] [] []
noncomputable def fi113 : FI := mkFI Try.f113 .s [(4, [0, 3], 0)] [] []
noncomputable def fi168 : FI := mkFI Try.f168 (.i .i64) [] [] []
noncomputable def fi169 : FI := mkFI Try.f169 .b [] [] []
noncomputable def fi170 : FI := mkFI Try.f170 .b [] [] []
noncomputable def fi171 : FI := mkFI Try.f171 (.agg [(.i .i64), (.i .i64), (.i .i64), (.i .i64), (.i .i64), .s, .s, (.i .i64), (.i .i64), (.i .i64)]) [] [] []
noncomputable def fi172 : FI := mkFI Try.f172 .b [(2, [1, 7, 8, 9], 1), (10, [1, 7, 8, 9], 1)] [] []
noncomputable def fi173 : FI := mkFI Try.f173 (.sl 148 10) [] [⟨[10, 10175, 5], (.pr 0), [(.same 148)], [(5, [0, 1, 5, 6], 1), (6, [0, 1, 5, 6], 1)]⟩] [0]
noncomputable def fi174 : FI := mkFI Try.f174 (.sl 148 10) [] [⟨[1], (.so 0), [(.row true 148)], []⟩] []
noncomputable def fi175 : FI := mkFI Try.f175 .b [] [] []
noncomputable def fi210 : FI := mkFI Try.f210 .b [] [] []
noncomputable def fi211 : FI := mkFI Try.f211 .b [] [] []
noncomputable def fi212 : FI := mkFI Try.f212 .b [] [] []
noncomputable def fi213 : FI := mkFI Try.f213 (.i .i64) [(3, [2, 3], 2)] [] []
noncomputable def fi214 : FI := mkFI Try.f214 (.i .i64) [(2, [0, 1, 7, 8], 0)] [] []
noncomputable def fi227 : FI := mkFI Try.f227 (.i .i64) [] [] []
noncomputable def fi228 : FI := mkFI Try.f228 (.i .i64) [(3, [3, 6, 7, 8], 0)] [] []
noncomputable def fi229 : FI := mkFI Try.f229 (.i .i64) [] [] []
noncomputable def fi230 : FI := mkFI Try.f230 .b [] [] []
noncomputable def fi232 : FI := mkFI Try.f232 (.i .i64) [] [] []
noncomputable def fns : BT FI := (.node (.node (.node (.node (.node (.node .nil 8 fi8 .nil) 38 fi38 .nil) 39 fi39 (.node .nil 40 fi40 .nil)) 41 fi41 (.node (.node (.node .nil 42 fi42 .nil) 43 fi43 .nil) 44 fi44 (.node .nil 45 fi45 .nil))) 46 fi46 (.node (.node (.node (.node .nil 70 fi70 .nil) 77 fi77 .nil) 106 fi106 (.node .nil 107 fi107 .nil)) 108 fi108 (.node (.node (.node .nil 109 fi109 .nil) 110 fi110 .nil) 111 fi111 (.node .nil 112 fi112 .nil)))) 113 fi113 (.node (.node (.node (.node (.node .nil 168 fi168 .nil) 169 fi169 .nil) 170 fi170 (.node .nil 171 fi171 .nil)) 172 fi172 (.node (.node (.node .nil 173 fi173 .nil) 174 fi174 .nil) 175 fi175 (.node .nil 210 fi210 .nil))) 211 fi211 (.node (.node (.node (.node .nil 212 fi212 .nil) 213 fi213 .nil) 214 fi214 (.node .nil 227 fi227 .nil)) 228 fi228 (.node (.node .nil 229 fi229 .nil) 230 fi230 (.node .nil 232 fi232 .nil)))))
theorem ty_ok : tys.all (tyOk Try.prog) = true := by kernel_rfl
set_option maxHeartbeats 1000000 in
set_option maxRecDepth 100000 in
theorem pr232 : PrOk Try.prog 232 prCmp := by
  refine prCmp_ok ?_
  intro a b w
  go_enter Try.func232, Try.ntmps232
  go_wp2
  rw [run_callFunc_extern Try.func234 (by kernel_rfl) (by kernel_rfl) (by kernel_rfl) (e := Extern.BytealgCompare.compare) (by kernel_rfl), Lib.run_compareString]
  simp only [Result.andThen]
  rw [Oper.upon_value]
  go_wp2
  go_ret
  exact ⟨rfl, rfl⟩
noncomputable def E0 : Env := ⟨tys.get, fun _ => none, fun _ => none, fun _ => none⟩
theorem env0 : EnvOk Try.prog E0 := ⟨fun t ti h => tys.get_all ty_ok h, fun g fi h => (by cases h), by kernel_rfl, fun g p h => (by cases h), fun g p h => (by cases h)⟩
set_option maxRecDepth 100000 in
theorem po174 : PoOk Try.prog 174 (prClone 10 96 148) :=
  clone_ok env0 (f := Try.f174) (fi := fi174) (st1 := fun es => ⟨mkT 8 [(0, (.imm 10 es)), (1, .u), (2, (.sl 0 [] none)), (3, .u), (4, .u), (5, .u), (6, .u), (7, .u)], [.live true false false 148 []]⟩) Try.func174 rfl (by rfl) (by rfl) (by exact ⟨rfl, rfl, rfl⟩) (by exact ⟨rfl, rfl, rfl⟩) Try.underlying62
    (fun es => by kernel_rfl) (fun es => by kernel_rfl) (fun es => by kernel_rfl) (by kernel_rfl) (fun es h => (by kernel_rfl : _ = if es.length * 96 ≤ room then some (.sl 0 [] none, [.live true false false 148 es]) else none).trans (if_pos h))
noncomputable def pos : BT (List AV → List Root → Option (AV × List Root)) := (.node .nil 174 (prClone 10 96 148) .nil)
noncomputable def prs : BT (List AV → Option AV) := (.node .nil 232 prCmp .nil)
noncomputable def E : Env := ⟨tys.get, fns.get, prs.get, pos.get⟩
theorem fn_ok : fns.All (FnOk Try.prog) := ⟨⟨⟨⟨⟨⟨trivial, fnOk_mk Try.func8 (by kernel_rfl), trivial⟩, fnOk_mk Try.func38 (by kernel_rfl), trivial⟩, fnOk_mk Try.func39 (by kernel_rfl), ⟨trivial, fnOk_mk Try.func40 (by kernel_rfl), trivial⟩⟩, fnOk_mk Try.func41 (by kernel_rfl), ⟨⟨⟨trivial, fnOk_mk Try.func42 (by kernel_rfl), trivial⟩, fnOk_mk Try.func43 (by kernel_rfl), trivial⟩, fnOk_mk Try.func44 (by kernel_rfl), ⟨trivial, fnOk_mk Try.func45 (by kernel_rfl), trivial⟩⟩⟩, fnOk_mk Try.func46 (by kernel_rfl), ⟨⟨⟨⟨trivial, fnOk_mk Try.func70 (by kernel_rfl), trivial⟩, fnOk_mk Try.func77 (by kernel_rfl), trivial⟩, fnOk_mk Try.func106 (by kernel_rfl), ⟨trivial, fnOk_mk Try.func107 (by kernel_rfl), trivial⟩⟩, fnOk_mk Try.func108 (by kernel_rfl), ⟨⟨⟨trivial, fnOk_mk Try.func109 (by kernel_rfl), trivial⟩, fnOk_mk Try.func110 (by kernel_rfl), trivial⟩, fnOk_mk Try.func111 (by kernel_rfl), ⟨trivial, fnOk_mk Try.func112 (by kernel_rfl), trivial⟩⟩⟩⟩, fnOk_mk Try.func113 (by kernel_rfl), ⟨⟨⟨⟨⟨trivial, fnOk_mk Try.func168 (by kernel_rfl), trivial⟩, fnOk_mk Try.func169 (by kernel_rfl), trivial⟩, fnOk_mk Try.func170 (by kernel_rfl), ⟨trivial, fnOk_mk Try.func171 (by kernel_rfl), trivial⟩⟩, fnOk_mk Try.func172 (by kernel_rfl), ⟨⟨⟨trivial, fnOk_mk Try.func173 (by kernel_rfl), trivial⟩, fnOk_mk Try.func174 (by kernel_rfl), trivial⟩, fnOk_mk Try.func175 (by kernel_rfl), ⟨trivial, fnOk_mk Try.func210 (by kernel_rfl), trivial⟩⟩⟩, fnOk_mk Try.func211 (by kernel_rfl), ⟨⟨⟨⟨trivial, fnOk_mk Try.func212 (by kernel_rfl), trivial⟩, fnOk_mk Try.func213 (by kernel_rfl), trivial⟩, fnOk_mk Try.func214 (by kernel_rfl), ⟨trivial, fnOk_mk Try.func227 (by kernel_rfl), trivial⟩⟩, fnOk_mk Try.func228 (by kernel_rfl), ⟨⟨trivial, fnOk_mk Try.func229 (by kernel_rfl), trivial⟩, fnOk_mk Try.func230 (by kernel_rfl), ⟨trivial, fnOk_mk Try.func232 (by kernel_rfl), trivial⟩⟩⟩⟩⟩
theorem pr_ok : prs.All (PrOk Try.prog) := ⟨trivial, pr232, trivial⟩
theorem po_ok : pos.All (PoOk Try.prog) := ⟨trivial, po174, trivial⟩
theorem env : EnvOk Try.prog E := ⟨fun t ti h => tys.get_all ty_ok h, fun g fi h => fns.get_All fn_ok h, by kernel_rfl, fun g p h => prs.get_All pr_ok h, fun g p h => pos.get_All po_ok h⟩
theorem ty2 : E.Γ 2 = some ⟨(.i .i64), 1, 8, 0, []⟩ := by kernel_rfl
theorem ty60 : E.Γ 60 = some ⟨(.agg [(.i .i64), (.i .i64), (.i .i64), (.sl 193 10)]), 4, 48, 0, [(0, 2), (1, 2), (2, 2), (3, 58)]⟩ := by kernel_rfl
theorem fn8 : E.Φ 8 = some fi8 := by kernel_rfl
end Go.Proofs.Ytcjfeglalmlkbaa.ITablesIn
