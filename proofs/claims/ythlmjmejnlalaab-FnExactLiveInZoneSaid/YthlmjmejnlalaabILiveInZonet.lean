/- Printed by a program of this work (wip/it/itp.py): the tables of types and functions. No condition. -/
import Derived.Test.YthlmjmejnlalaabChecked
import Derived.Test.YthlmjmejnlalaabIt7
import Derived.Lib.Walk
import Derived.Lib.Strings
import Derived.Lib.Slices
namespace Go.Proofs.Ythlmjmejnlalaab.ILiveInZone
open Go Go.Proofs.YthlmjmejnlalaabIT
set_option linter.unusedVariables false
noncomputable def tys : BT TI := (.node (.node (.node (.node .nil 2 ⟨(.i .i64), 1, 8, 0, []⟩ .nil) 3 ⟨(.i .i64), 1, 8, 0, []⟩ (.node .nil 4 ⟨.b, 1, 1, 0, []⟩ .nil)) 9 ⟨.s, 1, 16, 0, []⟩ (.node (.node .nil 49 ⟨(.sl 183 10), 1, 24, 183, []⟩ .nil) 51 ⟨(.agg [(.i .i64), (.i .i64), (.i .i64), (.sl 183 10)]), 4, 48, 0, [(0, 2), (1, 2), (2, 2), (3, 49)]⟩ (.node .nil 54 ⟨(.sl 185 10), 1, 24, 185, []⟩ .nil))) 56 ⟨(.agg [(.i .i64), (.i .i64), (.i .i64), (.sl 185 10)]), 4, 48, 0, [(0, 2), (1, 2), (2, 2), (3, 54)]⟩ (.node (.node (.node .nil 134 ⟨.pt, 1, 8, 0, []⟩ .nil) 183 ⟨(.agg [(.i .i64), (.i .i64), (.i .i64), (.i .i64), (.i .i64), .s, .s, (.i .i64), (.i .i64), (.i .i64)]), 10, 96, 0, [(0, 2), (1, 2), (2, 2), (3, 2), (4, 2), (5, 9), (6, 9), (7, 2), (8, 2), (9, 2)]⟩ (.node .nil 184 ⟨.pt, 1, 8, 0, []⟩ .nil)) 185 ⟨(.agg [(.i .i64), (.i .i64), (.i .i64), (.i .i64), (.i .i64), .s, .s, (.i .i64), (.i .i64), (.i .i64)]), 10, 96, 0, [(0, 2), (1, 2), (2, 2), (3, 2), (4, 2), (5, 9), (6, 9), (7, 2), (8, 2), (9, 2)]⟩ (.node (.node .nil 195 ⟨.fn, 1, 8, 0, []⟩ .nil) 255 ⟨(.sl 3 1), 1, 24, 3, []⟩ .nil)))
noncomputable def fi7 : FI := mkFI Try.f7 .b [] [] []
noncomputable def fi37 : FI := mkFI Try.f37 (.i .i64) [] [] []
noncomputable def fi38 : FI := mkFI Try.f38 (.i .i64) [] [] []
noncomputable def fi39 : FI := mkFI Try.f39 (.agg [(.i .i64), (.i .i64), (.i .i64), (.sl 185 10)]) [] [] []
noncomputable def fi40 : FI := mkFI Try.f40 (.i .i64) [] [] []
noncomputable def fi41 : FI := mkFI Try.f41 .b [] [] []
noncomputable def fi98 : FI := mkFI Try.f98 (.i .i64) [(5, [0, 1, 5], 0)] [] []
noncomputable def fi99 : FI := mkFI Try.f99 .b [(4, [0, 3], 0), (9, [0, 3, 4], 0), (10, [0, 3, 4, 5], 0)] [] []
noncomputable def fi100 : FI := mkFI Try.f100 (.i .i64) [(4, [5, 6, 7], 0)] [] []
noncomputable def fi101 : FI := mkFI Try.f101 (.sl 185 10) [(3, [0, 3, 4], 2)] [] []
noncomputable def fi102 : FI := mkFI Try.f102 .b [] [] []
noncomputable def fi103 : FI := mkFI Try.f103 (.i .i64) [(3, [5, 10, 11, 12], 0)] [] []
noncomputable def fi104 : FI := mkFI Try.f104 .b [(4, [0, 1, 5], 0)] [] []
noncomputable def fi135 : FI := mkFI Try.f135 .b [] [] []
noncomputable def fi155 : FI := mkFI Try.f155 .b [] [] []
noncomputable def fi158 : FI := mkFI Try.f158 (.i .i64) [] [] []
noncomputable def fi159 : FI := mkFI Try.f159 .b [] [] []
noncomputable def fi160 : FI := mkFI Try.f160 .b [] [] []
noncomputable def fi161 : FI := mkFI Try.f161 (.sl 185 10) [(3, [0, 1, 5, 6], 2), (4, [0, 1, 5, 6], 2)] [] []
noncomputable def fi162 : FI := mkFI Try.f162 (.agg [(.i .i64), (.i .i64), (.i .i64), (.i .i64), (.i .i64), .s, .s, (.i .i64), (.i .i64), (.i .i64)]) [] [] []
noncomputable def fi163 : FI := mkFI Try.f163 .b [(2, [1, 7, 8, 9], 1), (10, [1, 7, 8, 9], 1)] [] []
noncomputable def fi164 : FI := mkFI Try.f164 (.sl 185 10) [] [] []
noncomputable def fi165 : FI := mkFI Try.f165 .b [] [] []
noncomputable def fi167 : FI := mkFI Try.f167 .b [] [] []
noncomputable def fi204 : FI := mkFI Try.f204 .b [] [] []
noncomputable def fi205 : FI := mkFI Try.f205 .b [] [] []
noncomputable def fi206 : FI := mkFI Try.f206 (.i .i64) [(3, [2, 3], 2)] [] []
noncomputable def fi207 : FI := mkFI Try.f207 (.sl 185 10) [] [⟨[10, 10209, 5], (.pr 0), [(.row true 185)], [(5, [0, 1, 5, 6], 1), (6, [0, 1, 5, 6], 1)]⟩] [0]
noncomputable def fi208 : FI := mkFI Try.f208 (.sl 185 10) [] [⟨[1], (.so 0), [(.row true 185)], []⟩] []
noncomputable def fi209 : FI := mkFI Try.f209 .b [] [] []
noncomputable def fi232 : FI := mkFI Try.f232 (.i .i64) [(2, [0, 1, 7, 8], 0)] [] []
noncomputable def fi233 : FI := mkFI Try.f233 (.i .i64) [] [] []
noncomputable def fi234 : FI := mkFI Try.f234 (.i .i64) [(3, [3, 6, 7, 8], 0)] [] []
noncomputable def fi235 : FI := mkFI Try.f235 (.i .i64) [] [] []
noncomputable def fi238 : FI := mkFI Try.f238 .b [] [] []
noncomputable def fi239 : FI := mkFI Try.f239 (.i .i64) [] [] []
noncomputable def fns : BT FI := (.node (.node (.node (.node (.node (.node .nil 7 fi7 .nil) 37 fi37 .nil) 38 fi38 (.node .nil 39 fi39 .nil)) 40 fi40 (.node (.node (.node .nil 41 fi41 .nil) 98 fi98 .nil) 99 fi99 (.node .nil 100 fi100 .nil))) 101 fi101 (.node (.node (.node (.node .nil 102 fi102 .nil) 103 fi103 .nil) 104 fi104 (.node .nil 135 fi135 .nil)) 155 fi155 (.node (.node .nil 158 fi158 .nil) 159 fi159 (.node .nil 160 fi160 .nil)))) 161 fi161 (.node (.node (.node (.node (.node .nil 162 fi162 .nil) 163 fi163 .nil) 164 fi164 (.node .nil 165 fi165 .nil)) 167 fi167 (.node (.node .nil 204 fi204 .nil) 205 fi205 (.node .nil 206 fi206 .nil))) 207 fi207 (.node (.node (.node (.node .nil 208 fi208 .nil) 209 fi209 .nil) 232 fi232 (.node .nil 233 fi233 .nil)) 234 fi234 (.node (.node .nil 235 fi235 .nil) 238 fi238 (.node .nil 239 fi239 .nil)))))
theorem ty_ok : tys.all (tyOk Try.prog) = true := by kernel_rfl
set_option maxHeartbeats 1000000 in
set_option maxRecDepth 100000 in
theorem pr239 : PrOk Try.prog 239 prCmp := by
  refine prCmp_ok ?_
  intro a b w
  go_enter Try.func239, Try.ntmps239
  go_wp2
  rw [run_callFunc_extern Try.func240 (by kernel_rfl) (by kernel_rfl) (by kernel_rfl) (e := Extern.BytealgCompare.compare) (by kernel_rfl), Lib.run_compareString]
  simp only [Result.andThen]
  rw [Oper.upon_value]
  go_wp2
  go_ret
  exact ⟨rfl, rfl⟩
noncomputable def E0 : Env := ⟨tys.get, fun _ => none, fun _ => none, fun _ => none⟩
theorem env0 : EnvOk Try.prog E0 := ⟨fun t ti h => tys.get_all ty_ok h, fun g fi h => (by cases h), by kernel_rfl, fun g p h => (by cases h), fun g p h => (by cases h)⟩
set_option maxRecDepth 100000 in
theorem po208 : PoOk Try.prog 208 (prClone 10 96 185) :=
  clone_ok env0 (f := Try.f208) (fi := fi208) (st1 := fun es => ⟨mkT 8 [(0, (.imm 10 es)), (1, .u), (2, (.sl 0 [] none)), (3, .u), (4, .u), (5, .u), (6, .u), (7, .u)], [.live true false false 185 []]⟩) Try.func208 rfl (by rfl) (by rfl) (by exact ⟨rfl, rfl, rfl⟩) (by exact ⟨rfl, rfl, rfl⟩) Try.underlying54
    (fun es => by kernel_rfl) (fun es => by kernel_rfl) (fun es => by kernel_rfl) (by kernel_rfl) (fun es h => (by kernel_rfl : _ = if (([] : List AV).length + es.length) * 96 ≤ room then some (.sl 0 [] none, [.live true false false 185 es]) else none).trans (if_pos (by simpa using h)))
noncomputable def pos : BT (List AV → List Root → Option (AV × List Root)) := (.node .nil 208 (prClone 10 96 185) .nil)
noncomputable def prs : BT (List AV → Option AV) := (.node .nil 239 prCmp .nil)
noncomputable def E : Env := ⟨tys.get, fns.get, prs.get, pos.get⟩
theorem fn_ok : fns.All (FnOk Try.prog) := ⟨⟨⟨⟨⟨⟨trivial, fnOk_mk Try.func7 (by kernel_rfl), trivial⟩, fnOk_mk Try.func37 (by kernel_rfl), trivial⟩, fnOk_mk Try.func38 (by kernel_rfl), ⟨trivial, fnOk_mk Try.func39 (by kernel_rfl), trivial⟩⟩, fnOk_mk Try.func40 (by kernel_rfl), ⟨⟨⟨trivial, fnOk_mk Try.func41 (by kernel_rfl), trivial⟩, fnOk_mk Try.func98 (by kernel_rfl), trivial⟩, fnOk_mk Try.func99 (by kernel_rfl), ⟨trivial, fnOk_mk Try.func100 (by kernel_rfl), trivial⟩⟩⟩, fnOk_mk Try.func101 (by kernel_rfl), ⟨⟨⟨⟨trivial, fnOk_mk Try.func102 (by kernel_rfl), trivial⟩, fnOk_mk Try.func103 (by kernel_rfl), trivial⟩, fnOk_mk Try.func104 (by kernel_rfl), ⟨trivial, fnOk_mk Try.func135 (by kernel_rfl), trivial⟩⟩, fnOk_mk Try.func155 (by kernel_rfl), ⟨⟨trivial, fnOk_mk Try.func158 (by kernel_rfl), trivial⟩, fnOk_mk Try.func159 (by kernel_rfl), ⟨trivial, fnOk_mk Try.func160 (by kernel_rfl), trivial⟩⟩⟩⟩, fnOk_mk Try.func161 (by kernel_rfl), ⟨⟨⟨⟨⟨trivial, fnOk_mk Try.func162 (by kernel_rfl), trivial⟩, fnOk_mk Try.func163 (by kernel_rfl), trivial⟩, fnOk_mk Try.func164 (by kernel_rfl), ⟨trivial, fnOk_mk Try.func165 (by kernel_rfl), trivial⟩⟩, fnOk_mk Try.func167 (by kernel_rfl), ⟨⟨trivial, fnOk_mk Try.func204 (by kernel_rfl), trivial⟩, fnOk_mk Try.func205 (by kernel_rfl), ⟨trivial, fnOk_mk Try.func206 (by kernel_rfl), trivial⟩⟩⟩, fnOk_mk Try.func207 (by kernel_rfl), ⟨⟨⟨⟨trivial, fnOk_mk Try.func208 (by kernel_rfl), trivial⟩, fnOk_mk Try.func209 (by kernel_rfl), trivial⟩, fnOk_mk Try.func232 (by kernel_rfl), ⟨trivial, fnOk_mk Try.func233 (by kernel_rfl), trivial⟩⟩, fnOk_mk Try.func234 (by kernel_rfl), ⟨⟨trivial, fnOk_mk Try.func235 (by kernel_rfl), trivial⟩, fnOk_mk Try.func238 (by kernel_rfl), ⟨trivial, fnOk_mk Try.func239 (by kernel_rfl), trivial⟩⟩⟩⟩⟩
theorem pr_ok : prs.All (PrOk Try.prog) := ⟨trivial, pr239, trivial⟩
theorem po_ok : pos.All (PoOk Try.prog) := ⟨trivial, po208, trivial⟩
theorem env : EnvOk Try.prog E := ⟨fun t ti h => tys.get_all ty_ok h, fun g fi h => fns.get_All fn_ok h, by kernel_rfl, fun g p h => prs.get_All pr_ok h, fun g p h => pos.get_All po_ok h⟩
theorem ty2 : E.Γ 2 = some ⟨(.i .i64), 1, 8, 0, []⟩ := by kernel_rfl
theorem ty51 : E.Γ 51 = some ⟨(.agg [(.i .i64), (.i .i64), (.i .i64), (.sl 183 10)]), 4, 48, 0, [(0, 2), (1, 2), (2, 2), (3, 49)]⟩ := by kernel_rfl
theorem fn7 : E.Φ 7 = some fi7 := by kernel_rfl
end Go.Proofs.Ythlmjmejnlalaab.ILiveInZone
