/- Printed by a program of this work (wip/it/itp.py): the tables of types and functions. No condition. -/
import Derived.Test.YtmoooblndcjeoaaChecked
import Derived.Test.YtmoooblndcjeoaaIt7
import Derived.Lib.Walk
import Derived.Lib.Strings
import Derived.Lib.Slices
import Derived.Test.YtmoooblndcjeoaaItRp
import Derived.Test.YtmoooblndcjeoaaSh
namespace Go.Proofs.Ytmoooblndcjeoaa.IReadRaw
open Go Go.Proofs.YtmoooblndcjeoaaIT
set_option linter.unusedVariables false
noncomputable def tys : BT TI := (.node (.node (.node (.node (.node .nil 2 ⟨(.i .i64), 1, 8, 0, []⟩ .nil) 3 ⟨(.i .i64), 1, 8, 0, []⟩ .nil) 4 ⟨.b, 1, 1, 0, []⟩ (.node (.node .nil 5 ⟨(.i .u8), 1, 1, 0, []⟩ .nil) 9 ⟨.s, 1, 16, 0, []⟩ .nil)) 23 ⟨(.agg [(.i .i64), (.i .i64), (.i .i64)]), 3, 24, 0, [(0, 2), (1, 2), (2, 2)]⟩ (.node (.node (.node .nil 24 ⟨(.sl 50 4), 1, 24, 50, []⟩ .nil) 26 ⟨(.agg [(.i .i64), (.i .i64), (.i .i64), (.sl 50 4), (.i .i64), (.i .i64), .b, (.i .i64)]), 8, 80, 0, [(0, 23), (3, 24), (4, 2), (5, 2), (6, 4), (7, 2)]⟩ .nil) 30 ⟨(.agg [(.i .i64), (.i .i64), (.i .i64)]), 3, 24, 0, [(0, 2), (1, 2), (2, 2)]⟩ (.node .nil 31 ⟨(.sl 54 4), 1, 24, 54, []⟩ .nil))) 33 ⟨(.agg [(.i .i64), (.i .i64), (.i .i64), (.sl 54 4), (.i .i64), (.i .i64), .b, (.i .i64)]), 8, 80, 0, [(0, 30), (3, 31), (4, 2), (5, 2), (6, 4), (7, 2)]⟩ (.node (.node (.node (.node .nil 41 ⟨.pt, 1, 8, 0, []⟩ .nil) 48 ⟨(.sl 9 1), 1, 24, 9, []⟩ .nil) 50 ⟨(.agg [(.i .i64), (.i .i64), .b, (.sl 9 1)]), 4, 48, 0, [(0, 2), (1, 2), (2, 4), (3, 48)]⟩ (.node .nil 54 ⟨(.agg [(.i .i64), (.i .i64), .b, (.sl 9 1)]), 4, 48, 0, [(0, 2), (1, 2), (2, 4), (3, 48)]⟩ .nil)) 60 ⟨.fn, 1, 8, 0, []⟩ (.node (.node (.node .nil 70 ⟨(.sl 5 1), 1, 24, 5, []⟩ .nil) 72 ⟨(.i .u64), 1, 8, 0, []⟩ .nil) 76 ⟨.pt, 1, 8, 0, []⟩ (.node .nil 78 ⟨(.agg [.pt, (.sl 5 1)]), 2, 32, 0, [(0, 76), (1, 70)]⟩ .nil))))
noncomputable def fi3 : FI := mkFI Try.f3 .b [] [] []
noncomputable def fi4 : FI := mkFI Try.f4 (.i .i64) [] [] []
noncomputable def fi5 : FI := mkFI Try.f5 (.tup [.s, (.i .i64)]) [] [] []
noncomputable def fi6 : FI := mkFI Try.f6 (.agg [(.i .i64), (.i .i64), (.i .i64), (.sl 54 4), (.i .i64), (.i .i64), .b, (.i .i64)]) [] [] []
noncomputable def fi7 : FI := mkFI Try.f7 (.tup [.s, (.i .i64)]) [] [] []
noncomputable def fi8 : FI := mkFI Try.f8 .b [] [] []
noncomputable def fi9 : FI := mkFI Try.f9 (.i .i64) [(5, [0, 1, 5], 0)] [] []
noncomputable def fi10 : FI := mkFI Try.f10 .b [(4, [1, 3], 1)] [] []
noncomputable def fi11 : FI := mkFI Try.f11 .b [] [] []
noncomputable def fi12 : FI := mkFI Try.f12 .s [] [] []
noncomputable def fi13 : FI := mkFI Try.f13 (.agg [(.i .i64), (.i .i64), (.i .i64)]) [] [] []
noncomputable def fi14 : FI := mkFI Try.f14 (.sl 54 4) [(3, [0, 3, 4], 2)] [] []
noncomputable def fi15 : FI := mkFI Try.f15 .b [] [] []
noncomputable def fi16 : FI := mkFI Try.f16 (.tup [.s, (.i .i64)]) [] [] []
noncomputable def fi17 : FI := mkFI Try.f17 .b [] [] []
noncomputable def fi18 : FI := mkFI Try.f18 .b [(4, [0, 1, 5], 0)] [] []
noncomputable def fi19 : FI := mkFI Try.f19 (.i .i64) [] [] []
noncomputable def fi20 : FI := mkFI Try.f20 .b [] [] []
noncomputable def fi21 : FI := mkFI Try.f21 .b [] [] []
noncomputable def fi22 : FI := mkFI Try.f22 .b [(4, [1, 2, 5], 1), (5, [1, 2, 5], 1)] [] []
noncomputable def fi23 : FI := mkFI Try.f23 .b [] [] []
noncomputable def fi24 : FI := mkFI Try.f24 .s [] [] []
noncomputable def fi25 : FI := mkFI Try.f25 (.agg [(.i .i64), (.i .i64), .b, (.sl 9 1)]) [] [] []
noncomputable def fi26 : FI := mkFI Try.f26 .b [] [] []
noncomputable def fi27 : FI := mkFI Try.f27 (.i .i64) [] [] []
noncomputable def fi28 : FI := mkFI Try.f28 .b [] [] []
noncomputable def fi29 : FI := mkFI Try.f29 .b [] [] []
noncomputable def fi30 : FI := mkFI Try.f30 .b [] [] []
noncomputable def fi31 : FI := mkFI Try.f31 .b [(4, [3, 28, 29, 30], 2), (8, [3, 28, 29, 30], 2)] [] []
noncomputable def fi32 : FI := mkFI Try.f32 .b [] [] []
noncomputable def fi33 : FI := mkFI Try.f33 .s [] [] []
noncomputable def fi34 : FI := mkFI Try.f34 .b [] [] []
noncomputable def fi35 : FI := mkFI Try.f35 (.i .i64) [(5, [0, 1, 5], 0)] [] []
noncomputable def fi36 : FI := mkFI Try.f36 .s [(3, [0, 1, 5, 6], 1)] [] []
noncomputable def fi37 : FI := mkFI Try.f37 (.sl 9 1) [(3, [0, 3, 4], 2)] [] []
noncomputable def fi38 : FI := mkFI Try.f38 (.i .i64) [(2, [0, 1, 7, 8], 0)] [] []
noncomputable def fi39 : FI := mkFI Try.f39 .b [] [] []
noncomputable def fi40 : FI := mkFI Try.f40 .s [] [] []
noncomputable def fi41 : FI := mkFI Try.f41 .b [(4, [0, 1, 5], 0)] [] []
noncomputable def fi42 : FI := mkFI Try.f42 .s [] [] []
noncomputable def fns : BT FI := (.node (.node (.node (.node (.node (.node .nil 3 fi3 .nil) 4 fi4 .nil) 5 fi5 (.node (.node .nil 6 fi6 .nil) 7 fi7 .nil)) 8 fi8 (.node (.node (.node .nil 9 fi9 .nil) 10 fi10 .nil) 11 fi11 (.node .nil 12 fi12 .nil))) 13 fi13 (.node (.node (.node (.node .nil 14 fi14 .nil) 15 fi15 .nil) 16 fi16 (.node .nil 17 fi17 .nil)) 18 fi18 (.node (.node (.node .nil 19 fi19 .nil) 20 fi20 .nil) 21 fi21 (.node .nil 22 fi22 .nil)))) 23 fi23 (.node (.node (.node (.node (.node .nil 24 fi24 .nil) 25 fi25 .nil) 26 fi26 (.node .nil 27 fi27 .nil)) 28 fi28 (.node (.node (.node .nil 29 fi29 .nil) 30 fi30 .nil) 31 fi31 (.node .nil 32 fi32 .nil))) 33 fi33 (.node (.node (.node (.node .nil 34 fi34 .nil) 35 fi35 .nil) 36 fi36 (.node .nil 37 fi37 .nil)) 38 fi38 (.node (.node (.node .nil 39 fi39 .nil) 40 fi40 .nil) 41 fi41 (.node .nil 42 fi42 .nil)))))
theorem ty_ok : tys.all (tyOk Try.prog) = true := by kernel_rfl
theorem pr42 : PrOk Try.prog 42 prRepeat := prRepeat_ok Try.strings_Repeat
noncomputable def pos : BT (List AV → List Root → Option (AV × List Root)) := .nil
noncomputable def prs : BT (List AV → Option AV) := (.node .nil 42 prRepeat .nil)
noncomputable def E : Env := ⟨tys.get, fns.get, prs.get, pos.get⟩
theorem fn_ok : fns.All (FnOk Try.prog) := ⟨⟨⟨⟨⟨⟨trivial, fnOk_mk Try.func3 (by kernel_rfl), trivial⟩, fnOk_mk Try.func4 (by kernel_rfl), trivial⟩, fnOk_mk Try.func5 (by kernel_rfl), ⟨⟨trivial, fnOk_mk Try.func6 (by kernel_rfl), trivial⟩, fnOk_mk Try.func7 (by kernel_rfl), trivial⟩⟩, fnOk_mk Try.func8 (by kernel_rfl), ⟨⟨⟨trivial, fnOk_mk Try.func9 (by kernel_rfl), trivial⟩, fnOk_mk Try.func10 (by kernel_rfl), trivial⟩, fnOk_mk Try.func11 (by kernel_rfl), ⟨trivial, fnOk_mk Try.func12 (by kernel_rfl), trivial⟩⟩⟩, fnOk_mk Try.func13 (by kernel_rfl), ⟨⟨⟨⟨trivial, fnOk_mk Try.func14 (by kernel_rfl), trivial⟩, fnOk_mk Try.func15 (by kernel_rfl), trivial⟩, fnOk_mk Try.func16 (by kernel_rfl), ⟨trivial, fnOk_mk Try.func17 (by kernel_rfl), trivial⟩⟩, fnOk_mk Try.func18 (by kernel_rfl), ⟨⟨⟨trivial, fnOk_mk Try.func19 (by kernel_rfl), trivial⟩, fnOk_mk Try.func20 (by kernel_rfl), trivial⟩, fnOk_mk Try.func21 (by kernel_rfl), ⟨trivial, fnOk_mk Try.func22 (by kernel_rfl), trivial⟩⟩⟩⟩, fnOk_mk Try.func23 (by kernel_rfl), ⟨⟨⟨⟨⟨trivial, fnOk_mk Try.func24 (by kernel_rfl), trivial⟩, fnOk_mk Try.func25 (by kernel_rfl), trivial⟩, fnOk_mk Try.func26 (by kernel_rfl), ⟨trivial, fnOk_mk Try.func27 (by kernel_rfl), trivial⟩⟩, fnOk_mk Try.func28 (by kernel_rfl), ⟨⟨⟨trivial, fnOk_mk Try.func29 (by kernel_rfl), trivial⟩, fnOk_mk Try.func30 (by kernel_rfl), trivial⟩, fnOk_mk Try.func31 (by kernel_rfl), ⟨trivial, fnOk_mk Try.func32 (by kernel_rfl), trivial⟩⟩⟩, fnOk_mk Try.func33 (by kernel_rfl), ⟨⟨⟨⟨trivial, fnOk_mk Try.func34 (by kernel_rfl), trivial⟩, fnOk_mk Try.func35 (by kernel_rfl), trivial⟩, fnOk_mk Try.func36 (by kernel_rfl), ⟨trivial, fnOk_mk Try.func37 (by kernel_rfl), trivial⟩⟩, fnOk_mk Try.func38 (by kernel_rfl), ⟨⟨⟨trivial, fnOk_mk Try.func39 (by kernel_rfl), trivial⟩, fnOk_mk Try.func40 (by kernel_rfl), trivial⟩, fnOk_mk Try.func41 (by kernel_rfl), ⟨trivial, fnOk_mk Try.func42 (by kernel_rfl), trivial⟩⟩⟩⟩⟩
theorem pr_ok : prs.All (PrOk Try.prog) := ⟨trivial, pr42, trivial⟩
theorem po_ok : pos.All (PoOk Try.prog) := trivial
theorem env : EnvOk Try.prog E := ⟨fun t ti h => tys.get_all ty_ok h, fun g fi h => fns.get_All fn_ok h, by kernel_rfl, fun g p h => prs.get_All pr_ok h, fun g p h => pos.get_All po_ok h⟩
theorem ty2 : E.Γ 2 = some ⟨(.i .i64), 1, 8, 0, []⟩ := by kernel_rfl
theorem ty26 : E.Γ 26 = some ⟨(.agg [(.i .i64), (.i .i64), (.i .i64), (.sl 50 4), (.i .i64), (.i .i64), .b, (.i .i64)]), 8, 80, 0, [(0, 23), (3, 24), (4, 2), (5, 2), (6, 4), (7, 2)]⟩ := by kernel_rfl
theorem fn3 : E.Φ 3 = some fi3 := by kernel_rfl
end Go.Proofs.Ytmoooblndcjeoaa.IReadRaw
