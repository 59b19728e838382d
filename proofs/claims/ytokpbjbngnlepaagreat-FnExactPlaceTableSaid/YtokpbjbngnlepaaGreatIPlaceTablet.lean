/- Printed by a program of this work (wip/it/itp.py): the tables of types and functions. No condition. -/
import Derived.Test.YtokpbjbngnlepaaGreatChecked
import Derived.Test.YtokpbjbngnlepaaGreatIt7
import Derived.Lib.Walk
import Derived.Lib.Strings
import Derived.Lib.Slices
namespace Go.Proofs.YtokpbjbngnlepaaGreat.IPlaceTable
open Go Go.Proofs.YtokpbjbngnlepaaGreatIT
set_option linter.unusedVariables false
noncomputable def tys : BT TI := (.node (.node (.node (.node (.node (.node .nil 2 ⟨(.i .i64), 1, 8, 0, []⟩ .nil) 3 ⟨(.i .i64), 1, 8, 0, []⟩ .nil) 4 ⟨.b, 1, 1, 0, []⟩ (.node .nil 9 ⟨.s, 1, 16, 0, []⟩ .nil)) 23 ⟨(.agg [(.i .i64), (.i .i64), (.i .i64)]), 3, 24, 0, [(0, 2), (1, 2), (2, 2)]⟩ (.node (.node (.node .nil 24 ⟨(.sl 135 4), 1, 24, 135, []⟩ .nil) 26 ⟨(.agg [(.i .i64), (.i .i64), (.i .i64), (.sl 135 4), (.i .i64), (.i .i64), .b, (.i .i64)]), 8, 80, 0, [(0, 23), (3, 24), (4, 2), (5, 2), (6, 4), (7, 2)]⟩ .nil) 27 ⟨(.sl 95 6), 1, 24, 95, []⟩ (.node .nil 29 ⟨(.agg [(.i .i64), (.i .i64), (.i .i64), (.sl 135 4), (.i .i64), (.i .i64), .b, (.i .i64), (.sl 95 6)]), 9, 104, 0, [(0, 26), (8, 27)]⟩ .nil))) 30 ⟨(.sl 98 10), 1, 24, 98, []⟩ (.node (.node (.node (.node .nil 32 ⟨(.agg [(.i .i64), (.i .i64), (.i .i64), (.sl 98 10)]), 4, 48, 0, [(0, 2), (1, 2), (2, 2), (3, 30)]⟩ .nil) 36 ⟨(.agg [(.i .i64), (.i .i64), (.i .i64)]), 3, 24, 0, [(0, 2), (1, 2), (2, 2)]⟩ .nil) 37 ⟨(.sl 138 4), 1, 24, 138, []⟩ (.node .nil 39 ⟨(.agg [(.i .i64), (.i .i64), (.i .i64), (.sl 138 4), (.i .i64), (.i .i64), .b, (.i .i64)]), 8, 80, 0, [(0, 36), (3, 37), (4, 2), (5, 2), (6, 4), (7, 2)]⟩ .nil)) 40 ⟨(.sl 101 6), 1, 24, 101, []⟩ (.node (.node .nil 42 ⟨(.agg [(.i .i64), (.i .i64), (.i .i64), (.sl 138 4), (.i .i64), (.i .i64), .b, (.i .i64), (.sl 101 6)]), 9, 104, 0, [(0, 39), (8, 40)]⟩ .nil) 44 ⟨(.sl 106 10), 1, 24, 106, []⟩ (.node .nil 46 ⟨(.agg [(.i .i64), (.i .i64), (.i .i64), (.sl 106 10)]), 4, 48, 0, [(0, 2), (1, 2), (2, 2), (3, 44)]⟩ .nil)))) 54 ⟨(.sl 2 1), 1, 24, 2, []⟩ (.node (.node (.node (.node (.node .nil 68 ⟨.pt, 1, 8, 0, []⟩ .nil) 70 ⟨.pt, 1, 8, 0, []⟩ .nil) 93 ⟨(.sl 9 1), 1, 24, 9, []⟩ (.node .nil 95 ⟨(.agg [(.i .i64), (.sl 2 1), (.i .i64), (.i .i64), (.sl 2 1), (.sl 9 1)]), 6, 96, 0, [(0, 2), (1, 54), (2, 2), (3, 2), (4, 54), (5, 93)]⟩ .nil)) 98 ⟨(.agg [(.i .i64), (.i .i64), (.i .i64), (.i .i64), (.i .i64), .s, .s, (.i .i64), (.i .i64), (.i .i64)]), 10, 96, 0, [(0, 2), (1, 2), (2, 2), (3, 2), (4, 2), (5, 9), (6, 9), (7, 2), (8, 2), (9, 2)]⟩ (.node (.node .nil 101 ⟨(.agg [(.i .i64), (.sl 2 1), (.i .i64), (.i .i64), (.sl 2 1), (.sl 9 1)]), 6, 96, 0, [(0, 2), (1, 54), (2, 2), (3, 2), (4, 54), (5, 93)]⟩ .nil) 105 ⟨.pt, 1, 8, 0, []⟩ (.node .nil 106 ⟨(.agg [(.i .i64), (.i .i64), (.i .i64), (.i .i64), (.i .i64), .s, .s, (.i .i64), (.i .i64), (.i .i64)]), 10, 96, 0, [(0, 2), (1, 2), (2, 2), (3, 2), (4, 2), (5, 9), (6, 9), (7, 2), (8, 2), (9, 2)]⟩ .nil))) 124 ⟨.fn, 1, 8, 0, []⟩ (.node (.node (.node (.node .nil 131 ⟨.fn, 1, 8, 0, []⟩ .nil) 135 ⟨(.agg [(.i .i64), (.i .i64), .b, (.sl 9 1)]), 4, 48, 0, [(0, 2), (1, 2), (2, 4), (3, 93)]⟩ .nil) 138 ⟨(.agg [(.i .i64), (.i .i64), .b, (.sl 9 1)]), 4, 48, 0, [(0, 2), (1, 2), (2, 4), (3, 93)]⟩ (.node .nil 143 ⟨.fn, 1, 8, 0, [(2, 4)]⟩ .nil)) 153 ⟨.fn, 1, 8, 0, []⟩ (.node (.node .nil 156 ⟨.fn, 1, 8, 0, []⟩ .nil) 160 ⟨.fn, 1, 8, 0, []⟩ (.node .nil 165 ⟨(.sl 3 1), 1, 24, 3, []⟩ .nil)))))
noncomputable def fi7 : FI := mkFI Tryz.f7 .b [] [] []
noncomputable def fi8 : FI := mkFI Tryz.f8 (.i .i64) [] [] []
noncomputable def fi9 : FI := mkFI Tryz.f9 (.i .i64) [] [] []
noncomputable def fi11 : FI := mkFI Tryz.f11 (.agg [(.i .i64), (.i .i64), (.i .i64), (.sl 138 4), (.i .i64), (.i .i64), .b, (.i .i64), (.sl 101 6)]) [] [] []
noncomputable def fi12 : FI := mkFI Tryz.f12 (.agg [(.i .i64), (.i .i64), (.i .i64), (.sl 106 10)]) [] [] []
noncomputable def fi14 : FI := mkFI Tryz.f14 .b [] [] []
noncomputable def fi15 : FI := mkFI Tryz.f15 .b [] [] []
noncomputable def fi22 : FI := mkFI Tryz.f22 .b [(4, [0, 1, 5], 0)] [] []
noncomputable def fi27 : FI := mkFI Tryz.f27 (.tup [(.i .i64), (.i .i64)]) [] [] []
noncomputable def fi28 : FI := mkFI Tryz.f28 (.tup [(.i .i64), (.i .i64)]) [] [] []
noncomputable def fi29 : FI := mkFI Tryz.f29 (.i .i64) [] [] []
noncomputable def fi30 : FI := mkFI Tryz.f30 (.i .i64) [(5, [0, 1, 5], 0)] [] []
noncomputable def fi31 : FI := mkFI Tryz.f31 (.i .i64) [(5, [0, 1, 5], 0)] [] []
noncomputable def fi32 : FI := mkFI Tryz.f32 .b [(5, [1, 3, 4], 2), (11, [1, 3, 4, 5, 6], 3)] [] []
noncomputable def fi33 : FI := mkFI Tryz.f33 .b [(4, [0, 3], 0), (9, [0, 3, 4], 0), (10, [0, 3, 4, 5], 0)] [] []
noncomputable def fi35 : FI := mkFI Tryz.f35 (.i .i64) [] [] []
noncomputable def fi36 : FI := mkFI Tryz.f36 (.agg [(.i .i64), (.i .i64), (.i .i64), (.sl 138 4), (.i .i64), (.i .i64), .b, (.i .i64)]) [] [] []
noncomputable def fi37 : FI := mkFI Tryz.f37 (.sl 101 6) [(3, [0, 3, 4], 2)] [] []
noncomputable def fi38 : FI := mkFI Tryz.f38 (.sl 106 10) [(3, [0, 3, 4], 2)] [] []
noncomputable def fi39 : FI := mkFI Tryz.f39 .b [] [] []
noncomputable def fi41 : FI := mkFI Tryz.f41 (.i .i64) [] [] []
noncomputable def fi42 : FI := mkFI Tryz.f42 .b [] [] []
noncomputable def fi43 : FI := mkFI Tryz.f43 .b [(4, [0, 1, 5], 0)] [] []
noncomputable def fi44 : FI := mkFI Tryz.f44 .b [(4, [0, 1, 5], 0)] [] []
noncomputable def fi47 : FI := mkFI Tryz.f47 (.i .i64) [(4, [0, 5, 6, 7], 0), (5, [0, 5, 6, 7], 0), (7, [0, 6, 7], 0)] [] []
noncomputable def fi48 : FI := mkFI Tryz.f48 (.tup [(.i .i64), .b]) [] [] []
noncomputable def fi49 : FI := mkFI Tryz.f49 (.sl 2 1) [(3, [0, 1, 2, 7, 8], 2), (4, [0, 1, 2, 7, 8], 2)] [] []
noncomputable def fi50 : FI := mkFI Tryz.f50 (.sl 2 1) [(3, [0, 2, 4, 7, 13, 14], 3), (7, [0, 2, 4, 7, 13, 14], 3)] [] []
noncomputable def fi54 : FI := mkFI Tryz.f54 .b [] [] []
noncomputable def fi55 : FI := mkFI Tryz.f55 (.tup [(.i .i64), (.i .i64)]) [(3, [0, 1, 2, 3, 4, 12, 13], 0), (4, [0, 1, 2, 3, 4, 12, 13], 0)] [] []
noncomputable def fi56 : FI := mkFI Tryz.f56 .b [] [] []
noncomputable def fi57 : FI := mkFI Tryz.f57 (.tup [(.i .i64), .b]) [(2, [0, 3, 5, 6, 14, 15, 16], 2), (6, [0, 3, 5, 6, 14, 15, 16], 2)] [] []
noncomputable def fi58 : FI := mkFI Tryz.f58 (.i .i64) [(5, [0, 1, 5], 0)] [] []
noncomputable def fi59 : FI := mkFI Tryz.f59 (.i .i64) [] [] []
noncomputable def fi60 : FI := mkFI Tryz.f60 (.i .i64) [] [] []
noncomputable def fi61 : FI := mkFI Tryz.f61 .b [(4, [1, 3], 1)] [] []
noncomputable def fi62 : FI := mkFI Tryz.f62 (.i .i64) [] [] []
noncomputable def fi63 : FI := mkFI Tryz.f63 .b [(4, [2, 3, 5], 2)] [] []
noncomputable def fi64 : FI := mkFI Tryz.f64 .b [(4, [2, 3, 5], 2), (9, [3, 6], 2)] [] []
noncomputable def fi65 : FI := mkFI Tryz.f65 .b [(14, [2, 3, 5], 2), (15, [2, 3, 5, 6], 2)] [] []
noncomputable def fi66 : FI := mkFI Tryz.f66 .b [(2, [0, 1, 5], 0)] [] []
noncomputable def fi67 : FI := mkFI Tryz.f67 .b [] [] []
noncomputable def fi68 : FI := mkFI Tryz.f68 .b [] [] []
noncomputable def fi69 : FI := mkFI Tryz.f69 (.sl 106 10) [(3, [0, 1, 5, 6], 2), (4, [0, 1, 5, 6], 2)] [] []
noncomputable def fi70 : FI := mkFI Tryz.f70 (.agg [(.i .i64), (.i .i64), (.i .i64)]) [] [] []
noncomputable def fi71 : FI := mkFI Tryz.f71 (.sl 138 4) [(3, [0, 3, 4], 2)] [] []
noncomputable def fi72 : FI := mkFI Tryz.f72 (.agg [(.i .i64), (.sl 2 1), (.i .i64), (.i .i64), (.sl 2 1), (.sl 9 1)]) [] [] []
noncomputable def fi73 : FI := mkFI Tryz.f73 (.agg [(.i .i64), (.i .i64), (.i .i64), (.i .i64), (.i .i64), .s, .s, (.i .i64), (.i .i64), (.i .i64)]) [] [] []
noncomputable def fi74 : FI := mkFI Tryz.f74 .b [(5, [1, 3, 26, 27, 28], 2), (10, [1, 3, 26, 27, 28, 46, 47, 48], 2)] [] []
noncomputable def fi75 : FI := mkFI Tryz.f75 .b [] [] []
noncomputable def fi76 : FI := mkFI Tryz.f76 (.sl 106 10) [] [] []
noncomputable def fi77 : FI := mkFI Tryz.f77 .b [] [] []
noncomputable def fi78 : FI := mkFI Tryz.f78 .b [(4, [0, 1, 5], 0)] [] []
noncomputable def fi79 : FI := mkFI Tryz.f79 .b [] [] []
noncomputable def fi80 : FI := mkFI Tryz.f80 .b [] [] []
noncomputable def fi83 : FI := mkFI Tryz.f83 (.i .i64) [(3, [0, 1, 5, 6], 0)] [] []
noncomputable def fi84 : FI := mkFI Tryz.f84 (.i .i64) [(5, [0, 1, 5, 6], 0), (6, [0, 1, 5, 6], 0)] [] []
noncomputable def fi85 : FI := mkFI Tryz.f85 (.i .i64) [] [] []
noncomputable def fi86 : FI := mkFI Tryz.f86 (.i .i64) [(3, [0, 5, 15, 16, 17], 0)] [] []
noncomputable def fi90 : FI := mkFI Tryz.f90 .b [(3, [2, 7, 8], 0)] [] []
noncomputable def fi91 : FI := mkFI Tryz.f91 (.i .i64) [(4, [0, 5], 1)] [] []
noncomputable def fi92 : FI := mkFI Tryz.f92 (.i .i64) [] [] []
noncomputable def fi93 : FI := mkFI Tryz.f93 (.i .i64) [(4, [0, 5], 1)] [] []
noncomputable def fi94 : FI := mkFI Tryz.f94 .b [] [] []
noncomputable def fi95 : FI := mkFI Tryz.f95 .b [] [] []
noncomputable def fi96 : FI := mkFI Tryz.f96 (.i .i64) [] [] []
noncomputable def fi97 : FI := mkFI Tryz.f97 (.i .i64) [] [] []
noncomputable def fi98 : FI := mkFI Tryz.f98 (.i .i64) [] [] []
noncomputable def fi99 : FI := mkFI Tryz.f99 (.i .i64) [(5, [0, 1, 5], 0)] [] []
noncomputable def fi100 : FI := mkFI Tryz.f100 .b [] [] []
noncomputable def fi101 : FI := mkFI Tryz.f101 .b [(4, [1, 2, 5], 1), (5, [1, 2, 5], 1)] [] []
noncomputable def fi102 : FI := mkFI Tryz.f102 (.i .i64) [(3, [0, 3, 4], 0)] [] []
noncomputable def fi103 : FI := mkFI Tryz.f103 (.agg [(.i .i64), (.i .i64), .b, (.sl 9 1)]) [] [] []
noncomputable def fi104 : FI := mkFI Tryz.f104 (.sl 2 1) [(3, [0, 3, 4], 2)] [] []
noncomputable def fi105 : FI := mkFI Tryz.f105 (.sl 9 1) [(3, [0, 3, 4], 2)] [] []
noncomputable def fi106 : FI := mkFI Tryz.f106 .b [] [] []
noncomputable def fi107 : FI := mkFI Tryz.f107 .b [(4, [0, 19, 20, 21], 0)] [] []
noncomputable def fi108 : FI := mkFI Tryz.f108 .b [] [] []
noncomputable def fi109 : FI := mkFI Tryz.f109 .b [] [] []
noncomputable def fi110 : FI := mkFI Tryz.f110 .b [(2, [1, 7, 8, 9], 1), (10, [1, 7, 8, 9], 1)] [] []
noncomputable def fi111 : FI := mkFI Tryz.f111 (.sl 106 10) [] [⟨[10, 10113, 5], (.pr 0), [(.same 106)], [(5, [0, 1, 5, 6], 1), (6, [0, 1, 5, 6], 1)]⟩] [0]
noncomputable def fi112 : FI := mkFI Tryz.f112 (.sl 106 10) [] [⟨[1], (.so 0), [(.row true 106)], []⟩] []
noncomputable def fi113 : FI := mkFI Tryz.f113 .b [] [] []
noncomputable def fi114 : FI := mkFI Tryz.f114 .b [] [] []
noncomputable def fi115 : FI := mkFI Tryz.f115 .b [(4, [0, 1, 5], 0)] [] []
noncomputable def fi116 : FI := mkFI Tryz.f116 (.i .i64) [] [] []
noncomputable def fi117 : FI := mkFI Tryz.f117 (.i .i64) [(2, [0, 1, 7, 8], 0)] [] []
noncomputable def fi118 : FI := mkFI Tryz.f118 .b [] [] []
noncomputable def fi119 : FI := mkFI Tryz.f119 (.i .i64) [] [] []
noncomputable def fi120 : FI := mkFI Tryz.f120 .b [] [] []
noncomputable def fi121 : FI := mkFI Tryz.f121 .b [] [] []
noncomputable def fi122 : FI := mkFI Tryz.f122 .b [(4, [3, 28, 29, 30], 2), (8, [3, 28, 29, 30], 2)] [] []
noncomputable def fi123 : FI := mkFI Tryz.f123 .b [] [] []
noncomputable def fi124 : FI := mkFI Tryz.f124 (.i .i64) [(3, [3, 6, 7, 8], 0)] [] []
noncomputable def fi125 : FI := mkFI Tryz.f125 .b [] [] []
noncomputable def fi126 : FI := mkFI Tryz.f126 .b [] [] []
noncomputable def fi127 : FI := mkFI Tryz.f127 .b [] [] []
noncomputable def fi128 : FI := mkFI Tryz.f128 .b [] [] []
noncomputable def fi129 : FI := mkFI Tryz.f129 .b [] [] []
noncomputable def fi130 : FI := mkFI Tryz.f130 (.i .i64) [(3, [2, 3], 2)] [] []
noncomputable def fi131 : FI := mkFI Tryz.f131 (.i .i64) [(2, [0, 1, 7, 8], 0)] [] []
noncomputable def fi132 : FI := mkFI Tryz.f132 .b [] [] []
noncomputable def fi133 : FI := mkFI Tryz.f133 .b [] [] []
noncomputable def fi134 : FI := mkFI Tryz.f134 (.i .i64) [(2, [0, 1, 7, 8], 0)] [] []
noncomputable def fi135 : FI := mkFI Tryz.f135 .b [] [] []
noncomputable def fi136 : FI := mkFI Tryz.f136 (.i .i64) [] [] []
noncomputable def fi137 : FI := mkFI Tryz.f137 (.i .i64) [(3, [3, 6, 7, 8], 0)] [] []
noncomputable def fi138 : FI := mkFI Tryz.f138 (.i .i64) [] [] []
noncomputable def fi139 : FI := mkFI Tryz.f139 (.i .i64) [(2, [0, 1, 7, 8], 0)] [] []
noncomputable def fi140 : FI := mkFI Tryz.f140 .b [] [] []
noncomputable def fi141 : FI := mkFI Tryz.f141 (.i .i64) [] [] []
noncomputable def fns : BT FI := (.node (.node (.node (.node (.node (.node (.node .nil 7 fi7 .nil) 8 fi8 (.node .nil 9 fi9 .nil)) 11 fi11 (.node (.node .nil 12 fi12 .nil) 14 fi14 .nil)) 15 fi15 (.node (.node (.node .nil 22 fi22 .nil) 27 fi27 (.node .nil 28 fi28 .nil)) 29 fi29 (.node (.node .nil 30 fi30 .nil) 31 fi31 .nil))) 32 fi32 (.node (.node (.node (.node .nil 33 fi33 .nil) 35 fi35 (.node .nil 36 fi36 .nil)) 37 fi37 (.node (.node .nil 38 fi38 .nil) 39 fi39 .nil)) 41 fi41 (.node (.node (.node .nil 42 fi42 .nil) 43 fi43 (.node .nil 44 fi44 .nil)) 47 fi47 (.node (.node .nil 48 fi48 .nil) 49 fi49 .nil)))) 50 fi50 (.node (.node (.node (.node (.node .nil 54 fi54 .nil) 55 fi55 (.node .nil 56 fi56 .nil)) 57 fi57 (.node (.node .nil 58 fi58 .nil) 59 fi59 .nil)) 60 fi60 (.node (.node (.node .nil 61 fi61 .nil) 62 fi62 (.node .nil 63 fi63 .nil)) 64 fi64 (.node (.node .nil 65 fi65 .nil) 66 fi66 .nil))) 67 fi67 (.node (.node (.node (.node .nil 68 fi68 .nil) 69 fi69 (.node .nil 70 fi70 .nil)) 71 fi71 (.node (.node .nil 72 fi72 .nil) 73 fi73 .nil)) 74 fi74 (.node (.node (.node .nil 75 fi75 .nil) 76 fi76 (.node .nil 77 fi77 .nil)) 78 fi78 (.node (.node .nil 79 fi79 .nil) 80 fi80 .nil))))) 83 fi83 (.node (.node (.node (.node (.node (.node .nil 84 fi84 .nil) 85 fi85 (.node .nil 86 fi86 .nil)) 90 fi90 (.node (.node .nil 91 fi91 .nil) 92 fi92 .nil)) 93 fi93 (.node (.node (.node .nil 94 fi94 .nil) 95 fi95 (.node .nil 96 fi96 .nil)) 97 fi97 (.node (.node .nil 98 fi98 .nil) 99 fi99 .nil))) 100 fi100 (.node (.node (.node (.node .nil 101 fi101 .nil) 102 fi102 (.node .nil 103 fi103 .nil)) 104 fi104 (.node (.node .nil 105 fi105 .nil) 106 fi106 .nil)) 107 fi107 (.node (.node (.node .nil 108 fi108 .nil) 109 fi109 (.node .nil 110 fi110 .nil)) 111 fi111 (.node (.node .nil 112 fi112 .nil) 113 fi113 .nil)))) 114 fi114 (.node (.node (.node (.node (.node .nil 115 fi115 .nil) 116 fi116 (.node .nil 117 fi117 .nil)) 118 fi118 (.node (.node .nil 119 fi119 .nil) 120 fi120 .nil)) 121 fi121 (.node (.node (.node .nil 122 fi122 .nil) 123 fi123 (.node .nil 124 fi124 .nil)) 125 fi125 (.node (.node .nil 126 fi126 .nil) 127 fi127 .nil))) 128 fi128 (.node (.node (.node (.node .nil 129 fi129 .nil) 130 fi130 (.node .nil 131 fi131 .nil)) 132 fi132 (.node (.node .nil 133 fi133 .nil) 134 fi134 .nil)) 135 fi135 (.node (.node (.node .nil 136 fi136 .nil) 137 fi137 (.node .nil 138 fi138 .nil)) 139 fi139 (.node (.node .nil 140 fi140 .nil) 141 fi141 .nil))))))
theorem ty_ok : tys.all (tyOk Tryz.prog) = true := by kernel_rfl
set_option maxHeartbeats 1000000 in
set_option maxRecDepth 100000 in
theorem pr141 : PrOk Tryz.prog 141 prCmp := by
  refine prCmp_ok ?_
  intro a b w
  go_enter Tryz.func141, Tryz.ntmps141
  go_wp2
  rw [run_callFunc_extern Tryz.func142 (by kernel_rfl) (by kernel_rfl) (by kernel_rfl) (e := Extern.BytealgCompare.compare) (by kernel_rfl), Lib.run_compareString]
  simp only [Result.andThen]
  rw [Oper.upon_value]
  go_wp2
  go_ret
  exact ⟨rfl, rfl⟩
noncomputable def E0 : Env := ⟨tys.get, fun _ => none, fun _ => none, fun _ => none⟩
theorem env0 : EnvOk Tryz.prog E0 := ⟨fun t ti h => tys.get_all ty_ok h, fun g fi h => (by cases h), by kernel_rfl, fun g p h => (by cases h), fun g p h => (by cases h)⟩
set_option maxRecDepth 100000 in
theorem po112 : PoOk Tryz.prog 112 (prClone 10 96 106) :=
  clone_ok env0 (f := Tryz.f112) (fi := fi112) (st1 := fun es => ⟨mkT 8 [(0, (.imm 10 es)), (1, .u), (2, (.sl 0 [] none)), (3, .u), (4, .u), (5, .u), (6, .u), (7, .u)], [.live true false false 106 []]⟩) Tryz.func112 rfl (by rfl) (by rfl) (by exact ⟨rfl, rfl, rfl⟩) (by exact ⟨rfl, rfl, rfl⟩) Tryz.underlying44
    (fun es => by kernel_rfl) (fun es => by kernel_rfl) (fun es => by kernel_rfl) (by kernel_rfl) (fun es h => (by kernel_rfl : _ = if es.length * 96 ≤ room then some (.sl 0 [] none, [.live true false false 106 es]) else none).trans (if_pos h))
noncomputable def pos : BT (List AV → List Root → Option (AV × List Root)) := (.node .nil 112 (prClone 10 96 106) .nil)
noncomputable def prs : BT (List AV → Option AV) := (.node .nil 141 prCmp .nil)
noncomputable def E : Env := ⟨tys.get, fns.get, prs.get, pos.get⟩
theorem fn_ok : fns.All (FnOk Tryz.prog) := ⟨⟨⟨⟨⟨⟨⟨trivial, fnOk_mk Tryz.func7 (by kernel_rfl), trivial⟩, fnOk_mk Tryz.func8 (by kernel_rfl), ⟨trivial, fnOk_mk Tryz.func9 (by kernel_rfl), trivial⟩⟩, fnOk_mk Tryz.func11 (by kernel_rfl), ⟨⟨trivial, fnOk_mk Tryz.func12 (by kernel_rfl), trivial⟩, fnOk_mk Tryz.func14 (by kernel_rfl), trivial⟩⟩, fnOk_mk Tryz.func15 (by kernel_rfl), ⟨⟨⟨trivial, fnOk_mk Tryz.func22 (by kernel_rfl), trivial⟩, fnOk_mk Tryz.func27 (by kernel_rfl), ⟨trivial, fnOk_mk Tryz.func28 (by kernel_rfl), trivial⟩⟩, fnOk_mk Tryz.func29 (by kernel_rfl), ⟨⟨trivial, fnOk_mk Tryz.func30 (by kernel_rfl), trivial⟩, fnOk_mk Tryz.func31 (by kernel_rfl), trivial⟩⟩⟩, fnOk_mk Tryz.func32 (by kernel_rfl), ⟨⟨⟨⟨trivial, fnOk_mk Tryz.func33 (by kernel_rfl), trivial⟩, fnOk_mk Tryz.func35 (by kernel_rfl), ⟨trivial, fnOk_mk Tryz.func36 (by kernel_rfl), trivial⟩⟩, fnOk_mk Tryz.func37 (by kernel_rfl), ⟨⟨trivial, fnOk_mk Tryz.func38 (by kernel_rfl), trivial⟩, fnOk_mk Tryz.func39 (by kernel_rfl), trivial⟩⟩, fnOk_mk Tryz.func41 (by kernel_rfl), ⟨⟨⟨trivial, fnOk_mk Tryz.func42 (by kernel_rfl), trivial⟩, fnOk_mk Tryz.func43 (by kernel_rfl), ⟨trivial, fnOk_mk Tryz.func44 (by kernel_rfl), trivial⟩⟩, fnOk_mk Tryz.func47 (by kernel_rfl), ⟨⟨trivial, fnOk_mk Tryz.func48 (by kernel_rfl), trivial⟩, fnOk_mk Tryz.func49 (by kernel_rfl), trivial⟩⟩⟩⟩, fnOk_mk Tryz.func50 (by kernel_rfl), ⟨⟨⟨⟨⟨trivial, fnOk_mk Tryz.func54 (by kernel_rfl), trivial⟩, fnOk_mk Tryz.func55 (by kernel_rfl), ⟨trivial, fnOk_mk Tryz.func56 (by kernel_rfl), trivial⟩⟩, fnOk_mk Tryz.func57 (by kernel_rfl), ⟨⟨trivial, fnOk_mk Tryz.func58 (by kernel_rfl), trivial⟩, fnOk_mk Tryz.func59 (by kernel_rfl), trivial⟩⟩, fnOk_mk Tryz.func60 (by kernel_rfl), ⟨⟨⟨trivial, fnOk_mk Tryz.func61 (by kernel_rfl), trivial⟩, fnOk_mk Tryz.func62 (by kernel_rfl), ⟨trivial, fnOk_mk Tryz.func63 (by kernel_rfl), trivial⟩⟩, fnOk_mk Tryz.func64 (by kernel_rfl), ⟨⟨trivial, fnOk_mk Tryz.func65 (by kernel_rfl), trivial⟩, fnOk_mk Tryz.func66 (by kernel_rfl), trivial⟩⟩⟩, fnOk_mk Tryz.func67 (by kernel_rfl), ⟨⟨⟨⟨trivial, fnOk_mk Tryz.func68 (by kernel_rfl), trivial⟩, fnOk_mk Tryz.func69 (by kernel_rfl), ⟨trivial, fnOk_mk Tryz.func70 (by kernel_rfl), trivial⟩⟩, fnOk_mk Tryz.func71 (by kernel_rfl), ⟨⟨trivial, fnOk_mk Tryz.func72 (by kernel_rfl), trivial⟩, fnOk_mk Tryz.func73 (by kernel_rfl), trivial⟩⟩, fnOk_mk Tryz.func74 (by kernel_rfl), ⟨⟨⟨trivial, fnOk_mk Tryz.func75 (by kernel_rfl), trivial⟩, fnOk_mk Tryz.func76 (by kernel_rfl), ⟨trivial, fnOk_mk Tryz.func77 (by kernel_rfl), trivial⟩⟩, fnOk_mk Tryz.func78 (by kernel_rfl), ⟨⟨trivial, fnOk_mk Tryz.func79 (by kernel_rfl), trivial⟩, fnOk_mk Tryz.func80 (by kernel_rfl), trivial⟩⟩⟩⟩⟩, fnOk_mk Tryz.func83 (by kernel_rfl), ⟨⟨⟨⟨⟨⟨trivial, fnOk_mk Tryz.func84 (by kernel_rfl), trivial⟩, fnOk_mk Tryz.func85 (by kernel_rfl), ⟨trivial, fnOk_mk Tryz.func86 (by kernel_rfl), trivial⟩⟩, fnOk_mk Tryz.func90 (by kernel_rfl), ⟨⟨trivial, fnOk_mk Tryz.func91 (by kernel_rfl), trivial⟩, fnOk_mk Tryz.func92 (by kernel_rfl), trivial⟩⟩, fnOk_mk Tryz.func93 (by kernel_rfl), ⟨⟨⟨trivial, fnOk_mk Tryz.func94 (by kernel_rfl), trivial⟩, fnOk_mk Tryz.func95 (by kernel_rfl), ⟨trivial, fnOk_mk Tryz.func96 (by kernel_rfl), trivial⟩⟩, fnOk_mk Tryz.func97 (by kernel_rfl), ⟨⟨trivial, fnOk_mk Tryz.func98 (by kernel_rfl), trivial⟩, fnOk_mk Tryz.func99 (by kernel_rfl), trivial⟩⟩⟩, fnOk_mk Tryz.func100 (by kernel_rfl), ⟨⟨⟨⟨trivial, fnOk_mk Tryz.func101 (by kernel_rfl), trivial⟩, fnOk_mk Tryz.func102 (by kernel_rfl), ⟨trivial, fnOk_mk Tryz.func103 (by kernel_rfl), trivial⟩⟩, fnOk_mk Tryz.func104 (by kernel_rfl), ⟨⟨trivial, fnOk_mk Tryz.func105 (by kernel_rfl), trivial⟩, fnOk_mk Tryz.func106 (by kernel_rfl), trivial⟩⟩, fnOk_mk Tryz.func107 (by kernel_rfl), ⟨⟨⟨trivial, fnOk_mk Tryz.func108 (by kernel_rfl), trivial⟩, fnOk_mk Tryz.func109 (by kernel_rfl), ⟨trivial, fnOk_mk Tryz.func110 (by kernel_rfl), trivial⟩⟩, fnOk_mk Tryz.func111 (by kernel_rfl), ⟨⟨trivial, fnOk_mk Tryz.func112 (by kernel_rfl), trivial⟩, fnOk_mk Tryz.func113 (by kernel_rfl), trivial⟩⟩⟩⟩, fnOk_mk Tryz.func114 (by kernel_rfl), ⟨⟨⟨⟨⟨trivial, fnOk_mk Tryz.func115 (by kernel_rfl), trivial⟩, fnOk_mk Tryz.func116 (by kernel_rfl), ⟨trivial, fnOk_mk Tryz.func117 (by kernel_rfl), trivial⟩⟩, fnOk_mk Tryz.func118 (by kernel_rfl), ⟨⟨trivial, fnOk_mk Tryz.func119 (by kernel_rfl), trivial⟩, fnOk_mk Tryz.func120 (by kernel_rfl), trivial⟩⟩, fnOk_mk Tryz.func121 (by kernel_rfl), ⟨⟨⟨trivial, fnOk_mk Tryz.func122 (by kernel_rfl), trivial⟩, fnOk_mk Tryz.func123 (by kernel_rfl), ⟨trivial, fnOk_mk Tryz.func124 (by kernel_rfl), trivial⟩⟩, fnOk_mk Tryz.func125 (by kernel_rfl), ⟨⟨trivial, fnOk_mk Tryz.func126 (by kernel_rfl), trivial⟩, fnOk_mk Tryz.func127 (by kernel_rfl), trivial⟩⟩⟩, fnOk_mk Tryz.func128 (by kernel_rfl), ⟨⟨⟨⟨trivial, fnOk_mk Tryz.func129 (by kernel_rfl), trivial⟩, fnOk_mk Tryz.func130 (by kernel_rfl), ⟨trivial, fnOk_mk Tryz.func131 (by kernel_rfl), trivial⟩⟩, fnOk_mk Tryz.func132 (by kernel_rfl), ⟨⟨trivial, fnOk_mk Tryz.func133 (by kernel_rfl), trivial⟩, fnOk_mk Tryz.func134 (by kernel_rfl), trivial⟩⟩, fnOk_mk Tryz.func135 (by kernel_rfl), ⟨⟨⟨trivial, fnOk_mk Tryz.func136 (by kernel_rfl), trivial⟩, fnOk_mk Tryz.func137 (by kernel_rfl), ⟨trivial, fnOk_mk Tryz.func138 (by kernel_rfl), trivial⟩⟩, fnOk_mk Tryz.func139 (by kernel_rfl), ⟨⟨trivial, fnOk_mk Tryz.func140 (by kernel_rfl), trivial⟩, fnOk_mk Tryz.func141 (by kernel_rfl), trivial⟩⟩⟩⟩⟩⟩
theorem pr_ok : prs.All (PrOk Tryz.prog) := ⟨trivial, pr141, trivial⟩
theorem po_ok : pos.All (PoOk Tryz.prog) := ⟨trivial, po112, trivial⟩
theorem env : EnvOk Tryz.prog E := ⟨fun t ti h => tys.get_all ty_ok h, fun g fi h => fns.get_All fn_ok h, by kernel_rfl, fun g p h => prs.get_All pr_ok h, fun g p h => pos.get_All po_ok h⟩
theorem ty2 : E.Γ 2 = some ⟨(.i .i64), 1, 8, 0, []⟩ := by kernel_rfl
theorem ty29 : E.Γ 29 = some ⟨(.agg [(.i .i64), (.i .i64), (.i .i64), (.sl 135 4), (.i .i64), (.i .i64), .b, (.i .i64), (.sl 95 6)]), 9, 104, 0, [(0, 26), (8, 27)]⟩ := by kernel_rfl
theorem ty32 : E.Γ 32 = some ⟨(.agg [(.i .i64), (.i .i64), (.i .i64), (.sl 98 10)]), 4, 48, 0, [(0, 2), (1, 2), (2, 2), (3, 30)]⟩ := by kernel_rfl
theorem fn7 : E.Φ 7 = some fi7 := by kernel_rfl
end Go.Proofs.YtokpbjbngnlepaaGreat.IPlaceTable
