/- Printed by a program of this work (wip/it/itp.py): what each function comes to. No condition. -/
import Derived.Test.YtcjfeglalmlkbaaITablesInt
namespace Go.Proofs.Ytcjfeglalmlkbaa.ITablesIn
open Go Go.Proofs.YtcjfeglalmlkbaaIT
set_option linter.unusedVariables false
/-! 168: loop.example/g00905/laws.szTableRef -/
theorem f168_eq (x0_0 : Int) (x0_1 : Int) (x0_2 : Int) (x0_3 : Int) (x0_4 : Int) (x0_5 : ByteArray) (x0_6 : ByteArray) (x0_7 : Int) (x0_8 : Int) (x0_9 : Int) (x1 : Int) : den E 168 [(.agg [(.i .i64 x0_0), (.i .i64 x0_1), (.i .i64 x0_2), (.i .i64 x0_3), (.i .i64 x0_4), (.s x0_5), (.s x0_6), (.i .i64 x0_7), (.i .i64 x0_8), (.i .i64 x0_9)]), (.i .i64 x1)] [] =
 cond (decide ((IntKind.i64.wrap (x1 - ((x0_5.size : Nat) : Int))) < (0 : Int)))
 (some (.i .i64 (-1 : Int)))
 (cond (decide ((IntKind.i64.wrap ((IntKind.i64.wrap (x1 - ((x0_5.size : Nat) : Int))) - ((x0_6.size : Nat) : Int))) < (0 : Int)))
 (some (.i .i64 (-1 : Int)))
 (some (.i .i64 (IntKind.i64.wrap ((IntKind.i64.wrap (x1 - ((x0_5.size : Nat) : Int))) - ((x0_6.size : Nat) : Int)))))) := (den_eq ..).trans (by kernel_rfl)
/-! 106: loop.example/g00905/laws.szTableRefS -/
noncomputable def f106_l1 (t0 : List AV) (t1 : Int) (t5 : Int) : Option AV := Lp E fi106 [true, true, true, false, true, false] (mkT 27 [(0, (.imm 10 t0)), (1, (.i .i64 t1)), (5, (.i .i64 t5))]) []
theorem f106_eq (x0 : List AV) (x1 : Int) : den E 106 [(.imm 10 x0), (.i .i64 x1)] [] =
 cond (decide ((IntKind.i64.wrap (x1 - ((x0.length : Nat) : Int))) < (0 : Int)))
 (some (.i .i64 (-1 : Int)))
 (f106_l1 x0 (IntKind.i64.wrap (x1 - ((x0.length : Nat) : Int))) (0 : Int)) := (den_eq ..).trans (by kernel_rfl)
theorem f106_l1_eq (t0 : List AV) (t1 : Int) (t5 : Int) : f106_l1 t0 t1 t5 =
 cond (decide (t5 < ((t0.length : Nat) : Int)))
 (if 0 ≤ t5 ∧ t5 < ((t0.length : Nat) : Int) then
 if okCells false (t0.getD t5.toNat .x) 0 [(.i .i64), (.i .i64), (.i .i64), (.i .i64), (.i .i64), .s, .s, (.i .i64), (.i .i64), (.i .i64)] = true then
 bSh (.i .i64) (den E 168 [(.agg [(.i .i64 (((t0.getD t5.toNat .x).cells.getD 0 .x).toI)), (.i .i64 (((t0.getD t5.toNat .x).cells.getD 1 .x).toI)), (.i .i64 (((t0.getD t5.toNat .x).cells.getD 2 .x).toI)), (.i .i64 (((t0.getD t5.toNat .x).cells.getD 3 .x).toI)), (.i .i64 (((t0.getD t5.toNat .x).cells.getD 4 .x).toI)), (.s (((t0.getD t5.toNat .x).cells.getD 5 .x).toS)), (.s (((t0.getD t5.toNat .x).cells.getD 6 .x).toS)), (.i .i64 (((t0.getD t5.toNat .x).cells.getD 7 .x).toI)), (.i .i64 (((t0.getD t5.toNat .x).cells.getD 8 .x).toI)), (.i .i64 (((t0.getD t5.toNat .x).cells.getD 9 .x).toI))]), (.i .i64 t1)] []) fun a1 =>
 cond (decide (a1.toI < (0 : Int)))
 (some (.i .i64 (-1 : Int)))
 (f106_l1 t0 a1.toI (IntKind.i64.wrap (t5 + (1 : Int))))
 else none
 else none)
 (some (.i .i64 t1)) := (Lp_eq ..).trans (by kernel_rfl)
/-! 38: loop.example/g00905/laws.szVersion -/
theorem f38_eq (x0_0 : Int) (x0_1 : Int) (x0_2 : Int) (x0_3 : List AV) (x1 : Int) : den E 38 [(.agg [(.i .i64 x0_0), (.i .i64 x0_1), (.i .i64 x0_2), (.imm 10 x0_3)]), (.i .i64 x1)] [] =
 bSh (.i .i64) (den E 106 [(.imm 10 x0_3), (.i .i64 x1)] []) fun a1 =>
 cond (decide (a1.toI < (0 : Int)))
 (some (.i .i64 (-1 : Int)))
 (some (.i .i64 a1.toI)) := (den_eq ..).trans (by kernel_rfl)
/-! 171: loop.example/g00905/laws.toTableRef -/
theorem f171_eq (x0_0 : Int) (x0_1 : Int) (x0_2 : Int) (x0_3 : Int) (x0_4 : Int) (x0_5 : ByteArray) (x0_6 : ByteArray) (x0_7 : Int) (x0_8 : Int) (x0_9 : Int) : den E 171 [(.agg [(.i .i64 x0_0), (.i .i64 x0_1), (.i .i64 x0_2), (.i .i64 x0_3), (.i .i64 x0_4), (.s x0_5), (.s x0_6), (.i .i64 x0_7), (.i .i64 x0_8), (.i .i64 x0_9)])] [] =
 some (.agg [(.i .i64 x0_0), (.i .i64 x0_1), (.i .i64 x0_2), (.i .i64 x0_3), (.i .i64 x0_4), (.s x0_5), (.s x0_6), (.i .i64 x0_7), (.i .i64 x0_8), (.i .i64 x0_9)]) := (den_eq ..).trans (by kernel_rfl)
/-! 109: loop.example/g00905/laws.toTableRefS -/
noncomputable def f109o1_l1 (t0 : List AV) (t4 : Int) (r0 : List AV) (r1 : List AV) : Option (AV × List Root) := LpO E fi109 [(3, [0, 3, 4], 2)] 0 (.so 0) [true, true, false, true, false] (mkT 23 [(0, (.imm 10 t0)), (3, (.sl 1 [] none)), (4, (.i .i64 t4))]) [(.live true false false 148 r0), (.live true false false 148 r1)]
theorem f109o1_eq (x0 : List AV) : dno E 109 [(.imm 10 x0)] [] =
 if 0 ≤ ((x0.length : Nat) : Int) ∧ ((x0.length : Nat) : Int) ≤ ((x0.length : Nat) : Int) ∧ ((x0.length : Nat) : Int) * ((96 : Nat) : Int) ≤ ((room : Nat) : Int) ∧ ((x0.length : Nat) : Int) ≤ 9223372036854775807 then
 f109o1_l1 x0 (0 : Int) [] (List.replicate ((x0.length : Nat) : Int).toNat (.agg [(.i .i64 (0 : Int)), (.i .i64 (0 : Int)), (.i .i64 (0 : Int)), (.i .i64 (0 : Int)), (.i .i64 (0 : Int)), (.s .empty), (.s .empty), (.i .i64 (0 : Int)), (.i .i64 (0 : Int)), (.i .i64 (0 : Int))]))
 else none := (dno_eq ..).trans (by kernel_rfl)
theorem f109o1_l1_eq (t0 : List AV) (t4 : Int) (r0 : List AV) (r1 : List AV) : f109o1_l1 t0 t4 r0 r1 =
 cond (decide (t4 < ((t0.length : Nat) : Int)))
 (if 0 ≤ t4 ∧ t4 < ((t0.length : Nat) : Int) then
 if okCells false (t0.getD t4.toNat .x) 0 [(.i .i64), (.i .i64), (.i .i64), (.i .i64), (.i .i64), .s, .s, (.i .i64), (.i .i64), (.i .i64)] = true then
 bSh (.agg [(.i .i64), (.i .i64), (.i .i64), (.i .i64), (.i .i64), .s, .s, (.i .i64), (.i .i64), (.i .i64)]) (den E 171 [(.agg [(.i .i64 (((t0.getD t4.toNat .x).cells.getD 0 .x).toI)), (.i .i64 (((t0.getD t4.toNat .x).cells.getD 1 .x).toI)), (.i .i64 (((t0.getD t4.toNat .x).cells.getD 2 .x).toI)), (.i .i64 (((t0.getD t4.toNat .x).cells.getD 3 .x).toI)), (.i .i64 (((t0.getD t4.toNat .x).cells.getD 4 .x).toI)), (.s (((t0.getD t4.toNat .x).cells.getD 5 .x).toS)), (.s (((t0.getD t4.toNat .x).cells.getD 6 .x).toS)), (.i .i64 (((t0.getD t4.toNat .x).cells.getD 7 .x).toI)), (.i .i64 (((t0.getD t4.toNat .x).cells.getD 8 .x).toI)), (.i .i64 (((t0.getD t4.toNat .x).cells.getD 9 .x).toI))])] []) fun a1 =>
 if 0 ≤ t4 ∧ t4 < ((r1.length : Nat) : Int) then
 f109o1_l1 t0 (IntKind.i64.wrap (t4 + (1 : Int))) r0 (r1.set (0 + t4.toNat) ((r1.getD (0 + t4.toNat) .x).putCells 0 [(.i .i64 ((a1.nth 0).toI)), (.i .i64 ((a1.nth 1).toI)), (.i .i64 ((a1.nth 2).toI)), (.i .i64 ((a1.nth 3).toI)), (.i .i64 ((a1.nth 4).toI)), (.s ((a1.nth 5).toS)), (.s ((a1.nth 6).toS)), (.i .i64 ((a1.nth 7).toI)), (.i .i64 ((a1.nth 8).toI)), (.i .i64 ((a1.nth 9).toI))]))
 else none
 else none
 else none)
 (some ((.sl 0 [] none), [(.live true false false 148 r1)])) := (LpO_eq ..).trans (by kernel_rfl)
/-! 40: loop.example/g00905/laws.toVersion -/
theorem f40o1_eq (x0_0 : Int) (x0_1 : Int) (x0_2 : Int) (x0_3 : List AV) : dno E 40 [(.agg [(.i .i64 x0_0), (.i .i64 x0_1), (.i .i64 x0_2), (.imm 10 x0_3)])] [] =
 bOwn (.so 0) [(.row true 148)] 0 (dno E 109 [(.imm 10 x0_3)] []) fun a1 =>
 some ((.agg [(.i .i64 x0_0), (.i .i64 x0_1), (.i .i64 x0_2), (.sl 0 [] none)]), [(.live true false false 148 ((a1.2.getD 0 .dead).row))]) := (dno_eq ..).trans (by kernel_rfl)
/-! 77: loop.example/g00905/spec.l00In -/
theorem f77_eq (x0 : Int) (x1 : Int) (x2 : Int) : den E 77 [(.i .i64 x0), (.i .i64 x1), (.i .i64 x2)] [] =
 cond ((decide (x1 ≤ x0)) == true)
 (some (.b (decide (x0 ≤ x2))))
 (some (.b false)) := (den_eq ..).trans (by kernel_rfl)
/-! 169: loop.example/g00905/spec.l25Table -/
theorem f169_eq (x0 : AV) : den E 169 [(.ip x0 0)] [] =
 if okCells false x0 0 [(.i .i64)] = true then
 bSh .b (den E 77 [(.i .i64 ((x0.cells.getD 0 .x).toI)), (.i .i64 (1 : Int)), (.i .i64 (1000000 : Int))] []) fun a1 =>
 cond ((!a1.toB) == false)
 (if okCells false x0 1 [(.i .i64)] = true then
 bSh .b (den E 77 [(.i .i64 ((x0.cells.getD 1 .x).toI)), (.i .i64 (0 : Int)), (.i .i64 (2 : Int))] []) fun a2 =>
 cond ((!a2.toB) == false)
 (if okCells false x0 2 [(.i .i64)] = true then
 bSh .b (den E 77 [(.i .i64 ((x0.cells.getD 2 .x).toI)), (.i .i64 (0 : Int)), (.i .i64 (11 : Int))] []) fun a3 =>
 cond ((!a3.toB) == false)
 (if okCells false x0 3 [(.i .i64)] = true then
 bSh .b (den E 77 [(.i .i64 ((x0.cells.getD 3 .x).toI)), (.i .i64 (0 : Int)), (.i .i64 (1000 : Int))] []) fun a4 =>
 cond ((!a4.toB) == false)
 (if okCells false x0 4 [(.i .i64)] = true then
 bSh .b (den E 77 [(.i .i64 ((x0.cells.getD 4 .x).toI)), (.i .i64 (1 : Int)), (.i .i64 (100 : Int))] []) fun a5 =>
 cond (!a5.toB)
 (some (.b false))
 (if okCells false x0 5 [.s] = true then
 cond ((decide ((9 : Int) < ((((x0.cells.getD 5 .x).toS).size : Nat) : Int))) == false)
 (if okCells false x0 6 [.s] = true then
 cond ((decide ((9 : Int) < ((((x0.cells.getD 6 .x).toS).size : Nat) : Int))) == false)
 (if okCells false x0 5 [.s] = true then
 if okCells false x0 6 [.s] = true then
 cond (!lessS ((x0.cells.getD 5 .x).toS) ((x0.cells.getD 6 .x).toS))
 (some (.b false))
 (if okCells false x0 7 [(.i .i64)] = true then
 cond ((decide ((0 : Int) < ((x0.cells.getD 7 .x).toI))) == true)
 (if okCells false x0 7 [(.i .i64)] = true then
 if okCells false x0 8 [(.i .i64)] = true then
 cond ((decide (((x0.cells.getD 7 .x).toI) ≤ ((x0.cells.getD 8 .x).toI))) == true)
 (if okCells false x0 8 [(.i .i64)] = true then
 cond ((decide (((x0.cells.getD 8 .x).toI) ≤ (1000000 : Int))) == true)
 (if okCells false x0 9 [(.i .i64)] = true then
 bSh .b (den E 77 [(.i .i64 ((x0.cells.getD 9 .x).toI)), (.i .i64 (1 : Int)), (.i .i64 (60 : Int))] []) fun a6 =>
 some (.b a6.toB)
 else none)
 (some (.b false))
 else none)
 (some (.b false))
 else none
 else none)
 (some (.b false))
 else none)
 else none
 else none)
 (some (.b false))
 else none)
 (some (.b false))
 else none)
 else none)
 (some (.b false))
 else none)
 (some (.b false))
 else none)
 (some (.b false))
 else none)
 (some (.b false))
 else none := (den_eq ..).trans (by kernel_rfl)
/-! 170: loop.example/g00905/spec.l25Before -/
theorem f170_eq (x0 : AV) (x1 : AV) : den E 170 [(.ip x0 0), (.ip x1 0)] [] =
 if okCells false x0 1 [(.i .i64)] = true then
 if okCells false x1 1 [(.i .i64)] = true then
 cond (!decide (((x0.cells.getD 1 .x).toI) = ((x1.cells.getD 1 .x).toI)))
 (if okCells false x0 1 [(.i .i64)] = true then
 if okCells false x1 1 [(.i .i64)] = true then
 some (.b (decide (((x0.cells.getD 1 .x).toI) < ((x1.cells.getD 1 .x).toI))))
 else none
 else none)
 (if okCells false x0 1 [(.i .i64)] = true then
 cond (decide (((x0.cells.getD 1 .x).toI) = (0 : Int)))
 (if okCells false x0 0 [(.i .i64)] = true then
 if okCells false x1 0 [(.i .i64)] = true then
 some (.b (decide (((x1.cells.getD 0 .x).toI) < ((x0.cells.getD 0 .x).toI))))
 else none
 else none)
 (if okCells false x0 5 [.s] = true then
 if okCells false x1 5 [.s] = true then
 cond ((lessS ((x0.cells.getD 5 .x).toS) ((x1.cells.getD 5 .x).toS)) == true)
 (if okCells false x0 6 [.s] = true then
 if okCells false x1 5 [.s] = true then
 some (.b (lessS ((x0.cells.getD 6 .x).toS) ((x1.cells.getD 5 .x).toS) || decide (((x0.cells.getD 6 .x).toS) = ((x1.cells.getD 5 .x).toS))))
 else none
 else none)
 (some (.b false))
 else none
 else none)
 else none)
 else none
 else none := (den_eq ..).trans (by kernel_rfl)
/-! 107: loop.example/g00905/spec.l25Ok -/
noncomputable def f107_l1 (t0 : AV) (t3 : Int) : Option AV := Lp E fi107 [true, true, false, true, false] (mkT 110 [(0, (.ip t0 0)), (3, (.i .i64 t3))]) []
noncomputable def f107_j2 (t0 : AV) (t3 : Int) (t4 : AV) : Option AV := Jn E fi107 [true, true, false, true, false, false, true, false, false, true, true] (mkT 110 [(0, (.ip t0 0)), (3, (.i .i64 t3)), (4, (.ip t4 0))]) []
noncomputable def f107_l3 (t0 : AV) (t3 : Int) (t4 : AV) (t5 : Int) : Option AV := Lp E fi107 [true, true, false, true, false, false, true, false, false, true, true, true, false] (mkT 110 [(0, (.ip t0 0)), (3, (.i .i64 t3)), (4, (.ip t4 0)), (5, (.i .i64 t5))]) []
theorem f107_eq (x0 : AV) : den E 107 [(.ip x0 0)] [] =
 if okCells false x0 0 [(.i .i64)] = true then
 bSh .b (den E 77 [(.i .i64 ((x0.cells.getD 0 .x).toI)), (.i .i64 (1 : Int)), (.i .i64 (1000000 : Int))] []) fun a1 =>
 cond ((!a1.toB) == false)
 (if okCells false x0 1 [(.i .i64)] = true then
 bSh .b (den E 77 [(.i .i64 ((x0.cells.getD 1 .x).toI)), (.i .i64 (0 : Int)), (.i .i64 (11 : Int))] []) fun a2 =>
 cond ((!a2.toB) == false)
 (if okCells false x0 2 [(.i .i64)] = true then
 bSh .b (den E 77 [(.i .i64 ((x0.cells.getD 2 .x).toI)), (.i .i64 (0 : Int)), (.i .i64 (1000000 : Int))] []) fun a3 =>
 cond ((!a3.toB) == false)
 (if okCells false x0 3 [(.sl 148 10)] = true then
 cond (decide ((16 : Int) < ((((x0.cells.getD 3 .x).toL).length : Nat) : Int)))
 (some (.b false))
 (f107_l1 x0 (0 : Int))
 else none)
 (some (.b false))
 else none)
 (some (.b false))
 else none)
 (some (.b false))
 else none := (den_eq ..).trans (by kernel_rfl)
theorem f107_l1_eq (t0 : AV) (t3 : Int) : f107_l1 t0 t3 =
 if okCells false t0 3 [(.sl 148 10)] = true then
 cond (decide (t3 < ((((t0.cells.getD 3 .x).toL).length : Nat) : Int)))
 (if okCells false t0 3 [(.sl 148 10)] = true then
 if 0 ≤ t3 ∧ t3 < ((((t0.cells.getD 3 .x).toL).length : Nat) : Int) then
 bSh .b (den E 169 [(.ip (((t0.cells.getD 3 .x).toL).getD t3.toNat .x) 0)] []) fun a1 =>
 cond ((!a1.toB) == false)
 (if okCells false (((t0.cells.getD 3 .x).toL).getD t3.toNat .x) 0 [(.i .i64)] = true then
 if okCells false t0 0 [(.i .i64)] = true then
 cond ((decide (((t0.cells.getD 0 .x).toI) ≤ (((((t0.cells.getD 3 .x).toL).getD t3.toNat .x).cells.getD 0 .x).toI))) == false)
 (if okCells false (((t0.cells.getD 3 .x).toL).getD t3.toNat .x) 8 [(.i .i64)] = true then
 if okCells false t0 2 [(.i .i64)] = true then
 cond ((decide (((t0.cells.getD 2 .x).toI) < (((((t0.cells.getD 3 .x).toL).getD t3.toNat .x).cells.getD 8 .x).toI))) == false)
 (cond ((decide ((0 : Int) < t3)) == true)
 (if okCells false t0 3 [(.sl 148 10)] = true then
 if 0 ≤ (IntKind.i64.wrap (t3 - (1 : Int))) ∧ (IntKind.i64.wrap (t3 - (1 : Int))) < ((((t0.cells.getD 3 .x).toL).length : Nat) : Int) then
 bSh .b (den E 170 [(.ip (((t0.cells.getD 3 .x).toL).getD (IntKind.i64.wrap (t3 - (1 : Int))).toNat .x) 0), (.ip (((t0.cells.getD 3 .x).toL).getD t3.toNat .x) 0)] []) fun a2 =>
 cond (!a2.toB)
 (some (.b false))
 (f107_j2 t0 t3 (((t0.cells.getD 3 .x).toL).getD t3.toNat .x))
 else none
 else none)
 (f107_j2 t0 t3 (((t0.cells.getD 3 .x).toL).getD t3.toNat .x)))
 (some (.b false))
 else none
 else none)
 (some (.b false))
 else none
 else none)
 (some (.b false))
 else none
 else none)
 (some (.b true))
 else none := (Lp_eq ..).trans (by kernel_rfl)
theorem f107_j2_eq (t0 : AV) (t3 : Int) (t4 : AV) : f107_j2 t0 t3 t4 =
 f107_l3 t0 t3 t4 (0 : Int) := by kernel_rfl
theorem f107_l3_eq (t0 : AV) (t3 : Int) (t4 : AV) (t5 : Int) : f107_l3 t0 t3 t4 t5 =
 cond (decide (t5 < t3))
 (if okCells false t0 3 [(.sl 148 10)] = true then
 if 0 ≤ t5 ∧ t5 < ((((t0.cells.getD 3 .x).toL).length : Nat) : Int) then
 if okCells false (((t0.cells.getD 3 .x).toL).getD t5.toNat .x) 0 [(.i .i64)] = true then
 if okCells false t4 0 [(.i .i64)] = true then
 cond (decide ((((((t0.cells.getD 3 .x).toL).getD t5.toNat .x).cells.getD 0 .x).toI) = ((t4.cells.getD 0 .x).toI)))
 (some (.b false))
 (f107_l3 t0 t3 t4 (IntKind.i64.wrap (t5 + (1 : Int))))
 else none
 else none
 else none
 else none)
 (f107_l1 t0 (IntKind.i64.wrap (t3 + (1 : Int)))) := (Lp_eq ..).trans (by kernel_rfl)
/-! 108: loop.example/g00905/spec.l27Tables -/
noncomputable def f108o1_l1 (t0 : AV) (t1 : Int) (t6 : Int) (r0 : List AV) (r1 : List AV) : Option (AV × List Root) := LpO E fi108 [(3, [0, 1, 5, 6], 2), (4, [0, 1, 5, 6], 2)] 0 (.so 0) [true, true, false, true, false] (mkT 38 [(0, (.ip t0 0)), (1, (.i .i64 t1)), (5, (.sl 1 [] none)), (6, (.i .i64 t6))]) [(.live true false false 148 r0), (.live true false false 148 r1)]
noncomputable def f108o1_j2 (t0 : AV) (t1 : Int) (t6 : Int) (r0 : List AV) (r1 : List AV) : Option (AV × List Root) := JnO E fi108 [(3, [0, 1, 5, 6], 2), (4, [0, 1, 5, 6], 2)] 0 (.so 0) [true, true, false, true, false, false, true, true] (mkT 38 [(0, (.ip t0 0)), (1, (.i .i64 t1)), (5, (.sl 1 [] none)), (6, (.i .i64 t6))]) [(.live true false false 148 r0), (.live true false false 148 r1)]
theorem f108o1_eq (x0 : AV) (x1 : Int) : dno E 108 [(.ip x0 0), (.i .i64 x1)] [] =
 f108o1_l1 x0 x1 (0 : Int) [] [] := (dno_eq ..).trans (by kernel_rfl)
theorem f108o1_l1_eq (t0 : AV) (t1 : Int) (t6 : Int) (r0 : List AV) (r1 : List AV) : f108o1_l1 t0 t1 t6 r0 r1 =
 if okCells false t0 3 [(.sl 148 10)] = true then
 cond (decide (t6 < ((((t0.cells.getD 3 .x).toL).length : Nat) : Int)))
 (if okCells false t0 3 [(.sl 148 10)] = true then
 if 0 ≤ t6 ∧ t6 < ((((t0.cells.getD 3 .x).toL).length : Nat) : Int) then
 if okCells false (((t0.cells.getD 3 .x).toL).getD t6.toNat .x) 2 [(.i .i64)] = true then
 cond (decide ((((((t0.cells.getD 3 .x).toL).getD t6.toNat .x).cells.getD 2 .x).toI) = t1))
 (if okCells false t0 3 [(.sl 148 10)] = true then
 if 0 ≤ t6 ∧ t6 < ((((t0.cells.getD 3 .x).toL).length : Nat) : Int) then
 if okCells false (((t0.cells.getD 3 .x).toL).getD t6.toNat .x) 0 [(.i .i64), (.i .i64), (.i .i64), (.i .i64), (.i .i64), .s, .s, (.i .i64), (.i .i64), (.i .i64)] = true then
 if (r1.length + ([(.agg [(.i .i64 (((((t0.cells.getD 3 .x).toL).getD t6.toNat .x).cells.getD 0 .x).toI)), (.i .i64 (((((t0.cells.getD 3 .x).toL).getD t6.toNat .x).cells.getD 1 .x).toI)), (.i .i64 (((((t0.cells.getD 3 .x).toL).getD t6.toNat .x).cells.getD 2 .x).toI)), (.i .i64 (((((t0.cells.getD 3 .x).toL).getD t6.toNat .x).cells.getD 3 .x).toI)), (.i .i64 (((((t0.cells.getD 3 .x).toL).getD t6.toNat .x).cells.getD 4 .x).toI)), (.s (((((t0.cells.getD 3 .x).toL).getD t6.toNat .x).cells.getD 5 .x).toS)), (.s (((((t0.cells.getD 3 .x).toL).getD t6.toNat .x).cells.getD 6 .x).toS)), (.i .i64 (((((t0.cells.getD 3 .x).toL).getD t6.toNat .x).cells.getD 7 .x).toI)), (.i .i64 (((((t0.cells.getD 3 .x).toL).getD t6.toNat .x).cells.getD 8 .x).toI)), (.i .i64 (((((t0.cells.getD 3 .x).toL).getD t6.toNat .x).cells.getD 9 .x).toI))])] : List AV).length) * 96 ≤ room then
 f108o1_j2 t0 t1 t6 r0 (r1 ++ [(.agg [(.i .i64 (((((t0.cells.getD 3 .x).toL).getD t6.toNat .x).cells.getD 0 .x).toI)), (.i .i64 (((((t0.cells.getD 3 .x).toL).getD t6.toNat .x).cells.getD 1 .x).toI)), (.i .i64 (((((t0.cells.getD 3 .x).toL).getD t6.toNat .x).cells.getD 2 .x).toI)), (.i .i64 (((((t0.cells.getD 3 .x).toL).getD t6.toNat .x).cells.getD 3 .x).toI)), (.i .i64 (((((t0.cells.getD 3 .x).toL).getD t6.toNat .x).cells.getD 4 .x).toI)), (.s (((((t0.cells.getD 3 .x).toL).getD t6.toNat .x).cells.getD 5 .x).toS)), (.s (((((t0.cells.getD 3 .x).toL).getD t6.toNat .x).cells.getD 6 .x).toS)), (.i .i64 (((((t0.cells.getD 3 .x).toL).getD t6.toNat .x).cells.getD 7 .x).toI)), (.i .i64 (((((t0.cells.getD 3 .x).toL).getD t6.toNat .x).cells.getD 8 .x).toI)), (.i .i64 (((((t0.cells.getD 3 .x).toL).getD t6.toNat .x).cells.getD 9 .x).toI))])])
 else none
 else none
 else none
 else none)
 (f108o1_j2 t0 t1 t6 r0 r1)
 else none
 else none
 else none)
 (some ((.sl 0 [] none), [(.live true false false 148 r1)]))
 else none := (LpO_eq ..).trans (by kernel_rfl)
theorem f108o1_j2_eq (t0 : AV) (t1 : Int) (t6 : Int) (r0 : List AV) (r1 : List AV) : f108o1_j2 t0 t1 t6 r0 r1 =
 f108o1_l1 t0 t1 (IntKind.i64.wrap (t6 + (1 : Int))) r0 r1 := by kernel_rfl
/-! 39: loop.example/g00905/spec.TablesIn -/
theorem f39o1_eq (x0_0 : Int) (x0_1 : Int) (x0_2 : Int) (x0_3 : List AV) (x1 : Int) : dno E 39 [(.agg [(.i .i64 x0_0), (.i .i64 x0_1), (.i .i64 x0_2), (.imm 10 x0_3)]), (.i .i64 x1)] [] =
 bSh .b (den E 107 [(.ip (.agg [(.i .i64 x0_0), (.i .i64 x0_1), (.i .i64 x0_2), (.imm 10 x0_3)]) 0)] []) fun a1 =>
 cond (!a1.toB)
 (some ((.sl 0 [] none), [(.live true false false 148 [])]))
 (bOwnF (.so 0) [(.row true 148)] 0 (dno E 108 [(.ip (.agg [(.i .i64 x0_0), (.i .i64 x0_1), (.i .i64 x0_2), (.imm 10 x0_3)]) 0), (.i .i64 x1)] []) fun a2 =>
 some ((.sl 0 [] none), [(.live true false false 148 ((a2.2.getD 0 .dead).row))])) := (dno_eq ..).trans (by kernel_rfl)
/-! 70: loop.example/g00905/impl.within -/
theorem f70_eq (x0 : Int) (x1 : Int) (x2 : Int) : den E 70 [(.i .i64 x0), (.i .i64 x1), (.i .i64 x2)] [] =
 cond ((decide (x1 ≤ x0)) == true)
 (some (.b (decide (x0 ≤ x2))))
 (some (.b false)) := (den_eq ..).trans (by kernel_rfl)
/-! 210: loop.example/g00905/impl.ValidTable -/
theorem f210_eq (x0_0 : Int) (x0_1 : Int) (x0_2 : Int) (x0_3 : Int) (x0_4 : Int) (x0_5 : ByteArray) (x0_6 : ByteArray) (x0_7 : Int) (x0_8 : Int) (x0_9 : Int) : den E 210 [(.agg [(.i .i64 x0_0), (.i .i64 x0_1), (.i .i64 x0_2), (.i .i64 x0_3), (.i .i64 x0_4), (.s x0_5), (.s x0_6), (.i .i64 x0_7), (.i .i64 x0_8), (.i .i64 x0_9)])] [] =
 bSh .b (den E 70 [(.i .i64 x0_0), (.i .i64 (1 : Int)), (.i .i64 (1000000 : Int))] []) fun a1 =>
 cond (a1.toB == true)
 (bSh .b (den E 70 [(.i .i64 x0_1), (.i .i64 (0 : Int)), (.i .i64 (2 : Int))] []) fun a2 =>
 cond (a2.toB == true)
 (bSh .b (den E 70 [(.i .i64 x0_2), (.i .i64 (0 : Int)), (.i .i64 (11 : Int))] []) fun a3 =>
 cond (a3.toB == true)
 (bSh .b (den E 70 [(.i .i64 x0_3), (.i .i64 (0 : Int)), (.i .i64 (1000 : Int))] []) fun a4 =>
 cond (a4.toB == true)
 (bSh .b (den E 70 [(.i .i64 x0_4), (.i .i64 (1 : Int)), (.i .i64 (100 : Int))] []) fun a5 =>
 cond (a5.toB == true)
 (cond ((decide (((x0_5.size : Nat) : Int) ≤ (9 : Int))) == true)
 (cond ((decide (((x0_6.size : Nat) : Int) ≤ (9 : Int))) == true)
 (cond ((lessS x0_5 x0_6) == true)
 (cond ((decide ((0 : Int) < x0_7)) == true)
 (cond ((decide (x0_7 ≤ x0_8)) == true)
 (cond ((decide (x0_8 ≤ (1000000 : Int))) == true)
 (bSh .b (den E 70 [(.i .i64 x0_9), (.i .i64 (1 : Int)), (.i .i64 (60 : Int))] []) fun a6 =>
 some (.b a6.toB))
 (some (.b false)))
 (some (.b false)))
 (some (.b false)))
 (some (.b false)))
 (some (.b false)))
 (some (.b false)))
 (some (.b false)))
 (some (.b false)))
 (some (.b false)))
 (some (.b false)))
 (some (.b false)) := (den_eq ..).trans (by kernel_rfl)
/-! 212: (loop.example/g00905/impl.Version).tablesOk$1 -/
theorem f212q1_eq (x0_0 : Int) (x0_1 : Int) (x0_2 : Int) (x0_3 : Int) (x0_4 : Int) (x0_5 : ByteArray) (x0_6 : ByteArray) (x0_7 : Int) (x0_8 : Int) (x0_9 : Int) (x1 : AV) : den E 212 [(.agg [(.i .i64 x0_0), (.i .i64 x0_1), (.i .i64 x0_2), (.i .i64 x0_3), (.i .i64 x0_4), (.s x0_5), (.s x0_6), (.i .i64 x0_7), (.i .i64 x0_8), (.i .i64 x0_9)]), (.ip x1 0)] [] =
 if okCells false x1 0 [(.i .i64)] = true then
 some (.b (decide (x0_0 = ((x1.cells.getD 0 .x).toI))))
 else none := (den_eq ..).trans (by kernel_rfl)
/-! 214: slices.IndexFunc[[]loop.example/g00905/impl.TableRef,loop.example/g00905/impl.TableRef] -/
noncomputable def f214q1_l1 (t0 : List AV) (t1_0 : AV) (t7 : Int) (t8 : Int) : Option AV := Lp E fi214 [true, false, true, false] (mkT 19 [(0, (.imm 10 t0)), (1, (.fn 212 [(.ip t1_0 0)])), (7, (.i .i64 t7)), (8, (.i .i64 t8))]) []
theorem f214q1_eq (x0 : List AV) (x1_0 : AV) : den E 214 [(.imm 10 x0), (.fn 212 [(.ip x1_0 0)])] [] =
 f214q1_l1 x0 x1_0 ((x0.length : Nat) : Int) (0 : Int) := (den_eq ..).trans (by kernel_rfl)
theorem f214q1_l1_eq (t0 : List AV) (t1_0 : AV) (t7 : Int) (t8 : Int) : f214q1_l1 t0 t1_0 t7 t8 =
 cond (decide (t8 < t7))
 (if 0 ≤ t8 ∧ t8 < ((t0.length : Nat) : Int) then
 if okCells false (t0.getD t8.toNat .x) 0 [(.i .i64), (.i .i64), (.i .i64), (.i .i64), (.i .i64), .s, .s, (.i .i64), (.i .i64), (.i .i64)] = true then
 bSh .b (den E 212 [(.agg [(.i .i64 (((t0.getD t8.toNat .x).cells.getD 0 .x).toI)), (.i .i64 (((t0.getD t8.toNat .x).cells.getD 1 .x).toI)), (.i .i64 (((t0.getD t8.toNat .x).cells.getD 2 .x).toI)), (.i .i64 (((t0.getD t8.toNat .x).cells.getD 3 .x).toI)), (.i .i64 (((t0.getD t8.toNat .x).cells.getD 4 .x).toI)), (.s (((t0.getD t8.toNat .x).cells.getD 5 .x).toS)), (.s (((t0.getD t8.toNat .x).cells.getD 6 .x).toS)), (.i .i64 (((t0.getD t8.toNat .x).cells.getD 7 .x).toI)), (.i .i64 (((t0.getD t8.toNat .x).cells.getD 8 .x).toI)), (.i .i64 (((t0.getD t8.toNat .x).cells.getD 9 .x).toI))]), (.ip t1_0 0)] []) fun a1 =>
 cond a1.toB
 (some (.i .i64 t8))
 (f214q1_l1 t0 t1_0 t7 (IntKind.i64.wrap (t8 + (1 : Int))))
 else none
 else none)
 (some (.i .i64 (-1 : Int))) := (Lp_eq ..).trans (by kernel_rfl)
/-! 211: slices.ContainsFunc[[]loop.example/g00905/impl.TableRef,loop.example/g00905/impl.TableRef] -/
theorem f211q1_eq (x0 : List AV) (x1_0 : AV) : den E 211 [(.imm 10 x0), (.fn 212 [(.ip x1_0 0)])] [] =
 bSh (.i .i64) (den E 214 [(.imm 10 x0), (.fn 212 [(.ip x1_0 0)])] []) fun a1 =>
 some (.b (decide ((0 : Int) ≤ a1.toI))) := (den_eq ..).trans (by kernel_rfl)
/-! 230: cmp.isNaN[int64] -/
theorem f230_eq (x0 : Int) : den E 230 [(.i .i64 x0)] [] =
 some (.b (!decide (x0 = x0))) := (den_eq ..).trans (by kernel_rfl)
/-! 227: cmp.Compare[int64] -/
theorem f227_eq (x0 : Int) (x1 : Int) : den E 227 [(.i .i64 x0), (.i .i64 x1)] [] =
 bSh .b (den E 230 [(.i .i64 x0)] []) fun a1 =>
 bSh .b (den E 230 [(.i .i64 x1)] []) fun a2 =>
 cond a1.toB
 (cond a2.toB
 (some (.i .i64 (0 : Int)))
 (some (.i .i64 (-1 : Int))))
 (cond a2.toB
 (some (.i .i64 (1 : Int)))
 (cond (decide (x0 < x1))
 (some (.i .i64 (-1 : Int)))
 (cond (decide (x1 < x0))
 (some (.i .i64 (1 : Int)))
 (some (.i .i64 (0 : Int)))))) := (den_eq ..).trans (by kernel_rfl)
/-! 232: internal/bytealg.CompareString -/
theorem f232_eq (x0 x1 : ByteArray) : den E 232 [(.s x0), (.s x1)] [] = some (.i .i64 (cmpB x0 x1)) := (den_eq ..).trans (by kernel_rfl)
/-! 229: strings.Compare -/
theorem f229_eq (x0 : ByteArray) (x1 : ByteArray) : den E 229 [(.s x0), (.s x1)] [] =
 bSh (.i .i64) (den E 232 [(.s x0), (.s x1)] []) fun a1 =>
 some (.i .i64 a1.toI) := (den_eq ..).trans (by kernel_rfl)
/-! 228: cmp.Or[int] -/
noncomputable def f228_l1 (t3 : Int) (t6 : List AV) (t7 : Int) (t8 : Int) : Option AV := Lp E fi228 [true, true, false, true, false] (mkT 18 [(3, (.i .i64 t3)), (6, (.imm 1 t6)), (7, (.i .i64 t7)), (8, (.i .i64 t8))]) []
theorem f228_eq (x0 : List AV) : den E 228 [(.imm 1 x0)] [] =
 f228_l1 (0 : Int) x0 ((x0.length : Nat) : Int) (0 : Int) := (den_eq ..).trans (by kernel_rfl)
theorem f228_l1_eq (t3 : Int) (t6 : List AV) (t7 : Int) (t8 : Int) : f228_l1 t3 t6 t7 t8 =
 cond (decide (t8 < t7))
 (if 0 ≤ t8 ∧ t8 < ((t6.length : Nat) : Int) then
 if okCells false (t6.getD t8.toNat .x) 0 [(.i .i64)] = true then
 cond (!decide ((((t6.getD t8.toNat .x).cells.getD 0 .x).toI) = t3))
 (some (.i .i64 (((t6.getD t8.toNat .x).cells.getD 0 .x).toI)))
 (f228_l1 t3 t6 t7 (IntKind.i64.wrap (t8 + (1 : Int))))
 else none
 else none)
 (some (.i .i64 t3)) := (Lp_eq ..).trans (by kernel_rfl)
/-! 213: loop.example/g00905/impl.compareRefs -/
noncomputable def f213_j1 (r0_0 : Int) (r0_1 : Int) (r0_2 : Int) (r0_3 : Int) (r0_4 : Int) (r0_5 : ByteArray) (r0_6 : ByteArray) (r0_7 : Int) (r0_8 : Int) (r0_9 : Int) (r1_0 : Int) (r1_1 : Int) (r1_2 : Int) (r1_3 : Int) (r1_4 : Int) (r1_5 : ByteArray) (r1_6 : ByteArray) (r1_7 : Int) (r1_8 : Int) (r1_9 : Int) : Option AV := Jn E fi213 [true, true] (mkT 32 [(2, (.pt 0 [] 0 0)), (3, (.pt 1 [] 0 0))]) [(.live false true false 148 [(.agg [(.i .i64 r0_0), (.i .i64 r0_1), (.i .i64 r0_2), (.i .i64 r0_3), (.i .i64 r0_4), (.s r0_5), (.s r0_6), (.i .i64 r0_7), (.i .i64 r0_8), (.i .i64 r0_9)])]), (.live false true false 148 [(.agg [(.i .i64 r1_0), (.i .i64 r1_1), (.i .i64 r1_2), (.i .i64 r1_3), (.i .i64 r1_4), (.s r1_5), (.s r1_6), (.i .i64 r1_7), (.i .i64 r1_8), (.i .i64 r1_9)])])]
theorem f213_eq (x0_0 : Int) (x0_1 : Int) (x0_2 : Int) (x0_3 : Int) (x0_4 : Int) (x0_5 : ByteArray) (x0_6 : ByteArray) (x0_7 : Int) (x0_8 : Int) (x0_9 : Int) (x1_0 : Int) (x1_1 : Int) (x1_2 : Int) (x1_3 : Int) (x1_4 : Int) (x1_5 : ByteArray) (x1_6 : ByteArray) (x1_7 : Int) (x1_8 : Int) (x1_9 : Int) : den E 213 [(.agg [(.i .i64 x0_0), (.i .i64 x0_1), (.i .i64 x0_2), (.i .i64 x0_3), (.i .i64 x0_4), (.s x0_5), (.s x0_6), (.i .i64 x0_7), (.i .i64 x0_8), (.i .i64 x0_9)]), (.agg [(.i .i64 x1_0), (.i .i64 x1_1), (.i .i64 x1_2), (.i .i64 x1_3), (.i .i64 x1_4), (.s x1_5), (.s x1_6), (.i .i64 x1_7), (.i .i64 x1_8), (.i .i64 x1_9)])] [] =
 cond ((decide (x0_1 = x1_1)) == true)
 (cond (decide (x0_1 = (0 : Int)))
 (bSh (.i .i64) (den E 227 [(.i .i64 x1_0), (.i .i64 x0_0)] []) fun a1 =>
 some (.i .i64 a1.toI))
 (f213_j1 x0_0 x0_1 x0_2 x0_3 x0_4 x0_5 x0_6 x0_7 x0_8 x0_9 x1_0 x1_1 x1_2 x1_3 x1_4 x1_5 x1_6 x1_7 x1_8 x1_9))
 (f213_j1 x0_0 x0_1 x0_2 x0_3 x0_4 x0_5 x0_6 x0_7 x0_8 x0_9 x1_0 x1_1 x1_2 x1_3 x1_4 x1_5 x1_6 x1_7 x1_8 x1_9) := (den_eq ..).trans (by kernel_rfl)
theorem f213_j1_eq (r0_0 : Int) (r0_1 : Int) (r0_2 : Int) (r0_3 : Int) (r0_4 : Int) (r0_5 : ByteArray) (r0_6 : ByteArray) (r0_7 : Int) (r0_8 : Int) (r0_9 : Int) (r1_0 : Int) (r1_1 : Int) (r1_2 : Int) (r1_3 : Int) (r1_4 : Int) (r1_5 : ByteArray) (r1_6 : ByteArray) (r1_7 : Int) (r1_8 : Int) (r1_9 : Int) : f213_j1 r0_0 r0_1 r0_2 r0_3 r0_4 r0_5 r0_6 r0_7 r0_8 r0_9 r1_0 r1_1 r1_2 r1_3 r1_4 r1_5 r1_6 r1_7 r1_8 r1_9 =
 bSh (.i .i64) (den E 227 [(.i .i64 r0_1), (.i .i64 r1_1)] []) fun a1 =>
 bSh (.i .i64) (den E 229 [(.s r0_5), (.s r1_5)] []) fun a2 =>
 bSh (.i .i64) (den E 228 [(.imm 1 [(.i .i64 a1.toI), (.i .i64 a2.toI)])] []) fun a3 =>
 some (.i .i64 a3.toI) := by kernel_rfl
/-! 172: (loop.example/g00905/impl.Version).tablesOk -/
noncomputable def f172_l1 (t7 : List AV) (t8 : Int) (t9 : Int) (r0_0 : Int) (r0_1 : Int) (r0_2 : Int) (r0_3 : List AV) : Option AV := Lp E fi172 [true, false, true, false] (mkT 75 [(1, (.pt 0 [] 0 0)), (7, (.imm 10 t7)), (8, (.i .i64 t8)), (9, (.i .i64 t9))]) [(.live false true false 65 [(.agg [(.i .i64 r0_0), (.i .i64 r0_1), (.i .i64 r0_2), (.imm 10 r0_3)])])]
noncomputable def f172_j2 (t7 : List AV) (t8 : Int) (t9 : Int) (r0_0 : Int) (r0_1 : Int) (r0_2 : Int) (r0_3 : List AV) : Option AV := Jn E fi172 [true, false, true, false, false, true, true, true] (mkT 75 [(1, (.pt 0 [] 0 0)), (7, (.imm 10 t7)), (8, (.i .i64 t8)), (9, (.i .i64 t9))]) [(.live false true false 65 [(.agg [(.i .i64 r0_0), (.i .i64 r0_1), (.i .i64 r0_2), (.imm 10 r0_3)])])]
theorem f172_eq (x0_0 : Int) (x0_1 : Int) (x0_2 : Int) (x0_3 : List AV) : den E 172 [(.agg [(.i .i64 x0_0), (.i .i64 x0_1), (.i .i64 x0_2), (.imm 10 x0_3)])] [] =
 f172_l1 x0_3 ((x0_3.length : Nat) : Int) (0 : Int) x0_0 x0_1 x0_2 x0_3 := (den_eq ..).trans (by kernel_rfl)
theorem f172_l1_eq (t7 : List AV) (t8 : Int) (t9 : Int) (r0_0 : Int) (r0_1 : Int) (r0_2 : Int) (r0_3 : List AV) : f172_l1 t7 t8 t9 r0_0 r0_1 r0_2 r0_3 =
 cond (decide (t9 < t8))
 (if 0 ≤ t9 ∧ t9 < ((t7.length : Nat) : Int) then
 if okCells false (t7.getD t9.toNat .x) 0 [(.i .i64), (.i .i64), (.i .i64), (.i .i64), (.i .i64), .s, .s, (.i .i64), (.i .i64), (.i .i64)] = true then
 bSh .b (den E 210 [(.agg [(.i .i64 (((t7.getD t9.toNat .x).cells.getD 0 .x).toI)), (.i .i64 (((t7.getD t9.toNat .x).cells.getD 1 .x).toI)), (.i .i64 (((t7.getD t9.toNat .x).cells.getD 2 .x).toI)), (.i .i64 (((t7.getD t9.toNat .x).cells.getD 3 .x).toI)), (.i .i64 (((t7.getD t9.toNat .x).cells.getD 4 .x).toI)), (.s (((t7.getD t9.toNat .x).cells.getD 5 .x).toS)), (.s (((t7.getD t9.toNat .x).cells.getD 6 .x).toS)), (.i .i64 (((t7.getD t9.toNat .x).cells.getD 7 .x).toI)), (.i .i64 (((t7.getD t9.toNat .x).cells.getD 8 .x).toI)), (.i .i64 (((t7.getD t9.toNat .x).cells.getD 9 .x).toI))])] []) fun a1 =>
 cond ((!a1.toB) == false)
 (cond ((decide (r0_0 ≤ (((t7.getD t9.toNat .x).cells.getD 0 .x).toI))) == false)
 (cond ((decide (r0_2 < (((t7.getD t9.toNat .x).cells.getD 8 .x).toI))) == false)
 (if 0 ≤ (0 : Int) ∧ (0 : Int) ≤ t9 ∧ t9 ≤ ((r0_3.length : Nat) : Int) then
 bSh .b (den E 211 [(.imm 10 (r0_3.take t9.toNat)), (.fn 212 [(.ip (.agg [(.i .i64 (((t7.getD t9.toNat .x).cells.getD 0 .x).toI)), (.i .i64 (((t7.getD t9.toNat .x).cells.getD 1 .x).toI)), (.i .i64 (((t7.getD t9.toNat .x).cells.getD 2 .x).toI)), (.i .i64 (((t7.getD t9.toNat .x).cells.getD 3 .x).toI)), (.i .i64 (((t7.getD t9.toNat .x).cells.getD 4 .x).toI)), (.s (((t7.getD t9.toNat .x).cells.getD 5 .x).toS)), (.s (((t7.getD t9.toNat .x).cells.getD 6 .x).toS)), (.i .i64 (((t7.getD t9.toNat .x).cells.getD 7 .x).toI)), (.i .i64 (((t7.getD t9.toNat .x).cells.getD 8 .x).toI)), (.i .i64 (((t7.getD t9.toNat .x).cells.getD 9 .x).toI))]) 0)])] []) fun a2 =>
 cond a2.toB
 (some (.b false))
 (cond (decide (t9 = (0 : Int)))
 (f172_j2 t7 t8 t9 r0_0 r0_1 r0_2 r0_3)
 (if 0 ≤ (IntKind.i64.wrap (t9 - (1 : Int))) ∧ (IntKind.i64.wrap (t9 - (1 : Int))) < ((r0_3.length : Nat) : Int) then
 if okCells false (r0_3.getD (IntKind.i64.wrap (t9 - (1 : Int))).toNat .x) 0 [(.i .i64), (.i .i64), (.i .i64), (.i .i64), (.i .i64), .s, .s, (.i .i64), (.i .i64), (.i .i64)] = true then
 bSh (.i .i64) (den E 213 [(.agg [(.i .i64 (((r0_3.getD (IntKind.i64.wrap (t9 - (1 : Int))).toNat .x).cells.getD 0 .x).toI)), (.i .i64 (((r0_3.getD (IntKind.i64.wrap (t9 - (1 : Int))).toNat .x).cells.getD 1 .x).toI)), (.i .i64 (((r0_3.getD (IntKind.i64.wrap (t9 - (1 : Int))).toNat .x).cells.getD 2 .x).toI)), (.i .i64 (((r0_3.getD (IntKind.i64.wrap (t9 - (1 : Int))).toNat .x).cells.getD 3 .x).toI)), (.i .i64 (((r0_3.getD (IntKind.i64.wrap (t9 - (1 : Int))).toNat .x).cells.getD 4 .x).toI)), (.s (((r0_3.getD (IntKind.i64.wrap (t9 - (1 : Int))).toNat .x).cells.getD 5 .x).toS)), (.s (((r0_3.getD (IntKind.i64.wrap (t9 - (1 : Int))).toNat .x).cells.getD 6 .x).toS)), (.i .i64 (((r0_3.getD (IntKind.i64.wrap (t9 - (1 : Int))).toNat .x).cells.getD 7 .x).toI)), (.i .i64 (((r0_3.getD (IntKind.i64.wrap (t9 - (1 : Int))).toNat .x).cells.getD 8 .x).toI)), (.i .i64 (((r0_3.getD (IntKind.i64.wrap (t9 - (1 : Int))).toNat .x).cells.getD 9 .x).toI))]), (.agg [(.i .i64 (((t7.getD t9.toNat .x).cells.getD 0 .x).toI)), (.i .i64 (((t7.getD t9.toNat .x).cells.getD 1 .x).toI)), (.i .i64 (((t7.getD t9.toNat .x).cells.getD 2 .x).toI)), (.i .i64 (((t7.getD t9.toNat .x).cells.getD 3 .x).toI)), (.i .i64 (((t7.getD t9.toNat .x).cells.getD 4 .x).toI)), (.s (((t7.getD t9.toNat .x).cells.getD 5 .x).toS)), (.s (((t7.getD t9.toNat .x).cells.getD 6 .x).toS)), (.i .i64 (((t7.getD t9.toNat .x).cells.getD 7 .x).toI)), (.i .i64 (((t7.getD t9.toNat .x).cells.getD 8 .x).toI)), (.i .i64 (((t7.getD t9.toNat .x).cells.getD 9 .x).toI))])] []) fun a3 =>
 cond ((decide ((0 : Int) ≤ a3.toI)) == false)
 (cond ((decide ((0 : Int) < (((t7.getD t9.toNat .x).cells.getD 1 .x).toI))) == true)
 (cond ((decide ((((r0_3.getD (IntKind.i64.wrap (t9 - (1 : Int))).toNat .x).cells.getD 1 .x).toI) = (((t7.getD t9.toNat .x).cells.getD 1 .x).toI))) == true)
 (cond (!(lessS (((r0_3.getD (IntKind.i64.wrap (t9 - (1 : Int))).toNat .x).cells.getD 6 .x).toS) (((t7.getD t9.toNat .x).cells.getD 5 .x).toS) || decide ((((r0_3.getD (IntKind.i64.wrap (t9 - (1 : Int))).toNat .x).cells.getD 6 .x).toS) = (((t7.getD t9.toNat .x).cells.getD 5 .x).toS))))
 (some (.b false))
 (f172_j2 t7 t8 t9 r0_0 r0_1 r0_2 r0_3))
 (f172_j2 t7 t8 t9 r0_0 r0_1 r0_2 r0_3))
 (f172_j2 t7 t8 t9 r0_0 r0_1 r0_2 r0_3))
 (some (.b false))
 else none
 else none))
 else none)
 (some (.b false)))
 (some (.b false)))
 (some (.b false))
 else none
 else none)
 (some (.b (decide (((r0_3.length : Nat) : Int) ≤ (16 : Int))))) := (Lp_eq ..).trans (by kernel_rfl)
theorem f172_j2_eq (t7 : List AV) (t8 : Int) (t9 : Int) (r0_0 : Int) (r0_1 : Int) (r0_2 : Int) (r0_3 : List AV) : f172_j2 t7 t8 t9 r0_0 r0_1 r0_2 r0_3 =
 f172_l1 t7 t8 (IntKind.i64.wrap (t9 + (1 : Int))) r0_0 r0_1 r0_2 r0_3 := by kernel_rfl
/-! 110: loop.example/g00905/impl.ValidVersion -/
theorem f110_eq (x0_0 : Int) (x0_1 : Int) (x0_2 : Int) (x0_3 : List AV) : den E 110 [(.agg [(.i .i64 x0_0), (.i .i64 x0_1), (.i .i64 x0_2), (.imm 10 x0_3)])] [] =
 bSh .b (den E 70 [(.i .i64 x0_0), (.i .i64 (1 : Int)), (.i .i64 (1000000 : Int))] []) fun a1 =>
 cond (a1.toB == true)
 (bSh .b (den E 70 [(.i .i64 x0_1), (.i .i64 (0 : Int)), (.i .i64 (11 : Int))] []) fun a2 =>
 cond (a2.toB == true)
 (bSh .b (den E 70 [(.i .i64 x0_2), (.i .i64 (0 : Int)), (.i .i64 (1000000 : Int))] []) fun a3 =>
 cond (a3.toB == true)
 (bSh .b (den E 172 [(.agg [(.i .i64 x0_0), (.i .i64 x0_1), (.i .i64 x0_2), (.imm 10 x0_3)])] []) fun a4 =>
 some (.b a4.toB))
 (some (.b false)))
 (some (.b false)))
 (some (.b false)) := (den_eq ..).trans (by kernel_rfl)
/-! 174: slices.Clone[[]loop.example/g00905/impl.TableRef,loop.example/g00905/impl.TableRef] -/
theorem f174_eq (x0 : List AV) : dno E 174 [(.imm 10 x0)] [] = if 10 = 10 ∧ x0.length * 96 ≤ room then some (.sl 0 [] none, [.live true false false 148 x0]) else none := (dno_eq ..).trans (by kernel_rfl)
/-! 175: (loop.example/g00905/impl.Version).in$1 -/
theorem f175q1_eq (x0_0 : Int) (x0_1 : Int) (x0_2 : Int) (x0_3 : Int) (x0_4 : Int) (x0_5 : ByteArray) (x0_6 : ByteArray) (x0_7 : Int) (x0_8 : Int) (x0_9 : Int) (x1 : AV) : den E 175 [(.agg [(.i .i64 x0_0), (.i .i64 x0_1), (.i .i64 x0_2), (.i .i64 x0_3), (.i .i64 x0_4), (.s x0_5), (.s x0_6), (.i .i64 x0_7), (.i .i64 x0_8), (.i .i64 x0_9)]), (.ip x1 0)] [] =
 if okCells false x1 0 [(.i .i64)] = true then
 some (.b (!decide (x0_2 = ((x1.cells.getD 0 .x).toI))))
 else none := (den_eq ..).trans (by kernel_rfl)
/-! 214: slices.IndexFunc[[]loop.example/g00905/impl.TableRef,loop.example/g00905/impl.TableRef] -/
noncomputable def f214q2_l1 (t0 : List AV) (t1_0 : AV) (t7 : Int) (t8 : Int) : Option AV := Lp E fi214 [true, false, true, false] (mkT 19 [(0, (.imm 10 t0)), (1, (.fn 175 [(.ip t1_0 0)])), (7, (.i .i64 t7)), (8, (.i .i64 t8))]) []
theorem f214q2_eq (x0 : List AV) (x1_0 : AV) : den E 214 [(.imm 10 x0), (.fn 175 [(.ip x1_0 0)])] [] =
 f214q2_l1 x0 x1_0 ((x0.length : Nat) : Int) (0 : Int) := (den_eq ..).trans (by kernel_rfl)
theorem f214q2_l1_eq (t0 : List AV) (t1_0 : AV) (t7 : Int) (t8 : Int) : f214q2_l1 t0 t1_0 t7 t8 =
 cond (decide (t8 < t7))
 (if 0 ≤ t8 ∧ t8 < ((t0.length : Nat) : Int) then
 if okCells false (t0.getD t8.toNat .x) 0 [(.i .i64), (.i .i64), (.i .i64), (.i .i64), (.i .i64), .s, .s, (.i .i64), (.i .i64), (.i .i64)] = true then
 bSh .b (den E 175 [(.agg [(.i .i64 (((t0.getD t8.toNat .x).cells.getD 0 .x).toI)), (.i .i64 (((t0.getD t8.toNat .x).cells.getD 1 .x).toI)), (.i .i64 (((t0.getD t8.toNat .x).cells.getD 2 .x).toI)), (.i .i64 (((t0.getD t8.toNat .x).cells.getD 3 .x).toI)), (.i .i64 (((t0.getD t8.toNat .x).cells.getD 4 .x).toI)), (.s (((t0.getD t8.toNat .x).cells.getD 5 .x).toS)), (.s (((t0.getD t8.toNat .x).cells.getD 6 .x).toS)), (.i .i64 (((t0.getD t8.toNat .x).cells.getD 7 .x).toI)), (.i .i64 (((t0.getD t8.toNat .x).cells.getD 8 .x).toI)), (.i .i64 (((t0.getD t8.toNat .x).cells.getD 9 .x).toI))]), (.ip t1_0 0)] []) fun a1 =>
 cond a1.toB
 (some (.i .i64 t8))
 (f214q2_l1 t0 t1_0 t7 (IntKind.i64.wrap (t8 + (1 : Int))))
 else none
 else none)
 (some (.i .i64 (-1 : Int))) := (Lp_eq ..).trans (by kernel_rfl)
/-! 173: slices.DeleteFunc[[]loop.example/g00905/impl.TableRef,loop.example/g00905/impl.TableRef] -/
noncomputable def f173o1_l1 (t1_0 : AV) (t5 : Int) (t6 : Int) (r0 : List AV) : Option (AV × List Root) := LpO E fi173 [(5, [0, 1, 5, 6], 1), (6, [0, 1, 5, 6], 1)] 1 (.pr 0) [true, true, true, false, true, false] (mkT 42 [(0, (.sl 0 [] none)), (1, (.fn 175 [(.ip t1_0 0)])), (5, (.i .i64 t5)), (6, (.i .i64 t6))]) [(.live true false false 148 r0)]
noncomputable def f173o1_j2 (t1_0 : AV) (t5 : Int) (t6 : Int) (r0 : List AV) : Option (AV × List Root) := JnO E fi173 [(5, [0, 1, 5, 6], 1), (6, [0, 1, 5, 6], 1)] 1 (.pr 0) [true, true, true, false, true, false, false, true, true] (mkT 42 [(0, (.sl 0 [] none)), (1, (.fn 175 [(.ip t1_0 0)])), (5, (.i .i64 t5)), (6, (.i .i64 t6))]) [(.live true false false 148 r0)]
theorem f173o1_eq (x1_0 : AV) (s0 : List AV) : dno E 173 [(.sl 0 [] none), (.fn 175 [(.ip x1_0 0)])] [(.live true false false 148 s0)] =
 bSh (.i .i64) (den E 214 [(.imm 10 s0), (.fn 175 [(.ip x1_0 0)])] []) fun a1 =>
 cond (decide (a1.toI = (-1 : Int)))
 (some ((.sl 0 [] (some (0, s0.length))), [(.live true false false 148 s0)]))
 (f173o1_l1 x1_0 a1.toI (IntKind.i64.wrap (a1.toI + (1 : Int))) s0) := (dno_eq ..).trans (by kernel_rfl)
theorem f173o1_l1_eq (t1_0 : AV) (t5 : Int) (t6 : Int) (r0 : List AV) : f173o1_l1 t1_0 t5 t6 r0 =
 cond (decide (t6 < ((r0.length : Nat) : Int)))
 (if 0 ≤ t6 ∧ t6 < ((r0.length : Nat) : Int) then
 if okCells false (r0.getD (0 + t6.toNat) .x) 0 [(.i .i64), (.i .i64), (.i .i64), (.i .i64), (.i .i64), .s, .s, (.i .i64), (.i .i64), (.i .i64)] = true then
 bSh .b (den E 175 [(.agg [(.i .i64 (((r0.getD (0 + t6.toNat) .x).cells.getD 0 .x).toI)), (.i .i64 (((r0.getD (0 + t6.toNat) .x).cells.getD 1 .x).toI)), (.i .i64 (((r0.getD (0 + t6.toNat) .x).cells.getD 2 .x).toI)), (.i .i64 (((r0.getD (0 + t6.toNat) .x).cells.getD 3 .x).toI)), (.i .i64 (((r0.getD (0 + t6.toNat) .x).cells.getD 4 .x).toI)), (.s (((r0.getD (0 + t6.toNat) .x).cells.getD 5 .x).toS)), (.s (((r0.getD (0 + t6.toNat) .x).cells.getD 6 .x).toS)), (.i .i64 (((r0.getD (0 + t6.toNat) .x).cells.getD 7 .x).toI)), (.i .i64 (((r0.getD (0 + t6.toNat) .x).cells.getD 8 .x).toI)), (.i .i64 (((r0.getD (0 + t6.toNat) .x).cells.getD 9 .x).toI))]), (.ip t1_0 0)] []) fun a1 =>
 cond (!a1.toB)
 (if 0 ≤ t5 ∧ t5 < ((r0.length : Nat) : Int) then
 f173o1_j2 t1_0 (IntKind.i64.wrap (t5 + (1 : Int))) t6 (r0.set (0 + t5.toNat) ((r0.getD (0 + t5.toNat) .x).putCells 0 [(.i .i64 (((r0.getD (0 + t6.toNat) .x).cells.getD 0 .x).toI)), (.i .i64 (((r0.getD (0 + t6.toNat) .x).cells.getD 1 .x).toI)), (.i .i64 (((r0.getD (0 + t6.toNat) .x).cells.getD 2 .x).toI)), (.i .i64 (((r0.getD (0 + t6.toNat) .x).cells.getD 3 .x).toI)), (.i .i64 (((r0.getD (0 + t6.toNat) .x).cells.getD 4 .x).toI)), (.s (((r0.getD (0 + t6.toNat) .x).cells.getD 5 .x).toS)), (.s (((r0.getD (0 + t6.toNat) .x).cells.getD 6 .x).toS)), (.i .i64 (((r0.getD (0 + t6.toNat) .x).cells.getD 7 .x).toI)), (.i .i64 (((r0.getD (0 + t6.toNat) .x).cells.getD 8 .x).toI)), (.i .i64 (((r0.getD (0 + t6.toNat) .x).cells.getD 9 .x).toI))]))
 else none)
 (f173o1_j2 t1_0 t5 t6 r0)
 else none
 else none)
 (if 0 ≤ t5 ∧ t5 ≤ ((r0.length : Nat) : Int) ∧ ((r0.length : Nat) : Int) ≤ ((r0.length : Nat) : Int) then
 if 0 ≤ (0 : Int) ∧ (0 : Int) ≤ t5 ∧ t5 ≤ (((r0.take t5.toNat ++ List.replicate (((r0.length : Nat) : Int).toNat - t5.toNat) ((.agg [(.i .i64 (0 : Int)), (.i .i64 (0 : Int)), (.i .i64 (0 : Int)), (.i .i64 (0 : Int)), (.i .i64 (0 : Int)), (.s .empty), (.s .empty), (.i .i64 (0 : Int)), (.i .i64 (0 : Int)), (.i .i64 (0 : Int))]) : AV) ++ r0.drop (t5.toNat + (((r0.length : Nat) : Int).toNat - t5.toNat))).length : Nat) : Int) then
 some ((.sl 0 [] (some ((0 : Int).toNat, (t5.toNat - (0 : Int).toNat)))), [(.live true false false 148 (r0.take t5.toNat ++ List.replicate (((r0.length : Nat) : Int).toNat - t5.toNat) ((.agg [(.i .i64 (0 : Int)), (.i .i64 (0 : Int)), (.i .i64 (0 : Int)), (.i .i64 (0 : Int)), (.i .i64 (0 : Int)), (.s .empty), (.s .empty), (.i .i64 (0 : Int)), (.i .i64 (0 : Int)), (.i .i64 (0 : Int))]) : AV) ++ r0.drop (t5.toNat + (((r0.length : Nat) : Int).toNat - t5.toNat))))])
 else none
 else none) := (LpO_eq ..).trans (by kernel_rfl)
theorem f173o1_j2_eq (t1_0 : AV) (t5 : Int) (t6 : Int) (r0 : List AV) : f173o1_j2 t1_0 t5 t6 r0 =
 f173o1_l1 t1_0 t5 (IntKind.i64.wrap (t6 + (1 : Int))) r0 := by kernel_rfl
/-! 111: (loop.example/g00905/impl.Version).in -/
theorem f111o1_eq (x0_0 : Int) (x0_1 : Int) (x0_2 : Int) (x0_3 : List AV) (x1 : Int) : dno E 111 [(.agg [(.i .i64 x0_0), (.i .i64 x0_1), (.i .i64 x0_2), (.imm 10 x0_3)]), (.i .i64 x1)] [] =
 bOwn (.so 0) [(.row true 148)] 0 (dno E 174 [(.imm 10 x0_3)] []) fun a1 =>
 bOwnFS (.pr 0) [(.same 148)] 1 [(.live true false false 148 ((a1.2.getD 0 .dead).row))] (dno E 173 [(.sl 0 [] none), (.fn 175 [(.ip (.i .i64 x1) 0)])] [(.live true false false 148 ((a1.2.getD 0 .dead).row))]) fun a2 =>
 some ((.sl 0 [] (some (a2.1.off, a2.1.cnt))), [(.live true false false 148 ((a2.2.getD 0 .dead).row))]) := (dno_eq ..).trans (by kernel_rfl)
/-! 41: loop.example/g00905/impl.TablesIn -/
theorem f41o1_eq (x0_0 : Int) (x0_1 : Int) (x0_2 : Int) (x0_3 : List AV) (x1 : Int) : dno E 41 [(.agg [(.i .i64 x0_0), (.i .i64 x0_1), (.i .i64 x0_2), (.imm 10 x0_3)]), (.i .i64 x1)] [] =
 bSh .b (den E 110 [(.agg [(.i .i64 x0_0), (.i .i64 x0_1), (.i .i64 x0_2), (.imm 10 x0_3)])] []) fun a1 =>
 cond (!a1.toB)
 (some ((.sl 0 [] (some (0, ([] : List AV).length))), [(.live true false false 148 [])]))
 (bOwn (.pr 0) [(.row true 148)] 0 (dno E 111 [(.agg [(.i .i64 x0_0), (.i .i64 x0_1), (.i .i64 x0_2), (.imm 10 x0_3)]), (.i .i64 x1)] []) fun a2 =>
 some ((.sl 0 [] (some (a2.1.off, a2.1.cnt))), [(.live true false false 148 ((a2.2.getD 0 .dead).row))])) := (dno_eq ..).trans (by kernel_rfl)
/-! 112: loop.example/g00905/laws.eqTableRef -/
theorem f112_eq (x0_0 : Int) (x0_1 : Int) (x0_2 : Int) (x0_3 : Int) (x0_4 : Int) (x0_5 : ByteArray) (x0_6 : ByteArray) (x0_7 : Int) (x0_8 : Int) (x0_9 : Int) (x1_0 : Int) (x1_1 : Int) (x1_2 : Int) (x1_3 : Int) (x1_4 : Int) (x1_5 : ByteArray) (x1_6 : ByteArray) (x1_7 : Int) (x1_8 : Int) (x1_9 : Int) : den E 112 [(.agg [(.i .i64 x0_0), (.i .i64 x0_1), (.i .i64 x0_2), (.i .i64 x0_3), (.i .i64 x0_4), (.s x0_5), (.s x0_6), (.i .i64 x0_7), (.i .i64 x0_8), (.i .i64 x0_9)]), (.agg [(.i .i64 x1_0), (.i .i64 x1_1), (.i .i64 x1_2), (.i .i64 x1_3), (.i .i64 x1_4), (.s x1_5), (.s x1_6), (.i .i64 x1_7), (.i .i64 x1_8), (.i .i64 x1_9)])] [] =
 cond (!decide (x0_0 = x1_0))
 (some (.b false))
 (cond (!decide (x0_1 = x1_1))
 (some (.b false))
 (cond (!decide (x0_2 = x1_2))
 (some (.b false))
 (cond (!decide (x0_3 = x1_3))
 (some (.b false))
 (cond (!decide (x0_4 = x1_4))
 (some (.b false))
 (cond (!decide (x0_5 = x1_5))
 (some (.b false))
 (cond (!decide (x0_6 = x1_6))
 (some (.b false))
 (cond (!decide (x0_7 = x1_7))
 (some (.b false))
 (cond (!decide (x0_8 = x1_8))
 (some (.b false))
 (cond (!decide (x0_9 = x1_9))
 (some (.b false))
 (some (.b true))))))))))) := (den_eq ..).trans (by kernel_rfl)
/-! 42: loop.example/g00905/laws.eqTableRefS -/
noncomputable def f42_l1 (t0 : List AV) (t1 : List AV) (t5 : Int) : Option AV := Lp E fi42 [true, true, false, true, false] (mkT 27 [(0, (.imm 10 t0)), (1, (.imm 10 t1)), (5, (.i .i64 t5))]) []
theorem f42_eq (x0 : List AV) (x1 : List AV) : den E 42 [(.imm 10 x0), (.imm 10 x1)] [] =
 cond (!decide (((x0.length : Nat) : Int) = ((x1.length : Nat) : Int)))
 (some (.b false))
 (f42_l1 x0 x1 (0 : Int)) := (den_eq ..).trans (by kernel_rfl)
theorem f42_l1_eq (t0 : List AV) (t1 : List AV) (t5 : Int) : f42_l1 t0 t1 t5 =
 cond (decide (t5 < ((t0.length : Nat) : Int)))
 (if 0 ≤ t5 ∧ t5 < ((t0.length : Nat) : Int) then
 if okCells false (t0.getD t5.toNat .x) 0 [(.i .i64), (.i .i64), (.i .i64), (.i .i64), (.i .i64), .s, .s, (.i .i64), (.i .i64), (.i .i64)] = true then
 if 0 ≤ t5 ∧ t5 < ((t1.length : Nat) : Int) then
 if okCells false (t1.getD t5.toNat .x) 0 [(.i .i64), (.i .i64), (.i .i64), (.i .i64), (.i .i64), .s, .s, (.i .i64), (.i .i64), (.i .i64)] = true then
 bSh .b (den E 112 [(.agg [(.i .i64 (((t0.getD t5.toNat .x).cells.getD 0 .x).toI)), (.i .i64 (((t0.getD t5.toNat .x).cells.getD 1 .x).toI)), (.i .i64 (((t0.getD t5.toNat .x).cells.getD 2 .x).toI)), (.i .i64 (((t0.getD t5.toNat .x).cells.getD 3 .x).toI)), (.i .i64 (((t0.getD t5.toNat .x).cells.getD 4 .x).toI)), (.s (((t0.getD t5.toNat .x).cells.getD 5 .x).toS)), (.s (((t0.getD t5.toNat .x).cells.getD 6 .x).toS)), (.i .i64 (((t0.getD t5.toNat .x).cells.getD 7 .x).toI)), (.i .i64 (((t0.getD t5.toNat .x).cells.getD 8 .x).toI)), (.i .i64 (((t0.getD t5.toNat .x).cells.getD 9 .x).toI))]), (.agg [(.i .i64 (((t1.getD t5.toNat .x).cells.getD 0 .x).toI)), (.i .i64 (((t1.getD t5.toNat .x).cells.getD 1 .x).toI)), (.i .i64 (((t1.getD t5.toNat .x).cells.getD 2 .x).toI)), (.i .i64 (((t1.getD t5.toNat .x).cells.getD 3 .x).toI)), (.i .i64 (((t1.getD t5.toNat .x).cells.getD 4 .x).toI)), (.s (((t1.getD t5.toNat .x).cells.getD 5 .x).toS)), (.s (((t1.getD t5.toNat .x).cells.getD 6 .x).toS)), (.i .i64 (((t1.getD t5.toNat .x).cells.getD 7 .x).toI)), (.i .i64 (((t1.getD t5.toNat .x).cells.getD 8 .x).toI)), (.i .i64 (((t1.getD t5.toNat .x).cells.getD 9 .x).toI))])] []) fun a1 =>
 cond (!a1.toB)
 (some (.b false))
 (f42_l1 t0 t1 (IntKind.i64.wrap (t5 + (1 : Int))))
 else none
 else none
 else none
 else none)
 (some (.b true)) := (Lp_eq ..).trans (by kernel_rfl)
/-! 43: loop.example/g00905/laws.eqVersion -/
theorem f43_eq (x0_0 : Int) (x0_1 : Int) (x0_2 : Int) (x0_3 : List AV) (x1_0 : Int) (x1_1 : Int) (x1_2 : Int) (x1_3 : List AV) : den E 43 [(.agg [(.i .i64 x0_0), (.i .i64 x0_1), (.i .i64 x0_2), (.imm 10 x0_3)]), (.agg [(.i .i64 x1_0), (.i .i64 x1_1), (.i .i64 x1_2), (.imm 10 x1_3)])] [] =
 cond (!decide (x0_0 = x1_0))
 (some (.b false))
 (cond (!decide (x0_1 = x1_1))
 (some (.b false))
 (cond (!decide (x0_2 = x1_2))
 (some (.b false))
 (bSh .b (den E 42 [(.imm 10 x0_3), (.imm 10 x1_3)] []) fun a1 =>
 cond (!a1.toB)
 (some (.b false))
 (some (.b true))))) := (den_eq ..).trans (by kernel_rfl)
/-! 113: loop.example/g00905/laws.markText -/
noncomputable def f113_l1 (t0 : Int) (t3 : ByteArray) : Option AV := Lp E fi113 [true, true, true, false, false] (mkT 20 [(0, (.i .i64 t0)), (3, (.s t3))]) []
theorem f113_eq (x0 : Int) : den E 113 [(.i .i64 x0)] [] =
 cond (decide (x0 ≤ (0 : Int)))
 (some (.s ({ data := #[109, 48] } : ByteArray)))
 (f113_l1 x0 ({ data := #[] } : ByteArray)) := (den_eq ..).trans (by kernel_rfl)
theorem f113_l1_eq (t0 : Int) (t3 : ByteArray) : f113_l1 t0 t3 =
 cond (decide ((0 : Int) < t0))
 (if (([(.i .u8 (IntKind.u8.wrap (IntKind.i64.wrap ((48 : Int) + (t0.tmod (10 : Int))))))] : List AV)).all isU8 = true then
 if (((bytesOf [(.i .u8 (IntKind.u8.wrap (IntKind.i64.wrap ((48 : Int) + (t0.tmod (10 : Int))))))]).size + t3.size : Nat) : Int) ≤ 9223372036854775807 then
 f113_l1 (IntKind.i64.wrap (t0.tdiv (10 : Int))) ((bytesOf [(.i .u8 (IntKind.u8.wrap (IntKind.i64.wrap ((48 : Int) + (t0.tmod (10 : Int))))))]) ++ t3)
 else none
 else none)
 (if ((({ data := #[109] } : ByteArray).size + t3.size : Nat) : Int) ≤ 9223372036854775807 then
 some (.s (({ data := #[109] } : ByteArray) ++ t3))
 else none) := (Lp_eq ..).trans (by kernel_rfl)
/-! 45: loop.example/g00905/laws.markTableRefS -/
noncomputable def f45o1_l1 (t1 : Int) (t5 : Int) (r0 : List AV) : Option (AV × List Root) := LpO E fi45 [(2, [0, 1, 5], 1)] 1 (.i .i64) [true, false, true, false] (mkT 85 [(0, (.sl 0 [] none)), (1, (.i .i64 t1)), (5, (.i .i64 t5))]) [(.live true false false 148 r0)]
theorem f45o1_eq (x1 : Int) (s0 : List AV) : dno E 45 [(.sl 0 [] none), (.i .i64 x1)] [(.live true false false 148 s0)] =
 f45o1_l1 x1 (0 : Int) s0 := (dno_eq ..).trans (by kernel_rfl)
theorem f45o1_l1_eq (t1 : Int) (t5 : Int) (r0 : List AV) : f45o1_l1 t1 t5 r0 =
 cond (decide (t5 < ((r0.length : Nat) : Int)))
 (if 0 ≤ t5 ∧ t5 < ((r0.length : Nat) : Int) then
 if 0 ≤ t5 ∧ t5 < (((r0.set (0 + t5.toNat) ((r0.getD (0 + t5.toNat) .x).putCells 0 [(.i .i64 t1)])).length : Nat) : Int) then
 if 0 ≤ t5 ∧ t5 < ((((r0.set (0 + t5.toNat) ((r0.getD (0 + t5.toNat) .x).putCells 0 [(.i .i64 t1)])).set (0 + t5.toNat) (((r0.set (0 + t5.toNat) ((r0.getD (0 + t5.toNat) .x).putCells 0 [(.i .i64 t1)])).getD (0 + t5.toNat) .x).putCells 1 [(.i .i64 (IntKind.i64.wrap (t1 + (1 : Int))))])).length : Nat) : Int) then
 if 0 ≤ t5 ∧ t5 < (((putAt ((r0.set (0 + t5.toNat) ((r0.getD (0 + t5.toNat) .x).putCells 0 [(.i .i64 t1)])).set (0 + t5.toNat) (((r0.set (0 + t5.toNat) ((r0.getD (0 + t5.toNat) .x).putCells 0 [(.i .i64 t1)])).getD (0 + t5.toNat) .x).putCells 1 [(.i .i64 (IntKind.i64.wrap (t1 + (1 : Int))))])) (0 + t5.toNat) 2 [(.i .i64 (IntKind.i64.wrap ((IntKind.i64.wrap (t1 + (1 : Int))) + (1 : Int))))]).length : Nat) : Int) then
 if 0 ≤ t5 ∧ t5 < (((putAt (putAt ((r0.set (0 + t5.toNat) ((r0.getD (0 + t5.toNat) .x).putCells 0 [(.i .i64 t1)])).set (0 + t5.toNat) (((r0.set (0 + t5.toNat) ((r0.getD (0 + t5.toNat) .x).putCells 0 [(.i .i64 t1)])).getD (0 + t5.toNat) .x).putCells 1 [(.i .i64 (IntKind.i64.wrap (t1 + (1 : Int))))])) (0 + t5.toNat) 2 [(.i .i64 (IntKind.i64.wrap ((IntKind.i64.wrap (t1 + (1 : Int))) + (1 : Int))))]) (0 + t5.toNat) 3 [(.i .i64 (IntKind.i64.wrap ((IntKind.i64.wrap ((IntKind.i64.wrap (t1 + (1 : Int))) + (1 : Int))) + (1 : Int))))]).length : Nat) : Int) then
 bSh .s (den E 113 [(.i .i64 (IntKind.i64.wrap ((IntKind.i64.wrap ((IntKind.i64.wrap ((IntKind.i64.wrap ((IntKind.i64.wrap (t1 + (1 : Int))) + (1 : Int))) + (1 : Int))) + (1 : Int))) + (1 : Int))))] []) fun a1 =>
 if 0 ≤ t5 ∧ t5 < (((putAt (putAt (putAt ((r0.set (0 + t5.toNat) ((r0.getD (0 + t5.toNat) .x).putCells 0 [(.i .i64 t1)])).set (0 + t5.toNat) (((r0.set (0 + t5.toNat) ((r0.getD (0 + t5.toNat) .x).putCells 0 [(.i .i64 t1)])).getD (0 + t5.toNat) .x).putCells 1 [(.i .i64 (IntKind.i64.wrap (t1 + (1 : Int))))])) (0 + t5.toNat) 2 [(.i .i64 (IntKind.i64.wrap ((IntKind.i64.wrap (t1 + (1 : Int))) + (1 : Int))))]) (0 + t5.toNat) 3 [(.i .i64 (IntKind.i64.wrap ((IntKind.i64.wrap ((IntKind.i64.wrap (t1 + (1 : Int))) + (1 : Int))) + (1 : Int))))]) (0 + t5.toNat) 4 [(.i .i64 (IntKind.i64.wrap ((IntKind.i64.wrap ((IntKind.i64.wrap ((IntKind.i64.wrap (t1 + (1 : Int))) + (1 : Int))) + (1 : Int))) + (1 : Int))))]).length : Nat) : Int) then
 bSh .s (den E 113 [(.i .i64 (IntKind.i64.wrap ((IntKind.i64.wrap ((IntKind.i64.wrap ((IntKind.i64.wrap ((IntKind.i64.wrap ((IntKind.i64.wrap (t1 + (1 : Int))) + (1 : Int))) + (1 : Int))) + (1 : Int))) + (1 : Int))) + (1 : Int))))] []) fun a2 =>
 if 0 ≤ t5 ∧ t5 < (((putAt (putAt (putAt (putAt ((r0.set (0 + t5.toNat) ((r0.getD (0 + t5.toNat) .x).putCells 0 [(.i .i64 t1)])).set (0 + t5.toNat) (((r0.set (0 + t5.toNat) ((r0.getD (0 + t5.toNat) .x).putCells 0 [(.i .i64 t1)])).getD (0 + t5.toNat) .x).putCells 1 [(.i .i64 (IntKind.i64.wrap (t1 + (1 : Int))))])) (0 + t5.toNat) 2 [(.i .i64 (IntKind.i64.wrap ((IntKind.i64.wrap (t1 + (1 : Int))) + (1 : Int))))]) (0 + t5.toNat) 3 [(.i .i64 (IntKind.i64.wrap ((IntKind.i64.wrap ((IntKind.i64.wrap (t1 + (1 : Int))) + (1 : Int))) + (1 : Int))))]) (0 + t5.toNat) 4 [(.i .i64 (IntKind.i64.wrap ((IntKind.i64.wrap ((IntKind.i64.wrap ((IntKind.i64.wrap (t1 + (1 : Int))) + (1 : Int))) + (1 : Int))) + (1 : Int))))]) (0 + t5.toNat) 5 [(.s a1.toS)]).length : Nat) : Int) then
 if 0 ≤ t5 ∧ t5 < (((putAt (putAt (putAt (putAt (putAt ((r0.set (0 + t5.toNat) ((r0.getD (0 + t5.toNat) .x).putCells 0 [(.i .i64 t1)])).set (0 + t5.toNat) (((r0.set (0 + t5.toNat) ((r0.getD (0 + t5.toNat) .x).putCells 0 [(.i .i64 t1)])).getD (0 + t5.toNat) .x).putCells 1 [(.i .i64 (IntKind.i64.wrap (t1 + (1 : Int))))])) (0 + t5.toNat) 2 [(.i .i64 (IntKind.i64.wrap ((IntKind.i64.wrap (t1 + (1 : Int))) + (1 : Int))))]) (0 + t5.toNat) 3 [(.i .i64 (IntKind.i64.wrap ((IntKind.i64.wrap ((IntKind.i64.wrap (t1 + (1 : Int))) + (1 : Int))) + (1 : Int))))]) (0 + t5.toNat) 4 [(.i .i64 (IntKind.i64.wrap ((IntKind.i64.wrap ((IntKind.i64.wrap ((IntKind.i64.wrap (t1 + (1 : Int))) + (1 : Int))) + (1 : Int))) + (1 : Int))))]) (0 + t5.toNat) 5 [(.s a1.toS)]) (0 + t5.toNat) 6 [(.s a2.toS)]).length : Nat) : Int) then
 if 0 ≤ t5 ∧ t5 < (((putAt (putAt (putAt (putAt (putAt (putAt ((r0.set (0 + t5.toNat) ((r0.getD (0 + t5.toNat) .x).putCells 0 [(.i .i64 t1)])).set (0 + t5.toNat) (((r0.set (0 + t5.toNat) ((r0.getD (0 + t5.toNat) .x).putCells 0 [(.i .i64 t1)])).getD (0 + t5.toNat) .x).putCells 1 [(.i .i64 (IntKind.i64.wrap (t1 + (1 : Int))))])) (0 + t5.toNat) 2 [(.i .i64 (IntKind.i64.wrap ((IntKind.i64.wrap (t1 + (1 : Int))) + (1 : Int))))]) (0 + t5.toNat) 3 [(.i .i64 (IntKind.i64.wrap ((IntKind.i64.wrap ((IntKind.i64.wrap (t1 + (1 : Int))) + (1 : Int))) + (1 : Int))))]) (0 + t5.toNat) 4 [(.i .i64 (IntKind.i64.wrap ((IntKind.i64.wrap ((IntKind.i64.wrap ((IntKind.i64.wrap (t1 + (1 : Int))) + (1 : Int))) + (1 : Int))) + (1 : Int))))]) (0 + t5.toNat) 5 [(.s a1.toS)]) (0 + t5.toNat) 6 [(.s a2.toS)]) (0 + t5.toNat) 7 [(.i .i64 (IntKind.i64.wrap ((IntKind.i64.wrap ((IntKind.i64.wrap ((IntKind.i64.wrap ((IntKind.i64.wrap ((IntKind.i64.wrap ((IntKind.i64.wrap (t1 + (1 : Int))) + (1 : Int))) + (1 : Int))) + (1 : Int))) + (1 : Int))) + (1 : Int))) + (1 : Int))))]).length : Nat) : Int) then
 if 0 ≤ t5 ∧ t5 < (((putAt (putAt (putAt (putAt (putAt (putAt (putAt ((r0.set (0 + t5.toNat) ((r0.getD (0 + t5.toNat) .x).putCells 0 [(.i .i64 t1)])).set (0 + t5.toNat) (((r0.set (0 + t5.toNat) ((r0.getD (0 + t5.toNat) .x).putCells 0 [(.i .i64 t1)])).getD (0 + t5.toNat) .x).putCells 1 [(.i .i64 (IntKind.i64.wrap (t1 + (1 : Int))))])) (0 + t5.toNat) 2 [(.i .i64 (IntKind.i64.wrap ((IntKind.i64.wrap (t1 + (1 : Int))) + (1 : Int))))]) (0 + t5.toNat) 3 [(.i .i64 (IntKind.i64.wrap ((IntKind.i64.wrap ((IntKind.i64.wrap (t1 + (1 : Int))) + (1 : Int))) + (1 : Int))))]) (0 + t5.toNat) 4 [(.i .i64 (IntKind.i64.wrap ((IntKind.i64.wrap ((IntKind.i64.wrap ((IntKind.i64.wrap (t1 + (1 : Int))) + (1 : Int))) + (1 : Int))) + (1 : Int))))]) (0 + t5.toNat) 5 [(.s a1.toS)]) (0 + t5.toNat) 6 [(.s a2.toS)]) (0 + t5.toNat) 7 [(.i .i64 (IntKind.i64.wrap ((IntKind.i64.wrap ((IntKind.i64.wrap ((IntKind.i64.wrap ((IntKind.i64.wrap ((IntKind.i64.wrap ((IntKind.i64.wrap (t1 + (1 : Int))) + (1 : Int))) + (1 : Int))) + (1 : Int))) + (1 : Int))) + (1 : Int))) + (1 : Int))))]) (0 + t5.toNat) 8 [(.i .i64 (IntKind.i64.wrap ((IntKind.i64.wrap ((IntKind.i64.wrap ((IntKind.i64.wrap ((IntKind.i64.wrap ((IntKind.i64.wrap ((IntKind.i64.wrap ((IntKind.i64.wrap (t1 + (1 : Int))) + (1 : Int))) + (1 : Int))) + (1 : Int))) + (1 : Int))) + (1 : Int))) + (1 : Int))) + (1 : Int))))]).length : Nat) : Int) then
 f45o1_l1 (IntKind.i64.wrap ((IntKind.i64.wrap ((IntKind.i64.wrap ((IntKind.i64.wrap ((IntKind.i64.wrap ((IntKind.i64.wrap ((IntKind.i64.wrap ((IntKind.i64.wrap ((IntKind.i64.wrap ((IntKind.i64.wrap (t1 + (1 : Int))) + (1 : Int))) + (1 : Int))) + (1 : Int))) + (1 : Int))) + (1 : Int))) + (1 : Int))) + (1 : Int))) + (1 : Int))) + (1 : Int))) (IntKind.i64.wrap (t5 + (1 : Int))) (putAt (putAt (putAt (putAt (putAt (putAt (putAt (putAt ((r0.set (0 + t5.toNat) ((r0.getD (0 + t5.toNat) .x).putCells 0 [(.i .i64 t1)])).set (0 + t5.toNat) (((r0.set (0 + t5.toNat) ((r0.getD (0 + t5.toNat) .x).putCells 0 [(.i .i64 t1)])).getD (0 + t5.toNat) .x).putCells 1 [(.i .i64 (IntKind.i64.wrap (t1 + (1 : Int))))])) (0 + t5.toNat) 2 [(.i .i64 (IntKind.i64.wrap ((IntKind.i64.wrap (t1 + (1 : Int))) + (1 : Int))))]) (0 + t5.toNat) 3 [(.i .i64 (IntKind.i64.wrap ((IntKind.i64.wrap ((IntKind.i64.wrap (t1 + (1 : Int))) + (1 : Int))) + (1 : Int))))]) (0 + t5.toNat) 4 [(.i .i64 (IntKind.i64.wrap ((IntKind.i64.wrap ((IntKind.i64.wrap ((IntKind.i64.wrap (t1 + (1 : Int))) + (1 : Int))) + (1 : Int))) + (1 : Int))))]) (0 + t5.toNat) 5 [(.s a1.toS)]) (0 + t5.toNat) 6 [(.s a2.toS)]) (0 + t5.toNat) 7 [(.i .i64 (IntKind.i64.wrap ((IntKind.i64.wrap ((IntKind.i64.wrap ((IntKind.i64.wrap ((IntKind.i64.wrap ((IntKind.i64.wrap ((IntKind.i64.wrap (t1 + (1 : Int))) + (1 : Int))) + (1 : Int))) + (1 : Int))) + (1 : Int))) + (1 : Int))) + (1 : Int))))]) (0 + t5.toNat) 8 [(.i .i64 (IntKind.i64.wrap ((IntKind.i64.wrap ((IntKind.i64.wrap ((IntKind.i64.wrap ((IntKind.i64.wrap ((IntKind.i64.wrap ((IntKind.i64.wrap ((IntKind.i64.wrap (t1 + (1 : Int))) + (1 : Int))) + (1 : Int))) + (1 : Int))) + (1 : Int))) + (1 : Int))) + (1 : Int))) + (1 : Int))))]) (0 + t5.toNat) 9 [(.i .i64 (IntKind.i64.wrap ((IntKind.i64.wrap ((IntKind.i64.wrap ((IntKind.i64.wrap ((IntKind.i64.wrap ((IntKind.i64.wrap ((IntKind.i64.wrap ((IntKind.i64.wrap ((IntKind.i64.wrap (t1 + (1 : Int))) + (1 : Int))) + (1 : Int))) + (1 : Int))) + (1 : Int))) + (1 : Int))) + (1 : Int))) + (1 : Int))) + (1 : Int))))])
 else none
 else none
 else none
 else none
 else none
 else none
 else none
 else none
 else none
 else none)
 (some ((.i .i64 t1), [(.live true false false 148 r0)])) := (LpO_eq ..).trans (by kernel_rfl)
/-! 44: loop.example/g00905/laws.markVersion -/
theorem f44o1_eq (x0_0 : Int) (x0_1 : Int) (x0_2 : Int) (x1 : Int) (s0 : List AV) : dno E 44 [(.agg [(.i .i64 x0_0), (.i .i64 x0_1), (.i .i64 x0_2), (.sl 0 [] none)]), (.i .i64 x1)] [(.live true false false 148 s0)] =
 bOwnS (.i .i64) [(.same 148)] 1 [(.live true false false 148 s0)] (dno E 45 [(.sl 0 [] none), (.i .i64 x1)] [(.live true false false 148 s0)]) fun a1 =>
 some ((.i .i64 a1.1.toI), [(.live true false false 148 ((a1.2.getD 0 .dead).row))]) := (dno_eq ..).trans (by kernel_rfl)
/-! 45: loop.example/g00905/laws.markTableRefS -/
noncomputable def f45o2_l1 (t0o : Nat) (t0n : Nat) (t1 : Int) (t5 : Int) (r0 : List AV) : Option (AV × List Root) := LpO E fi45 [(2, [0, 1, 5], 1)] 1 (.i .i64) [true, false, true, false] (mkT 85 [(0, (.sl 0 [] (some (t0o, t0n)))), (1, (.i .i64 t1)), (5, (.i .i64 t5))]) [(.live true false false 148 r0)]
theorem f45o2_eq (x0o : Nat) (x0n : Nat) (x1 : Int) (s0 : List AV) : dno E 45 [(.sl 0 [] (some (x0o, x0n))), (.i .i64 x1)] [(.live true false false 148 s0)] =
 f45o2_l1 x0o x0n x1 (0 : Int) s0 := (dno_eq ..).trans (by kernel_rfl)
theorem f45o2_l1_eq (t0o : Nat) (t0n : Nat) (t1 : Int) (t5 : Int) (r0 : List AV) : f45o2_l1 t0o t0n t1 t5 r0 =
 cond (decide (t5 < ((t0n : Nat) : Int)))
 (if 0 ≤ t5 ∧ t5 < ((t0n : Nat) : Int) then
 if 0 ≤ t5 ∧ t5 < ((t0n : Nat) : Int) then
 if 0 ≤ t5 ∧ t5 < ((t0n : Nat) : Int) then
 if 0 ≤ t5 ∧ t5 < ((t0n : Nat) : Int) then
 if 0 ≤ t5 ∧ t5 < ((t0n : Nat) : Int) then
 bSh .s (den E 113 [(.i .i64 (IntKind.i64.wrap ((IntKind.i64.wrap ((IntKind.i64.wrap ((IntKind.i64.wrap ((IntKind.i64.wrap (t1 + (1 : Int))) + (1 : Int))) + (1 : Int))) + (1 : Int))) + (1 : Int))))] []) fun a1 =>
 if 0 ≤ t5 ∧ t5 < ((t0n : Nat) : Int) then
 bSh .s (den E 113 [(.i .i64 (IntKind.i64.wrap ((IntKind.i64.wrap ((IntKind.i64.wrap ((IntKind.i64.wrap ((IntKind.i64.wrap ((IntKind.i64.wrap (t1 + (1 : Int))) + (1 : Int))) + (1 : Int))) + (1 : Int))) + (1 : Int))) + (1 : Int))))] []) fun a2 =>
 if 0 ≤ t5 ∧ t5 < ((t0n : Nat) : Int) then
 if 0 ≤ t5 ∧ t5 < ((t0n : Nat) : Int) then
 if 0 ≤ t5 ∧ t5 < ((t0n : Nat) : Int) then
 if 0 ≤ t5 ∧ t5 < ((t0n : Nat) : Int) then
 f45o2_l1 t0o t0n (IntKind.i64.wrap ((IntKind.i64.wrap ((IntKind.i64.wrap ((IntKind.i64.wrap ((IntKind.i64.wrap ((IntKind.i64.wrap ((IntKind.i64.wrap ((IntKind.i64.wrap ((IntKind.i64.wrap ((IntKind.i64.wrap (t1 + (1 : Int))) + (1 : Int))) + (1 : Int))) + (1 : Int))) + (1 : Int))) + (1 : Int))) + (1 : Int))) + (1 : Int))) + (1 : Int))) + (1 : Int))) (IntKind.i64.wrap (t5 + (1 : Int))) (putAt (putAt (putAt (putAt (putAt (putAt (putAt (putAt ((r0.set (t0o + t5.toNat) ((r0.getD (t0o + t5.toNat) .x).putCells 0 [(.i .i64 t1)])).set (t0o + t5.toNat) (((r0.set (t0o + t5.toNat) ((r0.getD (t0o + t5.toNat) .x).putCells 0 [(.i .i64 t1)])).getD (t0o + t5.toNat) .x).putCells 1 [(.i .i64 (IntKind.i64.wrap (t1 + (1 : Int))))])) (t0o + t5.toNat) 2 [(.i .i64 (IntKind.i64.wrap ((IntKind.i64.wrap (t1 + (1 : Int))) + (1 : Int))))]) (t0o + t5.toNat) 3 [(.i .i64 (IntKind.i64.wrap ((IntKind.i64.wrap ((IntKind.i64.wrap (t1 + (1 : Int))) + (1 : Int))) + (1 : Int))))]) (t0o + t5.toNat) 4 [(.i .i64 (IntKind.i64.wrap ((IntKind.i64.wrap ((IntKind.i64.wrap ((IntKind.i64.wrap (t1 + (1 : Int))) + (1 : Int))) + (1 : Int))) + (1 : Int))))]) (t0o + t5.toNat) 5 [(.s a1.toS)]) (t0o + t5.toNat) 6 [(.s a2.toS)]) (t0o + t5.toNat) 7 [(.i .i64 (IntKind.i64.wrap ((IntKind.i64.wrap ((IntKind.i64.wrap ((IntKind.i64.wrap ((IntKind.i64.wrap ((IntKind.i64.wrap ((IntKind.i64.wrap (t1 + (1 : Int))) + (1 : Int))) + (1 : Int))) + (1 : Int))) + (1 : Int))) + (1 : Int))) + (1 : Int))))]) (t0o + t5.toNat) 8 [(.i .i64 (IntKind.i64.wrap ((IntKind.i64.wrap ((IntKind.i64.wrap ((IntKind.i64.wrap ((IntKind.i64.wrap ((IntKind.i64.wrap ((IntKind.i64.wrap ((IntKind.i64.wrap (t1 + (1 : Int))) + (1 : Int))) + (1 : Int))) + (1 : Int))) + (1 : Int))) + (1 : Int))) + (1 : Int))) + (1 : Int))))]) (t0o + t5.toNat) 9 [(.i .i64 (IntKind.i64.wrap ((IntKind.i64.wrap ((IntKind.i64.wrap ((IntKind.i64.wrap ((IntKind.i64.wrap ((IntKind.i64.wrap ((IntKind.i64.wrap ((IntKind.i64.wrap ((IntKind.i64.wrap (t1 + (1 : Int))) + (1 : Int))) + (1 : Int))) + (1 : Int))) + (1 : Int))) + (1 : Int))) + (1 : Int))) + (1 : Int))) + (1 : Int))))])
 else none
 else none
 else none
 else none
 else none
 else none
 else none
 else none
 else none
 else none)
 (some ((.i .i64 t1), [(.live true false false 148 r0)])) := (LpO_eq ..).trans (by kernel_rfl)
/-! 46: loop.example/g00905/laws.heldTableRefS -/
noncomputable def f46_l1 (t0 : List AV) (t1 : Int) (t5 : Int) : Option AV := Lp E fi46 [true, false, true, false] (mkT 105 [(0, (.imm 10 t0)), (1, (.i .i64 t1)), (5, (.i .i64 t5))]) []
theorem f46_eq (x0 : List AV) (x1 : Int) : den E 46 [(.imm 10 x0), (.i .i64 x1)] [] =
 f46_l1 x0 x1 (0 : Int) := (den_eq ..).trans (by kernel_rfl)
theorem f46_l1_eq (t0 : List AV) (t1 : Int) (t5 : Int) : f46_l1 t0 t1 t5 =
 cond (decide (t5 < ((t0.length : Nat) : Int)))
 (if 0 ≤ t5 ∧ t5 < ((t0.length : Nat) : Int) then
 if okCells false (t0.getD t5.toNat .x) 0 [(.i .i64)] = true then
 cond (!decide ((((t0.getD t5.toNat .x).cells.getD 0 .x).toI) = t1))
 (some (.i .i64 (-1 : Int)))
 (if 0 ≤ t5 ∧ t5 < ((t0.length : Nat) : Int) then
 if okCells false (t0.getD t5.toNat .x) 1 [(.i .i64)] = true then
 cond (!decide ((((t0.getD t5.toNat .x).cells.getD 1 .x).toI) = (IntKind.i64.wrap (t1 + (1 : Int)))))
 (some (.i .i64 (-1 : Int)))
 (if 0 ≤ t5 ∧ t5 < ((t0.length : Nat) : Int) then
 if okCells false (t0.getD t5.toNat .x) 2 [(.i .i64)] = true then
 cond (!decide ((((t0.getD t5.toNat .x).cells.getD 2 .x).toI) = (IntKind.i64.wrap ((IntKind.i64.wrap (t1 + (1 : Int))) + (1 : Int)))))
 (some (.i .i64 (-1 : Int)))
 (if 0 ≤ t5 ∧ t5 < ((t0.length : Nat) : Int) then
 if okCells false (t0.getD t5.toNat .x) 3 [(.i .i64)] = true then
 cond (!decide ((((t0.getD t5.toNat .x).cells.getD 3 .x).toI) = (IntKind.i64.wrap ((IntKind.i64.wrap ((IntKind.i64.wrap (t1 + (1 : Int))) + (1 : Int))) + (1 : Int)))))
 (some (.i .i64 (-1 : Int)))
 (if 0 ≤ t5 ∧ t5 < ((t0.length : Nat) : Int) then
 if okCells false (t0.getD t5.toNat .x) 4 [(.i .i64)] = true then
 cond (!decide ((((t0.getD t5.toNat .x).cells.getD 4 .x).toI) = (IntKind.i64.wrap ((IntKind.i64.wrap ((IntKind.i64.wrap ((IntKind.i64.wrap (t1 + (1 : Int))) + (1 : Int))) + (1 : Int))) + (1 : Int)))))
 (some (.i .i64 (-1 : Int)))
 (if 0 ≤ t5 ∧ t5 < ((t0.length : Nat) : Int) then
 if okCells false (t0.getD t5.toNat .x) 5 [.s] = true then
 bSh .s (den E 113 [(.i .i64 (IntKind.i64.wrap ((IntKind.i64.wrap ((IntKind.i64.wrap ((IntKind.i64.wrap ((IntKind.i64.wrap (t1 + (1 : Int))) + (1 : Int))) + (1 : Int))) + (1 : Int))) + (1 : Int))))] []) fun a1 =>
 cond (!decide ((((t0.getD t5.toNat .x).cells.getD 5 .x).toS) = a1.toS))
 (some (.i .i64 (-1 : Int)))
 (if 0 ≤ t5 ∧ t5 < ((t0.length : Nat) : Int) then
 if okCells false (t0.getD t5.toNat .x) 6 [.s] = true then
 bSh .s (den E 113 [(.i .i64 (IntKind.i64.wrap ((IntKind.i64.wrap ((IntKind.i64.wrap ((IntKind.i64.wrap ((IntKind.i64.wrap ((IntKind.i64.wrap (t1 + (1 : Int))) + (1 : Int))) + (1 : Int))) + (1 : Int))) + (1 : Int))) + (1 : Int))))] []) fun a2 =>
 cond (!decide ((((t0.getD t5.toNat .x).cells.getD 6 .x).toS) = a2.toS))
 (some (.i .i64 (-1 : Int)))
 (if 0 ≤ t5 ∧ t5 < ((t0.length : Nat) : Int) then
 if okCells false (t0.getD t5.toNat .x) 7 [(.i .i64)] = true then
 cond (!decide ((((t0.getD t5.toNat .x).cells.getD 7 .x).toI) = (IntKind.i64.wrap ((IntKind.i64.wrap ((IntKind.i64.wrap ((IntKind.i64.wrap ((IntKind.i64.wrap ((IntKind.i64.wrap ((IntKind.i64.wrap (t1 + (1 : Int))) + (1 : Int))) + (1 : Int))) + (1 : Int))) + (1 : Int))) + (1 : Int))) + (1 : Int)))))
 (some (.i .i64 (-1 : Int)))
 (if 0 ≤ t5 ∧ t5 < ((t0.length : Nat) : Int) then
 if okCells false (t0.getD t5.toNat .x) 8 [(.i .i64)] = true then
 cond (!decide ((((t0.getD t5.toNat .x).cells.getD 8 .x).toI) = (IntKind.i64.wrap ((IntKind.i64.wrap ((IntKind.i64.wrap ((IntKind.i64.wrap ((IntKind.i64.wrap ((IntKind.i64.wrap ((IntKind.i64.wrap ((IntKind.i64.wrap (t1 + (1 : Int))) + (1 : Int))) + (1 : Int))) + (1 : Int))) + (1 : Int))) + (1 : Int))) + (1 : Int))) + (1 : Int)))))
 (some (.i .i64 (-1 : Int)))
 (if 0 ≤ t5 ∧ t5 < ((t0.length : Nat) : Int) then
 if okCells false (t0.getD t5.toNat .x) 9 [(.i .i64)] = true then
 cond (!decide ((((t0.getD t5.toNat .x).cells.getD 9 .x).toI) = (IntKind.i64.wrap ((IntKind.i64.wrap ((IntKind.i64.wrap ((IntKind.i64.wrap ((IntKind.i64.wrap ((IntKind.i64.wrap ((IntKind.i64.wrap ((IntKind.i64.wrap ((IntKind.i64.wrap (t1 + (1 : Int))) + (1 : Int))) + (1 : Int))) + (1 : Int))) + (1 : Int))) + (1 : Int))) + (1 : Int))) + (1 : Int))) + (1 : Int)))))
 (some (.i .i64 (-1 : Int)))
 (f46_l1 t0 (IntKind.i64.wrap ((IntKind.i64.wrap ((IntKind.i64.wrap ((IntKind.i64.wrap ((IntKind.i64.wrap ((IntKind.i64.wrap ((IntKind.i64.wrap ((IntKind.i64.wrap ((IntKind.i64.wrap ((IntKind.i64.wrap (t1 + (1 : Int))) + (1 : Int))) + (1 : Int))) + (1 : Int))) + (1 : Int))) + (1 : Int))) + (1 : Int))) + (1 : Int))) + (1 : Int))) + (1 : Int))) (IntKind.i64.wrap (t5 + (1 : Int))))
 else none
 else none)
 else none
 else none)
 else none
 else none)
 else none
 else none)
 else none
 else none)
 else none
 else none)
 else none
 else none)
 else none
 else none)
 else none
 else none)
 else none
 else none)
 (some (.i .i64 t1)) := (Lp_eq ..).trans (by kernel_rfl)
/-! 8: loop.example/g00905/laws.FnExactTablesIn -/
theorem f8_eq (x0_0 : Int) (x0_1 : Int) (x0_2 : Int) (x0_3 : List AV) (x1 : Int) : den E 8 [(.agg [(.i .i64 x0_0), (.i .i64 x0_1), (.i .i64 x0_2), (.imm 10 x0_3)]), (.i .i64 x1)] [] =
 bSh (.i .i64) (den E 38 [(.agg [(.i .i64 x0_0), (.i .i64 x0_1), (.i .i64 x0_2), (.imm 10 x0_3)]), (.i .i64 (1048576 : Int))] []) fun a1 =>
 cond (decide (a1.toI < (0 : Int)))
 (some (.b true))
 (bOwn (.agg [(.i .i64), (.i .i64), (.i .i64), (.so 0)]) [(.row true 148)] 0 (dno E 40 [(.agg [(.i .i64 x0_0), (.i .i64 x0_1), (.i .i64 x0_2), (.imm 10 x0_3)])] []) fun a2 =>
 bOwnF (.so 0) [(.row true 148)] 0 (dno E 39 [(.agg [(.i .i64 ((a2.1.nth 0).toI)), (.i .i64 ((a2.1.nth 1).toI)), (.i .i64 ((a2.1.nth 2).toI)), (.imm 10 ((a2.2.getD 0 .dead).row))]), (.i .i64 x1)] []) fun a3 =>
 bOwn (.agg [(.i .i64), (.i .i64), (.i .i64), (.so 0)]) [(.row true 148)] 0 (dno E 40 [(.agg [(.i .i64 x0_0), (.i .i64 x0_1), (.i .i64 x0_2), (.imm 10 x0_3)])] []) fun a4 =>
 bOwnF (.pr 0) [(.row true 148)] 0 (dno E 41 [(.agg [(.i .i64 ((a4.1.nth 0).toI)), (.i .i64 ((a4.1.nth 1).toI)), (.i .i64 ((a4.1.nth 2).toI)), (.imm 10 ((a4.2.getD 0 .dead).row))]), (.i .i64 x1)] []) fun a5 =>
 bSh .b (den E 42 [(.imm 10 ((((a5.2.getD 0 .dead).row).drop a5.1.off).take a5.1.cnt)), (.imm 10 ((a3.2.getD 0 .dead).row))] []) fun a6 =>
 cond (!a6.toB)
 (some (.b false))
 (bOwn (.agg [(.i .i64), (.i .i64), (.i .i64), (.so 0)]) [(.row true 148)] 0 (dno E 40 [(.agg [(.i .i64 x0_0), (.i .i64 x0_1), (.i .i64 x0_2), (.imm 10 x0_3)])] []) fun a7 =>
 bSh .b (den E 43 [(.agg [(.i .i64 ((a4.1.nth 0).toI)), (.i .i64 ((a4.1.nth 1).toI)), (.i .i64 ((a4.1.nth 2).toI)), (.imm 10 ((a4.2.getD 0 .dead).row))]), (.agg [(.i .i64 ((a7.1.nth 0).toI)), (.i .i64 ((a7.1.nth 1).toI)), (.i .i64 ((a7.1.nth 2).toI)), (.imm 10 ((a7.2.getD 0 .dead).row))])] []) fun a8 =>
 cond (!a8.toB)
 (some (.b false))
 (bOwnS (.i .i64) [(.same 148)] 1 [(.live true false false 148 ((a4.2.getD 0 .dead).row))] (dno E 44 [(.agg [(.i .i64 ((a4.1.nth 0).toI)), (.i .i64 ((a4.1.nth 1).toI)), (.i .i64 ((a4.1.nth 2).toI)), (.sl 0 [] none)]), (.i .i64 (1 : Int))] [(.live true false false 148 ((a4.2.getD 0 .dead).row))]) fun a9 =>
 cond ((decide (a9.1.toI < (0 : Int))) == false)
 (bSh .b (den E 42 [(.imm 10 ((((a5.2.getD 0 .dead).row).drop a5.1.off).take a5.1.cnt)), (.imm 10 ((a3.2.getD 0 .dead).row))] []) fun a10 =>
 cond (!a10.toB)
 (some (.b false))
 (bOwnS (.i .i64) [(.same 148)] 1 [(.live true false false 148 ((a5.2.getD 0 .dead).row))] (dno E 45 [(.sl 0 [] (some (a5.1.off, a5.1.cnt))), (.i .i64 (1 : Int))] [(.live true false false 148 ((a5.2.getD 0 .dead).row))]) fun a11 =>
 bSh (.i .i64) (den E 46 [(.imm 10 ((((a11.2.getD 0 .dead).row).drop a5.1.off).take a5.1.cnt)), (.i .i64 (1 : Int))] []) fun a12 =>
 cond (decide (a12.toI < (0 : Int)))
 (some (.b false))
 (cond (!decide (a12.toI = a11.1.toI))
 (some (.b false))
 (bOwn (.agg [(.i .i64), (.i .i64), (.i .i64), (.so 0)]) [(.row true 148)] 0 (dno E 40 [(.agg [(.i .i64 x0_0), (.i .i64 x0_1), (.i .i64 x0_2), (.imm 10 x0_3)])] []) fun a13 =>
 bOwnF (.pr 0) [(.row true 148)] 0 (dno E 41 [(.agg [(.i .i64 ((a13.1.nth 0).toI)), (.i .i64 ((a13.1.nth 1).toI)), (.i .i64 ((a13.1.nth 2).toI)), (.imm 10 ((a13.2.getD 0 .dead).row))]), (.i .i64 x1)] []) fun a14 =>
 bSh .b (den E 42 [(.imm 10 ((((a14.2.getD 0 .dead).row).drop a14.1.off).take a14.1.cnt)), (.imm 10 ((a3.2.getD 0 .dead).row))] []) fun a15 =>
 cond (!a15.toB)
 (some (.b false))
 (bSh (.i .i64) (den E 46 [(.imm 10 ((((a11.2.getD 0 .dead).row).drop a5.1.off).take a5.1.cnt)), (.i .i64 (1 : Int))] []) fun a16 =>
 cond (decide (a16.toI < (0 : Int)))
 (some (.b false))
 (cond (!decide (a16.toI = a11.1.toI))
 (some (.b false))
 (some (.b true))))))))
 (some (.b false))))) := (den_eq ..).trans (by kernel_rfl)
end Go.Proofs.Ytcjfeglalmlkbaa.ITablesIn
