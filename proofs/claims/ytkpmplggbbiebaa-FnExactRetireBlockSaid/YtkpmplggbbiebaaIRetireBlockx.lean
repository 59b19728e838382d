/- Printed by a program of this work (wip/it/itp.py): what each function comes to. No condition. -/
import Derived.Test.YtkpmplggbbiebaaIRetireBlockt
namespace Go.Proofs.Ytkpmplggbbiebaa.IRetireBlock
open Go Go.Proofs.YtkpmplggbbiebaaIT
set_option linter.unusedVariables false
/-! 36: loop.example/g00905/laws.szInt64S -/
theorem f36_eq (x0 : List AV) (x1 : Int) : den E 36 [(.imm 1 x0), (.i .i64 x1)] [] =
 cond (decide ((IntKind.i64.wrap (x1 - ((x0.length : Nat) : Int))) < (0 : Int)))
 (some (.i .i64 (-1 : Int)))
 (some (.i .i64 (IntKind.i64.wrap (x1 - ((x0.length : Nat) : Int))))) := (den_eq ..).trans (by kernel_rfl)
/-! 26: loop.example/g00905/laws.szBadTable -/
theorem f26_eq (x0_0 : Int) (x0_1 : Int) (x0_2 : Int) (x0_3 : Int) (x0_4 : List AV) (x0_5 : List AV) (x1 : Int) : den E 26 [(.agg [(.i .i64 x0_0), (.i .i64 x0_1), (.i .i64 x0_2), (.i .i64 x0_3), (.imm 1 x0_4), (.imm 1 x0_5)]), (.i .i64 x1)] [] =
 bSh (.i .i64) (den E 36 [(.imm 1 x0_4), (.i .i64 x1)] []) fun a1 =>
 cond (decide (a1.toI < (0 : Int)))
 (some (.i .i64 (-1 : Int)))
 (bSh (.i .i64) (den E 36 [(.imm 1 x0_5), (.i .i64 a1.toI)] []) fun a2 =>
 cond (decide (a2.toI < (0 : Int)))
 (some (.i .i64 (-1 : Int)))
 (some (.i .i64 a2.toI))) := (den_eq ..).trans (by kernel_rfl)
/-! 77: loop.example/g00905/laws.toGeometry -/
theorem f77_eq (x0_0 : Int) (x0_1 : Int) (x0_2 : Int) : den E 77 [(.agg [(.i .i64 x0_0), (.i .i64 x0_1), (.i .i64 x0_2)])] [] =
 some (.agg [(.i .i64 x0_0), (.i .i64 x0_1), (.i .i64 x0_2)]) := (den_eq ..).trans (by kernel_rfl)
/-! 44: loop.example/g00905/laws.toInt64S -/
noncomputable def f44o1_l1 (t0 : List AV) (t4 : Int) (r0 : List AV) (r1 : List AV) : Option (AV × List Root) := LpO E fi44 [(3, [0, 3, 4], 2)] 0 (.so 0) [true, true, false, true, false] (mkT 22 [(0, (.imm 1 t0)), (3, (.sl 1 [] none)), (4, (.i .i64 t4))]) [(.live true false false 2 r0), (.live true false false 2 r1)]
theorem f44o1_eq (x0 : List AV) : dno E 44 [(.imm 1 x0)] [] =
 if 0 ≤ ((x0.length : Nat) : Int) ∧ ((x0.length : Nat) : Int) ≤ ((x0.length : Nat) : Int) ∧ ((x0.length : Nat) : Int) * ((8 : Nat) : Int) ≤ ((room : Nat) : Int) ∧ ((x0.length : Nat) : Int) ≤ 9223372036854775807 then
 f44o1_l1 x0 (0 : Int) [] (List.replicate ((x0.length : Nat) : Int).toNat (.i .i64 (0 : Int)))
 else none := (dno_eq ..).trans (by kernel_rfl)
theorem f44o1_l1_eq (t0 : List AV) (t4 : Int) (r0 : List AV) (r1 : List AV) : f44o1_l1 t0 t4 r0 r1 =
 cond (decide (t4 < ((t0.length : Nat) : Int)))
 (if 0 ≤ t4 ∧ t4 < ((t0.length : Nat) : Int) then
 if okCells false (t0.getD t4.toNat .x) 0 [(.i .i64)] = true then
 if 0 ≤ t4 ∧ t4 < ((r1.length : Nat) : Int) then
 f44o1_l1 t0 (IntKind.i64.wrap (t4 + (1 : Int))) r0 (r1.set (0 + t4.toNat) ((r1.getD (0 + t4.toNat) .x).putCells 0 [(.i .i64 (((t0.getD t4.toNat .x).cells.getD 0 .x).toI))]))
 else none
 else none
 else none)
 (some ((.sl 0 [] none), [(.live true false false 2 r1)])) := (LpO_eq ..).trans (by kernel_rfl)
/-! 28: loop.example/g00905/laws.toBadTable -/
theorem f28o1_eq (x0_0 : Int) (x0_1 : Int) (x0_2 : Int) (x0_3 : Int) (x0_4 : List AV) (x0_5 : List AV) : dno E 28 [(.agg [(.i .i64 x0_0), (.i .i64 x0_1), (.i .i64 x0_2), (.i .i64 x0_3), (.imm 1 x0_4), (.imm 1 x0_5)])] [] =
 bSh (.agg [(.i .i64), (.i .i64), (.i .i64)]) (den E 77 [(.agg [(.i .i64 x0_0), (.i .i64 x0_1), (.i .i64 x0_2)])] []) fun a1 =>
 bOwn (.so 0) [(.row true 2)] 0 (dno E 44 [(.imm 1 x0_4)] []) fun a2 =>
 bOwn (.so 0) [(.row true 2)] 0 (dno E 44 [(.imm 1 x0_5)] []) fun a3 =>
 some ((.agg [(.i .i64 ((a1.nth 0).toI)), (.i .i64 ((a1.nth 1).toI)), (.i .i64 ((a1.nth 2).toI)), (.i .i64 x0_3), (.sl 0 [] none), (.sl 1 [] none)]), [(.live true false false 2 ((a2.2.getD 0 .dead).row)), (.live true false false 2 ((a3.2.getD 0 .dead).row))]) := (dno_eq ..).trans (by kernel_rfl)
/-! 70: loop.example/g00905/spec.l00In -/
theorem f70_eq (x0 : Int) (x1 : Int) (x2 : Int) : den E 70 [(.i .i64 x0), (.i .i64 x1), (.i .i64 x2)] [] =
 cond ((decide (x1 ≤ x0)) == true)
 (some (.b (decide (x0 ≤ x2))))
 (some (.b false)) := (den_eq ..).trans (by kernel_rfl)
/-! 156: loop.example/g00905/spec.ValidGeometry -/
theorem f156_eq (x0_0 : Int) (x0_1 : Int) (x0_2 : Int) : den E 156 [(.agg [(.i .i64 x0_0), (.i .i64 x0_1), (.i .i64 x0_2)])] [] =
 bSh .b (den E 70 [(.i .i64 x0_0), (.i .i64 (2 : Int)), (.i .i64 (3 : Int))] []) fun a1 =>
 cond (a1.toB == true)
 (bSh .b (den E 70 [(.i .i64 x0_1), (.i .i64 (4 : Int)), (.i .i64 (12 : Int))] []) fun a2 =>
 cond (a2.toB == true)
 (cond ((decide (x0_2 = (8 : Int))) == false)
 (some (.b (decide (x0_2 = (16 : Int)))))
 (some (.b true)))
 (some (.b false)))
 (some (.b false)) := (den_eq ..).trans (by kernel_rfl)
/-! 71: loop.example/g00905/spec.l07Count -/
theorem f71_eq (x0_0 : Int) (x0_1 : Int) (x0_2 : Int) : den E 71 [(.agg [(.i .i64 x0_0), (.i .i64 x0_1), (.i .i64 x0_2)])] [] =
 some (.i .i64 (IntKind.i64.wrap (x0_0 * x0_1))) := (den_eq ..).trans (by kernel_rfl)
/-! 157: loop.example/g00905/spec.l00Rises -/
noncomputable def f157_l1 (t0 : List AV) (t1 : Int) (t2 : Int) (t7 : Int) : Option AV := Lp E fi157 [true, false, true, false] (mkT 38 [(0, (.imm 1 t0)), (1, (.i .i64 t1)), (2, (.i .i64 t2)), (7, (.i .i64 t7))]) []
noncomputable def f157_j2 (t0 : List AV) (t1 : Int) (t2 : Int) (t7 : Int) : Option AV := Jn E fi157 [true, false, true, false, false, true, true] (mkT 38 [(0, (.imm 1 t0)), (1, (.i .i64 t1)), (2, (.i .i64 t2)), (7, (.i .i64 t7))]) []
theorem f157_eq (x0 : List AV) (x1 : Int) (x2 : Int) : den E 157 [(.imm 1 x0), (.i .i64 x1), (.i .i64 x2)] [] =
 f157_l1 x0 x1 x2 (0 : Int) := (den_eq ..).trans (by kernel_rfl)
theorem f157_l1_eq (t0 : List AV) (t1 : Int) (t2 : Int) (t7 : Int) : f157_l1 t0 t1 t2 t7 =
 cond (decide (t7 < ((t0.length : Nat) : Int)))
 (if 0 ≤ t7 ∧ t7 < ((t0.length : Nat) : Int) then
 if okCells false (t0.getD t7.toNat .x) 0 [(.i .i64)] = true then
 bSh .b (den E 70 [(.i .i64 (((t0.getD t7.toNat .x).cells.getD 0 .x).toI)), (.i .i64 t1), (.i .i64 t2)] []) fun a1 =>
 cond ((!a1.toB) == false)
 (cond ((decide ((0 : Int) < t7)) == true)
 (if 0 ≤ (IntKind.i64.wrap (t7 - (1 : Int))) ∧ (IntKind.i64.wrap (t7 - (1 : Int))) < ((t0.length : Nat) : Int) then
 if okCells false (t0.getD (IntKind.i64.wrap (t7 - (1 : Int))).toNat .x) 0 [(.i .i64)] = true then
 if 0 ≤ t7 ∧ t7 < ((t0.length : Nat) : Int) then
 if okCells false (t0.getD t7.toNat .x) 0 [(.i .i64)] = true then
 cond (decide ((((t0.getD t7.toNat .x).cells.getD 0 .x).toI) ≤ (((t0.getD (IntKind.i64.wrap (t7 - (1 : Int))).toNat .x).cells.getD 0 .x).toI)))
 (some (.b false))
 (f157_j2 t0 t1 t2 t7)
 else none
 else none
 else none
 else none)
 (f157_j2 t0 t1 t2 t7))
 (some (.b false))
 else none
 else none)
 (some (.b true)) := (Lp_eq ..).trans (by kernel_rfl)
theorem f157_j2_eq (t0 : List AV) (t1 : Int) (t2 : Int) (t7 : Int) : f157_j2 t0 t1 t2 t7 =
 f157_l1 t0 t1 t2 (IntKind.i64.wrap (t7 + (1 : Int))) := by kernel_rfl
/-! 115: loop.example/g00905/spec.l07Shape -/
theorem f115_eq (x0_0 : Int) (x0_1 : Int) (x0_2 : Int) (x0_3 : Int) (x0_4 : List AV) (x0_5 : List AV) : den E 115 [(.agg [(.i .i64 x0_0), (.i .i64 x0_1), (.i .i64 x0_2), (.i .i64 x0_3), (.imm 1 x0_4), (.imm 1 x0_5)])] [] =
 bSh .b (den E 156 [(.agg [(.i .i64 x0_0), (.i .i64 x0_1), (.i .i64 x0_2)])] []) fun a1 =>
 cond (a1.toB == true)
 (bSh .b (den E 70 [(.i .i64 x0_3), (.i .i64 (1 : Int)), (.i .i64 (4 : Int))] []) fun a2 =>
 cond (a2.toB == true)
 (cond ((decide (x0_3 < (IntKind.i64.wrap (x0_1 - (1 : Int))))) == true)
 (bSh (.i .i64) (den E 71 [(.agg [(.i .i64 x0_0), (.i .i64 x0_1), (.i .i64 x0_2)])] []) fun a3 =>
 bSh .b (den E 157 [(.imm 1 x0_4), (.i .i64 (0 : Int)), (.i .i64 (IntKind.i64.wrap (a3.toI - (1 : Int))))] []) fun a4 =>
 some (.b a4.toB))
 (some (.b false)))
 (some (.b false)))
 (some (.b false)) := (den_eq ..).trans (by kernel_rfl)
/-! 116: loop.example/g00905/spec.l07Home -/
theorem f116_eq (x0_0 : Int) (x0_1 : Int) (x0_2 : Int) (x0_3 : Int) (x0_4 : List AV) (x0_5 : List AV) (x1 : Int) : den E 116 [(.agg [(.i .i64 x0_0), (.i .i64 x0_1), (.i .i64 x0_2), (.i .i64 x0_3), (.imm 1 x0_4), (.imm 1 x0_5)]), (.i .i64 x1)] [] =
 if (IntKind.i64.wrap (x0_1 - x0_3)) = 0 then none else
 if (IntKind.i64.wrap (x0_1 - x0_3)) = 0 then none else
 some (.i .i64 (IntKind.i64.wrap ((IntKind.i64.wrap ((IntKind.i64.wrap (x1.tdiv (IntKind.i64.wrap (x0_1 - x0_3)))) * x0_1)) + (x1.tmod (IntKind.i64.wrap (x0_1 - x0_3)))))) := (den_eq ..).trans (by kernel_rfl)
/-! 72: loop.example/g00905/spec.l00Has -/
noncomputable def f72_l1 (t0 : List AV) (t1 : Int) (t5 : Int) : Option AV := Lp E fi72 [true, false, true, false] (mkT 18 [(0, (.imm 1 t0)), (1, (.i .i64 t1)), (5, (.i .i64 t5))]) []
theorem f72_eq (x0 : List AV) (x1 : Int) : den E 72 [(.imm 1 x0), (.i .i64 x1)] [] =
 f72_l1 x0 x1 (0 : Int) := (den_eq ..).trans (by kernel_rfl)
theorem f72_l1_eq (t0 : List AV) (t1 : Int) (t5 : Int) : f72_l1 t0 t1 t5 =
 cond (decide (t5 < ((t0.length : Nat) : Int)))
 (if 0 ≤ t5 ∧ t5 < ((t0.length : Nat) : Int) then
 if okCells false (t0.getD t5.toNat .x) 0 [(.i .i64)] = true then
 cond (decide ((((t0.getD t5.toNat .x).cells.getD 0 .x).toI) = t1))
 (some (.b true))
 (f72_l1 t0 t1 (IntKind.i64.wrap (t5 + (1 : Int))))
 else none
 else none)
 (some (.b false)) := (Lp_eq ..).trans (by kernel_rfl)
/-! 117: loop.example/g00905/spec.l07SpareOf -/
theorem f117_eq (x0_0 : Int) (x0_1 : Int) (x0_2 : Int) (x0_3 : Int) (x0_4 : List AV) (x0_5 : List AV) (x1 : Int) (x2 : Int) : den E 117 [(.agg [(.i .i64 x0_0), (.i .i64 x0_1), (.i .i64 x0_2), (.i .i64 x0_3), (.imm 1 x0_4), (.imm 1 x0_5)]), (.i .i64 x1), (.i .i64 x2)] [] =
 bSh .b (den E 70 [(.i .i64 x2), (.i .i64 (IntKind.i64.wrap ((IntKind.i64.wrap ((IntKind.i64.wrap (x1 + (1 : Int))) * x0_1)) - x0_3))), (.i .i64 (IntKind.i64.wrap ((IntKind.i64.wrap ((IntKind.i64.wrap (x1 + (1 : Int))) * x0_1)) - (1 : Int))))] []) fun a1 =>
 some (.b a1.toB) := (den_eq ..).trans (by kernel_rfl)
/-! 69: loop.example/g00905/spec.ValidBadTable -/
noncomputable def f69_l1 (t3 : Int) (r0_0 : Int) (r0_1 : Int) (r0_2 : Int) (r0_3 : Int) (r0_4 : List AV) (r0_5 : List AV) : Option AV := Lp E fi69 [true, true, false, true, false] (mkT 72 [(1, (.pt 0 [] 0 0)), (3, (.i .i64 t3))]) [(.live false true false 79 [(.agg [(.i .i64 r0_0), (.i .i64 r0_1), (.i .i64 r0_2), (.i .i64 r0_3), (.imm 1 r0_4), (.imm 1 r0_5)])])]
noncomputable def f69_j2 (t3 : Int) (r0_0 : Int) (r0_1 : Int) (r0_2 : Int) (r0_3 : Int) (r0_4 : List AV) (r0_5 : List AV) : Option AV := Jn E fi69 [true, true, false, true, false, false, true, true] (mkT 72 [(1, (.pt 0 [] 0 0)), (3, (.i .i64 t3))]) [(.live false true false 79 [(.agg [(.i .i64 r0_0), (.i .i64 r0_1), (.i .i64 r0_2), (.i .i64 r0_3), (.imm 1 r0_4), (.imm 1 r0_5)])])]
theorem f69_eq (x0_0 : Int) (x0_1 : Int) (x0_2 : Int) (x0_3 : Int) (x0_4 : List AV) (x0_5 : List AV) : den E 69 [(.agg [(.i .i64 x0_0), (.i .i64 x0_1), (.i .i64 x0_2), (.i .i64 x0_3), (.imm 1 x0_4), (.imm 1 x0_5)])] [] =
 bSh .b (den E 115 [(.agg [(.i .i64 x0_0), (.i .i64 x0_1), (.i .i64 x0_2), (.i .i64 x0_3), (.imm 1 x0_4), (.imm 1 x0_5)])] []) fun a1 =>
 cond ((!a1.toB) == false)
 (cond (!decide (((x0_5.length : Nat) : Int) = (IntKind.i64.wrap (x0_0 * (IntKind.i64.wrap (x0_1 - x0_3))))))
 (some (.b false))
 (f69_l1 (0 : Int) x0_0 x0_1 x0_2 x0_3 x0_4 x0_5))
 (some (.b false)) := (den_eq ..).trans (by kernel_rfl)
theorem f69_l1_eq (t3 : Int) (r0_0 : Int) (r0_1 : Int) (r0_2 : Int) (r0_3 : Int) (r0_4 : List AV) (r0_5 : List AV) : f69_l1 t3 r0_0 r0_1 r0_2 r0_3 r0_4 r0_5 =
 cond (decide (t3 < ((r0_5.length : Nat) : Int)))
 (bSh (.i .i64) (den E 116 [(.agg [(.i .i64 r0_0), (.i .i64 r0_1), (.i .i64 r0_2), (.i .i64 r0_3), (.imm 1 r0_4), (.imm 1 r0_5)]), (.i .i64 t3)] []) fun a1 =>
 if 0 ≤ t3 ∧ t3 < ((r0_5.length : Nat) : Int) then
 if okCells false (r0_5.getD t3.toNat .x) 0 [(.i .i64)] = true then
 bSh .b (den E 72 [(.imm 1 r0_4), (.i .i64 (((r0_5.getD t3.toNat .x).cells.getD 0 .x).toI))] []) fun a2 =>
 cond (a2.toB == false)
 (if 0 ≤ (0 : Int) ∧ (0 : Int) ≤ t3 ∧ t3 ≤ ((r0_5.length : Nat) : Int) then
 bSh .b (den E 72 [(.imm 1 (r0_5.take t3.toNat)), (.i .i64 (((r0_5.getD t3.toNat .x).cells.getD 0 .x).toI))] []) fun a3 =>
 cond a3.toB
 (some (.b false))
 (cond ((!decide ((((r0_5.getD t3.toNat .x).cells.getD 0 .x).toI) = a1.toI)) == true)
 (if r0_1 = 0 then none else
 bSh .b (den E 117 [(.agg [(.i .i64 r0_0), (.i .i64 r0_1), (.i .i64 r0_2), (.i .i64 r0_3), (.imm 1 r0_4), (.imm 1 r0_5)]), (.i .i64 (IntKind.i64.wrap (a1.toI.tdiv r0_1))), (.i .i64 (((r0_5.getD t3.toNat .x).cells.getD 0 .x).toI))] []) fun a4 =>
 cond (a4.toB == true)
 (bSh .b (den E 72 [(.imm 1 r0_4), (.i .i64 a1.toI)] []) fun a5 =>
 cond (!a5.toB)
 (some (.b false))
 (f69_j2 t3 r0_0 r0_1 r0_2 r0_3 r0_4 r0_5))
 (some (.b false)))
 (f69_j2 t3 r0_0 r0_1 r0_2 r0_3 r0_4 r0_5))
 else none)
 (some (.b false))
 else none
 else none)
 (some (.b true)) := (Lp_eq ..).trans (by kernel_rfl)
theorem f69_j2_eq (t3 : Int) (r0_0 : Int) (r0_1 : Int) (r0_2 : Int) (r0_3 : Int) (r0_4 : List AV) (r0_5 : List AV) : f69_j2 t3 r0_0 r0_1 r0_2 r0_3 r0_4 r0_5 =
 f69_l1 (IntKind.i64.wrap (t3 + (1 : Int))) r0_0 r0_1 r0_2 r0_3 r0_4 r0_5 := by kernel_rfl
/-! 118: loop.example/g00905/spec.l00Own -/
theorem f118o1_eq (x0 : List AV) : dno E 118 [(.imm 1 x0)] [] =
 if x0.length * 8 ≤ room then
 some ((.sl 0 [] none), [(.live true false false 2 x0)])
 else none := (dno_eq ..).trans (by kernel_rfl)
/-! 73: loop.example/g00905/spec.l07Own -/
theorem f73o1_eq (x0_0 : Int) (x0_1 : Int) (x0_2 : Int) (x0_3 : Int) (x0_4 : List AV) (x0_5 : List AV) : dno E 73 [(.agg [(.i .i64 x0_0), (.i .i64 x0_1), (.i .i64 x0_2), (.i .i64 x0_3), (.imm 1 x0_4), (.imm 1 x0_5)])] [] =
 bOwn (.so 0) [(.row true 2)] 0 (dno E 118 [(.imm 1 x0_4)] []) fun a1 =>
 bOwn (.so 0) [(.row true 2)] 0 (dno E 118 [(.imm 1 x0_5)] []) fun a2 =>
 some ((.agg [(.i .i64 x0_0), (.i .i64 x0_1), (.i .i64 x0_2), (.i .i64 x0_3), (.sl 0 [] none), (.sl 1 [] none)]), [(.live true false false 2 ((a1.2.getD 0 .dead).row)), (.live true false false 2 ((a2.2.getD 0 .dead).row))]) := (dno_eq ..).trans (by kernel_rfl)
/-! 74: loop.example/g00905/spec.l00Put -/
noncomputable def f74o1_l1 (t0 : List AV) (t1 : Int) (t6 : Bool) (t7 : Int) (r0 : List AV) (r1 : List AV) : Option (AV × List Root) := LpO E fi74 [(4, [0, 1, 5, 6, 7], 2), (10, [0, 1, 5, 6, 7], 2), (13, [5], 2)] 0 (.so 0) [true, true, true, false, true, false] (mkT 49 [(0, (.imm 1 t0)), (1, (.i .i64 t1)), (5, (.sl 1 [] none)), (6, (.b t6)), (7, (.i .i64 t7))]) [(.live true false false 2 r0), (.live true false false 2 r1)]
noncomputable def f74o1_j2 (t0 : List AV) (t1 : Int) (t6 : Bool) (t7 : Int) (r0 : List AV) (r1 : List AV) : Option (AV × List Root) := JnO E fi74 [(4, [0, 1, 5, 6, 7], 2), (10, [0, 1, 5, 6, 7], 2), (13, [5], 2)] 0 (.so 0) [true, true, true, false, true, false, false, true, false, false, true] (mkT 49 [(0, (.imm 1 t0)), (1, (.i .i64 t1)), (5, (.sl 1 [] none)), (6, (.b t6)), (7, (.i .i64 t7))]) [(.live true false false 2 r0), (.live true false false 2 r1)]
noncomputable def f74o1_j3 (r0 : List AV) (r1 : List AV) : Option (AV × List Root) := JnO E fi74 [(4, [0, 1, 5, 6, 7], 2), (10, [0, 1, 5, 6, 7], 2), (13, [5], 2)] 0 (.so 0) [true, true, true, true, true] (mkT 49 [(5, (.sl 1 [] none))]) [(.live true false false 2 r0), (.live true false false 2 r1)]
theorem f74o1_eq (x0 : List AV) (x1 : Int) : dno E 74 [(.imm 1 x0), (.i .i64 x1)] [] =
 f74o1_l1 x0 x1 false (0 : Int) [] [] := (dno_eq ..).trans (by kernel_rfl)
theorem f74o1_l1_eq (t0 : List AV) (t1 : Int) (t6 : Bool) (t7 : Int) (r0 : List AV) (r1 : List AV) : f74o1_l1 t0 t1 t6 t7 r0 r1 =
 cond (decide (t7 < ((t0.length : Nat) : Int)))
 (cond ((!t6) == true)
 (if 0 ≤ t7 ∧ t7 < ((t0.length : Nat) : Int) then
 if okCells false (t0.getD t7.toNat .x) 0 [(.i .i64)] = true then
 cond (decide (t1 ≤ (((t0.getD t7.toNat .x).cells.getD 0 .x).toI)))
 (if 0 ≤ t7 ∧ t7 < ((t0.length : Nat) : Int) then
 if okCells false (t0.getD t7.toNat .x) 0 [(.i .i64)] = true then
 cond (decide (t1 < (((t0.getD t7.toNat .x).cells.getD 0 .x).toI)))
 (if (r1.length + ([(.i .i64 t1)] : List AV).length) * 8 ≤ room then
 f74o1_j2 t0 t1 true t7 r0 (r1 ++ [(.i .i64 t1)])
 else none)
 (f74o1_j2 t0 t1 true t7 r0 r1)
 else none
 else none)
 (f74o1_j2 t0 t1 t6 t7 r0 r1)
 else none
 else none)
 (f74o1_j2 t0 t1 t6 t7 r0 r1))
 (cond (!t6)
 (if (r1.length + ([(.i .i64 t1)] : List AV).length) * 8 ≤ room then
 f74o1_j3 r0 (r1 ++ [(.i .i64 t1)])
 else none)
 (f74o1_j3 r0 r1)) := (LpO_eq ..).trans (by kernel_rfl)
theorem f74o1_j2_eq (t0 : List AV) (t1 : Int) (t6 : Bool) (t7 : Int) (r0 : List AV) (r1 : List AV) : f74o1_j2 t0 t1 t6 t7 r0 r1 =
 if 0 ≤ t7 ∧ t7 < ((t0.length : Nat) : Int) then
 if okCells false (t0.getD t7.toNat .x) 0 [(.i .i64)] = true then
 if (r1.length + ([(.i .i64 (((t0.getD t7.toNat .x).cells.getD 0 .x).toI))] : List AV).length) * 8 ≤ room then
 f74o1_l1 t0 t1 t6 (IntKind.i64.wrap (t7 + (1 : Int))) r0 (r1 ++ [(.i .i64 (((t0.getD t7.toNat .x).cells.getD 0 .x).toI))])
 else none
 else none
 else none := by kernel_rfl
theorem f74o1_j3_eq (r0 : List AV) (r1 : List AV) : f74o1_j3 r0 r1 =
 some ((.sl 0 [] none), [(.live true false false 2 r1)]) := by kernel_rfl
/-! 75: loop.example/g00905/spec.l07Holder -/
noncomputable def f75_l1 (t1 : Int) (t5 : Int) (r0_0 : Int) (r0_1 : Int) (r0_2 : Int) (r0_3 : Int) (r0_4 : List AV) (r0_5 : List AV) : Option AV := Lp E fi75 [true, false, true, false] (mkT 21 [(1, (.i .i64 t1)), (2, (.pt 0 [] 0 0)), (5, (.i .i64 t5))]) [(.live false true false 79 [(.agg [(.i .i64 r0_0), (.i .i64 r0_1), (.i .i64 r0_2), (.i .i64 r0_3), (.imm 1 r0_4), (.imm 1 r0_5)])])]
theorem f75_eq (x0_0 : Int) (x0_1 : Int) (x0_2 : Int) (x0_3 : Int) (x0_4 : List AV) (x0_5 : List AV) (x1 : Int) : den E 75 [(.agg [(.i .i64 x0_0), (.i .i64 x0_1), (.i .i64 x0_2), (.i .i64 x0_3), (.imm 1 x0_4), (.imm 1 x0_5)]), (.i .i64 x1)] [] =
 f75_l1 x1 (0 : Int) x0_0 x0_1 x0_2 x0_3 x0_4 x0_5 := (den_eq ..).trans (by kernel_rfl)
theorem f75_l1_eq (t1 : Int) (t5 : Int) (r0_0 : Int) (r0_1 : Int) (r0_2 : Int) (r0_3 : Int) (r0_4 : List AV) (r0_5 : List AV) : f75_l1 t1 t5 r0_0 r0_1 r0_2 r0_3 r0_4 r0_5 =
 cond (decide (t5 < ((r0_5.length : Nat) : Int)))
 (if 0 ≤ t5 ∧ t5 < ((r0_5.length : Nat) : Int) then
 if okCells false (r0_5.getD t5.toNat .x) 0 [(.i .i64)] = true then
 cond (decide ((((r0_5.getD t5.toNat .x).cells.getD 0 .x).toI) = t1))
 (some (.i .i64 t5))
 (f75_l1 t1 (IntKind.i64.wrap (t5 + (1 : Int))) r0_0 r0_1 r0_2 r0_3 r0_4 r0_5)
 else none
 else none)
 (some (.i .i64 (-1 : Int))) := (Lp_eq ..).trans (by kernel_rfl)
/-! 76: loop.example/g00905/spec.l07Available -/
noncomputable def f76o1_l1 (t1 : Int) (t6 : Int) (r0_0 : Int) (r0_1 : Int) (r0_2 : Int) (r0_3 : Int) (r0_4 : List AV) (r0_5 : List AV) (r1 : List AV) (r2 : List AV) : Option (AV × List Root) := LpO E fi76 [(3, [1, 2, 5, 6], 3), (4, [1, 2, 5, 6], 3)] 0 (.so 0) [true, true, false, true, false] (mkT 44 [(1, (.i .i64 t1)), (2, (.pt 0 [] 0 0)), (5, (.sl 2 [] none)), (6, (.i .i64 t6))]) [(.live false true false 79 [(.agg [(.i .i64 r0_0), (.i .i64 r0_1), (.i .i64 r0_2), (.i .i64 r0_3), (.imm 1 r0_4), (.imm 1 r0_5)])]), (.live true false false 2 r1), (.live true false false 2 r2)]
noncomputable def f76o1_j2 (t1 : Int) (t6 : Int) (r0_0 : Int) (r0_1 : Int) (r0_2 : Int) (r0_3 : Int) (r0_4 : List AV) (r0_5 : List AV) (r1 : List AV) (r2 : List AV) : Option (AV × List Root) := JnO E fi76 [(3, [1, 2, 5, 6], 3), (4, [1, 2, 5, 6], 3)] 0 (.so 0) [true, true, false, true, false, false, true, true] (mkT 44 [(1, (.i .i64 t1)), (2, (.pt 0 [] 0 0)), (5, (.sl 2 [] none)), (6, (.i .i64 t6))]) [(.live false true false 79 [(.agg [(.i .i64 r0_0), (.i .i64 r0_1), (.i .i64 r0_2), (.i .i64 r0_3), (.imm 1 r0_4), (.imm 1 r0_5)])]), (.live true false false 2 r1), (.live true false false 2 r2)]
theorem f76o1_eq (x0_0 : Int) (x0_1 : Int) (x0_2 : Int) (x0_3 : Int) (x0_4 : List AV) (x0_5 : List AV) (x1 : Int) : dno E 76 [(.agg [(.i .i64 x0_0), (.i .i64 x0_1), (.i .i64 x0_2), (.i .i64 x0_3), (.imm 1 x0_4), (.imm 1 x0_5)]), (.i .i64 x1)] [] =
 f76o1_l1 x1 (IntKind.i64.wrap ((IntKind.i64.wrap ((IntKind.i64.wrap (x1 + (1 : Int))) * x0_1)) - x0_3)) x0_0 x0_1 x0_2 x0_3 x0_4 x0_5 [] [] := (dno_eq ..).trans (by kernel_rfl)
theorem f76o1_l1_eq (t1 : Int) (t6 : Int) (r0_0 : Int) (r0_1 : Int) (r0_2 : Int) (r0_3 : Int) (r0_4 : List AV) (r0_5 : List AV) (r1 : List AV) (r2 : List AV) : f76o1_l1 t1 t6 r0_0 r0_1 r0_2 r0_3 r0_4 r0_5 r1 r2 =
 cond (decide (t6 < (IntKind.i64.wrap ((IntKind.i64.wrap (t1 + (1 : Int))) * r0_1))))
 (bSh .b (den E 72 [(.imm 1 r0_4), (.i .i64 t6)] []) fun a1 =>
 cond ((!a1.toB) == true)
 (bSh .b (den E 72 [(.imm 1 r0_5), (.i .i64 t6)] []) fun a2 =>
 cond (!a2.toB)
 (if (r2.length + ([(.i .i64 t6)] : List AV).length) * 8 ≤ room then
 f76o1_j2 t1 t6 r0_0 r0_1 r0_2 r0_3 r0_4 r0_5 r1 (r2 ++ [(.i .i64 t6)])
 else none)
 (f76o1_j2 t1 t6 r0_0 r0_1 r0_2 r0_3 r0_4 r0_5 r1 r2))
 (f76o1_j2 t1 t6 r0_0 r0_1 r0_2 r0_3 r0_4 r0_5 r1 r2))
 (some ((.sl 0 [] none), [(.live true false false 2 r2)])) := (LpO_eq ..).trans (by kernel_rfl)
theorem f76o1_j2_eq (t1 : Int) (t6 : Int) (r0_0 : Int) (r0_1 : Int) (r0_2 : Int) (r0_3 : Int) (r0_4 : List AV) (r0_5 : List AV) (r1 : List AV) (r2 : List AV) : f76o1_j2 t1 t6 r0_0 r0_1 r0_2 r0_3 r0_4 r0_5 r1 r2 =
 f76o1_l1 t1 (IntKind.i64.wrap (t6 + (1 : Int))) r0_0 r0_1 r0_2 r0_3 r0_4 r0_5 r1 r2 := by kernel_rfl
/-! 27: loop.example/g00905/spec.RetireBlock -/
theorem f27o1_eq (x0_0 : Int) (x0_1 : Int) (x0_2 : Int) (x0_3 : Int) (x0_4 : List AV) (x0_5 : List AV) (x1 : Int) : dno E 27 [(.agg [(.i .i64 x0_0), (.i .i64 x0_1), (.i .i64 x0_2), (.i .i64 x0_3), (.imm 1 x0_4), (.imm 1 x0_5)]), (.i .i64 x1)] [] =
 bSh .b (den E 69 [(.agg [(.i .i64 x0_0), (.i .i64 x0_1), (.i .i64 x0_2), (.i .i64 x0_3), (.imm 1 x0_4), (.imm 1 x0_5)])] []) fun a1 =>
 cond (!a1.toB)
 (some ((.tup [(.agg [(.i .i64 (0 : Int)), (.i .i64 (0 : Int)), (.i .i64 (0 : Int)), (.i .i64 (0 : Int)), (.sl 0 [] none), (.sl 1 [] none)]), (.i .i64 (1 : Int))]), [(.live true false false 2 []), (.live true false false 2 [])]))
 (bSh (.i .i64) (den E 71 [(.agg [(.i .i64 x0_0), (.i .i64 x0_1), (.i .i64 x0_2)])] []) fun a2 =>
 bSh .b (den E 70 [(.i .i64 x1), (.i .i64 (0 : Int)), (.i .i64 (IntKind.i64.wrap (a2.toI - (1 : Int))))] []) fun a3 =>
 cond (!a3.toB)
 (some ((.tup [(.agg [(.i .i64 (0 : Int)), (.i .i64 (0 : Int)), (.i .i64 (0 : Int)), (.i .i64 (0 : Int)), (.sl 0 [] none), (.sl 1 [] none)]), (.i .i64 (2 : Int))]), [(.live true false false 2 []), (.live true false false 2 [])]))
 (bSh .b (den E 72 [(.imm 1 x0_4), (.i .i64 x1)] []) fun a4 =>
 cond a4.toB
 (some ((.tup [(.agg [(.i .i64 (0 : Int)), (.i .i64 (0 : Int)), (.i .i64 (0 : Int)), (.i .i64 (0 : Int)), (.sl 0 [] none), (.sl 1 [] none)]), (.i .i64 (5 : Int))]), [(.live true false false 2 []), (.live true false false 2 [])]))
 (bOwn (.agg [(.i .i64), (.i .i64), (.i .i64), (.i .i64), (.so 0), (.so 1)]) [(.row true 2), (.row true 2)] 0 (dno E 73 [(.agg [(.i .i64 x0_0), (.i .i64 x0_1), (.i .i64 x0_2), (.i .i64 x0_3), (.imm 1 x0_4), (.imm 1 x0_5)])] []) fun a5 =>
 bOwnF (.so 0) [(.row true 2)] 0 (dno E 74 [(.imm 1 ((a5.2.getD 0 .dead).row)), (.i .i64 x1)] []) fun a6 =>
 bSh (.i .i64) (den E 75 [(.agg [(.i .i64 x0_0), (.i .i64 x0_1), (.i .i64 x0_2), (.i .i64 x0_3), (.imm 1 x0_4), (.imm 1 x0_5)]), (.i .i64 x1)] []) fun a7 =>
 cond (decide (a7.toI < (0 : Int)))
 (some ((.tup [(.agg [(.i .i64 ((a5.1.nth 0).toI)), (.i .i64 ((a5.1.nth 1).toI)), (.i .i64 ((a5.1.nth 2).toI)), (.i .i64 ((a5.1.nth 3).toI)), (.sl 0 [] none), (.sl 1 [] none)]), (.i .i64 (0 : Int))]), [(.live true false false 2 ((a6.2.getD 0 .dead).row)), (.live true false false 2 ((a5.2.getD 1 .dead).row))]))
 (if x0_1 = 0 then none else
 bOwnF (.so 0) [(.row true 2)] 0 (dno E 76 [(.agg [(.i .i64 ((a5.1.nth 0).toI)), (.i .i64 ((a5.1.nth 1).toI)), (.i .i64 ((a5.1.nth 2).toI)), (.i .i64 ((a5.1.nth 3).toI)), (.imm 1 ((a6.2.getD 0 .dead).row)), (.imm 1 ((a5.2.getD 1 .dead).row))]), (.i .i64 (IntKind.i64.wrap (x1.tdiv x0_1)))] []) fun a8 =>
 cond (decide (((((a8.2.getD 0 .dead).row).length : Nat) : Int) = (0 : Int)))
 (some ((.tup [(.agg [(.i .i64 (0 : Int)), (.i .i64 (0 : Int)), (.i .i64 (0 : Int)), (.i .i64 (0 : Int)), (.sl 0 [] none), (.sl 1 [] none)]), (.i .i64 (4 : Int))]), [(.live true false false 2 []), (.live true false false 2 [])]))
 (if 0 ≤ (0 : Int) ∧ (0 : Int) < ((((a8.2.getD 0 .dead).row).length : Nat) : Int) then
 if okCells false (((a8.2.getD 0 .dead).row).getD (0 + (0 : Int).toNat) .x) 0 [(.i .i64)] = true then
 if 0 ≤ a7.toI ∧ a7.toI < ((((a5.2.getD 1 .dead).row).length : Nat) : Int) then
 some ((.tup [(.agg [(.i .i64 ((a5.1.nth 0).toI)), (.i .i64 ((a5.1.nth 1).toI)), (.i .i64 ((a5.1.nth 2).toI)), (.i .i64 ((a5.1.nth 3).toI)), (.sl 0 [] none), (.sl 1 [] none)]), (.i .i64 (0 : Int))]), [(.live true false false 2 ((a6.2.getD 0 .dead).row)), (.live true false false 2 (((a5.2.getD 1 .dead).row).set (0 + a7.toI.toNat) ((((a5.2.getD 1 .dead).row).getD (0 + a7.toI.toNat) .x).putCells 0 [(.i .i64 (((((a8.2.getD 0 .dead).row).getD (0 + (0 : Int).toNat) .x).cells.getD 0 .x).toI))])))])
 else none
 else none
 else none))))) := (dno_eq ..).trans (by kernel_rfl)
/-! 79: loop.example/g00905/impl.within -/
theorem f79_eq (x0 : Int) (x1 : Int) (x2 : Int) : den E 79 [(.i .i64 x0), (.i .i64 x1), (.i .i64 x2)] [] =
 cond ((decide (x1 ≤ x0)) == true)
 (some (.b (decide (x0 ≤ x2))))
 (some (.b false)) := (den_eq ..).trans (by kernel_rfl)
/-! 119: loop.example/g00905/impl.ValidGeometry -/
theorem f119_eq (x0_0 : Int) (x0_1 : Int) (x0_2 : Int) : den E 119 [(.agg [(.i .i64 x0_0), (.i .i64 x0_1), (.i .i64 x0_2)])] [] =
 bSh .b (den E 79 [(.i .i64 x0_0), (.i .i64 (2 : Int)), (.i .i64 (3 : Int))] []) fun a1 =>
 cond (a1.toB == true)
 (bSh .b (den E 79 [(.i .i64 x0_1), (.i .i64 (4 : Int)), (.i .i64 (12 : Int))] []) fun a2 =>
 cond (a2.toB == true)
 (cond ((decide (x0_2 = (8 : Int))) == false)
 (some (.b (decide (x0_2 = (16 : Int)))))
 (some (.b true)))
 (some (.b false)))
 (some (.b false)) := (den_eq ..).trans (by kernel_rfl)
/-! 120: loop.example/g00905/impl.spareOk -/
theorem f120_eq (x0_0 : Int) (x0_1 : Int) (x0_2 : Int) (x1 : Int) : den E 120 [(.agg [(.i .i64 x0_0), (.i .i64 x0_1), (.i .i64 x0_2)]), (.i .i64 x1)] [] =
 bSh .b (den E 79 [(.i .i64 x1), (.i .i64 (1 : Int)), (.i .i64 (4 : Int))] []) fun a1 =>
 cond (a1.toB == true)
 (some (.b (decide (x1 < (IntKind.i64.wrap (x0_1 - (1 : Int)))))))
 (some (.b false)) := (den_eq ..).trans (by kernel_rfl)
/-! 158: loop.example/g00905/impl.increasing -/
noncomputable def f158_l1 (t0 : List AV) (t3 : Int) : Option AV := Lp E fi158 [true, false, true, false] (mkT 20 [(0, (.imm 1 t0)), (3, (.i .i64 t3))]) []
theorem f158_eq (x0 : List AV) : den E 158 [(.imm 1 x0)] [] =
 f158_l1 x0 (1 : Int) := (den_eq ..).trans (by kernel_rfl)
theorem f158_l1_eq (t0 : List AV) (t3 : Int) : f158_l1 t0 t3 =
 cond (decide (t3 < ((t0.length : Nat) : Int)))
 (if 0 ≤ t3 ∧ t3 < ((t0.length : Nat) : Int) then
 if okCells false (t0.getD t3.toNat .x) 0 [(.i .i64)] = true then
 if 0 ≤ (IntKind.i64.wrap (t3 - (1 : Int))) ∧ (IntKind.i64.wrap (t3 - (1 : Int))) < ((t0.length : Nat) : Int) then
 if okCells false (t0.getD (IntKind.i64.wrap (t3 - (1 : Int))).toNat .x) 0 [(.i .i64)] = true then
 cond (decide ((((t0.getD t3.toNat .x).cells.getD 0 .x).toI) ≤ (((t0.getD (IntKind.i64.wrap (t3 - (1 : Int))).toNat .x).cells.getD 0 .x).toI)))
 (some (.b false))
 (f158_l1 t0 (IntKind.i64.wrap (t3 + (1 : Int))))
 else none
 else none
 else none
 else none)
 (some (.b true)) := (Lp_eq ..).trans (by kernel_rfl)
/-! 80: (loop.example/g00905/impl.Geometry).all -/
theorem f80_eq (x0_0 : Int) (x0_1 : Int) (x0_2 : Int) : den E 80 [(.agg [(.i .i64 x0_0), (.i .i64 x0_1), (.i .i64 x0_2)])] [] =
 some (.i .i64 (IntKind.i64.wrap (x0_0 * x0_1))) := (den_eq ..).trans (by kernel_rfl)
/-! 183: loop.example/g00905/impl.allWithin$1 -/
theorem f183q1_eq (x0 : Int) (x1 : AV) (x2 : AV) : den E 183 [(.i .i64 x0), (.ip x1 0), (.ip x2 0)] [] =
 if okCells false x1 0 [(.i .i64)] = true then
 if okCells false x2 0 [(.i .i64)] = true then
 bSh .b (den E 79 [(.i .i64 x0), (.i .i64 ((x1.cells.getD 0 .x).toI)), (.i .i64 ((x2.cells.getD 0 .x).toI))] []) fun a1 =>
 some (.b (!a1.toB))
 else none
 else none := (den_eq ..).trans (by kernel_rfl)
/-! 184: slices.IndexFunc[[]int64,int64] -/
noncomputable def f184q1_l1 (t0 : List AV) (t1_0 : AV) (t1_1 : AV) (t7 : Int) (t8 : Int) : Option AV := Lp E fi184 [true, false, true, false] (mkT 19 [(0, (.imm 1 t0)), (1, (.fn 183 [(.ip t1_0 0), (.ip t1_1 0)])), (7, (.i .i64 t7)), (8, (.i .i64 t8))]) []
theorem f184q1_eq (x0 : List AV) (x1_0 : AV) (x1_1 : AV) : den E 184 [(.imm 1 x0), (.fn 183 [(.ip x1_0 0), (.ip x1_1 0)])] [] =
 f184q1_l1 x0 x1_0 x1_1 ((x0.length : Nat) : Int) (0 : Int) := (den_eq ..).trans (by kernel_rfl)
theorem f184q1_l1_eq (t0 : List AV) (t1_0 : AV) (t1_1 : AV) (t7 : Int) (t8 : Int) : f184q1_l1 t0 t1_0 t1_1 t7 t8 =
 cond (decide (t8 < t7))
 (if 0 ≤ t8 ∧ t8 < ((t0.length : Nat) : Int) then
 if okCells false (t0.getD t8.toNat .x) 0 [(.i .i64)] = true then
 bSh .b (den E 183 [(.i .i64 (((t0.getD t8.toNat .x).cells.getD 0 .x).toI)), (.ip t1_0 0), (.ip t1_1 0)] []) fun a1 =>
 cond a1.toB
 (some (.i .i64 t8))
 (f184q1_l1 t0 t1_0 t1_1 t7 (IntKind.i64.wrap (t8 + (1 : Int))))
 else none
 else none)
 (some (.i .i64 (-1 : Int))) := (Lp_eq ..).trans (by kernel_rfl)
/-! 182: slices.ContainsFunc[[]int64,int64] -/
theorem f182q1_eq (x0 : List AV) (x1_0 : AV) (x1_1 : AV) : den E 182 [(.imm 1 x0), (.fn 183 [(.ip x1_0 0), (.ip x1_1 0)])] [] =
 bSh (.i .i64) (den E 184 [(.imm 1 x0), (.fn 183 [(.ip x1_0 0), (.ip x1_1 0)])] []) fun a1 =>
 some (.b (decide ((0 : Int) ≤ a1.toI))) := (den_eq ..).trans (by kernel_rfl)
/-! 159: loop.example/g00905/impl.allWithin -/
theorem f159_eq (x0 : List AV) (x1 : Int) (x2 : Int) : den E 159 [(.imm 1 x0), (.i .i64 x1), (.i .i64 x2)] [] =
 bSh .b (den E 182 [(.imm 1 x0), (.fn 183 [(.ip (.i .i64 x1) 0), (.ip (.i .i64 x2) 0)])] []) fun a1 =>
 some (.b (!a1.toB)) := (den_eq ..).trans (by kernel_rfl)
/-! 121: loop.example/g00905/impl.blocksOk -/
theorem f121_eq (x0_0 : Int) (x0_1 : Int) (x0_2 : Int) (x1 : List AV) : den E 121 [(.agg [(.i .i64 x0_0), (.i .i64 x0_1), (.i .i64 x0_2)]), (.imm 1 x1)] [] =
 bSh .b (den E 158 [(.imm 1 x1)] []) fun a1 =>
 cond (a1.toB == true)
 (bSh (.i .i64) (den E 80 [(.agg [(.i .i64 x0_0), (.i .i64 x0_1), (.i .i64 x0_2)])] []) fun a2 =>
 bSh .b (den E 159 [(.imm 1 x1), (.i .i64 (0 : Int)), (.i .i64 (IntKind.i64.wrap (a2.toI - (1 : Int))))] []) fun a3 =>
 some (.b a3.toB))
 (some (.b false)) := (den_eq ..).trans (by kernel_rfl)
/-! 160: (loop.example/g00905/impl.BadTable).primary -/
theorem f160_eq (x0_0 : Int) (x0_1 : Int) (x0_2 : Int) (x0_3 : Int) (x0_4 : List AV) (x0_5 : List AV) : den E 160 [(.agg [(.i .i64 x0_0), (.i .i64 x0_1), (.i .i64 x0_2), (.i .i64 x0_3), (.imm 1 x0_4), (.imm 1 x0_5)])] [] =
 some (.i .i64 (IntKind.i64.wrap (x0_1 - x0_3))) := (den_eq ..).trans (by kernel_rfl)
/-! 122: (loop.example/g00905/impl.BadTable).logical -/
theorem f122_eq (x0_0 : Int) (x0_1 : Int) (x0_2 : Int) (x0_3 : Int) (x0_4 : List AV) (x0_5 : List AV) : den E 122 [(.agg [(.i .i64 x0_0), (.i .i64 x0_1), (.i .i64 x0_2), (.i .i64 x0_3), (.imm 1 x0_4), (.imm 1 x0_5)])] [] =
 bSh (.i .i64) (den E 160 [(.agg [(.i .i64 x0_0), (.i .i64 x0_1), (.i .i64 x0_2), (.i .i64 x0_3), (.imm 1 x0_4), (.imm 1 x0_5)])] []) fun a1 =>
 some (.i .i64 (IntKind.i64.wrap (x0_0 * a1.toI))) := (den_eq ..).trans (by kernel_rfl)
/-! 161: (loop.example/g00905/impl.BadTable).home -/
theorem f161_eq (x0_0 : Int) (x0_1 : Int) (x0_2 : Int) (x0_3 : Int) (x0_4 : List AV) (x0_5 : List AV) (x1 : Int) : den E 161 [(.agg [(.i .i64 x0_0), (.i .i64 x0_1), (.i .i64 x0_2), (.i .i64 x0_3), (.imm 1 x0_4), (.imm 1 x0_5)]), (.i .i64 x1)] [] =
 bSh (.i .i64) (den E 160 [(.agg [(.i .i64 x0_0), (.i .i64 x0_1), (.i .i64 x0_2), (.i .i64 x0_3), (.imm 1 x0_4), (.imm 1 x0_5)])] []) fun a1 =>
 if a1.toI = 0 then none else
 bSh (.i .i64) (den E 160 [(.agg [(.i .i64 x0_0), (.i .i64 x0_1), (.i .i64 x0_2), (.i .i64 x0_3), (.imm 1 x0_4), (.imm 1 x0_5)])] []) fun a2 =>
 if a2.toI = 0 then none else
 some (.i .i64 (IntKind.i64.wrap ((IntKind.i64.wrap ((IntKind.i64.wrap (x1.tdiv a1.toI)) * x0_1)) + (x1.tmod a2.toI)))) := (den_eq ..).trans (by kernel_rfl)
/-! 127: slices.Index[[]int64,int64] -/
noncomputable def f127_l1 (t0 : List AV) (t1 : Int) (t7 : Int) (t8 : Int) : Option AV := Lp E fi127 [true, false, true, false] (mkT 19 [(0, (.imm 1 t0)), (1, (.i .i64 t1)), (7, (.i .i64 t7)), (8, (.i .i64 t8))]) []
theorem f127_eq (x0 : List AV) (x1 : Int) : den E 127 [(.imm 1 x0), (.i .i64 x1)] [] =
 f127_l1 x0 x1 ((x0.length : Nat) : Int) (0 : Int) := (den_eq ..).trans (by kernel_rfl)
theorem f127_l1_eq (t0 : List AV) (t1 : Int) (t7 : Int) (t8 : Int) : f127_l1 t0 t1 t7 t8 =
 cond (decide (t8 < t7))
 (if 0 ≤ t8 ∧ t8 < ((t0.length : Nat) : Int) then
 if okCells false (t0.getD t8.toNat .x) 0 [(.i .i64)] = true then
 cond (decide (t1 = (((t0.getD t8.toNat .x).cells.getD 0 .x).toI)))
 (some (.i .i64 t8))
 (f127_l1 t0 t1 t7 (IntKind.i64.wrap (t8 + (1 : Int))))
 else none
 else none)
 (some (.i .i64 (-1 : Int))) := (Lp_eq ..).trans (by kernel_rfl)
/-! 124: slices.Contains[[]int64,int64] -/
theorem f124_eq (x0 : List AV) (x1 : Int) : den E 124 [(.imm 1 x0), (.i .i64 x1)] [] =
 bSh (.i .i64) (den E 127 [(.imm 1 x0), (.i .i64 x1)] []) fun a1 =>
 some (.b (decide ((0 : Int) ≤ a1.toI))) := (den_eq ..).trans (by kernel_rfl)
/-! 125: (loop.example/g00905/impl.BadTable).isBad -/
theorem f125_eq (x0_0 : Int) (x0_1 : Int) (x0_2 : Int) (x0_3 : Int) (x0_4 : List AV) (x0_5 : List AV) (x1 : Int) : den E 125 [(.agg [(.i .i64 x0_0), (.i .i64 x0_1), (.i .i64 x0_2), (.i .i64 x0_3), (.imm 1 x0_4), (.imm 1 x0_5)]), (.i .i64 x1)] [] =
 bSh .b (den E 124 [(.imm 1 x0_4), (.i .i64 x1)] []) fun a1 =>
 some (.b a1.toB) := (den_eq ..).trans (by kernel_rfl)
/-! 162: (loop.example/g00905/impl.BadTable).spares -/
noncomputable def f162o1_l1 (t1 : Int) (t6 : Int) (r0_0 : Int) (r0_1 : Int) (r0_2 : Int) (r0_3 : Int) (r0_4 : List AV) (r0_5 : List AV) (r1 : List AV) (r2 : List AV) : Option (AV × List Root) := LpO E fi162 [(3, [1, 2, 5, 6], 3)] 0 (.so 0) [true, true, false, true, false] (mkT 27 [(1, (.i .i64 t1)), (2, (.pt 0 [] 0 0)), (5, (.sl 2 [] none)), (6, (.i .i64 t6))]) [(.live false true false 79 [(.agg [(.i .i64 r0_0), (.i .i64 r0_1), (.i .i64 r0_2), (.i .i64 r0_3), (.imm 1 r0_4), (.imm 1 r0_5)])]), (.live true false false 2 r1), (.live true false false 2 r2)]
theorem f162o1_eq (x0_0 : Int) (x0_1 : Int) (x0_2 : Int) (x0_3 : Int) (x0_4 : List AV) (x0_5 : List AV) (x1 : Int) : dno E 162 [(.agg [(.i .i64 x0_0), (.i .i64 x0_1), (.i .i64 x0_2), (.i .i64 x0_3), (.imm 1 x0_4), (.imm 1 x0_5)]), (.i .i64 x1)] [] =
 bSh (.i .i64) (den E 160 [(.agg [(.i .i64 x0_0), (.i .i64 x0_1), (.i .i64 x0_2), (.i .i64 x0_3), (.imm 1 x0_4), (.imm 1 x0_5)])] []) fun a1 =>
 f162o1_l1 x1 a1.toI x0_0 x0_1 x0_2 x0_3 x0_4 x0_5 [] [] := (dno_eq ..).trans (by kernel_rfl)
theorem f162o1_l1_eq (t1 : Int) (t6 : Int) (r0_0 : Int) (r0_1 : Int) (r0_2 : Int) (r0_3 : Int) (r0_4 : List AV) (r0_5 : List AV) (r1 : List AV) (r2 : List AV) : f162o1_l1 t1 t6 r0_0 r0_1 r0_2 r0_3 r0_4 r0_5 r1 r2 =
 cond (decide (t6 < r0_1))
 (if (r2.length + ([(.i .i64 (IntKind.i64.wrap ((IntKind.i64.wrap (t1 * r0_1)) + t6)))] : List AV).length) * 8 ≤ room then
 f162o1_l1 t1 (IntKind.i64.wrap (t6 + (1 : Int))) r0_0 r0_1 r0_2 r0_3 r0_4 r0_5 r1 (r2 ++ [(.i .i64 (IntKind.i64.wrap ((IntKind.i64.wrap (t1 * r0_1)) + t6)))])
 else none)
 (some ((.sl 0 [] none), [(.live true false false 2 r2)])) := (LpO_eq ..).trans (by kernel_rfl)
/-! 123: (loop.example/g00905/impl.BadTable).remapOk -/
theorem f123_eq (x0_0 : Int) (x0_1 : Int) (x0_2 : Int) (x0_3 : Int) (x0_4 : List AV) (x0_5 : List AV) (x1 : Int) (x2 : Int) : den E 123 [(.agg [(.i .i64 x0_0), (.i .i64 x0_1), (.i .i64 x0_2), (.i .i64 x0_3), (.imm 1 x0_4), (.imm 1 x0_5)]), (.i .i64 x1), (.i .i64 x2)] [] =
 bSh (.i .i64) (den E 161 [(.agg [(.i .i64 x0_0), (.i .i64 x0_1), (.i .i64 x0_2), (.i .i64 x0_3), (.imm 1 x0_4), (.imm 1 x0_5)]), (.i .i64 x1)] []) fun a1 =>
 cond (decide (x2 = a1.toI))
 (bSh .b (den E 125 [(.agg [(.i .i64 x0_0), (.i .i64 x0_1), (.i .i64 x0_2), (.i .i64 x0_3), (.imm 1 x0_4), (.imm 1 x0_5)]), (.i .i64 x2)] []) fun a2 =>
 some (.b (!a2.toB)))
 (bSh .b (den E 125 [(.agg [(.i .i64 x0_0), (.i .i64 x0_1), (.i .i64 x0_2), (.i .i64 x0_3), (.imm 1 x0_4), (.imm 1 x0_5)]), (.i .i64 x2)] []) fun a3 =>
 cond ((!a3.toB) == true)
 (bSh .b (den E 125 [(.agg [(.i .i64 x0_0), (.i .i64 x0_1), (.i .i64 x0_2), (.i .i64 x0_3), (.imm 1 x0_4), (.imm 1 x0_5)]), (.i .i64 a1.toI)] []) fun a4 =>
 cond (a4.toB == true)
 (if x0_1 = 0 then none else
 bOwn (.so 0) [(.row true 2)] 0 (dno E 162 [(.agg [(.i .i64 x0_0), (.i .i64 x0_1), (.i .i64 x0_2), (.i .i64 x0_3), (.imm 1 x0_4), (.imm 1 x0_5)]), (.i .i64 (IntKind.i64.wrap (a1.toI.tdiv x0_1)))] []) fun a5 =>
 bSh .b (den E 124 [(.imm 1 ((a5.2.getD 0 .dead).row)), (.i .i64 x2)] []) fun a6 =>
 some (.b a6.toB))
 (some (.b false)))
 (some (.b false))) := (den_eq ..).trans (by kernel_rfl)
/-! 78: loop.example/g00905/impl.ValidBadTable -/
noncomputable def f78_l1 (t34 : List AV) (t35 : Int) (t36 : Int) (r0_0 : Int) (r0_1 : Int) (r0_2 : Int) (r0_3 : Int) (r0_4 : List AV) (r0_5 : List AV) : Option AV := Lp E fi78 [true, true, false, true, false] (mkT 55 [(1, (.pt 0 [] 0 0)), (34, (.imm 1 t34)), (35, (.i .i64 t35)), (36, (.i .i64 t36))]) [(.live false true false 79 [(.agg [(.i .i64 r0_0), (.i .i64 r0_1), (.i .i64 r0_2), (.i .i64 r0_3), (.imm 1 r0_4), (.imm 1 r0_5)])])]
theorem f78_eq (x0_0 : Int) (x0_1 : Int) (x0_2 : Int) (x0_3 : Int) (x0_4 : List AV) (x0_5 : List AV) : den E 78 [(.agg [(.i .i64 x0_0), (.i .i64 x0_1), (.i .i64 x0_2), (.i .i64 x0_3), (.imm 1 x0_4), (.imm 1 x0_5)])] [] =
 bSh .b (den E 119 [(.agg [(.i .i64 x0_0), (.i .i64 x0_1), (.i .i64 x0_2)])] []) fun a1 =>
 cond ((!a1.toB) == false)
 (bSh .b (den E 120 [(.agg [(.i .i64 x0_0), (.i .i64 x0_1), (.i .i64 x0_2)]), (.i .i64 x0_3)] []) fun a2 =>
 cond ((!a2.toB) == false)
 (bSh .b (den E 121 [(.agg [(.i .i64 x0_0), (.i .i64 x0_1), (.i .i64 x0_2)]), (.imm 1 x0_4)] []) fun a3 =>
 cond ((!a3.toB) == false)
 (bSh (.i .i64) (den E 122 [(.agg [(.i .i64 x0_0), (.i .i64 x0_1), (.i .i64 x0_2), (.i .i64 x0_3), (.imm 1 x0_4), (.imm 1 x0_5)])] []) fun a4 =>
 cond (!decide (((x0_5.length : Nat) : Int) = a4.toI))
 (some (.b false))
 (f78_l1 x0_5 ((x0_5.length : Nat) : Int) (0 : Int) x0_0 x0_1 x0_2 x0_3 x0_4 x0_5))
 (some (.b false)))
 (some (.b false)))
 (some (.b false)) := (den_eq ..).trans (by kernel_rfl)
theorem f78_l1_eq (t34 : List AV) (t35 : Int) (t36 : Int) (r0_0 : Int) (r0_1 : Int) (r0_2 : Int) (r0_3 : Int) (r0_4 : List AV) (r0_5 : List AV) : f78_l1 t34 t35 t36 r0_0 r0_1 r0_2 r0_3 r0_4 r0_5 =
 cond (decide (t36 < t35))
 (if 0 ≤ t36 ∧ t36 < ((t34.length : Nat) : Int) then
 if okCells false (t34.getD t36.toNat .x) 0 [(.i .i64)] = true then
 bSh .b (den E 123 [(.agg [(.i .i64 r0_0), (.i .i64 r0_1), (.i .i64 r0_2), (.i .i64 r0_3), (.imm 1 r0_4), (.imm 1 r0_5)]), (.i .i64 t36), (.i .i64 (((t34.getD t36.toNat .x).cells.getD 0 .x).toI))] []) fun a1 =>
 cond ((!a1.toB) == false)
 (if 0 ≤ (0 : Int) ∧ (0 : Int) ≤ t36 ∧ t36 ≤ ((r0_5.length : Nat) : Int) then
 bSh .b (den E 124 [(.imm 1 (r0_5.take t36.toNat)), (.i .i64 (((t34.getD t36.toNat .x).cells.getD 0 .x).toI))] []) fun a2 =>
 cond a2.toB
 (some (.b false))
 (f78_l1 t34 t35 (IntKind.i64.wrap (t36 + (1 : Int))) r0_0 r0_1 r0_2 r0_3 r0_4 r0_5)
 else none)
 (some (.b false))
 else none
 else none)
 (some (.b true)) := (Lp_eq ..).trans (by kernel_rfl)
/-! 163: slices.Clone[[]int64,int64] -/
theorem f163_eq (x0 : List AV) : dno E 163 [(.imm 1 x0)] [] = if 1 = 1 ∧ x0.length * 8 ≤ room then some (.sl 0 [] none, [.live true false false 2 x0]) else none := (dno_eq ..).trans (by kernel_rfl)
/-! 126: (loop.example/g00905/impl.BadTable).clone -/
theorem f126o1_eq (x0_0 : Int) (x0_1 : Int) (x0_2 : Int) (x0_3 : Int) (x0_4 : List AV) (x0_5 : List AV) : dno E 126 [(.agg [(.i .i64 x0_0), (.i .i64 x0_1), (.i .i64 x0_2), (.i .i64 x0_3), (.imm 1 x0_4), (.imm 1 x0_5)])] [] =
 bOwn (.so 0) [(.row true 2)] 0 (dno E 163 [(.imm 1 x0_4)] []) fun a1 =>
 bOwn (.so 0) [(.row true 2)] 0 (dno E 163 [(.imm 1 x0_5)] []) fun a2 =>
 some ((.agg [(.i .i64 x0_0), (.i .i64 x0_1), (.i .i64 x0_2), (.i .i64 x0_3), (.sl 0 [] none), (.sl 1 [] none)]), [(.live true false false 2 ((a1.2.getD 0 .dead).row)), (.live true false false 2 ((a2.2.getD 0 .dead).row))]) := (dno_eq ..).trans (by kernel_rfl)
/-! 165: (loop.example/g00905/impl.BadTable).available$1 -/
theorem f165q1_eq (x0 : Int) (x1 : AV) : den E 165 [(.i .i64 x0), (.ip x1 0)] [] =
 if okCells false x1 0 [(.i .i64), (.i .i64), (.i .i64), (.i .i64), (.sl 2 1), (.sl 2 1)] = true then
 bSh .b (den E 125 [(.agg [(.i .i64 ((x1.cells.getD 0 .x).toI)), (.i .i64 ((x1.cells.getD 1 .x).toI)), (.i .i64 ((x1.cells.getD 2 .x).toI)), (.i .i64 ((x1.cells.getD 3 .x).toI)), (.imm 1 ((x1.cells.getD 4 .x).toL)), (.imm 1 ((x1.cells.getD 5 .x).toL))]), (.i .i64 x0)] []) fun a1 =>
 cond (a1.toB == false)
 (if okCells false x1 5 [(.sl 2 1)] = true then
 bSh .b (den E 124 [(.imm 1 ((x1.cells.getD 5 .x).toL)), (.i .i64 x0)] []) fun a2 =>
 some (.b a2.toB)
 else none)
 (some (.b true))
 else none := (den_eq ..).trans (by kernel_rfl)
/-! 184: slices.IndexFunc[[]int64,int64] -/
noncomputable def f184q2_l1 (t0 : List AV) (t1_0 : AV) (t7 : Int) (t8 : Int) : Option AV := Lp E fi184 [true, false, true, false] (mkT 19 [(0, (.imm 1 t0)), (1, (.fn 165 [(.ip t1_0 0)])), (7, (.i .i64 t7)), (8, (.i .i64 t8))]) []
theorem f184q2_eq (x0 : List AV) (x1_0 : AV) : den E 184 [(.imm 1 x0), (.fn 165 [(.ip x1_0 0)])] [] =
 f184q2_l1 x0 x1_0 ((x0.length : Nat) : Int) (0 : Int) := (den_eq ..).trans (by kernel_rfl)
theorem f184q2_l1_eq (t0 : List AV) (t1_0 : AV) (t7 : Int) (t8 : Int) : f184q2_l1 t0 t1_0 t7 t8 =
 cond (decide (t8 < t7))
 (if 0 ≤ t8 ∧ t8 < ((t0.length : Nat) : Int) then
 if okCells false (t0.getD t8.toNat .x) 0 [(.i .i64)] = true then
 bSh .b (den E 165 [(.i .i64 (((t0.getD t8.toNat .x).cells.getD 0 .x).toI)), (.ip t1_0 0)] []) fun a1 =>
 cond a1.toB
 (some (.i .i64 t8))
 (f184q2_l1 t0 t1_0 t7 (IntKind.i64.wrap (t8 + (1 : Int))))
 else none
 else none)
 (some (.i .i64 (-1 : Int))) := (Lp_eq ..).trans (by kernel_rfl)
/-! 164: slices.DeleteFunc[[]int64,int64] -/
noncomputable def f164o1_l1 (t1_0 : AV) (t5 : Int) (t6 : Int) (r0 : List AV) : Option (AV × List Root) := LpO E fi164 [(5, [0, 1, 5, 6], 1), (6, [0, 1, 5, 6], 1)] 1 (.pr 0) [true, true, true, false, true, false] (mkT 42 [(0, (.sl 0 [] none)), (1, (.fn 165 [(.ip t1_0 0)])), (5, (.i .i64 t5)), (6, (.i .i64 t6))]) [(.live true false false 2 r0)]
noncomputable def f164o1_j2 (t1_0 : AV) (t5 : Int) (t6 : Int) (r0 : List AV) : Option (AV × List Root) := JnO E fi164 [(5, [0, 1, 5, 6], 1), (6, [0, 1, 5, 6], 1)] 1 (.pr 0) [true, true, true, false, true, false, false, true, true] (mkT 42 [(0, (.sl 0 [] none)), (1, (.fn 165 [(.ip t1_0 0)])), (5, (.i .i64 t5)), (6, (.i .i64 t6))]) [(.live true false false 2 r0)]
theorem f164o1_eq (x1_0 : AV) (s0 : List AV) : dno E 164 [(.sl 0 [] none), (.fn 165 [(.ip x1_0 0)])] [(.live true false false 2 s0)] =
 bSh (.i .i64) (den E 184 [(.imm 1 s0), (.fn 165 [(.ip x1_0 0)])] []) fun a1 =>
 cond (decide (a1.toI = (-1 : Int)))
 (some ((.sl 0 [] (some (0, s0.length))), [(.live true false false 2 s0)]))
 (f164o1_l1 x1_0 a1.toI (IntKind.i64.wrap (a1.toI + (1 : Int))) s0) := (dno_eq ..).trans (by kernel_rfl)
theorem f164o1_l1_eq (t1_0 : AV) (t5 : Int) (t6 : Int) (r0 : List AV) : f164o1_l1 t1_0 t5 t6 r0 =
 cond (decide (t6 < ((r0.length : Nat) : Int)))
 (if 0 ≤ t6 ∧ t6 < ((r0.length : Nat) : Int) then
 if okCells false (r0.getD (0 + t6.toNat) .x) 0 [(.i .i64)] = true then
 bSh .b (den E 165 [(.i .i64 (((r0.getD (0 + t6.toNat) .x).cells.getD 0 .x).toI)), (.ip t1_0 0)] []) fun a1 =>
 cond (!a1.toB)
 (if 0 ≤ t5 ∧ t5 < ((r0.length : Nat) : Int) then
 f164o1_j2 t1_0 (IntKind.i64.wrap (t5 + (1 : Int))) t6 (r0.set (0 + t5.toNat) ((r0.getD (0 + t5.toNat) .x).putCells 0 [(.i .i64 (((r0.getD (0 + t6.toNat) .x).cells.getD 0 .x).toI))]))
 else none)
 (f164o1_j2 t1_0 t5 t6 r0)
 else none
 else none)
 (if 0 ≤ t5 ∧ t5 ≤ ((r0.length : Nat) : Int) ∧ ((r0.length : Nat) : Int) ≤ ((r0.length : Nat) : Int) then
 if 0 ≤ (0 : Int) ∧ (0 : Int) ≤ t5 ∧ t5 ≤ (((r0.take t5.toNat ++ List.replicate (((r0.length : Nat) : Int).toNat - t5.toNat) ((.i .i64 (0 : Int)) : AV) ++ r0.drop (t5.toNat + (((r0.length : Nat) : Int).toNat - t5.toNat))).length : Nat) : Int) then
 some ((.sl 0 [] (some ((0 : Int).toNat, (t5.toNat - (0 : Int).toNat)))), [(.live true false false 2 (r0.take t5.toNat ++ List.replicate (((r0.length : Nat) : Int).toNat - t5.toNat) ((.i .i64 (0 : Int)) : AV) ++ r0.drop (t5.toNat + (((r0.length : Nat) : Int).toNat - t5.toNat))))])
 else none
 else none) := (LpO_eq ..).trans (by kernel_rfl)
theorem f164o1_j2_eq (t1_0 : AV) (t5 : Int) (t6 : Int) (r0 : List AV) : f164o1_j2 t1_0 t5 t6 r0 =
 f164o1_l1 t1_0 t5 (IntKind.i64.wrap (t6 + (1 : Int))) r0 := by kernel_rfl
/-! 128: (loop.example/g00905/impl.BadTable).available -/
theorem f128_eq (x0_0 : Int) (x0_1 : Int) (x0_2 : Int) (x0_3 : Int) (x0_4 : List AV) (x0_5 : List AV) (x1 : Int) : den E 128 [(.agg [(.i .i64 x0_0), (.i .i64 x0_1), (.i .i64 x0_2), (.i .i64 x0_3), (.imm 1 x0_4), (.imm 1 x0_5)]), (.i .i64 x1)] [] =
 bOwn (.so 0) [(.row true 2)] 0 (dno E 162 [(.agg [(.i .i64 x0_0), (.i .i64 x0_1), (.i .i64 x0_2), (.i .i64 x0_3), (.imm 1 x0_4), (.imm 1 x0_5)]), (.i .i64 x1)] []) fun a1 =>
 bOwnFS (.pr 0) [(.same 2)] 1 [(.live true false false 2 ((a1.2.getD 0 .dead).row))] (dno E 164 [(.sl 0 [] none), (.fn 165 [(.ip (.agg [(.i .i64 x0_0), (.i .i64 x0_1), (.i .i64 x0_2), (.i .i64 x0_3), (.imm 1 x0_4), (.imm 1 x0_5)]) 0)])] [(.live true false false 2 ((a1.2.getD 0 .dead).row))]) fun a2 =>
 some (.imm 1 ((((a2.2.getD 0 .dead).row).drop a2.1.off).take a2.1.cnt)) := (den_eq ..).trans (by kernel_rfl)
/-! 185: cmp.isNaN[int64] -/
theorem f185_eq (x0 : Int) : den E 185 [(.i .i64 x0)] [] =
 some (.b (!decide (x0 = x0))) := (den_eq ..).trans (by kernel_rfl)
/-! 166: cmp.Less[int64] -/
theorem f166_eq (x0 : Int) (x1 : Int) : den E 166 [(.i .i64 x0), (.i .i64 x1)] [] =
 bSh .b (den E 185 [(.i .i64 x0)] []) fun a1 =>
 cond (a1.toB == true)
 (bSh .b (den E 185 [(.i .i64 x1)] []) fun a2 =>
 cond ((!a2.toB) == false)
 (some (.b (decide (x0 < x1))))
 (some (.b true)))
 (some (.b (decide (x0 < x1)))) := (den_eq ..).trans (by kernel_rfl)
/-! 167: slices.isNaN[int64] -/
theorem f167_eq (x0 : Int) : den E 167 [(.i .i64 x0)] [] =
 some (.b (!decide (x0 = x0))) := (den_eq ..).trans (by kernel_rfl)
/-! 129: slices.BinarySearch[[]int64,int64] -/
noncomputable def f129_l1 (t0 : List AV) (t1 : Int) (t6 : Int) (t7 : Int) (t8 : Int) : Option AV := Lp E fi129 [true, true, true, false, false] (mkT 54 [(0, (.imm 1 t0)), (1, (.i .i64 t1)), (6, (.i .i64 t6)), (7, (.i .i64 t7)), (8, (.i .i64 t8))]) []
theorem f129_eq (x0 : List AV) (x1 : Int) : den E 129 [(.imm 1 x0), (.i .i64 x1)] [] =
 f129_l1 x0 x1 ((x0.length : Nat) : Int) (0 : Int) ((x0.length : Nat) : Int) := (den_eq ..).trans (by kernel_rfl)
theorem f129_l1_eq (t0 : List AV) (t1 : Int) (t6 : Int) (t7 : Int) (t8 : Int) : f129_l1 t0 t1 t6 t7 t8 =
 cond (decide (t7 < t8))
 (if 0 ≤ (IntKind.i64.wrap ((IntKind.u64.wrap (IntKind.i64.wrap (t7 + t8))).fdiv (2 ^ (min (1 : Int).toNat IntKind.u64.bits)))) ∧ (IntKind.i64.wrap ((IntKind.u64.wrap (IntKind.i64.wrap (t7 + t8))).fdiv (2 ^ (min (1 : Int).toNat IntKind.u64.bits)))) < ((t0.length : Nat) : Int) then
 if okCells false (t0.getD (IntKind.i64.wrap ((IntKind.u64.wrap (IntKind.i64.wrap (t7 + t8))).fdiv (2 ^ (min (1 : Int).toNat IntKind.u64.bits)))).toNat .x) 0 [(.i .i64)] = true then
 bSh .b (den E 166 [(.i .i64 (((t0.getD (IntKind.i64.wrap ((IntKind.u64.wrap (IntKind.i64.wrap (t7 + t8))).fdiv (2 ^ (min (1 : Int).toNat IntKind.u64.bits)))).toNat .x).cells.getD 0 .x).toI)), (.i .i64 t1)] []) fun a1 =>
 cond a1.toB
 (f129_l1 t0 t1 t6 (IntKind.i64.wrap ((IntKind.i64.wrap ((IntKind.u64.wrap (IntKind.i64.wrap (t7 + t8))).fdiv (2 ^ (min (1 : Int).toNat IntKind.u64.bits)))) + (1 : Int))) t8)
 (f129_l1 t0 t1 t6 t7 (IntKind.i64.wrap ((IntKind.u64.wrap (IntKind.i64.wrap (t7 + t8))).fdiv (2 ^ (min (1 : Int).toNat IntKind.u64.bits)))))
 else none
 else none)
 (cond ((decide (t7 < t6)) == true)
 (if 0 ≤ t7 ∧ t7 < ((t0.length : Nat) : Int) then
 if okCells false (t0.getD t7.toNat .x) 0 [(.i .i64)] = true then
 cond ((decide ((((t0.getD t7.toNat .x).cells.getD 0 .x).toI) = t1)) == false)
 (if 0 ≤ t7 ∧ t7 < ((t0.length : Nat) : Int) then
 if okCells false (t0.getD t7.toNat .x) 0 [(.i .i64)] = true then
 bSh .b (den E 167 [(.i .i64 (((t0.getD t7.toNat .x).cells.getD 0 .x).toI))] []) fun a2 =>
 cond (a2.toB == true)
 (bSh .b (den E 167 [(.i .i64 t1)] []) fun a3 =>
 some (.tup [(.i .i64 t7), (.b a3.toB)]))
 (some (.tup [(.i .i64 t7), (.b false)]))
 else none
 else none)
 (some (.tup [(.i .i64 t7), (.b true)]))
 else none
 else none)
 (some (.tup [(.i .i64 t7), (.b false)]))) := (Lp_eq ..).trans (by kernel_rfl)
/-! 130: slices.Insert[[]int64,int64] -/
theorem f130_eq (x0 : List AV) (x1 : Int) (x2 : AV) : dno E 130 [(.sl 0 [] none), (.i .i64 x1), (.sl 1 [] none)] [(.live true false false 2 x0), (.live true false false 2 [x2])] = if (2 = 2 ∧ 2 = 2) ∧ (0 ≤ x1 ∧ x1 ≤ ((x0.length : Nat) : Int)) ∧ (x0.length + 1) * 8 ≤ room then some (.sl 0 [] none, [.live true false false 2 (x0.take x1.toNat ++ [x2] ++ x0.drop x1.toNat), .live true false false 2 [x2]]) else none := (dno_eq ..).trans (by kernel_rfl)
/-! 81: (loop.example/g00905/impl.BadTable).retire -/
noncomputable def f81o1_j1 (t1 : Int) (r0_0 : Int) (r0_1 : Int) (r0_2 : Int) (r0_3 : Int) (r0_4 : List AV) (r0_5 : List AV) (r1_0 : Int) (r1_1 : Int) (r1_2 : Int) (r1_3 : Int) (r2 : List AV) (r3 : List AV) (r4_0 : Int) (r4_1 : Int) (r4_2 : Int) (r4_3 : Int) : Option (AV × List Root) := JnO E fi81 [(10, [1, 4, 6], 5)] 0 (.tup [(.agg [(.i .i64), (.i .i64), (.i .i64), (.i .i64), (.so 0), (.so 1)]), (.i .i64)]) [true, true, true, true] (mkT 56 [(1, (.i .i64 t1)), (4, (.pt 1 [] 0 0)), (6, (.pt 4 [] 0 0))]) [(.live false true false 79 [(.agg [(.i .i64 r0_0), (.i .i64 r0_1), (.i .i64 r0_2), (.i .i64 r0_3), (.imm 1 r0_4), (.imm 1 r0_5)])]), (.live false true false 79 [(.agg [(.i .i64 r1_0), (.i .i64 r1_1), (.i .i64 r1_2), (.i .i64 r1_3), .nils, .nils])]), (.live true false false 2 r2), (.live true false false 2 r3), (.live false true false 79 [(.agg [(.i .i64 r4_0), (.i .i64 r4_1), (.i .i64 r4_2), (.i .i64 r4_3), (.sl 2 [] none), (.sl 3 [] none)])])]
theorem f81o1_eq (x0_0 : Int) (x0_1 : Int) (x0_2 : Int) (x0_3 : Int) (x0_4 : List AV) (x0_5 : List AV) (x1 : Int) : dno E 81 [(.agg [(.i .i64 x0_0), (.i .i64 x0_1), (.i .i64 x0_2), (.i .i64 x0_3), (.imm 1 x0_4), (.imm 1 x0_5)]), (.i .i64 x1)] [] =
 bSh .b (den E 125 [(.agg [(.i .i64 x0_0), (.i .i64 x0_1), (.i .i64 x0_2), (.i .i64 x0_3), (.imm 1 x0_4), (.imm 1 x0_5)]), (.i .i64 x1)] []) fun a1 =>
 cond a1.toB
 (some ((.tup [(.agg [(.i .i64 (0 : Int)), (.i .i64 (0 : Int)), (.i .i64 (0 : Int)), (.i .i64 (0 : Int)), (.sl 0 [] none), (.sl 1 [] none)]), (.i .i64 (5 : Int))]), [(.live true false false 2 []), (.live true false false 2 [])]))
 (bOwn (.agg [(.i .i64), (.i .i64), (.i .i64), (.i .i64), (.so 0), (.so 1)]) [(.row true 2), (.row true 2)] 0 (dno E 126 [(.agg [(.i .i64 x0_0), (.i .i64 x0_1), (.i .i64 x0_2), (.i .i64 x0_3), (.imm 1 x0_4), (.imm 1 x0_5)])] []) fun a2 =>
 bSh (.i .i64) (den E 127 [(.imm 1 x0_5), (.i .i64 x1)] []) fun a3 =>
 cond (decide ((0 : Int) ≤ a3.toI))
 (if x0_1 = 0 then none else
 bSh (.sl 2 1) (den E 128 [(.agg [(.i .i64 x0_0), (.i .i64 x0_1), (.i .i64 x0_2), (.i .i64 x0_3), (.imm 1 x0_4), (.imm 1 x0_5)]), (.i .i64 (IntKind.i64.wrap (x1.tdiv x0_1)))] []) fun a4 =>
 cond (decide (((a4.toL.length : Nat) : Int) = (0 : Int)))
 (some ((.tup [(.agg [(.i .i64 (0 : Int)), (.i .i64 (0 : Int)), (.i .i64 (0 : Int)), (.i .i64 (0 : Int)), (.sl 0 [] none), (.sl 1 [] none)]), (.i .i64 (4 : Int))]), [(.live true false false 2 []), (.live true false false 2 [])]))
 (if 0 ≤ (0 : Int) ∧ (0 : Int) < ((a4.toL.length : Nat) : Int) then
 if okCells false (a4.toL.getD (0 : Int).toNat .x) 0 [(.i .i64)] = true then
 if 0 ≤ a3.toI ∧ a3.toI < ((((a2.2.getD 1 .dead).row).length : Nat) : Int) then
 f81o1_j1 x1 x0_0 x0_1 x0_2 x0_3 x0_4 x0_5 (0 : Int) (0 : Int) (0 : Int) (0 : Int) ((a2.2.getD 0 .dead).row) (((a2.2.getD 1 .dead).row).set (0 + a3.toI.toNat) ((((a2.2.getD 1 .dead).row).getD (0 + a3.toI.toNat) .x).putCells 0 [(.i .i64 (((a4.toL.getD (0 : Int).toNat .x).cells.getD 0 .x).toI))])) ((a2.1.nth 0).toI) ((a2.1.nth 1).toI) ((a2.1.nth 2).toI) ((a2.1.nth 3).toI)
 else none
 else none
 else none))
 (f81o1_j1 x1 x0_0 x0_1 x0_2 x0_3 x0_4 x0_5 (0 : Int) (0 : Int) (0 : Int) (0 : Int) ((a2.2.getD 0 .dead).row) ((a2.2.getD 1 .dead).row) ((a2.1.nth 0).toI) ((a2.1.nth 1).toI) ((a2.1.nth 2).toI) ((a2.1.nth 3).toI))) := (dno_eq ..).trans (by kernel_rfl)
theorem f81o1_j1_eq (t1 : Int) (r0_0 : Int) (r0_1 : Int) (r0_2 : Int) (r0_3 : Int) (r0_4 : List AV) (r0_5 : List AV) (r1_0 : Int) (r1_1 : Int) (r1_2 : Int) (r1_3 : Int) (r2 : List AV) (r3 : List AV) (r4_0 : Int) (r4_1 : Int) (r4_2 : Int) (r4_3 : Int) : f81o1_j1 t1 r0_0 r0_1 r0_2 r0_3 r0_4 r0_5 r1_0 r1_1 r1_2 r1_3 r2 r3 r4_0 r4_1 r4_2 r4_3 =
 bSh (.tup [(.i .i64), .b]) (den E 129 [(.imm 1 r2), (.i .i64 t1)] []) fun a1 =>
 bOwn (.so 0) [(.row true 2), (.row true 2)] 2 (dno E 130 [(.sl 0 [] none), (.i .i64 ((a1.nth 0).toI)), (.sl 1 [] none)] [(.live true false false 2 r2), (.live true false false 2 [(.i .i64 t1)])]) fun a2 =>
 some ((.tup [(.agg [(.i .i64 r4_0), (.i .i64 r4_1), (.i .i64 r4_2), (.i .i64 r4_3), (.sl 0 [] none), (.sl 1 [] none)]), (.i .i64 (0 : Int))]), [(.live true false false 2 ((a2.2.getD 0 .dead).row)), (.live true false false 2 r3)]) := by kernel_rfl
/-! 29: loop.example/g00905/impl.RetireBlock -/
theorem f29o1_eq (x0_0 : Int) (x0_1 : Int) (x0_2 : Int) (x0_3 : Int) (x0_4 : List AV) (x0_5 : List AV) (x1 : Int) : dno E 29 [(.agg [(.i .i64 x0_0), (.i .i64 x0_1), (.i .i64 x0_2), (.i .i64 x0_3), (.imm 1 x0_4), (.imm 1 x0_5)]), (.i .i64 x1)] [] =
 bSh .b (den E 78 [(.agg [(.i .i64 x0_0), (.i .i64 x0_1), (.i .i64 x0_2), (.i .i64 x0_3), (.imm 1 x0_4), (.imm 1 x0_5)])] []) fun a1 =>
 cond (!a1.toB)
 (some ((.tup [(.agg [(.i .i64 (0 : Int)), (.i .i64 (0 : Int)), (.i .i64 (0 : Int)), (.i .i64 (0 : Int)), (.sl 0 [] none), (.sl 1 [] none)]), (.i .i64 (1 : Int))]), [(.live true false false 2 []), (.live true false false 2 [])]))
 (bSh (.i .i64) (den E 80 [(.agg [(.i .i64 x0_0), (.i .i64 x0_1), (.i .i64 x0_2)])] []) fun a2 =>
 bSh .b (den E 79 [(.i .i64 x1), (.i .i64 (0 : Int)), (.i .i64 (IntKind.i64.wrap (a2.toI - (1 : Int))))] []) fun a3 =>
 cond (!a3.toB)
 (some ((.tup [(.agg [(.i .i64 (0 : Int)), (.i .i64 (0 : Int)), (.i .i64 (0 : Int)), (.i .i64 (0 : Int)), (.sl 0 [] none), (.sl 1 [] none)]), (.i .i64 (2 : Int))]), [(.live true false false 2 []), (.live true false false 2 [])]))
 (bOwn (.tup [(.agg [(.i .i64), (.i .i64), (.i .i64), (.i .i64), (.so 0), (.so 1)]), (.i .i64)]) [(.row true 2), (.row true 2)] 0 (dno E 81 [(.agg [(.i .i64 x0_0), (.i .i64 x0_1), (.i .i64 x0_2), (.i .i64 x0_3), (.imm 1 x0_4), (.imm 1 x0_5)]), (.i .i64 x1)] []) fun a4 =>
 some ((.tup [(.agg [(.i .i64 (((a4.1.nth 0).nth 0).toI)), (.i .i64 (((a4.1.nth 0).nth 1).toI)), (.i .i64 (((a4.1.nth 0).nth 2).toI)), (.i .i64 (((a4.1.nth 0).nth 3).toI)), (.sl 0 [] none), (.sl 1 [] none)]), (.i .i64 ((a4.1.nth 1).toI))]), [(.live true false false 2 ((a4.2.getD 0 .dead).row)), (.live true false false 2 ((a4.2.getD 1 .dead).row))]))) := (dno_eq ..).trans (by kernel_rfl)
/-! 82: loop.example/g00905/laws.eqGeometry -/
theorem f82_eq (x0_0 : Int) (x0_1 : Int) (x0_2 : Int) (x1_0 : Int) (x1_1 : Int) (x1_2 : Int) : den E 82 [(.agg [(.i .i64 x0_0), (.i .i64 x0_1), (.i .i64 x0_2)]), (.agg [(.i .i64 x1_0), (.i .i64 x1_1), (.i .i64 x1_2)])] [] =
 cond (!decide (x0_0 = x1_0))
 (some (.b false))
 (cond (!decide (x0_1 = x1_1))
 (some (.b false))
 (cond (!decide (x0_2 = x1_2))
 (some (.b false))
 (some (.b true)))) := (den_eq ..).trans (by kernel_rfl)
/-! 52: loop.example/g00905/laws.eqInt64S -/
noncomputable def f52_l1 (t0 : List AV) (t1 : List AV) (t5 : Int) : Option AV := Lp E fi52 [true, true, false, true, false] (mkT 26 [(0, (.imm 1 t0)), (1, (.imm 1 t1)), (5, (.i .i64 t5))]) []
theorem f52_eq (x0 : List AV) (x1 : List AV) : den E 52 [(.imm 1 x0), (.imm 1 x1)] [] =
 cond (!decide (((x0.length : Nat) : Int) = ((x1.length : Nat) : Int)))
 (some (.b false))
 (f52_l1 x0 x1 (0 : Int)) := (den_eq ..).trans (by kernel_rfl)
theorem f52_l1_eq (t0 : List AV) (t1 : List AV) (t5 : Int) : f52_l1 t0 t1 t5 =
 cond (decide (t5 < ((t0.length : Nat) : Int)))
 (if 0 ≤ t5 ∧ t5 < ((t0.length : Nat) : Int) then
 if okCells false (t0.getD t5.toNat .x) 0 [(.i .i64)] = true then
 if 0 ≤ t5 ∧ t5 < ((t1.length : Nat) : Int) then
 if okCells false (t1.getD t5.toNat .x) 0 [(.i .i64)] = true then
 cond (!decide ((((t0.getD t5.toNat .x).cells.getD 0 .x).toI) = (((t1.getD t5.toNat .x).cells.getD 0 .x).toI)))
 (some (.b false))
 (f52_l1 t0 t1 (IntKind.i64.wrap (t5 + (1 : Int))))
 else none
 else none
 else none
 else none)
 (some (.b true)) := (Lp_eq ..).trans (by kernel_rfl)
/-! 30: loop.example/g00905/laws.eqBadTable -/
theorem f30_eq (x0_0 : Int) (x0_1 : Int) (x0_2 : Int) (x0_3 : Int) (x0_4 : List AV) (x0_5 : List AV) (x1_0 : Int) (x1_1 : Int) (x1_2 : Int) (x1_3 : Int) (x1_4 : List AV) (x1_5 : List AV) : den E 30 [(.agg [(.i .i64 x0_0), (.i .i64 x0_1), (.i .i64 x0_2), (.i .i64 x0_3), (.imm 1 x0_4), (.imm 1 x0_5)]), (.agg [(.i .i64 x1_0), (.i .i64 x1_1), (.i .i64 x1_2), (.i .i64 x1_3), (.imm 1 x1_4), (.imm 1 x1_5)])] [] =
 bSh .b (den E 82 [(.agg [(.i .i64 x0_0), (.i .i64 x0_1), (.i .i64 x0_2)]), (.agg [(.i .i64 x1_0), (.i .i64 x1_1), (.i .i64 x1_2)])] []) fun a1 =>
 cond (!a1.toB)
 (some (.b false))
 (cond (!decide (x0_3 = x1_3))
 (some (.b false))
 (bSh .b (den E 52 [(.imm 1 x0_4), (.imm 1 x1_4)] []) fun a2 =>
 cond (!a2.toB)
 (some (.b false))
 (bSh .b (den E 52 [(.imm 1 x0_5), (.imm 1 x1_5)] []) fun a3 =>
 cond (!a3.toB)
 (some (.b false))
 (some (.b true))))) := (den_eq ..).trans (by kernel_rfl)
/-! 83: loop.example/g00905/laws.markInt64S -/
noncomputable def f83o1_l1 (t1 : Int) (t5 : Int) (r0 : List AV) : Option (AV × List Root) := LpO E fi83 [(2, [0, 1, 5], 1)] 1 (.i .i64) [true, false, true, false] (mkT 19 [(0, (.sl 0 [] none)), (1, (.i .i64 t1)), (5, (.i .i64 t5))]) [(.live true false false 2 r0)]
theorem f83o1_eq (x1 : Int) (s0 : List AV) : dno E 83 [(.sl 0 [] none), (.i .i64 x1)] [(.live true false false 2 s0)] =
 f83o1_l1 x1 (0 : Int) s0 := (dno_eq ..).trans (by kernel_rfl)
theorem f83o1_l1_eq (t1 : Int) (t5 : Int) (r0 : List AV) : f83o1_l1 t1 t5 r0 =
 cond (decide (t5 < ((r0.length : Nat) : Int)))
 (if 0 ≤ t5 ∧ t5 < ((r0.length : Nat) : Int) then
 f83o1_l1 (IntKind.i64.wrap (t1 + (1 : Int))) (IntKind.i64.wrap (t5 + (1 : Int))) (r0.set (0 + t5.toNat) ((r0.getD (0 + t5.toNat) .x).putCells 0 [(.i .i64 t1)]))
 else none)
 (some ((.i .i64 t1), [(.live true false false 2 r0)])) := (LpO_eq ..).trans (by kernel_rfl)
/-! 31: loop.example/g00905/laws.markBadTable -/
theorem f31o1_eq (x0_0 : Int) (x0_1 : Int) (x0_2 : Int) (x0_3 : Int) (x1 : Int) (s0 : List AV) (s1 : List AV) : dno E 31 [(.agg [(.i .i64 x0_0), (.i .i64 x0_1), (.i .i64 x0_2), (.i .i64 x0_3), (.sl 0 [] none), (.sl 1 [] none)]), (.i .i64 x1)] [(.live true false false 2 s0), (.live true false false 2 s1)] =
 bOwnS (.i .i64) [(.same 2)] 1 [(.live true false false 2 s0)] (dno E 83 [(.sl 0 [] none), (.i .i64 x1)] [(.live true false false 2 s0)]) fun a1 =>
 bOwnS (.i .i64) [(.same 2)] 1 [(.live true false false 2 s1)] (dno E 83 [(.sl 0 [] none), (.i .i64 a1.1.toI)] [(.live true false false 2 s1)]) fun a2 =>
 some ((.i .i64 a2.1.toI), [(.live true false false 2 ((a1.2.getD 0 .dead).row)), (.live true false false 2 ((a2.2.getD 0 .dead).row))]) := (dno_eq ..).trans (by kernel_rfl)
/-! 84: loop.example/g00905/laws.heldInt64S -/
noncomputable def f84_l1 (t0 : List AV) (t1 : Int) (t5 : Int) : Option AV := Lp E fi84 [true, false, true, false] (mkT 21 [(0, (.imm 1 t0)), (1, (.i .i64 t1)), (5, (.i .i64 t5))]) []
theorem f84_eq (x0 : List AV) (x1 : Int) : den E 84 [(.imm 1 x0), (.i .i64 x1)] [] =
 f84_l1 x0 x1 (0 : Int) := (den_eq ..).trans (by kernel_rfl)
theorem f84_l1_eq (t0 : List AV) (t1 : Int) (t5 : Int) : f84_l1 t0 t1 t5 =
 cond (decide (t5 < ((t0.length : Nat) : Int)))
 (if 0 ≤ t5 ∧ t5 < ((t0.length : Nat) : Int) then
 if okCells false (t0.getD t5.toNat .x) 0 [(.i .i64)] = true then
 cond (!decide ((((t0.getD t5.toNat .x).cells.getD 0 .x).toI) = t1))
 (some (.i .i64 (-1 : Int)))
 (f84_l1 t0 (IntKind.i64.wrap (t1 + (1 : Int))) (IntKind.i64.wrap (t5 + (1 : Int))))
 else none
 else none)
 (some (.i .i64 t1)) := (Lp_eq ..).trans (by kernel_rfl)
/-! 32: loop.example/g00905/laws.heldBadTable -/
theorem f32_eq (x0_0 : Int) (x0_1 : Int) (x0_2 : Int) (x0_3 : Int) (x0_4 : List AV) (x0_5 : List AV) (x1 : Int) : den E 32 [(.agg [(.i .i64 x0_0), (.i .i64 x0_1), (.i .i64 x0_2), (.i .i64 x0_3), (.imm 1 x0_4), (.imm 1 x0_5)]), (.i .i64 x1)] [] =
 bSh (.i .i64) (den E 84 [(.imm 1 x0_4), (.i .i64 x1)] []) fun a1 =>
 cond (decide (a1.toI < (0 : Int)))
 (some (.i .i64 (-1 : Int)))
 (bSh (.i .i64) (den E 84 [(.imm 1 x0_5), (.i .i64 a1.toI)] []) fun a2 =>
 cond (decide (a2.toI < (0 : Int)))
 (some (.i .i64 (-1 : Int)))
 (some (.i .i64 a2.toI))) := (den_eq ..).trans (by kernel_rfl)
/-! 6: loop.example/g00905/laws.FnExactRetireBlock -/
theorem f6_eq (x0_0 : Int) (x0_1 : Int) (x0_2 : Int) (x0_3 : Int) (x0_4 : List AV) (x0_5 : List AV) (x1 : Int) : den E 6 [(.agg [(.i .i64 x0_0), (.i .i64 x0_1), (.i .i64 x0_2), (.i .i64 x0_3), (.imm 1 x0_4), (.imm 1 x0_5)]), (.i .i64 x1)] [] =
 bSh (.i .i64) (den E 26 [(.agg [(.i .i64 x0_0), (.i .i64 x0_1), (.i .i64 x0_2), (.i .i64 x0_3), (.imm 1 x0_4), (.imm 1 x0_5)]), (.i .i64 (1048576 : Int))] []) fun a1 =>
 cond (decide (a1.toI < (0 : Int)))
 (some (.b true))
 (bOwn (.agg [(.i .i64), (.i .i64), (.i .i64), (.i .i64), (.so 0), (.so 1)]) [(.row true 2), (.row true 2)] 0 (dno E 28 [(.agg [(.i .i64 x0_0), (.i .i64 x0_1), (.i .i64 x0_2), (.i .i64 x0_3), (.imm 1 x0_4), (.imm 1 x0_5)])] []) fun a2 =>
 bOwnF (.tup [(.agg [(.i .i64), (.i .i64), (.i .i64), (.i .i64), (.so 0), (.so 1)]), (.i .i64)]) [(.row true 2), (.row true 2)] 0 (dno E 27 [(.agg [(.i .i64 ((a2.1.nth 0).toI)), (.i .i64 ((a2.1.nth 1).toI)), (.i .i64 ((a2.1.nth 2).toI)), (.i .i64 ((a2.1.nth 3).toI)), (.imm 1 ((a2.2.getD 0 .dead).row)), (.imm 1 ((a2.2.getD 1 .dead).row))]), (.i .i64 x1)] []) fun a3 =>
 bOwn (.agg [(.i .i64), (.i .i64), (.i .i64), (.i .i64), (.so 0), (.so 1)]) [(.row true 2), (.row true 2)] 0 (dno E 28 [(.agg [(.i .i64 x0_0), (.i .i64 x0_1), (.i .i64 x0_2), (.i .i64 x0_3), (.imm 1 x0_4), (.imm 1 x0_5)])] []) fun a4 =>
 bOwnF (.tup [(.agg [(.i .i64), (.i .i64), (.i .i64), (.i .i64), (.so 0), (.so 1)]), (.i .i64)]) [(.row true 2), (.row true 2)] 0 (dno E 29 [(.agg [(.i .i64 ((a4.1.nth 0).toI)), (.i .i64 ((a4.1.nth 1).toI)), (.i .i64 ((a4.1.nth 2).toI)), (.i .i64 ((a4.1.nth 3).toI)), (.imm 1 ((a4.2.getD 0 .dead).row)), (.imm 1 ((a4.2.getD 1 .dead).row))]), (.i .i64 x1)] []) fun a5 =>
 bSh .b (den E 30 [(.agg [(.i .i64 (((a5.1.nth 0).nth 0).toI)), (.i .i64 (((a5.1.nth 0).nth 1).toI)), (.i .i64 (((a5.1.nth 0).nth 2).toI)), (.i .i64 (((a5.1.nth 0).nth 3).toI)), (.imm 1 ((a5.2.getD 0 .dead).row)), (.imm 1 ((a5.2.getD 1 .dead).row))]), (.agg [(.i .i64 (((a3.1.nth 0).nth 0).toI)), (.i .i64 (((a3.1.nth 0).nth 1).toI)), (.i .i64 (((a3.1.nth 0).nth 2).toI)), (.i .i64 (((a3.1.nth 0).nth 3).toI)), (.imm 1 ((a3.2.getD 0 .dead).row)), (.imm 1 ((a3.2.getD 1 .dead).row))])] []) fun a6 =>
 cond ((!a6.toB) == false)
 (cond (!decide (((a5.1.nth 1).toI) = ((a3.1.nth 1).toI)))
 (some (.b false))
 (bOwn (.agg [(.i .i64), (.i .i64), (.i .i64), (.i .i64), (.so 0), (.so 1)]) [(.row true 2), (.row true 2)] 0 (dno E 28 [(.agg [(.i .i64 x0_0), (.i .i64 x0_1), (.i .i64 x0_2), (.i .i64 x0_3), (.imm 1 x0_4), (.imm 1 x0_5)])] []) fun a7 =>
 bSh .b (den E 30 [(.agg [(.i .i64 ((a4.1.nth 0).toI)), (.i .i64 ((a4.1.nth 1).toI)), (.i .i64 ((a4.1.nth 2).toI)), (.i .i64 ((a4.1.nth 3).toI)), (.imm 1 ((a4.2.getD 0 .dead).row)), (.imm 1 ((a4.2.getD 1 .dead).row))]), (.agg [(.i .i64 ((a7.1.nth 0).toI)), (.i .i64 ((a7.1.nth 1).toI)), (.i .i64 ((a7.1.nth 2).toI)), (.i .i64 ((a7.1.nth 3).toI)), (.imm 1 ((a7.2.getD 0 .dead).row)), (.imm 1 ((a7.2.getD 1 .dead).row))])] []) fun a8 =>
 cond (!a8.toB)
 (some (.b false))
 (bOwnS (.i .i64) [(.same 2), (.same 2)] 2 [(.live true false false 2 ((a4.2.getD 0 .dead).row)), (.live true false false 2 ((a4.2.getD 1 .dead).row))] (dno E 31 [(.agg [(.i .i64 ((a4.1.nth 0).toI)), (.i .i64 ((a4.1.nth 1).toI)), (.i .i64 ((a4.1.nth 2).toI)), (.i .i64 ((a4.1.nth 3).toI)), (.sl 0 [] none), (.sl 1 [] none)]), (.i .i64 (1 : Int))] [(.live true false false 2 ((a4.2.getD 0 .dead).row)), (.live true false false 2 ((a4.2.getD 1 .dead).row))]) fun a9 =>
 cond ((decide (a9.1.toI < (0 : Int))) == false)
 (bSh .b (den E 30 [(.agg [(.i .i64 (((a5.1.nth 0).nth 0).toI)), (.i .i64 (((a5.1.nth 0).nth 1).toI)), (.i .i64 (((a5.1.nth 0).nth 2).toI)), (.i .i64 (((a5.1.nth 0).nth 3).toI)), (.imm 1 ((a5.2.getD 0 .dead).row)), (.imm 1 ((a5.2.getD 1 .dead).row))]), (.agg [(.i .i64 (((a3.1.nth 0).nth 0).toI)), (.i .i64 (((a3.1.nth 0).nth 1).toI)), (.i .i64 (((a3.1.nth 0).nth 2).toI)), (.i .i64 (((a3.1.nth 0).nth 3).toI)), (.imm 1 ((a3.2.getD 0 .dead).row)), (.imm 1 ((a3.2.getD 1 .dead).row))])] []) fun a10 =>
 cond ((!a10.toB) == false)
 (cond (!decide (((a5.1.nth 1).toI) = ((a3.1.nth 1).toI)))
 (some (.b false))
 (bOwnS (.i .i64) [(.same 2), (.same 2)] 2 [(.live true false false 2 ((a5.2.getD 0 .dead).row)), (.live true false false 2 ((a5.2.getD 1 .dead).row))] (dno E 31 [(.agg [(.i .i64 (((a5.1.nth 0).nth 0).toI)), (.i .i64 (((a5.1.nth 0).nth 1).toI)), (.i .i64 (((a5.1.nth 0).nth 2).toI)), (.i .i64 (((a5.1.nth 0).nth 3).toI)), (.sl 0 [] none), (.sl 1 [] none)]), (.i .i64 (1 : Int))] [(.live true false false 2 ((a5.2.getD 0 .dead).row)), (.live true false false 2 ((a5.2.getD 1 .dead).row))]) fun a11 =>
 bSh (.i .i64) (den E 32 [(.agg [(.i .i64 (((a5.1.nth 0).nth 0).toI)), (.i .i64 (((a5.1.nth 0).nth 1).toI)), (.i .i64 (((a5.1.nth 0).nth 2).toI)), (.i .i64 (((a5.1.nth 0).nth 3).toI)), (.imm 1 ((a11.2.getD 0 .dead).row)), (.imm 1 ((a11.2.getD 1 .dead).row))]), (.i .i64 (1 : Int))] []) fun a12 =>
 cond (decide (a12.toI < (0 : Int)))
 (some (.b false))
 (cond (!decide (a12.toI = a11.1.toI))
 (some (.b false))
 (bOwn (.agg [(.i .i64), (.i .i64), (.i .i64), (.i .i64), (.so 0), (.so 1)]) [(.row true 2), (.row true 2)] 0 (dno E 28 [(.agg [(.i .i64 x0_0), (.i .i64 x0_1), (.i .i64 x0_2), (.i .i64 x0_3), (.imm 1 x0_4), (.imm 1 x0_5)])] []) fun a13 =>
 bOwnF (.tup [(.agg [(.i .i64), (.i .i64), (.i .i64), (.i .i64), (.so 0), (.so 1)]), (.i .i64)]) [(.row true 2), (.row true 2)] 0 (dno E 29 [(.agg [(.i .i64 ((a13.1.nth 0).toI)), (.i .i64 ((a13.1.nth 1).toI)), (.i .i64 ((a13.1.nth 2).toI)), (.i .i64 ((a13.1.nth 3).toI)), (.imm 1 ((a13.2.getD 0 .dead).row)), (.imm 1 ((a13.2.getD 1 .dead).row))]), (.i .i64 x1)] []) fun a14 =>
 bSh .b (den E 30 [(.agg [(.i .i64 (((a14.1.nth 0).nth 0).toI)), (.i .i64 (((a14.1.nth 0).nth 1).toI)), (.i .i64 (((a14.1.nth 0).nth 2).toI)), (.i .i64 (((a14.1.nth 0).nth 3).toI)), (.imm 1 ((a14.2.getD 0 .dead).row)), (.imm 1 ((a14.2.getD 1 .dead).row))]), (.agg [(.i .i64 (((a3.1.nth 0).nth 0).toI)), (.i .i64 (((a3.1.nth 0).nth 1).toI)), (.i .i64 (((a3.1.nth 0).nth 2).toI)), (.i .i64 (((a3.1.nth 0).nth 3).toI)), (.imm 1 ((a3.2.getD 0 .dead).row)), (.imm 1 ((a3.2.getD 1 .dead).row))])] []) fun a15 =>
 cond ((!a15.toB) == false)
 (cond (!decide (((a14.1.nth 1).toI) = ((a3.1.nth 1).toI)))
 (some (.b false))
 (bSh (.i .i64) (den E 32 [(.agg [(.i .i64 (((a5.1.nth 0).nth 0).toI)), (.i .i64 (((a5.1.nth 0).nth 1).toI)), (.i .i64 (((a5.1.nth 0).nth 2).toI)), (.i .i64 (((a5.1.nth 0).nth 3).toI)), (.imm 1 ((a11.2.getD 0 .dead).row)), (.imm 1 ((a11.2.getD 1 .dead).row))]), (.i .i64 (1 : Int))] []) fun a16 =>
 cond (decide (a16.toI < (0 : Int)))
 (some (.b false))
 (cond (!decide (a16.toI = a11.1.toI))
 (some (.b false))
 (some (.b true)))))
 (some (.b false))))))
 (some (.b false)))
 (some (.b false)))))
 (some (.b false))) := (den_eq ..).trans (by kernel_rfl)
end Go.Proofs.Ytkpmplggbbiebaa.IRetireBlock
