/- Printed by a program of this work (wip/it/itp.py): what each function comes to. No condition. -/
import Derived.Test.YtfiijbacegpomaaIWearBoundt
namespace Go.Proofs.Ytfiijbacegpomaa.IWearBound
open Go Go.Proofs.YtfiijbacegpomaaIT
set_option linter.unusedVariables false
/-! 10: loop.example/g00905/laws.w5From -/
noncomputable def f10o1_l1 (t0 : List AV) (t6 : Int) (r0_0 : Int) : Option (AV × List Root) := LpO E fi10 [(3, [0, 5, 6], 1000000)] 0 (.po 0) [true, true, false, true, false] (mkT 36 [(0, (.imm 1 t0)), (5, (.pt 0 [] 0 0)), (6, (.i .i64 t6))]) [(.live false true false 98 [(.agg [(.i .u64 r0_0)])])]
theorem f10o1_eq (x0 : List AV) (x1 : Int) : dno E 10 [(.imm 1 x0), (.i .u64 x1)] [] =
 f10o1_l1 x0 (0 : Int) (IntKind.u64.wrap (x1 + (IntKind.u64.wrap ((x0.length : Nat) : Int)))) := (dno_eq ..).trans (by kernel_rfl)
theorem f10o1_l1_eq (t0 : List AV) (t6 : Int) (r0_0 : Int) : f10o1_l1 t0 t6 r0_0 =
 cond (decide (t6 < ((t0.length : Nat) : Int)))
 (if 0 ≤ t6 ∧ t6 < ((t0.length : Nat) : Int) then
 if okCells false (t0.getD t6.toNat .x) 0 [(.i .u8)] = true then
 f10o1_l1 t0 (IntKind.i64.wrap (t6 + (1 : Int))) (IntKind.u64.wrap ((IntKind.u64.wrap ((IntKind.u64.wrap (r0_0 * (1099511628211 : Int))) + (IntKind.u64.wrap (((t0.getD t6.toNat .x).cells.getD 0 .x).toI)))) + (3 : Int)))
 else none
 else none)
 (some ((.pt 0 [] 0 0), [(.live false true false 98 [(.agg [(.i .u64 r0_0)])])])) := (LpO_eq ..).trans (by kernel_rfl)
/-! 11: (*loop.example/g00905/laws.w5Choices).below -/
theorem f11o1_eq (x1 : Int) (s0_0 : Int) : dno E 11 [(.pt 0 [] 0 0), (.i .i64 x1)] [(.live false true false 98 [(.agg [(.i .u64 s0_0)])])] =
 if x1 = 0 then none else
 some ((.i .i64 ((IntKind.i64.wrap (IntKind.u64.wrap ((BitVec.ofInt IntKind.u64.bits ((IntKind.u64.wrap ((IntKind.u64.wrap (s0_0 * (6364136223846793005 : Int))) + (1442695040888963407 : Int))).fdiv (2 ^ (min (33 : Int).toNat IntKind.u64.bits))) &&& BitVec.ofInt IntKind.u64.bits (16777215 : Int)).toNat))).tmod x1)), [(.live false true false 98 [(.agg [(.i .u64 (IntKind.u64.wrap ((IntKind.u64.wrap (s0_0 * (6364136223846793005 : Int))) + (1442695040888963407 : Int))))])])]) := (dno_eq ..).trans (by kernel_rfl)
/-! 75: loop.example/g00905/impl.within -/
theorem f75_eq (x0 : Int) (x1 : Int) (x2 : Int) : den E 75 [(.i .i64 x0), (.i .i64 x1), (.i .i64 x2)] [] =
 cond ((decide (x1 ≤ x0)) == true)
 (some (.b (decide (x0 ≤ x2))))
 (some (.b false)) := (den_eq ..).trans (by kernel_rfl)
/-! 54: loop.example/g00905/impl.ValidWear -/
noncomputable def f54_l1 (t33 : List AV) (t34 : Int) (t35 : Int) (r0_0 : List AV) (r0_1 : List AV) (r0_2 : List AV) (r0_3 : Int) : Option AV := Lp E fi54 [true, true, true, false, true, false] (mkT 64 [(1, (.pt 0 [] 0 0)), (33, (.imm 1 t33)), (34, (.i .i64 t34)), (35, (.i .i64 t35))]) [(.live false true false 30 [(.agg [(.imm 1 r0_0), (.imm 1 r0_1), (.imm 1 r0_2), (.i .i64 r0_3)])])]
noncomputable def f54_j2 (t33 : List AV) (t34 : Int) (t35 : Int) (r0_0 : List AV) (r0_1 : List AV) (r0_2 : List AV) (r0_3 : Int) : Option AV := Jn E fi54 [true, true, true, false, true, false, false, true, true, true] (mkT 64 [(1, (.pt 0 [] 0 0)), (33, (.imm 1 t33)), (34, (.i .i64 t34)), (35, (.i .i64 t35))]) [(.live false true false 30 [(.agg [(.imm 1 r0_0), (.imm 1 r0_1), (.imm 1 r0_2), (.i .i64 r0_3)])])]
theorem f54_eq (x0_0 : List AV) (x0_1 : List AV) (x0_2 : List AV) (x0_3 : Int) : den E 54 [(.agg [(.imm 1 x0_0), (.imm 1 x0_1), (.imm 1 x0_2), (.i .i64 x0_3)])] [] =
 bSh .b (den E 75 [(.i .i64 ((x0_0.length : Nat) : Int)), (.i .i64 (1 : Int)), (.i .i64 (36 : Int))] []) fun a1 =>
 cond ((!a1.toB) == false)
 (cond ((!decide (((x0_1.length : Nat) : Int) = ((x0_0.length : Nat) : Int))) == false)
 (cond ((!decide (((x0_2.length : Nat) : Int) = ((x0_0.length : Nat) : Int))) == false)
 (bSh .b (den E 75 [(.i .i64 x0_3), (.i .i64 (1 : Int)), (.i .i64 (100 : Int))] []) fun a2 =>
 cond (!a2.toB)
 (some (.b false))
 (f54_l1 x0_2 ((x0_2.length : Nat) : Int) (0 : Int) x0_0 x0_1 x0_2 x0_3))
 (some (.b false)))
 (some (.b false)))
 (some (.b false)) := (den_eq ..).trans (by kernel_rfl)
theorem f54_l1_eq (t33 : List AV) (t34 : Int) (t35 : Int) (r0_0 : List AV) (r0_1 : List AV) (r0_2 : List AV) (r0_3 : Int) : f54_l1 t33 t34 t35 r0_0 r0_1 r0_2 r0_3 =
 cond (decide (t35 < t34))
 (if 0 ≤ t35 ∧ t35 < ((t33.length : Nat) : Int) then
 if okCells false (t33.getD t35.toNat .x) 0 [(.i .i64)] = true then
 if 0 ≤ t35 ∧ t35 < ((r0_0.length : Nat) : Int) then
 if okCells false (r0_0.getD t35.toNat .x) 0 [(.i .i64)] = true then
 bSh .b (den E 75 [(.i .i64 (((r0_0.getD t35.toNat .x).cells.getD 0 .x).toI)), (.i .i64 (0 : Int)), (.i .i64 (1000 : Int))] []) fun a1 =>
 cond ((!a1.toB) == false)
 (bSh .b (den E 75 [(.i .i64 (((t33.getD t35.toNat .x).cells.getD 0 .x).toI)), (.i .i64 (0 : Int)), (.i .i64 (2 : Int))] []) fun a2 =>
 cond ((!a2.toB) == false)
 (if 0 ≤ t35 ∧ t35 < ((r0_1.length : Nat) : Int) then
 if okCells false (r0_1.getD t35.toNat .x) 0 [.b] = true then
 cond ((((r0_1.getD t35.toNat .x).cells.getD 0 .x).toB) == true)
 (cond (!decide ((((t33.getD t35.toNat .x).cells.getD 0 .x).toI) = (0 : Int)))
 (some (.b false))
 (f54_j2 t33 t34 t35 r0_0 r0_1 r0_2 r0_3))
 (f54_j2 t33 t34 t35 r0_0 r0_1 r0_2 r0_3)
 else none
 else none)
 (some (.b false)))
 (some (.b false))
 else none
 else none
 else none
 else none)
 (some (.b true)) := (Lp_eq ..).trans (by kernel_rfl)
theorem f54_j2_eq (t33 : List AV) (t34 : Int) (t35 : Int) (r0_0 : List AV) (r0_1 : List AV) (r0_2 : List AV) (r0_3 : Int) : f54_j2 t33 t34 t35 r0_0 r0_1 r0_2 r0_3 =
 f54_l1 t33 t34 (IntKind.i64.wrap (t35 + (1 : Int))) r0_0 r0_1 r0_2 r0_3 := by kernel_rfl
/-! 55: loop.example/g00905/impl.isIndex -/
theorem f55_eq (x0 : Int) (x1 : Int) : den E 55 [(.i .i64 x0), (.i .i64 x1)] [] =
 bSh .b (den E 75 [(.i .i64 x0), (.i .i64 (0 : Int)), (.i .i64 (IntKind.i64.wrap (x1 - (1 : Int))))] []) fun a1 =>
 some (.b a1.toB) := (den_eq ..).trans (by kernel_rfl)
/-! 70: slices.Clone[[]int64,int64] -/
theorem f70_eq (x0 : List AV) : dno E 70 [(.imm 1 x0)] [] = if 1 = 1 ∧ x0.length * 8 ≤ room then some (.sl 0 [] none, [.live true false false 2 x0]) else none := (dno_eq ..).trans (by kernel_rfl)
/-! 136: slices.Clone[[]bool,bool] -/
theorem f136_eq (x0 : List AV) : dno E 136 [(.imm 1 x0)] [] = if 1 = 1 ∧ x0.length * 1 ≤ room then some (.sl 0 [] none, [.live true false false 4 x0]) else none := (dno_eq ..).trans (by kernel_rfl)
/-! 56: (loop.example/g00905/impl.Wear).clone -/
theorem f56o1_eq (x0_0 : List AV) (x0_1 : List AV) (x0_2 : List AV) (x0_3 : Int) : dno E 56 [(.agg [(.imm 1 x0_0), (.imm 1 x0_1), (.imm 1 x0_2), (.i .i64 x0_3)])] [] =
 bOwn (.so 0) [(.row true 2)] 0 (dno E 70 [(.imm 1 x0_0)] []) fun a1 =>
 bOwn (.so 0) [(.row true 4)] 0 (dno E 136 [(.imm 1 x0_1)] []) fun a2 =>
 bOwn (.so 0) [(.row true 2)] 0 (dno E 70 [(.imm 1 x0_2)] []) fun a3 =>
 some ((.agg [(.sl 0 [] none), (.sl 1 [] none), (.sl 2 [] none), (.i .i64 x0_3)]), [(.live true false false 2 ((a1.2.getD 0 .dead).row)), (.live true false false 4 ((a2.2.getD 0 .dead).row)), (.live true false false 2 ((a3.2.getD 0 .dead).row))]) := (dno_eq ..).trans (by kernel_rfl)
/-! 62: loop.example/g00905/impl.good -/
noncomputable def f62o1_l1 (t1 : List AV) (t8 : Int) (t9 : Int) (r0 : List AV) : Option (AV × List Root) := LpO E fi62 [(3, [1, 5, 8, 9], 1000000), (6, [1, 5, 6, 8, 9], 1000000), (7, [1, 5, 8, 9], 1000000)] 0 (.so 0) [true, true, false, true, false] (mkT 29 [(1, (.imm 1 t1)), (5, (.sl 0 [] none)), (8, (.i .i64 t8)), (9, (.i .i64 t9))]) [(.live true false false 2 r0)]
noncomputable def f62o1_j2 (t1 : List AV) (t6 : Int) (t8 : Int) (t9 : Int) (r0 : List AV) : Option (AV × List Root) := JnO E fi62 [(3, [1, 5, 8, 9], 1000000), (6, [1, 5, 6, 8, 9], 1000000), (7, [1, 5, 8, 9], 1000000)] 0 (.so 0) [true, true, false, true, false, false, true, true, false, false, true, true, false] (mkT 29 [(1, (.imm 1 t1)), (5, (.sl 0 [] none)), (6, (.i .i64 t6)), (8, (.i .i64 t8)), (9, (.i .i64 t9))]) [(.live true false false 2 r0)]
noncomputable def f62o1_j3 (t1 : List AV) (t8 : Int) (t9 : Int) (r0 : List AV) : Option (AV × List Root) := JnO E fi62 [(3, [1, 5, 8, 9], 1000000), (6, [1, 5, 6, 8, 9], 1000000), (7, [1, 5, 8, 9], 1000000)] 0 (.so 0) [true, true, false, true, false, false, true, true, true] (mkT 29 [(1, (.imm 1 t1)), (5, (.sl 0 [] none)), (8, (.i .i64 t8)), (9, (.i .i64 t9))]) [(.live true false false 2 r0)]
theorem f62o1_eq (x0 : List AV) (x1 : List AV) : dno E 62 [(.imm 1 x0), (.imm 1 x1)] [] =
 f62o1_l1 x1 ((x0.length : Nat) : Int) (0 : Int) [] := (dno_eq ..).trans (by kernel_rfl)
theorem f62o1_l1_eq (t1 : List AV) (t8 : Int) (t9 : Int) (r0 : List AV) : f62o1_l1 t1 t8 t9 r0 =
 cond (decide (t9 < t8))
 (cond ((decide (((t1.length : Nat) : Int) ≤ t9)) == false)
 (if 0 ≤ t9 ∧ t9 < ((t1.length : Nat) : Int) then
 if okCells false (t1.getD t9.toNat .x) 0 [.b] = true then
 cond (!(((t1.getD t9.toNat .x).cells.getD 0 .x).toB))
 (f62o1_j2 t1 t9 t8 t9 r0)
 (f62o1_j3 t1 t8 t9 r0)
 else none
 else none)
 (f62o1_j2 t1 t9 t8 t9 r0))
 (some ((.sl 0 [] none), [(.live true false false 2 r0)])) := (LpO_eq ..).trans (by kernel_rfl)
theorem f62o1_j2_eq (t1 : List AV) (t6 : Int) (t8 : Int) (t9 : Int) (r0 : List AV) : f62o1_j2 t1 t6 t8 t9 r0 =
 if (r0.length + ([(.i .i64 t6)] : List AV).length) * 8 ≤ room then
 f62o1_j3 t1 t8 t9 (r0 ++ [(.i .i64 t6)])
 else none := by kernel_rfl
theorem f62o1_j3_eq (t1 : List AV) (t8 : Int) (t9 : Int) (r0 : List AV) : f62o1_j3 t1 t8 t9 r0 =
 f62o1_l1 t1 t8 (IntKind.i64.wrap (t9 + (1 : Int))) r0 := by kernel_rfl
/-! 181: (loop.example/g00905/impl.Wear).free$1 -/
theorem f181q1_eq (x0 : Int) (x1 : AV) : den E 181 [(.i .i64 x0), (.ip x1 0)] [] =
 if okCells false x1 2 [(.sl 2 1)] = true then
 if 0 ≤ x0 ∧ x0 < ((((x1.cells.getD 2 .x).toL).length : Nat) : Int) then
 if okCells false (((x1.cells.getD 2 .x).toL).getD x0.toNat .x) 0 [(.i .i64)] = true then
 some (.b (!decide ((((((x1.cells.getD 2 .x).toL).getD x0.toNat .x).cells.getD 0 .x).toI) = (0 : Int))))
 else none
 else none
 else none := (den_eq ..).trans (by kernel_rfl)
/-! 183: slices.IndexFunc[[]int64,int64] -/
noncomputable def f183q1_l1 (t0 : List AV) (t1_0 : AV) (t7 : Int) (t8 : Int) : Option AV := Lp E fi183 [true, false, true, false] (mkT 19 [(0, (.imm 1 t0)), (1, (.fn 181 [(.ip t1_0 0)])), (7, (.i .i64 t7)), (8, (.i .i64 t8))]) []
theorem f183q1_eq (x0 : List AV) (x1_0 : AV) : den E 183 [(.imm 1 x0), (.fn 181 [(.ip x1_0 0)])] [] =
 f183q1_l1 x0 x1_0 ((x0.length : Nat) : Int) (0 : Int) := (den_eq ..).trans (by kernel_rfl)
theorem f183q1_l1_eq (t0 : List AV) (t1_0 : AV) (t7 : Int) (t8 : Int) : f183q1_l1 t0 t1_0 t7 t8 =
 cond (decide (t8 < t7))
 (if 0 ≤ t8 ∧ t8 < ((t0.length : Nat) : Int) then
 if okCells false (t0.getD t8.toNat .x) 0 [(.i .i64)] = true then
 bSh .b (den E 181 [(.i .i64 (((t0.getD t8.toNat .x).cells.getD 0 .x).toI)), (.ip t1_0 0)] []) fun a1 =>
 cond a1.toB
 (some (.i .i64 t8))
 (f183q1_l1 t0 t1_0 t7 (IntKind.i64.wrap (t8 + (1 : Int))))
 else none
 else none)
 (some (.i .i64 (-1 : Int))) := (Lp_eq ..).trans (by kernel_rfl)
/-! 145: slices.DeleteFunc[[]int64,int64] -/
noncomputable def f145o1_l1 (t1_0 : AV) (t5 : Int) (t6 : Int) (r0 : List AV) : Option (AV × List Root) := LpO E fi145 [(5, [0, 1, 5, 6], 1000001), (6, [0, 1, 5, 6], 1000001)] 1 (.pr 0) [true, true, true, false, true, false] (mkT 42 [(0, (.sl 0 [] none)), (1, (.fn 181 [(.ip t1_0 0)])), (5, (.i .i64 t5)), (6, (.i .i64 t6))]) [(.live true false false 2 r0)]
noncomputable def f145o1_j2 (t1_0 : AV) (t5 : Int) (t6 : Int) (r0 : List AV) : Option (AV × List Root) := JnO E fi145 [(5, [0, 1, 5, 6], 1000001), (6, [0, 1, 5, 6], 1000001)] 1 (.pr 0) [true, true, true, false, true, false, false, true, true] (mkT 42 [(0, (.sl 0 [] none)), (1, (.fn 181 [(.ip t1_0 0)])), (5, (.i .i64 t5)), (6, (.i .i64 t6))]) [(.live true false false 2 r0)]
theorem f145o1_eq (x1_0 : AV) (s0 : List AV) : dno E 145 [(.sl 0 [] none), (.fn 181 [(.ip x1_0 0)])] [(.live true false false 2 s0)] =
 bSh (.i .i64) (den E 183 [(.imm 1 s0), (.fn 181 [(.ip x1_0 0)])] []) fun a1 =>
 cond (decide (a1.toI = (-1 : Int)))
 (some ((.sl 0 [] (some (0, s0.length))), [(.live true false false 2 s0)]))
 (f145o1_l1 x1_0 a1.toI (IntKind.i64.wrap (a1.toI + (1 : Int))) s0) := (dno_eq ..).trans (by kernel_rfl)
theorem f145o1_l1_eq (t1_0 : AV) (t5 : Int) (t6 : Int) (r0 : List AV) : f145o1_l1 t1_0 t5 t6 r0 =
 cond (decide (t6 < ((r0.length : Nat) : Int)))
 (if 0 ≤ t6 ∧ t6 < ((r0.length : Nat) : Int) then
 if okCells false (r0.getD (0 + t6.toNat) .x) 0 [(.i .i64)] = true then
 bSh .b (den E 181 [(.i .i64 (((r0.getD (0 + t6.toNat) .x).cells.getD 0 .x).toI)), (.ip t1_0 0)] []) fun a1 =>
 cond (!a1.toB)
 (if 0 ≤ t5 ∧ t5 < ((r0.length : Nat) : Int) then
 f145o1_j2 t1_0 (IntKind.i64.wrap (t5 + (1 : Int))) t6 (r0.set (0 + t5.toNat) ((r0.getD (0 + t5.toNat) .x).putCells 0 [(.i .i64 (((r0.getD (0 + t6.toNat) .x).cells.getD 0 .x).toI))]))
 else none)
 (f145o1_j2 t1_0 t5 t6 r0)
 else none
 else none)
 (if 0 ≤ t5 ∧ t5 ≤ ((r0.length : Nat) : Int) ∧ ((r0.length : Nat) : Int) ≤ ((r0.length : Nat) : Int) then
 if 0 ≤ (0 : Int) ∧ (0 : Int) ≤ t5 ∧ t5 ≤ (((r0.take t5.toNat ++ List.replicate (((r0.length : Nat) : Int).toNat - t5.toNat) ((.i .i64 (0 : Int)) : AV) ++ r0.drop (t5.toNat + (((r0.length : Nat) : Int).toNat - t5.toNat))).length : Nat) : Int) then
 some ((.sl 0 [] (some ((0 : Int).toNat, (t5.toNat - (0 : Int).toNat)))), [(.live true false false 2 (r0.take t5.toNat ++ List.replicate (((r0.length : Nat) : Int).toNat - t5.toNat) ((.i .i64 (0 : Int)) : AV) ++ r0.drop (t5.toNat + (((r0.length : Nat) : Int).toNat - t5.toNat))))])
 else none
 else none) := (LpO_eq ..).trans (by kernel_rfl)
theorem f145o1_j2_eq (t1_0 : AV) (t5 : Int) (t6 : Int) (r0 : List AV) : f145o1_j2 t1_0 t5 t6 r0 =
 f145o1_l1 t1_0 t5 (IntKind.i64.wrap (t6 + (1 : Int))) r0 := by kernel_rfl
/-! 138: (loop.example/g00905/impl.Wear).free -/
theorem f138o1_eq (x0_0 : List AV) (x0_1 : List AV) (x0_2 : List AV) (x0_3 : Int) : dno E 138 [(.agg [(.imm 1 x0_0), (.imm 1 x0_1), (.imm 1 x0_2), (.i .i64 x0_3)])] [] =
 bOwn (.so 0) [(.row true 2)] 0 (dno E 62 [(.imm 1 x0_0), (.imm 1 x0_1)] []) fun a1 =>
 bOwnFS (.pr 0) [(.same 2)] 1 [(.live true false false 2 ((a1.2.getD 0 .dead).row))] (dno E 145 [(.sl 0 [] none), (.fn 181 [(.ip (.agg [(.imm 1 x0_0), (.imm 1 x0_1), (.imm 1 x0_2), (.i .i64 x0_3)]) 0)])] [(.live true false false 2 ((a1.2.getD 0 .dead).row))]) fun a2 =>
 some ((.sl 0 [] (some (a2.1.off, a2.1.cnt))), [(.live true false false 2 ((a2.2.getD 0 .dead).row))]) := (dno_eq ..).trans (by kernel_rfl)
/-! 142: loop.example/g00905/impl.allWithin$1 -/
theorem f142q1_eq (x0 : Int) (x1 : AV) (x2 : AV) : den E 142 [(.i .i64 x0), (.ip x1 0), (.ip x2 0)] [] =
 if okCells false x1 0 [(.i .i64)] = true then
 if okCells false x2 0 [(.i .i64)] = true then
 bSh .b (den E 75 [(.i .i64 x0), (.i .i64 ((x1.cells.getD 0 .x).toI)), (.i .i64 ((x2.cells.getD 0 .x).toI))] []) fun a1 =>
 some (.b (!a1.toB))
 else none
 else none := (den_eq ..).trans (by kernel_rfl)
/-! 183: slices.IndexFunc[[]int64,int64] -/
noncomputable def f183q2_l1 (t0 : List AV) (t1_0 : AV) (t1_1 : AV) (t7 : Int) (t8 : Int) : Option AV := Lp E fi183 [true, false, true, false] (mkT 19 [(0, (.imm 1 t0)), (1, (.fn 142 [(.ip t1_0 0), (.ip t1_1 0)])), (7, (.i .i64 t7)), (8, (.i .i64 t8))]) []
theorem f183q2_eq (x0 : List AV) (x1_0 : AV) (x1_1 : AV) : den E 183 [(.imm 1 x0), (.fn 142 [(.ip x1_0 0), (.ip x1_1 0)])] [] =
 f183q2_l1 x0 x1_0 x1_1 ((x0.length : Nat) : Int) (0 : Int) := (den_eq ..).trans (by kernel_rfl)
theorem f183q2_l1_eq (t0 : List AV) (t1_0 : AV) (t1_1 : AV) (t7 : Int) (t8 : Int) : f183q2_l1 t0 t1_0 t1_1 t7 t8 =
 cond (decide (t8 < t7))
 (if 0 ≤ t8 ∧ t8 < ((t0.length : Nat) : Int) then
 if okCells false (t0.getD t8.toNat .x) 0 [(.i .i64)] = true then
 bSh .b (den E 142 [(.i .i64 (((t0.getD t8.toNat .x).cells.getD 0 .x).toI)), (.ip t1_0 0), (.ip t1_1 0)] []) fun a1 =>
 cond a1.toB
 (some (.i .i64 t8))
 (f183q2_l1 t0 t1_0 t1_1 t7 (IntKind.i64.wrap (t8 + (1 : Int))))
 else none
 else none)
 (some (.i .i64 (-1 : Int))) := (Lp_eq ..).trans (by kernel_rfl)
/-! 141: slices.ContainsFunc[[]int64,int64] -/
theorem f141q1_eq (x0 : List AV) (x1_0 : AV) (x1_1 : AV) : den E 141 [(.imm 1 x0), (.fn 142 [(.ip x1_0 0), (.ip x1_1 0)])] [] =
 bSh (.i .i64) (den E 183 [(.imm 1 x0), (.fn 142 [(.ip x1_0 0), (.ip x1_1 0)])] []) fun a1 =>
 some (.b (decide ((0 : Int) ≤ a1.toI))) := (den_eq ..).trans (by kernel_rfl)
/-! 63: loop.example/g00905/impl.allWithin -/
theorem f63_eq (x0 : List AV) (x1 : Int) (x2 : Int) : den E 63 [(.imm 1 x0), (.i .i64 x1), (.i .i64 x2)] [] =
 bSh .b (den E 141 [(.imm 1 x0), (.fn 142 [(.ip (.i .i64 x1) 0), (.ip (.i .i64 x2) 0)])] []) fun a1 =>
 some (.b (!a1.toB)) := (den_eq ..).trans (by kernel_rfl)
/-! 66: loop.example/g00905/impl.lessThan -/
theorem f66_eq (x0 : Int) (x1 : Int) : den E 66 [(.i .i64 x0), (.i .i64 x1)] [] =
 some (.b (decide (x0 < x1))) := (den_eq ..).trans (by kernel_rfl)
/-! 64: loop.example/g00905/impl.bestOf -/
noncomputable def f64q1_l1 (t0 : List AV) (t7 : Int) (t10 : List AV) (t11 : Int) (t12 : Int) : Option AV := Lp E fi64 [true, true, false, true, false] (mkT 49 [(0, (.imm 1 t0)), (2, (.fn 66 [])), (7, (.i .i64 t7)), (10, (.imm 1 t10)), (11, (.i .i64 t11)), (12, (.i .i64 t12))]) []
noncomputable def f64q1_j2 (t0 : List AV) (t7 : Int) (t10 : List AV) (t11 : Int) (t12 : Int) : Option AV := Jn E fi64 [true, true, false, true, false, false, true, true, true] (mkT 49 [(0, (.imm 1 t0)), (2, (.fn 66 [])), (7, (.i .i64 t7)), (10, (.imm 1 t10)), (11, (.i .i64 t11)), (12, (.i .i64 t12))]) []
theorem f64q1_eq (x0 : List AV) (x1 : List AV) : den E 64 [(.imm 1 x0), (.imm 1 x1), (.fn 66 [])] [] =
 f64q1_l1 x0 (-1 : Int) x1 ((x1.length : Nat) : Int) (0 : Int) := (den_eq ..).trans (by kernel_rfl)
theorem f64q1_l1_eq (t0 : List AV) (t7 : Int) (t10 : List AV) (t11 : Int) (t12 : Int) : f64q1_l1 t0 t7 t10 t11 t12 =
 cond (decide (t12 < t11))
 (if 0 ≤ t12 ∧ t12 < ((t10.length : Nat) : Int) then
 if okCells false (t10.getD t12.toNat .x) 0 [(.i .i64)] = true then
 cond ((decide (t7 < (0 : Int))) == false)
 (if 0 ≤ (((t10.getD t12.toNat .x).cells.getD 0 .x).toI) ∧ (((t10.getD t12.toNat .x).cells.getD 0 .x).toI) < ((t0.length : Nat) : Int) then
 if okCells false (t0.getD (((t10.getD t12.toNat .x).cells.getD 0 .x).toI).toNat .x) 0 [(.i .i64)] = true then
 if 0 ≤ t7 ∧ t7 < ((t0.length : Nat) : Int) then
 if okCells false (t0.getD t7.toNat .x) 0 [(.i .i64)] = true then
 bSh .b (den E 66 [(.i .i64 (((t0.getD (((t10.getD t12.toNat .x).cells.getD 0 .x).toI).toNat .x).cells.getD 0 .x).toI)), (.i .i64 (((t0.getD t7.toNat .x).cells.getD 0 .x).toI))] []) fun a1 =>
 cond (a1.toB == false)
 (if 0 ≤ (((t10.getD t12.toNat .x).cells.getD 0 .x).toI) ∧ (((t10.getD t12.toNat .x).cells.getD 0 .x).toI) < ((t0.length : Nat) : Int) then
 if okCells false (t0.getD (((t10.getD t12.toNat .x).cells.getD 0 .x).toI).toNat .x) 0 [(.i .i64)] = true then
 if 0 ≤ t7 ∧ t7 < ((t0.length : Nat) : Int) then
 if okCells false (t0.getD t7.toNat .x) 0 [(.i .i64)] = true then
 cond ((decide ((((t0.getD (((t10.getD t12.toNat .x).cells.getD 0 .x).toI).toNat .x).cells.getD 0 .x).toI) = (((t0.getD t7.toNat .x).cells.getD 0 .x).toI))) == true)
 (cond (decide ((((t10.getD t12.toNat .x).cells.getD 0 .x).toI) < t7))
 (f64q1_j2 t0 (((t10.getD t12.toNat .x).cells.getD 0 .x).toI) t10 t11 t12)
 (f64q1_j2 t0 t7 t10 t11 t12))
 (f64q1_j2 t0 t7 t10 t11 t12)
 else none
 else none
 else none
 else none)
 (f64q1_j2 t0 (((t10.getD t12.toNat .x).cells.getD 0 .x).toI) t10 t11 t12)
 else none
 else none
 else none
 else none)
 (f64q1_j2 t0 (((t10.getD t12.toNat .x).cells.getD 0 .x).toI) t10 t11 t12)
 else none
 else none)
 (some (.i .i64 t7)) := (Lp_eq ..).trans (by kernel_rfl)
theorem f64q1_j2_eq (t0 : List AV) (t7 : Int) (t10 : List AV) (t11 : Int) (t12 : Int) : f64q1_j2 t0 t7 t10 t11 t12 =
 f64q1_l1 t0 t7 t10 t11 (IntKind.i64.wrap (t12 + (1 : Int))) := by kernel_rfl
/-! 65: loop.example/g00905/impl.moreThan -/
theorem f65_eq (x0 : Int) (x1 : Int) : den E 65 [(.i .i64 x0), (.i .i64 x1)] [] =
 some (.b (decide (x1 < x0))) := (den_eq ..).trans (by kernel_rfl)
/-! 64: loop.example/g00905/impl.bestOf -/
noncomputable def f64q2_l1 (t0 : List AV) (t7 : Int) (t10 : List AV) (t11 : Int) (t12 : Int) : Option AV := Lp E fi64 [true, true, false, true, false] (mkT 49 [(0, (.imm 1 t0)), (2, (.fn 65 [])), (7, (.i .i64 t7)), (10, (.imm 1 t10)), (11, (.i .i64 t11)), (12, (.i .i64 t12))]) []
noncomputable def f64q2_j2 (t0 : List AV) (t7 : Int) (t10 : List AV) (t11 : Int) (t12 : Int) : Option AV := Jn E fi64 [true, true, false, true, false, false, true, true, true] (mkT 49 [(0, (.imm 1 t0)), (2, (.fn 65 [])), (7, (.i .i64 t7)), (10, (.imm 1 t10)), (11, (.i .i64 t11)), (12, (.i .i64 t12))]) []
theorem f64q2_eq (x0 : List AV) (x1 : List AV) : den E 64 [(.imm 1 x0), (.imm 1 x1), (.fn 65 [])] [] =
 f64q2_l1 x0 (-1 : Int) x1 ((x1.length : Nat) : Int) (0 : Int) := (den_eq ..).trans (by kernel_rfl)
theorem f64q2_l1_eq (t0 : List AV) (t7 : Int) (t10 : List AV) (t11 : Int) (t12 : Int) : f64q2_l1 t0 t7 t10 t11 t12 =
 cond (decide (t12 < t11))
 (if 0 ≤ t12 ∧ t12 < ((t10.length : Nat) : Int) then
 if okCells false (t10.getD t12.toNat .x) 0 [(.i .i64)] = true then
 cond ((decide (t7 < (0 : Int))) == false)
 (if 0 ≤ (((t10.getD t12.toNat .x).cells.getD 0 .x).toI) ∧ (((t10.getD t12.toNat .x).cells.getD 0 .x).toI) < ((t0.length : Nat) : Int) then
 if okCells false (t0.getD (((t10.getD t12.toNat .x).cells.getD 0 .x).toI).toNat .x) 0 [(.i .i64)] = true then
 if 0 ≤ t7 ∧ t7 < ((t0.length : Nat) : Int) then
 if okCells false (t0.getD t7.toNat .x) 0 [(.i .i64)] = true then
 bSh .b (den E 65 [(.i .i64 (((t0.getD (((t10.getD t12.toNat .x).cells.getD 0 .x).toI).toNat .x).cells.getD 0 .x).toI)), (.i .i64 (((t0.getD t7.toNat .x).cells.getD 0 .x).toI))] []) fun a1 =>
 cond (a1.toB == false)
 (if 0 ≤ (((t10.getD t12.toNat .x).cells.getD 0 .x).toI) ∧ (((t10.getD t12.toNat .x).cells.getD 0 .x).toI) < ((t0.length : Nat) : Int) then
 if okCells false (t0.getD (((t10.getD t12.toNat .x).cells.getD 0 .x).toI).toNat .x) 0 [(.i .i64)] = true then
 if 0 ≤ t7 ∧ t7 < ((t0.length : Nat) : Int) then
 if okCells false (t0.getD t7.toNat .x) 0 [(.i .i64)] = true then
 cond ((decide ((((t0.getD (((t10.getD t12.toNat .x).cells.getD 0 .x).toI).toNat .x).cells.getD 0 .x).toI) = (((t0.getD t7.toNat .x).cells.getD 0 .x).toI))) == true)
 (cond (decide ((((t10.getD t12.toNat .x).cells.getD 0 .x).toI) < t7))
 (f64q2_j2 t0 (((t10.getD t12.toNat .x).cells.getD 0 .x).toI) t10 t11 t12)
 (f64q2_j2 t0 t7 t10 t11 t12))
 (f64q2_j2 t0 t7 t10 t11 t12)
 else none
 else none
 else none
 else none)
 (f64q2_j2 t0 (((t10.getD t12.toNat .x).cells.getD 0 .x).toI) t10 t11 t12)
 else none
 else none
 else none
 else none)
 (f64q2_j2 t0 (((t10.getD t12.toNat .x).cells.getD 0 .x).toI) t10 t11 t12)
 else none
 else none)
 (some (.i .i64 t7)) := (Lp_eq ..).trans (by kernel_rfl)
theorem f64q2_j2_eq (t0 : List AV) (t7 : Int) (t10 : List AV) (t11 : Int) (t12 : Int) : f64q2_j2 t0 t7 t10 t11 t12 =
 f64q2_l1 t0 t7 t10 t11 (IntKind.i64.wrap (t12 + (1 : Int))) := by kernel_rfl
/-! 137: loop.example/g00905/impl.PickFree -/
theorem f137_eq (x0 : List AV) (x1 : List AV) (x2 : Bool) : den E 137 [(.imm 1 x0), (.imm 1 x1), (.b x2)] [] =
 bSh .b (den E 63 [(.imm 1 x1), (.i .i64 (0 : Int)), (.i .i64 (IntKind.i64.wrap (((x0.length : Nat) : Int) - (1 : Int))))] []) fun a1 =>
 cond (!a1.toB)
 (some (.i .i64 (-1 : Int)))
 (cond x2
 (bSh (.i .i64) (den E 64 [(.imm 1 x0), (.imm 1 x1), (.fn 66 [])] []) fun a2 =>
 some (.i .i64 a2.toI))
 (bSh (.i .i64) (den E 64 [(.imm 1 x0), (.imm 1 x1), (.fn 65 [])] []) fun a3 =>
 some (.i .i64 a3.toI))) := (den_eq ..).trans (by kernel_rfl)
/-! 57: (*loop.example/g00905/impl.Wear).place -/
noncomputable def f57o1_j1 (t6 : Int) (r0_3 : Int) (r1 : List AV) (r2 : List AV) (r3 : List AV) : Option (AV × List Root) := JnO E fi57 [(7, [6], 1000004)] 4 (.tup [(.i .i64), .b]) [true, true, true, true, true] (mkT 33 [(6, (.i .i64 t6))]) [(.live false true false 30 [(.agg [(.sl 1 [] none), (.sl 2 [] none), (.sl 3 [] none), (.i .i64 r0_3)])]), (.live true false false 2 r1), (.live true false false 4 r2), (.live true false false 2 r3)]
theorem f57o1_eq (x1 : Bool) (s0_3 : Int) (s1 : List AV) (s2 : List AV) (s3 : List AV) : dno E 57 [(.pt 0 [] 0 0), (.b x1)] [(.live false true false 30 [(.agg [(.sl 1 [] none), (.sl 2 [] none), (.sl 3 [] none), (.i .i64 s0_3)])]), (.live true false false 2 s1), (.live true false false 4 s2), (.live true false false 2 s3)] =
 bOwnF (.pr 0) [(.row true 2)] 0 (dno E 138 [(.agg [(.imm 1 s1), (.imm 1 s2), (.imm 1 s3), (.i .i64 s0_3)])] []) fun a1 =>
 bSh (.i .i64) (den E 137 [(.imm 1 s1), (.imm 1 ((((a1.2.getD 0 .dead).row).drop a1.1.off).take a1.1.cnt)), (.b x1)] []) fun a2 =>
 cond (decide (a2.toI < (0 : Int)))
 (some ((.tup [(.i .i64 (0 : Int)), (.b false)]), [(.live false true false 30 [(.agg [(.sl 1 [] none), (.sl 2 [] none), (.sl 3 [] none), (.i .i64 s0_3)])]), (.live true false false 2 s1), (.live true false false 4 s2), (.live true false false 2 s3)]))
 (if 0 ≤ a2.toI ∧ a2.toI < ((s3.length : Nat) : Int) then
 cond x1
 (if 0 ≤ a2.toI ∧ a2.toI < (((s3.set (0 + a2.toI.toNat) ((s3.getD (0 + a2.toI.toNat) .x).putCells 0 [(.i .i64 (1 : Int))])).length : Nat) : Int) then
 f57o1_j1 a2.toI s0_3 s1 s2 ((s3.set (0 + a2.toI.toNat) ((s3.getD (0 + a2.toI.toNat) .x).putCells 0 [(.i .i64 (1 : Int))])).set (0 + a2.toI.toNat) (((s3.set (0 + a2.toI.toNat) ((s3.getD (0 + a2.toI.toNat) .x).putCells 0 [(.i .i64 (1 : Int))])).getD (0 + a2.toI.toNat) .x).putCells 0 [(.i .i64 (2 : Int))]))
 else none)
 (f57o1_j1 a2.toI s0_3 s1 s2 (s3.set (0 + a2.toI.toNat) ((s3.getD (0 + a2.toI.toNat) .x).putCells 0 [(.i .i64 (1 : Int))])))
 else none) := (dno_eq ..).trans (by kernel_rfl)
theorem f57o1_j1_eq (t6 : Int) (r0_3 : Int) (r1 : List AV) (r2 : List AV) (r3 : List AV) : f57o1_j1 t6 r0_3 r1 r2 r3 =
 some ((.tup [(.i .i64 t6), (.b true)]), [(.live false true false 30 [(.agg [(.sl 1 [] none), (.sl 2 [] none), (.sl 3 [] none), (.i .i64 r0_3)])]), (.live true false false 2 r1), (.live true false false 4 r2), (.live true false false 2 r3)]) := by kernel_rfl
/-! 58: (*loop.example/g00905/impl.Wear).clear -/
theorem f58o1_eq (x1 : Int) (s0_3 : Int) (s1 : List AV) (s2 : List AV) (s3 : List AV) : dno E 58 [(.pt 0 [] 0 0), (.i .i64 x1)] [(.live false true false 30 [(.agg [(.sl 1 [] none), (.sl 2 [] none), (.sl 3 [] none), (.i .i64 s0_3)])]), (.live true false false 2 s1), (.live true false false 4 s2), (.live true false false 2 s3)] =
 if 0 ≤ x1 ∧ x1 < ((s1.length : Nat) : Int) then
 if okCells false (s1.getD (0 + x1.toNat) .x) 0 [(.i .i64)] = true then
 if 0 ≤ x1 ∧ x1 < ((s1.length : Nat) : Int) then
 if 0 ≤ x1 ∧ x1 < ((s3.length : Nat) : Int) then
 some ((.tup []), [(.live false true false 30 [(.agg [(.sl 1 [] none), (.sl 2 [] none), (.sl 3 [] none), (.i .i64 s0_3)])]), (.live true false false 2 (s1.set (0 + x1.toNat) ((s1.getD (0 + x1.toNat) .x).putCells 0 [(.i .i64 (IntKind.i64.wrap ((((s1.getD (0 + x1.toNat) .x).cells.getD 0 .x).toI) + (1 : Int))))]))), (.live true false false 4 s2), (.live true false false 2 (s3.set (0 + x1.toNat) ((s3.getD (0 + x1.toNat) .x).putCells 0 [(.i .i64 (0 : Int))])))])
 else none
 else none
 else none
 else none := (dno_eq ..).trans (by kernel_rfl)
/-! 12: loop.example/g00905/impl.RewriteHot -/
theorem f12o1_eq (x0_0 : List AV) (x0_1 : List AV) (x0_2 : List AV) (x0_3 : Int) (x1 : Int) : dno E 12 [(.agg [(.imm 1 x0_0), (.imm 1 x0_1), (.imm 1 x0_2), (.i .i64 x0_3)]), (.i .i64 x1)] [] =
 bSh .b (den E 54 [(.agg [(.imm 1 x0_0), (.imm 1 x0_1), (.imm 1 x0_2), (.i .i64 x0_3)])] []) fun a1 =>
 cond (!a1.toB)
 (some ((.tup [(.agg [(.sl 0 [] none), (.sl 1 [] none), (.sl 2 [] none), (.i .i64 (0 : Int))]), (.i .i64 (0 : Int)), (.i .i64 (1 : Int))]), [(.live true false false 2 []), (.live true false false 4 []), (.live true false false 2 [])]))
 (bSh .b (den E 55 [(.i .i64 x1), (.i .i64 ((x0_0.length : Nat) : Int))] []) fun a2 =>
 cond (!a2.toB)
 (some ((.tup [(.agg [(.sl 0 [] none), (.sl 1 [] none), (.sl 2 [] none), (.i .i64 (0 : Int))]), (.i .i64 (0 : Int)), (.i .i64 (2 : Int))]), [(.live true false false 2 []), (.live true false false 4 []), (.live true false false 2 [])]))
 (if 0 ≤ x1 ∧ x1 < ((x0_2.length : Nat) : Int) then
 if okCells false (x0_2.getD x1.toNat .x) 0 [(.i .i64)] = true then
 cond (!decide ((((x0_2.getD x1.toNat .x).cells.getD 0 .x).toI) = (2 : Int)))
 (some ((.tup [(.agg [(.sl 0 [] none), (.sl 1 [] none), (.sl 2 [] none), (.i .i64 (0 : Int))]), (.i .i64 (0 : Int)), (.i .i64 (5 : Int))]), [(.live true false false 2 []), (.live true false false 4 []), (.live true false false 2 [])]))
 (if 0 ≤ x1 ∧ x1 < ((x0_0.length : Nat) : Int) then
 if okCells false (x0_0.getD x1.toNat .x) 0 [(.i .i64)] = true then
 cond (decide ((1000 : Int) ≤ (((x0_0.getD x1.toNat .x).cells.getD 0 .x).toI)))
 (some ((.tup [(.agg [(.sl 0 [] none), (.sl 1 [] none), (.sl 2 [] none), (.i .i64 (0 : Int))]), (.i .i64 (0 : Int)), (.i .i64 (7 : Int))]), [(.live true false false 2 []), (.live true false false 4 []), (.live true false false 2 [])]))
 (bOwn (.agg [(.so 0), (.so 1), (.so 2), (.i .i64)]) [(.row true 2), (.row true 4), (.row true 2)] 0 (dno E 56 [(.agg [(.imm 1 x0_0), (.imm 1 x0_1), (.imm 1 x0_2), (.i .i64 x0_3)])] []) fun a3 =>
 bOwnS (.tup [(.i .i64), .b]) [(.var 30 (.agg [(.so 1), (.so 2), (.so 3), (.i .i64)])), (.same 2), (.same 4), (.same 2)] 4 [(.live false true false 30 [(.agg [(.sl 1 [] none), (.sl 2 [] none), (.sl 3 [] none), (.i .i64 ((a3.1.nth 3).toI))])]), (.live true false false 2 ((a3.2.getD 0 .dead).row)), (.live true false false 4 ((a3.2.getD 1 .dead).row)), (.live true false false 2 ((a3.2.getD 2 .dead).row))] (dno E 57 [(.pt 0 [] 0 0), (.b true)] [(.live false true false 30 [(.agg [(.sl 1 [] none), (.sl 2 [] none), (.sl 3 [] none), (.i .i64 ((a3.1.nth 3).toI))])]), (.live true false false 2 ((a3.2.getD 0 .dead).row)), (.live true false false 4 ((a3.2.getD 1 .dead).row)), (.live true false false 2 ((a3.2.getD 2 .dead).row))]) fun a4 =>
 cond (!((a4.1.nth 1).toB))
 (some ((.tup [(.agg [(.sl 0 [] none), (.sl 1 [] none), (.sl 2 [] none), (.i .i64 (0 : Int))]), (.i .i64 (0 : Int)), (.i .i64 (4 : Int))]), [(.live true false false 2 []), (.live true false false 4 []), (.live true false false 2 [])]))
 (bOwnS (.tup []) [(.var 30 (.agg [(.so 1), (.so 2), (.so 3), (.i .i64)])), (.same 2), (.same 4), (.same 2)] 4 [(.live false true false 30 [(.agg [(.sl 1 [] none), (.sl 2 [] none), (.sl 3 [] none), (.i .i64 ((((a4.2.getD 0 .dead).row.headD .x).nth 3).toI))])]), (.live true false false 2 ((a4.2.getD 1 .dead).row)), (.live true false false 4 ((a4.2.getD 2 .dead).row)), (.live true false false 2 ((a4.2.getD 3 .dead).row))] (dno E 58 [(.pt 0 [] 0 0), (.i .i64 x1)] [(.live false true false 30 [(.agg [(.sl 1 [] none), (.sl 2 [] none), (.sl 3 [] none), (.i .i64 ((((a4.2.getD 0 .dead).row.headD .x).nth 3).toI))])]), (.live true false false 2 ((a4.2.getD 1 .dead).row)), (.live true false false 4 ((a4.2.getD 2 .dead).row)), (.live true false false 2 ((a4.2.getD 3 .dead).row))]) fun a5 =>
 some ((.tup [(.agg [(.sl 0 [] none), (.sl 1 [] none), (.sl 2 [] none), (.i .i64 ((((a5.2.getD 0 .dead).row.headD .x).nth 3).toI))]), (.i .i64 ((a4.1.nth 0).toI)), (.i .i64 (0 : Int))]), [(.live true false false 2 ((a5.2.getD 1 .dead).row)), (.live true false false 4 ((a5.2.getD 2 .dead).row)), (.live true false false 2 ((a5.2.getD 3 .dead).row))])))
 else none
 else none)
 else none
 else none)) := (dno_eq ..).trans (by kernel_rfl)
/-! 59: loop.example/g00905/spec.l00In -/
theorem f59_eq (x0 : Int) (x1 : Int) (x2 : Int) : den E 59 [(.i .i64 x0), (.i .i64 x1), (.i .i64 x2)] [] =
 cond ((decide (x1 ≤ x0)) == true)
 (some (.b (decide (x0 ≤ x2))))
 (some (.b false)) := (den_eq ..).trans (by kernel_rfl)
/-! 13: loop.example/g00905/spec.ValidWear -/
noncomputable def f13_l1 (t3 : Int) (t4 : Int) (r0_0 : List AV) (r0_1 : List AV) (r0_2 : List AV) (r0_3 : Int) : Option AV := Lp E fi13 [true, true, true, false, true, false] (mkT 70 [(1, (.pt 0 [] 0 0)), (3, (.i .i64 t3)), (4, (.i .i64 t4))]) [(.live false true false 30 [(.agg [(.imm 1 r0_0), (.imm 1 r0_1), (.imm 1 r0_2), (.i .i64 r0_3)])])]
noncomputable def f13_j2 (t3 : Int) (t4 : Int) (r0_0 : List AV) (r0_1 : List AV) (r0_2 : List AV) (r0_3 : Int) : Option AV := Jn E fi13 [true, true, true, false, true, false, false, true, true] (mkT 70 [(1, (.pt 0 [] 0 0)), (3, (.i .i64 t3)), (4, (.i .i64 t4))]) [(.live false true false 30 [(.agg [(.imm 1 r0_0), (.imm 1 r0_1), (.imm 1 r0_2), (.i .i64 r0_3)])])]
theorem f13_eq (x0_0 : List AV) (x0_1 : List AV) (x0_2 : List AV) (x0_3 : Int) : den E 13 [(.agg [(.imm 1 x0_0), (.imm 1 x0_1), (.imm 1 x0_2), (.i .i64 x0_3)])] [] =
 cond ((decide (((x0_0.length : Nat) : Int) < (1 : Int))) == false)
 (cond ((decide ((36 : Int) < ((x0_0.length : Nat) : Int))) == false)
 (cond ((!decide (((x0_1.length : Nat) : Int) = ((x0_0.length : Nat) : Int))) == false)
 (cond ((!decide (((x0_2.length : Nat) : Int) = ((x0_0.length : Nat) : Int))) == false)
 (bSh .b (den E 59 [(.i .i64 x0_3), (.i .i64 (1 : Int)), (.i .i64 (100 : Int))] []) fun a1 =>
 cond (!a1.toB)
 (some (.b false))
 (f13_l1 ((x0_0.length : Nat) : Int) (0 : Int) x0_0 x0_1 x0_2 x0_3))
 (some (.b false)))
 (some (.b false)))
 (some (.b false)))
 (some (.b false)) := (den_eq ..).trans (by kernel_rfl)
theorem f13_l1_eq (t3 : Int) (t4 : Int) (r0_0 : List AV) (r0_1 : List AV) (r0_2 : List AV) (r0_3 : Int) : f13_l1 t3 t4 r0_0 r0_1 r0_2 r0_3 =
 cond (decide (t4 < t3))
 (if 0 ≤ t4 ∧ t4 < ((r0_0.length : Nat) : Int) then
 if okCells false (r0_0.getD t4.toNat .x) 0 [(.i .i64)] = true then
 bSh .b (den E 59 [(.i .i64 (((r0_0.getD t4.toNat .x).cells.getD 0 .x).toI)), (.i .i64 (0 : Int)), (.i .i64 (1000 : Int))] []) fun a1 =>
 cond ((!a1.toB) == false)
 (if 0 ≤ t4 ∧ t4 < ((r0_2.length : Nat) : Int) then
 if okCells false (r0_2.getD t4.toNat .x) 0 [(.i .i64)] = true then
 bSh .b (den E 59 [(.i .i64 (((r0_2.getD t4.toNat .x).cells.getD 0 .x).toI)), (.i .i64 (0 : Int)), (.i .i64 (2 : Int))] []) fun a2 =>
 cond ((!a2.toB) == false)
 (if 0 ≤ t4 ∧ t4 < ((r0_1.length : Nat) : Int) then
 if okCells false (r0_1.getD t4.toNat .x) 0 [.b] = true then
 cond ((((r0_1.getD t4.toNat .x).cells.getD 0 .x).toB) == true)
 (if 0 ≤ t4 ∧ t4 < ((r0_2.length : Nat) : Int) then
 if okCells false (r0_2.getD t4.toNat .x) 0 [(.i .i64)] = true then
 cond (!decide ((((r0_2.getD t4.toNat .x).cells.getD 0 .x).toI) = (0 : Int)))
 (some (.b false))
 (f13_j2 t3 t4 r0_0 r0_1 r0_2 r0_3)
 else none
 else none)
 (f13_j2 t3 t4 r0_0 r0_1 r0_2 r0_3)
 else none
 else none)
 (some (.b false))
 else none
 else none)
 (some (.b false))
 else none
 else none)
 (some (.b true)) := (Lp_eq ..).trans (by kernel_rfl)
theorem f13_j2_eq (t3 : Int) (t4 : Int) (r0_0 : List AV) (r0_1 : List AV) (r0_2 : List AV) (r0_3 : Int) : f13_j2 t3 t4 r0_0 r0_1 r0_2 r0_3 =
 f13_l1 t3 (IntKind.i64.wrap (t4 + (1 : Int))) r0_0 r0_1 r0_2 r0_3 := by kernel_rfl
/-! 15: loop.example/g00905/impl.WearGap -/
theorem f15_eq (x0 : List AV) (x1 : List AV) : den E 15 [(.imm 1 x0), (.imm 1 x1)] [] =
 bOwn (.so 0) [(.row true 2)] 0 (dno E 62 [(.imm 1 x0), (.imm 1 x1)] []) fun a1 =>
 cond ((decide (((((a1.2.getD 0 .dead).row).length : Nat) : Int) = (0 : Int))) == false)
 (bSh .b (den E 63 [(.imm 1 x0), (.i .i64 (0 : Int)), (.i .i64 (1000 : Int))] []) fun a2 =>
 cond (!a2.toB)
 (some (.i .i64 (0 : Int)))
 (bSh (.i .i64) (den E 64 [(.imm 1 x0), (.imm 1 ((a1.2.getD 0 .dead).row)), (.fn 65 [])] []) fun a3 =>
 if 0 ≤ a3.toI ∧ a3.toI < ((x0.length : Nat) : Int) then
 if okCells false (x0.getD a3.toI.toNat .x) 0 [(.i .i64)] = true then
 bSh (.i .i64) (den E 64 [(.imm 1 x0), (.imm 1 ((a1.2.getD 0 .dead).row)), (.fn 66 [])] []) fun a4 =>
 if 0 ≤ a4.toI ∧ a4.toI < ((x0.length : Nat) : Int) then
 if okCells false (x0.getD a4.toI.toNat .x) 0 [(.i .i64)] = true then
 some (.i .i64 (IntKind.i64.wrap ((((x0.getD a3.toI.toNat .x).cells.getD 0 .x).toI) - (((x0.getD a4.toI.toNat .x).cells.getD 0 .x).toI))))
 else none
 else none
 else none
 else none))
 (some (.i .i64 (0 : Int))) := (den_eq ..).trans (by kernel_rfl)
/-! 139: loop.example/g00905/impl.NeedsLevelling -/
theorem f139_eq (x0 : List AV) (x1 : List AV) (x2 : Int) : den E 139 [(.imm 1 x0), (.imm 1 x1), (.i .i64 x2)] [] =
 bSh (.i .i64) (den E 15 [(.imm 1 x0), (.imm 1 x1)] []) fun a1 =>
 some (.b (decide (x2 < a1.toI))) := (den_eq ..).trans (by kernel_rfl)
/-! 60: (loop.example/g00905/impl.Wear).needs -/
theorem f60_eq (x0_0 : List AV) (x0_1 : List AV) (x0_2 : List AV) (x0_3 : Int) : den E 60 [(.agg [(.imm 1 x0_0), (.imm 1 x0_1), (.imm 1 x0_2), (.i .i64 x0_3)])] [] =
 bSh .b (den E 139 [(.imm 1 x0_0), (.imm 1 x0_1), (.i .i64 x0_3)] []) fun a1 =>
 some (.b a1.toB) := (den_eq ..).trans (by kernel_rfl)
/-! 89: slices.Index[[]int64,int64] -/
noncomputable def f89_l1 (t0 : List AV) (t1 : Int) (t7 : Int) (t8 : Int) : Option AV := Lp E fi89 [true, false, true, false] (mkT 19 [(0, (.imm 1 t0)), (1, (.i .i64 t1)), (7, (.i .i64 t7)), (8, (.i .i64 t8))]) []
theorem f89_eq (x0 : List AV) (x1 : Int) : den E 89 [(.imm 1 x0), (.i .i64 x1)] [] =
 f89_l1 x0 x1 ((x0.length : Nat) : Int) (0 : Int) := (den_eq ..).trans (by kernel_rfl)
theorem f89_l1_eq (t0 : List AV) (t1 : Int) (t7 : Int) (t8 : Int) : f89_l1 t0 t1 t7 t8 =
 cond (decide (t8 < t7))
 (if 0 ≤ t8 ∧ t8 < ((t0.length : Nat) : Int) then
 if okCells false (t0.getD t8.toNat .x) 0 [(.i .i64)] = true then
 cond (decide (t1 = (((t0.getD t8.toNat .x).cells.getD 0 .x).toI)))
 (some (.i .i64 t8))
 (f89_l1 t0 t1 t7 (IntKind.i64.wrap (t8 + (1 : Int))))
 else none
 else none)
 (some (.i .i64 (-1 : Int))) := (Lp_eq ..).trans (by kernel_rfl)
/-! 88: slices.Contains[[]int64,int64] -/
theorem f88_eq (x0 : List AV) (x1 : Int) : den E 88 [(.imm 1 x0), (.i .i64 x1)] [] =
 bSh (.i .i64) (den E 89 [(.imm 1 x0), (.i .i64 x1)] []) fun a1 =>
 some (.b (decide ((0 : Int) ≤ a1.toI))) := (den_eq ..).trans (by kernel_rfl)
/-! 182: loop.example/g00905/impl.PickStatic$1 -/
theorem f182q1_eq (x0 : Int) (x1 : AV) : den E 182 [(.i .i64 x0), (.ip x1 0)] [] =
 if okCells false x1 0 [(.sl 2 1)] = true then
 bSh .b (den E 88 [(.imm 1 ((x1.cells.getD 0 .x).toL)), (.i .i64 x0)] []) fun a1 =>
 some (.b a1.toB)
 else none := (den_eq ..).trans (by kernel_rfl)
/-! 183: slices.IndexFunc[[]int64,int64] -/
noncomputable def f183q3_l1 (t0 : List AV) (t1_0 : AV) (t7 : Int) (t8 : Int) : Option AV := Lp E fi183 [true, false, true, false] (mkT 19 [(0, (.imm 1 t0)), (1, (.fn 182 [(.ip t1_0 0)])), (7, (.i .i64 t7)), (8, (.i .i64 t8))]) []
theorem f183q3_eq (x0 : List AV) (x1_0 : AV) : den E 183 [(.imm 1 x0), (.fn 182 [(.ip x1_0 0)])] [] =
 f183q3_l1 x0 x1_0 ((x0.length : Nat) : Int) (0 : Int) := (den_eq ..).trans (by kernel_rfl)
theorem f183q3_l1_eq (t0 : List AV) (t1_0 : AV) (t7 : Int) (t8 : Int) : f183q3_l1 t0 t1_0 t7 t8 =
 cond (decide (t8 < t7))
 (if 0 ≤ t8 ∧ t8 < ((t0.length : Nat) : Int) then
 if okCells false (t0.getD t8.toNat .x) 0 [(.i .i64)] = true then
 bSh .b (den E 182 [(.i .i64 (((t0.getD t8.toNat .x).cells.getD 0 .x).toI)), (.ip t1_0 0)] []) fun a1 =>
 cond a1.toB
 (some (.i .i64 t8))
 (f183q3_l1 t0 t1_0 t7 (IntKind.i64.wrap (t8 + (1 : Int))))
 else none
 else none)
 (some (.i .i64 (-1 : Int))) := (Lp_eq ..).trans (by kernel_rfl)
/-! 145: slices.DeleteFunc[[]int64,int64] -/
noncomputable def f145o2_l1 (t1_0 : AV) (t5 : Int) (t6 : Int) (r0 : List AV) : Option (AV × List Root) := LpO E fi145 [(5, [0, 1, 5, 6], 1000001), (6, [0, 1, 5, 6], 1000001)] 1 (.pr 0) [true, true, true, false, true, false] (mkT 42 [(0, (.sl 0 [] none)), (1, (.fn 182 [(.ip t1_0 0)])), (5, (.i .i64 t5)), (6, (.i .i64 t6))]) [(.live true false false 2 r0)]
noncomputable def f145o2_j2 (t1_0 : AV) (t5 : Int) (t6 : Int) (r0 : List AV) : Option (AV × List Root) := JnO E fi145 [(5, [0, 1, 5, 6], 1000001), (6, [0, 1, 5, 6], 1000001)] 1 (.pr 0) [true, true, true, false, true, false, false, true, true] (mkT 42 [(0, (.sl 0 [] none)), (1, (.fn 182 [(.ip t1_0 0)])), (5, (.i .i64 t5)), (6, (.i .i64 t6))]) [(.live true false false 2 r0)]
theorem f145o2_eq (x1_0 : AV) (s0 : List AV) : dno E 145 [(.sl 0 [] none), (.fn 182 [(.ip x1_0 0)])] [(.live true false false 2 s0)] =
 bSh (.i .i64) (den E 183 [(.imm 1 s0), (.fn 182 [(.ip x1_0 0)])] []) fun a1 =>
 cond (decide (a1.toI = (-1 : Int)))
 (some ((.sl 0 [] (some (0, s0.length))), [(.live true false false 2 s0)]))
 (f145o2_l1 x1_0 a1.toI (IntKind.i64.wrap (a1.toI + (1 : Int))) s0) := (dno_eq ..).trans (by kernel_rfl)
theorem f145o2_l1_eq (t1_0 : AV) (t5 : Int) (t6 : Int) (r0 : List AV) : f145o2_l1 t1_0 t5 t6 r0 =
 cond (decide (t6 < ((r0.length : Nat) : Int)))
 (if 0 ≤ t6 ∧ t6 < ((r0.length : Nat) : Int) then
 if okCells false (r0.getD (0 + t6.toNat) .x) 0 [(.i .i64)] = true then
 bSh .b (den E 182 [(.i .i64 (((r0.getD (0 + t6.toNat) .x).cells.getD 0 .x).toI)), (.ip t1_0 0)] []) fun a1 =>
 cond (!a1.toB)
 (if 0 ≤ t5 ∧ t5 < ((r0.length : Nat) : Int) then
 f145o2_j2 t1_0 (IntKind.i64.wrap (t5 + (1 : Int))) t6 (r0.set (0 + t5.toNat) ((r0.getD (0 + t5.toNat) .x).putCells 0 [(.i .i64 (((r0.getD (0 + t6.toNat) .x).cells.getD 0 .x).toI))]))
 else none)
 (f145o2_j2 t1_0 t5 t6 r0)
 else none
 else none)
 (if 0 ≤ t5 ∧ t5 ≤ ((r0.length : Nat) : Int) ∧ ((r0.length : Nat) : Int) ≤ ((r0.length : Nat) : Int) then
 if 0 ≤ (0 : Int) ∧ (0 : Int) ≤ t5 ∧ t5 ≤ (((r0.take t5.toNat ++ List.replicate (((r0.length : Nat) : Int).toNat - t5.toNat) ((.i .i64 (0 : Int)) : AV) ++ r0.drop (t5.toNat + (((r0.length : Nat) : Int).toNat - t5.toNat))).length : Nat) : Int) then
 some ((.sl 0 [] (some ((0 : Int).toNat, (t5.toNat - (0 : Int).toNat)))), [(.live true false false 2 (r0.take t5.toNat ++ List.replicate (((r0.length : Nat) : Int).toNat - t5.toNat) ((.i .i64 (0 : Int)) : AV) ++ r0.drop (t5.toNat + (((r0.length : Nat) : Int).toNat - t5.toNat))))])
 else none
 else none) := (LpO_eq ..).trans (by kernel_rfl)
theorem f145o2_j2_eq (t1_0 : AV) (t5 : Int) (t6 : Int) (r0 : List AV) : f145o2_j2 t1_0 t5 t6 r0 =
 f145o2_l1 t1_0 t5 (IntKind.i64.wrap (t6 + (1 : Int))) r0 := by kernel_rfl
/-! 140: loop.example/g00905/impl.PickStatic -/
theorem f140q1_eq (x0 : List AV) (x1 : List AV) : den E 140 [(.imm 1 x0), (.imm 1 x1), (.imm 0 [])] [] =
 bOwn (.so 0) [(.row true 2)] 0 (dno E 62 [(.imm 1 x0), (.imm 1 x1)] []) fun a1 =>
 bOwnFS (.pr 0) [(.same 2)] 1 [(.live true false false 2 ((a1.2.getD 0 .dead).row))] (dno E 145 [(.sl 0 [] none), (.fn 182 [(.ip (.imm 0 []) 0)])] [(.live true false false 2 ((a1.2.getD 0 .dead).row))]) fun a2 =>
 bSh (.i .i64) (den E 64 [(.imm 1 x0), (.imm 1 ((((a2.2.getD 0 .dead).row).drop a2.1.off).take a2.1.cnt)), (.fn 66 [])] []) fun a3 =>
 some (.i .i64 a3.toI) := (den_eq ..).trans (by kernel_rfl)
/-! 61: (*loop.example/g00905/impl.Wear).move -/
noncomputable def f61o1_j1 (t3 : Int) (r0_3 : Int) (r1 : List AV) (r2 : List AV) (r3 : List AV) : Option (AV × List Root) := JnO E fi61 [(7, [0, 3], 1000004)] 4 (.i .i64) [true, true, true] (mkT 49 [(0, (.pt 0 [] 0 0)), (3, (.i .i64 t3))]) [(.live false true false 30 [(.agg [(.sl 1 [] none), (.sl 2 [] none), (.sl 3 [] none), (.i .i64 r0_3)])]), (.live true false false 2 r1), (.live true false false 4 r2), (.live true false false 2 r3)]
theorem f61o1_eq (s0_3 : Int) (s1 : List AV) (s2 : List AV) (s3 : List AV) : dno E 61 [(.pt 0 [] 0 0)] [(.live false true false 30 [(.agg [(.sl 1 [] none), (.sl 2 [] none), (.sl 3 [] none), (.i .i64 s0_3)])]), (.live true false false 2 s1), (.live true false false 4 s2), (.live true false false 2 s3)] =
 bSh (.i .i64) (den E 140 [(.imm 1 s1), (.imm 1 s2), (.imm 0 [])] []) fun a1 =>
 if 0 ≤ a1.toI ∧ a1.toI < ((s3.length : Nat) : Int) then
 if okCells false (s3.getD (0 + a1.toI.toNat) .x) 0 [(.i .i64)] = true then
 cond (!decide ((((s3.getD (0 + a1.toI.toNat) .x).cells.getD 0 .x).toI) = (0 : Int)))
 (bOwnF (.pr 0) [(.row true 2)] 0 (dno E 138 [(.agg [(.imm 1 s1), (.imm 1 s2), (.imm 1 s3), (.i .i64 s0_3)])] []) fun a2 =>
 bSh (.i .i64) (den E 137 [(.imm 1 s1), (.imm 1 ((((a2.2.getD 0 .dead).row).drop a2.1.off).take a2.1.cnt)), (.b false)] []) fun a3 =>
 cond (decide (a3.toI < (0 : Int)))
 (some ((.i .i64 (4 : Int)), [(.live false true false 30 [(.agg [(.sl 1 [] none), (.sl 2 [] none), (.sl 3 [] none), (.i .i64 s0_3)])]), (.live true false false 2 s1), (.live true false false 4 s2), (.live true false false 2 s3)]))
 (if 0 ≤ a1.toI ∧ a1.toI < ((s3.length : Nat) : Int) then
 if okCells false (s3.getD (0 + a1.toI.toNat) .x) 0 [(.i .i64)] = true then
 if 0 ≤ a3.toI ∧ a3.toI < ((s3.length : Nat) : Int) then
 f61o1_j1 a1.toI s0_3 s1 s2 (s3.set (0 + a3.toI.toNat) ((s3.getD (0 + a3.toI.toNat) .x).putCells 0 [(.i .i64 (((s3.getD (0 + a1.toI.toNat) .x).cells.getD 0 .x).toI))]))
 else none
 else none
 else none))
 (f61o1_j1 a1.toI s0_3 s1 s2 s3)
 else none
 else none := (dno_eq ..).trans (by kernel_rfl)
theorem f61o1_j1_eq (t3 : Int) (r0_3 : Int) (r1 : List AV) (r2 : List AV) (r3 : List AV) : f61o1_j1 t3 r0_3 r1 r2 r3 =
 bOwnS (.tup []) [(.var 30 (.agg [(.so 1), (.so 2), (.so 3), (.i .i64)])), (.same 2), (.same 4), (.same 2)] 4 [(.live false true false 30 [(.agg [(.sl 1 [] none), (.sl 2 [] none), (.sl 3 [] none), (.i .i64 r0_3)])]), (.live true false false 2 r1), (.live true false false 4 r2), (.live true false false 2 r3)] (dno E 58 [(.pt 0 [] 0 0), (.i .i64 t3)] [(.live false true false 30 [(.agg [(.sl 1 [] none), (.sl 2 [] none), (.sl 3 [] none), (.i .i64 r0_3)])]), (.live true false false 2 r1), (.live true false false 4 r2), (.live true false false 2 r3)]) fun a1 =>
 some ((.i .i64 (0 : Int)), [(.live false true false 30 [(.agg [(.sl 1 [] none), (.sl 2 [] none), (.sl 3 [] none), (.i .i64 ((((a1.2.getD 0 .dead).row.headD .x).nth 3).toI))])]), (.live true false false 2 ((a1.2.getD 1 .dead).row)), (.live true false false 4 ((a1.2.getD 2 .dead).row)), (.live true false false 2 ((a1.2.getD 3 .dead).row))]) := by kernel_rfl
/-! 14: loop.example/g00905/impl.LevelWear -/
noncomputable def f14o1_l1 (t6 : Int) (r0_3 : Int) (r1_3 : Int) (r2 : List AV) (r3 : List AV) (r4 : List AV) (r5 : List AV) (r6 : List AV) (r7 : List AV) : Option (AV × List Root) := LpO E fi14 [(5, [2, 5, 6], 1000000)] 0 (.tup [(.agg [(.so 0), (.so 1), (.so 2), (.i .i64)]), (.i .i64), (.i .i64)]) [true, true, true, true, false, false] (mkT 25 [(2, (.pt 0 [] 0 0)), (5, (.pt 1 [] 0 0)), (6, (.i .i64 t6))]) [(.live false true false 30 [(.agg [(.sl 2 [] none), (.sl 3 [] none), (.sl 4 [] none), (.i .i64 r0_3)])]), (.live false true false 30 [(.agg [(.sl 5 [] none), (.sl 6 [] none), (.sl 7 [] none), (.i .i64 r1_3)])]), (.live true false false 2 r2), (.live true false false 4 r3), (.live true false false 2 r4), (.live true false false 2 r5), (.live true false false 4 r6), (.live true false false 2 r7)]
theorem f14o1_eq (x0_0 : List AV) (x0_1 : List AV) (x0_2 : List AV) (x0_3 : Int) : dno E 14 [(.agg [(.imm 1 x0_0), (.imm 1 x0_1), (.imm 1 x0_2), (.i .i64 x0_3)])] [] =
 bSh .b (den E 54 [(.agg [(.imm 1 x0_0), (.imm 1 x0_1), (.imm 1 x0_2), (.i .i64 x0_3)])] []) fun a1 =>
 cond (!a1.toB)
 (some ((.tup [(.agg [(.sl 0 [] none), (.sl 1 [] none), (.sl 2 [] none), (.i .i64 (0 : Int))]), (.i .i64 (0 : Int)), (.i .i64 (1 : Int))]), [(.live true false false 2 []), (.live true false false 4 []), (.live true false false 2 [])]))
 (bOwn (.agg [(.so 0), (.so 1), (.so 2), (.i .i64)]) [(.row true 2), (.row true 4), (.row true 2)] 0 (dno E 56 [(.agg [(.imm 1 x0_0), (.imm 1 x0_1), (.imm 1 x0_2), (.i .i64 x0_3)])] []) fun a2 =>
 f14o1_l1 (0 : Int) (0 : Int) ((a2.1.nth 3).toI) [] [] [] ((a2.2.getD 0 .dead).row) ((a2.2.getD 1 .dead).row) ((a2.2.getD 2 .dead).row)) := (dno_eq ..).trans (by kernel_rfl)
theorem f14o1_l1_eq (t6 : Int) (r0_3 : Int) (r1_3 : Int) (r2 : List AV) (r3 : List AV) (r4 : List AV) (r5 : List AV) (r6 : List AV) (r7 : List AV) : f14o1_l1 t6 r0_3 r1_3 r2 r3 r4 r5 r6 r7 =
 bSh .b (den E 60 [(.agg [(.imm 1 r5), (.imm 1 r6), (.imm 1 r7), (.i .i64 r1_3)])] []) fun a1 =>
 cond a1.toB
 (bOwnS (.i .i64) [(.var 30 (.agg [(.so 1), (.so 2), (.so 3), (.i .i64)])), (.same 2), (.same 4), (.same 2)] 4 [(.live false true false 30 [(.agg [(.sl 1 [] none), (.sl 2 [] none), (.sl 3 [] none), (.i .i64 r1_3)])]), (.live true false false 2 r5), (.live true false false 4 r6), (.live true false false 2 r7)] (dno E 61 [(.pt 0 [] 0 0)] [(.live false true false 30 [(.agg [(.sl 1 [] none), (.sl 2 [] none), (.sl 3 [] none), (.i .i64 r1_3)])]), (.live true false false 2 r5), (.live true false false 4 r6), (.live true false false 2 r7)]) fun a2 =>
 cond (!decide (a2.1.toI = (0 : Int)))
 (some ((.tup [(.agg [(.sl 0 [] none), (.sl 1 [] none), (.sl 2 [] none), (.i .i64 (0 : Int))]), (.i .i64 (0 : Int)), (.i .i64 a2.1.toI)]), [(.live true false false 2 []), (.live true false false 4 []), (.live true false false 2 [])]))
 (f14o1_l1 (IntKind.i64.wrap (t6 + (1 : Int))) r0_3 ((((a2.2.getD 0 .dead).row.headD .x).nth 3).toI) r2 r3 r4 ((a2.2.getD 1 .dead).row) ((a2.2.getD 2 .dead).row) ((a2.2.getD 3 .dead).row)))
 (some ((.tup [(.agg [(.sl 0 [] none), (.sl 1 [] none), (.sl 2 [] none), (.i .i64 r1_3)]), (.i .i64 t6), (.i .i64 (0 : Int))]), [(.live true false false 2 r5), (.live true false false 4 r6), (.live true false false 2 r7)])) := (LpO_eq ..).trans (by kernel_rfl)
/-! 16: loop.example/g00905/impl.WearExcess -/
noncomputable def f16_l1 (t0 : List AV) (t6 : Int) (t7 : Int) (t25 : Int) (t26 : Int) (r0 : List AV) : Option AV := Lp E fi16 [true, true, true, true, true, false, true, false] (mkT 56 [(0, (.imm 1 t0)), (5, (.sl 0 [] none)), (6, (.i .i64 t6)), (7, (.i .i64 t7)), (24, (.sl 0 [] none)), (25, (.i .i64 t25)), (26, (.i .i64 t26))]) [(.live true false false 2 r0)]
theorem f16_eq (x0 : List AV) (x1 : List AV) : den E 16 [(.imm 1 x0), (.imm 1 x1)] [] =
 bOwn (.so 0) [(.row true 2)] 0 (dno E 62 [(.imm 1 x0), (.imm 1 x1)] []) fun a1 =>
 cond ((decide ((IntKind.i64.wrap (((((a1.2.getD 0 .dead).row).length : Nat) : Int) - (1 : Int))) < (1 : Int))) == false)
 (bSh .b (den E 63 [(.imm 1 x0), (.i .i64 (0 : Int)), (.i .i64 (1000 : Int))] []) fun a2 =>
 cond (!a2.toB)
 (some (.i .i64 (0 : Int)))
 (f16_l1 x0 (IntKind.i64.wrap (((((a1.2.getD 0 .dead).row).length : Nat) : Int) - (1 : Int))) (0 : Int) ((((a1.2.getD 0 .dead).row).length : Nat) : Int) (0 : Int) ((a1.2.getD 0 .dead).row)))
 (some (.i .i64 (0 : Int))) := (den_eq ..).trans (by kernel_rfl)
theorem f16_l1_eq (t0 : List AV) (t6 : Int) (t7 : Int) (t25 : Int) (t26 : Int) (r0 : List AV) : f16_l1 t0 t6 t7 t25 t26 r0 =
 cond (decide (t26 < t25))
 (if 0 ≤ t26 ∧ t26 < ((r0.length : Nat) : Int) then
 if okCells false (r0.getD (0 + t26.toNat) .x) 0 [(.i .i64)] = true then
 if 0 ≤ (((r0.getD (0 + t26.toNat) .x).cells.getD 0 .x).toI) ∧ (((r0.getD (0 + t26.toNat) .x).cells.getD 0 .x).toI) < ((t0.length : Nat) : Int) then
 if okCells false (t0.getD (((r0.getD (0 + t26.toNat) .x).cells.getD 0 .x).toI).toNat .x) 0 [(.i .i64)] = true then
 f16_l1 t0 t6 (IntKind.i64.wrap (t7 + (((t0.getD (((r0.getD (0 + t26.toNat) .x).cells.getD 0 .x).toI).toNat .x).cells.getD 0 .x).toI))) t25 (IntKind.i64.wrap (t26 + (1 : Int))) r0
 else none
 else none
 else none
 else none)
 (bSh (.i .i64) (den E 64 [(.imm 1 t0), (.imm 1 r0), (.fn 65 [])] []) fun a1 =>
 if 0 ≤ a1.toI ∧ a1.toI < ((t0.length : Nat) : Int) then
 if okCells false (t0.getD a1.toI.toNat .x) 0 [(.i .i64)] = true then
 if t6 = 0 then none else
 some (.i .i64 (if (IntKind.i64.wrap ((IntKind.i64.wrap ((IntKind.i64.wrap ((IntKind.i64.wrap ((IntKind.i64.wrap ((((t0.getD a1.toI.toNat .x).cells.getD 0 .x).toI) * t6)) - (IntKind.i64.wrap (t7 - (((t0.getD a1.toI.toNat .x).cells.getD 0 .x).toI))))) + t6)) - (1 : Int))).tdiv t6)) > (0 : Int) then (IntKind.i64.wrap ((IntKind.i64.wrap ((IntKind.i64.wrap ((IntKind.i64.wrap ((IntKind.i64.wrap ((((t0.getD a1.toI.toNat .x).cells.getD 0 .x).toI) * t6)) - (IntKind.i64.wrap (t7 - (((t0.getD a1.toI.toNat .x).cells.getD 0 .x).toI))))) + t6)) - (1 : Int))).tdiv t6)) else (0 : Int)))
 else none
 else none) := (Lp_eq ..).trans (by kernel_rfl)
/-! 3: loop.example/g00905/laws.FnWearBound -/
noncomputable def f3_l1 (t5 : Int) (t6 : Int) (r0_0 : Int) (r1_3 : Int) (r2 : List AV) (r3 : List AV) (r4 : List AV) : Option AV := Lp E fi3 [true, true, true, true, true, false, true, false] (mkT 150 [(3, (.pt 0 [] 0 0)), (4, (.pt 1 [] 0 0)), (5, (.i .i64 t5)), (6, (.i .i64 t6))]) [(.live false true false 98 [(.agg [(.i .u64 r0_0)])]), (.live false true false 30 [(.agg [(.sl 2 [] none), (.sl 3 [] none), (.sl 4 [] none), (.i .i64 r1_3)])]), (.live true false false 2 r2), (.live true false false 4 r3), (.live true false false 2 r4)]
noncomputable def f3_j2 (t5 : Int) (t6 : Int) (r0_0 : Int) (r1_3 : Int) (r2 : List AV) (r3 : List AV) (r4 : List AV) : Option AV := Jn E fi3 [true, true, true, true, true, false, true, false, false, true, false, false, true, true] (mkT 150 [(3, (.pt 0 [] 0 0)), (4, (.pt 1 [] 0 0)), (5, (.i .i64 t5)), (6, (.i .i64 t6))]) [(.live false true false 98 [(.agg [(.i .u64 r0_0)])]), (.live false true false 30 [(.agg [(.sl 2 [] none), (.sl 3 [] none), (.sl 4 [] none), (.i .i64 r1_3)])]), (.live true false false 2 r2), (.live true false false 4 r3), (.live true false false 2 r4)]
noncomputable def f3_l3 (t7 : Int) (t8 : Int) (r0_3 : Int) (r1 : List AV) (r2 : List AV) (r3 : List AV) : Option AV := Lp E fi3 [true, true, true, true, true, true, true, true, true, false, true, false] (mkT 150 [(4, (.pt 0 [] 0 0)), (7, (.i .i64 t7)), (8, (.i .i64 t8))]) [(.live false true false 30 [(.agg [(.sl 1 [] none), (.sl 2 [] none), (.sl 3 [] none), (.i .i64 r0_3)])]), (.live true false false 2 r1), (.live true false false 4 r2), (.live true false false 2 r3)]
noncomputable def f3_l4 (t7 : Int) (t8 : Int) (t10 : Int) (t15 : Int) (t16 : Int) (r0_3 : Int) (r1_3 : Int) (r2 : List AV) (r3 : List AV) (r4 : List AV) (r5 : List AV) (r6 : List AV) (r7 : List AV) : Option AV := Lp E fi3 [true, true, true, true, true, true, true, true, true, false, true, false, false, true, false, false, true, true, true, true, true, true, false, true, false] (mkT 150 [(4, (.pt 0 [] 0 0)), (7, (.i .i64 t7)), (8, (.i .i64 t8)), (10, (.i .i64 t10)), (12, (.pt 1 [] 0 0)), (15, (.i .i64 t15)), (16, (.i .i64 t16))]) [(.live false true false 30 [(.agg [(.sl 2 [] none), (.sl 3 [] none), (.sl 4 [] none), (.i .i64 r0_3)])]), (.live false true false 30 [(.agg [(.sl 5 [] none), (.sl 6 [] none), (.sl 7 [] none), (.i .i64 r1_3)])]), (.live true false false 2 r2), (.live true false false 4 r3), (.live true false false 2 r4), (.live true false false 2 r5), (.live true false false 4 r6), (.live true false false 2 r7)]
noncomputable def f3_j5 (t7 : Int) (t8 : Int) (t10 : Int) (t15 : Int) (t16 : Int) (r0_3 : Int) (r1_3 : Int) (r2 : List AV) (r3 : List AV) (r4 : List AV) (r5 : List AV) (r6 : List AV) (r7 : List AV) : Option AV := Jn E fi3 [true, true, true, true, true, true, true, true, true, false, true, false, false, true, false, false, true, true, true, true, true, true, false, true, false, false, true, false, false, true] (mkT 150 [(4, (.pt 0 [] 0 0)), (7, (.i .i64 t7)), (8, (.i .i64 t8)), (10, (.i .i64 t10)), (12, (.pt 1 [] 0 0)), (15, (.i .i64 t15)), (16, (.i .i64 t16))]) [(.live false true false 30 [(.agg [(.sl 2 [] none), (.sl 3 [] none), (.sl 4 [] none), (.i .i64 r0_3)])]), (.live false true false 30 [(.agg [(.sl 5 [] none), (.sl 6 [] none), (.sl 7 [] none), (.i .i64 r1_3)])]), (.live true false false 2 r2), (.live true false false 4 r3), (.live true false false 2 r4), (.live true false false 2 r5), (.live true false false 4 r6), (.live true false false 2 r7)]
noncomputable def f3_j6 (t7 : Int) (t8 : Int) (t10 : Int) (t15 : Int) (t16 : Int) (r0_3 : Int) (r1_3 : Int) (r2 : List AV) (r3 : List AV) (r4 : List AV) (r5 : List AV) (r6 : List AV) (r7 : List AV) : Option AV := Jn E fi3 [true, true, true, true, true, true, true, true, true, false, true, false, false, true, false, false, true, true, true, true, true, true, false, true, false, false, true, true] (mkT 150 [(4, (.pt 0 [] 0 0)), (7, (.i .i64 t7)), (8, (.i .i64 t8)), (10, (.i .i64 t10)), (12, (.pt 1 [] 0 0)), (15, (.i .i64 t15)), (16, (.i .i64 t16))]) [(.live false true false 30 [(.agg [(.sl 2 [] none), (.sl 3 [] none), (.sl 4 [] none), (.i .i64 r0_3)])]), (.live false true false 30 [(.agg [(.sl 5 [] none), (.sl 6 [] none), (.sl 7 [] none), (.i .i64 r1_3)])]), (.live true false false 2 r2), (.live true false false 4 r3), (.live true false false 2 r4), (.live true false false 2 r5), (.live true false false 4 r6), (.live true false false 2 r7)]
theorem f3_eq (x0 : List AV) : den E 3 [(.imm 1 x0)] [] =
 cond (decide ((400 : Int) < ((x0.length : Nat) : Int)))
 (some (.b true))
 (bOwn (.po 0) [(.var 98 (.agg [(.i .u64)]))] 0 (dno E 10 [(.imm 1 x0), (.i .u64 (704 : Int))] []) fun a1 =>
 bOwn (.i .i64) [(.var 98 (.agg [(.i .u64)]))] 1 (dno E 11 [(.pt 0 [] 0 0), (.i .i64 (5 : Int))] [(.live false true false 98 [(.agg [(.i .u64 ((((a1.2.getD 0 .dead).row.headD .x).nth 0).toI))])])]) fun a2 =>
 bOwn (.i .i64) [(.var 98 (.agg [(.i .u64)]))] 1 (dno E 11 [(.pt 0 [] 0 0), (.i .i64 (6 : Int))] [(.live false true false 98 [(.agg [(.i .u64 ((((a2.2.getD 0 .dead).row.headD .x).nth 0).toI))])])]) fun a3 =>
 f3_l1 (IntKind.i64.wrap ((4 : Int) + a3.1.toI)) (0 : Int) ((((a3.2.getD 0 .dead).row.headD .x).nth 0).toI) (IntKind.i64.wrap ((1 : Int) + a2.1.toI)) [] [] []) := (den_eq ..).trans (by kernel_rfl)
theorem f3_l1_eq (t5 : Int) (t6 : Int) (r0_0 : Int) (r1_3 : Int) (r2 : List AV) (r3 : List AV) (r4 : List AV) : f3_l1 t5 t6 r0_0 r1_3 r2 r3 r4 =
 cond (decide (t6 < t5))
 (if (r2.length + ([(.i .i64 (0 : Int))] : List AV).length) * 8 ≤ room then
 cond ((decide ((3 : Int) < t6)) == true)
 (bOwn (.i .i64) [(.var 98 (.agg [(.i .u64)]))] 1 (dno E 11 [(.pt 0 [] 0 0), (.i .i64 (6 : Int))] [(.live false true false 98 [(.agg [(.i .u64 r0_0)])])]) fun a1 =>
 if (r3.length + ([(.b (decide (a1.1.toI = (0 : Int))))] : List AV).length) * 1 ≤ room then
 f3_j2 t5 t6 ((((a1.2.getD 0 .dead).row.headD .x).nth 0).toI) r1_3 (r2 ++ [(.i .i64 (0 : Int))]) (r3 ++ [(.b (decide (a1.1.toI = (0 : Int))))]) r4
 else none)
 (if (r3.length + ([(.b false)] : List AV).length) * 1 ≤ room then
 f3_j2 t5 t6 r0_0 r1_3 (r2 ++ [(.i .i64 (0 : Int))]) (r3 ++ [(.b false)]) r4
 else none)
 else none)
 (if 0 ≤ (0 : Int) ∧ (0 : Int) < ((r4.length : Nat) : Int) then
 if 0 ≤ (1 : Int) ∧ (1 : Int) < (((r4.set (0 + (0 : Int).toNat) ((r4.getD (0 + (0 : Int).toNat) .x).putCells 0 [(.i .i64 (2 : Int))])).length : Nat) : Int) then
 f3_l3 (0 : Int) (0 : Int) r1_3 r2 r3 ((r4.set (0 + (0 : Int).toNat) ((r4.getD (0 + (0 : Int).toNat) .x).putCells 0 [(.i .i64 (2 : Int))])).set (0 + (1 : Int).toNat) (((r4.set (0 + (0 : Int).toNat) ((r4.getD (0 + (0 : Int).toNat) .x).putCells 0 [(.i .i64 (2 : Int))])).getD (0 + (1 : Int).toNat) .x).putCells 0 [(.i .i64 (1 : Int))]))
 else none
 else none) := (Lp_eq ..).trans (by kernel_rfl)
theorem f3_j2_eq (t5 : Int) (t6 : Int) (r0_0 : Int) (r1_3 : Int) (r2 : List AV) (r3 : List AV) (r4 : List AV) : f3_j2 t5 t6 r0_0 r1_3 r2 r3 r4 =
 if (r4.length + ([(.i .i64 (0 : Int))] : List AV).length) * 8 ≤ room then
 f3_l1 t5 (IntKind.i64.wrap (t6 + (1 : Int))) r0_0 r1_3 r2 r3 (r4 ++ [(.i .i64 (0 : Int))])
 else none := by kernel_rfl
theorem f3_l3_eq (t7 : Int) (t8 : Int) (r0_3 : Int) (r1 : List AV) (r2 : List AV) (r3 : List AV) : f3_l3 t7 t8 r0_3 r1 r2 r3 =
 cond (decide (t8 < (60 : Int)))
 (bOwnF (.tup [(.agg [(.so 0), (.so 1), (.so 2), (.i .i64)]), (.i .i64), (.i .i64)]) [(.row true 2), (.row true 4), (.row true 2)] 0 (dno E 12 [(.agg [(.imm 1 r1), (.imm 1 r2), (.imm 1 r3), (.i .i64 r0_3)]), (.i .i64 t7)] []) fun a1 =>
 cond ((!decide (((a1.1.nth 2).toI) = (0 : Int))) == false)
 (bSh .b (den E 13 [(.agg [(.imm 1 ((a1.2.getD 0 .dead).row)), (.imm 1 ((a1.2.getD 1 .dead).row)), (.imm 1 ((a1.2.getD 2 .dead).row)), (.i .i64 (((a1.1.nth 0).nth 3).toI))])] []) fun a2 =>
 cond (!a2.toB)
 (some (.b false))
 (bOwnF (.tup [(.agg [(.so 0), (.so 1), (.so 2), (.i .i64)]), (.i .i64), (.i .i64)]) [(.row true 2), (.row true 4), (.row true 2)] 0 (dno E 14 [(.agg [(.imm 1 ((a1.2.getD 0 .dead).row)), (.imm 1 ((a1.2.getD 1 .dead).row)), (.imm 1 ((a1.2.getD 2 .dead).row)), (.i .i64 (((a1.1.nth 0).nth 3).toI))])] []) fun a3 =>
 cond ((!decide (((a3.1.nth 2).toI) = (0 : Int))) == false)
 (cond ((decide (((a3.1.nth 1).toI) < (0 : Int))) == false)
 (bSh .b (den E 13 [(.agg [(.imm 1 ((a3.2.getD 0 .dead).row)), (.imm 1 ((a3.2.getD 1 .dead).row)), (.imm 1 ((a3.2.getD 2 .dead).row)), (.i .i64 (((a3.1.nth 0).nth 3).toI))])] []) fun a4 =>
 cond ((!a4.toB) == false)
 (bSh (.i .i64) (den E 15 [(.imm 1 ((a3.2.getD 0 .dead).row)), (.imm 1 ((a3.2.getD 1 .dead).row))] []) fun a5 =>
 cond ((decide (r0_3 < a5.toI)) == false)
 (bSh (.i .i64) (den E 16 [(.imm 1 ((a3.2.getD 0 .dead).row)), (.imm 1 ((a3.2.getD 1 .dead).row))] []) fun a6 =>
 cond (decide (r0_3 < a6.toI))
 (some (.b false))
 (f3_l4 (-1 : Int) t8 ((a1.1.nth 1).toI) (0 : Int) (0 : Int) r0_3 (((a3.1.nth 0).nth 3).toI) r1 r2 r3 ((a3.2.getD 0 .dead).row) ((a3.2.getD 1 .dead).row) ((a3.2.getD 2 .dead).row)))
 (some (.b false)))
 (some (.b false)))
 (some (.b false)))
 (some (.b false))))
 (some (.b false)))
 (some (.b true)) := (Lp_eq ..).trans (by kernel_rfl)
theorem f3_l4_eq (t7 : Int) (t8 : Int) (t10 : Int) (t15 : Int) (t16 : Int) (r0_3 : Int) (r1_3 : Int) (r2 : List AV) (r3 : List AV) (r4 : List AV) (r5 : List AV) (r6 : List AV) (r7 : List AV) : f3_l4 t7 t8 t10 t15 t16 r0_3 r1_3 r2 r3 r4 r5 r6 r7 =
 cond (decide (t16 < ((r7.length : Nat) : Int)))
 (if 0 ≤ t16 ∧ t16 < ((r7.length : Nat) : Int) then
 if okCells false (r7.getD (0 + t16.toNat) .x) 0 [(.i .i64)] = true then
 cond (decide ((((r7.getD (0 + t16.toNat) .x).cells.getD 0 .x).toI) = (2 : Int)))
 (f3_j5 t16 t8 t10 t15 t16 r0_3 r1_3 r2 r3 r4 r5 r6 r7)
 (f3_j5 t7 t8 t10 t15 t16 r0_3 r1_3 r2 r3 r4 r5 r6 r7)
 else none
 else none)
 (cond ((decide (t7 < (0 : Int))) == false)
 (cond ((!decide (t15 = (1 : Int))) == false)
 (cond (decide (t10 < (0 : Int)))
 (some (.b false))
 (f3_l3 t7 (IntKind.i64.wrap (t8 + (1 : Int))) r1_3 r5 r6 r7))
 (some (.b false)))
 (some (.b false))) := (Lp_eq ..).trans (by kernel_rfl)
theorem f3_j5_eq (t7 : Int) (t8 : Int) (t10 : Int) (t15 : Int) (t16 : Int) (r0_3 : Int) (r1_3 : Int) (r2 : List AV) (r3 : List AV) (r4 : List AV) (r5 : List AV) (r6 : List AV) (r7 : List AV) : f3_j5 t7 t8 t10 t15 t16 r0_3 r1_3 r2 r3 r4 r5 r6 r7 =
 if 0 ≤ t16 ∧ t16 < ((r7.length : Nat) : Int) then
 if okCells false (r7.getD (0 + t16.toNat) .x) 0 [(.i .i64)] = true then
 cond (decide ((((r7.getD (0 + t16.toNat) .x).cells.getD 0 .x).toI) = (1 : Int)))
 (f3_j6 t7 t8 t10 (IntKind.i64.wrap (t15 + (1 : Int))) t16 r0_3 r1_3 r2 r3 r4 r5 r6 r7)
 (f3_j6 t7 t8 t10 t15 t16 r0_3 r1_3 r2 r3 r4 r5 r6 r7)
 else none
 else none := by kernel_rfl
theorem f3_j6_eq (t7 : Int) (t8 : Int) (t10 : Int) (t15 : Int) (t16 : Int) (r0_3 : Int) (r1_3 : Int) (r2 : List AV) (r3 : List AV) (r4 : List AV) (r5 : List AV) (r6 : List AV) (r7 : List AV) : f3_j6 t7 t8 t10 t15 t16 r0_3 r1_3 r2 r3 r4 r5 r6 r7 =
 f3_l4 t7 t8 t10 t15 (IntKind.i64.wrap (t16 + (1 : Int))) r0_3 r1_3 r2 r3 r4 r5 r6 r7 := by kernel_rfl
end Go.Proofs.Ytfiijbacegpomaa.IWearBound
