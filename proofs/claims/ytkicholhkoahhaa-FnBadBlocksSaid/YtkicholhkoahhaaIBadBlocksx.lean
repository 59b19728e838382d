/- Printed by a program of this work (wip/it/itp.py): what each function comes to. No condition. -/
import Derived.Test.YtkicholhkoahhaaIBadBlockst
namespace Go.Proofs.Ytkicholhkoahhaa.IBadBlocks
open Go Go.Proofs.YtkicholhkoahhaaIT
set_option linter.unusedVariables false
/-! 15: loop.example/g00905/laws.w5From -/
noncomputable def f15o1_l1 (t0 : List AV) (t6 : Int) (r0_0 : Int) : Option (AV × List Root) := LpO E fi15 [(3, [0, 5, 6], 1)] 0 [] (.po 0) [true, true, false, true, false] (mkT 36 [(0, (.imm 1 t0)), (5, (.pt 0 [] 0 0)), (6, (.i .i64 t6))]) [(.live false true false 85 [(.agg [(.i .u64 r0_0)])])]
theorem f15o1_eq (x0 : List AV) (x1 : Int) : dno E 15 [(.imm 1 x0), (.i .u64 x1)] [] =
 f15o1_l1 x0 (0 : Int) (IntKind.u64.wrap (x1 + (IntKind.u64.wrap ((x0.length : Nat) : Int)))) := (dno_eq ..).trans (by kernel_rfl)
theorem f15o1_l1_eq (t0 : List AV) (t6 : Int) (r0_0 : Int) : f15o1_l1 t0 t6 r0_0 =
 cond (decide (t6 < ((t0.length : Nat) : Int)))
 (if 0 ≤ t6 ∧ t6 < ((t0.length : Nat) : Int) then
 if okCells false (t0.getD t6.toNat .x) 0 [(.i .u8)] = true then
 f15o1_l1 t0 (IntKind.i64.wrap (t6 + (1 : Int))) (IntKind.u64.wrap ((IntKind.u64.wrap ((IntKind.u64.wrap (r0_0 * (1099511628211 : Int))) + (IntKind.u64.wrap (((t0.getD t6.toNat .x).cells.getD 0 .x).toI)))) + (3 : Int)))
 else none
 else none)
 (some ((.pt 0 [] 0 0), [(.live false true false 85 [(.agg [(.i .u64 r0_0)])])])) := (LpO_eq ..).trans (by kernel_rfl)
/-! 16: (*loop.example/g00905/laws.w5Choices).below -/
theorem f16o1_eq (x1 : Int) (s0_0 : Int) : dno E 16 [(.pt 0 [] 0 0), (.i .i64 x1)] [(.live false true false 85 [(.agg [(.i .u64 s0_0)])])] =
 if x1 = 0 then none else
 some ((.i .i64 ((IntKind.i64.wrap (IntKind.u64.wrap ((BitVec.ofInt IntKind.u64.bits ((IntKind.u64.wrap ((IntKind.u64.wrap (s0_0 * (6364136223846793005 : Int))) + (1442695040888963407 : Int))).fdiv (2 ^ (min (33 : Int).toNat IntKind.u64.bits))) &&& BitVec.ofInt IntKind.u64.bits (16777215 : Int)).toNat))).tmod x1)), [(.live false true false 85 [(.agg [(.i .u64 (IntKind.u64.wrap ((IntKind.u64.wrap (s0_0 * (6364136223846793005 : Int))) + (1442695040888963407 : Int))))])])]) := (dno_eq ..).trans (by kernel_rfl)
/-! 54: loop.example/g00905/impl.within -/
theorem f54_eq (x0 : Int) (x1 : Int) (x2 : Int) : den E 54 [(.i .i64 x0), (.i .i64 x1), (.i .i64 x2)] [] =
 cond ((decide (x1 ≤ x0)) == true)
 (some (.b (decide (x0 ≤ x2))))
 (some (.b false)) := (den_eq ..).trans (by kernel_rfl)
/-! 46: loop.example/g00905/impl.ValidGeometry -/
theorem f46_eq (x0_0 : Int) (x0_1 : Int) (x0_2 : Int) : den E 46 [(.agg [(.i .i64 x0_0), (.i .i64 x0_1), (.i .i64 x0_2)])] [] =
 bSh .b (den E 54 [(.i .i64 x0_0), (.i .i64 (2 : Int)), (.i .i64 (3 : Int))] []) fun a1 =>
 cond (a1.toB == true)
 (bSh .b (den E 54 [(.i .i64 x0_1), (.i .i64 (4 : Int)), (.i .i64 (12 : Int))] []) fun a2 =>
 cond (a2.toB == true)
 (cond ((decide (x0_2 = (8 : Int))) == false)
 (some (.b (decide (x0_2 = (16 : Int)))))
 (some (.b true)))
 (some (.b false)))
 (some (.b false)) := (den_eq ..).trans (by kernel_rfl)
/-! 47: loop.example/g00905/impl.spareOk -/
theorem f47_eq (x0_0 : Int) (x0_1 : Int) (x0_2 : Int) (x1 : Int) : den E 47 [(.agg [(.i .i64 x0_0), (.i .i64 x0_1), (.i .i64 x0_2)]), (.i .i64 x1)] [] =
 bSh .b (den E 54 [(.i .i64 x1), (.i .i64 (1 : Int)), (.i .i64 (4 : Int))] []) fun a1 =>
 cond (a1.toB == true)
 (some (.b (decide (x1 < (IntKind.i64.wrap (x0_1 - (1 : Int)))))))
 (some (.b false)) := (den_eq ..).trans (by kernel_rfl)
/-! 97: loop.example/g00905/impl.increasing -/
noncomputable def f97_l1 (t0 : List AV) (t3 : Int) : Option AV := Lp E fi97 [true, false, true, false] (mkT 20 [(0, (.imm 1 t0)), (3, (.i .i64 t3))]) []
theorem f97_eq (x0 : List AV) : den E 97 [(.imm 1 x0)] [] =
 f97_l1 x0 (1 : Int) := (den_eq ..).trans (by kernel_rfl)
theorem f97_l1_eq (t0 : List AV) (t3 : Int) : f97_l1 t0 t3 =
 cond (decide (t3 < ((t0.length : Nat) : Int)))
 (if 0 ≤ t3 ∧ t3 < ((t0.length : Nat) : Int) then
 if okCells false (t0.getD t3.toNat .x) 0 [(.i .i64)] = true then
 if 0 ≤ (IntKind.i64.wrap (t3 - (1 : Int))) ∧ (IntKind.i64.wrap (t3 - (1 : Int))) < ((t0.length : Nat) : Int) then
 if okCells false (t0.getD (IntKind.i64.wrap (t3 - (1 : Int))).toNat .x) 0 [(.i .i64)] = true then
 cond (decide ((((t0.getD t3.toNat .x).cells.getD 0 .x).toI) ≤ (((t0.getD (IntKind.i64.wrap (t3 - (1 : Int))).toNat .x).cells.getD 0 .x).toI)))
 (some (.b false))
 (f97_l1 t0 (IntKind.i64.wrap (t3 + (1 : Int))))
 else none
 else none
 else none
 else none)
 (some (.b true)) := (Lp_eq ..).trans (by kernel_rfl)
/-! 55: (loop.example/g00905/impl.Geometry).all -/
theorem f55_eq (x0_0 : Int) (x0_1 : Int) (x0_2 : Int) : den E 55 [(.agg [(.i .i64 x0_0), (.i .i64 x0_1), (.i .i64 x0_2)])] [] =
 some (.i .i64 (IntKind.i64.wrap (x0_0 * x0_1))) := (den_eq ..).trans (by kernel_rfl)
/-! 129: loop.example/g00905/impl.allWithin$1 -/
theorem f129q1_eq (x0 : Int) (x1 : AV) (x2 : AV) : den E 129 [(.i .i64 x0), (.ip x1 0), (.ip x2 0)] [] =
 if okCells false x1 0 [(.i .i64)] = true then
 if okCells false x2 0 [(.i .i64)] = true then
 bSh .b (den E 54 [(.i .i64 x0), (.i .i64 ((x1.cells.getD 0 .x).toI)), (.i .i64 ((x2.cells.getD 0 .x).toI))] []) fun a1 =>
 some (.b (!a1.toB))
 else none
 else none := (den_eq ..).trans (by kernel_rfl)
/-! 130: slices.IndexFunc[[]int64,int64] -/
noncomputable def f130q1_l1 (t0 : List AV) (t1_0 : AV) (t1_1 : AV) (t7 : Int) (t8 : Int) : Option AV := Lp E fi130 [true, false, true, false] (mkT 19 [(0, (.imm 1 t0)), (1, (.fn 129 [(.ip t1_0 0), (.ip t1_1 0)])), (7, (.i .i64 t7)), (8, (.i .i64 t8))]) []
theorem f130q1_eq (x0 : List AV) (x1_0 : AV) (x1_1 : AV) : den E 130 [(.imm 1 x0), (.fn 129 [(.ip x1_0 0), (.ip x1_1 0)])] [] =
 f130q1_l1 x0 x1_0 x1_1 ((x0.length : Nat) : Int) (0 : Int) := (den_eq ..).trans (by kernel_rfl)
theorem f130q1_l1_eq (t0 : List AV) (t1_0 : AV) (t1_1 : AV) (t7 : Int) (t8 : Int) : f130q1_l1 t0 t1_0 t1_1 t7 t8 =
 cond (decide (t8 < t7))
 (if 0 ≤ t8 ∧ t8 < ((t0.length : Nat) : Int) then
 if okCells false (t0.getD t8.toNat .x) 0 [(.i .i64)] = true then
 bSh .b (den E 129 [(.i .i64 (((t0.getD t8.toNat .x).cells.getD 0 .x).toI)), (.ip t1_0 0), (.ip t1_1 0)] []) fun a1 =>
 cond a1.toB
 (some (.i .i64 t8))
 (f130q1_l1 t0 t1_0 t1_1 t7 (IntKind.i64.wrap (t8 + (1 : Int))))
 else none
 else none)
 (some (.i .i64 (-1 : Int))) := (Lp_eq ..).trans (by kernel_rfl)
/-! 118: slices.ContainsFunc[[]int64,int64] -/
theorem f118q1_eq (x0 : List AV) (x1_0 : AV) (x1_1 : AV) : den E 118 [(.imm 1 x0), (.fn 129 [(.ip x1_0 0), (.ip x1_1 0)])] [] =
 bSh (.i .i64) (den E 130 [(.imm 1 x0), (.fn 129 [(.ip x1_0 0), (.ip x1_1 0)])] []) fun a1 =>
 some (.b (decide ((0 : Int) ≤ a1.toI))) := (den_eq ..).trans (by kernel_rfl)
/-! 98: loop.example/g00905/impl.allWithin -/
theorem f98_eq (x0 : List AV) (x1 : Int) (x2 : Int) : den E 98 [(.imm 1 x0), (.i .i64 x1), (.i .i64 x2)] [] =
 bSh .b (den E 118 [(.imm 1 x0), (.fn 129 [(.ip (.i .i64 x1) 0), (.ip (.i .i64 x2) 0)])] []) fun a1 =>
 some (.b (!a1.toB)) := (den_eq ..).trans (by kernel_rfl)
/-! 48: loop.example/g00905/impl.blocksOk -/
theorem f48_eq (x0_0 : Int) (x0_1 : Int) (x0_2 : Int) (x1 : List AV) : den E 48 [(.agg [(.i .i64 x0_0), (.i .i64 x0_1), (.i .i64 x0_2)]), (.imm 1 x1)] [] =
 bSh .b (den E 97 [(.imm 1 x1)] []) fun a1 =>
 cond (a1.toB == true)
 (bSh (.i .i64) (den E 55 [(.agg [(.i .i64 x0_0), (.i .i64 x0_1), (.i .i64 x0_2)])] []) fun a2 =>
 bSh .b (den E 98 [(.imm 1 x1), (.i .i64 (0 : Int)), (.i .i64 (IntKind.i64.wrap (a2.toI - (1 : Int))))] []) fun a3 =>
 some (.b a3.toB))
 (some (.b false)) := (den_eq ..).trans (by kernel_rfl)
/-! 49: slices.Clone[[]int64,int64] -/
theorem f49_eq (x0 : List AV) : dno E 49 [(.imm 1 x0)] [] = if 1 = 1 ∧ x0.length * 8 ≤ room then some (.sl 0 [] none, [.live true false false 2 x0]) else none := (dno_eq ..).trans (by kernel_rfl)
/-! 99: (loop.example/g00905/impl.BadTable).primary -/
theorem f99_eq (x0_0 : Int) (x0_1 : Int) (x0_2 : Int) (x0_3 : Int) (x0_4 : List AV) (x0_5 : List AV) : den E 99 [(.agg [(.i .i64 x0_0), (.i .i64 x0_1), (.i .i64 x0_2), (.i .i64 x0_3), (.imm 1 x0_4), (.imm 1 x0_5)])] [] =
 some (.i .i64 (IntKind.i64.wrap (x0_1 - x0_3))) := (den_eq ..).trans (by kernel_rfl)
/-! 50: (loop.example/g00905/impl.BadTable).logical -/
theorem f50_eq (x0_0 : Int) (x0_1 : Int) (x0_2 : Int) (x0_3 : Int) (x0_4 : List AV) (x0_5 : List AV) : den E 50 [(.agg [(.i .i64 x0_0), (.i .i64 x0_1), (.i .i64 x0_2), (.i .i64 x0_3), (.imm 1 x0_4), (.imm 1 x0_5)])] [] =
 bSh (.i .i64) (den E 99 [(.agg [(.i .i64 x0_0), (.i .i64 x0_1), (.i .i64 x0_2), (.i .i64 x0_3), (.imm 1 x0_4), (.imm 1 x0_5)])] []) fun a1 =>
 some (.i .i64 (IntKind.i64.wrap (x0_0 * a1.toI))) := (den_eq ..).trans (by kernel_rfl)
/-! 51: (loop.example/g00905/impl.BadTable).home -/
theorem f51_eq (x0_0 : Int) (x0_1 : Int) (x0_2 : Int) (x0_3 : Int) (x0_4 : List AV) (x0_5 : List AV) (x1 : Int) : den E 51 [(.agg [(.i .i64 x0_0), (.i .i64 x0_1), (.i .i64 x0_2), (.i .i64 x0_3), (.imm 1 x0_4), (.imm 1 x0_5)]), (.i .i64 x1)] [] =
 bSh (.i .i64) (den E 99 [(.agg [(.i .i64 x0_0), (.i .i64 x0_1), (.i .i64 x0_2), (.i .i64 x0_3), (.imm 1 x0_4), (.imm 1 x0_5)])] []) fun a1 =>
 if a1.toI = 0 then none else
 bSh (.i .i64) (den E 99 [(.agg [(.i .i64 x0_0), (.i .i64 x0_1), (.i .i64 x0_2), (.i .i64 x0_3), (.imm 1 x0_4), (.imm 1 x0_5)])] []) fun a2 =>
 if a2.toI = 0 then none else
 some (.i .i64 (IntKind.i64.wrap ((IntKind.i64.wrap ((IntKind.i64.wrap (x1.tdiv a1.toI)) * x0_1)) + (x1.tmod a2.toI)))) := (den_eq ..).trans (by kernel_rfl)
/-! 70: slices.Index[[]int64,int64] -/
noncomputable def f70_l1 (t0 : List AV) (t1 : Int) (t7 : Int) (t8 : Int) : Option AV := Lp E fi70 [true, false, true, false] (mkT 19 [(0, (.imm 1 t0)), (1, (.i .i64 t1)), (7, (.i .i64 t7)), (8, (.i .i64 t8))]) []
theorem f70_eq (x0 : List AV) (x1 : Int) : den E 70 [(.imm 1 x0), (.i .i64 x1)] [] =
 f70_l1 x0 x1 ((x0.length : Nat) : Int) (0 : Int) := (den_eq ..).trans (by kernel_rfl)
theorem f70_l1_eq (t0 : List AV) (t1 : Int) (t7 : Int) (t8 : Int) : f70_l1 t0 t1 t7 t8 =
 cond (decide (t8 < t7))
 (if 0 ≤ t8 ∧ t8 < ((t0.length : Nat) : Int) then
 if okCells false (t0.getD t8.toNat .x) 0 [(.i .i64)] = true then
 cond (decide (t1 = (((t0.getD t8.toNat .x).cells.getD 0 .x).toI)))
 (some (.i .i64 t8))
 (f70_l1 t0 t1 t7 (IntKind.i64.wrap (t8 + (1 : Int))))
 else none
 else none)
 (some (.i .i64 (-1 : Int))) := (Lp_eq ..).trans (by kernel_rfl)
/-! 68: slices.Contains[[]int64,int64] -/
theorem f68_eq (x0 : List AV) (x1 : Int) : den E 68 [(.imm 1 x0), (.i .i64 x1)] [] =
 bSh (.i .i64) (den E 70 [(.imm 1 x0), (.i .i64 x1)] []) fun a1 =>
 some (.b (decide ((0 : Int) ≤ a1.toI))) := (den_eq ..).trans (by kernel_rfl)
/-! 52: (loop.example/g00905/impl.BadTable).isBad -/
theorem f52_eq (x0_0 : Int) (x0_1 : Int) (x0_2 : Int) (x0_3 : Int) (x0_4 : List AV) (x0_5 : List AV) (x1 : Int) : den E 52 [(.agg [(.i .i64 x0_0), (.i .i64 x0_1), (.i .i64 x0_2), (.i .i64 x0_3), (.imm 1 x0_4), (.imm 1 x0_5)]), (.i .i64 x1)] [] =
 bSh .b (den E 68 [(.imm 1 x0_4), (.i .i64 x1)] []) fun a1 =>
 some (.b a1.toB) := (den_eq ..).trans (by kernel_rfl)
/-! 101: (loop.example/g00905/impl.BadTable).spares -/
noncomputable def f101o1_l1 (t1 : Int) (t6 : Int) (r0_0 : Int) (r0_1 : Int) (r0_2 : Int) (r0_3 : Int) (r0_4 : List AV) (r0_5 : List AV) (r1 : List AV) (r2 : List AV) : Option (AV × List Root) := LpO E fi101 [(3, [1, 2, 5, 6], 3)] 0 [] (.so 0) [true, true, false, true, false] (mkT 27 [(1, (.i .i64 t1)), (2, (.pt 0 [] 0 0)), (5, (.sl 2 [] none)), (6, (.i .i64 t6))]) [(.live false true false 45 [(.agg [(.i .i64 r0_0), (.i .i64 r0_1), (.i .i64 r0_2), (.i .i64 r0_3), (.imm 1 r0_4), (.imm 1 r0_5)])]), (.live true false false 2 r1), (.live true false false 2 r2)]
theorem f101o1_eq (x0_0 : Int) (x0_1 : Int) (x0_2 : Int) (x0_3 : Int) (x0_4 : List AV) (x0_5 : List AV) (x1 : Int) : dno E 101 [(.agg [(.i .i64 x0_0), (.i .i64 x0_1), (.i .i64 x0_2), (.i .i64 x0_3), (.imm 1 x0_4), (.imm 1 x0_5)]), (.i .i64 x1)] [] =
 bSh (.i .i64) (den E 99 [(.agg [(.i .i64 x0_0), (.i .i64 x0_1), (.i .i64 x0_2), (.i .i64 x0_3), (.imm 1 x0_4), (.imm 1 x0_5)])] []) fun a1 =>
 f101o1_l1 x1 a1.toI x0_0 x0_1 x0_2 x0_3 x0_4 x0_5 [] [] := (dno_eq ..).trans (by kernel_rfl)
theorem f101o1_l1_eq (t1 : Int) (t6 : Int) (r0_0 : Int) (r0_1 : Int) (r0_2 : Int) (r0_3 : Int) (r0_4 : List AV) (r0_5 : List AV) (r1 : List AV) (r2 : List AV) : f101o1_l1 t1 t6 r0_0 r0_1 r0_2 r0_3 r0_4 r0_5 r1 r2 =
 cond (decide (t6 < r0_1))
 (if (r2.length + ([(.i .i64 (IntKind.i64.wrap ((IntKind.i64.wrap (t1 * r0_1)) + t6)))] : List AV).length) * 8 ≤ room then
 f101o1_l1 t1 (IntKind.i64.wrap (t6 + (1 : Int))) r0_0 r0_1 r0_2 r0_3 r0_4 r0_5 r1 (r2 ++ [(.i .i64 (IntKind.i64.wrap ((IntKind.i64.wrap (t1 * r0_1)) + t6)))])
 else none)
 (some ((.sl 0 [] none), [(.live true false false 2 r2)])) := (LpO_eq ..).trans (by kernel_rfl)
/-! 102: (loop.example/g00905/impl.BadTable).available$1 -/
theorem f102q1_eq (x0 : Int) (x1 : AV) : den E 102 [(.i .i64 x0), (.ip x1 0)] [] =
 if okCells false x1 0 [(.i .i64), (.i .i64), (.i .i64), (.i .i64), (.sl 2 1), (.sl 2 1)] = true then
 bSh .b (den E 52 [(.agg [(.i .i64 ((x1.cells.getD 0 .x).toI)), (.i .i64 ((x1.cells.getD 1 .x).toI)), (.i .i64 ((x1.cells.getD 2 .x).toI)), (.i .i64 ((x1.cells.getD 3 .x).toI)), (.imm 1 ((x1.cells.getD 4 .x).toL)), (.imm 1 ((x1.cells.getD 5 .x).toL))]), (.i .i64 x0)] []) fun a1 =>
 cond (a1.toB == false)
 (if okCells false x1 5 [(.sl 2 1)] = true then
 bSh .b (den E 68 [(.imm 1 ((x1.cells.getD 5 .x).toL)), (.i .i64 x0)] []) fun a2 =>
 some (.b a2.toB)
 else none)
 (some (.b true))
 else none := (den_eq ..).trans (by kernel_rfl)
/-! 130: slices.IndexFunc[[]int64,int64] -/
noncomputable def f130q2_l1 (t0 : List AV) (t1_0 : AV) (t7 : Int) (t8 : Int) : Option AV := Lp E fi130 [true, false, true, false] (mkT 19 [(0, (.imm 1 t0)), (1, (.fn 102 [(.ip t1_0 0)])), (7, (.i .i64 t7)), (8, (.i .i64 t8))]) []
theorem f130q2_eq (x0 : List AV) (x1_0 : AV) : den E 130 [(.imm 1 x0), (.fn 102 [(.ip x1_0 0)])] [] =
 f130q2_l1 x0 x1_0 ((x0.length : Nat) : Int) (0 : Int) := (den_eq ..).trans (by kernel_rfl)
theorem f130q2_l1_eq (t0 : List AV) (t1_0 : AV) (t7 : Int) (t8 : Int) : f130q2_l1 t0 t1_0 t7 t8 =
 cond (decide (t8 < t7))
 (if 0 ≤ t8 ∧ t8 < ((t0.length : Nat) : Int) then
 if okCells false (t0.getD t8.toNat .x) 0 [(.i .i64)] = true then
 bSh .b (den E 102 [(.i .i64 (((t0.getD t8.toNat .x).cells.getD 0 .x).toI)), (.ip t1_0 0)] []) fun a1 =>
 cond a1.toB
 (some (.i .i64 t8))
 (f130q2_l1 t0 t1_0 t7 (IntKind.i64.wrap (t8 + (1 : Int))))
 else none
 else none)
 (some (.i .i64 (-1 : Int))) := (Lp_eq ..).trans (by kernel_rfl)
/-! 100: slices.DeleteFunc[[]int64,int64] -/
noncomputable def f100o1_l1 (t1_0 : AV) (t5 : Int) (t6 : Int) (r0 : List AV) : Option (AV × List Root) := LpO E fi100 [(5, [0, 1, 5, 6], 1), (6, [0, 1, 5, 6], 1)] 1 [] (.pr 0) [true, true, true, false, true, false] (mkT 42 [(0, (.sl 0 [] none)), (1, (.fn 102 [(.ip t1_0 0)])), (5, (.i .i64 t5)), (6, (.i .i64 t6))]) [(.live true false false 2 r0)]
noncomputable def f100o1_j2 (t1_0 : AV) (t5 : Int) (t6 : Int) (r0 : List AV) : Option (AV × List Root) := JnO E fi100 [(5, [0, 1, 5, 6], 1), (6, [0, 1, 5, 6], 1)] 1 [] (.pr 0) [true, true, true, false, true, false, false, true, true] (mkT 42 [(0, (.sl 0 [] none)), (1, (.fn 102 [(.ip t1_0 0)])), (5, (.i .i64 t5)), (6, (.i .i64 t6))]) [(.live true false false 2 r0)]
theorem f100o1_eq (x1_0 : AV) (s0 : List AV) : dno E 100 [(.sl 0 [] none), (.fn 102 [(.ip x1_0 0)])] [(.live true false false 2 s0)] =
 bSh (.i .i64) (den E 130 [(.imm 1 s0), (.fn 102 [(.ip x1_0 0)])] []) fun a1 =>
 cond (decide (a1.toI = (-1 : Int)))
 (some ((.sl 0 [] (some (0, s0.length))), [(.live true false false 2 s0)]))
 (f100o1_l1 x1_0 a1.toI (IntKind.i64.wrap (a1.toI + (1 : Int))) s0) := (dno_eq ..).trans (by kernel_rfl)
theorem f100o1_l1_eq (t1_0 : AV) (t5 : Int) (t6 : Int) (r0 : List AV) : f100o1_l1 t1_0 t5 t6 r0 =
 cond (decide (t6 < ((r0.length : Nat) : Int)))
 (if 0 ≤ t6 ∧ t6 < ((r0.length : Nat) : Int) then
 if okCells false (r0.getD (0 + t6.toNat) .x) 0 [(.i .i64)] = true then
 bSh .b (den E 102 [(.i .i64 (((r0.getD (0 + t6.toNat) .x).cells.getD 0 .x).toI)), (.ip t1_0 0)] []) fun a1 =>
 cond (!a1.toB)
 (if 0 ≤ t5 ∧ t5 < ((r0.length : Nat) : Int) then
 f100o1_j2 t1_0 (IntKind.i64.wrap (t5 + (1 : Int))) t6 (r0.set (0 + t5.toNat) ((r0.getD (0 + t5.toNat) .x).putCells 0 [(.i .i64 (((r0.getD (0 + t6.toNat) .x).cells.getD 0 .x).toI))]))
 else none)
 (f100o1_j2 t1_0 t5 t6 r0)
 else none
 else none)
 (if 0 ≤ t5 ∧ t5 ≤ ((r0.length : Nat) : Int) ∧ ((r0.length : Nat) : Int) ≤ ((r0.length : Nat) : Int) then
 if 0 ≤ (0 : Int) ∧ (0 : Int) ≤ t5 ∧ t5 ≤ (((r0.take t5.toNat ++ List.replicate (((r0.length : Nat) : Int).toNat - t5.toNat) ((.i .i64 (0 : Int)) : AV) ++ r0.drop (t5.toNat + (((r0.length : Nat) : Int).toNat - t5.toNat))).length : Nat) : Int) then
 some ((.sl 0 [] (some ((0 : Int).toNat, (t5.toNat - (0 : Int).toNat)))), [(.live true false false 2 (r0.take t5.toNat ++ List.replicate (((r0.length : Nat) : Int).toNat - t5.toNat) ((.i .i64 (0 : Int)) : AV) ++ r0.drop (t5.toNat + (((r0.length : Nat) : Int).toNat - t5.toNat))))])
 else none
 else none) := (LpO_eq ..).trans (by kernel_rfl)
theorem f100o1_j2_eq (t1_0 : AV) (t5 : Int) (t6 : Int) (r0 : List AV) : f100o1_j2 t1_0 t5 t6 r0 =
 f100o1_l1 t1_0 t5 (IntKind.i64.wrap (t6 + (1 : Int))) r0 := by kernel_rfl
/-! 53: (loop.example/g00905/impl.BadTable).available -/
theorem f53o1_eq (x0_0 : Int) (x0_1 : Int) (x0_2 : Int) (x0_3 : Int) (x0_4 : List AV) (x0_5 : List AV) (x1 : Int) : dno E 53 [(.agg [(.i .i64 x0_0), (.i .i64 x0_1), (.i .i64 x0_2), (.i .i64 x0_3), (.imm 1 x0_4), (.imm 1 x0_5)]), (.i .i64 x1)] [] =
 bOwn (.so 0) [(.row true 2)] 0 (dno E 101 [(.agg [(.i .i64 x0_0), (.i .i64 x0_1), (.i .i64 x0_2), (.i .i64 x0_3), (.imm 1 x0_4), (.imm 1 x0_5)]), (.i .i64 x1)] []) fun a1 =>
 bOwnFS (.pr 0) [(.same 2)] 1 [(.live true false false 2 ((a1.2.getD 0 .dead).row))] (dno E 100 [(.sl 0 [] none), (.fn 102 [(.ip (.agg [(.i .i64 x0_0), (.i .i64 x0_1), (.i .i64 x0_2), (.i .i64 x0_3), (.imm 1 x0_4), (.imm 1 x0_5)]) 0)])] [(.live true false false 2 ((a1.2.getD 0 .dead).row))]) fun a2 =>
 some ((.sl 0 [] (some (a2.1.off, a2.1.cnt))), [(.live true false false 2 ((a2.2.getD 0 .dead).row))]) := (dno_eq ..).trans (by kernel_rfl)
/-! 17: loop.example/g00905/impl.NewBadTable -/
noncomputable def f17o1_l1 (t35 : Int) (t36 : Int) (r0_0 : Int) (r0_1 : Int) (r0_2 : Int) (r1 : List AV) (r2 : List AV) (r3_0 : Int) (r3_1 : Int) (r3_2 : Int) (r3_3 : Int) (r4 : List AV) (r5 : List AV) (r6 : List AV) (r7_0 : Int) (r7_1 : Int) (r7_2 : Int) (r7_3 : Int) (r8 : List AV) : Option (AV × List Root) := LpO E fi17 [(7, [3, 6, 8, 35, 36], 9), (15, [3, 6, 8, 10, 35, 36], 9)] 0 [] (.tup [(.agg [(.i .i64), (.i .i64), (.i .i64), (.i .i64), (.so 0), (.so 1)]), (.i .i64)]) [true, true, true, false, true, false] (mkT 66 [(3, (.pt 0 [] 0 0)), (6, (.pt 3 [] 0 0)), (8, (.pt 7 [] 0 0)), (35, (.i .i64 t35)), (36, (.i .i64 t36))]) [(.live false true false 42 [(.agg [(.i .i64 r0_0), (.i .i64 r0_1), (.i .i64 r0_2)])]), (.live true false false 2 r1), (.live true false false 2 r2), (.live false true false 45 [(.agg [(.i .i64 r3_0), (.i .i64 r3_1), (.i .i64 r3_2), (.i .i64 r3_3), (.sl 1 [] none), (.sl 2 [] none)])]), (.live true false false 2 r4), (.live true false false 2 r5), (.live true false false 2 r6), (.live false true false 45 [(.agg [(.i .i64 r7_0), (.i .i64 r7_1), (.i .i64 r7_2), (.i .i64 r7_3), (.sl 4 [] none), (.sl 8 [] none)])]), (.live true false false 2 r8)]
noncomputable def f17o1_j2 (t10 : Int) (t35 : Int) (t36 : Int) (r0_0 : Int) (r0_1 : Int) (r0_2 : Int) (r1 : List AV) (r2 : List AV) (r3_0 : Int) (r3_1 : Int) (r3_2 : Int) (r3_3 : Int) (r4 : List AV) (r5 : List AV) (r6 : List AV) (r7_0 : Int) (r7_1 : Int) (r7_2 : Int) (r7_3 : Int) (r8 : List AV) : Option (AV × List Root) := JnO E fi17 [(7, [3, 6, 8, 35, 36], 9), (15, [3, 6, 8, 10, 35, 36], 9)] 0 [] (.tup [(.agg [(.i .i64), (.i .i64), (.i .i64), (.i .i64), (.so 0), (.so 1)]), (.i .i64)]) [true, true, true, false, true, false, false, true, true, false, false, true, true, true] (mkT 66 [(3, (.pt 0 [] 0 0)), (6, (.pt 3 [] 0 0)), (8, (.pt 7 [] 0 0)), (10, (.i .i64 t10)), (35, (.i .i64 t35)), (36, (.i .i64 t36))]) [(.live false true false 42 [(.agg [(.i .i64 r0_0), (.i .i64 r0_1), (.i .i64 r0_2)])]), (.live true false false 2 r1), (.live true false false 2 r2), (.live false true false 45 [(.agg [(.i .i64 r3_0), (.i .i64 r3_1), (.i .i64 r3_2), (.i .i64 r3_3), (.sl 1 [] none), (.sl 2 [] none)])]), (.live true false false 2 r4), (.live true false false 2 r5), (.live true false false 2 r6), (.live false true false 45 [(.agg [(.i .i64 r7_0), (.i .i64 r7_1), (.i .i64 r7_2), (.i .i64 r7_3), (.sl 4 [] none), (.sl 8 [] none)])]), (.live true false false 2 r8)]
theorem f17o1_eq (x0_0 : Int) (x0_1 : Int) (x0_2 : Int) (x1 : Int) (x2 : List AV) : dno E 17 [(.agg [(.i .i64 x0_0), (.i .i64 x0_1), (.i .i64 x0_2)]), (.i .i64 x1), (.imm 1 x2)] [] =
 bSh .b (den E 46 [(.agg [(.i .i64 x0_0), (.i .i64 x0_1), (.i .i64 x0_2)])] []) fun a1 =>
 cond (!a1.toB)
 (some ((.tup [(.agg [(.i .i64 (0 : Int)), (.i .i64 (0 : Int)), (.i .i64 (0 : Int)), (.i .i64 (0 : Int)), (.sl 0 [] none), (.sl 1 [] none)]), (.i .i64 (1 : Int))]), [(.live true false false 2 []), (.live true false false 2 [])]))
 (bSh .b (den E 47 [(.agg [(.i .i64 x0_0), (.i .i64 x0_1), (.i .i64 x0_2)]), (.i .i64 x1)] []) fun a2 =>
 cond ((!a2.toB) == false)
 (bSh .b (den E 48 [(.agg [(.i .i64 x0_0), (.i .i64 x0_1), (.i .i64 x0_2)]), (.imm 1 x2)] []) fun a3 =>
 cond (!a3.toB)
 (some ((.tup [(.agg [(.i .i64 (0 : Int)), (.i .i64 (0 : Int)), (.i .i64 (0 : Int)), (.i .i64 (0 : Int)), (.sl 0 [] none), (.sl 1 [] none)]), (.i .i64 (2 : Int))]), [(.live true false false 2 []), (.live true false false 2 [])]))
 (bOwn (.so 0) [(.row true 2)] 0 (dno E 49 [(.imm 1 x2)] []) fun a4 =>
 bSh (.i .i64) (den E 50 [(.agg [(.i .i64 x0_0), (.i .i64 x0_1), (.i .i64 x0_2), (.i .i64 x1), (.imm 1 ((a4.2.getD 0 .dead).row)), (.imm 1 [])])] []) fun a5 =>
 f17o1_l1 a5.toI (0 : Int) x0_0 x0_1 x0_2 [] [] (0 : Int) (0 : Int) (0 : Int) (0 : Int) ((a4.2.getD 0 .dead).row) [] [] x0_0 x0_1 x0_2 x1 []))
 (some ((.tup [(.agg [(.i .i64 (0 : Int)), (.i .i64 (0 : Int)), (.i .i64 (0 : Int)), (.i .i64 (0 : Int)), (.sl 0 [] none), (.sl 1 [] none)]), (.i .i64 (2 : Int))]), [(.live true false false 2 []), (.live true false false 2 [])]))) := (dno_eq ..).trans (by kernel_rfl)
theorem f17o1_l1_eq (t35 : Int) (t36 : Int) (r0_0 : Int) (r0_1 : Int) (r0_2 : Int) (r1 : List AV) (r2 : List AV) (r3_0 : Int) (r3_1 : Int) (r3_2 : Int) (r3_3 : Int) (r4 : List AV) (r5 : List AV) (r6 : List AV) (r7_0 : Int) (r7_1 : Int) (r7_2 : Int) (r7_3 : Int) (r8 : List AV) : f17o1_l1 t35 t36 r0_0 r0_1 r0_2 r1 r2 r3_0 r3_1 r3_2 r3_3 r4 r5 r6 r7_0 r7_1 r7_2 r7_3 r8 =
 cond (decide (t36 < t35))
 (bSh (.i .i64) (den E 51 [(.agg [(.i .i64 r7_0), (.i .i64 r7_1), (.i .i64 r7_2), (.i .i64 r7_3), (.imm 1 r4), (.imm 1 r8)]), (.i .i64 t36)] []) fun a1 =>
 bSh .b (den E 52 [(.agg [(.i .i64 r7_0), (.i .i64 r7_1), (.i .i64 r7_2), (.i .i64 r7_3), (.imm 1 r4), (.imm 1 r8)]), (.i .i64 a1.toI)] []) fun a2 =>
 cond a2.toB
 (if r0_1 = 0 then none else
 bOwnF (.pr 0) [(.row true 2)] 0 (dno E 53 [(.agg [(.i .i64 r7_0), (.i .i64 r7_1), (.i .i64 r7_2), (.i .i64 r7_3), (.imm 1 r4), (.imm 1 r8)]), (.i .i64 (IntKind.i64.wrap (a1.toI.tdiv r0_1)))] []) fun a3 =>
 cond (decide (((a3.1.cnt : Nat) : Int) = (0 : Int)))
 (some ((.tup [(.agg [(.i .i64 (0 : Int)), (.i .i64 (0 : Int)), (.i .i64 (0 : Int)), (.i .i64 (0 : Int)), (.sl 0 [] none), (.sl 1 [] none)]), (.i .i64 (4 : Int))]), [(.live true false false 2 []), (.live true false false 2 [])]))
 (if 0 ≤ (0 : Int) ∧ (0 : Int) < ((a3.1.cnt : Nat) : Int) then
 if okCells false (((a3.2.getD 0 .dead).row).getD (a3.1.off + (0 : Int).toNat) .x) 0 [(.i .i64)] = true then
 f17o1_j2 (((((a3.2.getD 0 .dead).row).getD (a3.1.off + (0 : Int).toNat) .x).cells.getD 0 .x).toI) t35 t36 r0_0 r0_1 r0_2 r1 r2 r3_0 r3_1 r3_2 r3_3 r4 r5 r6 r7_0 r7_1 r7_2 r7_3 r8
 else none
 else none))
 (f17o1_j2 a1.toI t35 t36 r0_0 r0_1 r0_2 r1 r2 r3_0 r3_1 r3_2 r3_3 r4 r5 r6 r7_0 r7_1 r7_2 r7_3 r8))
 (some ((.tup [(.agg [(.i .i64 r7_0), (.i .i64 r7_1), (.i .i64 r7_2), (.i .i64 r7_3), (.sl 0 [] none), (.sl 1 [] none)]), (.i .i64 (0 : Int))]), [(.live true false false 2 r4), (.live true false false 2 r8)])) := (LpO_eq ..).trans (by kernel_rfl)
theorem f17o1_j2_eq (t10 : Int) (t35 : Int) (t36 : Int) (r0_0 : Int) (r0_1 : Int) (r0_2 : Int) (r1 : List AV) (r2 : List AV) (r3_0 : Int) (r3_1 : Int) (r3_2 : Int) (r3_3 : Int) (r4 : List AV) (r5 : List AV) (r6 : List AV) (r7_0 : Int) (r7_1 : Int) (r7_2 : Int) (r7_3 : Int) (r8 : List AV) : f17o1_j2 t10 t35 t36 r0_0 r0_1 r0_2 r1 r2 r3_0 r3_1 r3_2 r3_3 r4 r5 r6 r7_0 r7_1 r7_2 r7_3 r8 =
 if (r8.length + ([(.i .i64 t10)] : List AV).length) * 8 ≤ room then
 f17o1_l1 t35 (IntKind.i64.wrap (t36 + (1 : Int))) r0_0 r0_1 r0_2 r1 r2 r3_0 r3_1 r3_2 r3_3 r4 r5 r6 r7_0 r7_1 r7_2 r7_3 (r8 ++ [(.i .i64 t10)])
 else none := by kernel_rfl
/-! 67: (loop.example/g00905/impl.BadTable).remapOk -/
theorem f67_eq (x0_0 : Int) (x0_1 : Int) (x0_2 : Int) (x0_3 : Int) (x0_4 : List AV) (x0_5 : List AV) (x1 : Int) (x2 : Int) : den E 67 [(.agg [(.i .i64 x0_0), (.i .i64 x0_1), (.i .i64 x0_2), (.i .i64 x0_3), (.imm 1 x0_4), (.imm 1 x0_5)]), (.i .i64 x1), (.i .i64 x2)] [] =
 bSh (.i .i64) (den E 51 [(.agg [(.i .i64 x0_0), (.i .i64 x0_1), (.i .i64 x0_2), (.i .i64 x0_3), (.imm 1 x0_4), (.imm 1 x0_5)]), (.i .i64 x1)] []) fun a1 =>
 cond (decide (x2 = a1.toI))
 (bSh .b (den E 52 [(.agg [(.i .i64 x0_0), (.i .i64 x0_1), (.i .i64 x0_2), (.i .i64 x0_3), (.imm 1 x0_4), (.imm 1 x0_5)]), (.i .i64 x2)] []) fun a2 =>
 some (.b (!a2.toB)))
 (bSh .b (den E 52 [(.agg [(.i .i64 x0_0), (.i .i64 x0_1), (.i .i64 x0_2), (.i .i64 x0_3), (.imm 1 x0_4), (.imm 1 x0_5)]), (.i .i64 x2)] []) fun a3 =>
 cond ((!a3.toB) == true)
 (bSh .b (den E 52 [(.agg [(.i .i64 x0_0), (.i .i64 x0_1), (.i .i64 x0_2), (.i .i64 x0_3), (.imm 1 x0_4), (.imm 1 x0_5)]), (.i .i64 a1.toI)] []) fun a4 =>
 cond (a4.toB == true)
 (if x0_1 = 0 then none else
 bOwn (.so 0) [(.row true 2)] 0 (dno E 101 [(.agg [(.i .i64 x0_0), (.i .i64 x0_1), (.i .i64 x0_2), (.i .i64 x0_3), (.imm 1 x0_4), (.imm 1 x0_5)]), (.i .i64 (IntKind.i64.wrap (a1.toI.tdiv x0_1)))] []) fun a5 =>
 bSh .b (den E 68 [(.imm 1 ((a5.2.getD 0 .dead).row)), (.i .i64 x2)] []) fun a6 =>
 some (.b a6.toB))
 (some (.b false)))
 (some (.b false))) := (den_eq ..).trans (by kernel_rfl)
/-! 21: loop.example/g00905/impl.ValidBadTable -/
noncomputable def f21_l1 (t34 : List AV) (t35 : Int) (t36 : Int) (r0_0 : Int) (r0_1 : Int) (r0_2 : Int) (r0_3 : Int) (r0_4 : List AV) (r0_5 : List AV) : Option AV := Lp E fi21 [true, true, false, true, false] (mkT 55 [(1, (.pt 0 [] 0 0)), (34, (.imm 1 t34)), (35, (.i .i64 t35)), (36, (.i .i64 t36))]) [(.live false true false 45 [(.agg [(.i .i64 r0_0), (.i .i64 r0_1), (.i .i64 r0_2), (.i .i64 r0_3), (.imm 1 r0_4), (.imm 1 r0_5)])])]
theorem f21_eq (x0_0 : Int) (x0_1 : Int) (x0_2 : Int) (x0_3 : Int) (x0_4 : List AV) (x0_5 : List AV) : den E 21 [(.agg [(.i .i64 x0_0), (.i .i64 x0_1), (.i .i64 x0_2), (.i .i64 x0_3), (.imm 1 x0_4), (.imm 1 x0_5)])] [] =
 bSh .b (den E 46 [(.agg [(.i .i64 x0_0), (.i .i64 x0_1), (.i .i64 x0_2)])] []) fun a1 =>
 cond ((!a1.toB) == false)
 (bSh .b (den E 47 [(.agg [(.i .i64 x0_0), (.i .i64 x0_1), (.i .i64 x0_2)]), (.i .i64 x0_3)] []) fun a2 =>
 cond ((!a2.toB) == false)
 (bSh .b (den E 48 [(.agg [(.i .i64 x0_0), (.i .i64 x0_1), (.i .i64 x0_2)]), (.imm 1 x0_4)] []) fun a3 =>
 cond ((!a3.toB) == false)
 (bSh (.i .i64) (den E 50 [(.agg [(.i .i64 x0_0), (.i .i64 x0_1), (.i .i64 x0_2), (.i .i64 x0_3), (.imm 1 x0_4), (.imm 1 x0_5)])] []) fun a4 =>
 cond (!decide (((x0_5.length : Nat) : Int) = a4.toI))
 (some (.b false))
 (f21_l1 x0_5 ((x0_5.length : Nat) : Int) (0 : Int) x0_0 x0_1 x0_2 x0_3 x0_4 x0_5))
 (some (.b false)))
 (some (.b false)))
 (some (.b false)) := (den_eq ..).trans (by kernel_rfl)
theorem f21_l1_eq (t34 : List AV) (t35 : Int) (t36 : Int) (r0_0 : Int) (r0_1 : Int) (r0_2 : Int) (r0_3 : Int) (r0_4 : List AV) (r0_5 : List AV) : f21_l1 t34 t35 t36 r0_0 r0_1 r0_2 r0_3 r0_4 r0_5 =
 cond (decide (t36 < t35))
 (if 0 ≤ t36 ∧ t36 < ((t34.length : Nat) : Int) then
 if okCells false (t34.getD t36.toNat .x) 0 [(.i .i64)] = true then
 bSh .b (den E 67 [(.agg [(.i .i64 r0_0), (.i .i64 r0_1), (.i .i64 r0_2), (.i .i64 r0_3), (.imm 1 r0_4), (.imm 1 r0_5)]), (.i .i64 t36), (.i .i64 (((t34.getD t36.toNat .x).cells.getD 0 .x).toI))] []) fun a1 =>
 cond ((!a1.toB) == false)
 (if 0 ≤ (0 : Int) ∧ (0 : Int) ≤ t36 ∧ t36 ≤ ((r0_5.length : Nat) : Int) then
 bSh .b (den E 68 [(.imm 1 (r0_5.take t36.toNat)), (.i .i64 (((t34.getD t36.toNat .x).cells.getD 0 .x).toI))] []) fun a2 =>
 cond a2.toB
 (some (.b false))
 (f21_l1 t34 t35 (IntKind.i64.wrap (t36 + (1 : Int))) r0_0 r0_1 r0_2 r0_3 r0_4 r0_5)
 else none)
 (some (.b false))
 else none
 else none)
 (some (.b true)) := (Lp_eq ..).trans (by kernel_rfl)
/-! 103: (loop.example/g00905/impl.BadTable).clone -/
theorem f103o1_eq (x0_0 : Int) (x0_1 : Int) (x0_2 : Int) (x0_3 : Int) (x0_4 : List AV) (x0_5 : List AV) : dno E 103 [(.agg [(.i .i64 x0_0), (.i .i64 x0_1), (.i .i64 x0_2), (.i .i64 x0_3), (.imm 1 x0_4), (.imm 1 x0_5)])] [] =
 bOwn (.so 0) [(.row true 2)] 0 (dno E 49 [(.imm 1 x0_4)] []) fun a1 =>
 bOwn (.so 0) [(.row true 2)] 0 (dno E 49 [(.imm 1 x0_5)] []) fun a2 =>
 some ((.agg [(.i .i64 x0_0), (.i .i64 x0_1), (.i .i64 x0_2), (.i .i64 x0_3), (.sl 0 [] none), (.sl 1 [] none)]), [(.live true false false 2 ((a1.2.getD 0 .dead).row)), (.live true false false 2 ((a2.2.getD 0 .dead).row))]) := (dno_eq ..).trans (by kernel_rfl)
/-! 141: cmp.isNaN[int64] -/
theorem f141_eq (x0 : Int) : den E 141 [(.i .i64 x0)] [] =
 some (.b (!decide (x0 = x0))) := (den_eq ..).trans (by kernel_rfl)
/-! 131: cmp.Less[int64] -/
theorem f131_eq (x0 : Int) (x1 : Int) : den E 131 [(.i .i64 x0), (.i .i64 x1)] [] =
 bSh .b (den E 141 [(.i .i64 x0)] []) fun a1 =>
 cond (a1.toB == true)
 (bSh .b (den E 141 [(.i .i64 x1)] []) fun a2 =>
 cond ((!a2.toB) == false)
 (some (.b (decide (x0 < x1))))
 (some (.b true)))
 (some (.b (decide (x0 < x1)))) := (den_eq ..).trans (by kernel_rfl)
/-! 132: slices.isNaN[int64] -/
theorem f132_eq (x0 : Int) : den E 132 [(.i .i64 x0)] [] =
 some (.b (!decide (x0 = x0))) := (den_eq ..).trans (by kernel_rfl)
/-! 104: slices.BinarySearch[[]int64,int64] -/
noncomputable def f104_l1 (t0 : List AV) (t1 : Int) (t6 : Int) (t7 : Int) (t8 : Int) : Option AV := Lp E fi104 [true, true, true, false, false] (mkT 54 [(0, (.imm 1 t0)), (1, (.i .i64 t1)), (6, (.i .i64 t6)), (7, (.i .i64 t7)), (8, (.i .i64 t8))]) []
theorem f104_eq (x0 : List AV) (x1 : Int) : den E 104 [(.imm 1 x0), (.i .i64 x1)] [] =
 f104_l1 x0 x1 ((x0.length : Nat) : Int) (0 : Int) ((x0.length : Nat) : Int) := (den_eq ..).trans (by kernel_rfl)
theorem f104_l1_eq (t0 : List AV) (t1 : Int) (t6 : Int) (t7 : Int) (t8 : Int) : f104_l1 t0 t1 t6 t7 t8 =
 cond (decide (t7 < t8))
 (if 0 ≤ (IntKind.i64.wrap ((IntKind.u64.wrap (IntKind.i64.wrap (t7 + t8))).fdiv (2 ^ (min (1 : Int).toNat IntKind.u64.bits)))) ∧ (IntKind.i64.wrap ((IntKind.u64.wrap (IntKind.i64.wrap (t7 + t8))).fdiv (2 ^ (min (1 : Int).toNat IntKind.u64.bits)))) < ((t0.length : Nat) : Int) then
 if okCells false (t0.getD (IntKind.i64.wrap ((IntKind.u64.wrap (IntKind.i64.wrap (t7 + t8))).fdiv (2 ^ (min (1 : Int).toNat IntKind.u64.bits)))).toNat .x) 0 [(.i .i64)] = true then
 bSh .b (den E 131 [(.i .i64 (((t0.getD (IntKind.i64.wrap ((IntKind.u64.wrap (IntKind.i64.wrap (t7 + t8))).fdiv (2 ^ (min (1 : Int).toNat IntKind.u64.bits)))).toNat .x).cells.getD 0 .x).toI)), (.i .i64 t1)] []) fun a1 =>
 cond a1.toB
 (f104_l1 t0 t1 t6 (IntKind.i64.wrap ((IntKind.i64.wrap ((IntKind.u64.wrap (IntKind.i64.wrap (t7 + t8))).fdiv (2 ^ (min (1 : Int).toNat IntKind.u64.bits)))) + (1 : Int))) t8)
 (f104_l1 t0 t1 t6 t7 (IntKind.i64.wrap ((IntKind.u64.wrap (IntKind.i64.wrap (t7 + t8))).fdiv (2 ^ (min (1 : Int).toNat IntKind.u64.bits)))))
 else none
 else none)
 (cond ((decide (t7 < t6)) == true)
 (if 0 ≤ t7 ∧ t7 < ((t0.length : Nat) : Int) then
 if okCells false (t0.getD t7.toNat .x) 0 [(.i .i64)] = true then
 cond ((decide ((((t0.getD t7.toNat .x).cells.getD 0 .x).toI) = t1)) == false)
 (if 0 ≤ t7 ∧ t7 < ((t0.length : Nat) : Int) then
 if okCells false (t0.getD t7.toNat .x) 0 [(.i .i64)] = true then
 bSh .b (den E 132 [(.i .i64 (((t0.getD t7.toNat .x).cells.getD 0 .x).toI))] []) fun a2 =>
 cond (a2.toB == true)
 (bSh .b (den E 132 [(.i .i64 t1)] []) fun a3 =>
 some (.tup [(.i .i64 t7), (.b a3.toB)]))
 (some (.tup [(.i .i64 t7), (.b false)]))
 else none
 else none)
 (some (.tup [(.i .i64 t7), (.b true)]))
 else none
 else none)
 (some (.tup [(.i .i64 t7), (.b false)]))) := (Lp_eq ..).trans (by kernel_rfl)
/-! 105: slices.Insert[[]int64,int64] -/
theorem f105_eq (x0 : List AV) (x1 : Int) (x2 : AV) : dno E 105 [(.sl 0 [] none), (.i .i64 x1), (.sl 1 [] none)] [(.live true false false 2 x0), (.live true false false 2 [x2])] = if (2 = 2 ∧ 2 = 2) ∧ (0 ≤ x1 ∧ x1 ≤ ((x0.length : Nat) : Int)) ∧ (x0.length + 1) * 8 ≤ room then some (.sl 0 [] none, [.live true false false 2 (x0.take x1.toNat ++ [x2] ++ x0.drop x1.toNat), .live true false false 2 [x2]]) else none := (dno_eq ..).trans (by kernel_rfl)
/-! 56: (loop.example/g00905/impl.BadTable).retire -/
noncomputable def f56o1_j1 (t1 : Int) (r0_0 : Int) (r0_1 : Int) (r0_2 : Int) (r0_3 : Int) (r0_4 : List AV) (r0_5 : List AV) (r1 : List AV) (r2 : List AV) (r3_0 : Int) (r3_1 : Int) (r3_2 : Int) (r3_3 : Int) (r4 : List AV) (r5 : List AV) (r6 : List AV) (r7 : List AV) (r8_0 : Int) (r8_1 : Int) (r8_2 : Int) (r8_3 : Int) : Option (AV × List Root) := JnO E fi56 [(10, [1, 4, 6], 9)] 0 [] (.tup [(.agg [(.i .i64), (.i .i64), (.i .i64), (.i .i64), (.so 0), (.so 1)]), (.i .i64)]) [true, true, true, true] (mkT 56 [(1, (.i .i64 t1)), (4, (.pt 3 [] 0 0)), (6, (.pt 8 [] 0 0))]) [(.live false true false 45 [(.agg [(.i .i64 r0_0), (.i .i64 r0_1), (.i .i64 r0_2), (.i .i64 r0_3), (.imm 1 r0_4), (.imm 1 r0_5)])]), (.live true false false 2 r1), (.live true false false 2 r2), (.live false true false 45 [(.agg [(.i .i64 r3_0), (.i .i64 r3_1), (.i .i64 r3_2), (.i .i64 r3_3), (.sl 1 [] none), (.sl 2 [] none)])]), (.live true false false 2 r4), (.live true false false 2 r5), (.live true false false 2 r6), (.live true false false 2 r7), (.live false true false 45 [(.agg [(.i .i64 r8_0), (.i .i64 r8_1), (.i .i64 r8_2), (.i .i64 r8_3), (.sl 4 [] none), (.sl 5 [] none)])])]
theorem f56o1_eq (x0_0 : Int) (x0_1 : Int) (x0_2 : Int) (x0_3 : Int) (x0_4 : List AV) (x0_5 : List AV) (x1 : Int) : dno E 56 [(.agg [(.i .i64 x0_0), (.i .i64 x0_1), (.i .i64 x0_2), (.i .i64 x0_3), (.imm 1 x0_4), (.imm 1 x0_5)]), (.i .i64 x1)] [] =
 bSh .b (den E 52 [(.agg [(.i .i64 x0_0), (.i .i64 x0_1), (.i .i64 x0_2), (.i .i64 x0_3), (.imm 1 x0_4), (.imm 1 x0_5)]), (.i .i64 x1)] []) fun a1 =>
 cond a1.toB
 (some ((.tup [(.agg [(.i .i64 (0 : Int)), (.i .i64 (0 : Int)), (.i .i64 (0 : Int)), (.i .i64 (0 : Int)), (.sl 0 [] none), (.sl 1 [] none)]), (.i .i64 (5 : Int))]), [(.live true false false 2 []), (.live true false false 2 [])]))
 (bOwn (.agg [(.i .i64), (.i .i64), (.i .i64), (.i .i64), (.so 0), (.so 1)]) [(.row true 2), (.row true 2)] 0 (dno E 103 [(.agg [(.i .i64 x0_0), (.i .i64 x0_1), (.i .i64 x0_2), (.i .i64 x0_3), (.imm 1 x0_4), (.imm 1 x0_5)])] []) fun a2 =>
 bSh (.i .i64) (den E 70 [(.imm 1 x0_5), (.i .i64 x1)] []) fun a3 =>
 cond (decide ((0 : Int) ≤ a3.toI))
 (if x0_1 = 0 then none else
 bOwn (.pr 0) [(.row true 2)] 0 (dno E 53 [(.agg [(.i .i64 x0_0), (.i .i64 x0_1), (.i .i64 x0_2), (.i .i64 x0_3), (.imm 1 x0_4), (.imm 1 x0_5)]), (.i .i64 (IntKind.i64.wrap (x1.tdiv x0_1)))] []) fun a4 =>
 cond (decide (((a4.1.cnt : Nat) : Int) = (0 : Int)))
 (some ((.tup [(.agg [(.i .i64 (0 : Int)), (.i .i64 (0 : Int)), (.i .i64 (0 : Int)), (.i .i64 (0 : Int)), (.sl 0 [] none), (.sl 1 [] none)]), (.i .i64 (4 : Int))]), [(.live true false false 2 []), (.live true false false 2 [])]))
 (if 0 ≤ (0 : Int) ∧ (0 : Int) < ((a4.1.cnt : Nat) : Int) then
 if okCells false (((a4.2.getD 0 .dead).row).getD (a4.1.off + (0 : Int).toNat) .x) 0 [(.i .i64)] = true then
 if 0 ≤ a3.toI ∧ a3.toI < ((((a2.2.getD 1 .dead).row).length : Nat) : Int) then
 f56o1_j1 x1 x0_0 x0_1 x0_2 x0_3 x0_4 x0_5 [] [] (0 : Int) (0 : Int) (0 : Int) (0 : Int) ((a2.2.getD 0 .dead).row) (((a2.2.getD 1 .dead).row).set (0 + a3.toI.toNat) ((((a2.2.getD 1 .dead).row).getD (0 + a3.toI.toNat) .x).putCells 0 [(.i .i64 (((((a4.2.getD 0 .dead).row).getD (a4.1.off + (0 : Int).toNat) .x).cells.getD 0 .x).toI))])) [] [] ((a2.1.nth 0).toI) ((a2.1.nth 1).toI) ((a2.1.nth 2).toI) ((a2.1.nth 3).toI)
 else none
 else none
 else none))
 (f56o1_j1 x1 x0_0 x0_1 x0_2 x0_3 x0_4 x0_5 [] [] (0 : Int) (0 : Int) (0 : Int) (0 : Int) ((a2.2.getD 0 .dead).row) ((a2.2.getD 1 .dead).row) [] [] ((a2.1.nth 0).toI) ((a2.1.nth 1).toI) ((a2.1.nth 2).toI) ((a2.1.nth 3).toI))) := (dno_eq ..).trans (by kernel_rfl)
theorem f56o1_j1_eq (t1 : Int) (r0_0 : Int) (r0_1 : Int) (r0_2 : Int) (r0_3 : Int) (r0_4 : List AV) (r0_5 : List AV) (r1 : List AV) (r2 : List AV) (r3_0 : Int) (r3_1 : Int) (r3_2 : Int) (r3_3 : Int) (r4 : List AV) (r5 : List AV) (r6 : List AV) (r7 : List AV) (r8_0 : Int) (r8_1 : Int) (r8_2 : Int) (r8_3 : Int) : f56o1_j1 t1 r0_0 r0_1 r0_2 r0_3 r0_4 r0_5 r1 r2 r3_0 r3_1 r3_2 r3_3 r4 r5 r6 r7 r8_0 r8_1 r8_2 r8_3 =
 bSh (.tup [(.i .i64), .b]) (den E 104 [(.imm 1 r4), (.i .i64 t1)] []) fun a1 =>
 bOwn (.so 0) [(.row true 2), (.row true 2)] 2 (dno E 105 [(.sl 0 [] none), (.i .i64 ((a1.nth 0).toI)), (.sl 1 [] none)] [(.live true false false 2 r4), (.live true false false 2 [(.i .i64 t1)])]) fun a2 =>
 some ((.tup [(.agg [(.i .i64 r8_0), (.i .i64 r8_1), (.i .i64 r8_2), (.i .i64 r8_3), (.sl 0 [] none), (.sl 1 [] none)]), (.i .i64 (0 : Int))]), [(.live true false false 2 ((a2.2.getD 0 .dead).row)), (.live true false false 2 r5)]) := by kernel_rfl
/-! 18: loop.example/g00905/impl.RetireBlock -/
theorem f18o1_eq (x0_0 : Int) (x0_1 : Int) (x0_2 : Int) (x0_3 : Int) (x0_4 : List AV) (x0_5 : List AV) (x1 : Int) : dno E 18 [(.agg [(.i .i64 x0_0), (.i .i64 x0_1), (.i .i64 x0_2), (.i .i64 x0_3), (.imm 1 x0_4), (.imm 1 x0_5)]), (.i .i64 x1)] [] =
 bSh .b (den E 21 [(.agg [(.i .i64 x0_0), (.i .i64 x0_1), (.i .i64 x0_2), (.i .i64 x0_3), (.imm 1 x0_4), (.imm 1 x0_5)])] []) fun a1 =>
 cond (!a1.toB)
 (some ((.tup [(.agg [(.i .i64 (0 : Int)), (.i .i64 (0 : Int)), (.i .i64 (0 : Int)), (.i .i64 (0 : Int)), (.sl 0 [] none), (.sl 1 [] none)]), (.i .i64 (1 : Int))]), [(.live true false false 2 []), (.live true false false 2 [])]))
 (bSh (.i .i64) (den E 55 [(.agg [(.i .i64 x0_0), (.i .i64 x0_1), (.i .i64 x0_2)])] []) fun a2 =>
 bSh .b (den E 54 [(.i .i64 x1), (.i .i64 (0 : Int)), (.i .i64 (IntKind.i64.wrap (a2.toI - (1 : Int))))] []) fun a3 =>
 cond (!a3.toB)
 (some ((.tup [(.agg [(.i .i64 (0 : Int)), (.i .i64 (0 : Int)), (.i .i64 (0 : Int)), (.i .i64 (0 : Int)), (.sl 0 [] none), (.sl 1 [] none)]), (.i .i64 (2 : Int))]), [(.live true false false 2 []), (.live true false false 2 [])]))
 (bOwn (.tup [(.agg [(.i .i64), (.i .i64), (.i .i64), (.i .i64), (.so 0), (.so 1)]), (.i .i64)]) [(.row true 2), (.row true 2)] 0 (dno E 56 [(.agg [(.i .i64 x0_0), (.i .i64 x0_1), (.i .i64 x0_2), (.i .i64 x0_3), (.imm 1 x0_4), (.imm 1 x0_5)]), (.i .i64 x1)] []) fun a4 =>
 some ((.tup [(.agg [(.i .i64 (((a4.1.nth 0).nth 0).toI)), (.i .i64 (((a4.1.nth 0).nth 1).toI)), (.i .i64 (((a4.1.nth 0).nth 2).toI)), (.i .i64 (((a4.1.nth 0).nth 3).toI)), (.sl 0 [] none), (.sl 1 [] none)]), (.i .i64 ((a4.1.nth 1).toI))]), [(.live true false false 2 ((a4.2.getD 0 .dead).row)), (.live true false false 2 ((a4.2.getD 1 .dead).row))]))) := (dno_eq ..).trans (by kernel_rfl)
/-! 57: loop.example/g00905/spec.l00In -/
theorem f57_eq (x0 : Int) (x1 : Int) (x2 : Int) : den E 57 [(.i .i64 x0), (.i .i64 x1), (.i .i64 x2)] [] =
 cond ((decide (x1 ≤ x0)) == true)
 (some (.b (decide (x0 ≤ x2))))
 (some (.b false)) := (den_eq ..).trans (by kernel_rfl)
/-! 107: loop.example/g00905/spec.ValidGeometry -/
theorem f107_eq (x0_0 : Int) (x0_1 : Int) (x0_2 : Int) : den E 107 [(.agg [(.i .i64 x0_0), (.i .i64 x0_1), (.i .i64 x0_2)])] [] =
 bSh .b (den E 57 [(.i .i64 x0_0), (.i .i64 (2 : Int)), (.i .i64 (3 : Int))] []) fun a1 =>
 cond (a1.toB == true)
 (bSh .b (den E 57 [(.i .i64 x0_1), (.i .i64 (4 : Int)), (.i .i64 (12 : Int))] []) fun a2 =>
 cond (a2.toB == true)
 (cond ((decide (x0_2 = (8 : Int))) == false)
 (some (.b (decide (x0_2 = (16 : Int)))))
 (some (.b true)))
 (some (.b false)))
 (some (.b false)) := (den_eq ..).trans (by kernel_rfl)
/-! 58: loop.example/g00905/spec.l07Count -/
theorem f58_eq (x0_0 : Int) (x0_1 : Int) (x0_2 : Int) : den E 58 [(.agg [(.i .i64 x0_0), (.i .i64 x0_1), (.i .i64 x0_2)])] [] =
 some (.i .i64 (IntKind.i64.wrap (x0_0 * x0_1))) := (den_eq ..).trans (by kernel_rfl)
/-! 108: loop.example/g00905/spec.l00Rises -/
noncomputable def f108_l1 (t0 : List AV) (t1 : Int) (t2 : Int) (t7 : Int) : Option AV := Lp E fi108 [true, false, true, false] (mkT 38 [(0, (.imm 1 t0)), (1, (.i .i64 t1)), (2, (.i .i64 t2)), (7, (.i .i64 t7))]) []
noncomputable def f108_j2 (t0 : List AV) (t1 : Int) (t2 : Int) (t7 : Int) : Option AV := Jn E fi108 [true, false, true, false, false, true, true] (mkT 38 [(0, (.imm 1 t0)), (1, (.i .i64 t1)), (2, (.i .i64 t2)), (7, (.i .i64 t7))]) []
theorem f108_eq (x0 : List AV) (x1 : Int) (x2 : Int) : den E 108 [(.imm 1 x0), (.i .i64 x1), (.i .i64 x2)] [] =
 f108_l1 x0 x1 x2 (0 : Int) := (den_eq ..).trans (by kernel_rfl)
theorem f108_l1_eq (t0 : List AV) (t1 : Int) (t2 : Int) (t7 : Int) : f108_l1 t0 t1 t2 t7 =
 cond (decide (t7 < ((t0.length : Nat) : Int)))
 (if 0 ≤ t7 ∧ t7 < ((t0.length : Nat) : Int) then
 if okCells false (t0.getD t7.toNat .x) 0 [(.i .i64)] = true then
 bSh .b (den E 57 [(.i .i64 (((t0.getD t7.toNat .x).cells.getD 0 .x).toI)), (.i .i64 t1), (.i .i64 t2)] []) fun a1 =>
 cond ((!a1.toB) == false)
 (cond ((decide ((0 : Int) < t7)) == true)
 (if 0 ≤ (IntKind.i64.wrap (t7 - (1 : Int))) ∧ (IntKind.i64.wrap (t7 - (1 : Int))) < ((t0.length : Nat) : Int) then
 if okCells false (t0.getD (IntKind.i64.wrap (t7 - (1 : Int))).toNat .x) 0 [(.i .i64)] = true then
 if 0 ≤ t7 ∧ t7 < ((t0.length : Nat) : Int) then
 if okCells false (t0.getD t7.toNat .x) 0 [(.i .i64)] = true then
 cond (decide ((((t0.getD t7.toNat .x).cells.getD 0 .x).toI) ≤ (((t0.getD (IntKind.i64.wrap (t7 - (1 : Int))).toNat .x).cells.getD 0 .x).toI)))
 (some (.b false))
 (f108_j2 t0 t1 t2 t7)
 else none
 else none
 else none
 else none)
 (f108_j2 t0 t1 t2 t7))
 (some (.b false))
 else none
 else none)
 (some (.b true)) := (Lp_eq ..).trans (by kernel_rfl)
theorem f108_j2_eq (t0 : List AV) (t1 : Int) (t2 : Int) (t7 : Int) : f108_j2 t0 t1 t2 t7 =
 f108_l1 t0 t1 t2 (IntKind.i64.wrap (t7 + (1 : Int))) := by kernel_rfl
/-! 64: loop.example/g00905/spec.l07Shape -/
theorem f64_eq (x0_0 : Int) (x0_1 : Int) (x0_2 : Int) (x0_3 : Int) (x0_4 : List AV) (x0_5 : List AV) : den E 64 [(.agg [(.i .i64 x0_0), (.i .i64 x0_1), (.i .i64 x0_2), (.i .i64 x0_3), (.imm 1 x0_4), (.imm 1 x0_5)])] [] =
 bSh .b (den E 107 [(.agg [(.i .i64 x0_0), (.i .i64 x0_1), (.i .i64 x0_2)])] []) fun a1 =>
 cond (a1.toB == true)
 (bSh .b (den E 57 [(.i .i64 x0_3), (.i .i64 (1 : Int)), (.i .i64 (4 : Int))] []) fun a2 =>
 cond (a2.toB == true)
 (cond ((decide (x0_3 < (IntKind.i64.wrap (x0_1 - (1 : Int))))) == true)
 (bSh (.i .i64) (den E 58 [(.agg [(.i .i64 x0_0), (.i .i64 x0_1), (.i .i64 x0_2)])] []) fun a3 =>
 bSh .b (den E 108 [(.imm 1 x0_4), (.i .i64 (0 : Int)), (.i .i64 (IntKind.i64.wrap (a3.toI - (1 : Int))))] []) fun a4 =>
 some (.b a4.toB))
 (some (.b false)))
 (some (.b false)))
 (some (.b false)) := (den_eq ..).trans (by kernel_rfl)
/-! 65: loop.example/g00905/spec.l07Home -/
theorem f65_eq (x0_0 : Int) (x0_1 : Int) (x0_2 : Int) (x0_3 : Int) (x0_4 : List AV) (x0_5 : List AV) (x1 : Int) : den E 65 [(.agg [(.i .i64 x0_0), (.i .i64 x0_1), (.i .i64 x0_2), (.i .i64 x0_3), (.imm 1 x0_4), (.imm 1 x0_5)]), (.i .i64 x1)] [] =
 if (IntKind.i64.wrap (x0_1 - x0_3)) = 0 then none else
 if (IntKind.i64.wrap (x0_1 - x0_3)) = 0 then none else
 some (.i .i64 (IntKind.i64.wrap ((IntKind.i64.wrap ((IntKind.i64.wrap (x1.tdiv (IntKind.i64.wrap (x0_1 - x0_3)))) * x0_1)) + (x1.tmod (IntKind.i64.wrap (x0_1 - x0_3)))))) := (den_eq ..).trans (by kernel_rfl)
/-! 59: loop.example/g00905/spec.l00Has -/
noncomputable def f59_l1 (t0 : List AV) (t1 : Int) (t5 : Int) : Option AV := Lp E fi59 [true, false, true, false] (mkT 18 [(0, (.imm 1 t0)), (1, (.i .i64 t1)), (5, (.i .i64 t5))]) []
theorem f59_eq (x0 : List AV) (x1 : Int) : den E 59 [(.imm 1 x0), (.i .i64 x1)] [] =
 f59_l1 x0 x1 (0 : Int) := (den_eq ..).trans (by kernel_rfl)
theorem f59_l1_eq (t0 : List AV) (t1 : Int) (t5 : Int) : f59_l1 t0 t1 t5 =
 cond (decide (t5 < ((t0.length : Nat) : Int)))
 (if 0 ≤ t5 ∧ t5 < ((t0.length : Nat) : Int) then
 if okCells false (t0.getD t5.toNat .x) 0 [(.i .i64)] = true then
 cond (decide ((((t0.getD t5.toNat .x).cells.getD 0 .x).toI) = t1))
 (some (.b true))
 (f59_l1 t0 t1 (IntKind.i64.wrap (t5 + (1 : Int))))
 else none
 else none)
 (some (.b false)) := (Lp_eq ..).trans (by kernel_rfl)
/-! 66: loop.example/g00905/spec.l07SpareOf -/
theorem f66_eq (x0_0 : Int) (x0_1 : Int) (x0_2 : Int) (x0_3 : Int) (x0_4 : List AV) (x0_5 : List AV) (x1 : Int) (x2 : Int) : den E 66 [(.agg [(.i .i64 x0_0), (.i .i64 x0_1), (.i .i64 x0_2), (.i .i64 x0_3), (.imm 1 x0_4), (.imm 1 x0_5)]), (.i .i64 x1), (.i .i64 x2)] [] =
 bSh .b (den E 57 [(.i .i64 x2), (.i .i64 (IntKind.i64.wrap ((IntKind.i64.wrap ((IntKind.i64.wrap (x1 + (1 : Int))) * x0_1)) - x0_3))), (.i .i64 (IntKind.i64.wrap ((IntKind.i64.wrap ((IntKind.i64.wrap (x1 + (1 : Int))) * x0_1)) - (1 : Int))))] []) fun a1 =>
 some (.b a1.toB) := (den_eq ..).trans (by kernel_rfl)
/-! 20: loop.example/g00905/spec.ValidBadTable -/
noncomputable def f20_l1 (t3 : Int) (r0_0 : Int) (r0_1 : Int) (r0_2 : Int) (r0_3 : Int) (r0_4 : List AV) (r0_5 : List AV) : Option AV := Lp E fi20 [true, true, false, true, false] (mkT 72 [(1, (.pt 0 [] 0 0)), (3, (.i .i64 t3))]) [(.live false true false 45 [(.agg [(.i .i64 r0_0), (.i .i64 r0_1), (.i .i64 r0_2), (.i .i64 r0_3), (.imm 1 r0_4), (.imm 1 r0_5)])])]
noncomputable def f20_j2 (t3 : Int) (r0_0 : Int) (r0_1 : Int) (r0_2 : Int) (r0_3 : Int) (r0_4 : List AV) (r0_5 : List AV) : Option AV := Jn E fi20 [true, true, false, true, false, false, true, true] (mkT 72 [(1, (.pt 0 [] 0 0)), (3, (.i .i64 t3))]) [(.live false true false 45 [(.agg [(.i .i64 r0_0), (.i .i64 r0_1), (.i .i64 r0_2), (.i .i64 r0_3), (.imm 1 r0_4), (.imm 1 r0_5)])])]
theorem f20_eq (x0_0 : Int) (x0_1 : Int) (x0_2 : Int) (x0_3 : Int) (x0_4 : List AV) (x0_5 : List AV) : den E 20 [(.agg [(.i .i64 x0_0), (.i .i64 x0_1), (.i .i64 x0_2), (.i .i64 x0_3), (.imm 1 x0_4), (.imm 1 x0_5)])] [] =
 bSh .b (den E 64 [(.agg [(.i .i64 x0_0), (.i .i64 x0_1), (.i .i64 x0_2), (.i .i64 x0_3), (.imm 1 x0_4), (.imm 1 x0_5)])] []) fun a1 =>
 cond ((!a1.toB) == false)
 (cond (!decide (((x0_5.length : Nat) : Int) = (IntKind.i64.wrap (x0_0 * (IntKind.i64.wrap (x0_1 - x0_3))))))
 (some (.b false))
 (f20_l1 (0 : Int) x0_0 x0_1 x0_2 x0_3 x0_4 x0_5))
 (some (.b false)) := (den_eq ..).trans (by kernel_rfl)
theorem f20_l1_eq (t3 : Int) (r0_0 : Int) (r0_1 : Int) (r0_2 : Int) (r0_3 : Int) (r0_4 : List AV) (r0_5 : List AV) : f20_l1 t3 r0_0 r0_1 r0_2 r0_3 r0_4 r0_5 =
 cond (decide (t3 < ((r0_5.length : Nat) : Int)))
 (bSh (.i .i64) (den E 65 [(.agg [(.i .i64 r0_0), (.i .i64 r0_1), (.i .i64 r0_2), (.i .i64 r0_3), (.imm 1 r0_4), (.imm 1 r0_5)]), (.i .i64 t3)] []) fun a1 =>
 if 0 ≤ t3 ∧ t3 < ((r0_5.length : Nat) : Int) then
 if okCells false (r0_5.getD t3.toNat .x) 0 [(.i .i64)] = true then
 bSh .b (den E 59 [(.imm 1 r0_4), (.i .i64 (((r0_5.getD t3.toNat .x).cells.getD 0 .x).toI))] []) fun a2 =>
 cond (a2.toB == false)
 (if 0 ≤ (0 : Int) ∧ (0 : Int) ≤ t3 ∧ t3 ≤ ((r0_5.length : Nat) : Int) then
 bSh .b (den E 59 [(.imm 1 (r0_5.take t3.toNat)), (.i .i64 (((r0_5.getD t3.toNat .x).cells.getD 0 .x).toI))] []) fun a3 =>
 cond a3.toB
 (some (.b false))
 (cond ((!decide ((((r0_5.getD t3.toNat .x).cells.getD 0 .x).toI) = a1.toI)) == true)
 (if r0_1 = 0 then none else
 bSh .b (den E 66 [(.agg [(.i .i64 r0_0), (.i .i64 r0_1), (.i .i64 r0_2), (.i .i64 r0_3), (.imm 1 r0_4), (.imm 1 r0_5)]), (.i .i64 (IntKind.i64.wrap (a1.toI.tdiv r0_1))), (.i .i64 (((r0_5.getD t3.toNat .x).cells.getD 0 .x).toI))] []) fun a4 =>
 cond (a4.toB == true)
 (bSh .b (den E 59 [(.imm 1 r0_4), (.i .i64 a1.toI)] []) fun a5 =>
 cond (!a5.toB)
 (some (.b false))
 (f20_j2 t3 r0_0 r0_1 r0_2 r0_3 r0_4 r0_5))
 (some (.b false)))
 (f20_j2 t3 r0_0 r0_1 r0_2 r0_3 r0_4 r0_5))
 else none)
 (some (.b false))
 else none
 else none)
 (some (.b true)) := (Lp_eq ..).trans (by kernel_rfl)
theorem f20_j2_eq (t3 : Int) (r0_0 : Int) (r0_1 : Int) (r0_2 : Int) (r0_3 : Int) (r0_4 : List AV) (r0_5 : List AV) : f20_j2 t3 r0_0 r0_1 r0_2 r0_3 r0_4 r0_5 =
 f20_l1 (IntKind.i64.wrap (t3 + (1 : Int))) r0_0 r0_1 r0_2 r0_3 r0_4 r0_5 := by kernel_rfl
/-! 106: loop.example/g00905/spec.l00Own -/
theorem f106o1_eq (x0 : List AV) : dno E 106 [(.imm 1 x0)] [] =
 if x0.length * 8 ≤ room then
 some ((.sl 0 [] none), [(.live true false false 2 x0)])
 else none := (dno_eq ..).trans (by kernel_rfl)
/-! 60: loop.example/g00905/spec.l07Own -/
theorem f60o1_eq (x0_0 : Int) (x0_1 : Int) (x0_2 : Int) (x0_3 : Int) (x0_4 : List AV) (x0_5 : List AV) : dno E 60 [(.agg [(.i .i64 x0_0), (.i .i64 x0_1), (.i .i64 x0_2), (.i .i64 x0_3), (.imm 1 x0_4), (.imm 1 x0_5)])] [] =
 bOwn (.so 0) [(.row true 2)] 0 (dno E 106 [(.imm 1 x0_4)] []) fun a1 =>
 bOwn (.so 0) [(.row true 2)] 0 (dno E 106 [(.imm 1 x0_5)] []) fun a2 =>
 some ((.agg [(.i .i64 x0_0), (.i .i64 x0_1), (.i .i64 x0_2), (.i .i64 x0_3), (.sl 0 [] none), (.sl 1 [] none)]), [(.live true false false 2 ((a1.2.getD 0 .dead).row)), (.live true false false 2 ((a2.2.getD 0 .dead).row))]) := (dno_eq ..).trans (by kernel_rfl)
/-! 61: loop.example/g00905/spec.l00Put -/
noncomputable def f61o1_l1 (t0 : List AV) (t1 : Int) (t6 : Bool) (t7 : Int) (r0 : List AV) (r1 : List AV) : Option (AV × List Root) := LpO E fi61 [(4, [0, 1, 5, 6, 7], 2), (10, [0, 1, 5, 6, 7], 2), (13, [5], 2)] 0 [] (.so 0) [true, true, true, false, true, false] (mkT 49 [(0, (.imm 1 t0)), (1, (.i .i64 t1)), (5, (.sl 1 [] none)), (6, (.b t6)), (7, (.i .i64 t7))]) [(.live true false false 2 r0), (.live true false false 2 r1)]
noncomputable def f61o1_j2 (t0 : List AV) (t1 : Int) (t6 : Bool) (t7 : Int) (r0 : List AV) (r1 : List AV) : Option (AV × List Root) := JnO E fi61 [(4, [0, 1, 5, 6, 7], 2), (10, [0, 1, 5, 6, 7], 2), (13, [5], 2)] 0 [] (.so 0) [true, true, true, false, true, false, false, true, false, false, true] (mkT 49 [(0, (.imm 1 t0)), (1, (.i .i64 t1)), (5, (.sl 1 [] none)), (6, (.b t6)), (7, (.i .i64 t7))]) [(.live true false false 2 r0), (.live true false false 2 r1)]
noncomputable def f61o1_j3 (r0 : List AV) (r1 : List AV) : Option (AV × List Root) := JnO E fi61 [(4, [0, 1, 5, 6, 7], 2), (10, [0, 1, 5, 6, 7], 2), (13, [5], 2)] 0 [] (.so 0) [true, true, true, true, true] (mkT 49 [(5, (.sl 1 [] none))]) [(.live true false false 2 r0), (.live true false false 2 r1)]
theorem f61o1_eq (x0 : List AV) (x1 : Int) : dno E 61 [(.imm 1 x0), (.i .i64 x1)] [] =
 f61o1_l1 x0 x1 false (0 : Int) [] [] := (dno_eq ..).trans (by kernel_rfl)
theorem f61o1_l1_eq (t0 : List AV) (t1 : Int) (t6 : Bool) (t7 : Int) (r0 : List AV) (r1 : List AV) : f61o1_l1 t0 t1 t6 t7 r0 r1 =
 cond (decide (t7 < ((t0.length : Nat) : Int)))
 (cond ((!t6) == true)
 (if 0 ≤ t7 ∧ t7 < ((t0.length : Nat) : Int) then
 if okCells false (t0.getD t7.toNat .x) 0 [(.i .i64)] = true then
 cond (decide (t1 ≤ (((t0.getD t7.toNat .x).cells.getD 0 .x).toI)))
 (if 0 ≤ t7 ∧ t7 < ((t0.length : Nat) : Int) then
 if okCells false (t0.getD t7.toNat .x) 0 [(.i .i64)] = true then
 cond (decide (t1 < (((t0.getD t7.toNat .x).cells.getD 0 .x).toI)))
 (if (r1.length + ([(.i .i64 t1)] : List AV).length) * 8 ≤ room then
 f61o1_j2 t0 t1 true t7 r0 (r1 ++ [(.i .i64 t1)])
 else none)
 (f61o1_j2 t0 t1 true t7 r0 r1)
 else none
 else none)
 (f61o1_j2 t0 t1 t6 t7 r0 r1)
 else none
 else none)
 (f61o1_j2 t0 t1 t6 t7 r0 r1))
 (cond (!t6)
 (if (r1.length + ([(.i .i64 t1)] : List AV).length) * 8 ≤ room then
 f61o1_j3 r0 (r1 ++ [(.i .i64 t1)])
 else none)
 (f61o1_j3 r0 r1)) := (LpO_eq ..).trans (by kernel_rfl)
theorem f61o1_j2_eq (t0 : List AV) (t1 : Int) (t6 : Bool) (t7 : Int) (r0 : List AV) (r1 : List AV) : f61o1_j2 t0 t1 t6 t7 r0 r1 =
 if 0 ≤ t7 ∧ t7 < ((t0.length : Nat) : Int) then
 if okCells false (t0.getD t7.toNat .x) 0 [(.i .i64)] = true then
 if (r1.length + ([(.i .i64 (((t0.getD t7.toNat .x).cells.getD 0 .x).toI))] : List AV).length) * 8 ≤ room then
 f61o1_l1 t0 t1 t6 (IntKind.i64.wrap (t7 + (1 : Int))) r0 (r1 ++ [(.i .i64 (((t0.getD t7.toNat .x).cells.getD 0 .x).toI))])
 else none
 else none
 else none := by kernel_rfl
theorem f61o1_j3_eq (r0 : List AV) (r1 : List AV) : f61o1_j3 r0 r1 =
 some ((.sl 0 [] none), [(.live true false false 2 r1)]) := by kernel_rfl
/-! 62: loop.example/g00905/spec.l07Holder -/
noncomputable def f62_l1 (t1 : Int) (t5 : Int) (r0_0 : Int) (r0_1 : Int) (r0_2 : Int) (r0_3 : Int) (r0_4 : List AV) (r0_5 : List AV) : Option AV := Lp E fi62 [true, false, true, false] (mkT 21 [(1, (.i .i64 t1)), (2, (.pt 0 [] 0 0)), (5, (.i .i64 t5))]) [(.live false true false 45 [(.agg [(.i .i64 r0_0), (.i .i64 r0_1), (.i .i64 r0_2), (.i .i64 r0_3), (.imm 1 r0_4), (.imm 1 r0_5)])])]
theorem f62_eq (x0_0 : Int) (x0_1 : Int) (x0_2 : Int) (x0_3 : Int) (x0_4 : List AV) (x0_5 : List AV) (x1 : Int) : den E 62 [(.agg [(.i .i64 x0_0), (.i .i64 x0_1), (.i .i64 x0_2), (.i .i64 x0_3), (.imm 1 x0_4), (.imm 1 x0_5)]), (.i .i64 x1)] [] =
 f62_l1 x1 (0 : Int) x0_0 x0_1 x0_2 x0_3 x0_4 x0_5 := (den_eq ..).trans (by kernel_rfl)
theorem f62_l1_eq (t1 : Int) (t5 : Int) (r0_0 : Int) (r0_1 : Int) (r0_2 : Int) (r0_3 : Int) (r0_4 : List AV) (r0_5 : List AV) : f62_l1 t1 t5 r0_0 r0_1 r0_2 r0_3 r0_4 r0_5 =
 cond (decide (t5 < ((r0_5.length : Nat) : Int)))
 (if 0 ≤ t5 ∧ t5 < ((r0_5.length : Nat) : Int) then
 if okCells false (r0_5.getD t5.toNat .x) 0 [(.i .i64)] = true then
 cond (decide ((((r0_5.getD t5.toNat .x).cells.getD 0 .x).toI) = t1))
 (some (.i .i64 t5))
 (f62_l1 t1 (IntKind.i64.wrap (t5 + (1 : Int))) r0_0 r0_1 r0_2 r0_3 r0_4 r0_5)
 else none
 else none)
 (some (.i .i64 (-1 : Int))) := (Lp_eq ..).trans (by kernel_rfl)
/-! 63: loop.example/g00905/spec.l07Available -/
noncomputable def f63o1_l1 (t1 : Int) (t6 : Int) (r0_0 : Int) (r0_1 : Int) (r0_2 : Int) (r0_3 : Int) (r0_4 : List AV) (r0_5 : List AV) (r1 : List AV) (r2 : List AV) : Option (AV × List Root) := LpO E fi63 [(3, [1, 2, 5, 6], 3), (4, [1, 2, 5, 6], 3)] 0 [] (.so 0) [true, true, false, true, false] (mkT 44 [(1, (.i .i64 t1)), (2, (.pt 0 [] 0 0)), (5, (.sl 2 [] none)), (6, (.i .i64 t6))]) [(.live false true false 45 [(.agg [(.i .i64 r0_0), (.i .i64 r0_1), (.i .i64 r0_2), (.i .i64 r0_3), (.imm 1 r0_4), (.imm 1 r0_5)])]), (.live true false false 2 r1), (.live true false false 2 r2)]
noncomputable def f63o1_j2 (t1 : Int) (t6 : Int) (r0_0 : Int) (r0_1 : Int) (r0_2 : Int) (r0_3 : Int) (r0_4 : List AV) (r0_5 : List AV) (r1 : List AV) (r2 : List AV) : Option (AV × List Root) := JnO E fi63 [(3, [1, 2, 5, 6], 3), (4, [1, 2, 5, 6], 3)] 0 [] (.so 0) [true, true, false, true, false, false, true, true] (mkT 44 [(1, (.i .i64 t1)), (2, (.pt 0 [] 0 0)), (5, (.sl 2 [] none)), (6, (.i .i64 t6))]) [(.live false true false 45 [(.agg [(.i .i64 r0_0), (.i .i64 r0_1), (.i .i64 r0_2), (.i .i64 r0_3), (.imm 1 r0_4), (.imm 1 r0_5)])]), (.live true false false 2 r1), (.live true false false 2 r2)]
theorem f63o1_eq (x0_0 : Int) (x0_1 : Int) (x0_2 : Int) (x0_3 : Int) (x0_4 : List AV) (x0_5 : List AV) (x1 : Int) : dno E 63 [(.agg [(.i .i64 x0_0), (.i .i64 x0_1), (.i .i64 x0_2), (.i .i64 x0_3), (.imm 1 x0_4), (.imm 1 x0_5)]), (.i .i64 x1)] [] =
 f63o1_l1 x1 (IntKind.i64.wrap ((IntKind.i64.wrap ((IntKind.i64.wrap (x1 + (1 : Int))) * x0_1)) - x0_3)) x0_0 x0_1 x0_2 x0_3 x0_4 x0_5 [] [] := (dno_eq ..).trans (by kernel_rfl)
theorem f63o1_l1_eq (t1 : Int) (t6 : Int) (r0_0 : Int) (r0_1 : Int) (r0_2 : Int) (r0_3 : Int) (r0_4 : List AV) (r0_5 : List AV) (r1 : List AV) (r2 : List AV) : f63o1_l1 t1 t6 r0_0 r0_1 r0_2 r0_3 r0_4 r0_5 r1 r2 =
 cond (decide (t6 < (IntKind.i64.wrap ((IntKind.i64.wrap (t1 + (1 : Int))) * r0_1))))
 (bSh .b (den E 59 [(.imm 1 r0_4), (.i .i64 t6)] []) fun a1 =>
 cond ((!a1.toB) == true)
 (bSh .b (den E 59 [(.imm 1 r0_5), (.i .i64 t6)] []) fun a2 =>
 cond (!a2.toB)
 (if (r2.length + ([(.i .i64 t6)] : List AV).length) * 8 ≤ room then
 f63o1_j2 t1 t6 r0_0 r0_1 r0_2 r0_3 r0_4 r0_5 r1 (r2 ++ [(.i .i64 t6)])
 else none)
 (f63o1_j2 t1 t6 r0_0 r0_1 r0_2 r0_3 r0_4 r0_5 r1 r2))
 (f63o1_j2 t1 t6 r0_0 r0_1 r0_2 r0_3 r0_4 r0_5 r1 r2))
 (some ((.sl 0 [] none), [(.live true false false 2 r2)])) := (LpO_eq ..).trans (by kernel_rfl)
theorem f63o1_j2_eq (t1 : Int) (t6 : Int) (r0_0 : Int) (r0_1 : Int) (r0_2 : Int) (r0_3 : Int) (r0_4 : List AV) (r0_5 : List AV) (r1 : List AV) (r2 : List AV) : f63o1_j2 t1 t6 r0_0 r0_1 r0_2 r0_3 r0_4 r0_5 r1 r2 =
 f63o1_l1 t1 (IntKind.i64.wrap (t6 + (1 : Int))) r0_0 r0_1 r0_2 r0_3 r0_4 r0_5 r1 r2 := by kernel_rfl
/-! 19: loop.example/g00905/spec.RetireBlock -/
theorem f19o1_eq (x0_0 : Int) (x0_1 : Int) (x0_2 : Int) (x0_3 : Int) (x0_4 : List AV) (x0_5 : List AV) (x1 : Int) : dno E 19 [(.agg [(.i .i64 x0_0), (.i .i64 x0_1), (.i .i64 x0_2), (.i .i64 x0_3), (.imm 1 x0_4), (.imm 1 x0_5)]), (.i .i64 x1)] [] =
 bSh .b (den E 20 [(.agg [(.i .i64 x0_0), (.i .i64 x0_1), (.i .i64 x0_2), (.i .i64 x0_3), (.imm 1 x0_4), (.imm 1 x0_5)])] []) fun a1 =>
 cond (!a1.toB)
 (some ((.tup [(.agg [(.i .i64 (0 : Int)), (.i .i64 (0 : Int)), (.i .i64 (0 : Int)), (.i .i64 (0 : Int)), (.sl 0 [] none), (.sl 1 [] none)]), (.i .i64 (1 : Int))]), [(.live true false false 2 []), (.live true false false 2 [])]))
 (bSh (.i .i64) (den E 58 [(.agg [(.i .i64 x0_0), (.i .i64 x0_1), (.i .i64 x0_2)])] []) fun a2 =>
 bSh .b (den E 57 [(.i .i64 x1), (.i .i64 (0 : Int)), (.i .i64 (IntKind.i64.wrap (a2.toI - (1 : Int))))] []) fun a3 =>
 cond (!a3.toB)
 (some ((.tup [(.agg [(.i .i64 (0 : Int)), (.i .i64 (0 : Int)), (.i .i64 (0 : Int)), (.i .i64 (0 : Int)), (.sl 0 [] none), (.sl 1 [] none)]), (.i .i64 (2 : Int))]), [(.live true false false 2 []), (.live true false false 2 [])]))
 (bSh .b (den E 59 [(.imm 1 x0_4), (.i .i64 x1)] []) fun a4 =>
 cond a4.toB
 (some ((.tup [(.agg [(.i .i64 (0 : Int)), (.i .i64 (0 : Int)), (.i .i64 (0 : Int)), (.i .i64 (0 : Int)), (.sl 0 [] none), (.sl 1 [] none)]), (.i .i64 (5 : Int))]), [(.live true false false 2 []), (.live true false false 2 [])]))
 (bOwn (.agg [(.i .i64), (.i .i64), (.i .i64), (.i .i64), (.so 0), (.so 1)]) [(.row true 2), (.row true 2)] 0 (dno E 60 [(.agg [(.i .i64 x0_0), (.i .i64 x0_1), (.i .i64 x0_2), (.i .i64 x0_3), (.imm 1 x0_4), (.imm 1 x0_5)])] []) fun a5 =>
 bOwnF (.so 0) [(.row true 2)] 0 (dno E 61 [(.imm 1 ((a5.2.getD 0 .dead).row)), (.i .i64 x1)] []) fun a6 =>
 bSh (.i .i64) (den E 62 [(.agg [(.i .i64 x0_0), (.i .i64 x0_1), (.i .i64 x0_2), (.i .i64 x0_3), (.imm 1 x0_4), (.imm 1 x0_5)]), (.i .i64 x1)] []) fun a7 =>
 cond (decide (a7.toI < (0 : Int)))
 (some ((.tup [(.agg [(.i .i64 ((a5.1.nth 0).toI)), (.i .i64 ((a5.1.nth 1).toI)), (.i .i64 ((a5.1.nth 2).toI)), (.i .i64 ((a5.1.nth 3).toI)), (.sl 0 [] none), (.sl 1 [] none)]), (.i .i64 (0 : Int))]), [(.live true false false 2 ((a6.2.getD 0 .dead).row)), (.live true false false 2 ((a5.2.getD 1 .dead).row))]))
 (if x0_1 = 0 then none else
 bOwnF (.so 0) [(.row true 2)] 0 (dno E 63 [(.agg [(.i .i64 ((a5.1.nth 0).toI)), (.i .i64 ((a5.1.nth 1).toI)), (.i .i64 ((a5.1.nth 2).toI)), (.i .i64 ((a5.1.nth 3).toI)), (.imm 1 ((a6.2.getD 0 .dead).row)), (.imm 1 ((a5.2.getD 1 .dead).row))]), (.i .i64 (IntKind.i64.wrap (x1.tdiv x0_1)))] []) fun a8 =>
 cond (decide (((((a8.2.getD 0 .dead).row).length : Nat) : Int) = (0 : Int)))
 (some ((.tup [(.agg [(.i .i64 (0 : Int)), (.i .i64 (0 : Int)), (.i .i64 (0 : Int)), (.i .i64 (0 : Int)), (.sl 0 [] none), (.sl 1 [] none)]), (.i .i64 (4 : Int))]), [(.live true false false 2 []), (.live true false false 2 [])]))
 (if 0 ≤ (0 : Int) ∧ (0 : Int) < ((((a8.2.getD 0 .dead).row).length : Nat) : Int) then
 if okCells false (((a8.2.getD 0 .dead).row).getD (0 + (0 : Int).toNat) .x) 0 [(.i .i64)] = true then
 if 0 ≤ a7.toI ∧ a7.toI < ((((a5.2.getD 1 .dead).row).length : Nat) : Int) then
 some ((.tup [(.agg [(.i .i64 ((a5.1.nth 0).toI)), (.i .i64 ((a5.1.nth 1).toI)), (.i .i64 ((a5.1.nth 2).toI)), (.i .i64 ((a5.1.nth 3).toI)), (.sl 0 [] none), (.sl 1 [] none)]), (.i .i64 (0 : Int))]), [(.live true false false 2 ((a6.2.getD 0 .dead).row)), (.live true false false 2 (((a5.2.getD 1 .dead).row).set (0 + a7.toI.toNat) ((((a5.2.getD 1 .dead).row).getD (0 + a7.toI.toNat) .x).putCells 0 [(.i .i64 (((((a8.2.getD 0 .dead).row).getD (0 + (0 : Int).toNat) .x).cells.getD 0 .x).toI))])))])
 else none
 else none
 else none))))) := (dno_eq ..).trans (by kernel_rfl)
/-! 69: loop.example/g00905/impl.isIndex -/
theorem f69_eq (x0 : Int) (x1 : Int) : den E 69 [(.i .i64 x0), (.i .i64 x1)] [] =
 bSh .b (den E 54 [(.i .i64 x0), (.i .i64 (0 : Int)), (.i .i64 (IntKind.i64.wrap (x1 - (1 : Int))))] []) fun a1 =>
 some (.b a1.toB) := (den_eq ..).trans (by kernel_rfl)
/-! 22: loop.example/g00905/impl.PhysicalBlock -/
theorem f22_eq (x0_0 : Int) (x0_1 : Int) (x0_2 : Int) (x0_3 : Int) (x0_4 : List AV) (x0_5 : List AV) (x1 : Int) : den E 22 [(.agg [(.i .i64 x0_0), (.i .i64 x0_1), (.i .i64 x0_2), (.i .i64 x0_3), (.imm 1 x0_4), (.imm 1 x0_5)]), (.i .i64 x1)] [] =
 bSh .b (den E 21 [(.agg [(.i .i64 x0_0), (.i .i64 x0_1), (.i .i64 x0_2), (.i .i64 x0_3), (.imm 1 x0_4), (.imm 1 x0_5)])] []) fun a1 =>
 cond (!a1.toB)
 (some (.tup [(.i .i64 (0 : Int)), (.i .i64 (1 : Int))]))
 (bSh .b (den E 69 [(.i .i64 x1), (.i .i64 ((x0_5.length : Nat) : Int))] []) fun a2 =>
 cond (!a2.toB)
 (some (.tup [(.i .i64 (0 : Int)), (.i .i64 (2 : Int))]))
 (if 0 ≤ x1 ∧ x1 < ((x0_5.length : Nat) : Int) then
 if okCells false (x0_5.getD x1.toNat .x) 0 [(.i .i64)] = true then
 some (.tup [(.i .i64 (((x0_5.getD x1.toNat .x).cells.getD 0 .x).toI)), (.i .i64 (0 : Int))])
 else none
 else none)) := (den_eq ..).trans (by kernel_rfl)
/-! 23: loop.example/g00905/impl.LogicalBlock -/
theorem f23_eq (x0_0 : Int) (x0_1 : Int) (x0_2 : Int) (x0_3 : Int) (x0_4 : List AV) (x0_5 : List AV) (x1 : Int) : den E 23 [(.agg [(.i .i64 x0_0), (.i .i64 x0_1), (.i .i64 x0_2), (.i .i64 x0_3), (.imm 1 x0_4), (.imm 1 x0_5)]), (.i .i64 x1)] [] =
 bSh .b (den E 21 [(.agg [(.i .i64 x0_0), (.i .i64 x0_1), (.i .i64 x0_2), (.i .i64 x0_3), (.imm 1 x0_4), (.imm 1 x0_5)])] []) fun a1 =>
 cond (!a1.toB)
 (some (.tup [(.i .i64 (0 : Int)), (.i .i64 (1 : Int))]))
 (bSh (.i .i64) (den E 55 [(.agg [(.i .i64 x0_0), (.i .i64 x0_1), (.i .i64 x0_2)])] []) fun a2 =>
 bSh .b (den E 54 [(.i .i64 x1), (.i .i64 (0 : Int)), (.i .i64 (IntKind.i64.wrap (a2.toI - (1 : Int))))] []) fun a3 =>
 cond (!a3.toB)
 (some (.tup [(.i .i64 (0 : Int)), (.i .i64 (2 : Int))]))
 (bSh (.i .i64) (den E 70 [(.imm 1 x0_5), (.i .i64 x1)] []) fun a4 =>
 cond (decide (a4.toI < (0 : Int)))
 (some (.tup [(.i .i64 (0 : Int)), (.i .i64 (3 : Int))]))
 (some (.tup [(.i .i64 a4.toI), (.i .i64 (0 : Int))])))) := (den_eq ..).trans (by kernel_rfl)
/-! 4: loop.example/g00905/laws.FnBadBlocks -/
noncomputable def f4_l1 (t7 : Int) (r0_0 : Int) (r1_0 : Int) (r1_1 : Int) (r1_2 : Int) (r2_0 : Int) (r2_1 : Int) (r2_2 : Int) (r2_3 : Int) (r3 : List AV) (r4 : List AV) : Option AV := Lp E fi4 [true, true, true, true, true, true, false, true, false] (mkT 131 [(3, (.pt 0 [] 0 0)), (4, (.pt 1 [] 0 0)), (5, (.pt 2 [] 0 0)), (7, (.i .i64 t7))]) [(.live false true false 85 [(.agg [(.i .u64 r0_0)])]), (.live false true false 42 [(.agg [(.i .i64 r1_0), (.i .i64 r1_1), (.i .i64 r1_2)])]), (.live false true false 45 [(.agg [(.i .i64 r2_0), (.i .i64 r2_1), (.i .i64 r2_2), (.i .i64 r2_3), (.sl 3 [] none), (.sl 4 [] none)])]), (.live true false false 2 r3), (.live true false false 2 r4)]
noncomputable def f4_j2 (t7 : Int) (r0_0 : Int) (r1_0 : Int) (r1_1 : Int) (r1_2 : Int) (r2_0 : Int) (r2_1 : Int) (r2_2 : Int) (r2_3 : Int) (r3 : List AV) (r4 : List AV) : Option AV := Jn E fi4 [true, true, true, true, true, true, false, true, false, false, true, false, false, true, true, true, true, true] (mkT 131 [(3, (.pt 0 [] 0 0)), (4, (.pt 1 [] 0 0)), (5, (.pt 2 [] 0 0)), (7, (.i .i64 t7))]) [(.live false true false 85 [(.agg [(.i .u64 r0_0)])]), (.live false true false 42 [(.agg [(.i .i64 r1_0), (.i .i64 r1_1), (.i .i64 r1_2)])]), (.live false true false 45 [(.agg [(.i .i64 r2_0), (.i .i64 r2_1), (.i .i64 r2_2), (.i .i64 r2_3), (.sl 3 [] none), (.sl 4 [] none)])]), (.live true false false 2 r3), (.live true false false 2 r4)]
noncomputable def f4_l3 (t7 : Int) (t13 : Int) (r0_0 : Int) (r1_0 : Int) (r1_1 : Int) (r1_2 : Int) (r2_0 : Int) (r2_1 : Int) (r2_2 : Int) (r2_3 : Int) (r3 : List AV) (r4 : List AV) : Option AV := Lp E fi4 [true, true, true, true, true, true, false, true, false, false, true, false, false, true, true, true, true, true, true, true, false] (mkT 131 [(3, (.pt 0 [] 0 0)), (4, (.pt 1 [] 0 0)), (5, (.pt 2 [] 0 0)), (7, (.i .i64 t7)), (13, (.i .i64 t13))]) [(.live false true false 85 [(.agg [(.i .u64 r0_0)])]), (.live false true false 42 [(.agg [(.i .i64 r1_0), (.i .i64 r1_1), (.i .i64 r1_2)])]), (.live false true false 45 [(.agg [(.i .i64 r2_0), (.i .i64 r2_1), (.i .i64 r2_2), (.i .i64 r2_3), (.sl 3 [] none), (.sl 4 [] none)])]), (.live true false false 2 r3), (.live true false false 2 r4)]
theorem f4_eq (x0 : List AV) : den E 4 [(.imm 1 x0)] [] =
 cond (decide ((400 : Int) < ((x0.length : Nat) : Int)))
 (some (.b true))
 (bOwn (.po 0) [(.var 85 (.agg [(.i .u64)]))] 0 (dno E 15 [(.imm 1 x0), (.i .u64 (701 : Int))] []) fun a1 =>
 bOwn (.i .i64) [(.var 85 (.agg [(.i .u64)]))] 1 (dno E 16 [(.pt 0 [] 0 0), (.i .i64 (2 : Int))] [(.live false true false 85 [(.agg [(.i .u64 ((((a1.2.getD 0 .dead).row.headD .x).nth 0).toI))])])]) fun a2 =>
 bOwn (.i .i64) [(.var 85 (.agg [(.i .u64)]))] 1 (dno E 16 [(.pt 0 [] 0 0), (.i .i64 (5 : Int))] [(.live false true false 85 [(.agg [(.i .u64 ((((a2.2.getD 0 .dead).row.headD .x).nth 0).toI))])])]) fun a3 =>
 bOwn (.i .i64) [(.var 85 (.agg [(.i .u64)]))] 1 (dno E 16 [(.pt 0 [] 0 0), (.i .i64 (2 : Int))] [(.live false true false 85 [(.agg [(.i .u64 ((((a3.2.getD 0 .dead).row.headD .x).nth 0).toI))])])]) fun a4 =>
 bOwn (.i .i64) [(.var 85 (.agg [(.i .u64)]))] 1 (dno E 16 [(.pt 0 [] 0 0), (.i .i64 (4 : Int))] [(.live false true false 85 [(.agg [(.i .u64 ((((a4.2.getD 0 .dead).row.headD .x).nth 0).toI))])])]) fun a5 =>
 bOwnF (.tup [(.agg [(.i .i64), (.i .i64), (.i .i64), (.i .i64), (.so 0), (.so 1)]), (.i .i64)]) [(.row true 2), (.row true 2)] 0 (dno E 17 [(.agg [(.i .i64 (IntKind.i64.wrap ((2 : Int) + a2.1.toI))), (.i .i64 (IntKind.i64.wrap ((4 : Int) + a3.1.toI))), (.i .i64 (8 : Int))]), (.i .i64 (IntKind.i64.wrap ((1 : Int) + a4.1.toI))), (.imm 1 [(.i .i64 a5.1.toI)])] []) fun a6 =>
 cond (!decide (((a6.1.nth 1).toI) = (0 : Int)))
 (some (.b false))
 (f4_l1 (0 : Int) ((((a5.2.getD 0 .dead).row.headD .x).nth 0).toI) (IntKind.i64.wrap ((2 : Int) + a2.1.toI)) (IntKind.i64.wrap ((4 : Int) + a3.1.toI)) (8 : Int) (((a6.1.nth 0).nth 0).toI) (((a6.1.nth 0).nth 1).toI) (((a6.1.nth 0).nth 2).toI) (((a6.1.nth 0).nth 3).toI) ((a6.2.getD 0 .dead).row) ((a6.2.getD 1 .dead).row))) := (den_eq ..).trans (by kernel_rfl)
theorem f4_l1_eq (t7 : Int) (r0_0 : Int) (r1_0 : Int) (r1_1 : Int) (r1_2 : Int) (r2_0 : Int) (r2_1 : Int) (r2_2 : Int) (r2_3 : Int) (r3 : List AV) (r4 : List AV) : f4_l1 t7 r0_0 r1_0 r1_1 r1_2 r2_0 r2_1 r2_2 r2_3 r3 r4 =
 cond (decide (t7 < (8 : Int)))
 (bOwn (.i .i64) [(.var 85 (.agg [(.i .u64)]))] 1 (dno E 16 [(.pt 0 [] 0 0), (.i .i64 (IntKind.i64.wrap (r1_0 * r1_1)))] [(.live false true false 85 [(.agg [(.i .u64 r0_0)])])]) fun a1 =>
 bOwnF (.tup [(.agg [(.i .i64), (.i .i64), (.i .i64), (.i .i64), (.so 0), (.so 1)]), (.i .i64)]) [(.row true 2), (.row true 2)] 0 (dno E 18 [(.agg [(.i .i64 r2_0), (.i .i64 r2_1), (.i .i64 r2_2), (.i .i64 r2_3), (.imm 1 r3), (.imm 1 r4)]), (.i .i64 a1.1.toI)] []) fun a2 =>
 bOwnF (.tup [(.agg [(.i .i64), (.i .i64), (.i .i64), (.i .i64), (.so 0), (.so 1)]), (.i .i64)]) [(.row true 2), (.row true 2)] 0 (dno E 19 [(.agg [(.i .i64 r2_0), (.i .i64 r2_1), (.i .i64 r2_2), (.i .i64 r2_3), (.imm 1 r3), (.imm 1 r4)]), (.i .i64 a1.1.toI)] []) fun a3 =>
 cond (!decide (((a2.1.nth 1).toI) = ((a3.1.nth 1).toI)))
 (some (.b false))
 (cond (decide (((a2.1.nth 1).toI) = (0 : Int)))
 (f4_j2 t7 ((((a1.2.getD 0 .dead).row.headD .x).nth 0).toI) r1_0 r1_1 r1_2 (((a2.1.nth 0).nth 0).toI) (((a2.1.nth 0).nth 1).toI) (((a2.1.nth 0).nth 2).toI) (((a2.1.nth 0).nth 3).toI) ((a2.2.getD 0 .dead).row) ((a2.2.getD 1 .dead).row))
 (f4_j2 t7 ((((a1.2.getD 0 .dead).row.headD .x).nth 0).toI) r1_0 r1_1 r1_2 r2_0 r2_1 r2_2 r2_3 r3 r4)))
 (some (.b true)) := (Lp_eq ..).trans (by kernel_rfl)
theorem f4_j2_eq (t7 : Int) (r0_0 : Int) (r1_0 : Int) (r1_1 : Int) (r1_2 : Int) (r2_0 : Int) (r2_1 : Int) (r2_2 : Int) (r2_3 : Int) (r3 : List AV) (r4 : List AV) : f4_j2 t7 r0_0 r1_0 r1_1 r1_2 r2_0 r2_1 r2_2 r2_3 r3 r4 =
 bSh .b (den E 20 [(.agg [(.i .i64 r2_0), (.i .i64 r2_1), (.i .i64 r2_2), (.i .i64 r2_3), (.imm 1 r3), (.imm 1 r4)])] []) fun a1 =>
 cond ((!a1.toB) == false)
 (bSh .b (den E 21 [(.agg [(.i .i64 r2_0), (.i .i64 r2_1), (.i .i64 r2_2), (.i .i64 r2_3), (.imm 1 r3), (.imm 1 r4)])] []) fun a2 =>
 cond (!a2.toB)
 (some (.b false))
 (f4_l3 t7 (0 : Int) r0_0 r1_0 r1_1 r1_2 r2_0 r2_1 r2_2 r2_3 r3 r4))
 (some (.b false)) := by kernel_rfl
theorem f4_l3_eq (t7 : Int) (t13 : Int) (r0_0 : Int) (r1_0 : Int) (r1_1 : Int) (r1_2 : Int) (r2_0 : Int) (r2_1 : Int) (r2_2 : Int) (r2_3 : Int) (r3 : List AV) (r4 : List AV) : f4_l3 t7 t13 r0_0 r1_0 r1_1 r1_2 r2_0 r2_1 r2_2 r2_3 r3 r4 =
 cond (decide (t13 < ((r4.length : Nat) : Int)))
 (bSh (.tup [(.i .i64), (.i .i64)]) (den E 22 [(.agg [(.i .i64 r2_0), (.i .i64 r2_1), (.i .i64 r2_2), (.i .i64 r2_3), (.imm 1 r3), (.imm 1 r4)]), (.i .i64 t13)] []) fun a1 =>
 cond ((!decide (((a1.nth 1).toI) = (0 : Int))) == false)
 (if 0 ≤ t13 ∧ t13 < ((r4.length : Nat) : Int) then
 if okCells false (r4.getD (0 + t13.toNat) .x) 0 [(.i .i64)] = true then
 cond ((!decide (((a1.nth 0).toI) = (((r4.getD (0 + t13.toNat) .x).cells.getD 0 .x).toI))) == false)
 (if r1_1 = 0 then none else
 if (IntKind.i64.wrap (r1_1 - r2_3)) = 0 then none else
 cond (!decide ((IntKind.i64.wrap (((a1.nth 0).toI).tdiv r1_1)) = (IntKind.i64.wrap (t13.tdiv (IntKind.i64.wrap (r1_1 - r2_3))))))
 (some (.b false))
 (bSh (.tup [(.i .i64), (.i .i64)]) (den E 23 [(.agg [(.i .i64 r2_0), (.i .i64 r2_1), (.i .i64 r2_2), (.i .i64 r2_3), (.imm 1 r3), (.imm 1 r4)]), (.i .i64 ((a1.nth 0).toI))] []) fun a2 =>
 cond ((!decide (((a2.nth 1).toI) = (0 : Int))) == false)
 (cond (!decide (((a2.nth 0).toI) = t13))
 (some (.b false))
 (f4_l3 t7 (IntKind.i64.wrap (t13 + (1 : Int))) r0_0 r1_0 r1_1 r1_2 r2_0 r2_1 r2_2 r2_3 r3 r4))
 (some (.b false))))
 (some (.b false))
 else none
 else none)
 (some (.b false)))
 (f4_l1 (IntKind.i64.wrap (t7 + (1 : Int))) r0_0 r1_0 r1_1 r1_2 r2_0 r2_1 r2_2 r2_3 r3 r4) := (Lp_eq ..).trans (by kernel_rfl)
end Go.Proofs.Ytkicholhkoahhaa.IBadBlocks
