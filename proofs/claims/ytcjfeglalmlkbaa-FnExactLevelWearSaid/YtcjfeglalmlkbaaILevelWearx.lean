/- Printed by a program of this work (wip/it/itp.py): what each function comes to. No condition. -/
import Derived.Test.YtcjfeglalmlkbaaILevelWeart
namespace Go.Proofs.Ytcjfeglalmlkbaa.ILevelWear
open Go Go.Proofs.YtcjfeglalmlkbaaIT
set_option linter.unusedVariables false
/-! 85: loop.example/g00905/laws.szInt64S -/
theorem f85_eq (x0 : List AV) (x1 : Int) : den E 85 [(.imm 1 x0), (.i .i64 x1)] [] =
 cond (decide ((IntKind.i64.wrap (x1 - ((x0.length : Nat) : Int))) < (0 : Int)))
 (some (.i .i64 (-1 : Int)))
 (some (.i .i64 (IntKind.i64.wrap (x1 - ((x0.length : Nat) : Int))))) := (den_eq ..).trans (by kernel_rfl)
/-! 86: loop.example/g00905/laws.szBoolS -/
theorem f86_eq (x0 : List AV) (x1 : Int) : den E 86 [(.imm 1 x0), (.i .i64 x1)] [] =
 cond (decide ((IntKind.i64.wrap (x1 - ((x0.length : Nat) : Int))) < (0 : Int)))
 (some (.i .i64 (-1 : Int)))
 (some (.i .i64 (IntKind.i64.wrap (x1 - ((x0.length : Nat) : Int))))) := (den_eq ..).trans (by kernel_rfl)
/-! 30: loop.example/g00905/laws.szWear -/
theorem f30_eq (x0_0 : List AV) (x0_1 : List AV) (x0_2 : List AV) (x0_3 : Int) (x1 : Int) : den E 30 [(.agg [(.imm 1 x0_0), (.imm 1 x0_1), (.imm 1 x0_2), (.i .i64 x0_3)]), (.i .i64 x1)] [] =
 bSh (.i .i64) (den E 85 [(.imm 1 x0_0), (.i .i64 x1)] []) fun a1 =>
 cond (decide (a1.toI < (0 : Int)))
 (some (.i .i64 (-1 : Int)))
 (bSh (.i .i64) (den E 86 [(.imm 1 x0_1), (.i .i64 a1.toI)] []) fun a2 =>
 cond (decide (a2.toI < (0 : Int)))
 (some (.i .i64 (-1 : Int)))
 (bSh (.i .i64) (den E 85 [(.imm 1 x0_2), (.i .i64 a2.toI)] []) fun a3 =>
 cond (decide (a3.toI < (0 : Int)))
 (some (.i .i64 (-1 : Int)))
 (some (.i .i64 a3.toI)))) := (den_eq ..).trans (by kernel_rfl)
/-! 90: loop.example/g00905/laws.toInt64S -/
noncomputable def f90o1_l1 (t0 : List AV) (t4 : Int) (r0 : List AV) : Option (AV × List Root) := LpO E fi90 [(3, [0, 3, 4], 1000000)] 0 (.so 0) [true, true, false, true, false] (mkT 22 [(0, (.imm 1 t0)), (3, (.sl 0 [] none)), (4, (.i .i64 t4))]) [(.live true false false 2 r0)]
theorem f90o1_eq (x0 : List AV) : dno E 90 [(.imm 1 x0)] [] =
 if 0 ≤ ((x0.length : Nat) : Int) ∧ ((x0.length : Nat) : Int) ≤ ((x0.length : Nat) : Int) ∧ ((x0.length : Nat) : Int) * ((8 : Nat) : Int) ≤ ((room : Nat) : Int) ∧ ((x0.length : Nat) : Int) ≤ 9223372036854775807 then
 f90o1_l1 x0 (0 : Int) (List.replicate ((x0.length : Nat) : Int).toNat (.i .i64 (0 : Int)))
 else none := (dno_eq ..).trans (by kernel_rfl)
theorem f90o1_l1_eq (t0 : List AV) (t4 : Int) (r0 : List AV) : f90o1_l1 t0 t4 r0 =
 cond (decide (t4 < ((t0.length : Nat) : Int)))
 (if 0 ≤ t4 ∧ t4 < ((t0.length : Nat) : Int) then
 if okCells false (t0.getD t4.toNat .x) 0 [(.i .i64)] = true then
 if 0 ≤ t4 ∧ t4 < ((r0.length : Nat) : Int) then
 f90o1_l1 t0 (IntKind.i64.wrap (t4 + (1 : Int))) (r0.set (0 + t4.toNat) ((r0.getD (0 + t4.toNat) .x).putCells 0 [(.i .i64 (((t0.getD t4.toNat .x).cells.getD 0 .x).toI))]))
 else none
 else none
 else none)
 (some ((.sl 0 [] none), [(.live true false false 2 r0)])) := (LpO_eq ..).trans (by kernel_rfl)
/-! 91: loop.example/g00905/laws.toBoolS -/
noncomputable def f91o1_l1 (t0 : List AV) (t4 : Int) (r0 : List AV) : Option (AV × List Root) := LpO E fi91 [(3, [0, 3, 4], 1000000)] 0 (.so 0) [true, true, false, true, false] (mkT 22 [(0, (.imm 1 t0)), (3, (.sl 0 [] none)), (4, (.i .i64 t4))]) [(.live true false false 4 r0)]
theorem f91o1_eq (x0 : List AV) : dno E 91 [(.imm 1 x0)] [] =
 if 0 ≤ ((x0.length : Nat) : Int) ∧ ((x0.length : Nat) : Int) ≤ ((x0.length : Nat) : Int) ∧ ((x0.length : Nat) : Int) * ((1 : Nat) : Int) ≤ ((room : Nat) : Int) ∧ ((x0.length : Nat) : Int) ≤ 9223372036854775807 then
 f91o1_l1 x0 (0 : Int) (List.replicate ((x0.length : Nat) : Int).toNat (.b false))
 else none := (dno_eq ..).trans (by kernel_rfl)
theorem f91o1_l1_eq (t0 : List AV) (t4 : Int) (r0 : List AV) : f91o1_l1 t0 t4 r0 =
 cond (decide (t4 < ((t0.length : Nat) : Int)))
 (if 0 ≤ t4 ∧ t4 < ((t0.length : Nat) : Int) then
 if okCells false (t0.getD t4.toNat .x) 0 [.b] = true then
 if 0 ≤ t4 ∧ t4 < ((r0.length : Nat) : Int) then
 f91o1_l1 t0 (IntKind.i64.wrap (t4 + (1 : Int))) (r0.set (0 + t4.toNat) ((r0.getD (0 + t4.toNat) .x).putCells 0 [(.b (((t0.getD t4.toNat .x).cells.getD 0 .x).toB))]))
 else none
 else none
 else none)
 (some ((.sl 0 [] none), [(.live true false false 4 r0)])) := (LpO_eq ..).trans (by kernel_rfl)
/-! 32: loop.example/g00905/laws.toWear -/
theorem f32o1_eq (x0_0 : List AV) (x0_1 : List AV) (x0_2 : List AV) (x0_3 : Int) : dno E 32 [(.agg [(.imm 1 x0_0), (.imm 1 x0_1), (.imm 1 x0_2), (.i .i64 x0_3)])] [] =
 bOwn (.so 0) [(.row true 2)] 0 (dno E 90 [(.imm 1 x0_0)] []) fun a1 =>
 bOwn (.so 0) [(.row true 4)] 0 (dno E 91 [(.imm 1 x0_1)] []) fun a2 =>
 bOwn (.so 0) [(.row true 2)] 0 (dno E 90 [(.imm 1 x0_2)] []) fun a3 =>
 some ((.agg [(.sl 0 [] none), (.sl 1 [] none), (.sl 2 [] none), (.i .i64 x0_3)]), [(.live true false false 2 ((a1.2.getD 0 .dead).row)), (.live true false false 4 ((a2.2.getD 0 .dead).row)), (.live true false false 2 ((a3.2.getD 0 .dead).row))]) := (dno_eq ..).trans (by kernel_rfl)
/-! 77: loop.example/g00905/spec.l00In -/
theorem f77_eq (x0 : Int) (x1 : Int) (x2 : Int) : den E 77 [(.i .i64 x0), (.i .i64 x1), (.i .i64 x2)] [] =
 cond ((decide (x1 ≤ x0)) == true)
 (some (.b (decide (x0 ≤ x2))))
 (some (.b false)) := (den_eq ..).trans (by kernel_rfl)
/-! 19: loop.example/g00905/spec.ValidWear -/
noncomputable def f19_l1 (t3 : Int) (t4 : Int) (r0_0 : List AV) (r0_1 : List AV) (r0_2 : List AV) (r0_3 : Int) : Option AV := Lp E fi19 [true, true, true, false, true, false] (mkT 70 [(1, (.pt 0 [] 0 0)), (3, (.i .i64 t3)), (4, (.i .i64 t4))]) [(.live false true false 33 [(.agg [(.imm 1 r0_0), (.imm 1 r0_1), (.imm 1 r0_2), (.i .i64 r0_3)])])]
noncomputable def f19_j2 (t3 : Int) (t4 : Int) (r0_0 : List AV) (r0_1 : List AV) (r0_2 : List AV) (r0_3 : Int) : Option AV := Jn E fi19 [true, true, true, false, true, false, false, true, true] (mkT 70 [(1, (.pt 0 [] 0 0)), (3, (.i .i64 t3)), (4, (.i .i64 t4))]) [(.live false true false 33 [(.agg [(.imm 1 r0_0), (.imm 1 r0_1), (.imm 1 r0_2), (.i .i64 r0_3)])])]
theorem f19_eq (x0_0 : List AV) (x0_1 : List AV) (x0_2 : List AV) (x0_3 : Int) : den E 19 [(.agg [(.imm 1 x0_0), (.imm 1 x0_1), (.imm 1 x0_2), (.i .i64 x0_3)])] [] =
 cond ((decide (((x0_0.length : Nat) : Int) < (1 : Int))) == false)
 (cond ((decide ((36 : Int) < ((x0_0.length : Nat) : Int))) == false)
 (cond ((!decide (((x0_1.length : Nat) : Int) = ((x0_0.length : Nat) : Int))) == false)
 (cond ((!decide (((x0_2.length : Nat) : Int) = ((x0_0.length : Nat) : Int))) == false)
 (bSh .b (den E 77 [(.i .i64 x0_3), (.i .i64 (1 : Int)), (.i .i64 (100 : Int))] []) fun a1 =>
 cond (!a1.toB)
 (some (.b false))
 (f19_l1 ((x0_0.length : Nat) : Int) (0 : Int) x0_0 x0_1 x0_2 x0_3))
 (some (.b false)))
 (some (.b false)))
 (some (.b false)))
 (some (.b false)) := (den_eq ..).trans (by kernel_rfl)
theorem f19_l1_eq (t3 : Int) (t4 : Int) (r0_0 : List AV) (r0_1 : List AV) (r0_2 : List AV) (r0_3 : Int) : f19_l1 t3 t4 r0_0 r0_1 r0_2 r0_3 =
 cond (decide (t4 < t3))
 (if 0 ≤ t4 ∧ t4 < ((r0_0.length : Nat) : Int) then
 if okCells false (r0_0.getD t4.toNat .x) 0 [(.i .i64)] = true then
 bSh .b (den E 77 [(.i .i64 (((r0_0.getD t4.toNat .x).cells.getD 0 .x).toI)), (.i .i64 (0 : Int)), (.i .i64 (1000 : Int))] []) fun a1 =>
 cond ((!a1.toB) == false)
 (if 0 ≤ t4 ∧ t4 < ((r0_2.length : Nat) : Int) then
 if okCells false (r0_2.getD t4.toNat .x) 0 [(.i .i64)] = true then
 bSh .b (den E 77 [(.i .i64 (((r0_2.getD t4.toNat .x).cells.getD 0 .x).toI)), (.i .i64 (0 : Int)), (.i .i64 (2 : Int))] []) fun a2 =>
 cond ((!a2.toB) == false)
 (if 0 ≤ t4 ∧ t4 < ((r0_1.length : Nat) : Int) then
 if okCells false (r0_1.getD t4.toNat .x) 0 [.b] = true then
 cond ((((r0_1.getD t4.toNat .x).cells.getD 0 .x).toB) == true)
 (if 0 ≤ t4 ∧ t4 < ((r0_2.length : Nat) : Int) then
 if okCells false (r0_2.getD t4.toNat .x) 0 [(.i .i64)] = true then
 cond (!decide ((((r0_2.getD t4.toNat .x).cells.getD 0 .x).toI) = (0 : Int)))
 (some (.b false))
 (f19_j2 t3 t4 r0_0 r0_1 r0_2 r0_3)
 else none
 else none)
 (f19_j2 t3 t4 r0_0 r0_1 r0_2 r0_3)
 else none
 else none)
 (some (.b false))
 else none
 else none)
 (some (.b false))
 else none
 else none)
 (some (.b true)) := (Lp_eq ..).trans (by kernel_rfl)
theorem f19_j2_eq (t3 : Int) (t4 : Int) (r0_0 : List AV) (r0_1 : List AV) (r0_2 : List AV) (r0_3 : Int) : f19_j2 t3 t4 r0_0 r0_1 r0_2 r0_3 =
 f19_l1 t3 (IntKind.i64.wrap (t4 + (1 : Int))) r0_0 r0_1 r0_2 r0_3 := by kernel_rfl
/-! 166: loop.example/g00905/spec.l00Own -/
theorem f166o1_eq (x0 : List AV) : dno E 166 [(.imm 1 x0)] [] =
 if x0.length * 8 ≤ room then
 some ((.sl 0 [] none), [(.live true false false 2 x0)])
 else none := (dno_eq ..).trans (by kernel_rfl)
/-! 104: loop.example/g00905/spec.l12Own -/
theorem f104o1_eq (x0_0 : List AV) (x0_1 : List AV) (x0_2 : List AV) (x0_3 : Int) : dno E 104 [(.agg [(.imm 1 x0_0), (.imm 1 x0_1), (.imm 1 x0_2), (.i .i64 x0_3)])] [] =
 bOwn (.so 0) [(.row true 2)] 0 (dno E 166 [(.imm 1 x0_0)] []) fun a1 =>
 if x0_1.length * 1 ≤ room then
 bOwn (.so 0) [(.row true 2)] 0 (dno E 166 [(.imm 1 x0_2)] []) fun a2 =>
 some ((.agg [(.sl 0 [] none), (.sl 1 [] none), (.sl 2 [] none), (.i .i64 x0_3)]), [(.live true false false 2 ((a1.2.getD 0 .dead).row)), (.live true false false 4 x0_1), (.live true false false 2 ((a2.2.getD 0 .dead).row))])
 else none := (dno_eq ..).trans (by kernel_rfl)
/-! 215: loop.example/g00905/spec.l12Counted -/
noncomputable def f215_l1 (t0 : List AV) (t3 : Int) : Option AV := Lp E fi215 [true, false, true, false] (mkT 16 [(0, (.imm 1 t0)), (3, (.i .i64 t3))]) []
theorem f215_eq (x0 : List AV) : den E 215 [(.imm 1 x0)] [] =
 f215_l1 x0 (0 : Int) := (den_eq ..).trans (by kernel_rfl)
theorem f215_l1_eq (t0 : List AV) (t3 : Int) : f215_l1 t0 t3 =
 cond (decide (t3 < ((t0.length : Nat) : Int)))
 (if 0 ≤ t3 ∧ t3 < ((t0.length : Nat) : Int) then
 if okCells false (t0.getD t3.toNat .x) 0 [(.i .i64)] = true then
 bSh .b (den E 77 [(.i .i64 (((t0.getD t3.toNat .x).cells.getD 0 .x).toI)), (.i .i64 (0 : Int)), (.i .i64 (1000 : Int))] []) fun a1 =>
 cond (!a1.toB)
 (some (.b false))
 (f215_l1 t0 (IntKind.i64.wrap (t3 + (1 : Int))))
 else none
 else none)
 (some (.b true)) := (Lp_eq ..).trans (by kernel_rfl)
/-! 177: loop.example/g00905/spec.l12Good -/
theorem f177_eq (x0 : List AV) (x1 : Int) : den E 177 [(.imm 1 x0), (.i .i64 x1)] [] =
 cond ((decide (((x0.length : Nat) : Int) ≤ x1)) == false)
 (if 0 ≤ x1 ∧ x1 < ((x0.length : Nat) : Int) then
 if okCells false (x0.getD x1.toNat .x) 0 [.b] = true then
 some (.b (!(((x0.getD x1.toNat .x).cells.getD 0 .x).toB)))
 else none
 else none)
 (some (.b true)) := (den_eq ..).trans (by kernel_rfl)
/-! 216: loop.example/g00905/spec.l12Extremes -/
noncomputable def f216_l1 (t0 : List AV) (t1 : List AV) (t7 : Int) (t8 : Int) (t9 : Bool) (t10 : Int) : Option AV := Lp E fi216 [true, true, true, true, false, true, false] (mkT 52 [(0, (.imm 1 t0)), (1, (.imm 1 t1)), (7, (.i .i64 t7)), (8, (.i .i64 t8)), (9, (.b t9)), (10, (.i .i64 t10))]) []
noncomputable def f216_j2 (t0 : List AV) (t1 : List AV) (t7 : Int) (t8 : Int) (t9 : Bool) (t10 : Int) : Option AV := Jn E fi216 [true, true, true, true, false, true, false, false, true, true] (mkT 52 [(0, (.imm 1 t0)), (1, (.imm 1 t1)), (7, (.i .i64 t7)), (8, (.i .i64 t8)), (9, (.b t9)), (10, (.i .i64 t10))]) []
noncomputable def f216_j3 (t0 : List AV) (t1 : List AV) (t8 : Int) (t9 : Bool) (t10 : Int) : Option AV := Jn E fi216 [true, true, true, true, false, true, false, false, true, false, false, true, false, true, false] (mkT 52 [(0, (.imm 1 t0)), (1, (.imm 1 t1)), (8, (.i .i64 t8)), (9, (.b t9)), (10, (.i .i64 t10))]) []
noncomputable def f216_j4 (t0 : List AV) (t1 : List AV) (t7 : Int) (t8 : Int) (t9 : Bool) (t10 : Int) : Option AV := Jn E fi216 [true, true, true, true, false, true, false, false, true, false, false, true, true] (mkT 52 [(0, (.imm 1 t0)), (1, (.imm 1 t1)), (7, (.i .i64 t7)), (8, (.i .i64 t8)), (9, (.b t9)), (10, (.i .i64 t10))]) []
noncomputable def f216_j5 (t0 : List AV) (t1 : List AV) (t7 : Int) (t10 : Int) : Option AV := Jn E fi216 [true, true, true, true, false, true, false, false, true, false, false, true, true, false, true, false] (mkT 52 [(0, (.imm 1 t0)), (1, (.imm 1 t1)), (7, (.i .i64 t7)), (10, (.i .i64 t10))]) []
theorem f216_eq (x0 : List AV) (x1 : List AV) : den E 216 [(.imm 1 x0), (.imm 1 x1)] [] =
 f216_l1 x0 x1 (0 : Int) (0 : Int) false (0 : Int) := (den_eq ..).trans (by kernel_rfl)
theorem f216_l1_eq (t0 : List AV) (t1 : List AV) (t7 : Int) (t8 : Int) (t9 : Bool) (t10 : Int) : f216_l1 t0 t1 t7 t8 t9 t10 =
 cond (decide (t10 < ((t0.length : Nat) : Int)))
 (bSh .b (den E 177 [(.imm 1 t1), (.i .i64 t10)] []) fun a1 =>
 cond (!a1.toB)
 (f216_j2 t0 t1 t7 t8 t9 t10)
 (cond ((!t9) == false)
 (if 0 ≤ t10 ∧ t10 < ((t0.length : Nat) : Int) then
 if okCells false (t0.getD t10.toNat .x) 0 [(.i .i64)] = true then
 cond (decide ((((t0.getD t10.toNat .x).cells.getD 0 .x).toI) < t7))
 (f216_j3 t0 t1 t8 t9 t10)
 (f216_j4 t0 t1 t7 t8 t9 t10)
 else none
 else none)
 (f216_j3 t0 t1 t8 t9 t10)))
 (some (.tup [(.i .i64 t7), (.i .i64 t8), (.b t9)])) := (Lp_eq ..).trans (by kernel_rfl)
theorem f216_j2_eq (t0 : List AV) (t1 : List AV) (t7 : Int) (t8 : Int) (t9 : Bool) (t10 : Int) : f216_j2 t0 t1 t7 t8 t9 t10 =
 f216_l1 t0 t1 t7 t8 t9 (IntKind.i64.wrap (t10 + (1 : Int))) := by kernel_rfl
theorem f216_j3_eq (t0 : List AV) (t1 : List AV) (t8 : Int) (t9 : Bool) (t10 : Int) : f216_j3 t0 t1 t8 t9 t10 =
 if 0 ≤ t10 ∧ t10 < ((t0.length : Nat) : Int) then
 if okCells false (t0.getD t10.toNat .x) 0 [(.i .i64)] = true then
 f216_j4 t0 t1 (((t0.getD t10.toNat .x).cells.getD 0 .x).toI) t8 t9 t10
 else none
 else none := by kernel_rfl
theorem f216_j4_eq (t0 : List AV) (t1 : List AV) (t7 : Int) (t8 : Int) (t9 : Bool) (t10 : Int) : f216_j4 t0 t1 t7 t8 t9 t10 =
 cond ((!t9) == false)
 (if 0 ≤ t10 ∧ t10 < ((t0.length : Nat) : Int) then
 if okCells false (t0.getD t10.toNat .x) 0 [(.i .i64)] = true then
 cond (decide (t8 < (((t0.getD t10.toNat .x).cells.getD 0 .x).toI)))
 (f216_j5 t0 t1 t7 t10)
 (f216_j2 t0 t1 t7 t8 true t10)
 else none
 else none)
 (f216_j5 t0 t1 t7 t10) := by kernel_rfl
theorem f216_j5_eq (t0 : List AV) (t1 : List AV) (t7 : Int) (t10 : Int) : f216_j5 t0 t1 t7 t10 =
 if 0 ≤ t10 ∧ t10 < ((t0.length : Nat) : Int) then
 if okCells false (t0.getD t10.toNat .x) 0 [(.i .i64)] = true then
 f216_j2 t0 t1 t7 (((t0.getD t10.toNat .x).cells.getD 0 .x).toI) true t10
 else none
 else none := by kernel_rfl
/-! 176: loop.example/g00905/spec.WearGap -/
theorem f176_eq (x0 : List AV) (x1 : List AV) : den E 176 [(.imm 1 x0), (.imm 1 x1)] [] =
 bSh .b (den E 215 [(.imm 1 x0)] []) fun a1 =>
 cond (!a1.toB)
 (some (.i .i64 (0 : Int)))
 (bSh (.tup [(.i .i64), (.i .i64), .b]) (den E 216 [(.imm 1 x0), (.imm 1 x1)] []) fun a2 =>
 some (.i .i64 (IntKind.i64.wrap (((a2.nth 1).toI) - ((a2.nth 0).toI))))) := (den_eq ..).trans (by kernel_rfl)
/-! 114: loop.example/g00905/spec.NeedsLevelling -/
theorem f114_eq (x0 : List AV) (x1 : List AV) (x2 : Int) : den E 114 [(.imm 1 x0), (.imm 1 x1), (.i .i64 x2)] [] =
 bSh (.i .i64) (den E 176 [(.imm 1 x0), (.imm 1 x1)] []) fun a1 =>
 some (.b (decide (x2 < a1.toI))) := (den_eq ..).trans (by kernel_rfl)
/-! 142: loop.example/g00905/spec.l00Has -/
noncomputable def f142q1_l1 (t1 : Int) (t5 : Int) : Option AV := Lp E fi142 [true, false, true, false] (mkT 18 [(0, (.imm 0 [])), (1, (.i .i64 t1)), (5, (.i .i64 t5))]) []
theorem f142q1_eq (x1 : Int) : den E 142 [(.imm 0 []), (.i .i64 x1)] [] =
 f142q1_l1 x1 (0 : Int) := (den_eq ..).trans (by kernel_rfl)
theorem f142q1_l1_eq (t1 : Int) (t5 : Int) : f142q1_l1 t1 t5 =
 cond (decide (t5 < ((([] : List AV).length : Nat) : Int)))
 (if 0 ≤ t5 ∧ t5 < ((([] : List AV).length : Nat) : Int) then
 none
 else none)
 (some (.b false)) := (Lp_eq ..).trans (by kernel_rfl)
/-! 115: loop.example/g00905/spec.PickStatic -/
noncomputable def f115q1_l1 (t0 : List AV) (t1 : List AV) (t7 : Int) (t8 : Int) : Option AV := Lp E fi115 [true, true, false, true, false] (mkT 41 [(0, (.imm 1 t0)), (1, (.imm 1 t1)), (2, (.imm 0 [])), (7, (.i .i64 t7)), (8, (.i .i64 t8))]) []
noncomputable def f115q1_j2 (t0 : List AV) (t1 : List AV) (t7 : Int) (t8 : Int) : Option AV := Jn E fi115 [true, true, false, true, false, false, true, true] (mkT 41 [(0, (.imm 1 t0)), (1, (.imm 1 t1)), (2, (.imm 0 [])), (7, (.i .i64 t7)), (8, (.i .i64 t8))]) []
theorem f115q1_eq (x0 : List AV) (x1 : List AV) : den E 115 [(.imm 1 x0), (.imm 1 x1), (.imm 0 [])] [] =
 f115q1_l1 x0 x1 (-1 : Int) (0 : Int) := (den_eq ..).trans (by kernel_rfl)
theorem f115q1_l1_eq (t0 : List AV) (t1 : List AV) (t7 : Int) (t8 : Int) : f115q1_l1 t0 t1 t7 t8 =
 cond (decide (t8 < ((t0.length : Nat) : Int)))
 (bSh .b (den E 177 [(.imm 1 t1), (.i .i64 t8)] []) fun a1 =>
 cond (a1.toB == true)
 (bSh .b (den E 142 [(.imm 0 []), (.i .i64 t8)] []) fun a2 =>
 cond ((!a2.toB) == true)
 (cond ((decide (t7 < (0 : Int))) == false)
 (if 0 ≤ t8 ∧ t8 < ((t0.length : Nat) : Int) then
 if okCells false (t0.getD t8.toNat .x) 0 [(.i .i64)] = true then
 if 0 ≤ t7 ∧ t7 < ((t0.length : Nat) : Int) then
 if okCells false (t0.getD t7.toNat .x) 0 [(.i .i64)] = true then
 cond (decide ((((t0.getD t8.toNat .x).cells.getD 0 .x).toI) < (((t0.getD t7.toNat .x).cells.getD 0 .x).toI)))
 (f115q1_j2 t0 t1 t8 t8)
 (f115q1_j2 t0 t1 t7 t8)
 else none
 else none
 else none
 else none)
 (f115q1_j2 t0 t1 t8 t8))
 (f115q1_j2 t0 t1 t7 t8))
 (f115q1_j2 t0 t1 t7 t8))
 (some (.i .i64 t7)) := (Lp_eq ..).trans (by kernel_rfl)
theorem f115q1_j2_eq (t0 : List AV) (t1 : List AV) (t7 : Int) (t8 : Int) : f115q1_j2 t0 t1 t7 t8 =
 f115q1_l1 t0 t1 t7 (IntKind.i64.wrap (t8 + (1 : Int))) := by kernel_rfl
/-! 103: loop.example/g00905/spec.l12Free -/
noncomputable def f103_l1 (t4 : Int) (r0_0 : List AV) (r0_1 : List AV) (r0_2 : List AV) (r0_3 : Int) (r1 : List AV) : Option AV := Lp E fi103 [true, true, false, true, false] (mkT 32 [(1, (.pt 0 [] 0 0)), (3, (.sl 1 [] none)), (4, (.i .i64 t4))]) [(.live false true false 33 [(.agg [(.imm 1 r0_0), (.imm 1 r0_1), (.imm 1 r0_2), (.i .i64 r0_3)])]), (.live true false false 2 r1)]
noncomputable def f103_j2 (t4 : Int) (r0_0 : List AV) (r0_1 : List AV) (r0_2 : List AV) (r0_3 : Int) (r1 : List AV) : Option AV := Jn E fi103 [true, true, false, true, false, false, true, true] (mkT 32 [(1, (.pt 0 [] 0 0)), (3, (.sl 1 [] none)), (4, (.i .i64 t4))]) [(.live false true false 33 [(.agg [(.imm 1 r0_0), (.imm 1 r0_1), (.imm 1 r0_2), (.i .i64 r0_3)])]), (.live true false false 2 r1)]
theorem f103_eq (x0_0 : List AV) (x0_1 : List AV) (x0_2 : List AV) (x0_3 : Int) : den E 103 [(.agg [(.imm 1 x0_0), (.imm 1 x0_1), (.imm 1 x0_2), (.i .i64 x0_3)])] [] =
 f103_l1 (0 : Int) x0_0 x0_1 x0_2 x0_3 [] := (den_eq ..).trans (by kernel_rfl)
theorem f103_l1_eq (t4 : Int) (r0_0 : List AV) (r0_1 : List AV) (r0_2 : List AV) (r0_3 : Int) (r1 : List AV) : f103_l1 t4 r0_0 r0_1 r0_2 r0_3 r1 =
 cond (decide (t4 < ((r0_0.length : Nat) : Int)))
 (if 0 ≤ t4 ∧ t4 < ((r0_1.length : Nat) : Int) then
 if okCells false (r0_1.getD t4.toNat .x) 0 [.b] = true then
 cond ((!(((r0_1.getD t4.toNat .x).cells.getD 0 .x).toB)) == true)
 (if 0 ≤ t4 ∧ t4 < ((r0_2.length : Nat) : Int) then
 if okCells false (r0_2.getD t4.toNat .x) 0 [(.i .i64)] = true then
 cond (decide ((((r0_2.getD t4.toNat .x).cells.getD 0 .x).toI) = (0 : Int)))
 (if (r1.length + ([(.i .i64 t4)] : List AV).length) * 8 ≤ room then
 f103_j2 t4 r0_0 r0_1 r0_2 r0_3 (r1 ++ [(.i .i64 t4)])
 else none)
 (f103_j2 t4 r0_0 r0_1 r0_2 r0_3 r1)
 else none
 else none)
 (f103_j2 t4 r0_0 r0_1 r0_2 r0_3 r1)
 else none
 else none)
 (some (.imm 1 r1)) := (Lp_eq ..).trans (by kernel_rfl)
theorem f103_j2_eq (t4 : Int) (r0_0 : List AV) (r0_1 : List AV) (r0_2 : List AV) (r0_3 : Int) (r1 : List AV) : f103_j2 t4 r0_0 r0_1 r0_2 r0_3 r1 =
 f103_l1 (IntKind.i64.wrap (t4 + (1 : Int))) r0_0 r0_1 r0_2 r0_3 r1 := by kernel_rfl
/-! 102: loop.example/g00905/spec.PickFree -/
noncomputable def f102_l1 (t0 : List AV) (t1 : List AV) (t2 : Bool) (t7 : Int) (t8 : Int) : Option AV := Lp E fi102 [true, true, false, true, false] (mkT 69 [(0, (.imm 1 t0)), (1, (.imm 1 t1)), (2, (.b t2)), (7, (.i .i64 t7)), (8, (.i .i64 t8))]) []
noncomputable def f102_j2 (t0 : List AV) (t1 : List AV) (t2 : Bool) (t7 : Int) (t8 : Int) : Option AV := Jn E fi102 [true, true, false, true, false, false, true, true] (mkT 69 [(0, (.imm 1 t0)), (1, (.imm 1 t1)), (2, (.b t2)), (7, (.i .i64 t7)), (8, (.i .i64 t8))]) []
noncomputable def f102_j3 (t0 : List AV) (t1 : List AV) (t2 : Bool) (t7 : Int) (t8 : Int) (t9 : Int) (t10 : Bool) : Option AV := Jn E fi102 [true, true, false, true, false, false, true, false, false, true, true, true, true, true] (mkT 69 [(0, (.imm 1 t0)), (1, (.imm 1 t1)), (2, (.b t2)), (7, (.i .i64 t7)), (8, (.i .i64 t8)), (9, (.i .i64 t9)), (10, (.b t10))]) []
theorem f102_eq (x0 : List AV) (x1 : List AV) (x2 : Bool) : den E 102 [(.imm 1 x0), (.imm 1 x1), (.b x2)] [] =
 f102_l1 x0 x1 x2 (-1 : Int) (0 : Int) := (den_eq ..).trans (by kernel_rfl)
theorem f102_l1_eq (t0 : List AV) (t1 : List AV) (t2 : Bool) (t7 : Int) (t8 : Int) : f102_l1 t0 t1 t2 t7 t8 =
 cond (decide (t8 < ((t1.length : Nat) : Int)))
 (if 0 ≤ t8 ∧ t8 < ((t1.length : Nat) : Int) then
 if okCells false (t1.getD t8.toNat .x) 0 [(.i .i64)] = true then
 bSh .b (den E 77 [(.i .i64 (((t1.getD t8.toNat .x).cells.getD 0 .x).toI)), (.i .i64 (0 : Int)), (.i .i64 (IntKind.i64.wrap (((t0.length : Nat) : Int) - (1 : Int))))] []) fun a1 =>
 cond (!a1.toB)
 (some (.i .i64 (-1 : Int)))
 (cond (decide (t7 < (0 : Int)))
 (f102_j2 t0 t1 t2 (((t1.getD t8.toNat .x).cells.getD 0 .x).toI) t8)
 (if 0 ≤ (((t1.getD t8.toNat .x).cells.getD 0 .x).toI) ∧ (((t1.getD t8.toNat .x).cells.getD 0 .x).toI) < ((t0.length : Nat) : Int) then
 if okCells false (t0.getD (((t1.getD t8.toNat .x).cells.getD 0 .x).toI).toNat .x) 0 [(.i .i64)] = true then
 if 0 ≤ t7 ∧ t7 < ((t0.length : Nat) : Int) then
 if okCells false (t0.getD t7.toNat .x) 0 [(.i .i64)] = true then
 cond (!t2)
 (if 0 ≤ (((t1.getD t8.toNat .x).cells.getD 0 .x).toI) ∧ (((t1.getD t8.toNat .x).cells.getD 0 .x).toI) < ((t0.length : Nat) : Int) then
 if okCells false (t0.getD (((t1.getD t8.toNat .x).cells.getD 0 .x).toI).toNat .x) 0 [(.i .i64)] = true then
 if 0 ≤ t7 ∧ t7 < ((t0.length : Nat) : Int) then
 if okCells false (t0.getD t7.toNat .x) 0 [(.i .i64)] = true then
 f102_j3 t0 t1 t2 t7 t8 (((t1.getD t8.toNat .x).cells.getD 0 .x).toI) (decide ((((t0.getD t7.toNat .x).cells.getD 0 .x).toI) < (((t0.getD (((t1.getD t8.toNat .x).cells.getD 0 .x).toI).toNat .x).cells.getD 0 .x).toI)))
 else none
 else none
 else none
 else none)
 (f102_j3 t0 t1 t2 t7 t8 (((t1.getD t8.toNat .x).cells.getD 0 .x).toI) (decide ((((t0.getD (((t1.getD t8.toNat .x).cells.getD 0 .x).toI).toNat .x).cells.getD 0 .x).toI) < (((t0.getD t7.toNat .x).cells.getD 0 .x).toI))))
 else none
 else none
 else none
 else none))
 else none
 else none)
 (some (.i .i64 t7)) := (Lp_eq ..).trans (by kernel_rfl)
theorem f102_j2_eq (t0 : List AV) (t1 : List AV) (t2 : Bool) (t7 : Int) (t8 : Int) : f102_j2 t0 t1 t2 t7 t8 =
 f102_l1 t0 t1 t2 t7 (IntKind.i64.wrap (t8 + (1 : Int))) := by kernel_rfl
theorem f102_j3_eq (t0 : List AV) (t1 : List AV) (t2 : Bool) (t7 : Int) (t8 : Int) (t9 : Int) (t10 : Bool) : f102_j3 t0 t1 t2 t7 t8 t9 t10 =
 cond (t10 == false)
 (if 0 ≤ t9 ∧ t9 < ((t0.length : Nat) : Int) then
 if okCells false (t0.getD t9.toNat .x) 0 [(.i .i64)] = true then
 if 0 ≤ t7 ∧ t7 < ((t0.length : Nat) : Int) then
 if okCells false (t0.getD t7.toNat .x) 0 [(.i .i64)] = true then
 cond ((decide ((((t0.getD t9.toNat .x).cells.getD 0 .x).toI) = (((t0.getD t7.toNat .x).cells.getD 0 .x).toI))) == true)
 (cond (decide (t9 < t7))
 (f102_j2 t0 t1 t2 t9 t8)
 (f102_j2 t0 t1 t2 t7 t8))
 (f102_j2 t0 t1 t2 t7 t8)
 else none
 else none
 else none
 else none)
 (f102_j2 t0 t1 t2 t9 t8) := by kernel_rfl
/-! 105: loop.example/g00905/spec.l12Erase -/
theorem f105o1_eq (x0_3 : Int) (x1 : Int) (s0 : List AV) (s1 : List AV) (s2 : List AV) : dno E 105 [(.agg [(.sl 0 [] none), (.sl 1 [] none), (.sl 2 [] none), (.i .i64 x0_3)]), (.i .i64 x1)] [(.live true false false 2 s0), (.live true false false 4 s1), (.live true false false 2 s2)] =
 if 0 ≤ x1 ∧ x1 < ((s0.length : Nat) : Int) then
 if okCells false (s0.getD (0 + x1.toNat) .x) 0 [(.i .i64)] = true then
 if 0 ≤ x1 ∧ x1 < ((s0.length : Nat) : Int) then
 if 0 ≤ x1 ∧ x1 < ((s2.length : Nat) : Int) then
 some ((.agg [(.sl 0 [] none), (.sl 1 [] none), (.sl 2 [] none), (.i .i64 x0_3)]), [(.live true false false 2 (s0.set (0 + x1.toNat) ((s0.getD (0 + x1.toNat) .x).putCells 0 [(.i .i64 (IntKind.i64.wrap ((((s0.getD (0 + x1.toNat) .x).cells.getD 0 .x).toI) + (1 : Int))))]))), (.live true false false 4 s1), (.live true false false 2 (s2.set (0 + x1.toNat) ((s2.getD (0 + x1.toNat) .x).putCells 0 [(.i .i64 (0 : Int))])))])
 else none
 else none
 else none
 else none := (dno_eq ..).trans (by kernel_rfl)
/-! 47: loop.example/g00905/spec.LevelMove -/
noncomputable def f47o1_j1 (t5 : Int) (r0_3 : Int) (r1_3 : Int) (r2 : List AV) (r3 : List AV) (r4 : List AV) : Option (AV × List Root) := JnO E fi47 [(12, [2, 4, 5], 1000000)] 0 (.tup [(.agg [(.so 0), (.so 1), (.so 2), (.i .i64)]), (.i .i64)]) [true, true, true, true, true, true] (mkT 54 [(2, (.pt 0 [] 0 0)), (4, (.pt 1 [] 0 0)), (5, (.i .i64 t5))]) [(.live false true false 33 [(.agg [.nils, .nils, .nils, (.i .i64 r0_3)])]), (.live false true false 33 [(.agg [(.sl 2 [] none), (.sl 3 [] none), (.sl 4 [] none), (.i .i64 r1_3)])]), (.live true false false 2 r2), (.live true false false 4 r3), (.live true false false 2 r4)]
theorem f47o1_eq (x0_0 : List AV) (x0_1 : List AV) (x0_2 : List AV) (x0_3 : Int) : dno E 47 [(.agg [(.imm 1 x0_0), (.imm 1 x0_1), (.imm 1 x0_2), (.i .i64 x0_3)])] [] =
 bSh .b (den E 19 [(.agg [(.imm 1 x0_0), (.imm 1 x0_1), (.imm 1 x0_2), (.i .i64 x0_3)])] []) fun a1 =>
 cond (!a1.toB)
 (some ((.tup [(.agg [(.sl 0 [] none), (.sl 1 [] none), (.sl 2 [] none), (.i .i64 (0 : Int))]), (.i .i64 (1 : Int))]), [(.live true false false 2 []), (.live true false false 4 []), (.live true false false 2 [])]))
 (bSh .b (den E 114 [(.imm 1 x0_0), (.imm 1 x0_1), (.i .i64 x0_3)] []) fun a2 =>
 cond (!a2.toB)
 (some ((.tup [(.agg [(.sl 0 [] none), (.sl 1 [] none), (.sl 2 [] none), (.i .i64 (0 : Int))]), (.i .i64 (5 : Int))]), [(.live true false false 2 []), (.live true false false 4 []), (.live true false false 2 [])]))
 (bOwn (.agg [(.so 0), (.so 1), (.so 2), (.i .i64)]) [(.row true 2), (.row true 4), (.row true 2)] 0 (dno E 104 [(.agg [(.imm 1 x0_0), (.imm 1 x0_1), (.imm 1 x0_2), (.i .i64 x0_3)])] []) fun a3 =>
 bSh (.i .i64) (den E 115 [(.imm 1 x0_0), (.imm 1 x0_1), (.imm 0 [])] []) fun a4 =>
 if 0 ≤ a4.toI ∧ a4.toI < ((x0_2.length : Nat) : Int) then
 if okCells false (x0_2.getD a4.toI.toNat .x) 0 [(.i .i64)] = true then
 cond (!decide ((((x0_2.getD a4.toI.toNat .x).cells.getD 0 .x).toI) = (0 : Int)))
 (bSh (.sl 2 1) (den E 103 [(.agg [(.imm 1 x0_0), (.imm 1 x0_1), (.imm 1 x0_2), (.i .i64 x0_3)])] []) fun a5 =>
 bSh (.i .i64) (den E 102 [(.imm 1 x0_0), (.imm 1 a5.toL), (.b false)] []) fun a6 =>
 cond (decide (a6.toI < (0 : Int)))
 (some ((.tup [(.agg [(.sl 0 [] none), (.sl 1 [] none), (.sl 2 [] none), (.i .i64 (0 : Int))]), (.i .i64 (4 : Int))]), [(.live true false false 2 []), (.live true false false 4 []), (.live true false false 2 [])]))
 (if 0 ≤ a4.toI ∧ a4.toI < ((x0_2.length : Nat) : Int) then
 if okCells false (x0_2.getD a4.toI.toNat .x) 0 [(.i .i64)] = true then
 if 0 ≤ a6.toI ∧ a6.toI < ((((a3.2.getD 2 .dead).row).length : Nat) : Int) then
 f47o1_j1 a4.toI (0 : Int) ((a3.1.nth 3).toI) ((a3.2.getD 0 .dead).row) ((a3.2.getD 1 .dead).row) (((a3.2.getD 2 .dead).row).set (0 + a6.toI.toNat) ((((a3.2.getD 2 .dead).row).getD (0 + a6.toI.toNat) .x).putCells 0 [(.i .i64 (((x0_2.getD a4.toI.toNat .x).cells.getD 0 .x).toI))]))
 else none
 else none
 else none))
 (f47o1_j1 a4.toI (0 : Int) ((a3.1.nth 3).toI) ((a3.2.getD 0 .dead).row) ((a3.2.getD 1 .dead).row) ((a3.2.getD 2 .dead).row))
 else none
 else none)) := (dno_eq ..).trans (by kernel_rfl)
theorem f47o1_j1_eq (t5 : Int) (r0_3 : Int) (r1_3 : Int) (r2 : List AV) (r3 : List AV) (r4 : List AV) : f47o1_j1 t5 r0_3 r1_3 r2 r3 r4 =
 bOwnS (.agg [(.so 0), (.so 1), (.so 2), (.i .i64)]) [(.same 2), (.same 4), (.same 2)] 3 [(.live true false false 2 r2), (.live true false false 4 r3), (.live true false false 2 r4)] (dno E 105 [(.agg [(.sl 0 [] none), (.sl 1 [] none), (.sl 2 [] none), (.i .i64 r1_3)]), (.i .i64 t5)] [(.live true false false 2 r2), (.live true false false 4 r3), (.live true false false 2 r4)]) fun a1 =>
 some ((.tup [(.agg [(.sl 0 [] none), (.sl 1 [] none), (.sl 2 [] none), (.i .i64 ((a1.1.nth 3).toI))]), (.i .i64 (0 : Int))]), [(.live true false false 2 ((a1.2.getD 0 .dead).row)), (.live true false false 4 ((a1.2.getD 1 .dead).row)), (.live true false false 2 ((a1.2.getD 2 .dead).row))]) := by kernel_rfl
/-! 56: loop.example/g00905/spec.LevelWear -/
noncomputable def f56o1_l1 (t6 : Int) (r0_3 : Int) (r1_3 : Int) (r2 : List AV) (r3 : List AV) (r4 : List AV) : Option (AV × List Root) := LpO E fi56 [(5, [2, 5, 6], 1000000)] 0 (.tup [(.agg [(.so 0), (.so 1), (.so 2), (.i .i64)]), (.i .i64), (.i .i64)]) [true, true, true, true, false, false] (mkT 36 [(2, (.pt 0 [] 0 0)), (5, (.pt 1 [] 0 0)), (6, (.i .i64 t6))]) [(.live false true false 33 [(.agg [.nils, .nils, .nils, (.i .i64 r0_3)])]), (.live false true false 33 [(.agg [(.sl 2 [] none), (.sl 3 [] none), (.sl 4 [] none), (.i .i64 r1_3)])]), (.live true false false 2 r2), (.live true false false 4 r3), (.live true false false 2 r4)]
theorem f56o1_eq (x0_0 : List AV) (x0_1 : List AV) (x0_2 : List AV) (x0_3 : Int) : dno E 56 [(.agg [(.imm 1 x0_0), (.imm 1 x0_1), (.imm 1 x0_2), (.i .i64 x0_3)])] [] =
 bSh .b (den E 19 [(.agg [(.imm 1 x0_0), (.imm 1 x0_1), (.imm 1 x0_2), (.i .i64 x0_3)])] []) fun a1 =>
 cond (!a1.toB)
 (some ((.tup [(.agg [(.sl 0 [] none), (.sl 1 [] none), (.sl 2 [] none), (.i .i64 (0 : Int))]), (.i .i64 (0 : Int)), (.i .i64 (1 : Int))]), [(.live true false false 2 []), (.live true false false 4 []), (.live true false false 2 [])]))
 (bOwn (.agg [(.so 0), (.so 1), (.so 2), (.i .i64)]) [(.row true 2), (.row true 4), (.row true 2)] 0 (dno E 104 [(.agg [(.imm 1 x0_0), (.imm 1 x0_1), (.imm 1 x0_2), (.i .i64 x0_3)])] []) fun a2 =>
 f56o1_l1 (0 : Int) (0 : Int) ((a2.1.nth 3).toI) ((a2.2.getD 0 .dead).row) ((a2.2.getD 1 .dead).row) ((a2.2.getD 2 .dead).row)) := (dno_eq ..).trans (by kernel_rfl)
theorem f56o1_l1_eq (t6 : Int) (r0_3 : Int) (r1_3 : Int) (r2 : List AV) (r3 : List AV) (r4 : List AV) : f56o1_l1 t6 r0_3 r1_3 r2 r3 r4 =
 bSh .b (den E 114 [(.imm 1 r2), (.imm 1 r3), (.i .i64 r1_3)] []) fun a1 =>
 cond a1.toB
 (bOwnF (.tup [(.agg [(.so 0), (.so 1), (.so 2), (.i .i64)]), (.i .i64)]) [(.row true 2), (.row true 4), (.row true 2)] 0 (dno E 47 [(.agg [(.imm 1 r2), (.imm 1 r3), (.imm 1 r4), (.i .i64 r1_3)])] []) fun a2 =>
 cond (!decide (((a2.1.nth 1).toI) = (0 : Int)))
 (some ((.tup [(.agg [(.sl 0 [] none), (.sl 1 [] none), (.sl 2 [] none), (.i .i64 (0 : Int))]), (.i .i64 (0 : Int)), (.i .i64 ((a2.1.nth 1).toI))]), [(.live true false false 2 []), (.live true false false 4 []), (.live true false false 2 [])]))
 (f56o1_l1 (IntKind.i64.wrap (t6 + (1 : Int))) r0_3 (((a2.1.nth 0).nth 3).toI) ((a2.2.getD 0 .dead).row) ((a2.2.getD 1 .dead).row) ((a2.2.getD 2 .dead).row)))
 (some ((.tup [(.agg [(.sl 0 [] none), (.sl 1 [] none), (.sl 2 [] none), (.i .i64 r1_3)]), (.i .i64 t6), (.i .i64 (0 : Int))]), [(.live true false false 2 r2), (.live true false false 4 r3), (.live true false false 2 r4)])) := (LpO_eq ..).trans (by kernel_rfl)
/-! 70: loop.example/g00905/impl.within -/
theorem f70_eq (x0 : Int) (x1 : Int) (x2 : Int) : den E 70 [(.i .i64 x0), (.i .i64 x1), (.i .i64 x2)] [] =
 cond ((decide (x1 ≤ x0)) == true)
 (some (.b (decide (x0 ≤ x2))))
 (some (.b false)) := (den_eq ..).trans (by kernel_rfl)
/-! 72: loop.example/g00905/impl.ValidWear -/
noncomputable def f72_l1 (t33 : List AV) (t34 : Int) (t35 : Int) (r0_0 : List AV) (r0_1 : List AV) (r0_2 : List AV) (r0_3 : Int) : Option AV := Lp E fi72 [true, true, true, false, true, false] (mkT 64 [(1, (.pt 0 [] 0 0)), (33, (.imm 1 t33)), (34, (.i .i64 t34)), (35, (.i .i64 t35))]) [(.live false true false 33 [(.agg [(.imm 1 r0_0), (.imm 1 r0_1), (.imm 1 r0_2), (.i .i64 r0_3)])])]
noncomputable def f72_j2 (t33 : List AV) (t34 : Int) (t35 : Int) (r0_0 : List AV) (r0_1 : List AV) (r0_2 : List AV) (r0_3 : Int) : Option AV := Jn E fi72 [true, true, true, false, true, false, false, true, true, true] (mkT 64 [(1, (.pt 0 [] 0 0)), (33, (.imm 1 t33)), (34, (.i .i64 t34)), (35, (.i .i64 t35))]) [(.live false true false 33 [(.agg [(.imm 1 r0_0), (.imm 1 r0_1), (.imm 1 r0_2), (.i .i64 r0_3)])])]
theorem f72_eq (x0_0 : List AV) (x0_1 : List AV) (x0_2 : List AV) (x0_3 : Int) : den E 72 [(.agg [(.imm 1 x0_0), (.imm 1 x0_1), (.imm 1 x0_2), (.i .i64 x0_3)])] [] =
 bSh .b (den E 70 [(.i .i64 ((x0_0.length : Nat) : Int)), (.i .i64 (1 : Int)), (.i .i64 (36 : Int))] []) fun a1 =>
 cond ((!a1.toB) == false)
 (cond ((!decide (((x0_1.length : Nat) : Int) = ((x0_0.length : Nat) : Int))) == false)
 (cond ((!decide (((x0_2.length : Nat) : Int) = ((x0_0.length : Nat) : Int))) == false)
 (bSh .b (den E 70 [(.i .i64 x0_3), (.i .i64 (1 : Int)), (.i .i64 (100 : Int))] []) fun a2 =>
 cond (!a2.toB)
 (some (.b false))
 (f72_l1 x0_2 ((x0_2.length : Nat) : Int) (0 : Int) x0_0 x0_1 x0_2 x0_3))
 (some (.b false)))
 (some (.b false)))
 (some (.b false)) := (den_eq ..).trans (by kernel_rfl)
theorem f72_l1_eq (t33 : List AV) (t34 : Int) (t35 : Int) (r0_0 : List AV) (r0_1 : List AV) (r0_2 : List AV) (r0_3 : Int) : f72_l1 t33 t34 t35 r0_0 r0_1 r0_2 r0_3 =
 cond (decide (t35 < t34))
 (if 0 ≤ t35 ∧ t35 < ((t33.length : Nat) : Int) then
 if okCells false (t33.getD t35.toNat .x) 0 [(.i .i64)] = true then
 if 0 ≤ t35 ∧ t35 < ((r0_0.length : Nat) : Int) then
 if okCells false (r0_0.getD t35.toNat .x) 0 [(.i .i64)] = true then
 bSh .b (den E 70 [(.i .i64 (((r0_0.getD t35.toNat .x).cells.getD 0 .x).toI)), (.i .i64 (0 : Int)), (.i .i64 (1000 : Int))] []) fun a1 =>
 cond ((!a1.toB) == false)
 (bSh .b (den E 70 [(.i .i64 (((t33.getD t35.toNat .x).cells.getD 0 .x).toI)), (.i .i64 (0 : Int)), (.i .i64 (2 : Int))] []) fun a2 =>
 cond ((!a2.toB) == false)
 (if 0 ≤ t35 ∧ t35 < ((r0_1.length : Nat) : Int) then
 if okCells false (r0_1.getD t35.toNat .x) 0 [.b] = true then
 cond ((((r0_1.getD t35.toNat .x).cells.getD 0 .x).toB) == true)
 (cond (!decide ((((t33.getD t35.toNat .x).cells.getD 0 .x).toI) = (0 : Int)))
 (some (.b false))
 (f72_j2 t33 t34 t35 r0_0 r0_1 r0_2 r0_3))
 (f72_j2 t33 t34 t35 r0_0 r0_1 r0_2 r0_3)
 else none
 else none)
 (some (.b false)))
 (some (.b false))
 else none
 else none
 else none
 else none)
 (some (.b true)) := (Lp_eq ..).trans (by kernel_rfl)
theorem f72_j2_eq (t33 : List AV) (t34 : Int) (t35 : Int) (r0_0 : List AV) (r0_1 : List AV) (r0_2 : List AV) (r0_3 : Int) : f72_j2 t33 t34 t35 r0_0 r0_1 r0_2 r0_3 =
 f72_l1 t33 t34 (IntKind.i64.wrap (t35 + (1 : Int))) r0_0 r0_1 r0_2 r0_3 := by kernel_rfl
/-! 134: slices.Clone[[]int64,int64] -/
theorem f134_eq (x0 : List AV) : dno E 134 [(.imm 1 x0)] [] = if 1 = 1 ∧ x0.length * 8 ≤ room then some (.sl 0 [] none, [.live true false false 2 x0]) else none := (dno_eq ..).trans (by kernel_rfl)
/-! 158: slices.Clone[[]bool,bool] -/
theorem f158_eq (x0 : List AV) : dno E 158 [(.imm 1 x0)] [] = if 1 = 1 ∧ x0.length * 1 ≤ room then some (.sl 0 [] none, [.live true false false 4 x0]) else none := (dno_eq ..).trans (by kernel_rfl)
/-! 74: (loop.example/g00905/impl.Wear).clone -/
theorem f74o1_eq (x0_0 : List AV) (x0_1 : List AV) (x0_2 : List AV) (x0_3 : Int) : dno E 74 [(.agg [(.imm 1 x0_0), (.imm 1 x0_1), (.imm 1 x0_2), (.i .i64 x0_3)])] [] =
 bOwn (.so 0) [(.row true 2)] 0 (dno E 134 [(.imm 1 x0_0)] []) fun a1 =>
 bOwn (.so 0) [(.row true 4)] 0 (dno E 158 [(.imm 1 x0_1)] []) fun a2 =>
 bOwn (.so 0) [(.row true 2)] 0 (dno E 134 [(.imm 1 x0_2)] []) fun a3 =>
 some ((.agg [(.sl 0 [] none), (.sl 1 [] none), (.sl 2 [] none), (.i .i64 x0_3)]), [(.live true false false 2 ((a1.2.getD 0 .dead).row)), (.live true false false 4 ((a2.2.getD 0 .dead).row)), (.live true false false 2 ((a3.2.getD 0 .dead).row))]) := (dno_eq ..).trans (by kernel_rfl)
/-! 80: loop.example/g00905/impl.good -/
noncomputable def f80o1_l1 (t1 : List AV) (t8 : Int) (t9 : Int) (r0 : List AV) : Option (AV × List Root) := LpO E fi80 [(3, [1, 5, 8, 9], 1000000), (6, [1, 5, 6, 8, 9], 1000000), (7, [1, 5, 8, 9], 1000000)] 0 (.so 0) [true, true, false, true, false] (mkT 29 [(1, (.imm 1 t1)), (5, (.sl 0 [] none)), (8, (.i .i64 t8)), (9, (.i .i64 t9))]) [(.live true false false 2 r0)]
noncomputable def f80o1_j2 (t1 : List AV) (t6 : Int) (t8 : Int) (t9 : Int) (r0 : List AV) : Option (AV × List Root) := JnO E fi80 [(3, [1, 5, 8, 9], 1000000), (6, [1, 5, 6, 8, 9], 1000000), (7, [1, 5, 8, 9], 1000000)] 0 (.so 0) [true, true, false, true, false, false, true, true, false, false, true, true, false] (mkT 29 [(1, (.imm 1 t1)), (5, (.sl 0 [] none)), (6, (.i .i64 t6)), (8, (.i .i64 t8)), (9, (.i .i64 t9))]) [(.live true false false 2 r0)]
noncomputable def f80o1_j3 (t1 : List AV) (t8 : Int) (t9 : Int) (r0 : List AV) : Option (AV × List Root) := JnO E fi80 [(3, [1, 5, 8, 9], 1000000), (6, [1, 5, 6, 8, 9], 1000000), (7, [1, 5, 8, 9], 1000000)] 0 (.so 0) [true, true, false, true, false, false, true, true, true] (mkT 29 [(1, (.imm 1 t1)), (5, (.sl 0 [] none)), (8, (.i .i64 t8)), (9, (.i .i64 t9))]) [(.live true false false 2 r0)]
theorem f80o1_eq (x0 : List AV) (x1 : List AV) : dno E 80 [(.imm 1 x0), (.imm 1 x1)] [] =
 f80o1_l1 x1 ((x0.length : Nat) : Int) (0 : Int) [] := (dno_eq ..).trans (by kernel_rfl)
theorem f80o1_l1_eq (t1 : List AV) (t8 : Int) (t9 : Int) (r0 : List AV) : f80o1_l1 t1 t8 t9 r0 =
 cond (decide (t9 < t8))
 (cond ((decide (((t1.length : Nat) : Int) ≤ t9)) == false)
 (if 0 ≤ t9 ∧ t9 < ((t1.length : Nat) : Int) then
 if okCells false (t1.getD t9.toNat .x) 0 [.b] = true then
 cond (!(((t1.getD t9.toNat .x).cells.getD 0 .x).toB))
 (f80o1_j2 t1 t9 t8 t9 r0)
 (f80o1_j3 t1 t8 t9 r0)
 else none
 else none)
 (f80o1_j2 t1 t9 t8 t9 r0))
 (some ((.sl 0 [] none), [(.live true false false 2 r0)])) := (LpO_eq ..).trans (by kernel_rfl)
theorem f80o1_j2_eq (t1 : List AV) (t6 : Int) (t8 : Int) (t9 : Int) (r0 : List AV) : f80o1_j2 t1 t6 t8 t9 r0 =
 if (r0.length + ([(.i .i64 t6)] : List AV).length) * 8 ≤ room then
 f80o1_j3 t1 t8 t9 (r0 ++ [(.i .i64 t6)])
 else none := by kernel_rfl
theorem f80o1_j3_eq (t1 : List AV) (t8 : Int) (t9 : Int) (r0 : List AV) : f80o1_j3 t1 t8 t9 r0 =
 f80o1_l1 t1 t8 (IntKind.i64.wrap (t9 + (1 : Int))) r0 := by kernel_rfl
/-! 164: loop.example/g00905/impl.allWithin$1 -/
theorem f164q1_eq (x0 : Int) (x1 : AV) (x2 : AV) : den E 164 [(.i .i64 x0), (.ip x1 0), (.ip x2 0)] [] =
 if okCells false x1 0 [(.i .i64)] = true then
 if okCells false x2 0 [(.i .i64)] = true then
 bSh .b (den E 70 [(.i .i64 x0), (.i .i64 ((x1.cells.getD 0 .x).toI)), (.i .i64 ((x2.cells.getD 0 .x).toI))] []) fun a1 =>
 some (.b (!a1.toB))
 else none
 else none := (den_eq ..).trans (by kernel_rfl)
/-! 209: slices.IndexFunc[[]int64,int64] -/
noncomputable def f209q1_l1 (t0 : List AV) (t1_0 : AV) (t1_1 : AV) (t7 : Int) (t8 : Int) : Option AV := Lp E fi209 [true, false, true, false] (mkT 19 [(0, (.imm 1 t0)), (1, (.fn 164 [(.ip t1_0 0), (.ip t1_1 0)])), (7, (.i .i64 t7)), (8, (.i .i64 t8))]) []
theorem f209q1_eq (x0 : List AV) (x1_0 : AV) (x1_1 : AV) : den E 209 [(.imm 1 x0), (.fn 164 [(.ip x1_0 0), (.ip x1_1 0)])] [] =
 f209q1_l1 x0 x1_0 x1_1 ((x0.length : Nat) : Int) (0 : Int) := (den_eq ..).trans (by kernel_rfl)
theorem f209q1_l1_eq (t0 : List AV) (t1_0 : AV) (t1_1 : AV) (t7 : Int) (t8 : Int) : f209q1_l1 t0 t1_0 t1_1 t7 t8 =
 cond (decide (t8 < t7))
 (if 0 ≤ t8 ∧ t8 < ((t0.length : Nat) : Int) then
 if okCells false (t0.getD t8.toNat .x) 0 [(.i .i64)] = true then
 bSh .b (den E 164 [(.i .i64 (((t0.getD t8.toNat .x).cells.getD 0 .x).toI)), (.ip t1_0 0), (.ip t1_1 0)] []) fun a1 =>
 cond a1.toB
 (some (.i .i64 t8))
 (f209q1_l1 t0 t1_0 t1_1 t7 (IntKind.i64.wrap (t8 + (1 : Int))))
 else none
 else none)
 (some (.i .i64 (-1 : Int))) := (Lp_eq ..).trans (by kernel_rfl)
/-! 163: slices.ContainsFunc[[]int64,int64] -/
theorem f163q1_eq (x0 : List AV) (x1_0 : AV) (x1_1 : AV) : den E 163 [(.imm 1 x0), (.fn 164 [(.ip x1_0 0), (.ip x1_1 0)])] [] =
 bSh (.i .i64) (den E 209 [(.imm 1 x0), (.fn 164 [(.ip x1_0 0), (.ip x1_1 0)])] []) fun a1 =>
 some (.b (decide ((0 : Int) ≤ a1.toI))) := (den_eq ..).trans (by kernel_rfl)
/-! 81: loop.example/g00905/impl.allWithin -/
theorem f81_eq (x0 : List AV) (x1 : Int) (x2 : Int) : den E 81 [(.imm 1 x0), (.i .i64 x1), (.i .i64 x2)] [] =
 bSh .b (den E 163 [(.imm 1 x0), (.fn 164 [(.ip (.i .i64 x1) 0), (.ip (.i .i64 x2) 0)])] []) fun a1 =>
 some (.b (!a1.toB)) := (den_eq ..).trans (by kernel_rfl)
/-! 83: loop.example/g00905/impl.moreThan -/
theorem f83_eq (x0 : Int) (x1 : Int) : den E 83 [(.i .i64 x0), (.i .i64 x1)] [] =
 some (.b (decide (x1 < x0))) := (den_eq ..).trans (by kernel_rfl)
/-! 82: loop.example/g00905/impl.bestOf -/
noncomputable def f82q1_l1 (t0 : List AV) (t7 : Int) (t10 : List AV) (t11 : Int) (t12 : Int) : Option AV := Lp E fi82 [true, true, false, true, false] (mkT 49 [(0, (.imm 1 t0)), (2, (.fn 83 [])), (7, (.i .i64 t7)), (10, (.imm 1 t10)), (11, (.i .i64 t11)), (12, (.i .i64 t12))]) []
noncomputable def f82q1_j2 (t0 : List AV) (t7 : Int) (t10 : List AV) (t11 : Int) (t12 : Int) : Option AV := Jn E fi82 [true, true, false, true, false, false, true, true, true] (mkT 49 [(0, (.imm 1 t0)), (2, (.fn 83 [])), (7, (.i .i64 t7)), (10, (.imm 1 t10)), (11, (.i .i64 t11)), (12, (.i .i64 t12))]) []
theorem f82q1_eq (x0 : List AV) (x1 : List AV) : den E 82 [(.imm 1 x0), (.imm 1 x1), (.fn 83 [])] [] =
 f82q1_l1 x0 (-1 : Int) x1 ((x1.length : Nat) : Int) (0 : Int) := (den_eq ..).trans (by kernel_rfl)
theorem f82q1_l1_eq (t0 : List AV) (t7 : Int) (t10 : List AV) (t11 : Int) (t12 : Int) : f82q1_l1 t0 t7 t10 t11 t12 =
 cond (decide (t12 < t11))
 (if 0 ≤ t12 ∧ t12 < ((t10.length : Nat) : Int) then
 if okCells false (t10.getD t12.toNat .x) 0 [(.i .i64)] = true then
 cond ((decide (t7 < (0 : Int))) == false)
 (if 0 ≤ (((t10.getD t12.toNat .x).cells.getD 0 .x).toI) ∧ (((t10.getD t12.toNat .x).cells.getD 0 .x).toI) < ((t0.length : Nat) : Int) then
 if okCells false (t0.getD (((t10.getD t12.toNat .x).cells.getD 0 .x).toI).toNat .x) 0 [(.i .i64)] = true then
 if 0 ≤ t7 ∧ t7 < ((t0.length : Nat) : Int) then
 if okCells false (t0.getD t7.toNat .x) 0 [(.i .i64)] = true then
 bSh .b (den E 83 [(.i .i64 (((t0.getD (((t10.getD t12.toNat .x).cells.getD 0 .x).toI).toNat .x).cells.getD 0 .x).toI)), (.i .i64 (((t0.getD t7.toNat .x).cells.getD 0 .x).toI))] []) fun a1 =>
 cond (a1.toB == false)
 (if 0 ≤ (((t10.getD t12.toNat .x).cells.getD 0 .x).toI) ∧ (((t10.getD t12.toNat .x).cells.getD 0 .x).toI) < ((t0.length : Nat) : Int) then
 if okCells false (t0.getD (((t10.getD t12.toNat .x).cells.getD 0 .x).toI).toNat .x) 0 [(.i .i64)] = true then
 if 0 ≤ t7 ∧ t7 < ((t0.length : Nat) : Int) then
 if okCells false (t0.getD t7.toNat .x) 0 [(.i .i64)] = true then
 cond ((decide ((((t0.getD (((t10.getD t12.toNat .x).cells.getD 0 .x).toI).toNat .x).cells.getD 0 .x).toI) = (((t0.getD t7.toNat .x).cells.getD 0 .x).toI))) == true)
 (cond (decide ((((t10.getD t12.toNat .x).cells.getD 0 .x).toI) < t7))
 (f82q1_j2 t0 (((t10.getD t12.toNat .x).cells.getD 0 .x).toI) t10 t11 t12)
 (f82q1_j2 t0 t7 t10 t11 t12))
 (f82q1_j2 t0 t7 t10 t11 t12)
 else none
 else none
 else none
 else none)
 (f82q1_j2 t0 (((t10.getD t12.toNat .x).cells.getD 0 .x).toI) t10 t11 t12)
 else none
 else none
 else none
 else none)
 (f82q1_j2 t0 (((t10.getD t12.toNat .x).cells.getD 0 .x).toI) t10 t11 t12)
 else none
 else none)
 (some (.i .i64 t7)) := (Lp_eq ..).trans (by kernel_rfl)
theorem f82q1_j2_eq (t0 : List AV) (t7 : Int) (t10 : List AV) (t11 : Int) (t12 : Int) : f82q1_j2 t0 t7 t10 t11 t12 =
 f82q1_l1 t0 t7 t10 t11 (IntKind.i64.wrap (t12 + (1 : Int))) := by kernel_rfl
/-! 84: loop.example/g00905/impl.lessThan -/
theorem f84_eq (x0 : Int) (x1 : Int) : den E 84 [(.i .i64 x0), (.i .i64 x1)] [] =
 some (.b (decide (x0 < x1))) := (den_eq ..).trans (by kernel_rfl)
/-! 82: loop.example/g00905/impl.bestOf -/
noncomputable def f82q2_l1 (t0 : List AV) (t7 : Int) (t10 : List AV) (t11 : Int) (t12 : Int) : Option AV := Lp E fi82 [true, true, false, true, false] (mkT 49 [(0, (.imm 1 t0)), (2, (.fn 84 [])), (7, (.i .i64 t7)), (10, (.imm 1 t10)), (11, (.i .i64 t11)), (12, (.i .i64 t12))]) []
noncomputable def f82q2_j2 (t0 : List AV) (t7 : Int) (t10 : List AV) (t11 : Int) (t12 : Int) : Option AV := Jn E fi82 [true, true, false, true, false, false, true, true, true] (mkT 49 [(0, (.imm 1 t0)), (2, (.fn 84 [])), (7, (.i .i64 t7)), (10, (.imm 1 t10)), (11, (.i .i64 t11)), (12, (.i .i64 t12))]) []
theorem f82q2_eq (x0 : List AV) (x1 : List AV) : den E 82 [(.imm 1 x0), (.imm 1 x1), (.fn 84 [])] [] =
 f82q2_l1 x0 (-1 : Int) x1 ((x1.length : Nat) : Int) (0 : Int) := (den_eq ..).trans (by kernel_rfl)
theorem f82q2_l1_eq (t0 : List AV) (t7 : Int) (t10 : List AV) (t11 : Int) (t12 : Int) : f82q2_l1 t0 t7 t10 t11 t12 =
 cond (decide (t12 < t11))
 (if 0 ≤ t12 ∧ t12 < ((t10.length : Nat) : Int) then
 if okCells false (t10.getD t12.toNat .x) 0 [(.i .i64)] = true then
 cond ((decide (t7 < (0 : Int))) == false)
 (if 0 ≤ (((t10.getD t12.toNat .x).cells.getD 0 .x).toI) ∧ (((t10.getD t12.toNat .x).cells.getD 0 .x).toI) < ((t0.length : Nat) : Int) then
 if okCells false (t0.getD (((t10.getD t12.toNat .x).cells.getD 0 .x).toI).toNat .x) 0 [(.i .i64)] = true then
 if 0 ≤ t7 ∧ t7 < ((t0.length : Nat) : Int) then
 if okCells false (t0.getD t7.toNat .x) 0 [(.i .i64)] = true then
 bSh .b (den E 84 [(.i .i64 (((t0.getD (((t10.getD t12.toNat .x).cells.getD 0 .x).toI).toNat .x).cells.getD 0 .x).toI)), (.i .i64 (((t0.getD t7.toNat .x).cells.getD 0 .x).toI))] []) fun a1 =>
 cond (a1.toB == false)
 (if 0 ≤ (((t10.getD t12.toNat .x).cells.getD 0 .x).toI) ∧ (((t10.getD t12.toNat .x).cells.getD 0 .x).toI) < ((t0.length : Nat) : Int) then
 if okCells false (t0.getD (((t10.getD t12.toNat .x).cells.getD 0 .x).toI).toNat .x) 0 [(.i .i64)] = true then
 if 0 ≤ t7 ∧ t7 < ((t0.length : Nat) : Int) then
 if okCells false (t0.getD t7.toNat .x) 0 [(.i .i64)] = true then
 cond ((decide ((((t0.getD (((t10.getD t12.toNat .x).cells.getD 0 .x).toI).toNat .x).cells.getD 0 .x).toI) = (((t0.getD t7.toNat .x).cells.getD 0 .x).toI))) == true)
 (cond (decide ((((t10.getD t12.toNat .x).cells.getD 0 .x).toI) < t7))
 (f82q2_j2 t0 (((t10.getD t12.toNat .x).cells.getD 0 .x).toI) t10 t11 t12)
 (f82q2_j2 t0 t7 t10 t11 t12))
 (f82q2_j2 t0 t7 t10 t11 t12)
 else none
 else none
 else none
 else none)
 (f82q2_j2 t0 (((t10.getD t12.toNat .x).cells.getD 0 .x).toI) t10 t11 t12)
 else none
 else none
 else none
 else none)
 (f82q2_j2 t0 (((t10.getD t12.toNat .x).cells.getD 0 .x).toI) t10 t11 t12)
 else none
 else none)
 (some (.i .i64 t7)) := (Lp_eq ..).trans (by kernel_rfl)
theorem f82q2_j2_eq (t0 : List AV) (t7 : Int) (t10 : List AV) (t11 : Int) (t12 : Int) : f82q2_j2 t0 t7 t10 t11 t12 =
 f82q2_l1 t0 t7 t10 t11 (IntKind.i64.wrap (t12 + (1 : Int))) := by kernel_rfl
/-! 21: loop.example/g00905/impl.WearGap -/
theorem f21_eq (x0 : List AV) (x1 : List AV) : den E 21 [(.imm 1 x0), (.imm 1 x1)] [] =
 bOwn (.so 0) [(.row true 2)] 0 (dno E 80 [(.imm 1 x0), (.imm 1 x1)] []) fun a1 =>
 cond ((decide (((((a1.2.getD 0 .dead).row).length : Nat) : Int) = (0 : Int))) == false)
 (bSh .b (den E 81 [(.imm 1 x0), (.i .i64 (0 : Int)), (.i .i64 (1000 : Int))] []) fun a2 =>
 cond (!a2.toB)
 (some (.i .i64 (0 : Int)))
 (bSh (.i .i64) (den E 82 [(.imm 1 x0), (.imm 1 ((a1.2.getD 0 .dead).row)), (.fn 83 [])] []) fun a3 =>
 if 0 ≤ a3.toI ∧ a3.toI < ((x0.length : Nat) : Int) then
 if okCells false (x0.getD a3.toI.toNat .x) 0 [(.i .i64)] = true then
 bSh (.i .i64) (den E 82 [(.imm 1 x0), (.imm 1 ((a1.2.getD 0 .dead).row)), (.fn 84 [])] []) fun a4 =>
 if 0 ≤ a4.toI ∧ a4.toI < ((x0.length : Nat) : Int) then
 if okCells false (x0.getD a4.toI.toNat .x) 0 [(.i .i64)] = true then
 some (.i .i64 (IntKind.i64.wrap ((((x0.getD a3.toI.toNat .x).cells.getD 0 .x).toI) - (((x0.getD a4.toI.toNat .x).cells.getD 0 .x).toI))))
 else none
 else none
 else none
 else none))
 (some (.i .i64 (0 : Int))) := (den_eq ..).trans (by kernel_rfl)
/-! 161: loop.example/g00905/impl.NeedsLevelling -/
theorem f161_eq (x0 : List AV) (x1 : List AV) (x2 : Int) : den E 161 [(.imm 1 x0), (.imm 1 x1), (.i .i64 x2)] [] =
 bSh (.i .i64) (den E 21 [(.imm 1 x0), (.imm 1 x1)] []) fun a1 =>
 some (.b (decide (x2 < a1.toI))) := (den_eq ..).trans (by kernel_rfl)
/-! 78: (loop.example/g00905/impl.Wear).needs -/
theorem f78_eq (x0_0 : List AV) (x0_1 : List AV) (x0_2 : List AV) (x0_3 : Int) : den E 78 [(.agg [(.imm 1 x0_0), (.imm 1 x0_1), (.imm 1 x0_2), (.i .i64 x0_3)])] [] =
 bSh .b (den E 161 [(.imm 1 x0_0), (.imm 1 x0_1), (.i .i64 x0_3)] []) fun a1 =>
 some (.b a1.toB) := (den_eq ..).trans (by kernel_rfl)
/-! 94: slices.Index[[]int64,int64] -/
noncomputable def f94_l1 (t0 : List AV) (t1 : Int) (t7 : Int) (t8 : Int) : Option AV := Lp E fi94 [true, false, true, false] (mkT 19 [(0, (.imm 1 t0)), (1, (.i .i64 t1)), (7, (.i .i64 t7)), (8, (.i .i64 t8))]) []
theorem f94_eq (x0 : List AV) (x1 : Int) : den E 94 [(.imm 1 x0), (.i .i64 x1)] [] =
 f94_l1 x0 x1 ((x0.length : Nat) : Int) (0 : Int) := (den_eq ..).trans (by kernel_rfl)
theorem f94_l1_eq (t0 : List AV) (t1 : Int) (t7 : Int) (t8 : Int) : f94_l1 t0 t1 t7 t8 =
 cond (decide (t8 < t7))
 (if 0 ≤ t8 ∧ t8 < ((t0.length : Nat) : Int) then
 if okCells false (t0.getD t8.toNat .x) 0 [(.i .i64)] = true then
 cond (decide (t1 = (((t0.getD t8.toNat .x).cells.getD 0 .x).toI)))
 (some (.i .i64 t8))
 (f94_l1 t0 t1 t7 (IntKind.i64.wrap (t8 + (1 : Int))))
 else none
 else none)
 (some (.i .i64 (-1 : Int))) := (Lp_eq ..).trans (by kernel_rfl)
/-! 151: slices.Contains[[]int64,int64] -/
theorem f151_eq (x0 : List AV) (x1 : Int) : den E 151 [(.imm 1 x0), (.i .i64 x1)] [] =
 bSh (.i .i64) (den E 94 [(.imm 1 x0), (.i .i64 x1)] []) fun a1 =>
 some (.b (decide ((0 : Int) ≤ a1.toI))) := (den_eq ..).trans (by kernel_rfl)
/-! 208: loop.example/g00905/impl.PickStatic$1 -/
theorem f208q1_eq (x0 : Int) (x1 : AV) : den E 208 [(.i .i64 x0), (.ip x1 0)] [] =
 if okCells false x1 0 [(.sl 2 1)] = true then
 bSh .b (den E 151 [(.imm 1 ((x1.cells.getD 0 .x).toL)), (.i .i64 x0)] []) fun a1 =>
 some (.b a1.toB)
 else none := (den_eq ..).trans (by kernel_rfl)
/-! 209: slices.IndexFunc[[]int64,int64] -/
noncomputable def f209q2_l1 (t0 : List AV) (t1_0 : AV) (t7 : Int) (t8 : Int) : Option AV := Lp E fi209 [true, false, true, false] (mkT 19 [(0, (.imm 1 t0)), (1, (.fn 208 [(.ip t1_0 0)])), (7, (.i .i64 t7)), (8, (.i .i64 t8))]) []
theorem f209q2_eq (x0 : List AV) (x1_0 : AV) : den E 209 [(.imm 1 x0), (.fn 208 [(.ip x1_0 0)])] [] =
 f209q2_l1 x0 x1_0 ((x0.length : Nat) : Int) (0 : Int) := (den_eq ..).trans (by kernel_rfl)
theorem f209q2_l1_eq (t0 : List AV) (t1_0 : AV) (t7 : Int) (t8 : Int) : f209q2_l1 t0 t1_0 t7 t8 =
 cond (decide (t8 < t7))
 (if 0 ≤ t8 ∧ t8 < ((t0.length : Nat) : Int) then
 if okCells false (t0.getD t8.toNat .x) 0 [(.i .i64)] = true then
 bSh .b (den E 208 [(.i .i64 (((t0.getD t8.toNat .x).cells.getD 0 .x).toI)), (.ip t1_0 0)] []) fun a1 =>
 cond a1.toB
 (some (.i .i64 t8))
 (f209q2_l1 t0 t1_0 t7 (IntKind.i64.wrap (t8 + (1 : Int))))
 else none
 else none)
 (some (.i .i64 (-1 : Int))) := (Lp_eq ..).trans (by kernel_rfl)
/-! 195: slices.DeleteFunc[[]int64,int64] -/
noncomputable def f195o1_l1 (t1_0 : AV) (t5 : Int) (t6 : Int) (r0 : List AV) : Option (AV × List Root) := LpO E fi195 [(5, [0, 1, 5, 6], 1000001), (6, [0, 1, 5, 6], 1000001)] 1 (.pr 0) [true, true, true, false, true, false] (mkT 42 [(0, (.sl 0 [] none)), (1, (.fn 208 [(.ip t1_0 0)])), (5, (.i .i64 t5)), (6, (.i .i64 t6))]) [(.live true false false 2 r0)]
noncomputable def f195o1_j2 (t1_0 : AV) (t5 : Int) (t6 : Int) (r0 : List AV) : Option (AV × List Root) := JnO E fi195 [(5, [0, 1, 5, 6], 1000001), (6, [0, 1, 5, 6], 1000001)] 1 (.pr 0) [true, true, true, false, true, false, false, true, true] (mkT 42 [(0, (.sl 0 [] none)), (1, (.fn 208 [(.ip t1_0 0)])), (5, (.i .i64 t5)), (6, (.i .i64 t6))]) [(.live true false false 2 r0)]
theorem f195o1_eq (x1_0 : AV) (s0 : List AV) : dno E 195 [(.sl 0 [] none), (.fn 208 [(.ip x1_0 0)])] [(.live true false false 2 s0)] =
 bSh (.i .i64) (den E 209 [(.imm 1 s0), (.fn 208 [(.ip x1_0 0)])] []) fun a1 =>
 cond (decide (a1.toI = (-1 : Int)))
 (some ((.sl 0 [] (some (0, s0.length))), [(.live true false false 2 s0)]))
 (f195o1_l1 x1_0 a1.toI (IntKind.i64.wrap (a1.toI + (1 : Int))) s0) := (dno_eq ..).trans (by kernel_rfl)
theorem f195o1_l1_eq (t1_0 : AV) (t5 : Int) (t6 : Int) (r0 : List AV) : f195o1_l1 t1_0 t5 t6 r0 =
 cond (decide (t6 < ((r0.length : Nat) : Int)))
 (if 0 ≤ t6 ∧ t6 < ((r0.length : Nat) : Int) then
 if okCells false (r0.getD (0 + t6.toNat) .x) 0 [(.i .i64)] = true then
 bSh .b (den E 208 [(.i .i64 (((r0.getD (0 + t6.toNat) .x).cells.getD 0 .x).toI)), (.ip t1_0 0)] []) fun a1 =>
 cond (!a1.toB)
 (if 0 ≤ t5 ∧ t5 < ((r0.length : Nat) : Int) then
 f195o1_j2 t1_0 (IntKind.i64.wrap (t5 + (1 : Int))) t6 (r0.set (0 + t5.toNat) ((r0.getD (0 + t5.toNat) .x).putCells 0 [(.i .i64 (((r0.getD (0 + t6.toNat) .x).cells.getD 0 .x).toI))]))
 else none)
 (f195o1_j2 t1_0 t5 t6 r0)
 else none
 else none)
 (if 0 ≤ t5 ∧ t5 ≤ ((r0.length : Nat) : Int) ∧ ((r0.length : Nat) : Int) ≤ ((r0.length : Nat) : Int) then
 if 0 ≤ (0 : Int) ∧ (0 : Int) ≤ t5 ∧ t5 ≤ (((r0.take t5.toNat ++ List.replicate (((r0.length : Nat) : Int).toNat - t5.toNat) ((.i .i64 (0 : Int)) : AV) ++ r0.drop (t5.toNat + (((r0.length : Nat) : Int).toNat - t5.toNat))).length : Nat) : Int) then
 some ((.sl 0 [] (some ((0 : Int).toNat, (t5.toNat - (0 : Int).toNat)))), [(.live true false false 2 (r0.take t5.toNat ++ List.replicate (((r0.length : Nat) : Int).toNat - t5.toNat) ((.i .i64 (0 : Int)) : AV) ++ r0.drop (t5.toNat + (((r0.length : Nat) : Int).toNat - t5.toNat))))])
 else none
 else none) := (LpO_eq ..).trans (by kernel_rfl)
theorem f195o1_j2_eq (t1_0 : AV) (t5 : Int) (t6 : Int) (r0 : List AV) : f195o1_j2 t1_0 t5 t6 r0 =
 f195o1_l1 t1_0 t5 (IntKind.i64.wrap (t6 + (1 : Int))) r0 := by kernel_rfl
/-! 162: loop.example/g00905/impl.PickStatic -/
theorem f162q1_eq (x0 : List AV) (x1 : List AV) : den E 162 [(.imm 1 x0), (.imm 1 x1), (.imm 0 [])] [] =
 bOwn (.so 0) [(.row true 2)] 0 (dno E 80 [(.imm 1 x0), (.imm 1 x1)] []) fun a1 =>
 bOwnFS (.pr 0) [(.same 2)] 1 [(.live true false false 2 ((a1.2.getD 0 .dead).row))] (dno E 195 [(.sl 0 [] none), (.fn 208 [(.ip (.imm 0 []) 0)])] [(.live true false false 2 ((a1.2.getD 0 .dead).row))]) fun a2 =>
 bSh (.i .i64) (den E 82 [(.imm 1 x0), (.imm 1 ((((a2.2.getD 0 .dead).row).drop a2.1.off).take a2.1.cnt)), (.fn 84 [])] []) fun a3 =>
 some (.i .i64 a3.toI) := (den_eq ..).trans (by kernel_rfl)
/-! 207: (loop.example/g00905/impl.Wear).free$1 -/
theorem f207q1_eq (x0 : Int) (x1 : AV) : den E 207 [(.i .i64 x0), (.ip x1 0)] [] =
 if okCells false x1 2 [(.sl 2 1)] = true then
 if 0 ≤ x0 ∧ x0 < ((((x1.cells.getD 2 .x).toL).length : Nat) : Int) then
 if okCells false (((x1.cells.getD 2 .x).toL).getD x0.toNat .x) 0 [(.i .i64)] = true then
 some (.b (!decide ((((((x1.cells.getD 2 .x).toL).getD x0.toNat .x).cells.getD 0 .x).toI) = (0 : Int))))
 else none
 else none
 else none := (den_eq ..).trans (by kernel_rfl)
/-! 209: slices.IndexFunc[[]int64,int64] -/
noncomputable def f209q3_l1 (t0 : List AV) (t1_0 : AV) (t7 : Int) (t8 : Int) : Option AV := Lp E fi209 [true, false, true, false] (mkT 19 [(0, (.imm 1 t0)), (1, (.fn 207 [(.ip t1_0 0)])), (7, (.i .i64 t7)), (8, (.i .i64 t8))]) []
theorem f209q3_eq (x0 : List AV) (x1_0 : AV) : den E 209 [(.imm 1 x0), (.fn 207 [(.ip x1_0 0)])] [] =
 f209q3_l1 x0 x1_0 ((x0.length : Nat) : Int) (0 : Int) := (den_eq ..).trans (by kernel_rfl)
theorem f209q3_l1_eq (t0 : List AV) (t1_0 : AV) (t7 : Int) (t8 : Int) : f209q3_l1 t0 t1_0 t7 t8 =
 cond (decide (t8 < t7))
 (if 0 ≤ t8 ∧ t8 < ((t0.length : Nat) : Int) then
 if okCells false (t0.getD t8.toNat .x) 0 [(.i .i64)] = true then
 bSh .b (den E 207 [(.i .i64 (((t0.getD t8.toNat .x).cells.getD 0 .x).toI)), (.ip t1_0 0)] []) fun a1 =>
 cond a1.toB
 (some (.i .i64 t8))
 (f209q3_l1 t0 t1_0 t7 (IntKind.i64.wrap (t8 + (1 : Int))))
 else none
 else none)
 (some (.i .i64 (-1 : Int))) := (Lp_eq ..).trans (by kernel_rfl)
/-! 195: slices.DeleteFunc[[]int64,int64] -/
noncomputable def f195o2_l1 (t1_0 : AV) (t5 : Int) (t6 : Int) (r0 : List AV) : Option (AV × List Root) := LpO E fi195 [(5, [0, 1, 5, 6], 1000001), (6, [0, 1, 5, 6], 1000001)] 1 (.pr 0) [true, true, true, false, true, false] (mkT 42 [(0, (.sl 0 [] none)), (1, (.fn 207 [(.ip t1_0 0)])), (5, (.i .i64 t5)), (6, (.i .i64 t6))]) [(.live true false false 2 r0)]
noncomputable def f195o2_j2 (t1_0 : AV) (t5 : Int) (t6 : Int) (r0 : List AV) : Option (AV × List Root) := JnO E fi195 [(5, [0, 1, 5, 6], 1000001), (6, [0, 1, 5, 6], 1000001)] 1 (.pr 0) [true, true, true, false, true, false, false, true, true] (mkT 42 [(0, (.sl 0 [] none)), (1, (.fn 207 [(.ip t1_0 0)])), (5, (.i .i64 t5)), (6, (.i .i64 t6))]) [(.live true false false 2 r0)]
theorem f195o2_eq (x1_0 : AV) (s0 : List AV) : dno E 195 [(.sl 0 [] none), (.fn 207 [(.ip x1_0 0)])] [(.live true false false 2 s0)] =
 bSh (.i .i64) (den E 209 [(.imm 1 s0), (.fn 207 [(.ip x1_0 0)])] []) fun a1 =>
 cond (decide (a1.toI = (-1 : Int)))
 (some ((.sl 0 [] (some (0, s0.length))), [(.live true false false 2 s0)]))
 (f195o2_l1 x1_0 a1.toI (IntKind.i64.wrap (a1.toI + (1 : Int))) s0) := (dno_eq ..).trans (by kernel_rfl)
theorem f195o2_l1_eq (t1_0 : AV) (t5 : Int) (t6 : Int) (r0 : List AV) : f195o2_l1 t1_0 t5 t6 r0 =
 cond (decide (t6 < ((r0.length : Nat) : Int)))
 (if 0 ≤ t6 ∧ t6 < ((r0.length : Nat) : Int) then
 if okCells false (r0.getD (0 + t6.toNat) .x) 0 [(.i .i64)] = true then
 bSh .b (den E 207 [(.i .i64 (((r0.getD (0 + t6.toNat) .x).cells.getD 0 .x).toI)), (.ip t1_0 0)] []) fun a1 =>
 cond (!a1.toB)
 (if 0 ≤ t5 ∧ t5 < ((r0.length : Nat) : Int) then
 f195o2_j2 t1_0 (IntKind.i64.wrap (t5 + (1 : Int))) t6 (r0.set (0 + t5.toNat) ((r0.getD (0 + t5.toNat) .x).putCells 0 [(.i .i64 (((r0.getD (0 + t6.toNat) .x).cells.getD 0 .x).toI))]))
 else none)
 (f195o2_j2 t1_0 t5 t6 r0)
 else none
 else none)
 (if 0 ≤ t5 ∧ t5 ≤ ((r0.length : Nat) : Int) ∧ ((r0.length : Nat) : Int) ≤ ((r0.length : Nat) : Int) then
 if 0 ≤ (0 : Int) ∧ (0 : Int) ≤ t5 ∧ t5 ≤ (((r0.take t5.toNat ++ List.replicate (((r0.length : Nat) : Int).toNat - t5.toNat) ((.i .i64 (0 : Int)) : AV) ++ r0.drop (t5.toNat + (((r0.length : Nat) : Int).toNat - t5.toNat))).length : Nat) : Int) then
 some ((.sl 0 [] (some ((0 : Int).toNat, (t5.toNat - (0 : Int).toNat)))), [(.live true false false 2 (r0.take t5.toNat ++ List.replicate (((r0.length : Nat) : Int).toNat - t5.toNat) ((.i .i64 (0 : Int)) : AV) ++ r0.drop (t5.toNat + (((r0.length : Nat) : Int).toNat - t5.toNat))))])
 else none
 else none) := (LpO_eq ..).trans (by kernel_rfl)
theorem f195o2_j2_eq (t1_0 : AV) (t5 : Int) (t6 : Int) (r0 : List AV) : f195o2_j2 t1_0 t5 t6 r0 =
 f195o2_l1 t1_0 t5 (IntKind.i64.wrap (t6 + (1 : Int))) r0 := by kernel_rfl
/-! 160: (loop.example/g00905/impl.Wear).free -/
theorem f160o1_eq (x0_0 : List AV) (x0_1 : List AV) (x0_2 : List AV) (x0_3 : Int) : dno E 160 [(.agg [(.imm 1 x0_0), (.imm 1 x0_1), (.imm 1 x0_2), (.i .i64 x0_3)])] [] =
 bOwn (.so 0) [(.row true 2)] 0 (dno E 80 [(.imm 1 x0_0), (.imm 1 x0_1)] []) fun a1 =>
 bOwnFS (.pr 0) [(.same 2)] 1 [(.live true false false 2 ((a1.2.getD 0 .dead).row))] (dno E 195 [(.sl 0 [] none), (.fn 207 [(.ip (.agg [(.imm 1 x0_0), (.imm 1 x0_1), (.imm 1 x0_2), (.i .i64 x0_3)]) 0)])] [(.live true false false 2 ((a1.2.getD 0 .dead).row))]) fun a2 =>
 some ((.sl 0 [] (some (a2.1.off, a2.1.cnt))), [(.live true false false 2 ((a2.2.getD 0 .dead).row))]) := (dno_eq ..).trans (by kernel_rfl)
/-! 159: loop.example/g00905/impl.PickFree -/
theorem f159_eq (x0 : List AV) (x1 : List AV) (x2 : Bool) : den E 159 [(.imm 1 x0), (.imm 1 x1), (.b x2)] [] =
 bSh .b (den E 81 [(.imm 1 x1), (.i .i64 (0 : Int)), (.i .i64 (IntKind.i64.wrap (((x0.length : Nat) : Int) - (1 : Int))))] []) fun a1 =>
 cond (!a1.toB)
 (some (.i .i64 (-1 : Int)))
 (cond x2
 (bSh (.i .i64) (den E 82 [(.imm 1 x0), (.imm 1 x1), (.fn 84 [])] []) fun a2 =>
 some (.i .i64 a2.toI))
 (bSh (.i .i64) (den E 82 [(.imm 1 x0), (.imm 1 x1), (.fn 83 [])] []) fun a3 =>
 some (.i .i64 a3.toI))) := (den_eq ..).trans (by kernel_rfl)
/-! 76: (*loop.example/g00905/impl.Wear).clear -/
theorem f76o1_eq (x1 : Int) (s0_3 : Int) (s1 : List AV) (s2 : List AV) (s3 : List AV) : dno E 76 [(.pt 0 [] 0 0), (.i .i64 x1)] [(.live false true false 33 [(.agg [(.sl 1 [] none), (.sl 2 [] none), (.sl 3 [] none), (.i .i64 s0_3)])]), (.live true false false 2 s1), (.live true false false 4 s2), (.live true false false 2 s3)] =
 if 0 ≤ x1 ∧ x1 < ((s1.length : Nat) : Int) then
 if okCells false (s1.getD (0 + x1.toNat) .x) 0 [(.i .i64)] = true then
 if 0 ≤ x1 ∧ x1 < ((s1.length : Nat) : Int) then
 if 0 ≤ x1 ∧ x1 < ((s3.length : Nat) : Int) then
 some ((.tup []), [(.live false true false 33 [(.agg [(.sl 1 [] none), (.sl 2 [] none), (.sl 3 [] none), (.i .i64 s0_3)])]), (.live true false false 2 (s1.set (0 + x1.toNat) ((s1.getD (0 + x1.toNat) .x).putCells 0 [(.i .i64 (IntKind.i64.wrap ((((s1.getD (0 + x1.toNat) .x).cells.getD 0 .x).toI) + (1 : Int))))]))), (.live true false false 4 s2), (.live true false false 2 (s3.set (0 + x1.toNat) ((s3.getD (0 + x1.toNat) .x).putCells 0 [(.i .i64 (0 : Int))])))])
 else none
 else none
 else none
 else none := (dno_eq ..).trans (by kernel_rfl)
/-! 79: (*loop.example/g00905/impl.Wear).move -/
noncomputable def f79o1_j1 (t3 : Int) (r0_3 : Int) (r1 : List AV) (r2 : List AV) (r3 : List AV) : Option (AV × List Root) := JnO E fi79 [(7, [0, 3], 1000004)] 4 (.i .i64) [true, true, true] (mkT 49 [(0, (.pt 0 [] 0 0)), (3, (.i .i64 t3))]) [(.live false true false 33 [(.agg [(.sl 1 [] none), (.sl 2 [] none), (.sl 3 [] none), (.i .i64 r0_3)])]), (.live true false false 2 r1), (.live true false false 4 r2), (.live true false false 2 r3)]
theorem f79o1_eq (s0_3 : Int) (s1 : List AV) (s2 : List AV) (s3 : List AV) : dno E 79 [(.pt 0 [] 0 0)] [(.live false true false 33 [(.agg [(.sl 1 [] none), (.sl 2 [] none), (.sl 3 [] none), (.i .i64 s0_3)])]), (.live true false false 2 s1), (.live true false false 4 s2), (.live true false false 2 s3)] =
 bSh (.i .i64) (den E 162 [(.imm 1 s1), (.imm 1 s2), (.imm 0 [])] []) fun a1 =>
 if 0 ≤ a1.toI ∧ a1.toI < ((s3.length : Nat) : Int) then
 if okCells false (s3.getD (0 + a1.toI.toNat) .x) 0 [(.i .i64)] = true then
 cond (!decide ((((s3.getD (0 + a1.toI.toNat) .x).cells.getD 0 .x).toI) = (0 : Int)))
 (bOwnF (.pr 0) [(.row true 2)] 0 (dno E 160 [(.agg [(.imm 1 s1), (.imm 1 s2), (.imm 1 s3), (.i .i64 s0_3)])] []) fun a2 =>
 bSh (.i .i64) (den E 159 [(.imm 1 s1), (.imm 1 ((((a2.2.getD 0 .dead).row).drop a2.1.off).take a2.1.cnt)), (.b false)] []) fun a3 =>
 cond (decide (a3.toI < (0 : Int)))
 (some ((.i .i64 (4 : Int)), [(.live false true false 33 [(.agg [(.sl 1 [] none), (.sl 2 [] none), (.sl 3 [] none), (.i .i64 s0_3)])]), (.live true false false 2 s1), (.live true false false 4 s2), (.live true false false 2 s3)]))
 (if 0 ≤ a1.toI ∧ a1.toI < ((s3.length : Nat) : Int) then
 if okCells false (s3.getD (0 + a1.toI.toNat) .x) 0 [(.i .i64)] = true then
 if 0 ≤ a3.toI ∧ a3.toI < ((s3.length : Nat) : Int) then
 f79o1_j1 a1.toI s0_3 s1 s2 (s3.set (0 + a3.toI.toNat) ((s3.getD (0 + a3.toI.toNat) .x).putCells 0 [(.i .i64 (((s3.getD (0 + a1.toI.toNat) .x).cells.getD 0 .x).toI))]))
 else none
 else none
 else none))
 (f79o1_j1 a1.toI s0_3 s1 s2 s3)
 else none
 else none := (dno_eq ..).trans (by kernel_rfl)
theorem f79o1_j1_eq (t3 : Int) (r0_3 : Int) (r1 : List AV) (r2 : List AV) (r3 : List AV) : f79o1_j1 t3 r0_3 r1 r2 r3 =
 bOwnS (.tup []) [(.var 33 (.agg [(.so 1), (.so 2), (.so 3), (.i .i64)])), (.same 2), (.same 4), (.same 2)] 4 [(.live false true false 33 [(.agg [(.sl 1 [] none), (.sl 2 [] none), (.sl 3 [] none), (.i .i64 r0_3)])]), (.live true false false 2 r1), (.live true false false 4 r2), (.live true false false 2 r3)] (dno E 76 [(.pt 0 [] 0 0), (.i .i64 t3)] [(.live false true false 33 [(.agg [(.sl 1 [] none), (.sl 2 [] none), (.sl 3 [] none), (.i .i64 r0_3)])]), (.live true false false 2 r1), (.live true false false 4 r2), (.live true false false 2 r3)]) fun a1 =>
 some ((.i .i64 (0 : Int)), [(.live false true false 33 [(.agg [(.sl 1 [] none), (.sl 2 [] none), (.sl 3 [] none), (.i .i64 ((((a1.2.getD 0 .dead).row.headD .x).nth 3).toI))])]), (.live true false false 2 ((a1.2.getD 1 .dead).row)), (.live true false false 4 ((a1.2.getD 2 .dead).row)), (.live true false false 2 ((a1.2.getD 3 .dead).row))]) := by kernel_rfl
/-! 20: loop.example/g00905/impl.LevelWear -/
noncomputable def f20o1_l1 (t6 : Int) (r0_3 : Int) (r1_3 : Int) (r2 : List AV) (r3 : List AV) (r4 : List AV) : Option (AV × List Root) := LpO E fi20 [(5, [2, 5, 6], 1000000)] 0 (.tup [(.agg [(.so 0), (.so 1), (.so 2), (.i .i64)]), (.i .i64), (.i .i64)]) [true, true, true, true, false, false] (mkT 25 [(2, (.pt 0 [] 0 0)), (5, (.pt 1 [] 0 0)), (6, (.i .i64 t6))]) [(.live false true false 33 [(.agg [.nils, .nils, .nils, (.i .i64 r0_3)])]), (.live false true false 33 [(.agg [(.sl 2 [] none), (.sl 3 [] none), (.sl 4 [] none), (.i .i64 r1_3)])]), (.live true false false 2 r2), (.live true false false 4 r3), (.live true false false 2 r4)]
theorem f20o1_eq (x0_0 : List AV) (x0_1 : List AV) (x0_2 : List AV) (x0_3 : Int) : dno E 20 [(.agg [(.imm 1 x0_0), (.imm 1 x0_1), (.imm 1 x0_2), (.i .i64 x0_3)])] [] =
 bSh .b (den E 72 [(.agg [(.imm 1 x0_0), (.imm 1 x0_1), (.imm 1 x0_2), (.i .i64 x0_3)])] []) fun a1 =>
 cond (!a1.toB)
 (some ((.tup [(.agg [(.sl 0 [] none), (.sl 1 [] none), (.sl 2 [] none), (.i .i64 (0 : Int))]), (.i .i64 (0 : Int)), (.i .i64 (1 : Int))]), [(.live true false false 2 []), (.live true false false 4 []), (.live true false false 2 [])]))
 (bOwn (.agg [(.so 0), (.so 1), (.so 2), (.i .i64)]) [(.row true 2), (.row true 4), (.row true 2)] 0 (dno E 74 [(.agg [(.imm 1 x0_0), (.imm 1 x0_1), (.imm 1 x0_2), (.i .i64 x0_3)])] []) fun a2 =>
 f20o1_l1 (0 : Int) (0 : Int) ((a2.1.nth 3).toI) ((a2.2.getD 0 .dead).row) ((a2.2.getD 1 .dead).row) ((a2.2.getD 2 .dead).row)) := (dno_eq ..).trans (by kernel_rfl)
theorem f20o1_l1_eq (t6 : Int) (r0_3 : Int) (r1_3 : Int) (r2 : List AV) (r3 : List AV) (r4 : List AV) : f20o1_l1 t6 r0_3 r1_3 r2 r3 r4 =
 bSh .b (den E 78 [(.agg [(.imm 1 r2), (.imm 1 r3), (.imm 1 r4), (.i .i64 r1_3)])] []) fun a1 =>
 cond a1.toB
 (bOwnS (.i .i64) [(.var 33 (.agg [(.so 1), (.so 2), (.so 3), (.i .i64)])), (.same 2), (.same 4), (.same 2)] 4 [(.live false true false 33 [(.agg [(.sl 1 [] none), (.sl 2 [] none), (.sl 3 [] none), (.i .i64 r1_3)])]), (.live true false false 2 r2), (.live true false false 4 r3), (.live true false false 2 r4)] (dno E 79 [(.pt 0 [] 0 0)] [(.live false true false 33 [(.agg [(.sl 1 [] none), (.sl 2 [] none), (.sl 3 [] none), (.i .i64 r1_3)])]), (.live true false false 2 r2), (.live true false false 4 r3), (.live true false false 2 r4)]) fun a2 =>
 cond (!decide (a2.1.toI = (0 : Int)))
 (some ((.tup [(.agg [(.sl 0 [] none), (.sl 1 [] none), (.sl 2 [] none), (.i .i64 (0 : Int))]), (.i .i64 (0 : Int)), (.i .i64 a2.1.toI)]), [(.live true false false 2 []), (.live true false false 4 []), (.live true false false 2 [])]))
 (f20o1_l1 (IntKind.i64.wrap (t6 + (1 : Int))) r0_3 ((((a2.2.getD 0 .dead).row.headD .x).nth 3).toI) ((a2.2.getD 1 .dead).row) ((a2.2.getD 2 .dead).row) ((a2.2.getD 3 .dead).row)))
 (some ((.tup [(.agg [(.sl 0 [] none), (.sl 1 [] none), (.sl 2 [] none), (.i .i64 r1_3)]), (.i .i64 t6), (.i .i64 (0 : Int))]), [(.live true false false 2 r2), (.live true false false 4 r3), (.live true false false 2 r4)])) := (LpO_eq ..).trans (by kernel_rfl)
/-! 96: loop.example/g00905/laws.eqInt64S -/
noncomputable def f96_l1 (t0 : List AV) (t1 : List AV) (t5 : Int) : Option AV := Lp E fi96 [true, true, false, true, false] (mkT 26 [(0, (.imm 1 t0)), (1, (.imm 1 t1)), (5, (.i .i64 t5))]) []
theorem f96_eq (x0 : List AV) (x1 : List AV) : den E 96 [(.imm 1 x0), (.imm 1 x1)] [] =
 cond (!decide (((x0.length : Nat) : Int) = ((x1.length : Nat) : Int)))
 (some (.b false))
 (f96_l1 x0 x1 (0 : Int)) := (den_eq ..).trans (by kernel_rfl)
theorem f96_l1_eq (t0 : List AV) (t1 : List AV) (t5 : Int) : f96_l1 t0 t1 t5 =
 cond (decide (t5 < ((t0.length : Nat) : Int)))
 (if 0 ≤ t5 ∧ t5 < ((t0.length : Nat) : Int) then
 if okCells false (t0.getD t5.toNat .x) 0 [(.i .i64)] = true then
 if 0 ≤ t5 ∧ t5 < ((t1.length : Nat) : Int) then
 if okCells false (t1.getD t5.toNat .x) 0 [(.i .i64)] = true then
 cond (!decide ((((t0.getD t5.toNat .x).cells.getD 0 .x).toI) = (((t1.getD t5.toNat .x).cells.getD 0 .x).toI)))
 (some (.b false))
 (f96_l1 t0 t1 (IntKind.i64.wrap (t5 + (1 : Int))))
 else none
 else none
 else none
 else none)
 (some (.b true)) := (Lp_eq ..).trans (by kernel_rfl)
/-! 97: loop.example/g00905/laws.eqBoolS -/
noncomputable def f97_l1 (t0 : List AV) (t1 : List AV) (t5 : Int) : Option AV := Lp E fi97 [true, true, false, true, false] (mkT 26 [(0, (.imm 1 t0)), (1, (.imm 1 t1)), (5, (.i .i64 t5))]) []
theorem f97_eq (x0 : List AV) (x1 : List AV) : den E 97 [(.imm 1 x0), (.imm 1 x1)] [] =
 cond (!decide (((x0.length : Nat) : Int) = ((x1.length : Nat) : Int)))
 (some (.b false))
 (f97_l1 x0 x1 (0 : Int)) := (den_eq ..).trans (by kernel_rfl)
theorem f97_l1_eq (t0 : List AV) (t1 : List AV) (t5 : Int) : f97_l1 t0 t1 t5 =
 cond (decide (t5 < ((t0.length : Nat) : Int)))
 (if 0 ≤ t5 ∧ t5 < ((t0.length : Nat) : Int) then
 if okCells false (t0.getD t5.toNat .x) 0 [.b] = true then
 if 0 ≤ t5 ∧ t5 < ((t1.length : Nat) : Int) then
 if okCells false (t1.getD t5.toNat .x) 0 [.b] = true then
 cond (!decide ((((t0.getD t5.toNat .x).cells.getD 0 .x).toB) = (((t1.getD t5.toNat .x).cells.getD 0 .x).toB)))
 (some (.b false))
 (f97_l1 t0 t1 (IntKind.i64.wrap (t5 + (1 : Int))))
 else none
 else none
 else none
 else none)
 (some (.b true)) := (Lp_eq ..).trans (by kernel_rfl)
/-! 34: loop.example/g00905/laws.eqWear -/
theorem f34_eq (x0_0 : List AV) (x0_1 : List AV) (x0_2 : List AV) (x0_3 : Int) (x1_0 : List AV) (x1_1 : List AV) (x1_2 : List AV) (x1_3 : Int) : den E 34 [(.agg [(.imm 1 x0_0), (.imm 1 x0_1), (.imm 1 x0_2), (.i .i64 x0_3)]), (.agg [(.imm 1 x1_0), (.imm 1 x1_1), (.imm 1 x1_2), (.i .i64 x1_3)])] [] =
 bSh .b (den E 96 [(.imm 1 x0_0), (.imm 1 x1_0)] []) fun a1 =>
 cond (!a1.toB)
 (some (.b false))
 (bSh .b (den E 97 [(.imm 1 x0_1), (.imm 1 x1_1)] []) fun a2 =>
 cond (!a2.toB)
 (some (.b false))
 (bSh .b (den E 96 [(.imm 1 x0_2), (.imm 1 x1_2)] []) fun a3 =>
 cond (!a3.toB)
 (some (.b false))
 (cond (!decide (x0_3 = x1_3))
 (some (.b false))
 (some (.b true))))) := (den_eq ..).trans (by kernel_rfl)
/-! 98: loop.example/g00905/laws.markInt64S -/
noncomputable def f98o1_l1 (t1 : Int) (t5 : Int) (r0 : List AV) : Option (AV × List Root) := LpO E fi98 [(2, [0, 1, 5], 1000001)] 1 (.i .i64) [true, false, true, false] (mkT 19 [(0, (.sl 0 [] none)), (1, (.i .i64 t1)), (5, (.i .i64 t5))]) [(.live true false false 2 r0)]
theorem f98o1_eq (x1 : Int) (s0 : List AV) : dno E 98 [(.sl 0 [] none), (.i .i64 x1)] [(.live true false false 2 s0)] =
 f98o1_l1 x1 (0 : Int) s0 := (dno_eq ..).trans (by kernel_rfl)
theorem f98o1_l1_eq (t1 : Int) (t5 : Int) (r0 : List AV) : f98o1_l1 t1 t5 r0 =
 cond (decide (t5 < ((r0.length : Nat) : Int)))
 (if 0 ≤ t5 ∧ t5 < ((r0.length : Nat) : Int) then
 f98o1_l1 (IntKind.i64.wrap (t1 + (1 : Int))) (IntKind.i64.wrap (t5 + (1 : Int))) (r0.set (0 + t5.toNat) ((r0.getD (0 + t5.toNat) .x).putCells 0 [(.i .i64 t1)]))
 else none)
 (some ((.i .i64 t1), [(.live true false false 2 r0)])) := (LpO_eq ..).trans (by kernel_rfl)
/-! 99: loop.example/g00905/laws.markBoolS -/
noncomputable def f99o1_l1 (t1 : Int) (t5 : Int) (r0 : List AV) : Option (AV × List Root) := LpO E fi99 [(2, [0, 1, 5], 1000001)] 1 (.i .i64) [true, false, true, false] (mkT 21 [(0, (.sl 0 [] none)), (1, (.i .i64 t1)), (5, (.i .i64 t5))]) [(.live true false false 4 r0)]
theorem f99o1_eq (x1 : Int) (s0 : List AV) : dno E 99 [(.sl 0 [] none), (.i .i64 x1)] [(.live true false false 4 s0)] =
 f99o1_l1 x1 (0 : Int) s0 := (dno_eq ..).trans (by kernel_rfl)
theorem f99o1_l1_eq (t1 : Int) (t5 : Int) (r0 : List AV) : f99o1_l1 t1 t5 r0 =
 cond (decide (t5 < ((r0.length : Nat) : Int)))
 (if 0 ≤ t5 ∧ t5 < ((r0.length : Nat) : Int) then
 f99o1_l1 (IntKind.i64.wrap (t1 + (1 : Int))) (IntKind.i64.wrap (t5 + (1 : Int))) (r0.set (0 + t5.toNat) ((r0.getD (0 + t5.toNat) .x).putCells 0 [(.b (decide ((t1.tmod (3 : Int)) = (0 : Int))))]))
 else none)
 (some ((.i .i64 t1), [(.live true false false 4 r0)])) := (LpO_eq ..).trans (by kernel_rfl)
/-! 35: loop.example/g00905/laws.markWear -/
theorem f35o1_eq (x0_3 : Int) (x1 : Int) (s0 : List AV) (s1 : List AV) (s2 : List AV) : dno E 35 [(.agg [(.sl 0 [] none), (.sl 1 [] none), (.sl 2 [] none), (.i .i64 x0_3)]), (.i .i64 x1)] [(.live true false false 2 s0), (.live true false false 4 s1), (.live true false false 2 s2)] =
 bOwnS (.i .i64) [(.same 2)] 1 [(.live true false false 2 s0)] (dno E 98 [(.sl 0 [] none), (.i .i64 x1)] [(.live true false false 2 s0)]) fun a1 =>
 bOwnS (.i .i64) [(.same 4)] 1 [(.live true false false 4 s1)] (dno E 99 [(.sl 0 [] none), (.i .i64 a1.1.toI)] [(.live true false false 4 s1)]) fun a2 =>
 bOwnS (.i .i64) [(.same 2)] 1 [(.live true false false 2 s2)] (dno E 98 [(.sl 0 [] none), (.i .i64 a2.1.toI)] [(.live true false false 2 s2)]) fun a3 =>
 some ((.i .i64 a3.1.toI), [(.live true false false 2 ((a1.2.getD 0 .dead).row)), (.live true false false 4 ((a2.2.getD 0 .dead).row)), (.live true false false 2 ((a3.2.getD 0 .dead).row))]) := (dno_eq ..).trans (by kernel_rfl)
/-! 100: loop.example/g00905/laws.heldInt64S -/
noncomputable def f100_l1 (t0 : List AV) (t1 : Int) (t5 : Int) : Option AV := Lp E fi100 [true, false, true, false] (mkT 21 [(0, (.imm 1 t0)), (1, (.i .i64 t1)), (5, (.i .i64 t5))]) []
theorem f100_eq (x0 : List AV) (x1 : Int) : den E 100 [(.imm 1 x0), (.i .i64 x1)] [] =
 f100_l1 x0 x1 (0 : Int) := (den_eq ..).trans (by kernel_rfl)
theorem f100_l1_eq (t0 : List AV) (t1 : Int) (t5 : Int) : f100_l1 t0 t1 t5 =
 cond (decide (t5 < ((t0.length : Nat) : Int)))
 (if 0 ≤ t5 ∧ t5 < ((t0.length : Nat) : Int) then
 if okCells false (t0.getD t5.toNat .x) 0 [(.i .i64)] = true then
 cond (!decide ((((t0.getD t5.toNat .x).cells.getD 0 .x).toI) = t1))
 (some (.i .i64 (-1 : Int)))
 (f100_l1 t0 (IntKind.i64.wrap (t1 + (1 : Int))) (IntKind.i64.wrap (t5 + (1 : Int))))
 else none
 else none)
 (some (.i .i64 t1)) := (Lp_eq ..).trans (by kernel_rfl)
/-! 101: loop.example/g00905/laws.heldBoolS -/
noncomputable def f101_l1 (t0 : List AV) (t1 : Int) (t5 : Int) : Option AV := Lp E fi101 [true, false, true, false] (mkT 23 [(0, (.imm 1 t0)), (1, (.i .i64 t1)), (5, (.i .i64 t5))]) []
theorem f101_eq (x0 : List AV) (x1 : Int) : den E 101 [(.imm 1 x0), (.i .i64 x1)] [] =
 f101_l1 x0 x1 (0 : Int) := (den_eq ..).trans (by kernel_rfl)
theorem f101_l1_eq (t0 : List AV) (t1 : Int) (t5 : Int) : f101_l1 t0 t1 t5 =
 cond (decide (t5 < ((t0.length : Nat) : Int)))
 (if 0 ≤ t5 ∧ t5 < ((t0.length : Nat) : Int) then
 if okCells false (t0.getD t5.toNat .x) 0 [.b] = true then
 cond (!decide ((((t0.getD t5.toNat .x).cells.getD 0 .x).toB) = (decide ((t1.tmod (3 : Int)) = (0 : Int)))))
 (some (.i .i64 (-1 : Int)))
 (f101_l1 t0 (IntKind.i64.wrap (t1 + (1 : Int))) (IntKind.i64.wrap (t5 + (1 : Int))))
 else none
 else none)
 (some (.i .i64 t1)) := (Lp_eq ..).trans (by kernel_rfl)
/-! 36: loop.example/g00905/laws.heldWear -/
theorem f36_eq (x0_0 : List AV) (x0_1 : List AV) (x0_2 : List AV) (x0_3 : Int) (x1 : Int) : den E 36 [(.agg [(.imm 1 x0_0), (.imm 1 x0_1), (.imm 1 x0_2), (.i .i64 x0_3)]), (.i .i64 x1)] [] =
 bSh (.i .i64) (den E 100 [(.imm 1 x0_0), (.i .i64 x1)] []) fun a1 =>
 cond (decide (a1.toI < (0 : Int)))
 (some (.i .i64 (-1 : Int)))
 (bSh (.i .i64) (den E 101 [(.imm 1 x0_1), (.i .i64 a1.toI)] []) fun a2 =>
 cond (decide (a2.toI < (0 : Int)))
 (some (.i .i64 (-1 : Int)))
 (bSh (.i .i64) (den E 100 [(.imm 1 x0_2), (.i .i64 a2.toI)] []) fun a3 =>
 cond (decide (a3.toI < (0 : Int)))
 (some (.i .i64 (-1 : Int)))
 (some (.i .i64 a3.toI)))) := (den_eq ..).trans (by kernel_rfl)
/-! 11: loop.example/g00905/laws.FnExactLevelWear -/
theorem f11_eq (x0_0 : List AV) (x0_1 : List AV) (x0_2 : List AV) (x0_3 : Int) : den E 11 [(.agg [(.imm 1 x0_0), (.imm 1 x0_1), (.imm 1 x0_2), (.i .i64 x0_3)])] [] =
 bSh (.i .i64) (den E 30 [(.agg [(.imm 1 x0_0), (.imm 1 x0_1), (.imm 1 x0_2), (.i .i64 x0_3)]), (.i .i64 (1048576 : Int))] []) fun a1 =>
 cond (decide (a1.toI < (0 : Int)))
 (some (.b true))
 (bOwn (.agg [(.so 0), (.so 1), (.so 2), (.i .i64)]) [(.row true 2), (.row true 4), (.row true 2)] 0 (dno E 32 [(.agg [(.imm 1 x0_0), (.imm 1 x0_1), (.imm 1 x0_2), (.i .i64 x0_3)])] []) fun a2 =>
 bOwnF (.tup [(.agg [(.so 0), (.so 1), (.so 2), (.i .i64)]), (.i .i64), (.i .i64)]) [(.row true 2), (.row true 4), (.row true 2)] 0 (dno E 56 [(.agg [(.imm 1 ((a2.2.getD 0 .dead).row)), (.imm 1 ((a2.2.getD 1 .dead).row)), (.imm 1 ((a2.2.getD 2 .dead).row)), (.i .i64 ((a2.1.nth 3).toI))])] []) fun a3 =>
 bOwn (.agg [(.so 0), (.so 1), (.so 2), (.i .i64)]) [(.row true 2), (.row true 4), (.row true 2)] 0 (dno E 32 [(.agg [(.imm 1 x0_0), (.imm 1 x0_1), (.imm 1 x0_2), (.i .i64 x0_3)])] []) fun a4 =>
 bOwnF (.tup [(.agg [(.so 0), (.so 1), (.so 2), (.i .i64)]), (.i .i64), (.i .i64)]) [(.row true 2), (.row true 4), (.row true 2)] 0 (dno E 20 [(.agg [(.imm 1 ((a4.2.getD 0 .dead).row)), (.imm 1 ((a4.2.getD 1 .dead).row)), (.imm 1 ((a4.2.getD 2 .dead).row)), (.i .i64 ((a4.1.nth 3).toI))])] []) fun a5 =>
 bSh .b (den E 34 [(.agg [(.imm 1 ((a5.2.getD 0 .dead).row)), (.imm 1 ((a5.2.getD 1 .dead).row)), (.imm 1 ((a5.2.getD 2 .dead).row)), (.i .i64 (((a5.1.nth 0).nth 3).toI))]), (.agg [(.imm 1 ((a3.2.getD 0 .dead).row)), (.imm 1 ((a3.2.getD 1 .dead).row)), (.imm 1 ((a3.2.getD 2 .dead).row)), (.i .i64 (((a3.1.nth 0).nth 3).toI))])] []) fun a6 =>
 cond ((!a6.toB) == false)
 (cond ((!decide (((a5.1.nth 1).toI) = ((a3.1.nth 1).toI))) == false)
 (cond (!decide (((a5.1.nth 2).toI) = ((a3.1.nth 2).toI)))
 (some (.b false))
 (bOwn (.agg [(.so 0), (.so 1), (.so 2), (.i .i64)]) [(.row true 2), (.row true 4), (.row true 2)] 0 (dno E 32 [(.agg [(.imm 1 x0_0), (.imm 1 x0_1), (.imm 1 x0_2), (.i .i64 x0_3)])] []) fun a7 =>
 bSh .b (den E 34 [(.agg [(.imm 1 ((a4.2.getD 0 .dead).row)), (.imm 1 ((a4.2.getD 1 .dead).row)), (.imm 1 ((a4.2.getD 2 .dead).row)), (.i .i64 ((a4.1.nth 3).toI))]), (.agg [(.imm 1 ((a7.2.getD 0 .dead).row)), (.imm 1 ((a7.2.getD 1 .dead).row)), (.imm 1 ((a7.2.getD 2 .dead).row)), (.i .i64 ((a7.1.nth 3).toI))])] []) fun a8 =>
 cond (!a8.toB)
 (some (.b false))
 (bOwnS (.i .i64) [(.same 2), (.same 4), (.same 2)] 3 [(.live true false false 2 ((a4.2.getD 0 .dead).row)), (.live true false false 4 ((a4.2.getD 1 .dead).row)), (.live true false false 2 ((a4.2.getD 2 .dead).row))] (dno E 35 [(.agg [(.sl 0 [] none), (.sl 1 [] none), (.sl 2 [] none), (.i .i64 ((a4.1.nth 3).toI))]), (.i .i64 (1 : Int))] [(.live true false false 2 ((a4.2.getD 0 .dead).row)), (.live true false false 4 ((a4.2.getD 1 .dead).row)), (.live true false false 2 ((a4.2.getD 2 .dead).row))]) fun a9 =>
 cond ((decide (a9.1.toI < (0 : Int))) == false)
 (bSh .b (den E 34 [(.agg [(.imm 1 ((a5.2.getD 0 .dead).row)), (.imm 1 ((a5.2.getD 1 .dead).row)), (.imm 1 ((a5.2.getD 2 .dead).row)), (.i .i64 (((a5.1.nth 0).nth 3).toI))]), (.agg [(.imm 1 ((a3.2.getD 0 .dead).row)), (.imm 1 ((a3.2.getD 1 .dead).row)), (.imm 1 ((a3.2.getD 2 .dead).row)), (.i .i64 (((a3.1.nth 0).nth 3).toI))])] []) fun a10 =>
 cond ((!a10.toB) == false)
 (cond ((!decide (((a5.1.nth 1).toI) = ((a3.1.nth 1).toI))) == false)
 (cond (!decide (((a5.1.nth 2).toI) = ((a3.1.nth 2).toI)))
 (some (.b false))
 (bOwnS (.i .i64) [(.same 2), (.same 4), (.same 2)] 3 [(.live true false false 2 ((a5.2.getD 0 .dead).row)), (.live true false false 4 ((a5.2.getD 1 .dead).row)), (.live true false false 2 ((a5.2.getD 2 .dead).row))] (dno E 35 [(.agg [(.sl 0 [] none), (.sl 1 [] none), (.sl 2 [] none), (.i .i64 (((a5.1.nth 0).nth 3).toI))]), (.i .i64 (1 : Int))] [(.live true false false 2 ((a5.2.getD 0 .dead).row)), (.live true false false 4 ((a5.2.getD 1 .dead).row)), (.live true false false 2 ((a5.2.getD 2 .dead).row))]) fun a11 =>
 bSh (.i .i64) (den E 36 [(.agg [(.imm 1 ((a11.2.getD 0 .dead).row)), (.imm 1 ((a11.2.getD 1 .dead).row)), (.imm 1 ((a11.2.getD 2 .dead).row)), (.i .i64 (((a5.1.nth 0).nth 3).toI))]), (.i .i64 (1 : Int))] []) fun a12 =>
 cond (decide (a12.toI < (0 : Int)))
 (some (.b false))
 (cond (!decide (a12.toI = a11.1.toI))
 (some (.b false))
 (bOwn (.agg [(.so 0), (.so 1), (.so 2), (.i .i64)]) [(.row true 2), (.row true 4), (.row true 2)] 0 (dno E 32 [(.agg [(.imm 1 x0_0), (.imm 1 x0_1), (.imm 1 x0_2), (.i .i64 x0_3)])] []) fun a13 =>
 bOwnF (.tup [(.agg [(.so 0), (.so 1), (.so 2), (.i .i64)]), (.i .i64), (.i .i64)]) [(.row true 2), (.row true 4), (.row true 2)] 0 (dno E 20 [(.agg [(.imm 1 ((a13.2.getD 0 .dead).row)), (.imm 1 ((a13.2.getD 1 .dead).row)), (.imm 1 ((a13.2.getD 2 .dead).row)), (.i .i64 ((a13.1.nth 3).toI))])] []) fun a14 =>
 bSh .b (den E 34 [(.agg [(.imm 1 ((a14.2.getD 0 .dead).row)), (.imm 1 ((a14.2.getD 1 .dead).row)), (.imm 1 ((a14.2.getD 2 .dead).row)), (.i .i64 (((a14.1.nth 0).nth 3).toI))]), (.agg [(.imm 1 ((a3.2.getD 0 .dead).row)), (.imm 1 ((a3.2.getD 1 .dead).row)), (.imm 1 ((a3.2.getD 2 .dead).row)), (.i .i64 (((a3.1.nth 0).nth 3).toI))])] []) fun a15 =>
 cond ((!a15.toB) == false)
 (cond ((!decide (((a14.1.nth 1).toI) = ((a3.1.nth 1).toI))) == false)
 (cond (!decide (((a14.1.nth 2).toI) = ((a3.1.nth 2).toI)))
 (some (.b false))
 (bSh (.i .i64) (den E 36 [(.agg [(.imm 1 ((a11.2.getD 0 .dead).row)), (.imm 1 ((a11.2.getD 1 .dead).row)), (.imm 1 ((a11.2.getD 2 .dead).row)), (.i .i64 (((a5.1.nth 0).nth 3).toI))]), (.i .i64 (1 : Int))] []) fun a16 =>
 cond (decide (a16.toI < (0 : Int)))
 (some (.b false))
 (cond (!decide (a16.toI = a11.1.toI))
 (some (.b false))
 (some (.b true)))))
 (some (.b false)))
 (some (.b false))))))
 (some (.b false)))
 (some (.b false)))
 (some (.b false)))))
 (some (.b false)))
 (some (.b false))) := (den_eq ..).trans (by kernel_rfl)
end Go.Proofs.Ytcjfeglalmlkbaa.ILevelWear
