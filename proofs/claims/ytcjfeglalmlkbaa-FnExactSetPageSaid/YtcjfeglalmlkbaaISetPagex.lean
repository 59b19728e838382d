/- Printed by a program of this work (wip/it/itp.py): what each function comes to. No condition. -/
import Derived.Test.YtcjfeglalmlkbaaISetPaget
namespace Go.Proofs.Ytcjfeglalmlkbaa.ISetPage
open Go Go.Proofs.YtcjfeglalmlkbaaIT
set_option linter.unusedVariables false
/-! 85: loop.example/g00905/laws.szInt64S -/
theorem f85_eq (x0 : List AV) (x1 : Int) : den E 85 [(.imm 1 x0), (.i .i64 x1)] [] =
 cond (decide ((IntKind.i64.wrap (x1 - ((x0.length : Nat) : Int))) < (0 : Int)))
 (some (.i .i64 (-1 : Int)))
 (some (.i .i64 (IntKind.i64.wrap (x1 - ((x0.length : Nat) : Int))))) := (den_eq ..).trans (by kernel_rfl)
/-! 86: loop.example/g00905/laws.szBoolS -/
theorem f86_eq (x0 : List AV) (x1 : Int) : den E 86 [(.imm 1 x0), (.i .i64 x1)] [] =
 cond (decide ((IntKind.i64.wrap (x1 - ((x0.length : Nat) : Int))) < (0 : Int)))
 (some (.i .i64 (-1 : Int)))
 (some (.i .i64 (IntKind.i64.wrap (x1 - ((x0.length : Nat) : Int))))) := (den_eq ..).trans (by kernel_rfl)
/-! 23: loop.example/g00905/laws.szPageMap -/
theorem f23_eq (x0_0 : Int) (x0_1 : Int) (x0_2 : List AV) (x0_3 : List AV) (x1 : Int) : den E 23 [(.agg [(.i .i64 x0_0), (.i .i64 x0_1), (.imm 1 x0_2), (.imm 1 x0_3)]), (.i .i64 x1)] [] =
 bSh (.i .i64) (den E 85 [(.imm 1 x0_2), (.i .i64 x1)] []) fun a1 =>
 cond (decide (a1.toI < (0 : Int)))
 (some (.i .i64 (-1 : Int)))
 (bSh (.i .i64) (den E 86 [(.imm 1 x0_3), (.i .i64 a1.toI)] []) fun a2 =>
 cond (decide (a2.toI < (0 : Int)))
 (some (.i .i64 (-1 : Int)))
 (some (.i .i64 a2.toI))) := (den_eq ..).trans (by kernel_rfl)
/-! 90: loop.example/g00905/laws.toInt64S -/
noncomputable def f90o1_l1 (t0 : List AV) (t4 : Int) (r0 : List AV) (r1 : List AV) : Option (AV × List Root) := LpO E fi90 [(3, [0, 3, 4], 2)] 0 (.so 0) [true, true, false, true, false] (mkT 22 [(0, (.imm 1 t0)), (3, (.sl 1 [] none)), (4, (.i .i64 t4))]) [(.live true false false 2 r0), (.live true false false 2 r1)]
theorem f90o1_eq (x0 : List AV) : dno E 90 [(.imm 1 x0)] [] =
 if 0 ≤ ((x0.length : Nat) : Int) ∧ ((x0.length : Nat) : Int) ≤ ((x0.length : Nat) : Int) ∧ ((x0.length : Nat) : Int) * ((8 : Nat) : Int) ≤ ((room : Nat) : Int) ∧ ((x0.length : Nat) : Int) ≤ 9223372036854775807 then
 f90o1_l1 x0 (0 : Int) [] (List.replicate ((x0.length : Nat) : Int).toNat (.i .i64 (0 : Int)))
 else none := (dno_eq ..).trans (by kernel_rfl)
theorem f90o1_l1_eq (t0 : List AV) (t4 : Int) (r0 : List AV) (r1 : List AV) : f90o1_l1 t0 t4 r0 r1 =
 cond (decide (t4 < ((t0.length : Nat) : Int)))
 (if 0 ≤ t4 ∧ t4 < ((t0.length : Nat) : Int) then
 if okCells false (t0.getD t4.toNat .x) 0 [(.i .i64)] = true then
 if 0 ≤ t4 ∧ t4 < ((r1.length : Nat) : Int) then
 f90o1_l1 t0 (IntKind.i64.wrap (t4 + (1 : Int))) r0 (r1.set (0 + t4.toNat) ((r1.getD (0 + t4.toNat) .x).putCells 0 [(.i .i64 (((t0.getD t4.toNat .x).cells.getD 0 .x).toI))]))
 else none
 else none
 else none)
 (some ((.sl 0 [] none), [(.live true false false 2 r1)])) := (LpO_eq ..).trans (by kernel_rfl)
/-! 91: loop.example/g00905/laws.toBoolS -/
noncomputable def f91o1_l1 (t0 : List AV) (t4 : Int) (r0 : List AV) (r1 : List AV) : Option (AV × List Root) := LpO E fi91 [(3, [0, 3, 4], 2)] 0 (.so 0) [true, true, false, true, false] (mkT 22 [(0, (.imm 1 t0)), (3, (.sl 1 [] none)), (4, (.i .i64 t4))]) [(.live true false false 4 r0), (.live true false false 4 r1)]
theorem f91o1_eq (x0 : List AV) : dno E 91 [(.imm 1 x0)] [] =
 if 0 ≤ ((x0.length : Nat) : Int) ∧ ((x0.length : Nat) : Int) ≤ ((x0.length : Nat) : Int) ∧ ((x0.length : Nat) : Int) * ((1 : Nat) : Int) ≤ ((room : Nat) : Int) ∧ ((x0.length : Nat) : Int) ≤ 9223372036854775807 then
 f91o1_l1 x0 (0 : Int) [] (List.replicate ((x0.length : Nat) : Int).toNat (.b false))
 else none := (dno_eq ..).trans (by kernel_rfl)
theorem f91o1_l1_eq (t0 : List AV) (t4 : Int) (r0 : List AV) (r1 : List AV) : f91o1_l1 t0 t4 r0 r1 =
 cond (decide (t4 < ((t0.length : Nat) : Int)))
 (if 0 ≤ t4 ∧ t4 < ((t0.length : Nat) : Int) then
 if okCells false (t0.getD t4.toNat .x) 0 [.b] = true then
 if 0 ≤ t4 ∧ t4 < ((r1.length : Nat) : Int) then
 f91o1_l1 t0 (IntKind.i64.wrap (t4 + (1 : Int))) r0 (r1.set (0 + t4.toNat) ((r1.getD (0 + t4.toNat) .x).putCells 0 [(.b (((t0.getD t4.toNat .x).cells.getD 0 .x).toB))]))
 else none
 else none
 else none)
 (some ((.sl 0 [] none), [(.live true false false 4 r1)])) := (LpO_eq ..).trans (by kernel_rfl)
/-! 25: loop.example/g00905/laws.toPageMap -/
theorem f25o1_eq (x0_0 : Int) (x0_1 : Int) (x0_2 : List AV) (x0_3 : List AV) : dno E 25 [(.agg [(.i .i64 x0_0), (.i .i64 x0_1), (.imm 1 x0_2), (.imm 1 x0_3)])] [] =
 bOwn (.so 0) [(.row true 2)] 0 (dno E 90 [(.imm 1 x0_2)] []) fun a1 =>
 bOwn (.so 0) [(.row true 4)] 0 (dno E 91 [(.imm 1 x0_3)] []) fun a2 =>
 some ((.agg [(.i .i64 x0_0), (.i .i64 x0_1), (.sl 0 [] none), (.sl 1 [] none)]), [(.live true false false 2 ((a1.2.getD 0 .dead).row)), (.live true false false 4 ((a2.2.getD 0 .dead).row))]) := (dno_eq ..).trans (by kernel_rfl)
/-! 77: loop.example/g00905/spec.l00In -/
theorem f77_eq (x0 : Int) (x1 : Int) (x2 : Int) : den E 77 [(.i .i64 x0), (.i .i64 x1), (.i .i64 x2)] [] =
 cond ((decide (x1 ≤ x0)) == true)
 (some (.b (decide (x0 ≤ x2))))
 (some (.b false)) := (den_eq ..).trans (by kernel_rfl)
/-! 165: loop.example/g00905/spec.l09Size -/
theorem f165_eq (x0 : Int) (x1 : Int) (x2 : Int) : den E 165 [(.i .i64 x0), (.i .i64 x1), (.i .i64 x2)] [] =
 bSh .b (den E 77 [(.i .i64 x0), (.i .i64 (1 : Int)), (.i .i64 (48 : Int))] []) fun a1 =>
 cond (a1.toB == true)
 (bSh .b (den E 77 [(.i .i64 x1), (.i .i64 (1 : Int)), (.i .i64 (640 : Int))] []) fun a2 =>
 cond (a2.toB == true)
 (bSh .b (den E 77 [(.i .i64 x2), (.i .i64 (1 : Int)), (.i .i64 (640 : Int))] []) fun a3 =>
 cond (a3.toB == true)
 (some (.b (decide ((IntKind.i64.wrap (x1 * x2)) ≤ (640 : Int)))))
 (some (.b false)))
 (some (.b false)))
 (some (.b false)) := (den_eq ..).trans (by kernel_rfl)
/-! 87: loop.example/g00905/spec.l09Ok -/
noncomputable def f87_l1 (t0 : AV) (t3 : Int) : Option AV := Lp E fi87 [true, true, false, true, false] (mkT 110 [(0, (.ip t0 0)), (3, (.i .i64 t3))]) []
noncomputable def f87_j2 (t0 : AV) (t3 : Int) : Option AV := Jn E fi87 [true, true, false, true, false, false, true, false, false, true] (mkT 110 [(0, (.ip t0 0)), (3, (.i .i64 t3))]) []
noncomputable def f87_l3 (t0 : AV) (t3 : Int) (t4 : Int) : Option AV := Lp E fi87 [true, true, false, true, false, false, true, false, false, true, true, false] (mkT 110 [(0, (.ip t0 0)), (3, (.i .i64 t3)), (4, (.i .i64 t4))]) []
noncomputable def f87_j4 (t0 : AV) (t3 : Int) (t4 : Int) : Option AV := Jn E fi87 [true, true, false, true, false, false, true, false, false, true, true, false, false, true, true] (mkT 110 [(0, (.ip t0 0)), (3, (.i .i64 t3)), (4, (.i .i64 t4))]) []
theorem f87_eq (x0 : AV) : den E 87 [(.ip x0 0)] [] =
 if okCells false x0 2 [(.sl 2 1)] = true then
 if okCells false x0 0 [(.i .i64)] = true then
 if okCells false x0 1 [(.i .i64)] = true then
 bSh .b (den E 165 [(.i .i64 ((((x0.cells.getD 2 .x).toL).length : Nat) : Int)), (.i .i64 ((x0.cells.getD 0 .x).toI)), (.i .i64 ((x0.cells.getD 1 .x).toI))] []) fun a1 =>
 cond ((!a1.toB) == false)
 (if okCells false x0 3 [(.sl 4 1)] = true then
 if okCells false x0 2 [(.sl 2 1)] = true then
 cond (!decide (((((x0.cells.getD 3 .x).toL).length : Nat) : Int) = ((((x0.cells.getD 2 .x).toL).length : Nat) : Int)))
 (some (.b false))
 (f87_l1 x0 (0 : Int))
 else none
 else none)
 (some (.b false))
 else none
 else none
 else none := (den_eq ..).trans (by kernel_rfl)
theorem f87_l1_eq (t0 : AV) (t3 : Int) : f87_l1 t0 t3 =
 if okCells false t0 2 [(.sl 2 1)] = true then
 cond (decide (t3 < ((((t0.cells.getD 2 .x).toL).length : Nat) : Int)))
 (if okCells false t0 2 [(.sl 2 1)] = true then
 if 0 ≤ t3 ∧ t3 < ((((t0.cells.getD 2 .x).toL).length : Nat) : Int) then
 if okCells false (((t0.cells.getD 2 .x).toL).getD t3.toNat .x) 0 [(.i .i64)] = true then
 if okCells false t0 0 [(.i .i64)] = true then
 if okCells false t0 1 [(.i .i64)] = true then
 bSh .b (den E 77 [(.i .i64 (((((t0.cells.getD 2 .x).toL).getD t3.toNat .x).cells.getD 0 .x).toI)), (.i .i64 (-1 : Int)), (.i .i64 (IntKind.i64.wrap ((IntKind.i64.wrap (((t0.cells.getD 0 .x).toI) * ((t0.cells.getD 1 .x).toI))) - (1 : Int))))] []) fun a1 =>
 cond ((!a1.toB) == false)
 (if okCells false t0 2 [(.sl 2 1)] = true then
 if 0 ≤ t3 ∧ t3 < ((((t0.cells.getD 2 .x).toL).length : Nat) : Int) then
 if okCells false (((t0.cells.getD 2 .x).toL).getD t3.toNat .x) 0 [(.i .i64)] = true then
 cond ((decide ((((((t0.cells.getD 2 .x).toL).getD t3.toNat .x).cells.getD 0 .x).toI) < (0 : Int))) == true)
 (if okCells false t0 3 [(.sl 4 1)] = true then
 if 0 ≤ t3 ∧ t3 < ((((t0.cells.getD 3 .x).toL).length : Nat) : Int) then
 if okCells false (((t0.cells.getD 3 .x).toL).getD t3.toNat .x) 0 [.b] = true then
 cond (((((t0.cells.getD 3 .x).toL).getD t3.toNat .x).cells.getD 0 .x).toB)
 (some (.b false))
 (f87_j2 t0 t3)
 else none
 else none
 else none)
 (f87_j2 t0 t3)
 else none
 else none
 else none)
 (some (.b false))
 else none
 else none
 else none
 else none
 else none)
 (some (.b true))
 else none := (Lp_eq ..).trans (by kernel_rfl)
theorem f87_j2_eq (t0 : AV) (t3 : Int) : f87_j2 t0 t3 =
 f87_l3 t0 t3 (0 : Int) := by kernel_rfl
theorem f87_l3_eq (t0 : AV) (t3 : Int) (t4 : Int) : f87_l3 t0 t3 t4 =
 cond (decide (t4 < t3))
 (if okCells false t0 2 [(.sl 2 1)] = true then
 if 0 ≤ t3 ∧ t3 < ((((t0.cells.getD 2 .x).toL).length : Nat) : Int) then
 if okCells false (((t0.cells.getD 2 .x).toL).getD t3.toNat .x) 0 [(.i .i64)] = true then
 cond ((decide ((0 : Int) ≤ (((((t0.cells.getD 2 .x).toL).getD t3.toNat .x).cells.getD 0 .x).toI))) == true)
 (if okCells false t0 2 [(.sl 2 1)] = true then
 if 0 ≤ t4 ∧ t4 < ((((t0.cells.getD 2 .x).toL).length : Nat) : Int) then
 if okCells false (((t0.cells.getD 2 .x).toL).getD t4.toNat .x) 0 [(.i .i64)] = true then
 if okCells false t0 2 [(.sl 2 1)] = true then
 if 0 ≤ t3 ∧ t3 < ((((t0.cells.getD 2 .x).toL).length : Nat) : Int) then
 if okCells false (((t0.cells.getD 2 .x).toL).getD t3.toNat .x) 0 [(.i .i64)] = true then
 cond (decide ((((((t0.cells.getD 2 .x).toL).getD t4.toNat .x).cells.getD 0 .x).toI) = (((((t0.cells.getD 2 .x).toL).getD t3.toNat .x).cells.getD 0 .x).toI)))
 (some (.b false))
 (f87_j4 t0 t3 t4)
 else none
 else none
 else none
 else none
 else none
 else none)
 (f87_j4 t0 t3 t4)
 else none
 else none
 else none)
 (f87_l1 t0 (IntKind.i64.wrap (t3 + (1 : Int)))) := (Lp_eq ..).trans (by kernel_rfl)
theorem f87_j4_eq (t0 : AV) (t3 : Int) (t4 : Int) : f87_j4 t0 t3 t4 =
 f87_l3 t0 t3 (IntKind.i64.wrap (t4 + (1 : Int))) := by kernel_rfl
/-! 88: loop.example/g00905/spec.l09At -/
noncomputable def f88_l1 (t0 : AV) (t1 : Int) (t5 : Int) : Option AV := Lp E fi88 [true, false, true, false] (mkT 29 [(0, (.ip t0 0)), (1, (.i .i64 t1)), (5, (.i .i64 t5))]) []
noncomputable def f88_j2 (t0 : AV) (t1 : Int) (t5 : Int) : Option AV := Jn E fi88 [true, false, true, false, false, true, true] (mkT 29 [(0, (.ip t0 0)), (1, (.i .i64 t1)), (5, (.i .i64 t5))]) []
theorem f88_eq (x0 : AV) (x1 : Int) : den E 88 [(.ip x0 0), (.i .i64 x1)] [] =
 f88_l1 x0 x1 (0 : Int) := (den_eq ..).trans (by kernel_rfl)
theorem f88_l1_eq (t0 : AV) (t1 : Int) (t5 : Int) : f88_l1 t0 t1 t5 =
 if okCells false t0 2 [(.sl 2 1)] = true then
 cond (decide (t5 < ((((t0.cells.getD 2 .x).toL).length : Nat) : Int)))
 (cond ((decide ((0 : Int) ≤ t1)) == true)
 (if okCells false t0 2 [(.sl 2 1)] = true then
 if 0 ≤ t5 ∧ t5 < ((((t0.cells.getD 2 .x).toL).length : Nat) : Int) then
 if okCells false (((t0.cells.getD 2 .x).toL).getD t5.toNat .x) 0 [(.i .i64)] = true then
 cond (decide ((((((t0.cells.getD 2 .x).toL).getD t5.toNat .x).cells.getD 0 .x).toI) = t1))
 (some (.i .i64 t5))
 (f88_j2 t0 t1 t5)
 else none
 else none
 else none)
 (f88_j2 t0 t1 t5))
 (some (.i .i64 (-1 : Int)))
 else none := (Lp_eq ..).trans (by kernel_rfl)
theorem f88_j2_eq (t0 : AV) (t1 : Int) (t5 : Int) : f88_j2 t0 t1 t5 =
 f88_l1 t0 t1 (IntKind.i64.wrap (t5 + (1 : Int))) := by kernel_rfl
/-! 166: loop.example/g00905/spec.l00Own -/
theorem f166o1_eq (x0 : List AV) : dno E 166 [(.imm 1 x0)] [] =
 if x0.length * 8 ≤ room then
 some ((.sl 0 [] none), [(.live true false false 2 x0)])
 else none := (dno_eq ..).trans (by kernel_rfl)
/-! 89: loop.example/g00905/spec.l09Own -/
theorem f89o1_eq (x0 : AV) : dno E 89 [(.ip x0 0)] [] =
 if okCells false x0 0 [(.i .i64)] = true then
 if okCells false x0 1 [(.i .i64)] = true then
 if okCells false x0 2 [(.sl 2 1)] = true then
 bOwn (.so 0) [(.row true 2)] 0 (dno E 166 [(.imm 1 ((x0.cells.getD 2 .x).toL))] []) fun a1 =>
 if okCells false x0 3 [(.sl 4 1)] = true then
 if ((x0.cells.getD 3 .x).toL).length * 1 ≤ room then
 some ((.agg [(.i .i64 ((x0.cells.getD 0 .x).toI)), (.i .i64 ((x0.cells.getD 1 .x).toI)), (.sl 0 [] none), (.sl 1 [] none)]), [(.live true false false 2 ((a1.2.getD 0 .dead).row)), (.live true false false 4 ((x0.cells.getD 3 .x).toL))])
 else none
 else none
 else none
 else none
 else none := (dno_eq ..).trans (by kernel_rfl)
/-! 24: loop.example/g00905/spec.SetPage -/
noncomputable def f24o1_j1 (t1 : Int) (t2 : Int) (t3 : Bool) (r0_0 : Int) (r0_1 : Int) (r0_2 : List AV) (r0_3 : List AV) (r1_0 : Int) (r1_1 : Int) : Option (AV × List Root) := JnO E fi24 [(8, [1, 2, 3, 4, 8], 2)] 0 (.tup [(.agg [(.i .i64), (.i .i64), (.so 0), (.so 1)]), (.i .i64)]) [true, true, true, true] (mkT 56 [(1, (.i .i64 t1)), (2, (.i .i64 t2)), (3, (.b t3)), (4, (.pt 0 [] 0 0)), (8, (.pt 1 [] 0 0))]) [(.live false true false 43 [(.agg [(.i .i64 r0_0), (.i .i64 r0_1), (.imm 1 r0_2), (.imm 1 r0_3)])]), (.live false true false 43 [(.agg [(.i .i64 r1_0), (.i .i64 r1_1), .nils, .nils])])]
theorem f24o1_eq (x0_0 : Int) (x0_1 : Int) (x0_2 : List AV) (x0_3 : List AV) (x1 : Int) (x2 : Int) (x3 : Bool) : dno E 24 [(.agg [(.i .i64 x0_0), (.i .i64 x0_1), (.imm 1 x0_2), (.imm 1 x0_3)]), (.i .i64 x1), (.i .i64 x2), (.b x3)] [] =
 bSh .b (den E 87 [(.ip (.agg [(.i .i64 x0_0), (.i .i64 x0_1), (.imm 1 x0_2), (.imm 1 x0_3)]) 0)] []) fun a1 =>
 cond (!a1.toB)
 (some ((.tup [(.agg [(.i .i64 (0 : Int)), (.i .i64 (0 : Int)), (.sl 0 [] none), (.sl 1 [] none)]), (.i .i64 (1 : Int))]), [(.live true false false 2 []), (.live true false false 4 [])]))
 (bSh .b (den E 77 [(.i .i64 x1), (.i .i64 (0 : Int)), (.i .i64 (IntKind.i64.wrap (((x0_2.length : Nat) : Int) - (1 : Int))))] []) fun a2 =>
 cond ((!a2.toB) == false)
 (bSh .b (den E 77 [(.i .i64 x2), (.i .i64 (0 : Int)), (.i .i64 (IntKind.i64.wrap ((IntKind.i64.wrap (x0_0 * x0_1)) - (1 : Int))))] []) fun a3 =>
 cond (!a3.toB)
 (some ((.tup [(.agg [(.i .i64 (0 : Int)), (.i .i64 (0 : Int)), (.sl 0 [] none), (.sl 1 [] none)]), (.i .i64 (2 : Int))]), [(.live true false false 2 []), (.live true false false 4 [])]))
 (bSh (.i .i64) (den E 88 [(.ip (.agg [(.i .i64 x0_0), (.i .i64 x0_1), (.imm 1 x0_2), (.imm 1 x0_3)]) 0), (.i .i64 x2)] []) fun a4 =>
 cond ((decide ((0 : Int) ≤ a4.toI)) == true)
 (cond (!decide (a4.toI = x1))
 (some ((.tup [(.agg [(.i .i64 (0 : Int)), (.i .i64 (0 : Int)), (.sl 0 [] none), (.sl 1 [] none)]), (.i .i64 (5 : Int))]), [(.live true false false 2 []), (.live true false false 4 [])]))
 (f24o1_j1 x1 x2 x3 x0_0 x0_1 x0_2 x0_3 (0 : Int) (0 : Int)))
 (f24o1_j1 x1 x2 x3 x0_0 x0_1 x0_2 x0_3 (0 : Int) (0 : Int))))
 (some ((.tup [(.agg [(.i .i64 (0 : Int)), (.i .i64 (0 : Int)), (.sl 0 [] none), (.sl 1 [] none)]), (.i .i64 (2 : Int))]), [(.live true false false 2 []), (.live true false false 4 [])]))) := (dno_eq ..).trans (by kernel_rfl)
theorem f24o1_j1_eq (t1 : Int) (t2 : Int) (t3 : Bool) (r0_0 : Int) (r0_1 : Int) (r0_2 : List AV) (r0_3 : List AV) (r1_0 : Int) (r1_1 : Int) : f24o1_j1 t1 t2 t3 r0_0 r0_1 r0_2 r0_3 r1_0 r1_1 =
 bOwnF (.agg [(.i .i64), (.i .i64), (.so 0), (.so 1)]) [(.row true 2), (.row true 4)] 0 (dno E 89 [(.ip (.agg [(.i .i64 r0_0), (.i .i64 r0_1), (.imm 1 r0_2), (.imm 1 r0_3)]) 0)] []) fun a1 =>
 if 0 ≤ t1 ∧ t1 < ((((a1.2.getD 0 .dead).row).length : Nat) : Int) then
 if 0 ≤ t1 ∧ t1 < ((((a1.2.getD 1 .dead).row).length : Nat) : Int) then
 some ((.tup [(.agg [(.i .i64 ((a1.1.nth 0).toI)), (.i .i64 ((a1.1.nth 1).toI)), (.sl 0 [] none), (.sl 1 [] none)]), (.i .i64 (0 : Int))]), [(.live true false false 2 (((a1.2.getD 0 .dead).row).set (0 + t1.toNat) ((((a1.2.getD 0 .dead).row).getD (0 + t1.toNat) .x).putCells 0 [(.i .i64 t2)]))), (.live true false false 4 (((a1.2.getD 1 .dead).row).set (0 + t1.toNat) ((((a1.2.getD 1 .dead).row).getD (0 + t1.toNat) .x).putCells 0 [(.b t3)])))])
 else none
 else none := by kernel_rfl
/-! 70: loop.example/g00905/impl.within -/
theorem f70_eq (x0 : Int) (x1 : Int) (x2 : Int) : den E 70 [(.i .i64 x0), (.i .i64 x1), (.i .i64 x2)] [] =
 cond ((decide (x1 ≤ x0)) == true)
 (some (.b (decide (x0 ≤ x2))))
 (some (.b false)) := (den_eq ..).trans (by kernel_rfl)
/-! 167: loop.example/g00905/impl.sizeOk -/
theorem f167_eq (x0 : Int) (x1 : Int) : den E 167 [(.i .i64 x0), (.i .i64 x1)] [] =
 bSh .b (den E 70 [(.i .i64 x0), (.i .i64 (1 : Int)), (.i .i64 (640 : Int))] []) fun a1 =>
 cond (a1.toB == true)
 (if x0 = 0 then none else
 bSh .b (den E 70 [(.i .i64 x1), (.i .i64 (1 : Int)), (.i .i64 (IntKind.i64.wrap ((640 : Int).tdiv x0)))] []) fun a2 =>
 some (.b a2.toB))
 (some (.b false)) := (den_eq ..).trans (by kernel_rfl)
/-! 93: (loop.example/g00905/impl.PageMap).physical -/
theorem f93_eq (x0_0 : Int) (x0_1 : Int) (x0_2 : List AV) (x0_3 : List AV) : den E 93 [(.agg [(.i .i64 x0_0), (.i .i64 x0_1), (.imm 1 x0_2), (.imm 1 x0_3)])] [] =
 some (.i .i64 (IntKind.i64.wrap (x0_0 * x0_1))) := (den_eq ..).trans (by kernel_rfl)
/-! 94: slices.Index[[]int64,int64] -/
noncomputable def f94_l1 (t0 : List AV) (t1 : Int) (t7 : Int) (t8 : Int) : Option AV := Lp E fi94 [true, false, true, false] (mkT 19 [(0, (.imm 1 t0)), (1, (.i .i64 t1)), (7, (.i .i64 t7)), (8, (.i .i64 t8))]) []
theorem f94_eq (x0 : List AV) (x1 : Int) : den E 94 [(.imm 1 x0), (.i .i64 x1)] [] =
 f94_l1 x0 x1 ((x0.length : Nat) : Int) (0 : Int) := (den_eq ..).trans (by kernel_rfl)
theorem f94_l1_eq (t0 : List AV) (t1 : Int) (t7 : Int) (t8 : Int) : f94_l1 t0 t1 t7 t8 =
 cond (decide (t8 < t7))
 (if 0 ≤ t8 ∧ t8 < ((t0.length : Nat) : Int) then
 if okCells false (t0.getD t8.toNat .x) 0 [(.i .i64)] = true then
 cond (decide (t1 = (((t0.getD t8.toNat .x).cells.getD 0 .x).toI)))
 (some (.i .i64 t8))
 (f94_l1 t0 t1 t7 (IntKind.i64.wrap (t8 + (1 : Int))))
 else none
 else none)
 (some (.i .i64 (-1 : Int))) := (Lp_eq ..).trans (by kernel_rfl)
/-! 151: slices.Contains[[]int64,int64] -/
theorem f151_eq (x0 : List AV) (x1 : Int) : den E 151 [(.imm 1 x0), (.i .i64 x1)] [] =
 bSh (.i .i64) (den E 94 [(.imm 1 x0), (.i .i64 x1)] []) fun a1 =>
 some (.b (decide ((0 : Int) ≤ a1.toI))) := (den_eq ..).trans (by kernel_rfl)
/-! 92: loop.example/g00905/impl.ValidMap -/
noncomputable def f92_l1 (t28 : List AV) (t29 : Int) (t30 : Int) (r0_0 : Int) (r0_1 : Int) (r0_2 : List AV) (r0_3 : List AV) : Option AV := Lp E fi92 [true, true, false, true, false] (mkT 65 [(1, (.pt 0 [] 0 0)), (28, (.imm 1 t28)), (29, (.i .i64 t29)), (30, (.i .i64 t30))]) [(.live false true false 43 [(.agg [(.i .i64 r0_0), (.i .i64 r0_1), (.imm 1 r0_2), (.imm 1 r0_3)])])]
noncomputable def f92_j2 (t28 : List AV) (t29 : Int) (t30 : Int) (r0_0 : Int) (r0_1 : Int) (r0_2 : List AV) (r0_3 : List AV) : Option AV := Jn E fi92 [true, true, false, true, false, false, true, true, true] (mkT 65 [(1, (.pt 0 [] 0 0)), (28, (.imm 1 t28)), (29, (.i .i64 t29)), (30, (.i .i64 t30))]) [(.live false true false 43 [(.agg [(.i .i64 r0_0), (.i .i64 r0_1), (.imm 1 r0_2), (.imm 1 r0_3)])])]
theorem f92_eq (x0_0 : Int) (x0_1 : Int) (x0_2 : List AV) (x0_3 : List AV) : den E 92 [(.agg [(.i .i64 x0_0), (.i .i64 x0_1), (.imm 1 x0_2), (.imm 1 x0_3)])] [] =
 bSh .b (den E 167 [(.i .i64 x0_0), (.i .i64 x0_1)] []) fun a1 =>
 cond ((!a1.toB) == false)
 (bSh .b (den E 70 [(.i .i64 ((x0_2.length : Nat) : Int)), (.i .i64 (1 : Int)), (.i .i64 (48 : Int))] []) fun a2 =>
 cond ((!a2.toB) == false)
 (cond (!decide (((x0_3.length : Nat) : Int) = ((x0_2.length : Nat) : Int)))
 (some (.b false))
 (f92_l1 x0_2 ((x0_2.length : Nat) : Int) (0 : Int) x0_0 x0_1 x0_2 x0_3))
 (some (.b false)))
 (some (.b false)) := (den_eq ..).trans (by kernel_rfl)
theorem f92_l1_eq (t28 : List AV) (t29 : Int) (t30 : Int) (r0_0 : Int) (r0_1 : Int) (r0_2 : List AV) (r0_3 : List AV) : f92_l1 t28 t29 t30 r0_0 r0_1 r0_2 r0_3 =
 cond (decide (t30 < t29))
 (if 0 ≤ t30 ∧ t30 < ((t28.length : Nat) : Int) then
 if okCells false (t28.getD t30.toNat .x) 0 [(.i .i64)] = true then
 bSh (.i .i64) (den E 93 [(.agg [(.i .i64 r0_0), (.i .i64 r0_1), (.imm 1 r0_2), (.imm 1 r0_3)])] []) fun a1 =>
 bSh .b (den E 70 [(.i .i64 (((t28.getD t30.toNat .x).cells.getD 0 .x).toI)), (.i .i64 (-1 : Int)), (.i .i64 (IntKind.i64.wrap (a1.toI - (1 : Int))))] []) fun a2 =>
 cond ((!a2.toB) == false)
 (cond ((decide ((((t28.getD t30.toNat .x).cells.getD 0 .x).toI) < (0 : Int))) == true)
 (if 0 ≤ t30 ∧ t30 < ((r0_3.length : Nat) : Int) then
 if okCells false (r0_3.getD t30.toNat .x) 0 [.b] = true then
 cond ((((r0_3.getD t30.toNat .x).cells.getD 0 .x).toB) == false)
 (cond ((decide ((0 : Int) ≤ (((t28.getD t30.toNat .x).cells.getD 0 .x).toI))) == true)
 (if 0 ≤ (0 : Int) ∧ (0 : Int) ≤ t30 ∧ t30 ≤ ((r0_2.length : Nat) : Int) then
 bSh .b (den E 151 [(.imm 1 (r0_2.take t30.toNat)), (.i .i64 (((t28.getD t30.toNat .x).cells.getD 0 .x).toI))] []) fun a3 =>
 cond a3.toB
 (some (.b false))
 (f92_j2 t28 t29 t30 r0_0 r0_1 r0_2 r0_3)
 else none)
 (f92_j2 t28 t29 t30 r0_0 r0_1 r0_2 r0_3))
 (some (.b false))
 else none
 else none)
 (cond ((decide ((0 : Int) ≤ (((t28.getD t30.toNat .x).cells.getD 0 .x).toI))) == true)
 (if 0 ≤ (0 : Int) ∧ (0 : Int) ≤ t30 ∧ t30 ≤ ((r0_2.length : Nat) : Int) then
 bSh .b (den E 151 [(.imm 1 (r0_2.take t30.toNat)), (.i .i64 (((t28.getD t30.toNat .x).cells.getD 0 .x).toI))] []) fun a4 =>
 cond a4.toB
 (some (.b false))
 (f92_j2 t28 t29 t30 r0_0 r0_1 r0_2 r0_3)
 else none)
 (f92_j2 t28 t29 t30 r0_0 r0_1 r0_2 r0_3)))
 (some (.b false))
 else none
 else none)
 (some (.b true)) := (Lp_eq ..).trans (by kernel_rfl)
theorem f92_j2_eq (t28 : List AV) (t29 : Int) (t30 : Int) (r0_0 : Int) (r0_1 : Int) (r0_2 : List AV) (r0_3 : List AV) : f92_j2 t28 t29 t30 r0_0 r0_1 r0_2 r0_3 =
 f92_l1 t28 t29 (IntKind.i64.wrap (t30 + (1 : Int))) r0_0 r0_1 r0_2 r0_3 := by kernel_rfl
/-! 73: loop.example/g00905/impl.isIndex -/
theorem f73_eq (x0 : Int) (x1 : Int) : den E 73 [(.i .i64 x0), (.i .i64 x1)] [] =
 bSh .b (den E 70 [(.i .i64 x0), (.i .i64 (0 : Int)), (.i .i64 (IntKind.i64.wrap (x1 - (1 : Int))))] []) fun a1 =>
 some (.b a1.toB) := (den_eq ..).trans (by kernel_rfl)
/-! 134: slices.Clone[[]int64,int64] -/
theorem f134_eq (x0 : List AV) : dno E 134 [(.imm 1 x0)] [] = if 1 = 1 ∧ x0.length * 8 ≤ room then some (.sl 0 [] none, [.live true false false 2 x0]) else none := (dno_eq ..).trans (by kernel_rfl)
/-! 158: slices.Clone[[]bool,bool] -/
theorem f158_eq (x0 : List AV) : dno E 158 [(.imm 1 x0)] [] = if 1 = 1 ∧ x0.length * 1 ≤ room then some (.sl 0 [] none, [.live true false false 4 x0]) else none := (dno_eq ..).trans (by kernel_rfl)
/-! 95: (loop.example/g00905/impl.PageMap).clone -/
theorem f95o1_eq (x0_0 : Int) (x0_1 : Int) (x0_2 : List AV) (x0_3 : List AV) : dno E 95 [(.agg [(.i .i64 x0_0), (.i .i64 x0_1), (.imm 1 x0_2), (.imm 1 x0_3)])] [] =
 bOwn (.so 0) [(.row true 2)] 0 (dno E 134 [(.imm 1 x0_2)] []) fun a1 =>
 bOwn (.so 0) [(.row true 4)] 0 (dno E 158 [(.imm 1 x0_3)] []) fun a2 =>
 some ((.agg [(.i .i64 x0_0), (.i .i64 x0_1), (.sl 0 [] none), (.sl 1 [] none)]), [(.live true false false 2 ((a1.2.getD 0 .dead).row)), (.live true false false 4 ((a2.2.getD 0 .dead).row))]) := (dno_eq ..).trans (by kernel_rfl)
/-! 26: loop.example/g00905/impl.SetPage -/
noncomputable def f26o1_j1 (t1 : Int) (t2 : Int) (t3 : Bool) (r0_0 : Int) (r0_1 : Int) (r0_2 : List AV) (r0_3 : List AV) (r1_0 : Int) (r1_1 : Int) : Option (AV × List Root) := JnO E fi26 [(8, [1, 2, 3, 4, 8], 2)] 0 (.tup [(.agg [(.i .i64), (.i .i64), (.so 0), (.so 1)]), (.i .i64)]) [true, true, true] (mkT 58 [(1, (.i .i64 t1)), (2, (.i .i64 t2)), (3, (.b t3)), (4, (.pt 0 [] 0 0)), (8, (.pt 1 [] 0 0))]) [(.live false true false 43 [(.agg [(.i .i64 r0_0), (.i .i64 r0_1), (.imm 1 r0_2), (.imm 1 r0_3)])]), (.live false true false 43 [(.agg [(.i .i64 r1_0), (.i .i64 r1_1), .nils, .nils])])]
theorem f26o1_eq (x0_0 : Int) (x0_1 : Int) (x0_2 : List AV) (x0_3 : List AV) (x1 : Int) (x2 : Int) (x3 : Bool) : dno E 26 [(.agg [(.i .i64 x0_0), (.i .i64 x0_1), (.imm 1 x0_2), (.imm 1 x0_3)]), (.i .i64 x1), (.i .i64 x2), (.b x3)] [] =
 bSh .b (den E 92 [(.agg [(.i .i64 x0_0), (.i .i64 x0_1), (.imm 1 x0_2), (.imm 1 x0_3)])] []) fun a1 =>
 cond (!a1.toB)
 (some ((.tup [(.agg [(.i .i64 (0 : Int)), (.i .i64 (0 : Int)), (.sl 0 [] none), (.sl 1 [] none)]), (.i .i64 (1 : Int))]), [(.live true false false 2 []), (.live true false false 4 [])]))
 (bSh .b (den E 73 [(.i .i64 x1), (.i .i64 ((x0_2.length : Nat) : Int))] []) fun a2 =>
 cond ((!a2.toB) == false)
 (bSh (.i .i64) (den E 93 [(.agg [(.i .i64 x0_0), (.i .i64 x0_1), (.imm 1 x0_2), (.imm 1 x0_3)])] []) fun a3 =>
 bSh .b (den E 70 [(.i .i64 x2), (.i .i64 (0 : Int)), (.i .i64 (IntKind.i64.wrap (a3.toI - (1 : Int))))] []) fun a4 =>
 cond (!a4.toB)
 (some ((.tup [(.agg [(.i .i64 (0 : Int)), (.i .i64 (0 : Int)), (.sl 0 [] none), (.sl 1 [] none)]), (.i .i64 (2 : Int))]), [(.live true false false 2 []), (.live true false false 4 [])]))
 (bSh (.i .i64) (den E 94 [(.imm 1 x0_2), (.i .i64 x2)] []) fun a5 =>
 cond ((decide ((0 : Int) ≤ a5.toI)) == true)
 (cond (!decide (a5.toI = x1))
 (some ((.tup [(.agg [(.i .i64 (0 : Int)), (.i .i64 (0 : Int)), (.sl 0 [] none), (.sl 1 [] none)]), (.i .i64 (5 : Int))]), [(.live true false false 2 []), (.live true false false 4 [])]))
 (f26o1_j1 x1 x2 x3 x0_0 x0_1 x0_2 x0_3 (0 : Int) (0 : Int)))
 (f26o1_j1 x1 x2 x3 x0_0 x0_1 x0_2 x0_3 (0 : Int) (0 : Int))))
 (some ((.tup [(.agg [(.i .i64 (0 : Int)), (.i .i64 (0 : Int)), (.sl 0 [] none), (.sl 1 [] none)]), (.i .i64 (2 : Int))]), [(.live true false false 2 []), (.live true false false 4 [])]))) := (dno_eq ..).trans (by kernel_rfl)
theorem f26o1_j1_eq (t1 : Int) (t2 : Int) (t3 : Bool) (r0_0 : Int) (r0_1 : Int) (r0_2 : List AV) (r0_3 : List AV) (r1_0 : Int) (r1_1 : Int) : f26o1_j1 t1 t2 t3 r0_0 r0_1 r0_2 r0_3 r1_0 r1_1 =
 bOwn (.agg [(.i .i64), (.i .i64), (.so 0), (.so 1)]) [(.row true 2), (.row true 4)] 0 (dno E 95 [(.agg [(.i .i64 r0_0), (.i .i64 r0_1), (.imm 1 r0_2), (.imm 1 r0_3)])] []) fun a1 =>
 if 0 ≤ t1 ∧ t1 < ((((a1.2.getD 0 .dead).row).length : Nat) : Int) then
 if 0 ≤ t1 ∧ t1 < ((((a1.2.getD 1 .dead).row).length : Nat) : Int) then
 some ((.tup [(.agg [(.i .i64 ((a1.1.nth 0).toI)), (.i .i64 ((a1.1.nth 1).toI)), (.sl 0 [] none), (.sl 1 [] none)]), (.i .i64 (0 : Int))]), [(.live true false false 2 (((a1.2.getD 0 .dead).row).set (0 + t1.toNat) ((((a1.2.getD 0 .dead).row).getD (0 + t1.toNat) .x).putCells 0 [(.i .i64 t2)]))), (.live true false false 4 (((a1.2.getD 1 .dead).row).set (0 + t1.toNat) ((((a1.2.getD 1 .dead).row).getD (0 + t1.toNat) .x).putCells 0 [(.b t3)])))])
 else none
 else none := by kernel_rfl
/-! 96: loop.example/g00905/laws.eqInt64S -/
noncomputable def f96_l1 (t0 : List AV) (t1 : List AV) (t5 : Int) : Option AV := Lp E fi96 [true, true, false, true, false] (mkT 26 [(0, (.imm 1 t0)), (1, (.imm 1 t1)), (5, (.i .i64 t5))]) []
theorem f96_eq (x0 : List AV) (x1 : List AV) : den E 96 [(.imm 1 x0), (.imm 1 x1)] [] =
 cond (!decide (((x0.length : Nat) : Int) = ((x1.length : Nat) : Int)))
 (some (.b false))
 (f96_l1 x0 x1 (0 : Int)) := (den_eq ..).trans (by kernel_rfl)
theorem f96_l1_eq (t0 : List AV) (t1 : List AV) (t5 : Int) : f96_l1 t0 t1 t5 =
 cond (decide (t5 < ((t0.length : Nat) : Int)))
 (if 0 ≤ t5 ∧ t5 < ((t0.length : Nat) : Int) then
 if okCells false (t0.getD t5.toNat .x) 0 [(.i .i64)] = true then
 if 0 ≤ t5 ∧ t5 < ((t1.length : Nat) : Int) then
 if okCells false (t1.getD t5.toNat .x) 0 [(.i .i64)] = true then
 cond (!decide ((((t0.getD t5.toNat .x).cells.getD 0 .x).toI) = (((t1.getD t5.toNat .x).cells.getD 0 .x).toI)))
 (some (.b false))
 (f96_l1 t0 t1 (IntKind.i64.wrap (t5 + (1 : Int))))
 else none
 else none
 else none
 else none)
 (some (.b true)) := (Lp_eq ..).trans (by kernel_rfl)
/-! 97: loop.example/g00905/laws.eqBoolS -/
noncomputable def f97_l1 (t0 : List AV) (t1 : List AV) (t5 : Int) : Option AV := Lp E fi97 [true, true, false, true, false] (mkT 26 [(0, (.imm 1 t0)), (1, (.imm 1 t1)), (5, (.i .i64 t5))]) []
theorem f97_eq (x0 : List AV) (x1 : List AV) : den E 97 [(.imm 1 x0), (.imm 1 x1)] [] =
 cond (!decide (((x0.length : Nat) : Int) = ((x1.length : Nat) : Int)))
 (some (.b false))
 (f97_l1 x0 x1 (0 : Int)) := (den_eq ..).trans (by kernel_rfl)
theorem f97_l1_eq (t0 : List AV) (t1 : List AV) (t5 : Int) : f97_l1 t0 t1 t5 =
 cond (decide (t5 < ((t0.length : Nat) : Int)))
 (if 0 ≤ t5 ∧ t5 < ((t0.length : Nat) : Int) then
 if okCells false (t0.getD t5.toNat .x) 0 [.b] = true then
 if 0 ≤ t5 ∧ t5 < ((t1.length : Nat) : Int) then
 if okCells false (t1.getD t5.toNat .x) 0 [.b] = true then
 cond (!decide ((((t0.getD t5.toNat .x).cells.getD 0 .x).toB) = (((t1.getD t5.toNat .x).cells.getD 0 .x).toB)))
 (some (.b false))
 (f97_l1 t0 t1 (IntKind.i64.wrap (t5 + (1 : Int))))
 else none
 else none
 else none
 else none)
 (some (.b true)) := (Lp_eq ..).trans (by kernel_rfl)
/-! 27: loop.example/g00905/laws.eqPageMap -/
theorem f27_eq (x0_0 : Int) (x0_1 : Int) (x0_2 : List AV) (x0_3 : List AV) (x1_0 : Int) (x1_1 : Int) (x1_2 : List AV) (x1_3 : List AV) : den E 27 [(.agg [(.i .i64 x0_0), (.i .i64 x0_1), (.imm 1 x0_2), (.imm 1 x0_3)]), (.agg [(.i .i64 x1_0), (.i .i64 x1_1), (.imm 1 x1_2), (.imm 1 x1_3)])] [] =
 cond (!decide (x0_0 = x1_0))
 (some (.b false))
 (cond (!decide (x0_1 = x1_1))
 (some (.b false))
 (bSh .b (den E 96 [(.imm 1 x0_2), (.imm 1 x1_2)] []) fun a1 =>
 cond (!a1.toB)
 (some (.b false))
 (bSh .b (den E 97 [(.imm 1 x0_3), (.imm 1 x1_3)] []) fun a2 =>
 cond (!a2.toB)
 (some (.b false))
 (some (.b true))))) := (den_eq ..).trans (by kernel_rfl)
/-! 98: loop.example/g00905/laws.markInt64S -/
noncomputable def f98o1_l1 (t1 : Int) (t5 : Int) (r0 : List AV) : Option (AV × List Root) := LpO E fi98 [(2, [0, 1, 5], 1)] 1 (.i .i64) [true, false, true, false] (mkT 19 [(0, (.sl 0 [] none)), (1, (.i .i64 t1)), (5, (.i .i64 t5))]) [(.live true false false 2 r0)]
theorem f98o1_eq (x1 : Int) (s0 : List AV) : dno E 98 [(.sl 0 [] none), (.i .i64 x1)] [(.live true false false 2 s0)] =
 f98o1_l1 x1 (0 : Int) s0 := (dno_eq ..).trans (by kernel_rfl)
theorem f98o1_l1_eq (t1 : Int) (t5 : Int) (r0 : List AV) : f98o1_l1 t1 t5 r0 =
 cond (decide (t5 < ((r0.length : Nat) : Int)))
 (if 0 ≤ t5 ∧ t5 < ((r0.length : Nat) : Int) then
 f98o1_l1 (IntKind.i64.wrap (t1 + (1 : Int))) (IntKind.i64.wrap (t5 + (1 : Int))) (r0.set (0 + t5.toNat) ((r0.getD (0 + t5.toNat) .x).putCells 0 [(.i .i64 t1)]))
 else none)
 (some ((.i .i64 t1), [(.live true false false 2 r0)])) := (LpO_eq ..).trans (by kernel_rfl)
/-! 99: loop.example/g00905/laws.markBoolS -/
noncomputable def f99o1_l1 (t1 : Int) (t5 : Int) (r0 : List AV) : Option (AV × List Root) := LpO E fi99 [(2, [0, 1, 5], 1)] 1 (.i .i64) [true, false, true, false] (mkT 21 [(0, (.sl 0 [] none)), (1, (.i .i64 t1)), (5, (.i .i64 t5))]) [(.live true false false 4 r0)]
theorem f99o1_eq (x1 : Int) (s0 : List AV) : dno E 99 [(.sl 0 [] none), (.i .i64 x1)] [(.live true false false 4 s0)] =
 f99o1_l1 x1 (0 : Int) s0 := (dno_eq ..).trans (by kernel_rfl)
theorem f99o1_l1_eq (t1 : Int) (t5 : Int) (r0 : List AV) : f99o1_l1 t1 t5 r0 =
 cond (decide (t5 < ((r0.length : Nat) : Int)))
 (if 0 ≤ t5 ∧ t5 < ((r0.length : Nat) : Int) then
 f99o1_l1 (IntKind.i64.wrap (t1 + (1 : Int))) (IntKind.i64.wrap (t5 + (1 : Int))) (r0.set (0 + t5.toNat) ((r0.getD (0 + t5.toNat) .x).putCells 0 [(.b (decide ((t1.tmod (3 : Int)) = (0 : Int))))]))
 else none)
 (some ((.i .i64 t1), [(.live true false false 4 r0)])) := (LpO_eq ..).trans (by kernel_rfl)
/-! 28: loop.example/g00905/laws.markPageMap -/
theorem f28o1_eq (x0_0 : Int) (x0_1 : Int) (x1 : Int) (s0 : List AV) (s1 : List AV) : dno E 28 [(.agg [(.i .i64 x0_0), (.i .i64 x0_1), (.sl 0 [] none), (.sl 1 [] none)]), (.i .i64 x1)] [(.live true false false 2 s0), (.live true false false 4 s1)] =
 bOwnS (.i .i64) [(.same 2)] 1 [(.live true false false 2 s0)] (dno E 98 [(.sl 0 [] none), (.i .i64 x1)] [(.live true false false 2 s0)]) fun a1 =>
 bOwnS (.i .i64) [(.same 4)] 1 [(.live true false false 4 s1)] (dno E 99 [(.sl 0 [] none), (.i .i64 a1.1.toI)] [(.live true false false 4 s1)]) fun a2 =>
 some ((.i .i64 a2.1.toI), [(.live true false false 2 ((a1.2.getD 0 .dead).row)), (.live true false false 4 ((a2.2.getD 0 .dead).row))]) := (dno_eq ..).trans (by kernel_rfl)
/-! 100: loop.example/g00905/laws.heldInt64S -/
noncomputable def f100_l1 (t0 : List AV) (t1 : Int) (t5 : Int) : Option AV := Lp E fi100 [true, false, true, false] (mkT 21 [(0, (.imm 1 t0)), (1, (.i .i64 t1)), (5, (.i .i64 t5))]) []
theorem f100_eq (x0 : List AV) (x1 : Int) : den E 100 [(.imm 1 x0), (.i .i64 x1)] [] =
 f100_l1 x0 x1 (0 : Int) := (den_eq ..).trans (by kernel_rfl)
theorem f100_l1_eq (t0 : List AV) (t1 : Int) (t5 : Int) : f100_l1 t0 t1 t5 =
 cond (decide (t5 < ((t0.length : Nat) : Int)))
 (if 0 ≤ t5 ∧ t5 < ((t0.length : Nat) : Int) then
 if okCells false (t0.getD t5.toNat .x) 0 [(.i .i64)] = true then
 cond (!decide ((((t0.getD t5.toNat .x).cells.getD 0 .x).toI) = t1))
 (some (.i .i64 (-1 : Int)))
 (f100_l1 t0 (IntKind.i64.wrap (t1 + (1 : Int))) (IntKind.i64.wrap (t5 + (1 : Int))))
 else none
 else none)
 (some (.i .i64 t1)) := (Lp_eq ..).trans (by kernel_rfl)
/-! 101: loop.example/g00905/laws.heldBoolS -/
noncomputable def f101_l1 (t0 : List AV) (t1 : Int) (t5 : Int) : Option AV := Lp E fi101 [true, false, true, false] (mkT 23 [(0, (.imm 1 t0)), (1, (.i .i64 t1)), (5, (.i .i64 t5))]) []
theorem f101_eq (x0 : List AV) (x1 : Int) : den E 101 [(.imm 1 x0), (.i .i64 x1)] [] =
 f101_l1 x0 x1 (0 : Int) := (den_eq ..).trans (by kernel_rfl)
theorem f101_l1_eq (t0 : List AV) (t1 : Int) (t5 : Int) : f101_l1 t0 t1 t5 =
 cond (decide (t5 < ((t0.length : Nat) : Int)))
 (if 0 ≤ t5 ∧ t5 < ((t0.length : Nat) : Int) then
 if okCells false (t0.getD t5.toNat .x) 0 [.b] = true then
 cond (!decide ((((t0.getD t5.toNat .x).cells.getD 0 .x).toB) = (decide ((t1.tmod (3 : Int)) = (0 : Int)))))
 (some (.i .i64 (-1 : Int)))
 (f101_l1 t0 (IntKind.i64.wrap (t1 + (1 : Int))) (IntKind.i64.wrap (t5 + (1 : Int))))
 else none
 else none)
 (some (.i .i64 t1)) := (Lp_eq ..).trans (by kernel_rfl)
/-! 29: loop.example/g00905/laws.heldPageMap -/
theorem f29_eq (x0_0 : Int) (x0_1 : Int) (x0_2 : List AV) (x0_3 : List AV) (x1 : Int) : den E 29 [(.agg [(.i .i64 x0_0), (.i .i64 x0_1), (.imm 1 x0_2), (.imm 1 x0_3)]), (.i .i64 x1)] [] =
 bSh (.i .i64) (den E 100 [(.imm 1 x0_2), (.i .i64 x1)] []) fun a1 =>
 cond (decide (a1.toI < (0 : Int)))
 (some (.i .i64 (-1 : Int)))
 (bSh (.i .i64) (den E 101 [(.imm 1 x0_3), (.i .i64 a1.toI)] []) fun a2 =>
 cond (decide (a2.toI < (0 : Int)))
 (some (.i .i64 (-1 : Int)))
 (some (.i .i64 a2.toI))) := (den_eq ..).trans (by kernel_rfl)
/-! 5: loop.example/g00905/laws.FnExactSetPage -/
theorem f5_eq (x0_0 : Int) (x0_1 : Int) (x0_2 : List AV) (x0_3 : List AV) (x1 : Int) (x2 : Int) (x3 : Bool) : den E 5 [(.agg [(.i .i64 x0_0), (.i .i64 x0_1), (.imm 1 x0_2), (.imm 1 x0_3)]), (.i .i64 x1), (.i .i64 x2), (.b x3)] [] =
 bSh (.i .i64) (den E 23 [(.agg [(.i .i64 x0_0), (.i .i64 x0_1), (.imm 1 x0_2), (.imm 1 x0_3)]), (.i .i64 (1048576 : Int))] []) fun a1 =>
 cond (decide (a1.toI < (0 : Int)))
 (some (.b true))
 (bOwn (.agg [(.i .i64), (.i .i64), (.so 0), (.so 1)]) [(.row true 2), (.row true 4)] 0 (dno E 25 [(.agg [(.i .i64 x0_0), (.i .i64 x0_1), (.imm 1 x0_2), (.imm 1 x0_3)])] []) fun a2 =>
 bOwnF (.tup [(.agg [(.i .i64), (.i .i64), (.so 0), (.so 1)]), (.i .i64)]) [(.row true 2), (.row true 4)] 0 (dno E 24 [(.agg [(.i .i64 ((a2.1.nth 0).toI)), (.i .i64 ((a2.1.nth 1).toI)), (.imm 1 ((a2.2.getD 0 .dead).row)), (.imm 1 ((a2.2.getD 1 .dead).row))]), (.i .i64 x1), (.i .i64 x2), (.b x3)] []) fun a3 =>
 bOwn (.agg [(.i .i64), (.i .i64), (.so 0), (.so 1)]) [(.row true 2), (.row true 4)] 0 (dno E 25 [(.agg [(.i .i64 x0_0), (.i .i64 x0_1), (.imm 1 x0_2), (.imm 1 x0_3)])] []) fun a4 =>
 bOwnF (.tup [(.agg [(.i .i64), (.i .i64), (.so 0), (.so 1)]), (.i .i64)]) [(.row true 2), (.row true 4)] 0 (dno E 26 [(.agg [(.i .i64 ((a4.1.nth 0).toI)), (.i .i64 ((a4.1.nth 1).toI)), (.imm 1 ((a4.2.getD 0 .dead).row)), (.imm 1 ((a4.2.getD 1 .dead).row))]), (.i .i64 x1), (.i .i64 x2), (.b x3)] []) fun a5 =>
 bSh .b (den E 27 [(.agg [(.i .i64 (((a5.1.nth 0).nth 0).toI)), (.i .i64 (((a5.1.nth 0).nth 1).toI)), (.imm 1 ((a5.2.getD 0 .dead).row)), (.imm 1 ((a5.2.getD 1 .dead).row))]), (.agg [(.i .i64 (((a3.1.nth 0).nth 0).toI)), (.i .i64 (((a3.1.nth 0).nth 1).toI)), (.imm 1 ((a3.2.getD 0 .dead).row)), (.imm 1 ((a3.2.getD 1 .dead).row))])] []) fun a6 =>
 cond ((!a6.toB) == false)
 (cond (!decide (((a5.1.nth 1).toI) = ((a3.1.nth 1).toI)))
 (some (.b false))
 (bOwn (.agg [(.i .i64), (.i .i64), (.so 0), (.so 1)]) [(.row true 2), (.row true 4)] 0 (dno E 25 [(.agg [(.i .i64 x0_0), (.i .i64 x0_1), (.imm 1 x0_2), (.imm 1 x0_3)])] []) fun a7 =>
 bSh .b (den E 27 [(.agg [(.i .i64 ((a4.1.nth 0).toI)), (.i .i64 ((a4.1.nth 1).toI)), (.imm 1 ((a4.2.getD 0 .dead).row)), (.imm 1 ((a4.2.getD 1 .dead).row))]), (.agg [(.i .i64 ((a7.1.nth 0).toI)), (.i .i64 ((a7.1.nth 1).toI)), (.imm 1 ((a7.2.getD 0 .dead).row)), (.imm 1 ((a7.2.getD 1 .dead).row))])] []) fun a8 =>
 cond (!a8.toB)
 (some (.b false))
 (bOwnS (.i .i64) [(.same 2), (.same 4)] 2 [(.live true false false 2 ((a4.2.getD 0 .dead).row)), (.live true false false 4 ((a4.2.getD 1 .dead).row))] (dno E 28 [(.agg [(.i .i64 ((a4.1.nth 0).toI)), (.i .i64 ((a4.1.nth 1).toI)), (.sl 0 [] none), (.sl 1 [] none)]), (.i .i64 (1 : Int))] [(.live true false false 2 ((a4.2.getD 0 .dead).row)), (.live true false false 4 ((a4.2.getD 1 .dead).row))]) fun a9 =>
 cond ((decide (a9.1.toI < (0 : Int))) == false)
 (bSh .b (den E 27 [(.agg [(.i .i64 (((a5.1.nth 0).nth 0).toI)), (.i .i64 (((a5.1.nth 0).nth 1).toI)), (.imm 1 ((a5.2.getD 0 .dead).row)), (.imm 1 ((a5.2.getD 1 .dead).row))]), (.agg [(.i .i64 (((a3.1.nth 0).nth 0).toI)), (.i .i64 (((a3.1.nth 0).nth 1).toI)), (.imm 1 ((a3.2.getD 0 .dead).row)), (.imm 1 ((a3.2.getD 1 .dead).row))])] []) fun a10 =>
 cond ((!a10.toB) == false)
 (cond (!decide (((a5.1.nth 1).toI) = ((a3.1.nth 1).toI)))
 (some (.b false))
 (bOwnS (.i .i64) [(.same 2), (.same 4)] 2 [(.live true false false 2 ((a5.2.getD 0 .dead).row)), (.live true false false 4 ((a5.2.getD 1 .dead).row))] (dno E 28 [(.agg [(.i .i64 (((a5.1.nth 0).nth 0).toI)), (.i .i64 (((a5.1.nth 0).nth 1).toI)), (.sl 0 [] none), (.sl 1 [] none)]), (.i .i64 (1 : Int))] [(.live true false false 2 ((a5.2.getD 0 .dead).row)), (.live true false false 4 ((a5.2.getD 1 .dead).row))]) fun a11 =>
 bSh (.i .i64) (den E 29 [(.agg [(.i .i64 (((a5.1.nth 0).nth 0).toI)), (.i .i64 (((a5.1.nth 0).nth 1).toI)), (.imm 1 ((a11.2.getD 0 .dead).row)), (.imm 1 ((a11.2.getD 1 .dead).row))]), (.i .i64 (1 : Int))] []) fun a12 =>
 cond (decide (a12.toI < (0 : Int)))
 (some (.b false))
 (cond (!decide (a12.toI = a11.1.toI))
 (some (.b false))
 (bOwn (.agg [(.i .i64), (.i .i64), (.so 0), (.so 1)]) [(.row true 2), (.row true 4)] 0 (dno E 25 [(.agg [(.i .i64 x0_0), (.i .i64 x0_1), (.imm 1 x0_2), (.imm 1 x0_3)])] []) fun a13 =>
 bOwnF (.tup [(.agg [(.i .i64), (.i .i64), (.so 0), (.so 1)]), (.i .i64)]) [(.row true 2), (.row true 4)] 0 (dno E 26 [(.agg [(.i .i64 ((a13.1.nth 0).toI)), (.i .i64 ((a13.1.nth 1).toI)), (.imm 1 ((a13.2.getD 0 .dead).row)), (.imm 1 ((a13.2.getD 1 .dead).row))]), (.i .i64 x1), (.i .i64 x2), (.b x3)] []) fun a14 =>
 bSh .b (den E 27 [(.agg [(.i .i64 (((a14.1.nth 0).nth 0).toI)), (.i .i64 (((a14.1.nth 0).nth 1).toI)), (.imm 1 ((a14.2.getD 0 .dead).row)), (.imm 1 ((a14.2.getD 1 .dead).row))]), (.agg [(.i .i64 (((a3.1.nth 0).nth 0).toI)), (.i .i64 (((a3.1.nth 0).nth 1).toI)), (.imm 1 ((a3.2.getD 0 .dead).row)), (.imm 1 ((a3.2.getD 1 .dead).row))])] []) fun a15 =>
 cond ((!a15.toB) == false)
 (cond (!decide (((a14.1.nth 1).toI) = ((a3.1.nth 1).toI)))
 (some (.b false))
 (bSh (.i .i64) (den E 29 [(.agg [(.i .i64 (((a5.1.nth 0).nth 0).toI)), (.i .i64 (((a5.1.nth 0).nth 1).toI)), (.imm 1 ((a11.2.getD 0 .dead).row)), (.imm 1 ((a11.2.getD 1 .dead).row))]), (.i .i64 (1 : Int))] []) fun a16 =>
 cond (decide (a16.toI < (0 : Int)))
 (some (.b false))
 (cond (!decide (a16.toI = a11.1.toI))
 (some (.b false))
 (some (.b true)))))
 (some (.b false))))))
 (some (.b false)))
 (some (.b false)))))
 (some (.b false))) := (den_eq ..).trans (by kernel_rfl)
end Go.Proofs.Ytcjfeglalmlkbaa.ISetPage
