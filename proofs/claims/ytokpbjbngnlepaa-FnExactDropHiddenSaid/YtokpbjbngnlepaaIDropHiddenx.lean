/- Printed by a program of this work (wip/it/itp.py): what each function comes to. No condition. -/
import Derived.Test.YtokpbjbngnlepaaIDropHiddent
namespace Go.Proofs.Ytokpbjbngnlepaa.IDropHidden
open Go Go.Proofs.YtokpbjbngnlepaaIT
set_option linter.unusedVariables false
/-! 32: loop.example/g00905/laws.szRecord -/
theorem f32_eq (x0_0 : ByteArray) (x0_1 : Int) (x0_2 : Int) (x0_3 : ByteArray) (x0_4 : ByteArray) (x1 : Int) : den E 32 [(.agg [(.s x0_0), (.i .i64 x0_1), (.i .i64 x0_2), (.s x0_3), (.s x0_4)]), (.i .i64 x1)] [] =
 cond (decide ((IntKind.i64.wrap (x1 - ((x0_0.size : Nat) : Int))) < (0 : Int)))
 (some (.i .i64 (-1 : Int)))
 (cond (decide ((IntKind.i64.wrap ((IntKind.i64.wrap (x1 - ((x0_0.size : Nat) : Int))) - ((x0_3.size : Nat) : Int))) < (0 : Int)))
 (some (.i .i64 (-1 : Int)))
 (cond (decide ((IntKind.i64.wrap ((IntKind.i64.wrap ((IntKind.i64.wrap (x1 - ((x0_0.size : Nat) : Int))) - ((x0_3.size : Nat) : Int))) - ((x0_4.size : Nat) : Int))) < (0 : Int)))
 (some (.i .i64 (-1 : Int)))
 (some (.i .i64 (IntKind.i64.wrap ((IntKind.i64.wrap ((IntKind.i64.wrap (x1 - ((x0_0.size : Nat) : Int))) - ((x0_3.size : Nat) : Int))) - ((x0_4.size : Nat) : Int))))))) := (den_eq ..).trans (by kernel_rfl)
/-! 15: loop.example/g00905/laws.szRecordS -/
noncomputable def f15_l1 (t0 : List AV) (t1 : Int) (t5 : Int) : Option AV := Lp E fi15 [true, true, true, false, true, false] (mkT 27 [(0, (.imm 5 t0)), (1, (.i .i64 t1)), (5, (.i .i64 t5))]) []
theorem f15_eq (x0 : List AV) (x1 : Int) : den E 15 [(.imm 5 x0), (.i .i64 x1)] [] =
 cond (decide ((IntKind.i64.wrap (x1 - ((x0.length : Nat) : Int))) < (0 : Int)))
 (some (.i .i64 (-1 : Int)))
 (f15_l1 x0 (IntKind.i64.wrap (x1 - ((x0.length : Nat) : Int))) (0 : Int)) := (den_eq ..).trans (by kernel_rfl)
theorem f15_l1_eq (t0 : List AV) (t1 : Int) (t5 : Int) : f15_l1 t0 t1 t5 =
 cond (decide (t5 < ((t0.length : Nat) : Int)))
 (if 0 ≤ t5 ∧ t5 < ((t0.length : Nat) : Int) then
 if okCells false (t0.getD t5.toNat .x) 0 [.s, (.i .i64), (.i .i64), .s, .s] = true then
 bSh (.i .i64) (den E 32 [(.agg [(.s (((t0.getD t5.toNat .x).cells.getD 0 .x).toS)), (.i .i64 (((t0.getD t5.toNat .x).cells.getD 1 .x).toI)), (.i .i64 (((t0.getD t5.toNat .x).cells.getD 2 .x).toI)), (.s (((t0.getD t5.toNat .x).cells.getD 3 .x).toS)), (.s (((t0.getD t5.toNat .x).cells.getD 4 .x).toS))]), (.i .i64 t1)] []) fun a1 =>
 cond (decide (a1.toI < (0 : Int)))
 (some (.i .i64 (-1 : Int)))
 (f15_l1 t0 a1.toI (IntKind.i64.wrap (t5 + (1 : Int))))
 else none
 else none)
 (some (.i .i64 t1)) := (Lp_eq ..).trans (by kernel_rfl)
/-! 34: loop.example/g00905/laws.toRecord -/
theorem f34_eq (x0_0 : ByteArray) (x0_1 : Int) (x0_2 : Int) (x0_3 : ByteArray) (x0_4 : ByteArray) : den E 34 [(.agg [(.s x0_0), (.i .i64 x0_1), (.i .i64 x0_2), (.s x0_3), (.s x0_4)])] [] =
 some (.agg [(.s x0_0), (.i .i64 x0_1), (.i .i64 x0_2), (.s x0_3), (.s x0_4)]) := (den_eq ..).trans (by kernel_rfl)
/-! 17: loop.example/g00905/laws.toRecordS -/
noncomputable def f17o1_l1 (t0 : List AV) (t4 : Int) (r0 : List AV) (r1 : List AV) : Option (AV × List Root) := LpO E fi17 [(3, [0, 3, 4], 2)] 0 (.so 0) [true, true, false, true, false] (mkT 23 [(0, (.imm 5 t0)), (3, (.sl 1 [] none)), (4, (.i .i64 t4))]) [(.live true false false 66 r0), (.live true false false 66 r1)]
theorem f17o1_eq (x0 : List AV) : dno E 17 [(.imm 5 x0)] [] =
 if 0 ≤ ((x0.length : Nat) : Int) ∧ ((x0.length : Nat) : Int) ≤ ((x0.length : Nat) : Int) ∧ ((x0.length : Nat) : Int) * ((64 : Nat) : Int) ≤ ((room : Nat) : Int) ∧ ((x0.length : Nat) : Int) ≤ 9223372036854775807 then
 f17o1_l1 x0 (0 : Int) [] (List.replicate ((x0.length : Nat) : Int).toNat (.agg [(.s .empty), (.i .i64 (0 : Int)), (.i .i64 (0 : Int)), (.s .empty), (.s .empty)]))
 else none := (dno_eq ..).trans (by kernel_rfl)
theorem f17o1_l1_eq (t0 : List AV) (t4 : Int) (r0 : List AV) (r1 : List AV) : f17o1_l1 t0 t4 r0 r1 =
 cond (decide (t4 < ((t0.length : Nat) : Int)))
 (if 0 ≤ t4 ∧ t4 < ((t0.length : Nat) : Int) then
 if okCells false (t0.getD t4.toNat .x) 0 [.s, (.i .i64), (.i .i64), .s, .s] = true then
 bSh (.agg [.s, (.i .i64), (.i .i64), .s, .s]) (den E 34 [(.agg [(.s (((t0.getD t4.toNat .x).cells.getD 0 .x).toS)), (.i .i64 (((t0.getD t4.toNat .x).cells.getD 1 .x).toI)), (.i .i64 (((t0.getD t4.toNat .x).cells.getD 2 .x).toI)), (.s (((t0.getD t4.toNat .x).cells.getD 3 .x).toS)), (.s (((t0.getD t4.toNat .x).cells.getD 4 .x).toS))])] []) fun a1 =>
 if 0 ≤ t4 ∧ t4 < ((r1.length : Nat) : Int) then
 f17o1_l1 t0 (IntKind.i64.wrap (t4 + (1 : Int))) r0 (r1.set (0 + t4.toNat) ((r1.getD (0 + t4.toNat) .x).putCells 0 [(.s ((a1.nth 0).toS)), (.i .i64 ((a1.nth 1).toI)), (.i .i64 ((a1.nth 2).toI)), (.s ((a1.nth 3).toS)), (.s ((a1.nth 4).toS))]))
 else none
 else none
 else none)
 (some ((.sl 0 [] none), [(.live true false false 66 r1)])) := (LpO_eq ..).trans (by kernel_rfl)
/-! 27: loop.example/g00905/laws.toInt64S -/
noncomputable def f27o1_l1 (t0 : List AV) (t4 : Int) (r0 : List AV) (r1 : List AV) : Option (AV × List Root) := LpO E fi27 [(3, [0, 3, 4], 2)] 0 (.so 0) [true, true, false, true, false] (mkT 22 [(0, (.imm 1 t0)), (3, (.sl 1 [] none)), (4, (.i .i64 t4))]) [(.live true false false 2 r0), (.live true false false 2 r1)]
theorem f27o1_eq (x0 : List AV) : dno E 27 [(.imm 1 x0)] [] =
 if 0 ≤ ((x0.length : Nat) : Int) ∧ ((x0.length : Nat) : Int) ≤ ((x0.length : Nat) : Int) ∧ ((x0.length : Nat) : Int) * ((8 : Nat) : Int) ≤ ((room : Nat) : Int) ∧ ((x0.length : Nat) : Int) ≤ 9223372036854775807 then
 f27o1_l1 x0 (0 : Int) [] (List.replicate ((x0.length : Nat) : Int).toNat (.i .i64 (0 : Int)))
 else none := (dno_eq ..).trans (by kernel_rfl)
theorem f27o1_l1_eq (t0 : List AV) (t4 : Int) (r0 : List AV) (r1 : List AV) : f27o1_l1 t0 t4 r0 r1 =
 cond (decide (t4 < ((t0.length : Nat) : Int)))
 (if 0 ≤ t4 ∧ t4 < ((t0.length : Nat) : Int) then
 if okCells false (t0.getD t4.toNat .x) 0 [(.i .i64)] = true then
 if 0 ≤ t4 ∧ t4 < ((r1.length : Nat) : Int) then
 f27o1_l1 t0 (IntKind.i64.wrap (t4 + (1 : Int))) r0 (r1.set (0 + t4.toNat) ((r1.getD (0 + t4.toNat) .x).putCells 0 [(.i .i64 (((t0.getD t4.toNat .x).cells.getD 0 .x).toI))]))
 else none
 else none
 else none)
 (some ((.sl 0 [] none), [(.live true false false 2 r1)])) := (LpO_eq ..).trans (by kernel_rfl)
/-! 110: loop.example/g00905/spec.l17Key -/
theorem f110_eq (x0 : ByteArray) : den E 110 [(.s x0)] [] =
 cond ((decide ((1 : Int) ≤ ((x0.size : Nat) : Int))) == true)
 (some (.b (decide (((x0.size : Nat) : Int) ≤ (8 : Int)))))
 (some (.b false)) := (den_eq ..).trans (by kernel_rfl)
/-! 97: loop.example/g00905/spec.l00In -/
theorem f97_eq (x0 : Int) (x1 : Int) (x2 : Int) : den E 97 [(.i .i64 x0), (.i .i64 x1), (.i .i64 x2)] [] =
 cond ((decide (x1 ≤ x0)) == true)
 (some (.b (decide (x0 ≤ x2))))
 (some (.b false)) := (den_eq ..).trans (by kernel_rfl)
/-! 73: loop.example/g00905/spec.l17Valid -/
theorem f73_eq (x0_0 : ByteArray) (x0_1 : Int) (x0_2 : Int) (x0_3 : ByteArray) (x0_4 : ByteArray) : den E 73 [(.agg [(.s x0_0), (.i .i64 x0_1), (.i .i64 x0_2), (.s x0_3), (.s x0_4)])] [] =
 bSh .b (den E 110 [(.s x0_0)] []) fun a1 =>
 cond ((!a1.toB) == false)
 (bSh .b (den E 97 [(.i .i64 x0_1), (.i .i64 (1 : Int)), (.i .i64 (1000000 : Int))] []) fun a2 =>
 cond (!a2.toB)
 (some (.b false))
 (cond (decide (x0_2 = (1 : Int)))
 (cond ((decide (((x0_3.size : Nat) : Int) ≤ (16 : Int))) == true)
 (some (.b (decide (x0_4 = ({ data := #[] } : ByteArray)))))
 (some (.b false)))
 (cond (decide (x0_2 = (2 : Int)))
 (cond ((decide (x0_3 = ({ data := #[] } : ByteArray))) == true)
 (some (.b (decide (x0_4 = ({ data := #[] } : ByteArray)))))
 (some (.b false)))
 (cond (decide (x0_2 = (3 : Int)))
 (cond ((decide (x0_3 = ({ data := #[] } : ByteArray))) == true)
 (bSh .b (den E 110 [(.s x0_4)] []) fun a3 =>
 cond (a3.toB == true)
 (some (.b (lessS x0_0 x0_4)))
 (some (.b false)))
 (some (.b false)))
 (some (.b false))))))
 (some (.b false)) := (den_eq ..).trans (by kernel_rfl)
/-! 109: loop.example/g00905/spec.l17Less -/
theorem f109_eq (x0_0 : ByteArray) (x0_1 : Int) (x0_2 : Int) (x0_3 : ByteArray) (x0_4 : ByteArray) (x1_0 : ByteArray) (x1_1 : Int) (x1_2 : Int) (x1_3 : ByteArray) (x1_4 : ByteArray) : den E 109 [(.agg [(.s x0_0), (.i .i64 x0_1), (.i .i64 x0_2), (.s x0_3), (.s x0_4)]), (.agg [(.s x1_0), (.i .i64 x1_1), (.i .i64 x1_2), (.s x1_3), (.s x1_4)])] [] =
 cond (!decide (x0_0 = x1_0))
 (some (.b (lessS x0_0 x1_0)))
 (cond (!decide (x0_1 = x1_1))
 (some (.b (decide (x1_1 < x0_1))))
 (cond (!decide (x0_2 = x1_2))
 (some (.b (decide (x0_2 < x1_2))))
 (cond (!decide (x0_3 = x1_3))
 (some (.b (lessS x0_3 x1_3)))
 (some (.b (lessS x0_4 x1_4)))))) := (den_eq ..).trans (by kernel_rfl)
/-! 59: loop.example/g00905/spec.l17Run -/
noncomputable def f59_l1 (t0 : List AV) (t3 : Int) : Option AV := Lp E fi59 [true, false, true, false] (mkT 50 [(0, (.imm 5 t0)), (3, (.i .i64 t3))]) []
noncomputable def f59_j2 (t0 : List AV) (t3 : Int) : Option AV := Jn E fi59 [true, false, true, false, false, true, false, false, true] (mkT 50 [(0, (.imm 5 t0)), (3, (.i .i64 t3))]) []
noncomputable def f59_l3 (t0 : List AV) (t3 : Int) (t4 : Int) : Option AV := Lp E fi59 [true, false, true, false, false, true, false, false, true, true, false] (mkT 50 [(0, (.imm 5 t0)), (3, (.i .i64 t3)), (4, (.i .i64 t4))]) []
theorem f59_eq (x0 : List AV) : den E 59 [(.imm 5 x0)] [] =
 f59_l1 x0 (0 : Int) := (den_eq ..).trans (by kernel_rfl)
theorem f59_l1_eq (t0 : List AV) (t3 : Int) : f59_l1 t0 t3 =
 cond (decide (t3 < ((t0.length : Nat) : Int)))
 (if 0 ≤ t3 ∧ t3 < ((t0.length : Nat) : Int) then
 if okCells false (t0.getD t3.toNat .x) 0 [.s, (.i .i64), (.i .i64), .s, .s] = true then
 bSh .b (den E 73 [(.agg [(.s (((t0.getD t3.toNat .x).cells.getD 0 .x).toS)), (.i .i64 (((t0.getD t3.toNat .x).cells.getD 1 .x).toI)), (.i .i64 (((t0.getD t3.toNat .x).cells.getD 2 .x).toI)), (.s (((t0.getD t3.toNat .x).cells.getD 3 .x).toS)), (.s (((t0.getD t3.toNat .x).cells.getD 4 .x).toS))])] []) fun a1 =>
 cond ((!a1.toB) == false)
 (cond ((decide ((0 : Int) < t3)) == true)
 (if 0 ≤ (IntKind.i64.wrap (t3 - (1 : Int))) ∧ (IntKind.i64.wrap (t3 - (1 : Int))) < ((t0.length : Nat) : Int) then
 if okCells false (t0.getD (IntKind.i64.wrap (t3 - (1 : Int))).toNat .x) 0 [.s, (.i .i64), (.i .i64), .s, .s] = true then
 if 0 ≤ t3 ∧ t3 < ((t0.length : Nat) : Int) then
 if okCells false (t0.getD t3.toNat .x) 0 [.s, (.i .i64), (.i .i64), .s, .s] = true then
 bSh .b (den E 109 [(.agg [(.s (((t0.getD (IntKind.i64.wrap (t3 - (1 : Int))).toNat .x).cells.getD 0 .x).toS)), (.i .i64 (((t0.getD (IntKind.i64.wrap (t3 - (1 : Int))).toNat .x).cells.getD 1 .x).toI)), (.i .i64 (((t0.getD (IntKind.i64.wrap (t3 - (1 : Int))).toNat .x).cells.getD 2 .x).toI)), (.s (((t0.getD (IntKind.i64.wrap (t3 - (1 : Int))).toNat .x).cells.getD 3 .x).toS)), (.s (((t0.getD (IntKind.i64.wrap (t3 - (1 : Int))).toNat .x).cells.getD 4 .x).toS))]), (.agg [(.s (((t0.getD t3.toNat .x).cells.getD 0 .x).toS)), (.i .i64 (((t0.getD t3.toNat .x).cells.getD 1 .x).toI)), (.i .i64 (((t0.getD t3.toNat .x).cells.getD 2 .x).toI)), (.s (((t0.getD t3.toNat .x).cells.getD 3 .x).toS)), (.s (((t0.getD t3.toNat .x).cells.getD 4 .x).toS))])] []) fun a2 =>
 cond (!a2.toB)
 (some (.b false))
 (f59_j2 t0 t3)
 else none
 else none
 else none
 else none)
 (f59_j2 t0 t3))
 (some (.b false))
 else none
 else none)
 (some (.b true)) := (Lp_eq ..).trans (by kernel_rfl)
theorem f59_j2_eq (t0 : List AV) (t3 : Int) : f59_j2 t0 t3 =
 f59_l3 t0 t3 (0 : Int) := by kernel_rfl
theorem f59_l3_eq (t0 : List AV) (t3 : Int) (t4 : Int) : f59_l3 t0 t3 t4 =
 cond (decide (t4 < t3))
 (if 0 ≤ t4 ∧ t4 < ((t0.length : Nat) : Int) then
 if okCells false (t0.getD t4.toNat .x) 1 [(.i .i64)] = true then
 if 0 ≤ t3 ∧ t3 < ((t0.length : Nat) : Int) then
 if okCells false (t0.getD t3.toNat .x) 1 [(.i .i64)] = true then
 cond (decide ((((t0.getD t4.toNat .x).cells.getD 1 .x).toI) = (((t0.getD t3.toNat .x).cells.getD 1 .x).toI)))
 (some (.b false))
 (f59_l3 t0 t3 (IntKind.i64.wrap (t4 + (1 : Int))))
 else none
 else none
 else none
 else none)
 (f59_l1 t0 (IntKind.i64.wrap (t3 + (1 : Int)))) := (Lp_eq ..).trans (by kernel_rfl)
/-! 68: loop.example/g00905/spec.l23Snapshots -/
noncomputable def f68_l1 (t0 : List AV) (t3 : Int) : Option AV := Lp E fi68 [true, false, true, false] (mkT 35 [(0, (.imm 1 t0)), (3, (.i .i64 t3))]) []
noncomputable def f68_j2 (t0 : List AV) (t3 : Int) : Option AV := Jn E fi68 [true, false, true, false, false, true, true] (mkT 35 [(0, (.imm 1 t0)), (3, (.i .i64 t3))]) []
theorem f68_eq (x0 : List AV) : den E 68 [(.imm 1 x0)] [] =
 f68_l1 x0 (0 : Int) := (den_eq ..).trans (by kernel_rfl)
theorem f68_l1_eq (t0 : List AV) (t3 : Int) : f68_l1 t0 t3 =
 cond (decide (t3 < ((t0.length : Nat) : Int)))
 (if 0 ≤ t3 ∧ t3 < ((t0.length : Nat) : Int) then
 if okCells false (t0.getD t3.toNat .x) 0 [(.i .i64)] = true then
 bSh .b (den E 97 [(.i .i64 (((t0.getD t3.toNat .x).cells.getD 0 .x).toI)), (.i .i64 (0 : Int)), (.i .i64 (1000000 : Int))] []) fun a1 =>
 cond ((!a1.toB) == false)
 (cond ((decide ((0 : Int) < t3)) == true)
 (if 0 ≤ (IntKind.i64.wrap (t3 - (1 : Int))) ∧ (IntKind.i64.wrap (t3 - (1 : Int))) < ((t0.length : Nat) : Int) then
 if okCells false (t0.getD (IntKind.i64.wrap (t3 - (1 : Int))).toNat .x) 0 [(.i .i64)] = true then
 if 0 ≤ t3 ∧ t3 < ((t0.length : Nat) : Int) then
 if okCells false (t0.getD t3.toNat .x) 0 [(.i .i64)] = true then
 cond (decide ((((t0.getD t3.toNat .x).cells.getD 0 .x).toI) ≤ (((t0.getD (IntKind.i64.wrap (t3 - (1 : Int))).toNat .x).cells.getD 0 .x).toI)))
 (some (.b false))
 (f68_j2 t0 t3)
 else none
 else none
 else none
 else none)
 (f68_j2 t0 t3))
 (some (.b false))
 else none
 else none)
 (some (.b (decide (((t0.length : Nat) : Int) ≤ (4 : Int))))) := (Lp_eq ..).trans (by kernel_rfl)
theorem f68_j2_eq (t0 : List AV) (t3 : Int) : f68_j2 t0 t3 =
 f68_l1 t0 (IntKind.i64.wrap (t3 + (1 : Int))) := by kernel_rfl
/-! 165: loop.example/g00905/spec.l17Affects -/
theorem f165_eq (x0_0 : ByteArray) (x0_1 : Int) (x0_2 : Int) (x0_3 : ByteArray) (x0_4 : ByteArray) (x1 : ByteArray) : den E 165 [(.agg [(.s x0_0), (.i .i64 x0_1), (.i .i64 x0_2), (.s x0_3), (.s x0_4)]), (.s x1)] [] =
 cond (decide (x0_2 = (3 : Int)))
 (cond ((lessS x0_0 x1 || decide (x0_0 = x1)) == true)
 (some (.b (lessS x1 x0_4)))
 (some (.b false)))
 (some (.b (decide (x0_0 = x1)))) := (den_eq ..).trans (by kernel_rfl)
/-! 117: loop.example/g00905/spec.l24Hidden -/
noncomputable def f117_l1 (t0 : List AV) (t2 : List AV) (t7 : Int) (t8 : Int) (r0_0 : ByteArray) (r0_1 : Int) (r0_2 : Int) (r0_3 : ByteArray) (r0_4 : ByteArray) : Option AV := Lp E fi117 [true, true, false, true, false] (mkT 74 [(0, (.imm 5 t0)), (2, (.imm 1 t2)), (4, (.pt 0 [] 0 0)), (7, (.i .i64 t7)), (8, (.i .i64 t8))]) [(.live false true false 66 [(.agg [(.s r0_0), (.i .i64 r0_1), (.i .i64 r0_2), (.s r0_3), (.s r0_4)])])]
noncomputable def f117_j2 (t0 : List AV) (t2 : List AV) (t8 : Int) (r0_0 : ByteArray) (r0_1 : Int) (r0_2 : Int) (r0_3 : ByteArray) (r0_4 : ByteArray) : Option AV := Jn E fi117 [true, true, false, true, false, false, true, false, false, true, false] (mkT 74 [(0, (.imm 5 t0)), (2, (.imm 1 t2)), (4, (.pt 0 [] 0 0)), (8, (.i .i64 t8))]) [(.live false true false 66 [(.agg [(.s r0_0), (.i .i64 r0_1), (.i .i64 r0_2), (.s r0_3), (.s r0_4)])])]
noncomputable def f117_j3 (t0 : List AV) (t2 : List AV) (t7 : Int) (t8 : Int) (r0_0 : ByteArray) (r0_1 : Int) (r0_2 : Int) (r0_3 : ByteArray) (r0_4 : ByteArray) : Option AV := Jn E fi117 [true, true, false, true, false, false, true, true] (mkT 74 [(0, (.imm 5 t0)), (2, (.imm 1 t2)), (4, (.pt 0 [] 0 0)), (7, (.i .i64 t7)), (8, (.i .i64 t8))]) [(.live false true false 66 [(.agg [(.s r0_0), (.i .i64 r0_1), (.i .i64 r0_2), (.s r0_3), (.s r0_4)])])]
noncomputable def f117_l4 (t2 : List AV) (t7 : Int) (t9 : Int) (r0_0 : ByteArray) (r0_1 : Int) (r0_2 : Int) (r0_3 : ByteArray) (r0_4 : ByteArray) : Option AV := Lp E fi117 [true, true, true, true, false, true, false] (mkT 74 [(2, (.imm 1 t2)), (4, (.pt 0 [] 0 0)), (7, (.i .i64 t7)), (9, (.i .i64 t9))]) [(.live false true false 66 [(.agg [(.s r0_0), (.i .i64 r0_1), (.i .i64 r0_2), (.s r0_3), (.s r0_4)])])]
noncomputable def f117_j5 (t2 : List AV) (t7 : Int) (t9 : Int) (r0_0 : ByteArray) (r0_1 : Int) (r0_2 : Int) (r0_3 : ByteArray) (r0_4 : ByteArray) : Option AV := Jn E fi117 [true, true, true, true, false, true, false, false, true, true] (mkT 74 [(2, (.imm 1 t2)), (4, (.pt 0 [] 0 0)), (7, (.i .i64 t7)), (9, (.i .i64 t9))]) [(.live false true false 66 [(.agg [(.s r0_0), (.i .i64 r0_1), (.i .i64 r0_2), (.s r0_3), (.s r0_4)])])]
theorem f117_eq (x0 : List AV) (x1_0 : ByteArray) (x1_1 : Int) (x1_2 : Int) (x1_3 : ByteArray) (x1_4 : ByteArray) (x2 : List AV) : den E 117 [(.imm 5 x0), (.agg [(.s x1_0), (.i .i64 x1_1), (.i .i64 x1_2), (.s x1_3), (.s x1_4)]), (.imm 1 x2)] [] =
 f117_l1 x0 x2 (0 : Int) (0 : Int) x1_0 x1_1 x1_2 x1_3 x1_4 := (den_eq ..).trans (by kernel_rfl)
theorem f117_l1_eq (t0 : List AV) (t2 : List AV) (t7 : Int) (t8 : Int) (r0_0 : ByteArray) (r0_1 : Int) (r0_2 : Int) (r0_3 : ByteArray) (r0_4 : ByteArray) : f117_l1 t0 t2 t7 t8 r0_0 r0_1 r0_2 r0_3 r0_4 =
 cond (decide (t8 < ((t0.length : Nat) : Int)))
 (if 0 ≤ t8 ∧ t8 < ((t0.length : Nat) : Int) then
 if okCells false (t0.getD t8.toNat .x) 0 [.s, (.i .i64), (.i .i64), .s, .s] = true then
 bSh .b (den E 165 [(.agg [(.s (((t0.getD t8.toNat .x).cells.getD 0 .x).toS)), (.i .i64 (((t0.getD t8.toNat .x).cells.getD 1 .x).toI)), (.i .i64 (((t0.getD t8.toNat .x).cells.getD 2 .x).toI)), (.s (((t0.getD t8.toNat .x).cells.getD 3 .x).toS)), (.s (((t0.getD t8.toNat .x).cells.getD 4 .x).toS))]), (.s r0_0)] []) fun a1 =>
 cond (a1.toB == true)
 (if 0 ≤ t8 ∧ t8 < ((t0.length : Nat) : Int) then
 if okCells false (t0.getD t8.toNat .x) 1 [(.i .i64)] = true then
 cond ((decide (r0_1 < (((t0.getD t8.toNat .x).cells.getD 1 .x).toI))) == true)
 (cond ((decide (t7 = (0 : Int))) == false)
 (if 0 ≤ t8 ∧ t8 < ((t0.length : Nat) : Int) then
 if okCells false (t0.getD t8.toNat .x) 1 [(.i .i64)] = true then
 cond (decide ((((t0.getD t8.toNat .x).cells.getD 1 .x).toI) < t7))
 (f117_j2 t0 t2 t8 r0_0 r0_1 r0_2 r0_3 r0_4)
 (f117_j3 t0 t2 t7 t8 r0_0 r0_1 r0_2 r0_3 r0_4)
 else none
 else none)
 (f117_j2 t0 t2 t8 r0_0 r0_1 r0_2 r0_3 r0_4))
 (f117_j3 t0 t2 t7 t8 r0_0 r0_1 r0_2 r0_3 r0_4)
 else none
 else none)
 (f117_j3 t0 t2 t7 t8 r0_0 r0_1 r0_2 r0_3 r0_4)
 else none
 else none)
 (cond (decide (t7 = (0 : Int)))
 (some (.b false))
 (f117_l4 t2 t7 (0 : Int) r0_0 r0_1 r0_2 r0_3 r0_4)) := (Lp_eq ..).trans (by kernel_rfl)
theorem f117_j2_eq (t0 : List AV) (t2 : List AV) (t8 : Int) (r0_0 : ByteArray) (r0_1 : Int) (r0_2 : Int) (r0_3 : ByteArray) (r0_4 : ByteArray) : f117_j2 t0 t2 t8 r0_0 r0_1 r0_2 r0_3 r0_4 =
 if 0 ≤ t8 ∧ t8 < ((t0.length : Nat) : Int) then
 if okCells false (t0.getD t8.toNat .x) 1 [(.i .i64)] = true then
 f117_j3 t0 t2 (((t0.getD t8.toNat .x).cells.getD 1 .x).toI) t8 r0_0 r0_1 r0_2 r0_3 r0_4
 else none
 else none := by kernel_rfl
theorem f117_j3_eq (t0 : List AV) (t2 : List AV) (t7 : Int) (t8 : Int) (r0_0 : ByteArray) (r0_1 : Int) (r0_2 : Int) (r0_3 : ByteArray) (r0_4 : ByteArray) : f117_j3 t0 t2 t7 t8 r0_0 r0_1 r0_2 r0_3 r0_4 =
 f117_l1 t0 t2 t7 (IntKind.i64.wrap (t8 + (1 : Int))) r0_0 r0_1 r0_2 r0_3 r0_4 := by kernel_rfl
theorem f117_l4_eq (t2 : List AV) (t7 : Int) (t9 : Int) (r0_0 : ByteArray) (r0_1 : Int) (r0_2 : Int) (r0_3 : ByteArray) (r0_4 : ByteArray) : f117_l4 t2 t7 t9 r0_0 r0_1 r0_2 r0_3 r0_4 =
 cond (decide (t9 < ((t2.length : Nat) : Int)))
 (if 0 ≤ t9 ∧ t9 < ((t2.length : Nat) : Int) then
 if okCells false (t2.getD t9.toNat .x) 0 [(.i .i64)] = true then
 cond ((decide (r0_1 ≤ (((t2.getD t9.toNat .x).cells.getD 0 .x).toI))) == true)
 (if 0 ≤ t9 ∧ t9 < ((t2.length : Nat) : Int) then
 if okCells false (t2.getD t9.toNat .x) 0 [(.i .i64)] = true then
 cond (decide ((((t2.getD t9.toNat .x).cells.getD 0 .x).toI) < t7))
 (some (.b false))
 (f117_j5 t2 t7 t9 r0_0 r0_1 r0_2 r0_3 r0_4)
 else none
 else none)
 (f117_j5 t2 t7 t9 r0_0 r0_1 r0_2 r0_3 r0_4)
 else none
 else none)
 (some (.b true)) := (Lp_eq ..).trans (by kernel_rfl)
theorem f117_j5_eq (t2 : List AV) (t7 : Int) (t9 : Int) (r0_0 : ByteArray) (r0_1 : Int) (r0_2 : Int) (r0_3 : ByteArray) (r0_4 : ByteArray) : f117_j5 t2 t7 t9 r0_0 r0_1 r0_2 r0_3 r0_4 =
 f117_l4 t2 t7 (IntKind.i64.wrap (t9 + (1 : Int))) r0_0 r0_1 r0_2 r0_3 r0_4 := by kernel_rfl
/-! 118: loop.example/g00905/spec.l24Needless -/
noncomputable def f118_l1 (t0 : List AV) (t5 : Int) (r0_0 : ByteArray) (r0_1 : Int) (r0_2 : Int) (r0_3 : ByteArray) (r0_4 : ByteArray) : Option AV := Lp E fi118 [true, false, true, false] (mkT 40 [(0, (.imm 5 t0)), (3, (.pt 0 [] 0 0)), (5, (.i .i64 t5))]) [(.live false true false 66 [(.agg [(.s r0_0), (.i .i64 r0_1), (.i .i64 r0_2), (.s r0_3), (.s r0_4)])])]
noncomputable def f118_j2 (t0 : List AV) (t5 : Int) (r0_0 : ByteArray) (r0_1 : Int) (r0_2 : Int) (r0_3 : ByteArray) (r0_4 : ByteArray) : Option AV := Jn E fi118 [true, false, true, false, false, true, true] (mkT 40 [(0, (.imm 5 t0)), (3, (.pt 0 [] 0 0)), (5, (.i .i64 t5))]) [(.live false true false 66 [(.agg [(.s r0_0), (.i .i64 r0_1), (.i .i64 r0_2), (.s r0_3), (.s r0_4)])])]
theorem f118_eq (x0 : List AV) (x1_0 : ByteArray) (x1_1 : Int) (x1_2 : Int) (x1_3 : ByteArray) (x1_4 : ByteArray) : den E 118 [(.imm 5 x0), (.agg [(.s x1_0), (.i .i64 x1_1), (.i .i64 x1_2), (.s x1_3), (.s x1_4)])] [] =
 f118_l1 x0 (0 : Int) x1_0 x1_1 x1_2 x1_3 x1_4 := (den_eq ..).trans (by kernel_rfl)
theorem f118_l1_eq (t0 : List AV) (t5 : Int) (r0_0 : ByteArray) (r0_1 : Int) (r0_2 : Int) (r0_3 : ByteArray) (r0_4 : ByteArray) : f118_l1 t0 t5 r0_0 r0_1 r0_2 r0_3 r0_4 =
 cond (decide (t5 < ((t0.length : Nat) : Int)))
 (if 0 ≤ t5 ∧ t5 < ((t0.length : Nat) : Int) then
 if okCells false (t0.getD t5.toNat .x) 2 [(.i .i64)] = true then
 cond ((decide ((((t0.getD t5.toNat .x).cells.getD 2 .x).toI) = (1 : Int))) == true)
 (if 0 ≤ t5 ∧ t5 < ((t0.length : Nat) : Int) then
 if okCells false (t0.getD t5.toNat .x) 1 [(.i .i64)] = true then
 cond ((decide ((((t0.getD t5.toNat .x).cells.getD 1 .x).toI) < r0_1)) == true)
 (if 0 ≤ t5 ∧ t5 < ((t0.length : Nat) : Int) then
 if okCells false (t0.getD t5.toNat .x) 0 [.s] = true then
 bSh .b (den E 165 [(.agg [(.s r0_0), (.i .i64 r0_1), (.i .i64 r0_2), (.s r0_3), (.s r0_4)]), (.s (((t0.getD t5.toNat .x).cells.getD 0 .x).toS))] []) fun a1 =>
 cond a1.toB
 (some (.b false))
 (f118_j2 t0 t5 r0_0 r0_1 r0_2 r0_3 r0_4)
 else none
 else none)
 (f118_j2 t0 t5 r0_0 r0_1 r0_2 r0_3 r0_4)
 else none
 else none)
 (f118_j2 t0 t5 r0_0 r0_1 r0_2 r0_3 r0_4)
 else none
 else none)
 (some (.b (!decide (r0_2 = (1 : Int))))) := (Lp_eq ..).trans (by kernel_rfl)
theorem f118_j2_eq (t0 : List AV) (t5 : Int) (r0_0 : ByteArray) (r0_1 : Int) (r0_2 : Int) (r0_3 : ByteArray) (r0_4 : ByteArray) : f118_j2 t0 t5 r0_0 r0_1 r0_2 r0_3 r0_4 =
 f118_l1 t0 (IntKind.i64.wrap (t5 + (1 : Int))) r0_0 r0_1 r0_2 r0_3 r0_4 := by kernel_rfl
/-! 69: loop.example/g00905/spec.l24Drop -/
noncomputable def f69o1_l1 (t0 : List AV) (t1 : List AV) (t2 : Bool) (t8 : Int) (r0 : List AV) (r1 : List AV) : Option (AV × List Root) := LpO E fi69 [(3, [0, 1, 2, 7, 8], 2), (4, [0, 1, 2, 7, 8], 2), (6, [0, 1, 2, 7, 8], 2), (11, [7, 9, 10], 3), (12, [7, 9, 10], 3)] 0 (.so 0) [true, true, false, true, false] (mkT 66 [(0, (.imm 5 t0)), (1, (.imm 1 t1)), (2, (.b t2)), (7, (.sl 1 [] none)), (8, (.i .i64 t8))]) [(.live true false false 66 r0), (.live true false false 66 r1)]
noncomputable def f69o1_j2 (t0 : List AV) (t1 : List AV) (t2 : Bool) (t8 : Int) (r0 : List AV) (r1 : List AV) : Option (AV × List Root) := JnO E fi69 [(3, [0, 1, 2, 7, 8], 2), (4, [0, 1, 2, 7, 8], 2), (6, [0, 1, 2, 7, 8], 2), (11, [7, 9, 10], 3), (12, [7, 9, 10], 3)] 0 (.so 0) [true, true, false, true, false, false, true, false, false, true, false] (mkT 66 [(0, (.imm 5 t0)), (1, (.imm 1 t1)), (2, (.b t2)), (7, (.sl 1 [] none)), (8, (.i .i64 t8))]) [(.live true false false 66 r0), (.live true false false 66 r1)]
noncomputable def f69o1_j3 (t0 : List AV) (t1 : List AV) (t2 : Bool) (t8 : Int) (r0 : List AV) (r1 : List AV) : Option (AV × List Root) := JnO E fi69 [(3, [0, 1, 2, 7, 8], 2), (4, [0, 1, 2, 7, 8], 2), (6, [0, 1, 2, 7, 8], 2), (11, [7, 9, 10], 3), (12, [7, 9, 10], 3)] 0 (.so 0) [true, true, false, true, false, false, true, true] (mkT 66 [(0, (.imm 5 t0)), (1, (.imm 1 t1)), (2, (.b t2)), (7, (.sl 1 [] none)), (8, (.i .i64 t8))]) [(.live true false false 66 r0), (.live true false false 66 r1)]
noncomputable def f69o1_l4 (t10 : Int) (r0 : List AV) (r1 : List AV) (r2 : List AV) : Option (AV × List Root) := LpO E fi69 [(3, [0, 1, 2, 7, 8], 2), (4, [0, 1, 2, 7, 8], 2), (6, [0, 1, 2, 7, 8], 2), (11, [7, 9, 10], 3), (12, [7, 9, 10], 3)] 0 (.so 0) [true, true, true, true, true, false, true, false] (mkT 66 [(7, (.sl 1 [] none)), (9, (.sl 2 [] none)), (10, (.i .i64 t10))]) [(.live true false false 66 r0), (.live true false false 66 r1), (.live true false false 66 r2)]
noncomputable def f69o1_j5 (t10 : Int) (r0 : List AV) (r1 : List AV) (r2 : List AV) : Option (AV × List Root) := JnO E fi69 [(3, [0, 1, 2, 7, 8], 2), (4, [0, 1, 2, 7, 8], 2), (6, [0, 1, 2, 7, 8], 2), (11, [7, 9, 10], 3), (12, [7, 9, 10], 3)] 0 (.so 0) [true, true, true, true, true, false, true, false, false, true, true] (mkT 66 [(7, (.sl 1 [] none)), (9, (.sl 2 [] none)), (10, (.i .i64 t10))]) [(.live true false false 66 r0), (.live true false false 66 r1), (.live true false false 66 r2)]
theorem f69o1_eq (x0 : List AV) (x1 : List AV) (x2 : Bool) : dno E 69 [(.imm 5 x0), (.imm 1 x1), (.b x2)] [] =
 f69o1_l1 x0 x1 x2 (0 : Int) [] [] := (dno_eq ..).trans (by kernel_rfl)
theorem f69o1_l1_eq (t0 : List AV) (t1 : List AV) (t2 : Bool) (t8 : Int) (r0 : List AV) (r1 : List AV) : f69o1_l1 t0 t1 t2 t8 r0 r1 =
 cond (decide (t8 < ((t0.length : Nat) : Int)))
 (if 0 ≤ t8 ∧ t8 < ((t0.length : Nat) : Int) then
 if okCells false (t0.getD t8.toNat .x) 2 [(.i .i64)] = true then
 cond ((decide ((((t0.getD t8.toNat .x).cells.getD 2 .x).toI) = (3 : Int))) == false)
 (if 0 ≤ t8 ∧ t8 < ((t0.length : Nat) : Int) then
 if okCells false (t0.getD t8.toNat .x) 0 [.s, (.i .i64), (.i .i64), .s, .s] = true then
 bSh .b (den E 117 [(.imm 5 t0), (.agg [(.s (((t0.getD t8.toNat .x).cells.getD 0 .x).toS)), (.i .i64 (((t0.getD t8.toNat .x).cells.getD 1 .x).toI)), (.i .i64 (((t0.getD t8.toNat .x).cells.getD 2 .x).toI)), (.s (((t0.getD t8.toNat .x).cells.getD 3 .x).toS)), (.s (((t0.getD t8.toNat .x).cells.getD 4 .x).toS))]), (.imm 1 t1)] []) fun a1 =>
 cond (!a1.toB)
 (f69o1_j2 t0 t1 t2 t8 r0 r1)
 (f69o1_j3 t0 t1 t2 t8 r0 r1)
 else none
 else none)
 (f69o1_j2 t0 t1 t2 t8 r0 r1)
 else none
 else none)
 (cond (!t2)
 (some ((.sl 0 [] none), [(.live true false false 66 r1)]))
 (f69o1_l4 (0 : Int) r0 r1 [])) := (LpO_eq ..).trans (by kernel_rfl)
theorem f69o1_j2_eq (t0 : List AV) (t1 : List AV) (t2 : Bool) (t8 : Int) (r0 : List AV) (r1 : List AV) : f69o1_j2 t0 t1 t2 t8 r0 r1 =
 if 0 ≤ t8 ∧ t8 < ((t0.length : Nat) : Int) then
 if okCells false (t0.getD t8.toNat .x) 0 [.s, (.i .i64), (.i .i64), .s, .s] = true then
 if (r1.length + ([(.agg [(.s (((t0.getD t8.toNat .x).cells.getD 0 .x).toS)), (.i .i64 (((t0.getD t8.toNat .x).cells.getD 1 .x).toI)), (.i .i64 (((t0.getD t8.toNat .x).cells.getD 2 .x).toI)), (.s (((t0.getD t8.toNat .x).cells.getD 3 .x).toS)), (.s (((t0.getD t8.toNat .x).cells.getD 4 .x).toS))])] : List AV).length) * 64 ≤ room then
 f69o1_j3 t0 t1 t2 t8 r0 (r1 ++ [(.agg [(.s (((t0.getD t8.toNat .x).cells.getD 0 .x).toS)), (.i .i64 (((t0.getD t8.toNat .x).cells.getD 1 .x).toI)), (.i .i64 (((t0.getD t8.toNat .x).cells.getD 2 .x).toI)), (.s (((t0.getD t8.toNat .x).cells.getD 3 .x).toS)), (.s (((t0.getD t8.toNat .x).cells.getD 4 .x).toS))])])
 else none
 else none
 else none := by kernel_rfl
theorem f69o1_j3_eq (t0 : List AV) (t1 : List AV) (t2 : Bool) (t8 : Int) (r0 : List AV) (r1 : List AV) : f69o1_j3 t0 t1 t2 t8 r0 r1 =
 f69o1_l1 t0 t1 t2 (IntKind.i64.wrap (t8 + (1 : Int))) r0 r1 := by kernel_rfl
theorem f69o1_l4_eq (t10 : Int) (r0 : List AV) (r1 : List AV) (r2 : List AV) : f69o1_l4 t10 r0 r1 r2 =
 cond (decide (t10 < ((r1.length : Nat) : Int)))
 (if 0 ≤ t10 ∧ t10 < ((r1.length : Nat) : Int) then
 if okCells false (r1.getD (0 + t10.toNat) .x) 0 [.s, (.i .i64), (.i .i64), .s, .s] = true then
 bSh .b (den E 118 [(.imm 5 r1), (.agg [(.s (((r1.getD (0 + t10.toNat) .x).cells.getD 0 .x).toS)), (.i .i64 (((r1.getD (0 + t10.toNat) .x).cells.getD 1 .x).toI)), (.i .i64 (((r1.getD (0 + t10.toNat) .x).cells.getD 2 .x).toI)), (.s (((r1.getD (0 + t10.toNat) .x).cells.getD 3 .x).toS)), (.s (((r1.getD (0 + t10.toNat) .x).cells.getD 4 .x).toS))])] []) fun a1 =>
 cond (!a1.toB)
 (if 0 ≤ t10 ∧ t10 < ((r1.length : Nat) : Int) then
 if okCells false (r1.getD (0 + t10.toNat) .x) 0 [.s, (.i .i64), (.i .i64), .s, .s] = true then
 if (r2.length + ([(.agg [(.s (((r1.getD (0 + t10.toNat) .x).cells.getD 0 .x).toS)), (.i .i64 (((r1.getD (0 + t10.toNat) .x).cells.getD 1 .x).toI)), (.i .i64 (((r1.getD (0 + t10.toNat) .x).cells.getD 2 .x).toI)), (.s (((r1.getD (0 + t10.toNat) .x).cells.getD 3 .x).toS)), (.s (((r1.getD (0 + t10.toNat) .x).cells.getD 4 .x).toS))])] : List AV).length) * 64 ≤ room then
 f69o1_j5 t10 r0 r1 (r2 ++ [(.agg [(.s (((r1.getD (0 + t10.toNat) .x).cells.getD 0 .x).toS)), (.i .i64 (((r1.getD (0 + t10.toNat) .x).cells.getD 1 .x).toI)), (.i .i64 (((r1.getD (0 + t10.toNat) .x).cells.getD 2 .x).toI)), (.s (((r1.getD (0 + t10.toNat) .x).cells.getD 3 .x).toS)), (.s (((r1.getD (0 + t10.toNat) .x).cells.getD 4 .x).toS))])])
 else none
 else none
 else none)
 (f69o1_j5 t10 r0 r1 r2)
 else none
 else none)
 (some ((.sl 0 [] none), [(.live true false false 66 r2)])) := (LpO_eq ..).trans (by kernel_rfl)
theorem f69o1_j5_eq (t10 : Int) (r0 : List AV) (r1 : List AV) (r2 : List AV) : f69o1_j5 t10 r0 r1 r2 =
 f69o1_l4 (IntKind.i64.wrap (t10 + (1 : Int))) r0 r1 r2 := by kernel_rfl
/-! 26: loop.example/g00905/spec.DropHidden -/
theorem f26o1_eq (x0 : List AV) (x1 : List AV) (x2 : Bool) : dno E 26 [(.imm 5 x0), (.imm 1 x1), (.b x2)] [] =
 bSh .b (den E 59 [(.imm 5 x0)] []) fun a1 =>
 cond ((!a1.toB) == false)
 (bSh .b (den E 68 [(.imm 1 x1)] []) fun a2 =>
 cond (!a2.toB)
 (some ((.sl 0 [] none), [(.live true false false 66 [])]))
 (bOwn (.so 0) [(.row true 66)] 0 (dno E 69 [(.imm 5 x0), (.imm 1 x1), (.b x2)] []) fun a3 =>
 some ((.sl 0 [] none), [(.live true false false 66 ((a3.2.getD 0 .dead).row))])))
 (some ((.sl 0 [] none), [(.live true false false 66 [])])) := (dno_eq ..).trans (by kernel_rfl)
/-! 102: loop.example/g00905/impl.within -/
theorem f102_eq (x0 : Int) (x1 : Int) (x2 : Int) : den E 102 [(.i .i64 x0), (.i .i64 x1), (.i .i64 x2)] [] =
 cond ((decide (x1 ≤ x0)) == true)
 (some (.b (decide (x0 ≤ x2))))
 (some (.b false)) := (den_eq ..).trans (by kernel_rfl)
/-! 113: loop.example/g00905/impl.ValidKey -/
theorem f113_eq (x0 : ByteArray) : den E 113 [(.s x0)] [] =
 bSh .b (den E 102 [(.i .i64 ((x0.size : Nat) : Int)), (.i .i64 (1 : Int)), (.i .i64 (8 : Int))] []) fun a1 =>
 some (.b a1.toB) := (den_eq ..).trans (by kernel_rfl)
/-! 76: loop.example/g00905/impl.ValidRecord -/
theorem f76_eq (x0_0 : ByteArray) (x0_1 : Int) (x0_2 : Int) (x0_3 : ByteArray) (x0_4 : ByteArray) : den E 76 [(.agg [(.s x0_0), (.i .i64 x0_1), (.i .i64 x0_2), (.s x0_3), (.s x0_4)])] [] =
 bSh .b (den E 113 [(.s x0_0)] []) fun a1 =>
 cond ((!a1.toB) == false)
 (bSh .b (den E 102 [(.i .i64 x0_1), (.i .i64 (1 : Int)), (.i .i64 (1000000 : Int))] []) fun a2 =>
 cond (!a2.toB)
 (some (.b false))
 (cond (decide (x0_2 = (1 : Int)))
 (cond ((decide (((x0_3.size : Nat) : Int) ≤ (16 : Int))) == true)
 (some (.b (decide (x0_4 = ({ data := #[] } : ByteArray)))))
 (some (.b false)))
 (cond (decide (x0_2 = (2 : Int)))
 (cond ((decide (x0_3 = ({ data := #[] } : ByteArray))) == true)
 (some (.b (decide (x0_4 = ({ data := #[] } : ByteArray)))))
 (some (.b false)))
 (cond (decide (x0_2 = (3 : Int)))
 (cond ((decide (x0_3 = ({ data := #[] } : ByteArray))) == true)
 (bSh .b (den E 113 [(.s x0_4)] []) fun a3 =>
 cond (a3.toB == true)
 (some (.b (!(lessS x0_4 x0_0 || decide (x0_4 = x0_0)))))
 (some (.b false)))
 (some (.b false)))
 (some (.b false))))))
 (some (.b false)) := (den_eq ..).trans (by kernel_rfl)
/-! 180: internal/bytealg.CompareString -/
theorem f180_eq (x0 x1 : ByteArray) : den E 180 [(.s x0), (.s x1)] [] = some (.i .i64 (cmpB x0 x1)) := (den_eq ..).trans (by kernel_rfl)
/-! 171: strings.Compare -/
theorem f171_eq (x0 : ByteArray) (x1 : ByteArray) : den E 171 [(.s x0), (.s x1)] [] =
 bSh (.i .i64) (den E 180 [(.s x0), (.s x1)] []) fun a1 =>
 some (.i .i64 a1.toI) := (den_eq ..).trans (by kernel_rfl)
/-! 181: cmp.isNaN[int64] -/
theorem f181_eq (x0 : Int) : den E 181 [(.i .i64 x0)] [] =
 some (.b (!decide (x0 = x0))) := (den_eq ..).trans (by kernel_rfl)
/-! 172: cmp.Compare[int64] -/
theorem f172_eq (x0 : Int) (x1 : Int) : den E 172 [(.i .i64 x0), (.i .i64 x1)] [] =
 bSh .b (den E 181 [(.i .i64 x0)] []) fun a1 =>
 bSh .b (den E 181 [(.i .i64 x1)] []) fun a2 =>
 cond a1.toB
 (cond a2.toB
 (some (.i .i64 (0 : Int)))
 (some (.i .i64 (-1 : Int))))
 (cond a2.toB
 (some (.i .i64 (1 : Int)))
 (cond (decide (x0 < x1))
 (some (.i .i64 (-1 : Int)))
 (cond (decide (x1 < x0))
 (some (.i .i64 (1 : Int)))
 (some (.i .i64 (0 : Int)))))) := (den_eq ..).trans (by kernel_rfl)
/-! 170: cmp.Or[int] -/
noncomputable def f170_l1 (t3 : Int) (t6 : List AV) (t7 : Int) (t8 : Int) : Option AV := Lp E fi170 [true, true, false, true, false] (mkT 18 [(3, (.i .i64 t3)), (6, (.imm 1 t6)), (7, (.i .i64 t7)), (8, (.i .i64 t8))]) []
theorem f170_eq (x0 : List AV) : den E 170 [(.imm 1 x0)] [] =
 f170_l1 (0 : Int) x0 ((x0.length : Nat) : Int) (0 : Int) := (den_eq ..).trans (by kernel_rfl)
theorem f170_l1_eq (t3 : Int) (t6 : List AV) (t7 : Int) (t8 : Int) : f170_l1 t3 t6 t7 t8 =
 cond (decide (t8 < t7))
 (if 0 ≤ t8 ∧ t8 < ((t6.length : Nat) : Int) then
 if okCells false (t6.getD t8.toNat .x) 0 [(.i .i64)] = true then
 cond (!decide ((((t6.getD t8.toNat .x).cells.getD 0 .x).toI) = t3))
 (some (.i .i64 (((t6.getD t8.toNat .x).cells.getD 0 .x).toI)))
 (f170_l1 t3 t6 t7 (IntKind.i64.wrap (t8 + (1 : Int))))
 else none
 else none)
 (some (.i .i64 t3)) := (Lp_eq ..).trans (by kernel_rfl)
/-! 132: loop.example/g00905/impl.compareRecords -/
theorem f132_eq (x0_0 : ByteArray) (x0_1 : Int) (x0_2 : Int) (x0_3 : ByteArray) (x0_4 : ByteArray) (x1_0 : ByteArray) (x1_1 : Int) (x1_2 : Int) (x1_3 : ByteArray) (x1_4 : ByteArray) : den E 132 [(.agg [(.s x0_0), (.i .i64 x0_1), (.i .i64 x0_2), (.s x0_3), (.s x0_4)]), (.agg [(.s x1_0), (.i .i64 x1_1), (.i .i64 x1_2), (.s x1_3), (.s x1_4)])] [] =
 bSh (.i .i64) (den E 171 [(.s x0_0), (.s x1_0)] []) fun a1 =>
 bSh (.i .i64) (den E 172 [(.i .i64 x1_1), (.i .i64 x0_1)] []) fun a2 =>
 bSh (.i .i64) (den E 172 [(.i .i64 x0_2), (.i .i64 x1_2)] []) fun a3 =>
 bSh (.i .i64) (den E 171 [(.s x0_3), (.s x1_3)] []) fun a4 =>
 bSh (.i .i64) (den E 171 [(.s x0_4), (.s x1_4)] []) fun a5 =>
 bSh (.i .i64) (den E 170 [(.imm 1 [(.i .i64 a1.toI), (.i .i64 a2.toI), (.i .i64 a3.toI), (.i .i64 a4.toI), (.i .i64 a5.toI)])] []) fun a6 =>
 some (.i .i64 a6.toI) := (den_eq ..).trans (by kernel_rfl)
/-! 112: loop.example/g00905/impl.LessRecord -/
theorem f112_eq (x0_0 : ByteArray) (x0_1 : Int) (x0_2 : Int) (x0_3 : ByteArray) (x0_4 : ByteArray) (x1_0 : ByteArray) (x1_1 : Int) (x1_2 : Int) (x1_3 : ByteArray) (x1_4 : ByteArray) : den E 112 [(.agg [(.s x0_0), (.i .i64 x0_1), (.i .i64 x0_2), (.s x0_3), (.s x0_4)]), (.agg [(.s x1_0), (.i .i64 x1_1), (.i .i64 x1_2), (.s x1_3), (.s x1_4)])] [] =
 bSh (.i .i64) (den E 132 [(.agg [(.s x0_0), (.i .i64 x0_1), (.i .i64 x0_2), (.s x0_3), (.s x0_4)]), (.agg [(.s x1_0), (.i .i64 x1_1), (.i .i64 x1_2), (.s x1_3), (.s x1_4)])] []) fun a1 =>
 some (.b (decide (a1.toI < (0 : Int)))) := (den_eq ..).trans (by kernel_rfl)
/-! 62: loop.example/g00905/impl.ValidRun -/
noncomputable def f62_l1 (t0 : List AV) (t7 : List AV) (t8 : Int) (t9 : Int) (r0 : List AV) : Option AV := Lp E fi62 [true, true, false, true, false] (mkT 41 [(0, (.imm 5 t0)), (3, (.pt 0 [(0, 0)] 0 0)), (7, (.imm 5 t7)), (8, (.i .i64 t8)), (9, (.i .i64 t9))]) [(.live false false false 1000000 [(.fn 0 r0)])]
noncomputable def f62_j2 (t0 : List AV) (t7 : List AV) (t8 : Int) (t9 : Int) (r0 : List AV) (r1_0 : ByteArray) (r1_1 : Int) (r1_2 : Int) (r1_3 : ByteArray) (r1_4 : ByteArray) : Option AV := Jn E fi62 [true, true, false, true, false, false, true, true, false, false, true, true] (mkT 41 [(0, (.imm 5 t0)), (3, (.pt 0 [(0, 0)] 0 0)), (5, (.pt 1 [] 0 0)), (7, (.imm 5 t7)), (8, (.i .i64 t8)), (9, (.i .i64 t9))]) [(.live false false false 1000000 [(.fn 0 r0)]), (.live false true false 66 [(.agg [(.s r1_0), (.i .i64 r1_1), (.i .i64 r1_2), (.s r1_3), (.s r1_4)])])]
theorem f62_eq (x0 : List AV) : den E 62 [(.imm 5 x0)] [] =
 f62_l1 x0 x0 ((x0.length : Nat) : Int) (0 : Int) [] := (den_eq ..).trans (by kernel_rfl)
theorem f62_l1_eq (t0 : List AV) (t7 : List AV) (t8 : Int) (t9 : Int) (r0 : List AV) : f62_l1 t0 t7 t8 t9 r0 =
 cond (decide (t9 < t8))
 (if 0 ≤ t9 ∧ t9 < ((t7.length : Nat) : Int) then
 if okCells false (t7.getD t9.toNat .x) 0 [.s, (.i .i64), (.i .i64), .s, .s] = true then
 bSh .b (den E 76 [(.agg [(.s (((t7.getD t9.toNat .x).cells.getD 0 .x).toS)), (.i .i64 (((t7.getD t9.toNat .x).cells.getD 1 .x).toI)), (.i .i64 (((t7.getD t9.toNat .x).cells.getD 2 .x).toI)), (.s (((t7.getD t9.toNat .x).cells.getD 3 .x).toS)), (.s (((t7.getD t9.toNat .x).cells.getD 4 .x).toS))])] []) fun a1 =>
 cond ((!a1.toB) == false)
 (cond ((hasI r0 (((t7.getD t9.toNat .x).cells.getD 1 .x).toI)) == false)
 (cond ((decide ((0 : Int) < t9)) == true)
 (if 0 ≤ (IntKind.i64.wrap (t9 - (1 : Int))) ∧ (IntKind.i64.wrap (t9 - (1 : Int))) < ((t0.length : Nat) : Int) then
 if okCells false (t0.getD (IntKind.i64.wrap (t9 - (1 : Int))).toNat .x) 0 [.s, (.i .i64), (.i .i64), .s, .s] = true then
 bSh .b (den E 112 [(.agg [(.s (((t0.getD (IntKind.i64.wrap (t9 - (1 : Int))).toNat .x).cells.getD 0 .x).toS)), (.i .i64 (((t0.getD (IntKind.i64.wrap (t9 - (1 : Int))).toNat .x).cells.getD 1 .x).toI)), (.i .i64 (((t0.getD (IntKind.i64.wrap (t9 - (1 : Int))).toNat .x).cells.getD 2 .x).toI)), (.s (((t0.getD (IntKind.i64.wrap (t9 - (1 : Int))).toNat .x).cells.getD 3 .x).toS)), (.s (((t0.getD (IntKind.i64.wrap (t9 - (1 : Int))).toNat .x).cells.getD 4 .x).toS))]), (.agg [(.s (((t7.getD t9.toNat .x).cells.getD 0 .x).toS)), (.i .i64 (((t7.getD t9.toNat .x).cells.getD 1 .x).toI)), (.i .i64 (((t7.getD t9.toNat .x).cells.getD 2 .x).toI)), (.s (((t7.getD t9.toNat .x).cells.getD 3 .x).toS)), (.s (((t7.getD t9.toNat .x).cells.getD 4 .x).toS))])] []) fun a2 =>
 cond (!a2.toB)
 (some (.b false))
 (f62_j2 t0 t7 t8 t9 r0 (((t7.getD t9.toNat .x).cells.getD 0 .x).toS) (((t7.getD t9.toNat .x).cells.getD 1 .x).toI) (((t7.getD t9.toNat .x).cells.getD 2 .x).toI) (((t7.getD t9.toNat .x).cells.getD 3 .x).toS) (((t7.getD t9.toNat .x).cells.getD 4 .x).toS))
 else none
 else none)
 (f62_j2 t0 t7 t8 t9 r0 (((t7.getD t9.toNat .x).cells.getD 0 .x).toS) (((t7.getD t9.toNat .x).cells.getD 1 .x).toI) (((t7.getD t9.toNat .x).cells.getD 2 .x).toI) (((t7.getD t9.toNat .x).cells.getD 3 .x).toS) (((t7.getD t9.toNat .x).cells.getD 4 .x).toS)))
 (some (.b false)))
 (some (.b false))
 else none
 else none)
 (some (.b true)) := (Lp_eq ..).trans (by kernel_rfl)
theorem f62_j2_eq (t0 : List AV) (t7 : List AV) (t8 : Int) (t9 : Int) (r0 : List AV) (r1_0 : ByteArray) (r1_1 : Int) (r1_2 : Int) (r1_3 : ByteArray) (r1_4 : ByteArray) : f62_j2 t0 t7 t8 t9 r0 r1_0 r1_1 r1_2 r1_3 r1_4 =
 f62_l1 t0 t7 t8 (IntKind.i64.wrap (t9 + (1 : Int))) (r0 ++ [(.i .i64 r1_1)]) := by kernel_rfl
/-! 119: loop.example/g00905/impl.increasing -/
noncomputable def f119_l1 (t0 : List AV) (t3 : Int) : Option AV := Lp E fi119 [true, false, true, false] (mkT 20 [(0, (.imm 1 t0)), (3, (.i .i64 t3))]) []
theorem f119_eq (x0 : List AV) : den E 119 [(.imm 1 x0)] [] =
 f119_l1 x0 (1 : Int) := (den_eq ..).trans (by kernel_rfl)
theorem f119_l1_eq (t0 : List AV) (t3 : Int) : f119_l1 t0 t3 =
 cond (decide (t3 < ((t0.length : Nat) : Int)))
 (if 0 ≤ t3 ∧ t3 < ((t0.length : Nat) : Int) then
 if okCells false (t0.getD t3.toNat .x) 0 [(.i .i64)] = true then
 if 0 ≤ (IntKind.i64.wrap (t3 - (1 : Int))) ∧ (IntKind.i64.wrap (t3 - (1 : Int))) < ((t0.length : Nat) : Int) then
 if okCells false (t0.getD (IntKind.i64.wrap (t3 - (1 : Int))).toNat .x) 0 [(.i .i64)] = true then
 cond (decide ((((t0.getD t3.toNat .x).cells.getD 0 .x).toI) ≤ (((t0.getD (IntKind.i64.wrap (t3 - (1 : Int))).toNat .x).cells.getD 0 .x).toI)))
 (some (.b false))
 (f119_l1 t0 (IntKind.i64.wrap (t3 + (1 : Int))))
 else none
 else none
 else none
 else none)
 (some (.b true)) := (Lp_eq ..).trans (by kernel_rfl)
/-! 167: loop.example/g00905/impl.allWithin$1 -/
theorem f167q1_eq (x0 : Int) (x1 : AV) (x2 : AV) : den E 167 [(.i .i64 x0), (.ip x1 0), (.ip x2 0)] [] =
 if okCells false x1 0 [(.i .i64)] = true then
 if okCells false x2 0 [(.i .i64)] = true then
 bSh .b (den E 102 [(.i .i64 x0), (.i .i64 ((x1.cells.getD 0 .x).toI)), (.i .i64 ((x2.cells.getD 0 .x).toI))] []) fun a1 =>
 some (.b (!a1.toB))
 else none
 else none := (den_eq ..).trans (by kernel_rfl)
/-! 179: slices.IndexFunc[[]int64,int64] -/
noncomputable def f179q1_l1 (t0 : List AV) (t1_0 : AV) (t1_1 : AV) (t7 : Int) (t8 : Int) : Option AV := Lp E fi179 [true, false, true, false] (mkT 19 [(0, (.imm 1 t0)), (1, (.fn 167 [(.ip t1_0 0), (.ip t1_1 0)])), (7, (.i .i64 t7)), (8, (.i .i64 t8))]) []
theorem f179q1_eq (x0 : List AV) (x1_0 : AV) (x1_1 : AV) : den E 179 [(.imm 1 x0), (.fn 167 [(.ip x1_0 0), (.ip x1_1 0)])] [] =
 f179q1_l1 x0 x1_0 x1_1 ((x0.length : Nat) : Int) (0 : Int) := (den_eq ..).trans (by kernel_rfl)
theorem f179q1_l1_eq (t0 : List AV) (t1_0 : AV) (t1_1 : AV) (t7 : Int) (t8 : Int) : f179q1_l1 t0 t1_0 t1_1 t7 t8 =
 cond (decide (t8 < t7))
 (if 0 ≤ t8 ∧ t8 < ((t0.length : Nat) : Int) then
 if okCells false (t0.getD t8.toNat .x) 0 [(.i .i64)] = true then
 bSh .b (den E 167 [(.i .i64 (((t0.getD t8.toNat .x).cells.getD 0 .x).toI)), (.ip t1_0 0), (.ip t1_1 0)] []) fun a1 =>
 cond a1.toB
 (some (.i .i64 t8))
 (f179q1_l1 t0 t1_0 t1_1 t7 (IntKind.i64.wrap (t8 + (1 : Int))))
 else none
 else none)
 (some (.i .i64 (-1 : Int))) := (Lp_eq ..).trans (by kernel_rfl)
/-! 166: slices.ContainsFunc[[]int64,int64] -/
theorem f166q1_eq (x0 : List AV) (x1_0 : AV) (x1_1 : AV) : den E 166 [(.imm 1 x0), (.fn 167 [(.ip x1_0 0), (.ip x1_1 0)])] [] =
 bSh (.i .i64) (den E 179 [(.imm 1 x0), (.fn 167 [(.ip x1_0 0), (.ip x1_1 0)])] []) fun a1 =>
 some (.b (decide ((0 : Int) ≤ a1.toI))) := (den_eq ..).trans (by kernel_rfl)
/-! 120: loop.example/g00905/impl.allWithin -/
theorem f120_eq (x0 : List AV) (x1 : Int) (x2 : Int) : den E 120 [(.imm 1 x0), (.i .i64 x1), (.i .i64 x2)] [] =
 bSh .b (den E 166 [(.imm 1 x0), (.fn 167 [(.ip (.i .i64 x1) 0), (.ip (.i .i64 x2) 0)])] []) fun a1 =>
 some (.b (!a1.toB)) := (den_eq ..).trans (by kernel_rfl)
/-! 70: loop.example/g00905/impl.snapshotsOk -/
theorem f70_eq (x0 : List AV) : den E 70 [(.imm 1 x0)] [] =
 cond ((decide (((x0.length : Nat) : Int) ≤ (4 : Int))) == true)
 (bSh .b (den E 119 [(.imm 1 x0)] []) fun a1 =>
 cond (a1.toB == true)
 (bSh .b (den E 120 [(.imm 1 x0), (.i .i64 (0 : Int)), (.i .i64 (1000000 : Int))] []) fun a2 =>
 some (.b a2.toB))
 (some (.b false)))
 (some (.b false)) := (den_eq ..).trans (by kernel_rfl)
/-! 80: slices.Clone[[]loop.example/g00905/impl.Record,loop.example/g00905/impl.Record] -/
theorem f80_eq (x0 : List AV) : dno E 80 [(.imm 5 x0)] [] = if 5 = 5 ∧ x0.length * 64 ≤ room then some (.sl 0 [] none, [.live true false false 66 x0]) else none := (dno_eq ..).trans (by kernel_rfl)
/-! 123: loop.example/g00905/impl.isRange -/
theorem f123_eq (x0_0 : ByteArray) (x0_1 : Int) (x0_2 : Int) (x0_3 : ByteArray) (x0_4 : ByteArray) : den E 123 [(.agg [(.s x0_0), (.i .i64 x0_1), (.i .i64 x0_2), (.s x0_3), (.s x0_4)])] [] =
 some (.b (decide (x0_2 = (3 : Int)))) := (den_eq ..).trans (by kernel_rfl)
/-! 129: (loop.example/g00905/impl.Record).affects -/
theorem f129_eq (x0_0 : ByteArray) (x0_1 : Int) (x0_2 : Int) (x0_3 : ByteArray) (x0_4 : ByteArray) (x1 : ByteArray) : den E 129 [(.agg [(.s x0_0), (.i .i64 x0_1), (.i .i64 x0_2), (.s x0_3), (.s x0_4)]), (.s x1)] [] =
 cond (decide (x0_2 = (3 : Int)))
 (cond ((lessS x0_0 x1 || decide (x0_0 = x1)) == true)
 (some (.b (lessS x1 x0_4)))
 (some (.b false)))
 (some (.b (decide (x0_0 = x1)))) := (den_eq ..).trans (by kernel_rfl)
/-! 169: loop.example/g00905/impl.hidden$1 -/
theorem f169q1_eq (x0 : Int) (x1 : AV) (x2 : AV) : den E 169 [(.i .i64 x0), (.ip x1 0), (.ip x2 0)] [] =
 if okCells false x1 1 [(.i .i64)] = true then
 cond ((decide (((x1.cells.getD 1 .x).toI) ≤ x0)) == true)
 (if okCells false x2 0 [(.i .i64)] = true then
 some (.b (decide (x0 < ((x2.cells.getD 0 .x).toI))))
 else none)
 (some (.b false))
 else none := (den_eq ..).trans (by kernel_rfl)
/-! 179: slices.IndexFunc[[]int64,int64] -/
noncomputable def f179q2_l1 (t0 : List AV) (t1_0 : AV) (t1_1 : AV) (t7 : Int) (t8 : Int) : Option AV := Lp E fi179 [true, false, true, false] (mkT 19 [(0, (.imm 1 t0)), (1, (.fn 169 [(.ip t1_0 0), (.ip t1_1 0)])), (7, (.i .i64 t7)), (8, (.i .i64 t8))]) []
theorem f179q2_eq (x0 : List AV) (x1_0 : AV) (x1_1 : AV) : den E 179 [(.imm 1 x0), (.fn 169 [(.ip x1_0 0), (.ip x1_1 0)])] [] =
 f179q2_l1 x0 x1_0 x1_1 ((x0.length : Nat) : Int) (0 : Int) := (den_eq ..).trans (by kernel_rfl)
theorem f179q2_l1_eq (t0 : List AV) (t1_0 : AV) (t1_1 : AV) (t7 : Int) (t8 : Int) : f179q2_l1 t0 t1_0 t1_1 t7 t8 =
 cond (decide (t8 < t7))
 (if 0 ≤ t8 ∧ t8 < ((t0.length : Nat) : Int) then
 if okCells false (t0.getD t8.toNat .x) 0 [(.i .i64)] = true then
 bSh .b (den E 169 [(.i .i64 (((t0.getD t8.toNat .x).cells.getD 0 .x).toI)), (.ip t1_0 0), (.ip t1_1 0)] []) fun a1 =>
 cond a1.toB
 (some (.i .i64 t8))
 (f179q2_l1 t0 t1_0 t1_1 t7 (IntKind.i64.wrap (t8 + (1 : Int))))
 else none
 else none)
 (some (.i .i64 (-1 : Int))) := (Lp_eq ..).trans (by kernel_rfl)
/-! 166: slices.ContainsFunc[[]int64,int64] -/
theorem f166q2_eq (x0 : List AV) (x1_0 : AV) (x1_1 : AV) : den E 166 [(.imm 1 x0), (.fn 169 [(.ip x1_0 0), (.ip x1_1 0)])] [] =
 bSh (.i .i64) (den E 179 [(.imm 1 x0), (.fn 169 [(.ip x1_0 0), (.ip x1_1 0)])] []) fun a1 =>
 some (.b (decide ((0 : Int) ≤ a1.toI))) := (den_eq ..).trans (by kernel_rfl)
/-! 124: loop.example/g00905/impl.hidden -/
noncomputable def f124_l1 (t2 : List AV) (t10 : List AV) (t11 : Int) (t12 : Int) (r0_0 : ByteArray) (r0_1 : Int) (r0_2 : Int) (r0_3 : ByteArray) (r0_4 : ByteArray) (r1 : Int) : Option AV := Lp E fi124 [true, true, false, true, false] (mkT 48 [(2, (.imm 1 t2)), (4, (.pt 0 [] 0 0)), (7, (.pt 1 [] 0 0)), (10, (.imm 5 t10)), (11, (.i .i64 t11)), (12, (.i .i64 t12))]) [(.live false true false 66 [(.agg [(.s r0_0), (.i .i64 r0_1), (.i .i64 r0_2), (.s r0_3), (.s r0_4)])]), (.live false true false 2 [(.i .i64 r1)])]
noncomputable def f124_j2 (t2 : List AV) (t10 : List AV) (t11 : Int) (t12 : Int) (r0_0 : ByteArray) (r0_1 : Int) (r0_2 : Int) (r0_3 : ByteArray) (r0_4 : ByteArray) (r1 : Int) : Option AV := Jn E fi124 [true, true, false, true, false, false, true, true, true] (mkT 48 [(2, (.imm 1 t2)), (4, (.pt 0 [] 0 0)), (7, (.pt 1 [] 0 0)), (10, (.imm 5 t10)), (11, (.i .i64 t11)), (12, (.i .i64 t12))]) [(.live false true false 66 [(.agg [(.s r0_0), (.i .i64 r0_1), (.i .i64 r0_2), (.s r0_3), (.s r0_4)])]), (.live false true false 2 [(.i .i64 r1)])]
theorem f124_eq (x0 : List AV) (x1_0 : ByteArray) (x1_1 : Int) (x1_2 : Int) (x1_3 : ByteArray) (x1_4 : ByteArray) (x2 : List AV) : den E 124 [(.imm 5 x0), (.agg [(.s x1_0), (.i .i64 x1_1), (.i .i64 x1_2), (.s x1_3), (.s x1_4)]), (.imm 1 x2)] [] =
 f124_l1 x2 x0 ((x0.length : Nat) : Int) (0 : Int) x1_0 x1_1 x1_2 x1_3 x1_4 (0 : Int) := (den_eq ..).trans (by kernel_rfl)
theorem f124_l1_eq (t2 : List AV) (t10 : List AV) (t11 : Int) (t12 : Int) (r0_0 : ByteArray) (r0_1 : Int) (r0_2 : Int) (r0_3 : ByteArray) (r0_4 : ByteArray) (r1 : Int) : f124_l1 t2 t10 t11 t12 r0_0 r0_1 r0_2 r0_3 r0_4 r1 =
 cond (decide (t12 < t11))
 (if 0 ≤ t12 ∧ t12 < ((t10.length : Nat) : Int) then
 if okCells false (t10.getD t12.toNat .x) 0 [.s, (.i .i64), (.i .i64), .s, .s] = true then
 cond ((decide (r0_1 < (((t10.getD t12.toNat .x).cells.getD 1 .x).toI))) == true)
 (bSh .b (den E 129 [(.agg [(.s (((t10.getD t12.toNat .x).cells.getD 0 .x).toS)), (.i .i64 (((t10.getD t12.toNat .x).cells.getD 1 .x).toI)), (.i .i64 (((t10.getD t12.toNat .x).cells.getD 2 .x).toI)), (.s (((t10.getD t12.toNat .x).cells.getD 3 .x).toS)), (.s (((t10.getD t12.toNat .x).cells.getD 4 .x).toS))]), (.s r0_0)] []) fun a1 =>
 cond (a1.toB == true)
 (cond ((decide (r1 = (0 : Int))) == false)
 (cond (decide ((((t10.getD t12.toNat .x).cells.getD 1 .x).toI) < r1))
 (f124_j2 t2 t10 t11 t12 r0_0 r0_1 r0_2 r0_3 r0_4 (((t10.getD t12.toNat .x).cells.getD 1 .x).toI))
 (f124_j2 t2 t10 t11 t12 r0_0 r0_1 r0_2 r0_3 r0_4 r1))
 (f124_j2 t2 t10 t11 t12 r0_0 r0_1 r0_2 r0_3 r0_4 (((t10.getD t12.toNat .x).cells.getD 1 .x).toI)))
 (f124_j2 t2 t10 t11 t12 r0_0 r0_1 r0_2 r0_3 r0_4 r1))
 (f124_j2 t2 t10 t11 t12 r0_0 r0_1 r0_2 r0_3 r0_4 r1)
 else none
 else none)
 (cond ((decide ((0 : Int) < r1)) == true)
 (bSh .b (den E 166 [(.imm 1 t2), (.fn 169 [(.ip (.agg [(.s r0_0), (.i .i64 r0_1), (.i .i64 r0_2), (.s r0_3), (.s r0_4)]) 0), (.ip (.i .i64 r1) 0)])] []) fun a2 =>
 some (.b (!a2.toB)))
 (some (.b false))) := (Lp_eq ..).trans (by kernel_rfl)
theorem f124_j2_eq (t2 : List AV) (t10 : List AV) (t11 : Int) (t12 : Int) (r0_0 : ByteArray) (r0_1 : Int) (r0_2 : Int) (r0_3 : ByteArray) (r0_4 : ByteArray) (r1 : Int) : f124_j2 t2 t10 t11 t12 r0_0 r0_1 r0_2 r0_3 r0_4 r1 =
 f124_l1 t2 t10 t11 (IntKind.i64.wrap (t12 + (1 : Int))) r0_0 r0_1 r0_2 r0_3 r0_4 r1 := by kernel_rfl
/-! 122: loop.example/g00905/impl.dropHidden$1 -/
theorem f122q1_eq (x0_0 : ByteArray) (x0_1 : Int) (x0_2 : Int) (x0_3 : ByteArray) (x0_4 : ByteArray) (x1 : AV) (x2 : AV) : den E 122 [(.agg [(.s x0_0), (.i .i64 x0_1), (.i .i64 x0_2), (.s x0_3), (.s x0_4)]), (.ip x1 0), (.ip x2 0)] [] =
 bSh .b (den E 123 [(.agg [(.s x0_0), (.i .i64 x0_1), (.i .i64 x0_2), (.s x0_3), (.s x0_4)])] []) fun a1 =>
 cond ((!a1.toB) == true)
 (if okCells false x1 0 [(.sl 66 5)] = true then
 if okCells false x2 0 [(.sl 2 1)] = true then
 bSh .b (den E 124 [(.imm 5 ((x1.cells.getD 0 .x).toL)), (.agg [(.s x0_0), (.i .i64 x0_1), (.i .i64 x0_2), (.s x0_3), (.s x0_4)]), (.imm 1 ((x2.cells.getD 0 .x).toL))] []) fun a2 =>
 some (.b a2.toB)
 else none
 else none)
 (some (.b false)) := (den_eq ..).trans (by kernel_rfl)
/-! 168: slices.IndexFunc[[]loop.example/g00905/impl.Record,loop.example/g00905/impl.Record] -/
noncomputable def f168q1_l1 (t0 : List AV) (t1_0 : AV) (t1_1 : AV) (t7 : Int) (t8 : Int) : Option AV := Lp E fi168 [true, false, true, false] (mkT 19 [(0, (.imm 5 t0)), (1, (.fn 122 [(.ip t1_0 0), (.ip t1_1 0)])), (7, (.i .i64 t7)), (8, (.i .i64 t8))]) []
theorem f168q1_eq (x0 : List AV) (x1_0 : AV) (x1_1 : AV) : den E 168 [(.imm 5 x0), (.fn 122 [(.ip x1_0 0), (.ip x1_1 0)])] [] =
 f168q1_l1 x0 x1_0 x1_1 ((x0.length : Nat) : Int) (0 : Int) := (den_eq ..).trans (by kernel_rfl)
theorem f168q1_l1_eq (t0 : List AV) (t1_0 : AV) (t1_1 : AV) (t7 : Int) (t8 : Int) : f168q1_l1 t0 t1_0 t1_1 t7 t8 =
 cond (decide (t8 < t7))
 (if 0 ≤ t8 ∧ t8 < ((t0.length : Nat) : Int) then
 if okCells false (t0.getD t8.toNat .x) 0 [.s, (.i .i64), (.i .i64), .s, .s] = true then
 bSh .b (den E 122 [(.agg [(.s (((t0.getD t8.toNat .x).cells.getD 0 .x).toS)), (.i .i64 (((t0.getD t8.toNat .x).cells.getD 1 .x).toI)), (.i .i64 (((t0.getD t8.toNat .x).cells.getD 2 .x).toI)), (.s (((t0.getD t8.toNat .x).cells.getD 3 .x).toS)), (.s (((t0.getD t8.toNat .x).cells.getD 4 .x).toS))]), (.ip t1_0 0), (.ip t1_1 0)] []) fun a1 =>
 cond a1.toB
 (some (.i .i64 t8))
 (f168q1_l1 t0 t1_0 t1_1 t7 (IntKind.i64.wrap (t8 + (1 : Int))))
 else none
 else none)
 (some (.i .i64 (-1 : Int))) := (Lp_eq ..).trans (by kernel_rfl)
/-! 121: slices.DeleteFunc[[]loop.example/g00905/impl.Record,loop.example/g00905/impl.Record] -/
noncomputable def f121o1_l1 (t1_0 : AV) (t1_1 : AV) (t5 : Int) (t6 : Int) (r0 : List AV) : Option (AV × List Root) := LpO E fi121 [(5, [0, 1, 5, 6], 1), (6, [0, 1, 5, 6], 1)] 1 (.pr 0) [true, true, true, false, true, false] (mkT 42 [(0, (.sl 0 [] none)), (1, (.fn 122 [(.ip t1_0 0), (.ip t1_1 0)])), (5, (.i .i64 t5)), (6, (.i .i64 t6))]) [(.live true false false 66 r0)]
noncomputable def f121o1_j2 (t1_0 : AV) (t1_1 : AV) (t5 : Int) (t6 : Int) (r0 : List AV) : Option (AV × List Root) := JnO E fi121 [(5, [0, 1, 5, 6], 1), (6, [0, 1, 5, 6], 1)] 1 (.pr 0) [true, true, true, false, true, false, false, true, true] (mkT 42 [(0, (.sl 0 [] none)), (1, (.fn 122 [(.ip t1_0 0), (.ip t1_1 0)])), (5, (.i .i64 t5)), (6, (.i .i64 t6))]) [(.live true false false 66 r0)]
theorem f121o1_eq (x1_0 : AV) (x1_1 : AV) (s0 : List AV) : dno E 121 [(.sl 0 [] none), (.fn 122 [(.ip x1_0 0), (.ip x1_1 0)])] [(.live true false false 66 s0)] =
 bSh (.i .i64) (den E 168 [(.imm 5 s0), (.fn 122 [(.ip x1_0 0), (.ip x1_1 0)])] []) fun a1 =>
 cond (decide (a1.toI = (-1 : Int)))
 (some ((.sl 0 [] (some (0, s0.length))), [(.live true false false 66 s0)]))
 (f121o1_l1 x1_0 x1_1 a1.toI (IntKind.i64.wrap (a1.toI + (1 : Int))) s0) := (dno_eq ..).trans (by kernel_rfl)
theorem f121o1_l1_eq (t1_0 : AV) (t1_1 : AV) (t5 : Int) (t6 : Int) (r0 : List AV) : f121o1_l1 t1_0 t1_1 t5 t6 r0 =
 cond (decide (t6 < ((r0.length : Nat) : Int)))
 (if 0 ≤ t6 ∧ t6 < ((r0.length : Nat) : Int) then
 if okCells false (r0.getD (0 + t6.toNat) .x) 0 [.s, (.i .i64), (.i .i64), .s, .s] = true then
 bSh .b (den E 122 [(.agg [(.s (((r0.getD (0 + t6.toNat) .x).cells.getD 0 .x).toS)), (.i .i64 (((r0.getD (0 + t6.toNat) .x).cells.getD 1 .x).toI)), (.i .i64 (((r0.getD (0 + t6.toNat) .x).cells.getD 2 .x).toI)), (.s (((r0.getD (0 + t6.toNat) .x).cells.getD 3 .x).toS)), (.s (((r0.getD (0 + t6.toNat) .x).cells.getD 4 .x).toS))]), (.ip t1_0 0), (.ip t1_1 0)] []) fun a1 =>
 cond (!a1.toB)
 (if 0 ≤ t5 ∧ t5 < ((r0.length : Nat) : Int) then
 f121o1_j2 t1_0 t1_1 (IntKind.i64.wrap (t5 + (1 : Int))) t6 (r0.set (0 + t5.toNat) ((r0.getD (0 + t5.toNat) .x).putCells 0 [(.s (((r0.getD (0 + t6.toNat) .x).cells.getD 0 .x).toS)), (.i .i64 (((r0.getD (0 + t6.toNat) .x).cells.getD 1 .x).toI)), (.i .i64 (((r0.getD (0 + t6.toNat) .x).cells.getD 2 .x).toI)), (.s (((r0.getD (0 + t6.toNat) .x).cells.getD 3 .x).toS)), (.s (((r0.getD (0 + t6.toNat) .x).cells.getD 4 .x).toS))]))
 else none)
 (f121o1_j2 t1_0 t1_1 t5 t6 r0)
 else none
 else none)
 (if 0 ≤ t5 ∧ t5 ≤ ((r0.length : Nat) : Int) ∧ ((r0.length : Nat) : Int) ≤ ((r0.length : Nat) : Int) then
 if 0 ≤ (0 : Int) ∧ (0 : Int) ≤ t5 ∧ t5 ≤ (((r0.take t5.toNat ++ List.replicate (((r0.length : Nat) : Int).toNat - t5.toNat) ((.agg [(.s .empty), (.i .i64 (0 : Int)), (.i .i64 (0 : Int)), (.s .empty), (.s .empty)]) : AV) ++ r0.drop (t5.toNat + (((r0.length : Nat) : Int).toNat - t5.toNat))).length : Nat) : Int) then
 some ((.sl 0 [] (some ((0 : Int).toNat, (t5.toNat - (0 : Int).toNat)))), [(.live true false false 66 (r0.take t5.toNat ++ List.replicate (((r0.length : Nat) : Int).toNat - t5.toNat) ((.agg [(.s .empty), (.i .i64 (0 : Int)), (.i .i64 (0 : Int)), (.s .empty), (.s .empty)]) : AV) ++ r0.drop (t5.toNat + (((r0.length : Nat) : Int).toNat - t5.toNat))))])
 else none
 else none) := (LpO_eq ..).trans (by kernel_rfl)
theorem f121o1_j2_eq (t1_0 : AV) (t1_1 : AV) (t5 : Int) (t6 : Int) (r0 : List AV) : f121o1_j2 t1_0 t1_1 t5 t6 r0 =
 f121o1_l1 t1_0 t1_1 t5 (IntKind.i64.wrap (t6 + (1 : Int))) r0 := by kernel_rfl
/-! 125: loop.example/g00905/impl.dropHidden$2 -/
theorem f125_eq (x0_0 : ByteArray) (x0_1 : Int) (x0_2 : Int) (x0_3 : ByteArray) (x0_4 : ByteArray) : den E 125 [(.agg [(.s x0_0), (.i .i64 x0_1), (.i .i64 x0_2), (.s x0_3), (.s x0_4)])] [] =
 some (.b (!decide (x0_2 = (1 : Int)))) := (den_eq ..).trans (by kernel_rfl)
/-! 168: slices.IndexFunc[[]loop.example/g00905/impl.Record,loop.example/g00905/impl.Record] -/
noncomputable def f168q2_l1 (t0 : List AV) (t7 : Int) (t8 : Int) : Option AV := Lp E fi168 [true, false, true, false] (mkT 19 [(0, (.imm 5 t0)), (1, (.fn 125 [])), (7, (.i .i64 t7)), (8, (.i .i64 t8))]) []
theorem f168q2_eq (x0 : List AV) : den E 168 [(.imm 5 x0), (.fn 125 [])] [] =
 f168q2_l1 x0 ((x0.length : Nat) : Int) (0 : Int) := (den_eq ..).trans (by kernel_rfl)
theorem f168q2_l1_eq (t0 : List AV) (t7 : Int) (t8 : Int) : f168q2_l1 t0 t7 t8 =
 cond (decide (t8 < t7))
 (if 0 ≤ t8 ∧ t8 < ((t0.length : Nat) : Int) then
 if okCells false (t0.getD t8.toNat .x) 0 [.s, (.i .i64), (.i .i64), .s, .s] = true then
 bSh .b (den E 125 [(.agg [(.s (((t0.getD t8.toNat .x).cells.getD 0 .x).toS)), (.i .i64 (((t0.getD t8.toNat .x).cells.getD 1 .x).toI)), (.i .i64 (((t0.getD t8.toNat .x).cells.getD 2 .x).toI)), (.s (((t0.getD t8.toNat .x).cells.getD 3 .x).toS)), (.s (((t0.getD t8.toNat .x).cells.getD 4 .x).toS))])] []) fun a1 =>
 cond a1.toB
 (some (.i .i64 t8))
 (f168q2_l1 t0 t7 (IntKind.i64.wrap (t8 + (1 : Int))))
 else none
 else none)
 (some (.i .i64 (-1 : Int))) := (Lp_eq ..).trans (by kernel_rfl)
/-! 121: slices.DeleteFunc[[]loop.example/g00905/impl.Record,loop.example/g00905/impl.Record] -/
noncomputable def f121o2_l1 (t5 : Int) (t6 : Int) (r0 : List AV) : Option (AV × List Root) := LpO E fi121 [(5, [0, 1, 5, 6], 1), (6, [0, 1, 5, 6], 1)] 1 (.pr 0) [true, true, true, false, true, false] (mkT 42 [(0, (.sl 0 [] none)), (1, (.fn 125 [])), (5, (.i .i64 t5)), (6, (.i .i64 t6))]) [(.live true false false 66 r0)]
noncomputable def f121o2_j2 (t5 : Int) (t6 : Int) (r0 : List AV) : Option (AV × List Root) := JnO E fi121 [(5, [0, 1, 5, 6], 1), (6, [0, 1, 5, 6], 1)] 1 (.pr 0) [true, true, true, false, true, false, false, true, true] (mkT 42 [(0, (.sl 0 [] none)), (1, (.fn 125 [])), (5, (.i .i64 t5)), (6, (.i .i64 t6))]) [(.live true false false 66 r0)]
theorem f121o2_eq (s0 : List AV) : dno E 121 [(.sl 0 [] none), (.fn 125 [])] [(.live true false false 66 s0)] =
 bSh (.i .i64) (den E 168 [(.imm 5 s0), (.fn 125 [])] []) fun a1 =>
 cond (decide (a1.toI = (-1 : Int)))
 (some ((.sl 0 [] (some (0, s0.length))), [(.live true false false 66 s0)]))
 (f121o2_l1 a1.toI (IntKind.i64.wrap (a1.toI + (1 : Int))) s0) := (dno_eq ..).trans (by kernel_rfl)
theorem f121o2_l1_eq (t5 : Int) (t6 : Int) (r0 : List AV) : f121o2_l1 t5 t6 r0 =
 cond (decide (t6 < ((r0.length : Nat) : Int)))
 (if 0 ≤ t6 ∧ t6 < ((r0.length : Nat) : Int) then
 if okCells false (r0.getD (0 + t6.toNat) .x) 0 [.s, (.i .i64), (.i .i64), .s, .s] = true then
 bSh .b (den E 125 [(.agg [(.s (((r0.getD (0 + t6.toNat) .x).cells.getD 0 .x).toS)), (.i .i64 (((r0.getD (0 + t6.toNat) .x).cells.getD 1 .x).toI)), (.i .i64 (((r0.getD (0 + t6.toNat) .x).cells.getD 2 .x).toI)), (.s (((r0.getD (0 + t6.toNat) .x).cells.getD 3 .x).toS)), (.s (((r0.getD (0 + t6.toNat) .x).cells.getD 4 .x).toS))])] []) fun a1 =>
 cond (!a1.toB)
 (if 0 ≤ t5 ∧ t5 < ((r0.length : Nat) : Int) then
 f121o2_j2 (IntKind.i64.wrap (t5 + (1 : Int))) t6 (r0.set (0 + t5.toNat) ((r0.getD (0 + t5.toNat) .x).putCells 0 [(.s (((r0.getD (0 + t6.toNat) .x).cells.getD 0 .x).toS)), (.i .i64 (((r0.getD (0 + t6.toNat) .x).cells.getD 1 .x).toI)), (.i .i64 (((r0.getD (0 + t6.toNat) .x).cells.getD 2 .x).toI)), (.s (((r0.getD (0 + t6.toNat) .x).cells.getD 3 .x).toS)), (.s (((r0.getD (0 + t6.toNat) .x).cells.getD 4 .x).toS))]))
 else none)
 (f121o2_j2 t5 t6 r0)
 else none
 else none)
 (if 0 ≤ t5 ∧ t5 ≤ ((r0.length : Nat) : Int) ∧ ((r0.length : Nat) : Int) ≤ ((r0.length : Nat) : Int) then
 if 0 ≤ (0 : Int) ∧ (0 : Int) ≤ t5 ∧ t5 ≤ (((r0.take t5.toNat ++ List.replicate (((r0.length : Nat) : Int).toNat - t5.toNat) ((.agg [(.s .empty), (.i .i64 (0 : Int)), (.i .i64 (0 : Int)), (.s .empty), (.s .empty)]) : AV) ++ r0.drop (t5.toNat + (((r0.length : Nat) : Int).toNat - t5.toNat))).length : Nat) : Int) then
 some ((.sl 0 [] (some ((0 : Int).toNat, (t5.toNat - (0 : Int).toNat)))), [(.live true false false 66 (r0.take t5.toNat ++ List.replicate (((r0.length : Nat) : Int).toNat - t5.toNat) ((.agg [(.s .empty), (.i .i64 (0 : Int)), (.i .i64 (0 : Int)), (.s .empty), (.s .empty)]) : AV) ++ r0.drop (t5.toNat + (((r0.length : Nat) : Int).toNat - t5.toNat))))])
 else none
 else none) := (LpO_eq ..).trans (by kernel_rfl)
theorem f121o2_j2_eq (t5 : Int) (t6 : Int) (r0 : List AV) : f121o2_j2 t5 t6 r0 =
 f121o2_l1 t5 (IntKind.i64.wrap (t6 + (1 : Int))) r0 := by kernel_rfl
/-! 128: loop.example/g00905/impl.dropHidden$3$1 -/
theorem f128q1_eq (x0_0 : ByteArray) (x0_1 : Int) (x0_2 : Int) (x0_3 : ByteArray) (x0_4 : ByteArray) (x1 : AV) : den E 128 [(.agg [(.s x0_0), (.i .i64 x0_1), (.i .i64 x0_2), (.s x0_3), (.s x0_4)]), (.ip x1 0)] [] =
 if okCells false x1 1 [(.i .i64)] = true then
 cond ((decide (x0_1 < ((x1.cells.getD 1 .x).toI))) == true)
 (if okCells false x1 0 [.s, (.i .i64), (.i .i64), .s, .s] = true then
 bSh .b (den E 129 [(.agg [(.s ((x1.cells.getD 0 .x).toS)), (.i .i64 ((x1.cells.getD 1 .x).toI)), (.i .i64 ((x1.cells.getD 2 .x).toI)), (.s ((x1.cells.getD 3 .x).toS)), (.s ((x1.cells.getD 4 .x).toS))]), (.s x0_0)] []) fun a1 =>
 some (.b a1.toB)
 else none)
 (some (.b false))
 else none := (den_eq ..).trans (by kernel_rfl)
/-! 168: slices.IndexFunc[[]loop.example/g00905/impl.Record,loop.example/g00905/impl.Record] -/
noncomputable def f168q4_l1 (t0 : List AV) (t1_0 : AV) (t7 : Int) (t8 : Int) : Option AV := Lp E fi168 [true, false, true, false] (mkT 19 [(0, (.imm 5 t0)), (1, (.fn 128 [(.ip t1_0 0)])), (7, (.i .i64 t7)), (8, (.i .i64 t8))]) []
theorem f168q4_eq (x0 : List AV) (x1_0 : AV) : den E 168 [(.imm 5 x0), (.fn 128 [(.ip x1_0 0)])] [] =
 f168q4_l1 x0 x1_0 ((x0.length : Nat) : Int) (0 : Int) := (den_eq ..).trans (by kernel_rfl)
theorem f168q4_l1_eq (t0 : List AV) (t1_0 : AV) (t7 : Int) (t8 : Int) : f168q4_l1 t0 t1_0 t7 t8 =
 cond (decide (t8 < t7))
 (if 0 ≤ t8 ∧ t8 < ((t0.length : Nat) : Int) then
 if okCells false (t0.getD t8.toNat .x) 0 [.s, (.i .i64), (.i .i64), .s, .s] = true then
 bSh .b (den E 128 [(.agg [(.s (((t0.getD t8.toNat .x).cells.getD 0 .x).toS)), (.i .i64 (((t0.getD t8.toNat .x).cells.getD 1 .x).toI)), (.i .i64 (((t0.getD t8.toNat .x).cells.getD 2 .x).toI)), (.s (((t0.getD t8.toNat .x).cells.getD 3 .x).toS)), (.s (((t0.getD t8.toNat .x).cells.getD 4 .x).toS))]), (.ip t1_0 0)] []) fun a1 =>
 cond a1.toB
 (some (.i .i64 t8))
 (f168q4_l1 t0 t1_0 t7 (IntKind.i64.wrap (t8 + (1 : Int))))
 else none
 else none)
 (some (.i .i64 (-1 : Int))) := (Lp_eq ..).trans (by kernel_rfl)
/-! 127: slices.ContainsFunc[[]loop.example/g00905/impl.Record,loop.example/g00905/impl.Record] -/
theorem f127q1_eq (x0 : List AV) (x1_0 : AV) : den E 127 [(.imm 5 x0), (.fn 128 [(.ip x1_0 0)])] [] =
 bSh (.i .i64) (den E 168 [(.imm 5 x0), (.fn 128 [(.ip x1_0 0)])] []) fun a1 =>
 some (.b (decide ((0 : Int) ≤ a1.toI))) := (den_eq ..).trans (by kernel_rfl)
/-! 126: loop.example/g00905/impl.dropHidden$3 -/
theorem f126q1_eq (x0_0 : ByteArray) (x0_1 : Int) (x0_2 : Int) (x0_3 : ByteArray) (x0_4 : ByteArray) (x1 : AV) : den E 126 [(.agg [(.s x0_0), (.i .i64 x0_1), (.i .i64 x0_2), (.s x0_3), (.s x0_4)]), (.ip x1 0)] [] =
 cond ((!decide (x0_2 = (1 : Int))) == true)
 (if okCells false x1 0 [(.sl 66 5)] = true then
 bSh .b (den E 127 [(.imm 5 ((x1.cells.getD 0 .x).toL)), (.fn 128 [(.ip (.agg [(.s x0_0), (.i .i64 x0_1), (.i .i64 x0_2), (.s x0_3), (.s x0_4)]) 0)])] []) fun a1 =>
 some (.b (!a1.toB))
 else none)
 (some (.b false)) := (den_eq ..).trans (by kernel_rfl)
/-! 168: slices.IndexFunc[[]loop.example/g00905/impl.Record,loop.example/g00905/impl.Record] -/
noncomputable def f168q3_l1 (t0 : List AV) (t1_0 : AV) (t7 : Int) (t8 : Int) : Option AV := Lp E fi168 [true, false, true, false] (mkT 19 [(0, (.imm 5 t0)), (1, (.fn 126 [(.ip t1_0 0)])), (7, (.i .i64 t7)), (8, (.i .i64 t8))]) []
theorem f168q3_eq (x0 : List AV) (x1_0 : AV) : den E 168 [(.imm 5 x0), (.fn 126 [(.ip x1_0 0)])] [] =
 f168q3_l1 x0 x1_0 ((x0.length : Nat) : Int) (0 : Int) := (den_eq ..).trans (by kernel_rfl)
theorem f168q3_l1_eq (t0 : List AV) (t1_0 : AV) (t7 : Int) (t8 : Int) : f168q3_l1 t0 t1_0 t7 t8 =
 cond (decide (t8 < t7))
 (if 0 ≤ t8 ∧ t8 < ((t0.length : Nat) : Int) then
 if okCells false (t0.getD t8.toNat .x) 0 [.s, (.i .i64), (.i .i64), .s, .s] = true then
 bSh .b (den E 126 [(.agg [(.s (((t0.getD t8.toNat .x).cells.getD 0 .x).toS)), (.i .i64 (((t0.getD t8.toNat .x).cells.getD 1 .x).toI)), (.i .i64 (((t0.getD t8.toNat .x).cells.getD 2 .x).toI)), (.s (((t0.getD t8.toNat .x).cells.getD 3 .x).toS)), (.s (((t0.getD t8.toNat .x).cells.getD 4 .x).toS))]), (.ip t1_0 0)] []) fun a1 =>
 cond a1.toB
 (some (.i .i64 t8))
 (f168q3_l1 t0 t1_0 t7 (IntKind.i64.wrap (t8 + (1 : Int))))
 else none
 else none)
 (some (.i .i64 (-1 : Int))) := (Lp_eq ..).trans (by kernel_rfl)
/-! 121: slices.DeleteFunc[[]loop.example/g00905/impl.Record,loop.example/g00905/impl.Record] -/
noncomputable def f121o3_l1 (t0o : Nat) (t0n : Nat) (t1_0 : AV) (t5 : Int) (t6 : Int) (r0 : List AV) : Option (AV × List Root) := LpO E fi121 [(5, [0, 1, 5, 6], 1), (6, [0, 1, 5, 6], 1)] 1 (.pr 0) [true, true, true, false, true, false] (mkT 42 [(0, (.sl 0 [] (some (t0o, t0n)))), (1, (.fn 126 [(.ip t1_0 0)])), (5, (.i .i64 t5)), (6, (.i .i64 t6))]) [(.live true false false 66 r0)]
noncomputable def f121o3_j2 (t0o : Nat) (t0n : Nat) (t1_0 : AV) (t5 : Int) (t6 : Int) (r0 : List AV) : Option (AV × List Root) := JnO E fi121 [(5, [0, 1, 5, 6], 1), (6, [0, 1, 5, 6], 1)] 1 (.pr 0) [true, true, true, false, true, false, false, true, true] (mkT 42 [(0, (.sl 0 [] (some (t0o, t0n)))), (1, (.fn 126 [(.ip t1_0 0)])), (5, (.i .i64 t5)), (6, (.i .i64 t6))]) [(.live true false false 66 r0)]
theorem f121o3_eq (x0o : Nat) (x0n : Nat) (x1_0 : AV) (s0 : List AV) : dno E 121 [(.sl 0 [] (some (x0o, x0n))), (.fn 126 [(.ip x1_0 0)])] [(.live true false false 66 s0)] =
 bSh (.i .i64) (den E 168 [(.imm 5 ((s0.drop x0o).take x0n)), (.fn 126 [(.ip x1_0 0)])] []) fun a1 =>
 cond (decide (a1.toI = (-1 : Int)))
 (some ((.sl 0 [] (some (x0o, x0n))), [(.live true false false 66 s0)]))
 (f121o3_l1 x0o x0n x1_0 a1.toI (IntKind.i64.wrap (a1.toI + (1 : Int))) s0) := (dno_eq ..).trans (by kernel_rfl)
theorem f121o3_l1_eq (t0o : Nat) (t0n : Nat) (t1_0 : AV) (t5 : Int) (t6 : Int) (r0 : List AV) : f121o3_l1 t0o t0n t1_0 t5 t6 r0 =
 cond (decide (t6 < ((t0n : Nat) : Int)))
 (if 0 ≤ t6 ∧ t6 < ((t0n : Nat) : Int) then
 if okCells false (r0.getD (t0o + t6.toNat) .x) 0 [.s, (.i .i64), (.i .i64), .s, .s] = true then
 bSh .b (den E 126 [(.agg [(.s (((r0.getD (t0o + t6.toNat) .x).cells.getD 0 .x).toS)), (.i .i64 (((r0.getD (t0o + t6.toNat) .x).cells.getD 1 .x).toI)), (.i .i64 (((r0.getD (t0o + t6.toNat) .x).cells.getD 2 .x).toI)), (.s (((r0.getD (t0o + t6.toNat) .x).cells.getD 3 .x).toS)), (.s (((r0.getD (t0o + t6.toNat) .x).cells.getD 4 .x).toS))]), (.ip t1_0 0)] []) fun a1 =>
 cond (!a1.toB)
 (if 0 ≤ t5 ∧ t5 < ((t0n : Nat) : Int) then
 f121o3_j2 t0o t0n t1_0 (IntKind.i64.wrap (t5 + (1 : Int))) t6 (r0.set (t0o + t5.toNat) ((r0.getD (t0o + t5.toNat) .x).putCells 0 [(.s (((r0.getD (t0o + t6.toNat) .x).cells.getD 0 .x).toS)), (.i .i64 (((r0.getD (t0o + t6.toNat) .x).cells.getD 1 .x).toI)), (.i .i64 (((r0.getD (t0o + t6.toNat) .x).cells.getD 2 .x).toI)), (.s (((r0.getD (t0o + t6.toNat) .x).cells.getD 3 .x).toS)), (.s (((r0.getD (t0o + t6.toNat) .x).cells.getD 4 .x).toS))]))
 else none)
 (f121o3_j2 t0o t0n t1_0 t5 t6 r0)
 else none
 else none)
 (if 0 ≤ t5 ∧ t5 ≤ ((t0n : Nat) : Int) ∧ ((t0n : Nat) : Int) ≤ ((t0n : Nat) : Int) then
 if 0 ≤ (0 : Int) ∧ (0 : Int) ≤ t5 ∧ t5 ≤ ((t0n : Nat) : Int) then
 some ((.sl 0 [] (some ((t0o + (0 : Int).toNat), (t5.toNat - (0 : Int).toNat)))), [(.live true false false 66 (r0.take (t0o + t5.toNat) ++ List.replicate (((t0n : Nat) : Int).toNat - t5.toNat) ((.agg [(.s .empty), (.i .i64 (0 : Int)), (.i .i64 (0 : Int)), (.s .empty), (.s .empty)]) : AV) ++ r0.drop ((t0o + t5.toNat) + (((t0n : Nat) : Int).toNat - t5.toNat))))])
 else none
 else none) := (LpO_eq ..).trans (by kernel_rfl)
theorem f121o3_j2_eq (t0o : Nat) (t0n : Nat) (t1_0 : AV) (t5 : Int) (t6 : Int) (r0 : List AV) : f121o3_j2 t0o t0n t1_0 t5 t6 r0 =
 f121o3_l1 t0o t0n t1_0 t5 (IntKind.i64.wrap (t6 + (1 : Int))) r0 := by kernel_rfl
/-! 71: loop.example/g00905/impl.dropHidden -/
theorem f71o1_eq (x0 : List AV) (x1 : List AV) (x2 : Bool) : dno E 71 [(.imm 5 x0), (.imm 1 x1), (.b x2)] [] =
 bOwn (.so 0) [(.row true 66)] 0 (dno E 80 [(.imm 5 x0)] []) fun a1 =>
 bOwnFS (.pr 0) [(.same 66)] 1 [(.live true false false 66 ((a1.2.getD 0 .dead).row))] (dno E 121 [(.sl 0 [] none), (.fn 122 [(.ip (.imm 5 x0) 0), (.ip (.imm 1 x1) 0)])] [(.live true false false 66 ((a1.2.getD 0 .dead).row))]) fun a2 =>
 cond (!x2)
 (some ((.sl 0 [] (some (a2.1.off, a2.1.cnt))), [(.live true false false 66 ((a2.2.getD 0 .dead).row))]))
 (bOwnF (.so 0) [(.row true 66)] 0 (dno E 80 [(.imm 5 ((((a2.2.getD 0 .dead).row).drop a2.1.off).take a2.1.cnt))] []) fun a3 =>
 bOwnS (.pr 0) [(.same 66)] 1 [(.live true false false 66 ((a3.2.getD 0 .dead).row))] (dno E 121 [(.sl 0 [] none), (.fn 125 [])] [(.live true false false 66 ((a3.2.getD 0 .dead).row))]) fun a4 =>
 bOwnFS (.pr 0) [(.same 66)] 1 [(.live true false false 66 ((a2.2.getD 0 .dead).row))] (dno E 121 [(.sl 0 [] (some (a2.1.off, a2.1.cnt))), (.fn 126 [(.ip (.imm 5 ((((a4.2.getD 0 .dead).row).drop a4.1.off).take a4.1.cnt)) 0)])] [(.live true false false 66 ((a2.2.getD 0 .dead).row))]) fun a5 =>
 some ((.sl 0 [] (some (a5.1.off, a5.1.cnt))), [(.live true false false 66 ((a5.2.getD 0 .dead).row))])) := (dno_eq ..).trans (by kernel_rfl)
/-! 28: loop.example/g00905/impl.DropHidden -/
theorem f28o1_eq (x0 : List AV) (x1 : List AV) (x2 : Bool) : dno E 28 [(.imm 5 x0), (.imm 1 x1), (.b x2)] [] =
 bSh .b (den E 62 [(.imm 5 x0)] []) fun a1 =>
 cond ((!a1.toB) == false)
 (bSh .b (den E 70 [(.imm 1 x1)] []) fun a2 =>
 cond (!a2.toB)
 (some ((.sl 0 [] (some (0, ([] : List AV).length))), [(.live true false false 66 [])]))
 (bOwn (.pr 0) [(.row true 66)] 0 (dno E 71 [(.imm 5 x0), (.imm 1 x1), (.b x2)] []) fun a3 =>
 some ((.sl 0 [] (some (a3.1.off, a3.1.cnt))), [(.live true false false 66 ((a3.2.getD 0 .dead).row))])))
 (some ((.sl 0 [] (some (0, ([] : List AV).length))), [(.live true false false 66 [])])) := (dno_eq ..).trans (by kernel_rfl)
/-! 66: loop.example/g00905/laws.eqRecord -/
theorem f66_eq (x0_0 : ByteArray) (x0_1 : Int) (x0_2 : Int) (x0_3 : ByteArray) (x0_4 : ByteArray) (x1_0 : ByteArray) (x1_1 : Int) (x1_2 : Int) (x1_3 : ByteArray) (x1_4 : ByteArray) : den E 66 [(.agg [(.s x0_0), (.i .i64 x0_1), (.i .i64 x0_2), (.s x0_3), (.s x0_4)]), (.agg [(.s x1_0), (.i .i64 x1_1), (.i .i64 x1_2), (.s x1_3), (.s x1_4)])] [] =
 cond (!decide (x0_0 = x1_0))
 (some (.b false))
 (cond (!decide (x0_1 = x1_1))
 (some (.b false))
 (cond (!decide (x0_2 = x1_2))
 (some (.b false))
 (cond (!decide (x0_3 = x1_3))
 (some (.b false))
 (cond (!decide (x0_4 = x1_4))
 (some (.b false))
 (some (.b true)))))) := (den_eq ..).trans (by kernel_rfl)
/-! 20: loop.example/g00905/laws.eqRecordS -/
noncomputable def f20_l1 (t0 : List AV) (t1 : List AV) (t5 : Int) : Option AV := Lp E fi20 [true, true, false, true, false] (mkT 27 [(0, (.imm 5 t0)), (1, (.imm 5 t1)), (5, (.i .i64 t5))]) []
theorem f20_eq (x0 : List AV) (x1 : List AV) : den E 20 [(.imm 5 x0), (.imm 5 x1)] [] =
 cond (!decide (((x0.length : Nat) : Int) = ((x1.length : Nat) : Int)))
 (some (.b false))
 (f20_l1 x0 x1 (0 : Int)) := (den_eq ..).trans (by kernel_rfl)
theorem f20_l1_eq (t0 : List AV) (t1 : List AV) (t5 : Int) : f20_l1 t0 t1 t5 =
 cond (decide (t5 < ((t0.length : Nat) : Int)))
 (if 0 ≤ t5 ∧ t5 < ((t0.length : Nat) : Int) then
 if okCells false (t0.getD t5.toNat .x) 0 [.s, (.i .i64), (.i .i64), .s, .s] = true then
 if 0 ≤ t5 ∧ t5 < ((t1.length : Nat) : Int) then
 if okCells false (t1.getD t5.toNat .x) 0 [.s, (.i .i64), (.i .i64), .s, .s] = true then
 bSh .b (den E 66 [(.agg [(.s (((t0.getD t5.toNat .x).cells.getD 0 .x).toS)), (.i .i64 (((t0.getD t5.toNat .x).cells.getD 1 .x).toI)), (.i .i64 (((t0.getD t5.toNat .x).cells.getD 2 .x).toI)), (.s (((t0.getD t5.toNat .x).cells.getD 3 .x).toS)), (.s (((t0.getD t5.toNat .x).cells.getD 4 .x).toS))]), (.agg [(.s (((t1.getD t5.toNat .x).cells.getD 0 .x).toS)), (.i .i64 (((t1.getD t5.toNat .x).cells.getD 1 .x).toI)), (.i .i64 (((t1.getD t5.toNat .x).cells.getD 2 .x).toI)), (.s (((t1.getD t5.toNat .x).cells.getD 3 .x).toS)), (.s (((t1.getD t5.toNat .x).cells.getD 4 .x).toS))])] []) fun a1 =>
 cond (!a1.toB)
 (some (.b false))
 (f20_l1 t0 t1 (IntKind.i64.wrap (t5 + (1 : Int))))
 else none
 else none
 else none
 else none)
 (some (.b true)) := (Lp_eq ..).trans (by kernel_rfl)
/-! 29: loop.example/g00905/laws.eqInt64S -/
noncomputable def f29_l1 (t0 : List AV) (t1 : List AV) (t5 : Int) : Option AV := Lp E fi29 [true, true, false, true, false] (mkT 26 [(0, (.imm 1 t0)), (1, (.imm 1 t1)), (5, (.i .i64 t5))]) []
theorem f29_eq (x0 : List AV) (x1 : List AV) : den E 29 [(.imm 1 x0), (.imm 1 x1)] [] =
 cond (!decide (((x0.length : Nat) : Int) = ((x1.length : Nat) : Int)))
 (some (.b false))
 (f29_l1 x0 x1 (0 : Int)) := (den_eq ..).trans (by kernel_rfl)
theorem f29_l1_eq (t0 : List AV) (t1 : List AV) (t5 : Int) : f29_l1 t0 t1 t5 =
 cond (decide (t5 < ((t0.length : Nat) : Int)))
 (if 0 ≤ t5 ∧ t5 < ((t0.length : Nat) : Int) then
 if okCells false (t0.getD t5.toNat .x) 0 [(.i .i64)] = true then
 if 0 ≤ t5 ∧ t5 < ((t1.length : Nat) : Int) then
 if okCells false (t1.getD t5.toNat .x) 0 [(.i .i64)] = true then
 cond (!decide ((((t0.getD t5.toNat .x).cells.getD 0 .x).toI) = (((t1.getD t5.toNat .x).cells.getD 0 .x).toI)))
 (some (.b false))
 (f29_l1 t0 t1 (IntKind.i64.wrap (t5 + (1 : Int))))
 else none
 else none
 else none
 else none)
 (some (.b true)) := (Lp_eq ..).trans (by kernel_rfl)
/-! 67: loop.example/g00905/laws.markText -/
noncomputable def f67_l1 (t0 : Int) (t3 : ByteArray) : Option AV := Lp E fi67 [true, true, true, false, false] (mkT 20 [(0, (.i .i64 t0)), (3, (.s t3))]) []
theorem f67_eq (x0 : Int) : den E 67 [(.i .i64 x0)] [] =
 cond (decide (x0 ≤ (0 : Int)))
 (some (.s ({ data := #[109, 48] } : ByteArray)))
 (f67_l1 x0 ({ data := #[] } : ByteArray)) := (den_eq ..).trans (by kernel_rfl)
theorem f67_l1_eq (t0 : Int) (t3 : ByteArray) : f67_l1 t0 t3 =
 cond (decide ((0 : Int) < t0))
 (if (([(.i .u8 (IntKind.u8.wrap (IntKind.i64.wrap ((48 : Int) + (t0.tmod (10 : Int))))))] : List AV)).all isU8 = true then
 if (bytesOf [(.i .u8 (IntKind.u8.wrap (IntKind.i64.wrap ((48 : Int) + (t0.tmod (10 : Int))))))]).size + t3.size ≤ 9223372036854775807 then
 f67_l1 (IntKind.i64.wrap (t0.tdiv (10 : Int))) ((bytesOf [(.i .u8 (IntKind.u8.wrap (IntKind.i64.wrap ((48 : Int) + (t0.tmod (10 : Int))))))]) ++ t3)
 else none
 else none)
 (if ({ data := #[109] } : ByteArray).size + t3.size ≤ 9223372036854775807 then
 some (.s (({ data := #[109] } : ByteArray) ++ t3))
 else none) := (Lp_eq ..).trans (by kernel_rfl)
/-! 21: loop.example/g00905/laws.markRecordS -/
noncomputable def f21o1_l1 (t1 : Int) (t5 : Int) (r0 : List AV) : Option (AV × List Root) := LpO E fi21 [(2, [0, 1, 5], 1)] 1 (.i .i64) [true, false, true, false] (mkT 51 [(0, (.sl 0 [] none)), (1, (.i .i64 t1)), (5, (.i .i64 t5))]) [(.live true false false 66 r0)]
theorem f21o1_eq (x1 : Int) (s0 : List AV) : dno E 21 [(.sl 0 [] none), (.i .i64 x1)] [(.live true false false 66 s0)] =
 f21o1_l1 x1 (0 : Int) s0 := (dno_eq ..).trans (by kernel_rfl)
theorem f21o1_l1_eq (t1 : Int) (t5 : Int) (r0 : List AV) : f21o1_l1 t1 t5 r0 =
 cond (decide (t5 < ((r0.length : Nat) : Int)))
 (bSh .s (den E 67 [(.i .i64 t1)] []) fun a1 =>
 if 0 ≤ t5 ∧ t5 < ((r0.length : Nat) : Int) then
 if 0 ≤ t5 ∧ t5 < (((r0.set (0 + t5.toNat) ((r0.getD (0 + t5.toNat) .x).putCells 0 [(.s a1.toS)])).length : Nat) : Int) then
 if 0 ≤ t5 ∧ t5 < ((((r0.set (0 + t5.toNat) ((r0.getD (0 + t5.toNat) .x).putCells 0 [(.s a1.toS)])).set (0 + t5.toNat) (((r0.set (0 + t5.toNat) ((r0.getD (0 + t5.toNat) .x).putCells 0 [(.s a1.toS)])).getD (0 + t5.toNat) .x).putCells 1 [(.i .i64 (IntKind.i64.wrap (t1 + (1 : Int))))])).length : Nat) : Int) then
 bSh .s (den E 67 [(.i .i64 (IntKind.i64.wrap ((IntKind.i64.wrap ((IntKind.i64.wrap (t1 + (1 : Int))) + (1 : Int))) + (1 : Int))))] []) fun a2 =>
 if 0 ≤ t5 ∧ t5 < (((putAt ((r0.set (0 + t5.toNat) ((r0.getD (0 + t5.toNat) .x).putCells 0 [(.s a1.toS)])).set (0 + t5.toNat) (((r0.set (0 + t5.toNat) ((r0.getD (0 + t5.toNat) .x).putCells 0 [(.s a1.toS)])).getD (0 + t5.toNat) .x).putCells 1 [(.i .i64 (IntKind.i64.wrap (t1 + (1 : Int))))])) (0 + t5.toNat) 2 [(.i .i64 (IntKind.i64.wrap ((IntKind.i64.wrap (t1 + (1 : Int))) + (1 : Int))))]).length : Nat) : Int) then
 bSh .s (den E 67 [(.i .i64 (IntKind.i64.wrap ((IntKind.i64.wrap ((IntKind.i64.wrap ((IntKind.i64.wrap (t1 + (1 : Int))) + (1 : Int))) + (1 : Int))) + (1 : Int))))] []) fun a3 =>
 if 0 ≤ t5 ∧ t5 < (((putAt (putAt ((r0.set (0 + t5.toNat) ((r0.getD (0 + t5.toNat) .x).putCells 0 [(.s a1.toS)])).set (0 + t5.toNat) (((r0.set (0 + t5.toNat) ((r0.getD (0 + t5.toNat) .x).putCells 0 [(.s a1.toS)])).getD (0 + t5.toNat) .x).putCells 1 [(.i .i64 (IntKind.i64.wrap (t1 + (1 : Int))))])) (0 + t5.toNat) 2 [(.i .i64 (IntKind.i64.wrap ((IntKind.i64.wrap (t1 + (1 : Int))) + (1 : Int))))]) (0 + t5.toNat) 3 [(.s a2.toS)]).length : Nat) : Int) then
 f21o1_l1 (IntKind.i64.wrap ((IntKind.i64.wrap ((IntKind.i64.wrap ((IntKind.i64.wrap ((IntKind.i64.wrap (t1 + (1 : Int))) + (1 : Int))) + (1 : Int))) + (1 : Int))) + (1 : Int))) (IntKind.i64.wrap (t5 + (1 : Int))) (putAt (putAt (putAt ((r0.set (0 + t5.toNat) ((r0.getD (0 + t5.toNat) .x).putCells 0 [(.s a1.toS)])).set (0 + t5.toNat) (((r0.set (0 + t5.toNat) ((r0.getD (0 + t5.toNat) .x).putCells 0 [(.s a1.toS)])).getD (0 + t5.toNat) .x).putCells 1 [(.i .i64 (IntKind.i64.wrap (t1 + (1 : Int))))])) (0 + t5.toNat) 2 [(.i .i64 (IntKind.i64.wrap ((IntKind.i64.wrap (t1 + (1 : Int))) + (1 : Int))))]) (0 + t5.toNat) 3 [(.s a2.toS)]) (0 + t5.toNat) 4 [(.s a3.toS)])
 else none
 else none
 else none
 else none
 else none)
 (some ((.i .i64 t1), [(.live true false false 66 r0)])) := (LpO_eq ..).trans (by kernel_rfl)
/-! 30: loop.example/g00905/laws.markInt64S -/
noncomputable def f30o1_l1 (t1 : Int) (t5 : Int) (r0 : List AV) : Option (AV × List Root) := LpO E fi30 [(2, [0, 1, 5], 1)] 1 (.i .i64) [true, false, true, false] (mkT 19 [(0, (.sl 0 [] none)), (1, (.i .i64 t1)), (5, (.i .i64 t5))]) [(.live true false false 2 r0)]
theorem f30o1_eq (x1 : Int) (s0 : List AV) : dno E 30 [(.sl 0 [] none), (.i .i64 x1)] [(.live true false false 2 s0)] =
 f30o1_l1 x1 (0 : Int) s0 := (dno_eq ..).trans (by kernel_rfl)
theorem f30o1_l1_eq (t1 : Int) (t5 : Int) (r0 : List AV) : f30o1_l1 t1 t5 r0 =
 cond (decide (t5 < ((r0.length : Nat) : Int)))
 (if 0 ≤ t5 ∧ t5 < ((r0.length : Nat) : Int) then
 f30o1_l1 (IntKind.i64.wrap (t1 + (1 : Int))) (IntKind.i64.wrap (t5 + (1 : Int))) (r0.set (0 + t5.toNat) ((r0.getD (0 + t5.toNat) .x).putCells 0 [(.i .i64 t1)]))
 else none)
 (some ((.i .i64 t1), [(.live true false false 2 r0)])) := (LpO_eq ..).trans (by kernel_rfl)
/-! 21: loop.example/g00905/laws.markRecordS -/
noncomputable def f21o2_l1 (t0o : Nat) (t0n : Nat) (t1 : Int) (t5 : Int) (r0 : List AV) : Option (AV × List Root) := LpO E fi21 [(2, [0, 1, 5], 1)] 1 (.i .i64) [true, false, true, false] (mkT 51 [(0, (.sl 0 [] (some (t0o, t0n)))), (1, (.i .i64 t1)), (5, (.i .i64 t5))]) [(.live true false false 66 r0)]
theorem f21o2_eq (x0o : Nat) (x0n : Nat) (x1 : Int) (s0 : List AV) : dno E 21 [(.sl 0 [] (some (x0o, x0n))), (.i .i64 x1)] [(.live true false false 66 s0)] =
 f21o2_l1 x0o x0n x1 (0 : Int) s0 := (dno_eq ..).trans (by kernel_rfl)
theorem f21o2_l1_eq (t0o : Nat) (t0n : Nat) (t1 : Int) (t5 : Int) (r0 : List AV) : f21o2_l1 t0o t0n t1 t5 r0 =
 cond (decide (t5 < ((t0n : Nat) : Int)))
 (bSh .s (den E 67 [(.i .i64 t1)] []) fun a1 =>
 if 0 ≤ t5 ∧ t5 < ((t0n : Nat) : Int) then
 if 0 ≤ t5 ∧ t5 < ((t0n : Nat) : Int) then
 if 0 ≤ t5 ∧ t5 < ((t0n : Nat) : Int) then
 bSh .s (den E 67 [(.i .i64 (IntKind.i64.wrap ((IntKind.i64.wrap ((IntKind.i64.wrap (t1 + (1 : Int))) + (1 : Int))) + (1 : Int))))] []) fun a2 =>
 if 0 ≤ t5 ∧ t5 < ((t0n : Nat) : Int) then
 bSh .s (den E 67 [(.i .i64 (IntKind.i64.wrap ((IntKind.i64.wrap ((IntKind.i64.wrap ((IntKind.i64.wrap (t1 + (1 : Int))) + (1 : Int))) + (1 : Int))) + (1 : Int))))] []) fun a3 =>
 if 0 ≤ t5 ∧ t5 < ((t0n : Nat) : Int) then
 f21o2_l1 t0o t0n (IntKind.i64.wrap ((IntKind.i64.wrap ((IntKind.i64.wrap ((IntKind.i64.wrap ((IntKind.i64.wrap (t1 + (1 : Int))) + (1 : Int))) + (1 : Int))) + (1 : Int))) + (1 : Int))) (IntKind.i64.wrap (t5 + (1 : Int))) (putAt (putAt (putAt ((r0.set (t0o + t5.toNat) ((r0.getD (t0o + t5.toNat) .x).putCells 0 [(.s a1.toS)])).set (t0o + t5.toNat) (((r0.set (t0o + t5.toNat) ((r0.getD (t0o + t5.toNat) .x).putCells 0 [(.s a1.toS)])).getD (t0o + t5.toNat) .x).putCells 1 [(.i .i64 (IntKind.i64.wrap (t1 + (1 : Int))))])) (t0o + t5.toNat) 2 [(.i .i64 (IntKind.i64.wrap ((IntKind.i64.wrap (t1 + (1 : Int))) + (1 : Int))))]) (t0o + t5.toNat) 3 [(.s a2.toS)]) (t0o + t5.toNat) 4 [(.s a3.toS)])
 else none
 else none
 else none
 else none
 else none)
 (some ((.i .i64 t1), [(.live true false false 66 r0)])) := (LpO_eq ..).trans (by kernel_rfl)
/-! 31: loop.example/g00905/laws.heldRecordS -/
noncomputable def f31_l1 (t0 : List AV) (t1 : Int) (t5 : Int) : Option AV := Lp E fi31 [true, false, true, false] (mkT 61 [(0, (.imm 5 t0)), (1, (.i .i64 t1)), (5, (.i .i64 t5))]) []
theorem f31_eq (x0 : List AV) (x1 : Int) : den E 31 [(.imm 5 x0), (.i .i64 x1)] [] =
 f31_l1 x0 x1 (0 : Int) := (den_eq ..).trans (by kernel_rfl)
theorem f31_l1_eq (t0 : List AV) (t1 : Int) (t5 : Int) : f31_l1 t0 t1 t5 =
 cond (decide (t5 < ((t0.length : Nat) : Int)))
 (if 0 ≤ t5 ∧ t5 < ((t0.length : Nat) : Int) then
 if okCells false (t0.getD t5.toNat .x) 0 [.s] = true then
 bSh .s (den E 67 [(.i .i64 t1)] []) fun a1 =>
 cond (!decide ((((t0.getD t5.toNat .x).cells.getD 0 .x).toS) = a1.toS))
 (some (.i .i64 (-1 : Int)))
 (if 0 ≤ t5 ∧ t5 < ((t0.length : Nat) : Int) then
 if okCells false (t0.getD t5.toNat .x) 1 [(.i .i64)] = true then
 cond (!decide ((((t0.getD t5.toNat .x).cells.getD 1 .x).toI) = (IntKind.i64.wrap (t1 + (1 : Int)))))
 (some (.i .i64 (-1 : Int)))
 (if 0 ≤ t5 ∧ t5 < ((t0.length : Nat) : Int) then
 if okCells false (t0.getD t5.toNat .x) 2 [(.i .i64)] = true then
 cond (!decide ((((t0.getD t5.toNat .x).cells.getD 2 .x).toI) = (IntKind.i64.wrap ((IntKind.i64.wrap (t1 + (1 : Int))) + (1 : Int)))))
 (some (.i .i64 (-1 : Int)))
 (if 0 ≤ t5 ∧ t5 < ((t0.length : Nat) : Int) then
 if okCells false (t0.getD t5.toNat .x) 3 [.s] = true then
 bSh .s (den E 67 [(.i .i64 (IntKind.i64.wrap ((IntKind.i64.wrap ((IntKind.i64.wrap (t1 + (1 : Int))) + (1 : Int))) + (1 : Int))))] []) fun a2 =>
 cond (!decide ((((t0.getD t5.toNat .x).cells.getD 3 .x).toS) = a2.toS))
 (some (.i .i64 (-1 : Int)))
 (if 0 ≤ t5 ∧ t5 < ((t0.length : Nat) : Int) then
 if okCells false (t0.getD t5.toNat .x) 4 [.s] = true then
 bSh .s (den E 67 [(.i .i64 (IntKind.i64.wrap ((IntKind.i64.wrap ((IntKind.i64.wrap ((IntKind.i64.wrap (t1 + (1 : Int))) + (1 : Int))) + (1 : Int))) + (1 : Int))))] []) fun a3 =>
 cond (!decide ((((t0.getD t5.toNat .x).cells.getD 4 .x).toS) = a3.toS))
 (some (.i .i64 (-1 : Int)))
 (f31_l1 t0 (IntKind.i64.wrap ((IntKind.i64.wrap ((IntKind.i64.wrap ((IntKind.i64.wrap ((IntKind.i64.wrap (t1 + (1 : Int))) + (1 : Int))) + (1 : Int))) + (1 : Int))) + (1 : Int))) (IntKind.i64.wrap (t5 + (1 : Int))))
 else none
 else none)
 else none
 else none)
 else none
 else none)
 else none
 else none)
 else none
 else none)
 (some (.i .i64 t1)) := (Lp_eq ..).trans (by kernel_rfl)
/-! 6: loop.example/g00905/laws.FnExactDropHidden -/
theorem f6_eq (x0 : List AV) (x1 : List AV) (x2 : Bool) : den E 6 [(.imm 5 x0), (.imm 1 x1), (.b x2)] [] =
 cond (decide ((1048576 : Int) < ((x1.length : Nat) : Int)))
 (some (.b true))
 (bSh (.i .i64) (den E 15 [(.imm 5 x0), (.i .i64 (1048576 : Int))] []) fun a1 =>
 cond (decide (a1.toI < (0 : Int)))
 (some (.b true))
 (bOwn (.so 0) [(.row true 66)] 0 (dno E 17 [(.imm 5 x0)] []) fun a2 =>
 bOwn (.so 0) [(.row true 2)] 0 (dno E 27 [(.imm 1 x1)] []) fun a3 =>
 bOwnF (.so 0) [(.row true 66)] 0 (dno E 26 [(.imm 5 ((a2.2.getD 0 .dead).row)), (.imm 1 ((a3.2.getD 0 .dead).row)), (.b x2)] []) fun a4 =>
 bOwn (.so 0) [(.row true 66)] 0 (dno E 17 [(.imm 5 x0)] []) fun a5 =>
 bOwn (.so 0) [(.row true 2)] 0 (dno E 27 [(.imm 1 x1)] []) fun a6 =>
 bOwnF (.pr 0) [(.row true 66)] 0 (dno E 28 [(.imm 5 ((a5.2.getD 0 .dead).row)), (.imm 1 ((a6.2.getD 0 .dead).row)), (.b x2)] []) fun a7 =>
 bSh .b (den E 20 [(.imm 5 ((((a7.2.getD 0 .dead).row).drop a7.1.off).take a7.1.cnt)), (.imm 5 ((a4.2.getD 0 .dead).row))] []) fun a8 =>
 cond (!a8.toB)
 (some (.b false))
 (bOwn (.so 0) [(.row true 66)] 0 (dno E 17 [(.imm 5 x0)] []) fun a9 =>
 bSh .b (den E 20 [(.imm 5 ((a5.2.getD 0 .dead).row)), (.imm 5 ((a9.2.getD 0 .dead).row))] []) fun a10 =>
 cond (!a10.toB)
 (some (.b false))
 (bOwn (.so 0) [(.row true 2)] 0 (dno E 27 [(.imm 1 x1)] []) fun a11 =>
 bSh .b (den E 29 [(.imm 1 ((a6.2.getD 0 .dead).row)), (.imm 1 ((a11.2.getD 0 .dead).row))] []) fun a12 =>
 cond (!a12.toB)
 (some (.b false))
 (bOwnS (.i .i64) [(.same 66)] 1 [(.live true false false 66 ((a5.2.getD 0 .dead).row))] (dno E 21 [(.sl 0 [] none), (.i .i64 (1 : Int))] [(.live true false false 66 ((a5.2.getD 0 .dead).row))]) fun a13 =>
 bOwnS (.i .i64) [(.same 2)] 1 [(.live true false false 2 ((a6.2.getD 0 .dead).row))] (dno E 30 [(.sl 0 [] none), (.i .i64 a13.1.toI)] [(.live true false false 2 ((a6.2.getD 0 .dead).row))]) fun a14 =>
 cond ((decide (a14.1.toI < (0 : Int))) == false)
 (bSh .b (den E 20 [(.imm 5 ((((a7.2.getD 0 .dead).row).drop a7.1.off).take a7.1.cnt)), (.imm 5 ((a4.2.getD 0 .dead).row))] []) fun a15 =>
 cond (!a15.toB)
 (some (.b false))
 (bOwnS (.i .i64) [(.same 66)] 1 [(.live true false false 66 ((a7.2.getD 0 .dead).row))] (dno E 21 [(.sl 0 [] (some (a7.1.off, a7.1.cnt))), (.i .i64 (1 : Int))] [(.live true false false 66 ((a7.2.getD 0 .dead).row))]) fun a16 =>
 bSh (.i .i64) (den E 31 [(.imm 5 ((((a16.2.getD 0 .dead).row).drop a7.1.off).take a7.1.cnt)), (.i .i64 (1 : Int))] []) fun a17 =>
 cond (decide (a17.toI < (0 : Int)))
 (some (.b false))
 (cond (!decide (a17.toI = a16.1.toI))
 (some (.b false))
 (bOwn (.so 0) [(.row true 66)] 0 (dno E 17 [(.imm 5 x0)] []) fun a18 =>
 bOwn (.so 0) [(.row true 2)] 0 (dno E 27 [(.imm 1 x1)] []) fun a19 =>
 bOwnF (.pr 0) [(.row true 66)] 0 (dno E 28 [(.imm 5 ((a18.2.getD 0 .dead).row)), (.imm 1 ((a19.2.getD 0 .dead).row)), (.b x2)] []) fun a20 =>
 bSh .b (den E 20 [(.imm 5 ((((a20.2.getD 0 .dead).row).drop a20.1.off).take a20.1.cnt)), (.imm 5 ((a4.2.getD 0 .dead).row))] []) fun a21 =>
 cond (!a21.toB)
 (some (.b false))
 (bSh (.i .i64) (den E 31 [(.imm 5 ((((a16.2.getD 0 .dead).row).drop a7.1.off).take a7.1.cnt)), (.i .i64 (1 : Int))] []) fun a22 =>
 cond (decide (a22.toI < (0 : Int)))
 (some (.b false))
 (cond (!decide (a22.toI = a16.1.toI))
 (some (.b false))
 (some (.b true))))))))
 (some (.b false))))))) := (den_eq ..).trans (by kernel_rfl)
end Go.Proofs.Ytokpbjbngnlepaa.IDropHidden
