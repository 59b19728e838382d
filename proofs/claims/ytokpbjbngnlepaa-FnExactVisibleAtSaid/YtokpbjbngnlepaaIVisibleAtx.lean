/- Printed by a program of this work (wip/it/itp.py): what each function comes to. No condition. -/
import Derived.Test.YtokpbjbngnlepaaIVisibleAtt
namespace Go.Proofs.Ytokpbjbngnlepaa.IVisibleAt
open Go Go.Proofs.YtokpbjbngnlepaaIT
set_option linter.unusedVariables false
/-! 32: loop.example/g00905/laws.szRecord -/
theorem f32_eq (x0_0 : ByteArray) (x0_1 : Int) (x0_2 : Int) (x0_3 : ByteArray) (x0_4 : ByteArray) (x1 : Int) : den E 32 [(.agg [(.s x0_0), (.i .i64 x0_1), (.i .i64 x0_2), (.s x0_3), (.s x0_4)]), (.i .i64 x1)] [] =
 cond (decide ((IntKind.i64.wrap (x1 - ((x0_0.size : Nat) : Int))) < (0 : Int)))
 (some (.i .i64 (-1 : Int)))
 (cond (decide ((IntKind.i64.wrap ((IntKind.i64.wrap (x1 - ((x0_0.size : Nat) : Int))) - ((x0_3.size : Nat) : Int))) < (0 : Int)))
 (some (.i .i64 (-1 : Int)))
 (cond (decide ((IntKind.i64.wrap ((IntKind.i64.wrap ((IntKind.i64.wrap (x1 - ((x0_0.size : Nat) : Int))) - ((x0_3.size : Nat) : Int))) - ((x0_4.size : Nat) : Int))) < (0 : Int)))
 (some (.i .i64 (-1 : Int)))
 (some (.i .i64 (IntKind.i64.wrap ((IntKind.i64.wrap ((IntKind.i64.wrap (x1 - ((x0_0.size : Nat) : Int))) - ((x0_3.size : Nat) : Int))) - ((x0_4.size : Nat) : Int))))))) := (den_eq ..).trans (by kernel_rfl)
/-! 15: loop.example/g00905/laws.szRecordS -/
noncomputable def f15_l1 (t0 : List AV) (t1 : Int) (t5 : Int) : Option AV := Lp E fi15 [true, true, true, false, true, false] (mkT 27 [(0, (.imm 5 t0)), (1, (.i .i64 t1)), (5, (.i .i64 t5))]) []
theorem f15_eq (x0 : List AV) (x1 : Int) : den E 15 [(.imm 5 x0), (.i .i64 x1)] [] =
 cond (decide ((IntKind.i64.wrap (x1 - ((x0.length : Nat) : Int))) < (0 : Int)))
 (some (.i .i64 (-1 : Int)))
 (f15_l1 x0 (IntKind.i64.wrap (x1 - ((x0.length : Nat) : Int))) (0 : Int)) := (den_eq ..).trans (by kernel_rfl)
theorem f15_l1_eq (t0 : List AV) (t1 : Int) (t5 : Int) : f15_l1 t0 t1 t5 =
 cond (decide (t5 < ((t0.length : Nat) : Int)))
 (if 0 ≤ t5 ∧ t5 < ((t0.length : Nat) : Int) then
 if okCells false (t0.getD t5.toNat .x) 0 [.s, (.i .i64), (.i .i64), .s, .s] = true then
 bSh (.i .i64) (den E 32 [(.agg [(.s (((t0.getD t5.toNat .x).cells.getD 0 .x).toS)), (.i .i64 (((t0.getD t5.toNat .x).cells.getD 1 .x).toI)), (.i .i64 (((t0.getD t5.toNat .x).cells.getD 2 .x).toI)), (.s (((t0.getD t5.toNat .x).cells.getD 3 .x).toS)), (.s (((t0.getD t5.toNat .x).cells.getD 4 .x).toS))]), (.i .i64 t1)] []) fun a1 =>
 cond (decide (a1.toI < (0 : Int)))
 (some (.i .i64 (-1 : Int)))
 (f15_l1 t0 a1.toI (IntKind.i64.wrap (t5 + (1 : Int))))
 else none
 else none)
 (some (.i .i64 t1)) := (Lp_eq ..).trans (by kernel_rfl)
/-! 34: loop.example/g00905/laws.toRecord -/
theorem f34_eq (x0_0 : ByteArray) (x0_1 : Int) (x0_2 : Int) (x0_3 : ByteArray) (x0_4 : ByteArray) : den E 34 [(.agg [(.s x0_0), (.i .i64 x0_1), (.i .i64 x0_2), (.s x0_3), (.s x0_4)])] [] =
 some (.agg [(.s x0_0), (.i .i64 x0_1), (.i .i64 x0_2), (.s x0_3), (.s x0_4)]) := (den_eq ..).trans (by kernel_rfl)
/-! 17: loop.example/g00905/laws.toRecordS -/
noncomputable def f17o1_l1 (t0 : List AV) (t4 : Int) (r0 : List AV) (r1 : List AV) : Option (AV × List Root) := LpO E fi17 [(3, [0, 3, 4], 2)] 0 (.so 0) [true, true, false, true, false] (mkT 23 [(0, (.imm 5 t0)), (3, (.sl 1 [] none)), (4, (.i .i64 t4))]) [(.live true false false 66 r0), (.live true false false 66 r1)]
theorem f17o1_eq (x0 : List AV) : dno E 17 [(.imm 5 x0)] [] =
 if 0 ≤ ((x0.length : Nat) : Int) ∧ ((x0.length : Nat) : Int) ≤ ((x0.length : Nat) : Int) ∧ ((x0.length : Nat) : Int) * ((64 : Nat) : Int) ≤ ((room : Nat) : Int) ∧ ((x0.length : Nat) : Int) ≤ 9223372036854775807 then
 f17o1_l1 x0 (0 : Int) [] (List.replicate ((x0.length : Nat) : Int).toNat (.agg [(.s .empty), (.i .i64 (0 : Int)), (.i .i64 (0 : Int)), (.s .empty), (.s .empty)]))
 else none := (dno_eq ..).trans (by kernel_rfl)
theorem f17o1_l1_eq (t0 : List AV) (t4 : Int) (r0 : List AV) (r1 : List AV) : f17o1_l1 t0 t4 r0 r1 =
 cond (decide (t4 < ((t0.length : Nat) : Int)))
 (if 0 ≤ t4 ∧ t4 < ((t0.length : Nat) : Int) then
 if okCells false (t0.getD t4.toNat .x) 0 [.s, (.i .i64), (.i .i64), .s, .s] = true then
 bSh (.agg [.s, (.i .i64), (.i .i64), .s, .s]) (den E 34 [(.agg [(.s (((t0.getD t4.toNat .x).cells.getD 0 .x).toS)), (.i .i64 (((t0.getD t4.toNat .x).cells.getD 1 .x).toI)), (.i .i64 (((t0.getD t4.toNat .x).cells.getD 2 .x).toI)), (.s (((t0.getD t4.toNat .x).cells.getD 3 .x).toS)), (.s (((t0.getD t4.toNat .x).cells.getD 4 .x).toS))])] []) fun a1 =>
 if 0 ≤ t4 ∧ t4 < ((r1.length : Nat) : Int) then
 f17o1_l1 t0 (IntKind.i64.wrap (t4 + (1 : Int))) r0 (r1.set (0 + t4.toNat) ((r1.getD (0 + t4.toNat) .x).putCells 0 [(.s ((a1.nth 0).toS)), (.i .i64 ((a1.nth 1).toI)), (.i .i64 ((a1.nth 2).toI)), (.s ((a1.nth 3).toS)), (.s ((a1.nth 4).toS))]))
 else none
 else none
 else none)
 (some ((.sl 0 [] none), [(.live true false false 66 r1)])) := (LpO_eq ..).trans (by kernel_rfl)
/-! 110: loop.example/g00905/spec.l17Key -/
theorem f110_eq (x0 : ByteArray) : den E 110 [(.s x0)] [] =
 cond ((decide ((1 : Int) ≤ ((x0.size : Nat) : Int))) == true)
 (some (.b (decide (((x0.size : Nat) : Int) ≤ (8 : Int)))))
 (some (.b false)) := (den_eq ..).trans (by kernel_rfl)
/-! 97: loop.example/g00905/spec.l00In -/
theorem f97_eq (x0 : Int) (x1 : Int) (x2 : Int) : den E 97 [(.i .i64 x0), (.i .i64 x1), (.i .i64 x2)] [] =
 cond ((decide (x1 ≤ x0)) == true)
 (some (.b (decide (x0 ≤ x2))))
 (some (.b false)) := (den_eq ..).trans (by kernel_rfl)
/-! 73: loop.example/g00905/spec.l17Valid -/
theorem f73_eq (x0_0 : ByteArray) (x0_1 : Int) (x0_2 : Int) (x0_3 : ByteArray) (x0_4 : ByteArray) : den E 73 [(.agg [(.s x0_0), (.i .i64 x0_1), (.i .i64 x0_2), (.s x0_3), (.s x0_4)])] [] =
 bSh .b (den E 110 [(.s x0_0)] []) fun a1 =>
 cond ((!a1.toB) == false)
 (bSh .b (den E 97 [(.i .i64 x0_1), (.i .i64 (1 : Int)), (.i .i64 (1000000 : Int))] []) fun a2 =>
 cond (!a2.toB)
 (some (.b false))
 (cond (decide (x0_2 = (1 : Int)))
 (cond ((decide (((x0_3.size : Nat) : Int) ≤ (16 : Int))) == true)
 (some (.b (decide (x0_4 = ({ data := #[] } : ByteArray)))))
 (some (.b false)))
 (cond (decide (x0_2 = (2 : Int)))
 (cond ((decide (x0_3 = ({ data := #[] } : ByteArray))) == true)
 (some (.b (decide (x0_4 = ({ data := #[] } : ByteArray)))))
 (some (.b false)))
 (cond (decide (x0_2 = (3 : Int)))
 (cond ((decide (x0_3 = ({ data := #[] } : ByteArray))) == true)
 (bSh .b (den E 110 [(.s x0_4)] []) fun a3 =>
 cond (a3.toB == true)
 (some (.b (lessS x0_0 x0_4)))
 (some (.b false)))
 (some (.b false)))
 (some (.b false))))))
 (some (.b false)) := (den_eq ..).trans (by kernel_rfl)
/-! 109: loop.example/g00905/spec.l17Less -/
theorem f109_eq (x0_0 : ByteArray) (x0_1 : Int) (x0_2 : Int) (x0_3 : ByteArray) (x0_4 : ByteArray) (x1_0 : ByteArray) (x1_1 : Int) (x1_2 : Int) (x1_3 : ByteArray) (x1_4 : ByteArray) : den E 109 [(.agg [(.s x0_0), (.i .i64 x0_1), (.i .i64 x0_2), (.s x0_3), (.s x0_4)]), (.agg [(.s x1_0), (.i .i64 x1_1), (.i .i64 x1_2), (.s x1_3), (.s x1_4)])] [] =
 cond (!decide (x0_0 = x1_0))
 (some (.b (lessS x0_0 x1_0)))
 (cond (!decide (x0_1 = x1_1))
 (some (.b (decide (x1_1 < x0_1))))
 (cond (!decide (x0_2 = x1_2))
 (some (.b (decide (x0_2 < x1_2))))
 (cond (!decide (x0_3 = x1_3))
 (some (.b (lessS x0_3 x1_3)))
 (some (.b (lessS x0_4 x1_4)))))) := (den_eq ..).trans (by kernel_rfl)
/-! 59: loop.example/g00905/spec.l17Run -/
noncomputable def f59_l1 (t0 : List AV) (t3 : Int) : Option AV := Lp E fi59 [true, false, true, false] (mkT 50 [(0, (.imm 5 t0)), (3, (.i .i64 t3))]) []
noncomputable def f59_j2 (t0 : List AV) (t3 : Int) : Option AV := Jn E fi59 [true, false, true, false, false, true, false, false, true] (mkT 50 [(0, (.imm 5 t0)), (3, (.i .i64 t3))]) []
noncomputable def f59_l3 (t0 : List AV) (t3 : Int) (t4 : Int) : Option AV := Lp E fi59 [true, false, true, false, false, true, false, false, true, true, false] (mkT 50 [(0, (.imm 5 t0)), (3, (.i .i64 t3)), (4, (.i .i64 t4))]) []
theorem f59_eq (x0 : List AV) : den E 59 [(.imm 5 x0)] [] =
 f59_l1 x0 (0 : Int) := (den_eq ..).trans (by kernel_rfl)
theorem f59_l1_eq (t0 : List AV) (t3 : Int) : f59_l1 t0 t3 =
 cond (decide (t3 < ((t0.length : Nat) : Int)))
 (if 0 ≤ t3 ∧ t3 < ((t0.length : Nat) : Int) then
 if okCells false (t0.getD t3.toNat .x) 0 [.s, (.i .i64), (.i .i64), .s, .s] = true then
 bSh .b (den E 73 [(.agg [(.s (((t0.getD t3.toNat .x).cells.getD 0 .x).toS)), (.i .i64 (((t0.getD t3.toNat .x).cells.getD 1 .x).toI)), (.i .i64 (((t0.getD t3.toNat .x).cells.getD 2 .x).toI)), (.s (((t0.getD t3.toNat .x).cells.getD 3 .x).toS)), (.s (((t0.getD t3.toNat .x).cells.getD 4 .x).toS))])] []) fun a1 =>
 cond ((!a1.toB) == false)
 (cond ((decide ((0 : Int) < t3)) == true)
 (if 0 ≤ (IntKind.i64.wrap (t3 - (1 : Int))) ∧ (IntKind.i64.wrap (t3 - (1 : Int))) < ((t0.length : Nat) : Int) then
 if okCells false (t0.getD (IntKind.i64.wrap (t3 - (1 : Int))).toNat .x) 0 [.s, (.i .i64), (.i .i64), .s, .s] = true then
 if 0 ≤ t3 ∧ t3 < ((t0.length : Nat) : Int) then
 if okCells false (t0.getD t3.toNat .x) 0 [.s, (.i .i64), (.i .i64), .s, .s] = true then
 bSh .b (den E 109 [(.agg [(.s (((t0.getD (IntKind.i64.wrap (t3 - (1 : Int))).toNat .x).cells.getD 0 .x).toS)), (.i .i64 (((t0.getD (IntKind.i64.wrap (t3 - (1 : Int))).toNat .x).cells.getD 1 .x).toI)), (.i .i64 (((t0.getD (IntKind.i64.wrap (t3 - (1 : Int))).toNat .x).cells.getD 2 .x).toI)), (.s (((t0.getD (IntKind.i64.wrap (t3 - (1 : Int))).toNat .x).cells.getD 3 .x).toS)), (.s (((t0.getD (IntKind.i64.wrap (t3 - (1 : Int))).toNat .x).cells.getD 4 .x).toS))]), (.agg [(.s (((t0.getD t3.toNat .x).cells.getD 0 .x).toS)), (.i .i64 (((t0.getD t3.toNat .x).cells.getD 1 .x).toI)), (.i .i64 (((t0.getD t3.toNat .x).cells.getD 2 .x).toI)), (.s (((t0.getD t3.toNat .x).cells.getD 3 .x).toS)), (.s (((t0.getD t3.toNat .x).cells.getD 4 .x).toS))])] []) fun a2 =>
 cond (!a2.toB)
 (some (.b false))
 (f59_j2 t0 t3)
 else none
 else none
 else none
 else none)
 (f59_j2 t0 t3))
 (some (.b false))
 else none
 else none)
 (some (.b true)) := (Lp_eq ..).trans (by kernel_rfl)
theorem f59_j2_eq (t0 : List AV) (t3 : Int) : f59_j2 t0 t3 =
 f59_l3 t0 t3 (0 : Int) := by kernel_rfl
theorem f59_l3_eq (t0 : List AV) (t3 : Int) (t4 : Int) : f59_l3 t0 t3 t4 =
 cond (decide (t4 < t3))
 (if 0 ≤ t4 ∧ t4 < ((t0.length : Nat) : Int) then
 if okCells false (t0.getD t4.toNat .x) 1 [(.i .i64)] = true then
 if 0 ≤ t3 ∧ t3 < ((t0.length : Nat) : Int) then
 if okCells false (t0.getD t3.toNat .x) 1 [(.i .i64)] = true then
 cond (decide ((((t0.getD t4.toNat .x).cells.getD 1 .x).toI) = (((t0.getD t3.toNat .x).cells.getD 1 .x).toI)))
 (some (.b false))
 (f59_l3 t0 t3 (IntKind.i64.wrap (t4 + (1 : Int))))
 else none
 else none
 else none
 else none)
 (f59_l1 t0 (IntKind.i64.wrap (t3 + (1 : Int)))) := (Lp_eq ..).trans (by kernel_rfl)
/-! 165: loop.example/g00905/spec.l17Affects -/
theorem f165_eq (x0_0 : ByteArray) (x0_1 : Int) (x0_2 : Int) (x0_3 : ByteArray) (x0_4 : ByteArray) (x1 : ByteArray) : den E 165 [(.agg [(.s x0_0), (.i .i64 x0_1), (.i .i64 x0_2), (.s x0_3), (.s x0_4)]), (.s x1)] [] =
 cond (decide (x0_2 = (3 : Int)))
 (cond ((lessS x0_0 x1 || decide (x0_0 = x1)) == true)
 (some (.b (lessS x1 x0_4)))
 (some (.b false)))
 (some (.b (decide (x0_0 = x1)))) := (den_eq ..).trans (by kernel_rfl)
/-! 161: loop.example/g00905/spec.l17Newest -/
noncomputable def f161_l1 (t0 : List AV) (t1 : ByteArray) (t2 : Int) (t9 : Int) (r0_0 : ByteArray) (r0_1 : Int) (r0_2 : Int) (r0_3 : ByteArray) (r0_4 : ByteArray) (r1_0 : ByteArray) (r1_1 : Int) (r1_2 : Int) (r1_3 : ByteArray) (r1_4 : ByteArray) : Option AV := Lp E fi161 [true, true, false, true, false] (mkT 50 [(0, (.imm 5 t0)), (1, (.s t1)), (2, (.i .i64 t2)), (6, (.pt 0 [] 0 0)), (8, (.pt 1 [] 0 0)), (9, (.i .i64 t9))]) [(.live false true false 66 [(.agg [(.s r0_0), (.i .i64 r0_1), (.i .i64 r0_2), (.s r0_3), (.s r0_4)])]), (.live false true false 66 [(.agg [(.s r1_0), (.i .i64 r1_1), (.i .i64 r1_2), (.s r1_3), (.s r1_4)])])]
noncomputable def f161_j2 (t0 : List AV) (t1 : ByteArray) (t2 : Int) (t9 : Int) (r0_0 : ByteArray) (r0_1 : Int) (r0_2 : Int) (r0_3 : ByteArray) (r0_4 : ByteArray) (r1_0 : ByteArray) (r1_1 : Int) (r1_2 : Int) (r1_3 : ByteArray) (r1_4 : ByteArray) : Option AV := Jn E fi161 [true, true, false, true, false, false, true, true] (mkT 50 [(0, (.imm 5 t0)), (1, (.s t1)), (2, (.i .i64 t2)), (6, (.pt 0 [] 0 0)), (8, (.pt 1 [] 0 0)), (9, (.i .i64 t9))]) [(.live false true false 66 [(.agg [(.s r0_0), (.i .i64 r0_1), (.i .i64 r0_2), (.s r0_3), (.s r0_4)])]), (.live false true false 66 [(.agg [(.s r1_0), (.i .i64 r1_1), (.i .i64 r1_2), (.s r1_3), (.s r1_4)])])]
theorem f161_eq (x0 : List AV) (x1 : ByteArray) (x2 : Int) : den E 161 [(.imm 5 x0), (.s x1), (.i .i64 x2)] [] =
 f161_l1 x0 x1 x2 (0 : Int) .empty (0 : Int) (0 : Int) .empty .empty .empty (0 : Int) (0 : Int) .empty .empty := (den_eq ..).trans (by kernel_rfl)
theorem f161_l1_eq (t0 : List AV) (t1 : ByteArray) (t2 : Int) (t9 : Int) (r0_0 : ByteArray) (r0_1 : Int) (r0_2 : Int) (r0_3 : ByteArray) (r0_4 : ByteArray) (r1_0 : ByteArray) (r1_1 : Int) (r1_2 : Int) (r1_3 : ByteArray) (r1_4 : ByteArray) : f161_l1 t0 t1 t2 t9 r0_0 r0_1 r0_2 r0_3 r0_4 r1_0 r1_1 r1_2 r1_3 r1_4 =
 cond (decide (t9 < ((t0.length : Nat) : Int)))
 (if 0 ≤ t9 ∧ t9 < ((t0.length : Nat) : Int) then
 if okCells false (t0.getD t9.toNat .x) 0 [.s, (.i .i64), (.i .i64), .s, .s] = true then
 bSh .b (den E 165 [(.agg [(.s (((t0.getD t9.toNat .x).cells.getD 0 .x).toS)), (.i .i64 (((t0.getD t9.toNat .x).cells.getD 1 .x).toI)), (.i .i64 (((t0.getD t9.toNat .x).cells.getD 2 .x).toI)), (.s (((t0.getD t9.toNat .x).cells.getD 3 .x).toS)), (.s (((t0.getD t9.toNat .x).cells.getD 4 .x).toS))]), (.s t1)] []) fun a1 =>
 cond (a1.toB == true)
 (if 0 ≤ t9 ∧ t9 < ((t0.length : Nat) : Int) then
 if okCells false (t0.getD t9.toNat .x) 1 [(.i .i64)] = true then
 cond ((decide ((((t0.getD t9.toNat .x).cells.getD 1 .x).toI) ≤ t2)) == true)
 (if 0 ≤ t9 ∧ t9 < ((t0.length : Nat) : Int) then
 if okCells false (t0.getD t9.toNat .x) 1 [(.i .i64)] = true then
 cond (decide (r1_1 < (((t0.getD t9.toNat .x).cells.getD 1 .x).toI)))
 (if 0 ≤ t9 ∧ t9 < ((t0.length : Nat) : Int) then
 if okCells false (t0.getD t9.toNat .x) 0 [.s, (.i .i64), (.i .i64), .s, .s] = true then
 f161_j2 t0 t1 t2 t9 r0_0 r0_1 r0_2 r0_3 r0_4 (((t0.getD t9.toNat .x).cells.getD 0 .x).toS) (((t0.getD t9.toNat .x).cells.getD 1 .x).toI) (((t0.getD t9.toNat .x).cells.getD 2 .x).toI) (((t0.getD t9.toNat .x).cells.getD 3 .x).toS) (((t0.getD t9.toNat .x).cells.getD 4 .x).toS)
 else none
 else none)
 (f161_j2 t0 t1 t2 t9 r0_0 r0_1 r0_2 r0_3 r0_4 r1_0 r1_1 r1_2 r1_3 r1_4)
 else none
 else none)
 (f161_j2 t0 t1 t2 t9 r0_0 r0_1 r0_2 r0_3 r0_4 r1_0 r1_1 r1_2 r1_3 r1_4)
 else none
 else none)
 (f161_j2 t0 t1 t2 t9 r0_0 r0_1 r0_2 r0_3 r0_4 r1_0 r1_1 r1_2 r1_3 r1_4)
 else none
 else none)
 (some (.tup [(.agg [(.s r1_0), (.i .i64 r1_1), (.i .i64 r1_2), (.s r1_3), (.s r1_4)]), (.b (decide ((0 : Int) < r1_1)))])) := (Lp_eq ..).trans (by kernel_rfl)
theorem f161_j2_eq (t0 : List AV) (t1 : ByteArray) (t2 : Int) (t9 : Int) (r0_0 : ByteArray) (r0_1 : Int) (r0_2 : Int) (r0_3 : ByteArray) (r0_4 : ByteArray) (r1_0 : ByteArray) (r1_1 : Int) (r1_2 : Int) (r1_3 : ByteArray) (r1_4 : ByteArray) : f161_j2 t0 t1 t2 t9 r0_0 r0_1 r0_2 r0_3 r0_4 r1_0 r1_1 r1_2 r1_3 r1_4 =
 f161_l1 t0 t1 t2 (IntKind.i64.wrap (t9 + (1 : Int))) r0_0 r0_1 r0_2 r0_3 r0_4 r1_0 r1_1 r1_2 r1_3 r1_4 := by kernel_rfl
/-! 111: loop.example/g00905/spec.l24Get -/
theorem f111_eq (x0 : List AV) (x1 : ByteArray) (x2 : Int) : den E 111 [(.imm 5 x0), (.s x1), (.i .i64 x2)] [] =
 bSh (.tup [(.agg [.s, (.i .i64), (.i .i64), .s, .s]), .b]) (den E 161 [(.imm 5 x0), (.s x1), (.i .i64 x2)] []) fun a1 =>
 cond ((!((a1.nth 1).toB)) == false)
 (cond (!decide ((((a1.nth 0).nth 2).toI) = (1 : Int)))
 (some (.tup [(.s ({ data := #[] } : ByteArray)), (.b false)]))
 (some (.tup [(.s (((a1.nth 0).nth 3).toS)), (.b true)])))
 (some (.tup [(.s ({ data := #[] } : ByteArray)), (.b false)])) := (den_eq ..).trans (by kernel_rfl)
/-! 61: loop.example/g00905/spec.l24Visible -/
noncomputable def f61o1_l1 (t0 : List AV) (t1 : ByteArray) (t2 : ByteArray) (t3 : Int) (t10 : ByteArray) (t11 : Int) (r0 : List AV) (r1 : List AV) : Option (AV × List Root) := LpO E fi61 [(4, [0, 1, 2, 3, 9, 10, 11], 2), (5, [0, 1, 2, 3, 9, 10, 11], 2), (8, [0, 1, 2, 3, 9, 11, 12], 2)] 0 (.so 0) [true, true, true, false, true, false] (mkT 60 [(0, (.imm 5 t0)), (1, (.s t1)), (2, (.s t2)), (3, (.i .i64 t3)), (9, (.sl 1 [] none)), (10, (.s t10)), (11, (.i .i64 t11))]) [(.live true false false 99 r0), (.live true false false 99 r1)]
noncomputable def f61o1_j2 (t0 : List AV) (t1 : ByteArray) (t2 : ByteArray) (t3 : Int) (t10 : ByteArray) (t11 : Int) (r0 : List AV) (r1 : List AV) : Option (AV × List Root) := JnO E fi61 [(4, [0, 1, 2, 3, 9, 10, 11], 2), (5, [0, 1, 2, 3, 9, 10, 11], 2), (8, [0, 1, 2, 3, 9, 11, 12], 2)] 0 (.so 0) [true, true, true, false, true, false, false, true, true] (mkT 60 [(0, (.imm 5 t0)), (1, (.s t1)), (2, (.s t2)), (3, (.i .i64 t3)), (9, (.sl 1 [] none)), (10, (.s t10)), (11, (.i .i64 t11))]) [(.live true false false 99 r0), (.live true false false 99 r1)]
noncomputable def f61o1_j3 (t0 : List AV) (t1 : ByteArray) (t2 : ByteArray) (t3 : Int) (t11 : Int) (t12 : ByteArray) (r0 : List AV) (r1 : List AV) : Option (AV × List Root) := JnO E fi61 [(4, [0, 1, 2, 3, 9, 10, 11], 2), (5, [0, 1, 2, 3, 9, 10, 11], 2), (8, [0, 1, 2, 3, 9, 11, 12], 2)] 0 (.so 0) [true, true, true, false, true, false, false, true, false, false, true, true] (mkT 60 [(0, (.imm 5 t0)), (1, (.s t1)), (2, (.s t2)), (3, (.i .i64 t3)), (9, (.sl 1 [] none)), (11, (.i .i64 t11)), (12, (.s t12))]) [(.live true false false 99 r0), (.live true false false 99 r1)]
theorem f61o1_eq (x0 : List AV) (x1 : ByteArray) (x2 : ByteArray) (x3 : Int) : dno E 61 [(.imm 5 x0), (.s x1), (.s x2), (.i .i64 x3)] [] =
 f61o1_l1 x0 x1 x2 x3 ({ data := #[] } : ByteArray) (0 : Int) [] [] := (dno_eq ..).trans (by kernel_rfl)
theorem f61o1_l1_eq (t0 : List AV) (t1 : ByteArray) (t2 : ByteArray) (t3 : Int) (t10 : ByteArray) (t11 : Int) (r0 : List AV) (r1 : List AV) : f61o1_l1 t0 t1 t2 t3 t10 t11 r0 r1 =
 cond (decide (t11 < ((t0.length : Nat) : Int)))
 (if 0 ≤ t11 ∧ t11 < ((t0.length : Nat) : Int) then
 if okCells false (t0.getD t11.toNat .x) 0 [.s] = true then
 cond ((decide ((((t0.getD t11.toNat .x).cells.getD 0 .x).toS) = t10)) == false)
 (cond ((lessS (((t0.getD t11.toNat .x).cells.getD 0 .x).toS) t1) == false)
 (cond ((!decide (t2 = ({ data := #[] } : ByteArray))) == true)
 (cond (!lessS (((t0.getD t11.toNat .x).cells.getD 0 .x).toS) t2)
 (f61o1_j2 t0 t1 t2 t3 t10 t11 r0 r1)
 (f61o1_j3 t0 t1 t2 t3 t11 (((t0.getD t11.toNat .x).cells.getD 0 .x).toS) r0 r1))
 (f61o1_j3 t0 t1 t2 t3 t11 (((t0.getD t11.toNat .x).cells.getD 0 .x).toS) r0 r1))
 (f61o1_j2 t0 t1 t2 t3 t10 t11 r0 r1))
 (f61o1_j2 t0 t1 t2 t3 t10 t11 r0 r1)
 else none
 else none)
 (some ((.sl 0 [] none), [(.live true false false 99 r1)])) := (LpO_eq ..).trans (by kernel_rfl)
theorem f61o1_j2_eq (t0 : List AV) (t1 : ByteArray) (t2 : ByteArray) (t3 : Int) (t10 : ByteArray) (t11 : Int) (r0 : List AV) (r1 : List AV) : f61o1_j2 t0 t1 t2 t3 t10 t11 r0 r1 =
 f61o1_l1 t0 t1 t2 t3 t10 (IntKind.i64.wrap (t11 + (1 : Int))) r0 r1 := by kernel_rfl
theorem f61o1_j3_eq (t0 : List AV) (t1 : ByteArray) (t2 : ByteArray) (t3 : Int) (t11 : Int) (t12 : ByteArray) (r0 : List AV) (r1 : List AV) : f61o1_j3 t0 t1 t2 t3 t11 t12 r0 r1 =
 bSh (.tup [.s, .b]) (den E 111 [(.imm 5 t0), (.s t12), (.i .i64 t3)] []) fun a1 =>
 cond ((a1.nth 1).toB)
 (if (r1.length + ([(.agg [(.s t12), (.s ((a1.nth 0).toS))])] : List AV).length) * 32 ≤ room then
 f61o1_j2 t0 t1 t2 t3 t12 t11 r0 (r1 ++ [(.agg [(.s t12), (.s ((a1.nth 0).toS))])])
 else none)
 (f61o1_j2 t0 t1 t2 t3 t12 t11 r0 r1) := by kernel_rfl
/-! 24: loop.example/g00905/spec.VisibleAt -/
theorem f24o1_eq (x0 : List AV) (x1 : Int) : dno E 24 [(.imm 5 x0), (.i .i64 x1)] [] =
 bSh .b (den E 59 [(.imm 5 x0)] []) fun a1 =>
 cond (!a1.toB)
 (some ((.sl 0 [] none), [(.live true false false 99 [])]))
 (bOwn (.so 0) [(.row true 99)] 0 (dno E 61 [(.imm 5 x0), (.s ({ data := #[] } : ByteArray)), (.s ({ data := #[] } : ByteArray)), (.i .i64 x1)] []) fun a2 =>
 some ((.sl 0 [] none), [(.live true false false 99 ((a2.2.getD 0 .dead).row))])) := (dno_eq ..).trans (by kernel_rfl)
/-! 102: loop.example/g00905/impl.within -/
theorem f102_eq (x0 : Int) (x1 : Int) (x2 : Int) : den E 102 [(.i .i64 x0), (.i .i64 x1), (.i .i64 x2)] [] =
 cond ((decide (x1 ≤ x0)) == true)
 (some (.b (decide (x0 ≤ x2))))
 (some (.b false)) := (den_eq ..).trans (by kernel_rfl)
/-! 113: loop.example/g00905/impl.ValidKey -/
theorem f113_eq (x0 : ByteArray) : den E 113 [(.s x0)] [] =
 bSh .b (den E 102 [(.i .i64 ((x0.size : Nat) : Int)), (.i .i64 (1 : Int)), (.i .i64 (8 : Int))] []) fun a1 =>
 some (.b a1.toB) := (den_eq ..).trans (by kernel_rfl)
/-! 76: loop.example/g00905/impl.ValidRecord -/
theorem f76_eq (x0_0 : ByteArray) (x0_1 : Int) (x0_2 : Int) (x0_3 : ByteArray) (x0_4 : ByteArray) : den E 76 [(.agg [(.s x0_0), (.i .i64 x0_1), (.i .i64 x0_2), (.s x0_3), (.s x0_4)])] [] =
 bSh .b (den E 113 [(.s x0_0)] []) fun a1 =>
 cond ((!a1.toB) == false)
 (bSh .b (den E 102 [(.i .i64 x0_1), (.i .i64 (1 : Int)), (.i .i64 (1000000 : Int))] []) fun a2 =>
 cond (!a2.toB)
 (some (.b false))
 (cond (decide (x0_2 = (1 : Int)))
 (cond ((decide (((x0_3.size : Nat) : Int) ≤ (16 : Int))) == true)
 (some (.b (decide (x0_4 = ({ data := #[] } : ByteArray)))))
 (some (.b false)))
 (cond (decide (x0_2 = (2 : Int)))
 (cond ((decide (x0_3 = ({ data := #[] } : ByteArray))) == true)
 (some (.b (decide (x0_4 = ({ data := #[] } : ByteArray)))))
 (some (.b false)))
 (cond (decide (x0_2 = (3 : Int)))
 (cond ((decide (x0_3 = ({ data := #[] } : ByteArray))) == true)
 (bSh .b (den E 113 [(.s x0_4)] []) fun a3 =>
 cond (a3.toB == true)
 (some (.b (!(lessS x0_4 x0_0 || decide (x0_4 = x0_0)))))
 (some (.b false)))
 (some (.b false)))
 (some (.b false))))))
 (some (.b false)) := (den_eq ..).trans (by kernel_rfl)
/-! 180: internal/bytealg.CompareString -/
theorem f180_eq (x0 x1 : ByteArray) : den E 180 [(.s x0), (.s x1)] [] = some (.i .i64 (cmpB x0 x1)) := (den_eq ..).trans (by kernel_rfl)
/-! 171: strings.Compare -/
theorem f171_eq (x0 : ByteArray) (x1 : ByteArray) : den E 171 [(.s x0), (.s x1)] [] =
 bSh (.i .i64) (den E 180 [(.s x0), (.s x1)] []) fun a1 =>
 some (.i .i64 a1.toI) := (den_eq ..).trans (by kernel_rfl)
/-! 181: cmp.isNaN[int64] -/
theorem f181_eq (x0 : Int) : den E 181 [(.i .i64 x0)] [] =
 some (.b (!decide (x0 = x0))) := (den_eq ..).trans (by kernel_rfl)
/-! 172: cmp.Compare[int64] -/
theorem f172_eq (x0 : Int) (x1 : Int) : den E 172 [(.i .i64 x0), (.i .i64 x1)] [] =
 bSh .b (den E 181 [(.i .i64 x0)] []) fun a1 =>
 bSh .b (den E 181 [(.i .i64 x1)] []) fun a2 =>
 cond a1.toB
 (cond a2.toB
 (some (.i .i64 (0 : Int)))
 (some (.i .i64 (-1 : Int))))
 (cond a2.toB
 (some (.i .i64 (1 : Int)))
 (cond (decide (x0 < x1))
 (some (.i .i64 (-1 : Int)))
 (cond (decide (x1 < x0))
 (some (.i .i64 (1 : Int)))
 (some (.i .i64 (0 : Int)))))) := (den_eq ..).trans (by kernel_rfl)
/-! 170: cmp.Or[int] -/
noncomputable def f170_l1 (t3 : Int) (t6 : List AV) (t7 : Int) (t8 : Int) : Option AV := Lp E fi170 [true, true, false, true, false] (mkT 18 [(3, (.i .i64 t3)), (6, (.imm 1 t6)), (7, (.i .i64 t7)), (8, (.i .i64 t8))]) []
theorem f170_eq (x0 : List AV) : den E 170 [(.imm 1 x0)] [] =
 f170_l1 (0 : Int) x0 ((x0.length : Nat) : Int) (0 : Int) := (den_eq ..).trans (by kernel_rfl)
theorem f170_l1_eq (t3 : Int) (t6 : List AV) (t7 : Int) (t8 : Int) : f170_l1 t3 t6 t7 t8 =
 cond (decide (t8 < t7))
 (if 0 ≤ t8 ∧ t8 < ((t6.length : Nat) : Int) then
 if okCells false (t6.getD t8.toNat .x) 0 [(.i .i64)] = true then
 cond (!decide ((((t6.getD t8.toNat .x).cells.getD 0 .x).toI) = t3))
 (some (.i .i64 (((t6.getD t8.toNat .x).cells.getD 0 .x).toI)))
 (f170_l1 t3 t6 t7 (IntKind.i64.wrap (t8 + (1 : Int))))
 else none
 else none)
 (some (.i .i64 t3)) := (Lp_eq ..).trans (by kernel_rfl)
/-! 132: loop.example/g00905/impl.compareRecords -/
theorem f132_eq (x0_0 : ByteArray) (x0_1 : Int) (x0_2 : Int) (x0_3 : ByteArray) (x0_4 : ByteArray) (x1_0 : ByteArray) (x1_1 : Int) (x1_2 : Int) (x1_3 : ByteArray) (x1_4 : ByteArray) : den E 132 [(.agg [(.s x0_0), (.i .i64 x0_1), (.i .i64 x0_2), (.s x0_3), (.s x0_4)]), (.agg [(.s x1_0), (.i .i64 x1_1), (.i .i64 x1_2), (.s x1_3), (.s x1_4)])] [] =
 bSh (.i .i64) (den E 171 [(.s x0_0), (.s x1_0)] []) fun a1 =>
 bSh (.i .i64) (den E 172 [(.i .i64 x1_1), (.i .i64 x0_1)] []) fun a2 =>
 bSh (.i .i64) (den E 172 [(.i .i64 x0_2), (.i .i64 x1_2)] []) fun a3 =>
 bSh (.i .i64) (den E 171 [(.s x0_3), (.s x1_3)] []) fun a4 =>
 bSh (.i .i64) (den E 171 [(.s x0_4), (.s x1_4)] []) fun a5 =>
 bSh (.i .i64) (den E 170 [(.imm 1 [(.i .i64 a1.toI), (.i .i64 a2.toI), (.i .i64 a3.toI), (.i .i64 a4.toI), (.i .i64 a5.toI)])] []) fun a6 =>
 some (.i .i64 a6.toI) := (den_eq ..).trans (by kernel_rfl)
/-! 112: loop.example/g00905/impl.LessRecord -/
theorem f112_eq (x0_0 : ByteArray) (x0_1 : Int) (x0_2 : Int) (x0_3 : ByteArray) (x0_4 : ByteArray) (x1_0 : ByteArray) (x1_1 : Int) (x1_2 : Int) (x1_3 : ByteArray) (x1_4 : ByteArray) : den E 112 [(.agg [(.s x0_0), (.i .i64 x0_1), (.i .i64 x0_2), (.s x0_3), (.s x0_4)]), (.agg [(.s x1_0), (.i .i64 x1_1), (.i .i64 x1_2), (.s x1_3), (.s x1_4)])] [] =
 bSh (.i .i64) (den E 132 [(.agg [(.s x0_0), (.i .i64 x0_1), (.i .i64 x0_2), (.s x0_3), (.s x0_4)]), (.agg [(.s x1_0), (.i .i64 x1_1), (.i .i64 x1_2), (.s x1_3), (.s x1_4)])] []) fun a1 =>
 some (.b (decide (a1.toI < (0 : Int)))) := (den_eq ..).trans (by kernel_rfl)
/-! 62: loop.example/g00905/impl.ValidRun -/
noncomputable def f62_l1 (t0 : List AV) (t7 : List AV) (t8 : Int) (t9 : Int) (r0 : List AV) : Option AV := Lp E fi62 [true, true, false, true, false] (mkT 41 [(0, (.imm 5 t0)), (3, (.pt 0 [(0, 0)] 0 0)), (7, (.imm 5 t7)), (8, (.i .i64 t8)), (9, (.i .i64 t9))]) [(.live false false false 1000000 [(.fn 0 r0)])]
noncomputable def f62_j2 (t0 : List AV) (t7 : List AV) (t8 : Int) (t9 : Int) (r0 : List AV) (r1_0 : ByteArray) (r1_1 : Int) (r1_2 : Int) (r1_3 : ByteArray) (r1_4 : ByteArray) : Option AV := Jn E fi62 [true, true, false, true, false, false, true, true, false, false, true, true] (mkT 41 [(0, (.imm 5 t0)), (3, (.pt 0 [(0, 0)] 0 0)), (5, (.pt 1 [] 0 0)), (7, (.imm 5 t7)), (8, (.i .i64 t8)), (9, (.i .i64 t9))]) [(.live false false false 1000000 [(.fn 0 r0)]), (.live false true false 66 [(.agg [(.s r1_0), (.i .i64 r1_1), (.i .i64 r1_2), (.s r1_3), (.s r1_4)])])]
theorem f62_eq (x0 : List AV) : den E 62 [(.imm 5 x0)] [] =
 f62_l1 x0 x0 ((x0.length : Nat) : Int) (0 : Int) [] := (den_eq ..).trans (by kernel_rfl)
theorem f62_l1_eq (t0 : List AV) (t7 : List AV) (t8 : Int) (t9 : Int) (r0 : List AV) : f62_l1 t0 t7 t8 t9 r0 =
 cond (decide (t9 < t8))
 (if 0 ≤ t9 ∧ t9 < ((t7.length : Nat) : Int) then
 if okCells false (t7.getD t9.toNat .x) 0 [.s, (.i .i64), (.i .i64), .s, .s] = true then
 bSh .b (den E 76 [(.agg [(.s (((t7.getD t9.toNat .x).cells.getD 0 .x).toS)), (.i .i64 (((t7.getD t9.toNat .x).cells.getD 1 .x).toI)), (.i .i64 (((t7.getD t9.toNat .x).cells.getD 2 .x).toI)), (.s (((t7.getD t9.toNat .x).cells.getD 3 .x).toS)), (.s (((t7.getD t9.toNat .x).cells.getD 4 .x).toS))])] []) fun a1 =>
 cond ((!a1.toB) == false)
 (cond ((hasI r0 (((t7.getD t9.toNat .x).cells.getD 1 .x).toI)) == false)
 (cond ((decide ((0 : Int) < t9)) == true)
 (if 0 ≤ (IntKind.i64.wrap (t9 - (1 : Int))) ∧ (IntKind.i64.wrap (t9 - (1 : Int))) < ((t0.length : Nat) : Int) then
 if okCells false (t0.getD (IntKind.i64.wrap (t9 - (1 : Int))).toNat .x) 0 [.s, (.i .i64), (.i .i64), .s, .s] = true then
 bSh .b (den E 112 [(.agg [(.s (((t0.getD (IntKind.i64.wrap (t9 - (1 : Int))).toNat .x).cells.getD 0 .x).toS)), (.i .i64 (((t0.getD (IntKind.i64.wrap (t9 - (1 : Int))).toNat .x).cells.getD 1 .x).toI)), (.i .i64 (((t0.getD (IntKind.i64.wrap (t9 - (1 : Int))).toNat .x).cells.getD 2 .x).toI)), (.s (((t0.getD (IntKind.i64.wrap (t9 - (1 : Int))).toNat .x).cells.getD 3 .x).toS)), (.s (((t0.getD (IntKind.i64.wrap (t9 - (1 : Int))).toNat .x).cells.getD 4 .x).toS))]), (.agg [(.s (((t7.getD t9.toNat .x).cells.getD 0 .x).toS)), (.i .i64 (((t7.getD t9.toNat .x).cells.getD 1 .x).toI)), (.i .i64 (((t7.getD t9.toNat .x).cells.getD 2 .x).toI)), (.s (((t7.getD t9.toNat .x).cells.getD 3 .x).toS)), (.s (((t7.getD t9.toNat .x).cells.getD 4 .x).toS))])] []) fun a2 =>
 cond (!a2.toB)
 (some (.b false))
 (f62_j2 t0 t7 t8 t9 r0 (((t7.getD t9.toNat .x).cells.getD 0 .x).toS) (((t7.getD t9.toNat .x).cells.getD 1 .x).toI) (((t7.getD t9.toNat .x).cells.getD 2 .x).toI) (((t7.getD t9.toNat .x).cells.getD 3 .x).toS) (((t7.getD t9.toNat .x).cells.getD 4 .x).toS))
 else none
 else none)
 (f62_j2 t0 t7 t8 t9 r0 (((t7.getD t9.toNat .x).cells.getD 0 .x).toS) (((t7.getD t9.toNat .x).cells.getD 1 .x).toI) (((t7.getD t9.toNat .x).cells.getD 2 .x).toI) (((t7.getD t9.toNat .x).cells.getD 3 .x).toS) (((t7.getD t9.toNat .x).cells.getD 4 .x).toS)))
 (some (.b false)))
 (some (.b false))
 else none
 else none)
 (some (.b true)) := (Lp_eq ..).trans (by kernel_rfl)
theorem f62_j2_eq (t0 : List AV) (t7 : List AV) (t8 : Int) (t9 : Int) (r0 : List AV) (r1_0 : ByteArray) (r1_1 : Int) (r1_2 : Int) (r1_3 : ByteArray) (r1_4 : ByteArray) : f62_j2 t0 t7 t8 t9 r0 r1_0 r1_1 r1_2 r1_3 r1_4 =
 f62_l1 t0 t7 t8 (IntKind.i64.wrap (t9 + (1 : Int))) (r0 ++ [(.i .i64 r1_1)]) := by kernel_rfl
/-! 63: loop.example/g00905/impl.boundsOk -/
theorem f63_eq (x0 : ByteArray) (x1 : ByteArray) : den E 63 [(.s x0), (.s x1)] [] =
 cond ((decide (x0 = ({ data := #[] } : ByteArray))) == false)
 (bSh .b (den E 113 [(.s x0)] []) fun a1 =>
 cond (a1.toB == true)
 (cond ((decide (x1 = ({ data := #[] } : ByteArray))) == false)
 (bSh .b (den E 113 [(.s x1)] []) fun a2 =>
 cond (a2.toB == true)
 (some (.b (lessS x0 x1)))
 (some (.b false)))
 (some (.b true)))
 (some (.b false)))
 (cond ((decide (x1 = ({ data := #[] } : ByteArray))) == false)
 (bSh .b (den E 113 [(.s x1)] []) fun a3 =>
 cond (a3.toB == true)
 (some (.b (lessS x0 x1)))
 (some (.b false)))
 (some (.b true))) := (den_eq ..).trans (by kernel_rfl)
/-! 80: slices.Clone[[]loop.example/g00905/impl.Record,loop.example/g00905/impl.Record] -/
theorem f80_eq (x0 : List AV) : dno E 80 [(.imm 5 x0)] [] = if 5 = 5 ∧ x0.length * 64 ≤ room then some (.sl 0 [] none, [.live true false false 66 x0]) else none := (dno_eq ..).trans (by kernel_rfl)
/-! 123: loop.example/g00905/impl.isRange -/
theorem f123_eq (x0_0 : ByteArray) (x0_1 : Int) (x0_2 : Int) (x0_3 : ByteArray) (x0_4 : ByteArray) : den E 123 [(.agg [(.s x0_0), (.i .i64 x0_1), (.i .i64 x0_2), (.s x0_3), (.s x0_4)])] [] =
 some (.b (decide (x0_2 = (3 : Int)))) := (den_eq ..).trans (by kernel_rfl)
/-! 168: slices.IndexFunc[[]loop.example/g00905/impl.Record,loop.example/g00905/impl.Record] -/
noncomputable def f168q1_l1 (t0 : List AV) (t7 : Int) (t8 : Int) : Option AV := Lp E fi168 [true, false, true, false] (mkT 19 [(0, (.imm 5 t0)), (1, (.fn 123 [])), (7, (.i .i64 t7)), (8, (.i .i64 t8))]) []
theorem f168q1_eq (x0 : List AV) : den E 168 [(.imm 5 x0), (.fn 123 [])] [] =
 f168q1_l1 x0 ((x0.length : Nat) : Int) (0 : Int) := (den_eq ..).trans (by kernel_rfl)
theorem f168q1_l1_eq (t0 : List AV) (t7 : Int) (t8 : Int) : f168q1_l1 t0 t7 t8 =
 cond (decide (t8 < t7))
 (if 0 ≤ t8 ∧ t8 < ((t0.length : Nat) : Int) then
 if okCells false (t0.getD t8.toNat .x) 0 [.s, (.i .i64), (.i .i64), .s, .s] = true then
 bSh .b (den E 123 [(.agg [(.s (((t0.getD t8.toNat .x).cells.getD 0 .x).toS)), (.i .i64 (((t0.getD t8.toNat .x).cells.getD 1 .x).toI)), (.i .i64 (((t0.getD t8.toNat .x).cells.getD 2 .x).toI)), (.s (((t0.getD t8.toNat .x).cells.getD 3 .x).toS)), (.s (((t0.getD t8.toNat .x).cells.getD 4 .x).toS))])] []) fun a1 =>
 cond a1.toB
 (some (.i .i64 t8))
 (f168q1_l1 t0 t7 (IntKind.i64.wrap (t8 + (1 : Int))))
 else none
 else none)
 (some (.i .i64 (-1 : Int))) := (Lp_eq ..).trans (by kernel_rfl)
/-! 121: slices.DeleteFunc[[]loop.example/g00905/impl.Record,loop.example/g00905/impl.Record] -/
noncomputable def f121o1_l1 (t5 : Int) (t6 : Int) (r0 : List AV) : Option (AV × List Root) := LpO E fi121 [(5, [0, 1, 5, 6], 1), (6, [0, 1, 5, 6], 1)] 1 (.pr 0) [true, true, true, false, true, false] (mkT 42 [(0, (.sl 0 [] none)), (1, (.fn 123 [])), (5, (.i .i64 t5)), (6, (.i .i64 t6))]) [(.live true false false 66 r0)]
noncomputable def f121o1_j2 (t5 : Int) (t6 : Int) (r0 : List AV) : Option (AV × List Root) := JnO E fi121 [(5, [0, 1, 5, 6], 1), (6, [0, 1, 5, 6], 1)] 1 (.pr 0) [true, true, true, false, true, false, false, true, true] (mkT 42 [(0, (.sl 0 [] none)), (1, (.fn 123 [])), (5, (.i .i64 t5)), (6, (.i .i64 t6))]) [(.live true false false 66 r0)]
theorem f121o1_eq (s0 : List AV) : dno E 121 [(.sl 0 [] none), (.fn 123 [])] [(.live true false false 66 s0)] =
 bSh (.i .i64) (den E 168 [(.imm 5 s0), (.fn 123 [])] []) fun a1 =>
 cond (decide (a1.toI = (-1 : Int)))
 (some ((.sl 0 [] (some (0, s0.length))), [(.live true false false 66 s0)]))
 (f121o1_l1 a1.toI (IntKind.i64.wrap (a1.toI + (1 : Int))) s0) := (dno_eq ..).trans (by kernel_rfl)
theorem f121o1_l1_eq (t5 : Int) (t6 : Int) (r0 : List AV) : f121o1_l1 t5 t6 r0 =
 cond (decide (t6 < ((r0.length : Nat) : Int)))
 (if 0 ≤ t6 ∧ t6 < ((r0.length : Nat) : Int) then
 if okCells false (r0.getD (0 + t6.toNat) .x) 0 [.s, (.i .i64), (.i .i64), .s, .s] = true then
 bSh .b (den E 123 [(.agg [(.s (((r0.getD (0 + t6.toNat) .x).cells.getD 0 .x).toS)), (.i .i64 (((r0.getD (0 + t6.toNat) .x).cells.getD 1 .x).toI)), (.i .i64 (((r0.getD (0 + t6.toNat) .x).cells.getD 2 .x).toI)), (.s (((r0.getD (0 + t6.toNat) .x).cells.getD 3 .x).toS)), (.s (((r0.getD (0 + t6.toNat) .x).cells.getD 4 .x).toS))])] []) fun a1 =>
 cond (!a1.toB)
 (if 0 ≤ t5 ∧ t5 < ((r0.length : Nat) : Int) then
 f121o1_j2 (IntKind.i64.wrap (t5 + (1 : Int))) t6 (r0.set (0 + t5.toNat) ((r0.getD (0 + t5.toNat) .x).putCells 0 [(.s (((r0.getD (0 + t6.toNat) .x).cells.getD 0 .x).toS)), (.i .i64 (((r0.getD (0 + t6.toNat) .x).cells.getD 1 .x).toI)), (.i .i64 (((r0.getD (0 + t6.toNat) .x).cells.getD 2 .x).toI)), (.s (((r0.getD (0 + t6.toNat) .x).cells.getD 3 .x).toS)), (.s (((r0.getD (0 + t6.toNat) .x).cells.getD 4 .x).toS))]))
 else none)
 (f121o1_j2 t5 t6 r0)
 else none
 else none)
 (if 0 ≤ t5 ∧ t5 ≤ ((r0.length : Nat) : Int) ∧ ((r0.length : Nat) : Int) ≤ ((r0.length : Nat) : Int) then
 if 0 ≤ (0 : Int) ∧ (0 : Int) ≤ t5 ∧ t5 ≤ (((r0.take t5.toNat ++ List.replicate (((r0.length : Nat) : Int).toNat - t5.toNat) ((.agg [(.s .empty), (.i .i64 (0 : Int)), (.i .i64 (0 : Int)), (.s .empty), (.s .empty)]) : AV) ++ r0.drop (t5.toNat + (((r0.length : Nat) : Int).toNat - t5.toNat))).length : Nat) : Int) then
 some ((.sl 0 [] (some ((0 : Int).toNat, (t5.toNat - (0 : Int).toNat)))), [(.live true false false 66 (r0.take t5.toNat ++ List.replicate (((r0.length : Nat) : Int).toNat - t5.toNat) ((.agg [(.s .empty), (.i .i64 (0 : Int)), (.i .i64 (0 : Int)), (.s .empty), (.s .empty)]) : AV) ++ r0.drop (t5.toNat + (((r0.length : Nat) : Int).toNat - t5.toNat))))])
 else none
 else none) := (LpO_eq ..).trans (by kernel_rfl)
theorem f121o1_j2_eq (t5 : Int) (t6 : Int) (r0 : List AV) : f121o1_j2 t5 t6 r0 =
 f121o1_l1 t5 (IntKind.i64.wrap (t6 + (1 : Int))) r0 := by kernel_rfl
/-! 162: loop.example/g00905/impl.parted$1 -/
theorem f162_eq (x0_0 : ByteArray) (x0_1 : Int) (x0_2 : Int) (x0_3 : ByteArray) (x0_4 : ByteArray) : den E 162 [(.agg [(.s x0_0), (.i .i64 x0_1), (.i .i64 x0_2), (.s x0_3), (.s x0_4)])] [] =
 bSh .b (den E 123 [(.agg [(.s x0_0), (.i .i64 x0_1), (.i .i64 x0_2), (.s x0_3), (.s x0_4)])] []) fun a1 =>
 some (.b (!a1.toB)) := (den_eq ..).trans (by kernel_rfl)
/-! 168: slices.IndexFunc[[]loop.example/g00905/impl.Record,loop.example/g00905/impl.Record] -/
noncomputable def f168q2_l1 (t0 : List AV) (t7 : Int) (t8 : Int) : Option AV := Lp E fi168 [true, false, true, false] (mkT 19 [(0, (.imm 5 t0)), (1, (.fn 162 [])), (7, (.i .i64 t7)), (8, (.i .i64 t8))]) []
theorem f168q2_eq (x0 : List AV) : den E 168 [(.imm 5 x0), (.fn 162 [])] [] =
 f168q2_l1 x0 ((x0.length : Nat) : Int) (0 : Int) := (den_eq ..).trans (by kernel_rfl)
theorem f168q2_l1_eq (t0 : List AV) (t7 : Int) (t8 : Int) : f168q2_l1 t0 t7 t8 =
 cond (decide (t8 < t7))
 (if 0 ≤ t8 ∧ t8 < ((t0.length : Nat) : Int) then
 if okCells false (t0.getD t8.toNat .x) 0 [.s, (.i .i64), (.i .i64), .s, .s] = true then
 bSh .b (den E 162 [(.agg [(.s (((t0.getD t8.toNat .x).cells.getD 0 .x).toS)), (.i .i64 (((t0.getD t8.toNat .x).cells.getD 1 .x).toI)), (.i .i64 (((t0.getD t8.toNat .x).cells.getD 2 .x).toI)), (.s (((t0.getD t8.toNat .x).cells.getD 3 .x).toS)), (.s (((t0.getD t8.toNat .x).cells.getD 4 .x).toS))])] []) fun a1 =>
 cond a1.toB
 (some (.i .i64 t8))
 (f168q2_l1 t0 t7 (IntKind.i64.wrap (t8 + (1 : Int))))
 else none
 else none)
 (some (.i .i64 (-1 : Int))) := (Lp_eq ..).trans (by kernel_rfl)
/-! 121: slices.DeleteFunc[[]loop.example/g00905/impl.Record,loop.example/g00905/impl.Record] -/
noncomputable def f121o2_l1 (t5 : Int) (t6 : Int) (r0 : List AV) : Option (AV × List Root) := LpO E fi121 [(5, [0, 1, 5, 6], 1), (6, [0, 1, 5, 6], 1)] 1 (.pr 0) [true, true, true, false, true, false] (mkT 42 [(0, (.sl 0 [] none)), (1, (.fn 162 [])), (5, (.i .i64 t5)), (6, (.i .i64 t6))]) [(.live true false false 66 r0)]
noncomputable def f121o2_j2 (t5 : Int) (t6 : Int) (r0 : List AV) : Option (AV × List Root) := JnO E fi121 [(5, [0, 1, 5, 6], 1), (6, [0, 1, 5, 6], 1)] 1 (.pr 0) [true, true, true, false, true, false, false, true, true] (mkT 42 [(0, (.sl 0 [] none)), (1, (.fn 162 [])), (5, (.i .i64 t5)), (6, (.i .i64 t6))]) [(.live true false false 66 r0)]
theorem f121o2_eq (s0 : List AV) : dno E 121 [(.sl 0 [] none), (.fn 162 [])] [(.live true false false 66 s0)] =
 bSh (.i .i64) (den E 168 [(.imm 5 s0), (.fn 162 [])] []) fun a1 =>
 cond (decide (a1.toI = (-1 : Int)))
 (some ((.sl 0 [] (some (0, s0.length))), [(.live true false false 66 s0)]))
 (f121o2_l1 a1.toI (IntKind.i64.wrap (a1.toI + (1 : Int))) s0) := (dno_eq ..).trans (by kernel_rfl)
theorem f121o2_l1_eq (t5 : Int) (t6 : Int) (r0 : List AV) : f121o2_l1 t5 t6 r0 =
 cond (decide (t6 < ((r0.length : Nat) : Int)))
 (if 0 ≤ t6 ∧ t6 < ((r0.length : Nat) : Int) then
 if okCells false (r0.getD (0 + t6.toNat) .x) 0 [.s, (.i .i64), (.i .i64), .s, .s] = true then
 bSh .b (den E 162 [(.agg [(.s (((r0.getD (0 + t6.toNat) .x).cells.getD 0 .x).toS)), (.i .i64 (((r0.getD (0 + t6.toNat) .x).cells.getD 1 .x).toI)), (.i .i64 (((r0.getD (0 + t6.toNat) .x).cells.getD 2 .x).toI)), (.s (((r0.getD (0 + t6.toNat) .x).cells.getD 3 .x).toS)), (.s (((r0.getD (0 + t6.toNat) .x).cells.getD 4 .x).toS))])] []) fun a1 =>
 cond (!a1.toB)
 (if 0 ≤ t5 ∧ t5 < ((r0.length : Nat) : Int) then
 f121o2_j2 (IntKind.i64.wrap (t5 + (1 : Int))) t6 (r0.set (0 + t5.toNat) ((r0.getD (0 + t5.toNat) .x).putCells 0 [(.s (((r0.getD (0 + t6.toNat) .x).cells.getD 0 .x).toS)), (.i .i64 (((r0.getD (0 + t6.toNat) .x).cells.getD 1 .x).toI)), (.i .i64 (((r0.getD (0 + t6.toNat) .x).cells.getD 2 .x).toI)), (.s (((r0.getD (0 + t6.toNat) .x).cells.getD 3 .x).toS)), (.s (((r0.getD (0 + t6.toNat) .x).cells.getD 4 .x).toS))]))
 else none)
 (f121o2_j2 t5 t6 r0)
 else none
 else none)
 (if 0 ≤ t5 ∧ t5 ≤ ((r0.length : Nat) : Int) ∧ ((r0.length : Nat) : Int) ≤ ((r0.length : Nat) : Int) then
 if 0 ≤ (0 : Int) ∧ (0 : Int) ≤ t5 ∧ t5 ≤ (((r0.take t5.toNat ++ List.replicate (((r0.length : Nat) : Int).toNat - t5.toNat) ((.agg [(.s .empty), (.i .i64 (0 : Int)), (.i .i64 (0 : Int)), (.s .empty), (.s .empty)]) : AV) ++ r0.drop (t5.toNat + (((r0.length : Nat) : Int).toNat - t5.toNat))).length : Nat) : Int) then
 some ((.sl 0 [] (some ((0 : Int).toNat, (t5.toNat - (0 : Int).toNat)))), [(.live true false false 66 (r0.take t5.toNat ++ List.replicate (((r0.length : Nat) : Int).toNat - t5.toNat) ((.agg [(.s .empty), (.i .i64 (0 : Int)), (.i .i64 (0 : Int)), (.s .empty), (.s .empty)]) : AV) ++ r0.drop (t5.toNat + (((r0.length : Nat) : Int).toNat - t5.toNat))))])
 else none
 else none) := (LpO_eq ..).trans (by kernel_rfl)
theorem f121o2_j2_eq (t5 : Int) (t6 : Int) (r0 : List AV) : f121o2_j2 t5 t6 r0 =
 f121o2_l1 t5 (IntKind.i64.wrap (t6 + (1 : Int))) r0 := by kernel_rfl
/-! 114: loop.example/g00905/impl.parted -/
theorem f114_eq (x0 : List AV) : den E 114 [(.imm 5 x0)] [] =
 bOwn (.so 0) [(.row true 66)] 0 (dno E 80 [(.imm 5 x0)] []) fun a1 =>
 bOwnS (.pr 0) [(.same 66)] 1 [(.live true false false 66 ((a1.2.getD 0 .dead).row))] (dno E 121 [(.sl 0 [] none), (.fn 123 [])] [(.live true false false 66 ((a1.2.getD 0 .dead).row))]) fun a2 =>
 bOwn (.so 0) [(.row true 66)] 0 (dno E 80 [(.imm 5 x0)] []) fun a3 =>
 bOwnS (.pr 0) [(.same 66)] 1 [(.live true false false 66 ((a3.2.getD 0 .dead).row))] (dno E 121 [(.sl 0 [] none), (.fn 162 [])] [(.live true false false 66 ((a3.2.getD 0 .dead).row))]) fun a4 =>
 some (.tup [(.imm 5 ((((a2.2.getD 0 .dead).row).drop a2.1.off).take a2.1.cnt)), (.imm 5 ((((a4.2.getD 0 .dead).row).drop a4.1.off).take a4.1.cnt))]) := (den_eq ..).trans (by kernel_rfl)
/-! 163: slices.Compact[[]string,string] -/
noncomputable def f163o1_l1 (t3 : Int) (r0 : List AV) : Option (AV × List Root) := LpO E fi163 [(4, [0, 3], 1), (9, [0, 3, 4, 5], 1), (10, [0, 3, 4, 5], 1)] 1 (.pr 0) [true, true, false, true, false] (mkT 61 [(0, (.sl 0 [] none)), (3, (.i .i64 t3))]) [(.live true false false 9 r0)]
noncomputable def f163o1_l2 (t3 : Int) (t4o : Nat) (t4n : Nat) (t5 : Int) (r0 : List AV) : Option (AV × List Root) := LpO E fi163 [(4, [0, 3], 1), (9, [0, 3, 4, 5], 1), (10, [0, 3, 4, 5], 1)] 1 (.pr 0) [true, true, false, true, false, false, true, false, false, true, false, true, false, true, false] (mkT 61 [(0, (.sl 0 [] none)), (3, (.i .i64 t3)), (4, (.sl 0 [] (some (t4o, t4n)))), (5, (.i .i64 t5))]) [(.live true false false 9 r0)]
noncomputable def f163o1_j3 (t3 : Int) (t4o : Nat) (t4n : Nat) (t5 : Int) (r0 : List AV) : Option (AV × List Root) := JnO E fi163 [(4, [0, 3], 1), (9, [0, 3, 4, 5], 1), (10, [0, 3, 4, 5], 1)] 1 (.pr 0) [true, true, false, true, false, false, true, false, false, true, false, true, false, true, false, false, true, true] (mkT 61 [(0, (.sl 0 [] none)), (3, (.i .i64 t3)), (4, (.sl 0 [] (some (t4o, t4n)))), (5, (.i .i64 t5))]) [(.live true false false 9 r0)]
theorem f163o1_eq (s0 : List AV) : dno E 163 [(.sl 0 [] none)] [(.live true false false 9 s0)] =
 cond (decide (((s0.length : Nat) : Int) < (2 : Int)))
 (some ((.sl 0 [] (some (0, s0.length))), [(.live true false false 9 s0)]))
 (f163o1_l1 (1 : Int) s0) := (dno_eq ..).trans (by kernel_rfl)
theorem f163o1_l1_eq (t3 : Int) (r0 : List AV) : f163o1_l1 t3 r0 =
 cond (decide (t3 < ((r0.length : Nat) : Int)))
 (if 0 ≤ t3 ∧ t3 < ((r0.length : Nat) : Int) then
 if okCells false (r0.getD (0 + t3.toNat) .x) 0 [.s] = true then
 if 0 ≤ (IntKind.i64.wrap (t3 - (1 : Int))) ∧ (IntKind.i64.wrap (t3 - (1 : Int))) < ((r0.length : Nat) : Int) then
 if okCells false (r0.getD (0 + (IntKind.i64.wrap (t3 - (1 : Int))).toNat) .x) 0 [.s] = true then
 cond (decide ((((r0.getD (0 + t3.toNat) .x).cells.getD 0 .x).toS) = (((r0.getD (0 + (IntKind.i64.wrap (t3 - (1 : Int))).toNat) .x).cells.getD 0 .x).toS)))
 (if 0 ≤ t3 ∧ t3 ≤ ((r0.length : Nat) : Int) ∧ ((r0.length : Nat) : Int) ≤ ((r0.length : Nat) : Int) then
 f163o1_l2 t3 t3.toNat (((r0.length : Nat) : Int).toNat - t3.toNat) (1 : Int) r0
 else none)
 (f163o1_l1 (IntKind.i64.wrap (t3 + (1 : Int))) r0)
 else none
 else none
 else none
 else none)
 (some ((.sl 0 [] (some (0, r0.length))), [(.live true false false 9 r0)])) := (LpO_eq ..).trans (by kernel_rfl)
theorem f163o1_l2_eq (t3 : Int) (t4o : Nat) (t4n : Nat) (t5 : Int) (r0 : List AV) : f163o1_l2 t3 t4o t4n t5 r0 =
 cond (decide (t5 < ((t4n : Nat) : Int)))
 (if 0 ≤ t5 ∧ t5 < ((t4n : Nat) : Int) then
 if okCells false (r0.getD (t4o + t5.toNat) .x) 0 [.s] = true then
 if 0 ≤ (IntKind.i64.wrap (t5 - (1 : Int))) ∧ (IntKind.i64.wrap (t5 - (1 : Int))) < ((t4n : Nat) : Int) then
 if okCells false (r0.getD (t4o + (IntKind.i64.wrap (t5 - (1 : Int))).toNat) .x) 0 [.s] = true then
 cond (!decide ((((r0.getD (t4o + t5.toNat) .x).cells.getD 0 .x).toS) = (((r0.getD (t4o + (IntKind.i64.wrap (t5 - (1 : Int))).toNat) .x).cells.getD 0 .x).toS)))
 (if 0 ≤ t5 ∧ t5 < ((t4n : Nat) : Int) then
 if okCells false (r0.getD (t4o + t5.toNat) .x) 0 [.s] = true then
 if 0 ≤ t3 ∧ t3 < ((r0.length : Nat) : Int) then
 f163o1_j3 (IntKind.i64.wrap (t3 + (1 : Int))) t4o t4n t5 (r0.set (0 + t3.toNat) ((r0.getD (0 + t3.toNat) .x).putCells 0 [(.s (((r0.getD (t4o + t5.toNat) .x).cells.getD 0 .x).toS))]))
 else none
 else none
 else none)
 (f163o1_j3 t3 t4o t4n t5 r0)
 else none
 else none
 else none
 else none)
 (if 0 ≤ t3 ∧ t3 ≤ ((r0.length : Nat) : Int) ∧ ((r0.length : Nat) : Int) ≤ ((r0.length : Nat) : Int) then
 if 0 ≤ (0 : Int) ∧ (0 : Int) ≤ t3 ∧ t3 ≤ (((r0.take t3.toNat ++ List.replicate (((r0.length : Nat) : Int).toNat - t3.toNat) ((.s .empty) : AV) ++ r0.drop (t3.toNat + (((r0.length : Nat) : Int).toNat - t3.toNat))).length : Nat) : Int) then
 some ((.sl 0 [] (some ((0 : Int).toNat, (t3.toNat - (0 : Int).toNat)))), [(.live true false false 9 (r0.take t3.toNat ++ List.replicate (((r0.length : Nat) : Int).toNat - t3.toNat) ((.s .empty) : AV) ++ r0.drop (t3.toNat + (((r0.length : Nat) : Int).toNat - t3.toNat))))])
 else none
 else none) := (LpO_eq ..).trans (by kernel_rfl)
theorem f163o1_j3_eq (t3 : Int) (t4o : Nat) (t4n : Nat) (t5 : Int) (r0 : List AV) : f163o1_j3 t3 t4o t4n t5 r0 =
 f163o1_l2 t3 t4o t4n (IntKind.i64.wrap (t5 + (1 : Int))) r0 := by kernel_rfl
/-! 115: loop.example/g00905/impl.keysOf -/
noncomputable def f115_l1 (t6 : List AV) (t7 : Int) (t8 : Int) (r0 : List AV) (r1 : List AV) : Option AV := Lp E fi115 [true, true, false, true, false] (mkT 20 [(3, (.sl 1 [] none)), (6, (.imm 5 t6)), (7, (.i .i64 t7)), (8, (.i .i64 t8))]) [(.live true false false 9 r0), (.live true false false 9 r1)]
theorem f115_eq (x0 : List AV) : den E 115 [(.imm 5 x0)] [] =
 f115_l1 x0 ((x0.length : Nat) : Int) (0 : Int) [] [] := (den_eq ..).trans (by kernel_rfl)
theorem f115_l1_eq (t6 : List AV) (t7 : Int) (t8 : Int) (r0 : List AV) (r1 : List AV) : f115_l1 t6 t7 t8 r0 r1 =
 cond (decide (t8 < t7))
 (if 0 ≤ t8 ∧ t8 < ((t6.length : Nat) : Int) then
 if okCells false (t6.getD t8.toNat .x) 0 [.s, (.i .i64), (.i .i64), .s, .s] = true then
 if (r1.length + ([(.s (((t6.getD t8.toNat .x).cells.getD 0 .x).toS))] : List AV).length) * 16 ≤ room then
 f115_l1 t6 t7 (IntKind.i64.wrap (t8 + (1 : Int))) r0 (r1 ++ [(.s (((t6.getD t8.toNat .x).cells.getD 0 .x).toS))])
 else none
 else none
 else none)
 (bOwnS (.pr 0) [(.same 9)] 1 [(.live true false false 9 r1)] (dno E 163 [(.sl 0 [] none)] [(.live true false false 9 r1)]) fun a1 =>
 some (.imm 1 ((((a1.2.getD 0 .dead).row).drop a1.1.off).take a1.1.cnt))) := (Lp_eq ..).trans (by kernel_rfl)
/-! 129: (loop.example/g00905/impl.Record).affects -/
theorem f129_eq (x0_0 : ByteArray) (x0_1 : Int) (x0_2 : Int) (x0_3 : ByteArray) (x0_4 : ByteArray) (x1 : ByteArray) : den E 129 [(.agg [(.s x0_0), (.i .i64 x0_1), (.i .i64 x0_2), (.s x0_3), (.s x0_4)]), (.s x1)] [] =
 cond (decide (x0_2 = (3 : Int)))
 (cond ((lessS x0_0 x1 || decide (x0_0 = x1)) == true)
 (some (.b (lessS x1 x0_4)))
 (some (.b false)))
 (some (.b (decide (x0_0 = x1)))) := (den_eq ..).trans (by kernel_rfl)
/-! 164: loop.example/g00905/impl.look -/
noncomputable def f164_l1 (t1 : ByteArray) (t2 : Int) (t11 : List AV) (t12 : Int) (t13 : Int) (r0_0 : ByteArray) (r0_1 : Int) (r0_2 : Int) (r0_3 : ByteArray) (r0_4 : ByteArray) (r1_0 : ByteArray) (r1_1 : Int) (r1_2 : Int) (r1_3 : ByteArray) (r1_4 : ByteArray) : Option AV := Lp E fi164 [true, true, false, true, false] (mkT 39 [(1, (.s t1)), (2, (.i .i64 t2)), (6, (.pt 0 [] 0 0)), (8, (.pt 1 [] 0 0)), (11, (.imm 5 t11)), (12, (.i .i64 t12)), (13, (.i .i64 t13))]) [(.live false true false 66 [(.agg [(.s r0_0), (.i .i64 r0_1), (.i .i64 r0_2), (.s r0_3), (.s r0_4)])]), (.live false true false 66 [(.agg [(.s r1_0), (.i .i64 r1_1), (.i .i64 r1_2), (.s r1_3), (.s r1_4)])])]
noncomputable def f164_j2 (t1 : ByteArray) (t2 : Int) (t11 : List AV) (t12 : Int) (t13 : Int) (r0_0 : ByteArray) (r0_1 : Int) (r0_2 : Int) (r0_3 : ByteArray) (r0_4 : ByteArray) (r1_0 : ByteArray) (r1_1 : Int) (r1_2 : Int) (r1_3 : ByteArray) (r1_4 : ByteArray) : Option AV := Jn E fi164 [true, true, false, true, false, false, true, true, true] (mkT 39 [(1, (.s t1)), (2, (.i .i64 t2)), (6, (.pt 0 [] 0 0)), (8, (.pt 1 [] 0 0)), (11, (.imm 5 t11)), (12, (.i .i64 t12)), (13, (.i .i64 t13))]) [(.live false true false 66 [(.agg [(.s r0_0), (.i .i64 r0_1), (.i .i64 r0_2), (.s r0_3), (.s r0_4)])]), (.live false true false 66 [(.agg [(.s r1_0), (.i .i64 r1_1), (.i .i64 r1_2), (.s r1_3), (.s r1_4)])])]
theorem f164_eq (x0 : List AV) (x1 : ByteArray) (x2 : Int) : den E 164 [(.imm 5 x0), (.s x1), (.i .i64 x2)] [] =
 f164_l1 x1 x2 x0 ((x0.length : Nat) : Int) (0 : Int) .empty (0 : Int) (0 : Int) .empty .empty .empty (0 : Int) (0 : Int) .empty .empty := (den_eq ..).trans (by kernel_rfl)
theorem f164_l1_eq (t1 : ByteArray) (t2 : Int) (t11 : List AV) (t12 : Int) (t13 : Int) (r0_0 : ByteArray) (r0_1 : Int) (r0_2 : Int) (r0_3 : ByteArray) (r0_4 : ByteArray) (r1_0 : ByteArray) (r1_1 : Int) (r1_2 : Int) (r1_3 : ByteArray) (r1_4 : ByteArray) : f164_l1 t1 t2 t11 t12 t13 r0_0 r0_1 r0_2 r0_3 r0_4 r1_0 r1_1 r1_2 r1_3 r1_4 =
 cond (decide (t13 < t12))
 (if 0 ≤ t13 ∧ t13 < ((t11.length : Nat) : Int) then
 if okCells false (t11.getD t13.toNat .x) 0 [.s, (.i .i64), (.i .i64), .s, .s] = true then
 cond ((decide ((((t11.getD t13.toNat .x).cells.getD 1 .x).toI) ≤ t2)) == true)
 (cond ((decide (r1_1 < (((t11.getD t13.toNat .x).cells.getD 1 .x).toI))) == true)
 (bSh .b (den E 129 [(.agg [(.s (((t11.getD t13.toNat .x).cells.getD 0 .x).toS)), (.i .i64 (((t11.getD t13.toNat .x).cells.getD 1 .x).toI)), (.i .i64 (((t11.getD t13.toNat .x).cells.getD 2 .x).toI)), (.s (((t11.getD t13.toNat .x).cells.getD 3 .x).toS)), (.s (((t11.getD t13.toNat .x).cells.getD 4 .x).toS))]), (.s t1)] []) fun a1 =>
 cond a1.toB
 (f164_j2 t1 t2 t11 t12 t13 r0_0 r0_1 r0_2 r0_3 r0_4 (((t11.getD t13.toNat .x).cells.getD 0 .x).toS) (((t11.getD t13.toNat .x).cells.getD 1 .x).toI) (((t11.getD t13.toNat .x).cells.getD 2 .x).toI) (((t11.getD t13.toNat .x).cells.getD 3 .x).toS) (((t11.getD t13.toNat .x).cells.getD 4 .x).toS))
 (f164_j2 t1 t2 t11 t12 t13 r0_0 r0_1 r0_2 r0_3 r0_4 r1_0 r1_1 r1_2 r1_3 r1_4))
 (f164_j2 t1 t2 t11 t12 t13 r0_0 r0_1 r0_2 r0_3 r0_4 r1_0 r1_1 r1_2 r1_3 r1_4))
 (f164_j2 t1 t2 t11 t12 t13 r0_0 r0_1 r0_2 r0_3 r0_4 r1_0 r1_1 r1_2 r1_3 r1_4)
 else none
 else none)
 (some (.tup [(.agg [(.s r1_0), (.i .i64 r1_1), (.i .i64 r1_2), (.s r1_3), (.s r1_4)]), (.b (decide ((0 : Int) < r1_1)))])) := (Lp_eq ..).trans (by kernel_rfl)
theorem f164_j2_eq (t1 : ByteArray) (t2 : Int) (t11 : List AV) (t12 : Int) (t13 : Int) (r0_0 : ByteArray) (r0_1 : Int) (r0_2 : Int) (r0_3 : ByteArray) (r0_4 : ByteArray) (r1_0 : ByteArray) (r1_1 : Int) (r1_2 : Int) (r1_3 : ByteArray) (r1_4 : ByteArray) : f164_j2 t1 t2 t11 t12 t13 r0_0 r0_1 r0_2 r0_3 r0_4 r1_0 r1_1 r1_2 r1_3 r1_4 =
 f164_l1 t1 t2 t11 t12 (IntKind.i64.wrap (t13 + (1 : Int))) r0_0 r0_1 r0_2 r0_3 r0_4 r1_0 r1_1 r1_2 r1_3 r1_4 := by kernel_rfl
/-! 116: loop.example/g00905/impl.visible -/
theorem f116_eq (x0 : List AV) (x1 : ByteArray) (x2 : Int) : den E 116 [(.imm 5 x0), (.s x1), (.i .i64 x2)] [] =
 bSh (.tup [(.agg [.s, (.i .i64), (.i .i64), .s, .s]), .b]) (den E 164 [(.imm 5 x0), (.s x1), (.i .i64 x2)] []) fun a1 =>
 cond (((a1.nth 1).toB) == true)
 (some (.tup [(.s (((a1.nth 0).nth 3).toS)), (.b (decide ((((a1.nth 0).nth 2).toI) = (1 : Int))))]))
 (some (.tup [(.s (((a1.nth 0).nth 3).toS)), (.b false)])) := (den_eq ..).trans (by kernel_rfl)
/-! 64: loop.example/g00905/impl.scanVisible -/
noncomputable def f64o1_l1 (t0 : List AV) (t1 : ByteArray) (t2 : ByteArray) (t3 : Int) (t22 : List AV) (t23 : Int) (t24 : Int) (r0 : List AV) (r1 : List AV) : Option (AV × List Root) := LpO E fi64 [(4, [0, 1, 2, 3, 11, 22, 23, 24], 2), (7, [0, 1, 2, 3, 11, 13, 22, 23, 24], 2), (10, [0, 1, 2, 3, 11, 22, 23, 24], 2)] 0 (.so 0) [true, true, true, false, true, false] (mkT 56 [(0, (.imm 5 t0)), (1, (.s t1)), (2, (.s t2)), (3, (.i .i64 t3)), (11, (.sl 1 [] none)), (22, (.imm 1 t22)), (23, (.i .i64 t23)), (24, (.i .i64 t24))]) [(.live true false false 99 r0), (.live true false false 99 r1)]
noncomputable def f64o1_j2 (t0 : List AV) (t1 : ByteArray) (t2 : ByteArray) (t3 : Int) (t22 : List AV) (t23 : Int) (t24 : Int) (r0 : List AV) (r1 : List AV) : Option (AV × List Root) := JnO E fi64 [(4, [0, 1, 2, 3, 11, 22, 23, 24], 2), (7, [0, 1, 2, 3, 11, 13, 22, 23, 24], 2), (10, [0, 1, 2, 3, 11, 22, 23, 24], 2)] 0 (.so 0) [true, true, true, false, true, false, false, true, true, true] (mkT 56 [(0, (.imm 5 t0)), (1, (.s t1)), (2, (.s t2)), (3, (.i .i64 t3)), (11, (.sl 1 [] none)), (22, (.imm 1 t22)), (23, (.i .i64 t23)), (24, (.i .i64 t24))]) [(.live true false false 99 r0), (.live true false false 99 r1)]
noncomputable def f64o1_j3 (t0 : List AV) (t1 : ByteArray) (t2 : ByteArray) (t3 : Int) (t13 : ByteArray) (t22 : List AV) (t23 : Int) (t24 : Int) (r0 : List AV) (r1 : List AV) : Option (AV × List Root) := JnO E fi64 [(4, [0, 1, 2, 3, 11, 22, 23, 24], 2), (7, [0, 1, 2, 3, 11, 13, 22, 23, 24], 2), (10, [0, 1, 2, 3, 11, 22, 23, 24], 2)] 0 (.so 0) [true, true, true, false, true, false, false, true, true, false, false, true, true] (mkT 56 [(0, (.imm 5 t0)), (1, (.s t1)), (2, (.s t2)), (3, (.i .i64 t3)), (11, (.sl 1 [] none)), (13, (.s t13)), (22, (.imm 1 t22)), (23, (.i .i64 t23)), (24, (.i .i64 t24))]) [(.live true false false 99 r0), (.live true false false 99 r1)]
theorem f64o1_eq (x0 : List AV) (x1 : ByteArray) (x2 : ByteArray) (x3 : Int) : dno E 64 [(.imm 5 x0), (.s x1), (.s x2), (.i .i64 x3)] [] =
 bSh (.tup [(.sl 66 5), (.sl 66 5)]) (den E 114 [(.imm 5 x0)] []) fun a1 =>
 bSh (.sl 9 1) (den E 115 [(.imm 5 ((a1.nth 0).toL))] []) fun a2 =>
 f64o1_l1 x0 x1 x2 x3 a2.toL ((a2.toL.length : Nat) : Int) (0 : Int) [] [] := (dno_eq ..).trans (by kernel_rfl)
theorem f64o1_l1_eq (t0 : List AV) (t1 : ByteArray) (t2 : ByteArray) (t3 : Int) (t22 : List AV) (t23 : Int) (t24 : Int) (r0 : List AV) (r1 : List AV) : f64o1_l1 t0 t1 t2 t3 t22 t23 t24 r0 r1 =
 cond (decide (t24 < t23))
 (if 0 ≤ t24 ∧ t24 < ((t22.length : Nat) : Int) then
 if okCells false (t22.getD t24.toNat .x) 0 [.s] = true then
 cond ((lessS (((t22.getD t24.toNat .x).cells.getD 0 .x).toS) t1) == false)
 (cond ((!decide (t2 = ({ data := #[] } : ByteArray))) == true)
 (cond (!lessS (((t22.getD t24.toNat .x).cells.getD 0 .x).toS) t2)
 (f64o1_j2 t0 t1 t2 t3 t22 t23 t24 r0 r1)
 (f64o1_j3 t0 t1 t2 t3 (((t22.getD t24.toNat .x).cells.getD 0 .x).toS) t22 t23 t24 r0 r1))
 (f64o1_j3 t0 t1 t2 t3 (((t22.getD t24.toNat .x).cells.getD 0 .x).toS) t22 t23 t24 r0 r1))
 (f64o1_j2 t0 t1 t2 t3 t22 t23 t24 r0 r1)
 else none
 else none)
 (some ((.sl 0 [] none), [(.live true false false 99 r1)])) := (LpO_eq ..).trans (by kernel_rfl)
theorem f64o1_j2_eq (t0 : List AV) (t1 : ByteArray) (t2 : ByteArray) (t3 : Int) (t22 : List AV) (t23 : Int) (t24 : Int) (r0 : List AV) (r1 : List AV) : f64o1_j2 t0 t1 t2 t3 t22 t23 t24 r0 r1 =
 f64o1_l1 t0 t1 t2 t3 t22 t23 (IntKind.i64.wrap (t24 + (1 : Int))) r0 r1 := by kernel_rfl
theorem f64o1_j3_eq (t0 : List AV) (t1 : ByteArray) (t2 : ByteArray) (t3 : Int) (t13 : ByteArray) (t22 : List AV) (t23 : Int) (t24 : Int) (r0 : List AV) (r1 : List AV) : f64o1_j3 t0 t1 t2 t3 t13 t22 t23 t24 r0 r1 =
 bSh (.tup [.s, .b]) (den E 116 [(.imm 5 t0), (.s t13), (.i .i64 t3)] []) fun a1 =>
 cond ((a1.nth 1).toB)
 (if (r1.length + ([(.agg [(.s t13), (.s ((a1.nth 0).toS))])] : List AV).length) * 32 ≤ room then
 f64o1_j2 t0 t1 t2 t3 t22 t23 t24 r0 (r1 ++ [(.agg [(.s t13), (.s ((a1.nth 0).toS))])])
 else none)
 (f64o1_j2 t0 t1 t2 t3 t22 t23 t24 r0 r1) := by kernel_rfl
/-! 18: loop.example/g00905/impl.ScanVisible -/
theorem f18o1_eq (x0 : List AV) (x1 : ByteArray) (x2 : ByteArray) (x3 : Int) : dno E 18 [(.imm 5 x0), (.s x1), (.s x2), (.i .i64 x3)] [] =
 bSh .b (den E 62 [(.imm 5 x0)] []) fun a1 =>
 cond ((!a1.toB) == false)
 (bSh .b (den E 63 [(.s x1), (.s x2)] []) fun a2 =>
 cond (!a2.toB)
 (some ((.sl 0 [] none), [(.live true false false 99 [])]))
 (bOwn (.so 0) [(.row true 99)] 0 (dno E 64 [(.imm 5 x0), (.s x1), (.s x2), (.i .i64 x3)] []) fun a3 =>
 some ((.sl 0 [] none), [(.live true false false 99 ((a3.2.getD 0 .dead).row))])))
 (some ((.sl 0 [] none), [(.live true false false 99 [])])) := (dno_eq ..).trans (by kernel_rfl)
/-! 25: loop.example/g00905/impl.VisibleAt -/
theorem f25o1_eq (x0 : List AV) (x1 : Int) : dno E 25 [(.imm 5 x0), (.i .i64 x1)] [] =
 bOwn (.so 0) [(.row true 99)] 0 (dno E 18 [(.imm 5 x0), (.s ({ data := #[] } : ByteArray)), (.s ({ data := #[] } : ByteArray)), (.i .i64 x1)] []) fun a1 =>
 some ((.sl 0 [] none), [(.live true false false 99 ((a1.2.getD 0 .dead).row))]) := (dno_eq ..).trans (by kernel_rfl)
/-! 65: loop.example/g00905/laws.eqPair -/
theorem f65_eq (x0_0 : ByteArray) (x0_1 : ByteArray) (x1_0 : ByteArray) (x1_1 : ByteArray) : den E 65 [(.agg [(.s x0_0), (.s x0_1)]), (.agg [(.s x1_0), (.s x1_1)])] [] =
 cond (!decide (x0_0 = x1_0))
 (some (.b false))
 (cond (!decide (x0_1 = x1_1))
 (some (.b false))
 (some (.b true))) := (den_eq ..).trans (by kernel_rfl)
/-! 19: loop.example/g00905/laws.eqPairS -/
noncomputable def f19_l1 (t0 : List AV) (t1 : List AV) (t5 : Int) : Option AV := Lp E fi19 [true, true, false, true, false] (mkT 27 [(0, (.imm 2 t0)), (1, (.imm 2 t1)), (5, (.i .i64 t5))]) []
theorem f19_eq (x0 : List AV) (x1 : List AV) : den E 19 [(.imm 2 x0), (.imm 2 x1)] [] =
 cond (!decide (((x0.length : Nat) : Int) = ((x1.length : Nat) : Int)))
 (some (.b false))
 (f19_l1 x0 x1 (0 : Int)) := (den_eq ..).trans (by kernel_rfl)
theorem f19_l1_eq (t0 : List AV) (t1 : List AV) (t5 : Int) : f19_l1 t0 t1 t5 =
 cond (decide (t5 < ((t0.length : Nat) : Int)))
 (if 0 ≤ t5 ∧ t5 < ((t0.length : Nat) : Int) then
 if okCells false (t0.getD t5.toNat .x) 0 [.s, .s] = true then
 if 0 ≤ t5 ∧ t5 < ((t1.length : Nat) : Int) then
 if okCells false (t1.getD t5.toNat .x) 0 [.s, .s] = true then
 bSh .b (den E 65 [(.agg [(.s (((t0.getD t5.toNat .x).cells.getD 0 .x).toS)), (.s (((t0.getD t5.toNat .x).cells.getD 1 .x).toS))]), (.agg [(.s (((t1.getD t5.toNat .x).cells.getD 0 .x).toS)), (.s (((t1.getD t5.toNat .x).cells.getD 1 .x).toS))])] []) fun a1 =>
 cond (!a1.toB)
 (some (.b false))
 (f19_l1 t0 t1 (IntKind.i64.wrap (t5 + (1 : Int))))
 else none
 else none
 else none
 else none)
 (some (.b true)) := (Lp_eq ..).trans (by kernel_rfl)
/-! 66: loop.example/g00905/laws.eqRecord -/
theorem f66_eq (x0_0 : ByteArray) (x0_1 : Int) (x0_2 : Int) (x0_3 : ByteArray) (x0_4 : ByteArray) (x1_0 : ByteArray) (x1_1 : Int) (x1_2 : Int) (x1_3 : ByteArray) (x1_4 : ByteArray) : den E 66 [(.agg [(.s x0_0), (.i .i64 x0_1), (.i .i64 x0_2), (.s x0_3), (.s x0_4)]), (.agg [(.s x1_0), (.i .i64 x1_1), (.i .i64 x1_2), (.s x1_3), (.s x1_4)])] [] =
 cond (!decide (x0_0 = x1_0))
 (some (.b false))
 (cond (!decide (x0_1 = x1_1))
 (some (.b false))
 (cond (!decide (x0_2 = x1_2))
 (some (.b false))
 (cond (!decide (x0_3 = x1_3))
 (some (.b false))
 (cond (!decide (x0_4 = x1_4))
 (some (.b false))
 (some (.b true)))))) := (den_eq ..).trans (by kernel_rfl)
/-! 20: loop.example/g00905/laws.eqRecordS -/
noncomputable def f20_l1 (t0 : List AV) (t1 : List AV) (t5 : Int) : Option AV := Lp E fi20 [true, true, false, true, false] (mkT 27 [(0, (.imm 5 t0)), (1, (.imm 5 t1)), (5, (.i .i64 t5))]) []
theorem f20_eq (x0 : List AV) (x1 : List AV) : den E 20 [(.imm 5 x0), (.imm 5 x1)] [] =
 cond (!decide (((x0.length : Nat) : Int) = ((x1.length : Nat) : Int)))
 (some (.b false))
 (f20_l1 x0 x1 (0 : Int)) := (den_eq ..).trans (by kernel_rfl)
theorem f20_l1_eq (t0 : List AV) (t1 : List AV) (t5 : Int) : f20_l1 t0 t1 t5 =
 cond (decide (t5 < ((t0.length : Nat) : Int)))
 (if 0 ≤ t5 ∧ t5 < ((t0.length : Nat) : Int) then
 if okCells false (t0.getD t5.toNat .x) 0 [.s, (.i .i64), (.i .i64), .s, .s] = true then
 if 0 ≤ t5 ∧ t5 < ((t1.length : Nat) : Int) then
 if okCells false (t1.getD t5.toNat .x) 0 [.s, (.i .i64), (.i .i64), .s, .s] = true then
 bSh .b (den E 66 [(.agg [(.s (((t0.getD t5.toNat .x).cells.getD 0 .x).toS)), (.i .i64 (((t0.getD t5.toNat .x).cells.getD 1 .x).toI)), (.i .i64 (((t0.getD t5.toNat .x).cells.getD 2 .x).toI)), (.s (((t0.getD t5.toNat .x).cells.getD 3 .x).toS)), (.s (((t0.getD t5.toNat .x).cells.getD 4 .x).toS))]), (.agg [(.s (((t1.getD t5.toNat .x).cells.getD 0 .x).toS)), (.i .i64 (((t1.getD t5.toNat .x).cells.getD 1 .x).toI)), (.i .i64 (((t1.getD t5.toNat .x).cells.getD 2 .x).toI)), (.s (((t1.getD t5.toNat .x).cells.getD 3 .x).toS)), (.s (((t1.getD t5.toNat .x).cells.getD 4 .x).toS))])] []) fun a1 =>
 cond (!a1.toB)
 (some (.b false))
 (f20_l1 t0 t1 (IntKind.i64.wrap (t5 + (1 : Int))))
 else none
 else none
 else none
 else none)
 (some (.b true)) := (Lp_eq ..).trans (by kernel_rfl)
/-! 67: loop.example/g00905/laws.markText -/
noncomputable def f67_l1 (t0 : Int) (t3 : ByteArray) : Option AV := Lp E fi67 [true, true, true, false, false] (mkT 20 [(0, (.i .i64 t0)), (3, (.s t3))]) []
theorem f67_eq (x0 : Int) : den E 67 [(.i .i64 x0)] [] =
 cond (decide (x0 ≤ (0 : Int)))
 (some (.s ({ data := #[109, 48] } : ByteArray)))
 (f67_l1 x0 ({ data := #[] } : ByteArray)) := (den_eq ..).trans (by kernel_rfl)
theorem f67_l1_eq (t0 : Int) (t3 : ByteArray) : f67_l1 t0 t3 =
 cond (decide ((0 : Int) < t0))
 (if (([(.i .u8 (IntKind.u8.wrap (IntKind.i64.wrap ((48 : Int) + (t0.tmod (10 : Int))))))] : List AV)).all isU8 = true then
 if (bytesOf [(.i .u8 (IntKind.u8.wrap (IntKind.i64.wrap ((48 : Int) + (t0.tmod (10 : Int))))))]).size + t3.size ≤ 9223372036854775807 then
 f67_l1 (IntKind.i64.wrap (t0.tdiv (10 : Int))) ((bytesOf [(.i .u8 (IntKind.u8.wrap (IntKind.i64.wrap ((48 : Int) + (t0.tmod (10 : Int))))))]) ++ t3)
 else none
 else none)
 (if ({ data := #[109] } : ByteArray).size + t3.size ≤ 9223372036854775807 then
 some (.s (({ data := #[109] } : ByteArray) ++ t3))
 else none) := (Lp_eq ..).trans (by kernel_rfl)
/-! 21: loop.example/g00905/laws.markRecordS -/
noncomputable def f21o1_l1 (t1 : Int) (t5 : Int) (r0 : List AV) : Option (AV × List Root) := LpO E fi21 [(2, [0, 1, 5], 1)] 1 (.i .i64) [true, false, true, false] (mkT 51 [(0, (.sl 0 [] none)), (1, (.i .i64 t1)), (5, (.i .i64 t5))]) [(.live true false false 66 r0)]
theorem f21o1_eq (x1 : Int) (s0 : List AV) : dno E 21 [(.sl 0 [] none), (.i .i64 x1)] [(.live true false false 66 s0)] =
 f21o1_l1 x1 (0 : Int) s0 := (dno_eq ..).trans (by kernel_rfl)
theorem f21o1_l1_eq (t1 : Int) (t5 : Int) (r0 : List AV) : f21o1_l1 t1 t5 r0 =
 cond (decide (t5 < ((r0.length : Nat) : Int)))
 (bSh .s (den E 67 [(.i .i64 t1)] []) fun a1 =>
 if 0 ≤ t5 ∧ t5 < ((r0.length : Nat) : Int) then
 if 0 ≤ t5 ∧ t5 < (((r0.set (0 + t5.toNat) ((r0.getD (0 + t5.toNat) .x).putCells 0 [(.s a1.toS)])).length : Nat) : Int) then
 if 0 ≤ t5 ∧ t5 < ((((r0.set (0 + t5.toNat) ((r0.getD (0 + t5.toNat) .x).putCells 0 [(.s a1.toS)])).set (0 + t5.toNat) (((r0.set (0 + t5.toNat) ((r0.getD (0 + t5.toNat) .x).putCells 0 [(.s a1.toS)])).getD (0 + t5.toNat) .x).putCells 1 [(.i .i64 (IntKind.i64.wrap (t1 + (1 : Int))))])).length : Nat) : Int) then
 bSh .s (den E 67 [(.i .i64 (IntKind.i64.wrap ((IntKind.i64.wrap ((IntKind.i64.wrap (t1 + (1 : Int))) + (1 : Int))) + (1 : Int))))] []) fun a2 =>
 if 0 ≤ t5 ∧ t5 < (((putAt ((r0.set (0 + t5.toNat) ((r0.getD (0 + t5.toNat) .x).putCells 0 [(.s a1.toS)])).set (0 + t5.toNat) (((r0.set (0 + t5.toNat) ((r0.getD (0 + t5.toNat) .x).putCells 0 [(.s a1.toS)])).getD (0 + t5.toNat) .x).putCells 1 [(.i .i64 (IntKind.i64.wrap (t1 + (1 : Int))))])) (0 + t5.toNat) 2 [(.i .i64 (IntKind.i64.wrap ((IntKind.i64.wrap (t1 + (1 : Int))) + (1 : Int))))]).length : Nat) : Int) then
 bSh .s (den E 67 [(.i .i64 (IntKind.i64.wrap ((IntKind.i64.wrap ((IntKind.i64.wrap ((IntKind.i64.wrap (t1 + (1 : Int))) + (1 : Int))) + (1 : Int))) + (1 : Int))))] []) fun a3 =>
 if 0 ≤ t5 ∧ t5 < (((putAt (putAt ((r0.set (0 + t5.toNat) ((r0.getD (0 + t5.toNat) .x).putCells 0 [(.s a1.toS)])).set (0 + t5.toNat) (((r0.set (0 + t5.toNat) ((r0.getD (0 + t5.toNat) .x).putCells 0 [(.s a1.toS)])).getD (0 + t5.toNat) .x).putCells 1 [(.i .i64 (IntKind.i64.wrap (t1 + (1 : Int))))])) (0 + t5.toNat) 2 [(.i .i64 (IntKind.i64.wrap ((IntKind.i64.wrap (t1 + (1 : Int))) + (1 : Int))))]) (0 + t5.toNat) 3 [(.s a2.toS)]).length : Nat) : Int) then
 f21o1_l1 (IntKind.i64.wrap ((IntKind.i64.wrap ((IntKind.i64.wrap ((IntKind.i64.wrap ((IntKind.i64.wrap (t1 + (1 : Int))) + (1 : Int))) + (1 : Int))) + (1 : Int))) + (1 : Int))) (IntKind.i64.wrap (t5 + (1 : Int))) (putAt (putAt (putAt ((r0.set (0 + t5.toNat) ((r0.getD (0 + t5.toNat) .x).putCells 0 [(.s a1.toS)])).set (0 + t5.toNat) (((r0.set (0 + t5.toNat) ((r0.getD (0 + t5.toNat) .x).putCells 0 [(.s a1.toS)])).getD (0 + t5.toNat) .x).putCells 1 [(.i .i64 (IntKind.i64.wrap (t1 + (1 : Int))))])) (0 + t5.toNat) 2 [(.i .i64 (IntKind.i64.wrap ((IntKind.i64.wrap (t1 + (1 : Int))) + (1 : Int))))]) (0 + t5.toNat) 3 [(.s a2.toS)]) (0 + t5.toNat) 4 [(.s a3.toS)])
 else none
 else none
 else none
 else none
 else none)
 (some ((.i .i64 t1), [(.live true false false 66 r0)])) := (LpO_eq ..).trans (by kernel_rfl)
/-! 22: loop.example/g00905/laws.markPairS -/
noncomputable def f22o1_l1 (t1 : Int) (t5 : Int) (r0 : List AV) : Option (AV × List Root) := LpO E fi22 [(2, [0, 1, 5], 1)] 1 (.i .i64) [true, false, true, false] (mkT 29 [(0, (.sl 0 [] none)), (1, (.i .i64 t1)), (5, (.i .i64 t5))]) [(.live true false false 99 r0)]
theorem f22o1_eq (x1 : Int) (s0 : List AV) : dno E 22 [(.sl 0 [] none), (.i .i64 x1)] [(.live true false false 99 s0)] =
 f22o1_l1 x1 (0 : Int) s0 := (dno_eq ..).trans (by kernel_rfl)
theorem f22o1_l1_eq (t1 : Int) (t5 : Int) (r0 : List AV) : f22o1_l1 t1 t5 r0 =
 cond (decide (t5 < ((r0.length : Nat) : Int)))
 (bSh .s (den E 67 [(.i .i64 t1)] []) fun a1 =>
 if 0 ≤ t5 ∧ t5 < ((r0.length : Nat) : Int) then
 bSh .s (den E 67 [(.i .i64 (IntKind.i64.wrap (t1 + (1 : Int))))] []) fun a2 =>
 if 0 ≤ t5 ∧ t5 < (((r0.set (0 + t5.toNat) ((r0.getD (0 + t5.toNat) .x).putCells 0 [(.s a1.toS)])).length : Nat) : Int) then
 f22o1_l1 (IntKind.i64.wrap ((IntKind.i64.wrap (t1 + (1 : Int))) + (1 : Int))) (IntKind.i64.wrap (t5 + (1 : Int))) ((r0.set (0 + t5.toNat) ((r0.getD (0 + t5.toNat) .x).putCells 0 [(.s a1.toS)])).set (0 + t5.toNat) (((r0.set (0 + t5.toNat) ((r0.getD (0 + t5.toNat) .x).putCells 0 [(.s a1.toS)])).getD (0 + t5.toNat) .x).putCells 1 [(.s a2.toS)]))
 else none
 else none)
 (some ((.i .i64 t1), [(.live true false false 99 r0)])) := (LpO_eq ..).trans (by kernel_rfl)
/-! 23: loop.example/g00905/laws.heldPairS -/
noncomputable def f23_l1 (t0 : List AV) (t1 : Int) (t5 : Int) : Option AV := Lp E fi23 [true, false, true, false] (mkT 33 [(0, (.imm 2 t0)), (1, (.i .i64 t1)), (5, (.i .i64 t5))]) []
theorem f23_eq (x0 : List AV) (x1 : Int) : den E 23 [(.imm 2 x0), (.i .i64 x1)] [] =
 f23_l1 x0 x1 (0 : Int) := (den_eq ..).trans (by kernel_rfl)
theorem f23_l1_eq (t0 : List AV) (t1 : Int) (t5 : Int) : f23_l1 t0 t1 t5 =
 cond (decide (t5 < ((t0.length : Nat) : Int)))
 (if 0 ≤ t5 ∧ t5 < ((t0.length : Nat) : Int) then
 if okCells false (t0.getD t5.toNat .x) 0 [.s] = true then
 bSh .s (den E 67 [(.i .i64 t1)] []) fun a1 =>
 cond (!decide ((((t0.getD t5.toNat .x).cells.getD 0 .x).toS) = a1.toS))
 (some (.i .i64 (-1 : Int)))
 (if 0 ≤ t5 ∧ t5 < ((t0.length : Nat) : Int) then
 if okCells false (t0.getD t5.toNat .x) 1 [.s] = true then
 bSh .s (den E 67 [(.i .i64 (IntKind.i64.wrap (t1 + (1 : Int))))] []) fun a2 =>
 cond (!decide ((((t0.getD t5.toNat .x).cells.getD 1 .x).toS) = a2.toS))
 (some (.i .i64 (-1 : Int)))
 (f23_l1 t0 (IntKind.i64.wrap ((IntKind.i64.wrap (t1 + (1 : Int))) + (1 : Int))) (IntKind.i64.wrap (t5 + (1 : Int))))
 else none
 else none)
 else none
 else none)
 (some (.i .i64 t1)) := (Lp_eq ..).trans (by kernel_rfl)
/-! 5: loop.example/g00905/laws.FnExactVisibleAt -/
theorem f5_eq (x0 : List AV) (x1 : Int) : den E 5 [(.imm 5 x0), (.i .i64 x1)] [] =
 bSh (.i .i64) (den E 15 [(.imm 5 x0), (.i .i64 (1048576 : Int))] []) fun a1 =>
 cond (decide (a1.toI < (0 : Int)))
 (some (.b true))
 (bOwn (.so 0) [(.row true 66)] 0 (dno E 17 [(.imm 5 x0)] []) fun a2 =>
 bOwnF (.so 0) [(.row true 99)] 0 (dno E 24 [(.imm 5 ((a2.2.getD 0 .dead).row)), (.i .i64 x1)] []) fun a3 =>
 bOwn (.so 0) [(.row true 66)] 0 (dno E 17 [(.imm 5 x0)] []) fun a4 =>
 bOwnF (.so 0) [(.row true 99)] 0 (dno E 25 [(.imm 5 ((a4.2.getD 0 .dead).row)), (.i .i64 x1)] []) fun a5 =>
 bSh .b (den E 19 [(.imm 2 ((a5.2.getD 0 .dead).row)), (.imm 2 ((a3.2.getD 0 .dead).row))] []) fun a6 =>
 cond (!a6.toB)
 (some (.b false))
 (bOwn (.so 0) [(.row true 66)] 0 (dno E 17 [(.imm 5 x0)] []) fun a7 =>
 bSh .b (den E 20 [(.imm 5 ((a4.2.getD 0 .dead).row)), (.imm 5 ((a7.2.getD 0 .dead).row))] []) fun a8 =>
 cond (!a8.toB)
 (some (.b false))
 (bOwnS (.i .i64) [(.same 66)] 1 [(.live true false false 66 ((a4.2.getD 0 .dead).row))] (dno E 21 [(.sl 0 [] none), (.i .i64 (1 : Int))] [(.live true false false 66 ((a4.2.getD 0 .dead).row))]) fun a9 =>
 cond ((decide (a9.1.toI < (0 : Int))) == false)
 (bSh .b (den E 19 [(.imm 2 ((a5.2.getD 0 .dead).row)), (.imm 2 ((a3.2.getD 0 .dead).row))] []) fun a10 =>
 cond (!a10.toB)
 (some (.b false))
 (bOwnS (.i .i64) [(.same 99)] 1 [(.live true false false 99 ((a5.2.getD 0 .dead).row))] (dno E 22 [(.sl 0 [] none), (.i .i64 (1 : Int))] [(.live true false false 99 ((a5.2.getD 0 .dead).row))]) fun a11 =>
 bSh (.i .i64) (den E 23 [(.imm 2 ((a11.2.getD 0 .dead).row)), (.i .i64 (1 : Int))] []) fun a12 =>
 cond (decide (a12.toI < (0 : Int)))
 (some (.b false))
 (cond (!decide (a12.toI = a11.1.toI))
 (some (.b false))
 (bOwn (.so 0) [(.row true 66)] 0 (dno E 17 [(.imm 5 x0)] []) fun a13 =>
 bOwnF (.so 0) [(.row true 99)] 0 (dno E 25 [(.imm 5 ((a13.2.getD 0 .dead).row)), (.i .i64 x1)] []) fun a14 =>
 bSh .b (den E 19 [(.imm 2 ((a14.2.getD 0 .dead).row)), (.imm 2 ((a3.2.getD 0 .dead).row))] []) fun a15 =>
 cond (!a15.toB)
 (some (.b false))
 (bSh (.i .i64) (den E 23 [(.imm 2 ((a11.2.getD 0 .dead).row)), (.i .i64 (1 : Int))] []) fun a16 =>
 cond (decide (a16.toI < (0 : Int)))
 (some (.b false))
 (cond (!decide (a16.toI = a11.1.toI))
 (some (.b false))
 (some (.b true))))))))
 (some (.b false))))) := (den_eq ..).trans (by kernel_rfl)
end Go.Proofs.Ytokpbjbngnlepaa.IVisibleAt
