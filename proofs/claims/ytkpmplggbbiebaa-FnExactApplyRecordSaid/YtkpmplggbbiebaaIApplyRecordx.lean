/- Printed by a program of this work (wip/it/itp.py): what each function comes to. No condition. -/
import Derived.Test.YtkpmplggbbiebaaIApplyRecordt
namespace Go.Proofs.Ytkpmplggbbiebaa.IApplyRecord
open Go Go.Proofs.YtkpmplggbbiebaaIT
set_option linter.unusedVariables false
/-! 59: loop.example/g00905/laws.szPair -/
theorem f59_eq (x0_0 : ByteArray) (x0_1 : ByteArray) (x1 : Int) : den E 59 [(.agg [(.s x0_0), (.s x0_1)]), (.i .i64 x1)] [] =
 cond (decide ((IntKind.i64.wrap (x1 - ((x0_0.size : Nat) : Int))) < (0 : Int)))
 (some (.i .i64 (-1 : Int)))
 (cond (decide ((IntKind.i64.wrap ((IntKind.i64.wrap (x1 - ((x0_0.size : Nat) : Int))) - ((x0_1.size : Nat) : Int))) < (0 : Int)))
 (some (.i .i64 (-1 : Int)))
 (some (.i .i64 (IntKind.i64.wrap ((IntKind.i64.wrap (x1 - ((x0_0.size : Nat) : Int))) - ((x0_1.size : Nat) : Int)))))) := (den_eq ..).trans (by kernel_rfl)
/-! 17: loop.example/g00905/laws.szPairS -/
noncomputable def f17_l1 (t0 : List AV) (t1 : Int) (t5 : Int) : Option AV := Lp E fi17 [true, true, true, false, true, false] (mkT 27 [(0, (.imm 2 t0)), (1, (.i .i64 t1)), (5, (.i .i64 t5))]) []
theorem f17_eq (x0 : List AV) (x1 : Int) : den E 17 [(.imm 2 x0), (.i .i64 x1)] [] =
 cond (decide ((IntKind.i64.wrap (x1 - ((x0.length : Nat) : Int))) < (0 : Int)))
 (some (.i .i64 (-1 : Int)))
 (f17_l1 x0 (IntKind.i64.wrap (x1 - ((x0.length : Nat) : Int))) (0 : Int)) := (den_eq ..).trans (by kernel_rfl)
theorem f17_l1_eq (t0 : List AV) (t1 : Int) (t5 : Int) : f17_l1 t0 t1 t5 =
 cond (decide (t5 < ((t0.length : Nat) : Int)))
 (if 0 ≤ t5 ∧ t5 < ((t0.length : Nat) : Int) then
 if okCells false (t0.getD t5.toNat .x) 0 [.s, .s] = true then
 bSh (.i .i64) (den E 59 [(.agg [(.s (((t0.getD t5.toNat .x).cells.getD 0 .x).toS)), (.s (((t0.getD t5.toNat .x).cells.getD 1 .x).toS))]), (.i .i64 t1)] []) fun a1 =>
 cond (decide (a1.toI < (0 : Int)))
 (some (.i .i64 (-1 : Int)))
 (f17_l1 t0 a1.toI (IntKind.i64.wrap (t5 + (1 : Int))))
 else none
 else none)
 (some (.i .i64 t1)) := (Lp_eq ..).trans (by kernel_rfl)
/-! 18: loop.example/g00905/laws.szRecord -/
theorem f18_eq (x0_0 : ByteArray) (x0_1 : Int) (x0_2 : Int) (x0_3 : ByteArray) (x0_4 : ByteArray) (x1 : Int) : den E 18 [(.agg [(.s x0_0), (.i .i64 x0_1), (.i .i64 x0_2), (.s x0_3), (.s x0_4)]), (.i .i64 x1)] [] =
 cond (decide ((IntKind.i64.wrap (x1 - ((x0_0.size : Nat) : Int))) < (0 : Int)))
 (some (.i .i64 (-1 : Int)))
 (cond (decide ((IntKind.i64.wrap ((IntKind.i64.wrap (x1 - ((x0_0.size : Nat) : Int))) - ((x0_3.size : Nat) : Int))) < (0 : Int)))
 (some (.i .i64 (-1 : Int)))
 (cond (decide ((IntKind.i64.wrap ((IntKind.i64.wrap ((IntKind.i64.wrap (x1 - ((x0_0.size : Nat) : Int))) - ((x0_3.size : Nat) : Int))) - ((x0_4.size : Nat) : Int))) < (0 : Int)))
 (some (.i .i64 (-1 : Int)))
 (some (.i .i64 (IntKind.i64.wrap ((IntKind.i64.wrap ((IntKind.i64.wrap (x1 - ((x0_0.size : Nat) : Int))) - ((x0_3.size : Nat) : Int))) - ((x0_4.size : Nat) : Int))))))) := (den_eq ..).trans (by kernel_rfl)
/-! 63: loop.example/g00905/laws.toPair -/
theorem f63_eq (x0_0 : ByteArray) (x0_1 : ByteArray) : den E 63 [(.agg [(.s x0_0), (.s x0_1)])] [] =
 some (.agg [(.s x0_0), (.s x0_1)]) := (den_eq ..).trans (by kernel_rfl)
/-! 20: loop.example/g00905/laws.toPairS -/
noncomputable def f20o1_l1 (t0 : List AV) (t4 : Int) (r0 : List AV) (r1 : List AV) : Option (AV × List Root) := LpO E fi20 [(3, [0, 3, 4], 2)] 0 (.so 0) [true, true, false, true, false] (mkT 23 [(0, (.imm 2 t0)), (3, (.sl 1 [] none)), (4, (.i .i64 t4))]) [(.live true false false 106 r0), (.live true false false 106 r1)]
theorem f20o1_eq (x0 : List AV) : dno E 20 [(.imm 2 x0)] [] =
 if 0 ≤ ((x0.length : Nat) : Int) ∧ ((x0.length : Nat) : Int) ≤ ((x0.length : Nat) : Int) ∧ ((x0.length : Nat) : Int) * ((32 : Nat) : Int) ≤ ((room : Nat) : Int) ∧ ((x0.length : Nat) : Int) ≤ 9223372036854775807 then
 f20o1_l1 x0 (0 : Int) [] (List.replicate ((x0.length : Nat) : Int).toNat (.agg [(.s .empty), (.s .empty)]))
 else none := (dno_eq ..).trans (by kernel_rfl)
theorem f20o1_l1_eq (t0 : List AV) (t4 : Int) (r0 : List AV) (r1 : List AV) : f20o1_l1 t0 t4 r0 r1 =
 cond (decide (t4 < ((t0.length : Nat) : Int)))
 (if 0 ≤ t4 ∧ t4 < ((t0.length : Nat) : Int) then
 if okCells false (t0.getD t4.toNat .x) 0 [.s, .s] = true then
 bSh (.agg [.s, .s]) (den E 63 [(.agg [(.s (((t0.getD t4.toNat .x).cells.getD 0 .x).toS)), (.s (((t0.getD t4.toNat .x).cells.getD 1 .x).toS))])] []) fun a1 =>
 if 0 ≤ t4 ∧ t4 < ((r1.length : Nat) : Int) then
 f20o1_l1 t0 (IntKind.i64.wrap (t4 + (1 : Int))) r0 (r1.set (0 + t4.toNat) ((r1.getD (0 + t4.toNat) .x).putCells 0 [(.s ((a1.nth 0).toS)), (.s ((a1.nth 1).toS))]))
 else none
 else none
 else none)
 (some ((.sl 0 [] none), [(.live true false false 106 r1)])) := (LpO_eq ..).trans (by kernel_rfl)
/-! 21: loop.example/g00905/laws.toRecord -/
theorem f21_eq (x0_0 : ByteArray) (x0_1 : Int) (x0_2 : Int) (x0_3 : ByteArray) (x0_4 : ByteArray) : den E 21 [(.agg [(.s x0_0), (.i .i64 x0_1), (.i .i64 x0_2), (.s x0_3), (.s x0_4)])] [] =
 some (.agg [(.s x0_0), (.i .i64 x0_1), (.i .i64 x0_2), (.s x0_3), (.s x0_4)]) := (den_eq ..).trans (by kernel_rfl)
/-! 53: loop.example/g00905/spec.l17Key -/
theorem f53_eq (x0 : ByteArray) : den E 53 [(.s x0)] [] =
 cond ((decide ((1 : Int) ≤ ((x0.size : Nat) : Int))) == true)
 (some (.b (decide (((x0.size : Nat) : Int) ≤ (8 : Int)))))
 (some (.b false)) := (den_eq ..).trans (by kernel_rfl)
/-! 60: loop.example/g00905/spec.l24State -/
noncomputable def f60_l1 (t0 : List AV) (t3 : Int) : Option AV := Lp E fi60 [true, false, true, false] (mkT 44 [(0, (.imm 2 t0)), (3, (.i .i64 t3))]) []
noncomputable def f60_j2 (t0 : List AV) (t3 : Int) : Option AV := Jn E fi60 [true, false, true, false, false, true, true] (mkT 44 [(0, (.imm 2 t0)), (3, (.i .i64 t3))]) []
theorem f60_eq (x0 : List AV) : den E 60 [(.imm 2 x0)] [] =
 f60_l1 x0 (0 : Int) := (den_eq ..).trans (by kernel_rfl)
theorem f60_l1_eq (t0 : List AV) (t3 : Int) : f60_l1 t0 t3 =
 cond (decide (t3 < ((t0.length : Nat) : Int)))
 (if 0 ≤ t3 ∧ t3 < ((t0.length : Nat) : Int) then
 if okCells false (t0.getD t3.toNat .x) 0 [.s] = true then
 bSh .b (den E 53 [(.s (((t0.getD t3.toNat .x).cells.getD 0 .x).toS))] []) fun a1 =>
 cond ((!a1.toB) == false)
 (if 0 ≤ t3 ∧ t3 < ((t0.length : Nat) : Int) then
 if okCells false (t0.getD t3.toNat .x) 1 [.s] = true then
 cond ((decide ((16 : Int) < (((((t0.getD t3.toNat .x).cells.getD 1 .x).toS).size : Nat) : Int))) == false)
 (cond ((decide ((0 : Int) < t3)) == true)
 (if 0 ≤ (IntKind.i64.wrap (t3 - (1 : Int))) ∧ (IntKind.i64.wrap (t3 - (1 : Int))) < ((t0.length : Nat) : Int) then
 if okCells false (t0.getD (IntKind.i64.wrap (t3 - (1 : Int))).toNat .x) 0 [.s] = true then
 if 0 ≤ t3 ∧ t3 < ((t0.length : Nat) : Int) then
 if okCells false (t0.getD t3.toNat .x) 0 [.s] = true then
 cond (!lessS (((t0.getD (IntKind.i64.wrap (t3 - (1 : Int))).toNat .x).cells.getD 0 .x).toS) (((t0.getD t3.toNat .x).cells.getD 0 .x).toS))
 (some (.b false))
 (f60_j2 t0 t3)
 else none
 else none
 else none
 else none)
 (f60_j2 t0 t3))
 (some (.b false))
 else none
 else none)
 (some (.b false))
 else none
 else none)
 (some (.b true)) := (Lp_eq ..).trans (by kernel_rfl)
theorem f60_j2_eq (t0 : List AV) (t3 : Int) : f60_j2 t0 t3 =
 f60_l1 t0 (IntKind.i64.wrap (t3 + (1 : Int))) := by kernel_rfl
/-! 70: loop.example/g00905/spec.l00In -/
theorem f70_eq (x0 : Int) (x1 : Int) (x2 : Int) : den E 70 [(.i .i64 x0), (.i .i64 x1), (.i .i64 x2)] [] =
 cond ((decide (x1 ≤ x0)) == true)
 (some (.b (decide (x0 ≤ x2))))
 (some (.b false)) := (den_eq ..).trans (by kernel_rfl)
/-! 61: loop.example/g00905/spec.l17Valid -/
theorem f61_eq (x0_0 : ByteArray) (x0_1 : Int) (x0_2 : Int) (x0_3 : ByteArray) (x0_4 : ByteArray) : den E 61 [(.agg [(.s x0_0), (.i .i64 x0_1), (.i .i64 x0_2), (.s x0_3), (.s x0_4)])] [] =
 bSh .b (den E 53 [(.s x0_0)] []) fun a1 =>
 cond ((!a1.toB) == false)
 (bSh .b (den E 70 [(.i .i64 x0_1), (.i .i64 (1 : Int)), (.i .i64 (1000000 : Int))] []) fun a2 =>
 cond (!a2.toB)
 (some (.b false))
 (cond (decide (x0_2 = (1 : Int)))
 (cond ((decide (((x0_3.size : Nat) : Int) ≤ (16 : Int))) == true)
 (some (.b (decide (x0_4 = ({ data := #[] } : ByteArray)))))
 (some (.b false)))
 (cond (decide (x0_2 = (2 : Int)))
 (cond ((decide (x0_3 = ({ data := #[] } : ByteArray))) == true)
 (some (.b (decide (x0_4 = ({ data := #[] } : ByteArray)))))
 (some (.b false)))
 (cond (decide (x0_2 = (3 : Int)))
 (cond ((decide (x0_3 = ({ data := #[] } : ByteArray))) == true)
 (bSh .b (den E 53 [(.s x0_4)] []) fun a3 =>
 cond (a3.toB == true)
 (some (.b (lessS x0_0 x0_4)))
 (some (.b false)))
 (some (.b false)))
 (some (.b false))))))
 (some (.b false)) := (den_eq ..).trans (by kernel_rfl)
/-! 62: loop.example/g00905/spec.l17Affects -/
theorem f62_eq (x0_0 : ByteArray) (x0_1 : Int) (x0_2 : Int) (x0_3 : ByteArray) (x0_4 : ByteArray) (x1 : ByteArray) : den E 62 [(.agg [(.s x0_0), (.i .i64 x0_1), (.i .i64 x0_2), (.s x0_3), (.s x0_4)]), (.s x1)] [] =
 cond (decide (x0_2 = (3 : Int)))
 (cond ((lessS x0_0 x1 || decide (x0_0 = x1)) == true)
 (some (.b (lessS x1 x0_4)))
 (some (.b false)))
 (some (.b (decide (x0_0 = x1)))) := (den_eq ..).trans (by kernel_rfl)
/-! 19: loop.example/g00905/spec.ApplyRecord -/
noncomputable def f19o1_l1 (t0 : List AV) (t7 : Bool) (t8 : Int) (r0_0 : ByteArray) (r0_1 : Int) (r0_2 : Int) (r0_3 : ByteArray) (r0_4 : ByteArray) (r1 : List AV) (r2 : List AV) : Option (AV × List Root) := LpO E fi19 [(6, [0, 3, 6, 7, 8], 3), (7, [0, 3, 6, 7, 8], 3), (11, [0, 3, 6, 7, 8], 3), (15, [6], 3)] 0 (.tup [(.so 0), (.i .i64)]) [true, true, true, true, false, true, false] (mkT 74 [(0, (.imm 2 t0)), (3, (.pt 0 [] 0 0)), (6, (.sl 2 [] none)), (7, (.b t7)), (8, (.i .i64 t8))]) [(.live false true false 70 [(.agg [(.s r0_0), (.i .i64 r0_1), (.i .i64 r0_2), (.s r0_3), (.s r0_4)])]), (.live true false false 106 r1), (.live true false false 106 r2)]
noncomputable def f19o1_j2 (t0 : List AV) (t7 : Bool) (t8 : Int) (r0_0 : ByteArray) (r0_1 : Int) (r0_2 : Int) (r0_3 : ByteArray) (r0_4 : ByteArray) (r1 : List AV) (r2 : List AV) : Option (AV × List Root) := JnO E fi19 [(6, [0, 3, 6, 7, 8], 3), (7, [0, 3, 6, 7, 8], 3), (11, [0, 3, 6, 7, 8], 3), (15, [6], 3)] 0 (.tup [(.so 0), (.i .i64)]) [true, true, true, true, false, true, false, false, true, false, false, true] (mkT 74 [(0, (.imm 2 t0)), (3, (.pt 0 [] 0 0)), (6, (.sl 2 [] none)), (7, (.b t7)), (8, (.i .i64 t8))]) [(.live false true false 70 [(.agg [(.s r0_0), (.i .i64 r0_1), (.i .i64 r0_2), (.s r0_3), (.s r0_4)])]), (.live true false false 106 r1), (.live true false false 106 r2)]
noncomputable def f19o1_j3 (r0_0 : ByteArray) (r0_1 : Int) (r0_2 : Int) (r0_3 : ByteArray) (r0_4 : ByteArray) (r1 : List AV) (r2 : List AV) : Option (AV × List Root) := JnO E fi19 [(6, [0, 3, 6, 7, 8], 3), (7, [0, 3, 6, 7, 8], 3), (11, [0, 3, 6, 7, 8], 3), (15, [6], 3)] 0 (.tup [(.so 0), (.i .i64)]) [true, true, true, true, true, true] (mkT 74 [(6, (.sl 2 [] none))]) [(.live false true false 70 [(.agg [(.s r0_0), (.i .i64 r0_1), (.i .i64 r0_2), (.s r0_3), (.s r0_4)])]), (.live true false false 106 r1), (.live true false false 106 r2)]
noncomputable def f19o1_j4 (t0 : List AV) (t7 : Bool) (t8 : Int) (r0_0 : ByteArray) (r0_1 : Int) (r0_2 : Int) (r0_3 : ByteArray) (r0_4 : ByteArray) (r1 : List AV) (r2 : List AV) : Option (AV × List Root) := JnO E fi19 [(6, [0, 3, 6, 7, 8], 3), (7, [0, 3, 6, 7, 8], 3), (11, [0, 3, 6, 7, 8], 3), (15, [6], 3)] 0 (.tup [(.so 0), (.i .i64)]) [true, true, true, true, false, true, false, false, true, true] (mkT 74 [(0, (.imm 2 t0)), (3, (.pt 0 [] 0 0)), (6, (.sl 2 [] none)), (7, (.b t7)), (8, (.i .i64 t8))]) [(.live false true false 70 [(.agg [(.s r0_0), (.i .i64 r0_1), (.i .i64 r0_2), (.s r0_3), (.s r0_4)])]), (.live true false false 106 r1), (.live true false false 106 r2)]
theorem f19o1_eq (x0 : List AV) (x1_0 : ByteArray) (x1_1 : Int) (x1_2 : Int) (x1_3 : ByteArray) (x1_4 : ByteArray) : dno E 19 [(.imm 2 x0), (.agg [(.s x1_0), (.i .i64 x1_1), (.i .i64 x1_2), (.s x1_3), (.s x1_4)])] [] =
 bSh .b (den E 60 [(.imm 2 x0)] []) fun a1 =>
 cond ((!a1.toB) == false)
 (bSh .b (den E 61 [(.agg [(.s x1_0), (.i .i64 x1_1), (.i .i64 x1_2), (.s x1_3), (.s x1_4)])] []) fun a2 =>
 cond (!a2.toB)
 (some ((.tup [(.sl 0 [] none), (.i .i64 (1 : Int))]), [(.live true false false 106 [])]))
 (f19o1_l1 x0 (!decide (x1_2 = (1 : Int))) (0 : Int) x1_0 x1_1 x1_2 x1_3 x1_4 [] []))
 (some ((.tup [(.sl 0 [] none), (.i .i64 (1 : Int))]), [(.live true false false 106 [])])) := (dno_eq ..).trans (by kernel_rfl)
theorem f19o1_l1_eq (t0 : List AV) (t7 : Bool) (t8 : Int) (r0_0 : ByteArray) (r0_1 : Int) (r0_2 : Int) (r0_3 : ByteArray) (r0_4 : ByteArray) (r1 : List AV) (r2 : List AV) : f19o1_l1 t0 t7 t8 r0_0 r0_1 r0_2 r0_3 r0_4 r1 r2 =
 cond (decide (t8 < ((t0.length : Nat) : Int)))
 (cond ((!t7) == true)
 (if 0 ≤ t8 ∧ t8 < ((t0.length : Nat) : Int) then
 if okCells false (t0.getD t8.toNat .x) 0 [.s] = true then
 cond (lessS r0_0 (((t0.getD t8.toNat .x).cells.getD 0 .x).toS))
 (if (r2.length + ([(.agg [(.s r0_0), (.s r0_3)])] : List AV).length) * 32 ≤ room then
 f19o1_j2 t0 true t8 r0_0 r0_1 r0_2 r0_3 r0_4 r1 (r2 ++ [(.agg [(.s r0_0), (.s r0_3)])])
 else none)
 (f19o1_j2 t0 t7 t8 r0_0 r0_1 r0_2 r0_3 r0_4 r1 r2)
 else none
 else none)
 (f19o1_j2 t0 t7 t8 r0_0 r0_1 r0_2 r0_3 r0_4 r1 r2))
 (cond (!t7)
 (if (r2.length + ([(.agg [(.s r0_0), (.s r0_3)])] : List AV).length) * 32 ≤ room then
 f19o1_j3 r0_0 r0_1 r0_2 r0_3 r0_4 r1 (r2 ++ [(.agg [(.s r0_0), (.s r0_3)])])
 else none)
 (f19o1_j3 r0_0 r0_1 r0_2 r0_3 r0_4 r1 r2)) := (LpO_eq ..).trans (by kernel_rfl)
theorem f19o1_j2_eq (t0 : List AV) (t7 : Bool) (t8 : Int) (r0_0 : ByteArray) (r0_1 : Int) (r0_2 : Int) (r0_3 : ByteArray) (r0_4 : ByteArray) (r1 : List AV) (r2 : List AV) : f19o1_j2 t0 t7 t8 r0_0 r0_1 r0_2 r0_3 r0_4 r1 r2 =
 if 0 ≤ t8 ∧ t8 < ((t0.length : Nat) : Int) then
 if okCells false (t0.getD t8.toNat .x) 0 [.s] = true then
 bSh .b (den E 62 [(.agg [(.s r0_0), (.i .i64 r0_1), (.i .i64 r0_2), (.s r0_3), (.s r0_4)]), (.s (((t0.getD t8.toNat .x).cells.getD 0 .x).toS))] []) fun a1 =>
 cond (!a1.toB)
 (if 0 ≤ t8 ∧ t8 < ((t0.length : Nat) : Int) then
 if okCells false (t0.getD t8.toNat .x) 0 [.s, .s] = true then
 if (r2.length + ([(.agg [(.s (((t0.getD t8.toNat .x).cells.getD 0 .x).toS)), (.s (((t0.getD t8.toNat .x).cells.getD 1 .x).toS))])] : List AV).length) * 32 ≤ room then
 f19o1_j4 t0 t7 t8 r0_0 r0_1 r0_2 r0_3 r0_4 r1 (r2 ++ [(.agg [(.s (((t0.getD t8.toNat .x).cells.getD 0 .x).toS)), (.s (((t0.getD t8.toNat .x).cells.getD 1 .x).toS))])])
 else none
 else none
 else none)
 (f19o1_j4 t0 t7 t8 r0_0 r0_1 r0_2 r0_3 r0_4 r1 r2)
 else none
 else none := by kernel_rfl
theorem f19o1_j3_eq (r0_0 : ByteArray) (r0_1 : Int) (r0_2 : Int) (r0_3 : ByteArray) (r0_4 : ByteArray) (r1 : List AV) (r2 : List AV) : f19o1_j3 r0_0 r0_1 r0_2 r0_3 r0_4 r1 r2 =
 some ((.tup [(.sl 0 [] none), (.i .i64 (0 : Int))]), [(.live true false false 106 r2)]) := by kernel_rfl
theorem f19o1_j4_eq (t0 : List AV) (t7 : Bool) (t8 : Int) (r0_0 : ByteArray) (r0_1 : Int) (r0_2 : Int) (r0_3 : ByteArray) (r0_4 : ByteArray) (r1 : List AV) (r2 : List AV) : f19o1_j4 t0 t7 t8 r0_0 r0_1 r0_2 r0_3 r0_4 r1 r2 =
 f19o1_l1 t0 t7 (IntKind.i64.wrap (t8 + (1 : Int))) r0_0 r0_1 r0_2 r0_3 r0_4 r1 r2 := by kernel_rfl
/-! 79: loop.example/g00905/impl.within -/
theorem f79_eq (x0 : Int) (x1 : Int) (x2 : Int) : den E 79 [(.i .i64 x0), (.i .i64 x1), (.i .i64 x2)] [] =
 cond ((decide (x1 ≤ x0)) == true)
 (some (.b (decide (x0 ≤ x2))))
 (some (.b false)) := (den_eq ..).trans (by kernel_rfl)
/-! 57: loop.example/g00905/impl.ValidKey -/
theorem f57_eq (x0 : ByteArray) : den E 57 [(.s x0)] [] =
 bSh .b (den E 79 [(.i .i64 ((x0.size : Nat) : Int)), (.i .i64 (1 : Int)), (.i .i64 (8 : Int))] []) fun a1 =>
 some (.b a1.toB) := (den_eq ..).trans (by kernel_rfl)
/-! 64: loop.example/g00905/impl.pairsOk -/
noncomputable def f64_l1 (t0 : List AV) (t5 : List AV) (t6 : Int) (t7 : Int) : Option AV := Lp E fi64 [true, false, true, false] (mkT 38 [(0, (.imm 2 t0)), (5, (.imm 2 t5)), (6, (.i .i64 t6)), (7, (.i .i64 t7))]) []
noncomputable def f64_j2 (t0 : List AV) (t5 : List AV) (t6 : Int) (t7 : Int) : Option AV := Jn E fi64 [true, false, true, false, false, true, true, true] (mkT 38 [(0, (.imm 2 t0)), (5, (.imm 2 t5)), (6, (.i .i64 t6)), (7, (.i .i64 t7))]) []
theorem f64_eq (x0 : List AV) : den E 64 [(.imm 2 x0)] [] =
 f64_l1 x0 x0 ((x0.length : Nat) : Int) (0 : Int) := (den_eq ..).trans (by kernel_rfl)
theorem f64_l1_eq (t0 : List AV) (t5 : List AV) (t6 : Int) (t7 : Int) : f64_l1 t0 t5 t6 t7 =
 cond (decide (t7 < t6))
 (if 0 ≤ t7 ∧ t7 < ((t5.length : Nat) : Int) then
 if okCells false (t5.getD t7.toNat .x) 0 [.s, .s] = true then
 bSh .b (den E 57 [(.s (((t5.getD t7.toNat .x).cells.getD 0 .x).toS))] []) fun a1 =>
 cond ((!a1.toB) == false)
 (cond ((decide ((16 : Int) < (((((t5.getD t7.toNat .x).cells.getD 1 .x).toS).size : Nat) : Int))) == false)
 (cond ((decide ((0 : Int) < t7)) == true)
 (if 0 ≤ (IntKind.i64.wrap (t7 - (1 : Int))) ∧ (IntKind.i64.wrap (t7 - (1 : Int))) < ((t0.length : Nat) : Int) then
 if okCells false (t0.getD (IntKind.i64.wrap (t7 - (1 : Int))).toNat .x) 0 [.s] = true then
 cond (lessS (((t5.getD t7.toNat .x).cells.getD 0 .x).toS) (((t0.getD (IntKind.i64.wrap (t7 - (1 : Int))).toNat .x).cells.getD 0 .x).toS) || decide ((((t5.getD t7.toNat .x).cells.getD 0 .x).toS) = (((t0.getD (IntKind.i64.wrap (t7 - (1 : Int))).toNat .x).cells.getD 0 .x).toS)))
 (some (.b false))
 (f64_j2 t0 t5 t6 t7)
 else none
 else none)
 (f64_j2 t0 t5 t6 t7))
 (some (.b false)))
 (some (.b false))
 else none
 else none)
 (some (.b true)) := (Lp_eq ..).trans (by kernel_rfl)
theorem f64_j2_eq (t0 : List AV) (t5 : List AV) (t6 : Int) (t7 : Int) : f64_j2 t0 t5 t6 t7 =
 f64_l1 t0 t5 t6 (IntKind.i64.wrap (t7 + (1 : Int))) := by kernel_rfl
/-! 65: loop.example/g00905/impl.ValidRecord -/
theorem f65_eq (x0_0 : ByteArray) (x0_1 : Int) (x0_2 : Int) (x0_3 : ByteArray) (x0_4 : ByteArray) : den E 65 [(.agg [(.s x0_0), (.i .i64 x0_1), (.i .i64 x0_2), (.s x0_3), (.s x0_4)])] [] =
 bSh .b (den E 57 [(.s x0_0)] []) fun a1 =>
 cond ((!a1.toB) == false)
 (bSh .b (den E 79 [(.i .i64 x0_1), (.i .i64 (1 : Int)), (.i .i64 (1000000 : Int))] []) fun a2 =>
 cond (!a2.toB)
 (some (.b false))
 (cond (decide (x0_2 = (1 : Int)))
 (cond ((decide (((x0_3.size : Nat) : Int) ≤ (16 : Int))) == true)
 (some (.b (decide (x0_4 = ({ data := #[] } : ByteArray)))))
 (some (.b false)))
 (cond (decide (x0_2 = (2 : Int)))
 (cond ((decide (x0_3 = ({ data := #[] } : ByteArray))) == true)
 (some (.b (decide (x0_4 = ({ data := #[] } : ByteArray)))))
 (some (.b false)))
 (cond (decide (x0_2 = (3 : Int)))
 (cond ((decide (x0_3 = ({ data := #[] } : ByteArray))) == true)
 (bSh .b (den E 57 [(.s x0_4)] []) fun a3 =>
 cond (a3.toB == true)
 (some (.b (!(lessS x0_4 x0_0 || decide (x0_4 = x0_0)))))
 (some (.b false)))
 (some (.b false)))
 (some (.b false))))))
 (some (.b false)) := (den_eq ..).trans (by kernel_rfl)
/-! 108: slices.Clone[[]loop.example/g00905/impl.Pair,loop.example/g00905/impl.Pair] -/
theorem f108_eq (x0 : List AV) : dno E 108 [(.imm 2 x0)] [] = if 2 = 2 ∧ x0.length * 32 ≤ room then some (.sl 0 [] none, [.live true false false 106 x0]) else none := (dno_eq ..).trans (by kernel_rfl)
/-! 110: (loop.example/g00905/impl.Record).affects -/
theorem f110_eq (x0_0 : ByteArray) (x0_1 : Int) (x0_2 : Int) (x0_3 : ByteArray) (x0_4 : ByteArray) (x1 : ByteArray) : den E 110 [(.agg [(.s x0_0), (.i .i64 x0_1), (.i .i64 x0_2), (.s x0_3), (.s x0_4)]), (.s x1)] [] =
 cond (decide (x0_2 = (3 : Int)))
 (cond ((lessS x0_0 x1 || decide (x0_0 = x1)) == true)
 (some (.b (lessS x1 x0_4)))
 (some (.b false)))
 (some (.b (decide (x0_0 = x1)))) := (den_eq ..).trans (by kernel_rfl)
/-! 109: loop.example/g00905/impl.applied$1 -/
theorem f109q1_eq (x0_0 : ByteArray) (x0_1 : ByteArray) (x1 : AV) : den E 109 [(.agg [(.s x0_0), (.s x0_1)]), (.ip x1 0)] [] =
 if okCells false x1 0 [.s, (.i .i64), (.i .i64), .s, .s] = true then
 bSh .b (den E 110 [(.agg [(.s ((x1.cells.getD 0 .x).toS)), (.i .i64 ((x1.cells.getD 1 .x).toI)), (.i .i64 ((x1.cells.getD 2 .x).toI)), (.s ((x1.cells.getD 3 .x).toS)), (.s ((x1.cells.getD 4 .x).toS))]), (.s x0_0)] []) fun a1 =>
 some (.b a1.toB)
 else none := (den_eq ..).trans (by kernel_rfl)
/-! 152: slices.IndexFunc[[]loop.example/g00905/impl.Pair,loop.example/g00905/impl.Pair] -/
noncomputable def f152q1_l1 (t0 : List AV) (t1_0 : AV) (t7 : Int) (t8 : Int) : Option AV := Lp E fi152 [true, false, true, false] (mkT 19 [(0, (.imm 2 t0)), (1, (.fn 109 [(.ip t1_0 0)])), (7, (.i .i64 t7)), (8, (.i .i64 t8))]) []
theorem f152q1_eq (x0 : List AV) (x1_0 : AV) : den E 152 [(.imm 2 x0), (.fn 109 [(.ip x1_0 0)])] [] =
 f152q1_l1 x0 x1_0 ((x0.length : Nat) : Int) (0 : Int) := (den_eq ..).trans (by kernel_rfl)
theorem f152q1_l1_eq (t0 : List AV) (t1_0 : AV) (t7 : Int) (t8 : Int) : f152q1_l1 t0 t1_0 t7 t8 =
 cond (decide (t8 < t7))
 (if 0 ≤ t8 ∧ t8 < ((t0.length : Nat) : Int) then
 if okCells false (t0.getD t8.toNat .x) 0 [.s, .s] = true then
 bSh .b (den E 109 [(.agg [(.s (((t0.getD t8.toNat .x).cells.getD 0 .x).toS)), (.s (((t0.getD t8.toNat .x).cells.getD 1 .x).toS))]), (.ip t1_0 0)] []) fun a1 =>
 cond a1.toB
 (some (.i .i64 t8))
 (f152q1_l1 t0 t1_0 t7 (IntKind.i64.wrap (t8 + (1 : Int))))
 else none
 else none)
 (some (.i .i64 (-1 : Int))) := (Lp_eq ..).trans (by kernel_rfl)
/-! 107: slices.DeleteFunc[[]loop.example/g00905/impl.Pair,loop.example/g00905/impl.Pair] -/
noncomputable def f107o1_l1 (t1_0 : AV) (t5 : Int) (t6 : Int) (r0 : List AV) : Option (AV × List Root) := LpO E fi107 [(5, [0, 1, 5, 6], 1), (6, [0, 1, 5, 6], 1)] 1 (.pr 0) [true, true, true, false, true, false] (mkT 42 [(0, (.sl 0 [] none)), (1, (.fn 109 [(.ip t1_0 0)])), (5, (.i .i64 t5)), (6, (.i .i64 t6))]) [(.live true false false 106 r0)]
noncomputable def f107o1_j2 (t1_0 : AV) (t5 : Int) (t6 : Int) (r0 : List AV) : Option (AV × List Root) := JnO E fi107 [(5, [0, 1, 5, 6], 1), (6, [0, 1, 5, 6], 1)] 1 (.pr 0) [true, true, true, false, true, false, false, true, true] (mkT 42 [(0, (.sl 0 [] none)), (1, (.fn 109 [(.ip t1_0 0)])), (5, (.i .i64 t5)), (6, (.i .i64 t6))]) [(.live true false false 106 r0)]
theorem f107o1_eq (x1_0 : AV) (s0 : List AV) : dno E 107 [(.sl 0 [] none), (.fn 109 [(.ip x1_0 0)])] [(.live true false false 106 s0)] =
 bSh (.i .i64) (den E 152 [(.imm 2 s0), (.fn 109 [(.ip x1_0 0)])] []) fun a1 =>
 cond (decide (a1.toI = (-1 : Int)))
 (some ((.sl 0 [] (some (0, s0.length))), [(.live true false false 106 s0)]))
 (f107o1_l1 x1_0 a1.toI (IntKind.i64.wrap (a1.toI + (1 : Int))) s0) := (dno_eq ..).trans (by kernel_rfl)
theorem f107o1_l1_eq (t1_0 : AV) (t5 : Int) (t6 : Int) (r0 : List AV) : f107o1_l1 t1_0 t5 t6 r0 =
 cond (decide (t6 < ((r0.length : Nat) : Int)))
 (if 0 ≤ t6 ∧ t6 < ((r0.length : Nat) : Int) then
 if okCells false (r0.getD (0 + t6.toNat) .x) 0 [.s, .s] = true then
 bSh .b (den E 109 [(.agg [(.s (((r0.getD (0 + t6.toNat) .x).cells.getD 0 .x).toS)), (.s (((r0.getD (0 + t6.toNat) .x).cells.getD 1 .x).toS))]), (.ip t1_0 0)] []) fun a1 =>
 cond (!a1.toB)
 (if 0 ≤ t5 ∧ t5 < ((r0.length : Nat) : Int) then
 f107o1_j2 t1_0 (IntKind.i64.wrap (t5 + (1 : Int))) t6 (r0.set (0 + t5.toNat) ((r0.getD (0 + t5.toNat) .x).putCells 0 [(.s (((r0.getD (0 + t6.toNat) .x).cells.getD 0 .x).toS)), (.s (((r0.getD (0 + t6.toNat) .x).cells.getD 1 .x).toS))]))
 else none)
 (f107o1_j2 t1_0 t5 t6 r0)
 else none
 else none)
 (if 0 ≤ t5 ∧ t5 ≤ ((r0.length : Nat) : Int) ∧ ((r0.length : Nat) : Int) ≤ ((r0.length : Nat) : Int) then
 if 0 ≤ (0 : Int) ∧ (0 : Int) ≤ t5 ∧ t5 ≤ (((r0.take t5.toNat ++ List.replicate (((r0.length : Nat) : Int).toNat - t5.toNat) ((.agg [(.s .empty), (.s .empty)]) : AV) ++ r0.drop (t5.toNat + (((r0.length : Nat) : Int).toNat - t5.toNat))).length : Nat) : Int) then
 some ((.sl 0 [] (some ((0 : Int).toNat, (t5.toNat - (0 : Int).toNat)))), [(.live true false false 106 (r0.take t5.toNat ++ List.replicate (((r0.length : Nat) : Int).toNat - t5.toNat) ((.agg [(.s .empty), (.s .empty)]) : AV) ++ r0.drop (t5.toNat + (((r0.length : Nat) : Int).toNat - t5.toNat))))])
 else none
 else none) := (LpO_eq ..).trans (by kernel_rfl)
theorem f107o1_j2_eq (t1_0 : AV) (t5 : Int) (t6 : Int) (r0 : List AV) : f107o1_j2 t1_0 t5 t6 r0 =
 f107o1_l1 t1_0 t5 (IntKind.i64.wrap (t6 + (1 : Int))) r0 := by kernel_rfl
/-! 153: internal/bytealg.CompareString -/
theorem f153_eq (x0 x1 : ByteArray) : den E 153 [(.s x0), (.s x1)] [] = some (.i .i64 (cmpB x0 x1)) := (den_eq ..).trans (by kernel_rfl)
/-! 113: strings.Compare -/
theorem f113_eq (x0 : ByteArray) (x1 : ByteArray) : den E 113 [(.s x0), (.s x1)] [] =
 bSh (.i .i64) (den E 153 [(.s x0), (.s x1)] []) fun a1 =>
 some (.i .i64 a1.toI) := (den_eq ..).trans (by kernel_rfl)
/-! 112: loop.example/g00905/impl.applied$2 -/
theorem f112_eq (x0_0 : ByteArray) (x0_1 : ByteArray) (x1 : ByteArray) : den E 112 [(.agg [(.s x0_0), (.s x0_1)]), (.s x1)] [] =
 bSh (.i .i64) (den E 113 [(.s x0_0), (.s x1)] []) fun a1 =>
 some (.i .i64 a1.toI) := (den_eq ..).trans (by kernel_rfl)
/-! 111: slices.BinarySearchFunc[[]loop.example/g00905/impl.Pair,loop.example/g00905/impl.Pair,string] -/
noncomputable def f111q1_l1 (t0 : List AV) (t1 : ByteArray) (t8 : Int) (t9 : Int) (t10 : Int) : Option AV := Lp E fi111 [true, true, true, false, false] (mkT 49 [(0, (.imm 2 t0)), (1, (.s t1)), (2, (.fn 112 [])), (8, (.i .i64 t8)), (9, (.i .i64 t9)), (10, (.i .i64 t10))]) []
theorem f111q1_eq (x0 : List AV) (x1 : ByteArray) : den E 111 [(.imm 2 x0), (.s x1), (.fn 112 [])] [] =
 f111q1_l1 x0 x1 ((x0.length : Nat) : Int) (0 : Int) ((x0.length : Nat) : Int) := (den_eq ..).trans (by kernel_rfl)
theorem f111q1_l1_eq (t0 : List AV) (t1 : ByteArray) (t8 : Int) (t9 : Int) (t10 : Int) : f111q1_l1 t0 t1 t8 t9 t10 =
 cond (decide (t9 < t10))
 (if 0 ≤ (IntKind.i64.wrap ((IntKind.u64.wrap (IntKind.i64.wrap (t9 + t10))).fdiv (2 ^ (min (1 : Int).toNat IntKind.u64.bits)))) ∧ (IntKind.i64.wrap ((IntKind.u64.wrap (IntKind.i64.wrap (t9 + t10))).fdiv (2 ^ (min (1 : Int).toNat IntKind.u64.bits)))) < ((t0.length : Nat) : Int) then
 if okCells false (t0.getD (IntKind.i64.wrap ((IntKind.u64.wrap (IntKind.i64.wrap (t9 + t10))).fdiv (2 ^ (min (1 : Int).toNat IntKind.u64.bits)))).toNat .x) 0 [.s, .s] = true then
 bSh (.i .i64) (den E 112 [(.agg [(.s (((t0.getD (IntKind.i64.wrap ((IntKind.u64.wrap (IntKind.i64.wrap (t9 + t10))).fdiv (2 ^ (min (1 : Int).toNat IntKind.u64.bits)))).toNat .x).cells.getD 0 .x).toS)), (.s (((t0.getD (IntKind.i64.wrap ((IntKind.u64.wrap (IntKind.i64.wrap (t9 + t10))).fdiv (2 ^ (min (1 : Int).toNat IntKind.u64.bits)))).toNat .x).cells.getD 1 .x).toS))]), (.s t1)] []) fun a1 =>
 cond (decide (a1.toI < (0 : Int)))
 (f111q1_l1 t0 t1 t8 (IntKind.i64.wrap ((IntKind.i64.wrap ((IntKind.u64.wrap (IntKind.i64.wrap (t9 + t10))).fdiv (2 ^ (min (1 : Int).toNat IntKind.u64.bits)))) + (1 : Int))) t10)
 (f111q1_l1 t0 t1 t8 t9 (IntKind.i64.wrap ((IntKind.u64.wrap (IntKind.i64.wrap (t9 + t10))).fdiv (2 ^ (min (1 : Int).toNat IntKind.u64.bits)))))
 else none
 else none)
 (cond ((decide (t9 < t8)) == true)
 (if 0 ≤ t9 ∧ t9 < ((t0.length : Nat) : Int) then
 if okCells false (t0.getD t9.toNat .x) 0 [.s, .s] = true then
 bSh (.i .i64) (den E 112 [(.agg [(.s (((t0.getD t9.toNat .x).cells.getD 0 .x).toS)), (.s (((t0.getD t9.toNat .x).cells.getD 1 .x).toS))]), (.s t1)] []) fun a2 =>
 some (.tup [(.i .i64 t9), (.b (decide (a2.toI = (0 : Int))))])
 else none
 else none)
 (some (.tup [(.i .i64 t9), (.b false)]))) := (Lp_eq ..).trans (by kernel_rfl)
/-! 114: slices.Insert[[]loop.example/g00905/impl.Pair,loop.example/g00905/impl.Pair] -/
theorem f114_eq (x0 : List AV) (w0 w1 : Nat) (x1 : Int) (x2 : AV) : dno E 114 [(.sl 0 [] (some (w0, w1))), (.i .i64 x1), (.sl 1 [] none)] [(.live true false false 106 x0), (.live true false false 106 [x2])] = if (w0 = 0 ∧ 106 = 106 ∧ 106 = 106) ∧ (0 ≤ x1 ∧ x1 ≤ ((w1 : Nat) : Int)) ∧ w1 ≤ x0.length ∧ (w1 + 1) * 32 ≤ room then some (.sl 0 [] (some (0, w1 + 1)), [.live true false false 106 (x0.take x1.toNat ++ [x2] ++ (x0.take w1).drop x1.toNat ++ x0.drop (w1 + 1)), .live true false false 106 [x2]]) else none := (dno_eq ..).trans (by kernel_rfl)
/-! 66: loop.example/g00905/impl.applied -/
theorem f66o1_eq (x0 : List AV) (x1_0 : ByteArray) (x1_1 : Int) (x1_2 : Int) (x1_3 : ByteArray) (x1_4 : ByteArray) : dno E 66 [(.imm 2 x0), (.agg [(.s x1_0), (.i .i64 x1_1), (.i .i64 x1_2), (.s x1_3), (.s x1_4)])] [] =
 bOwn (.so 0) [(.row true 106)] 0 (dno E 108 [(.imm 2 x0)] []) fun a1 =>
 bOwnFS (.pr 0) [(.same 106)] 1 [(.live true false false 106 ((a1.2.getD 0 .dead).row))] (dno E 107 [(.sl 0 [] none), (.fn 109 [(.ip (.agg [(.s x1_0), (.i .i64 x1_1), (.i .i64 x1_2), (.s x1_3), (.s x1_4)]) 0)])] [(.live true false false 106 ((a1.2.getD 0 .dead).row))]) fun a2 =>
 cond (!decide (x1_2 = (1 : Int)))
 (some ((.sl 0 [] (some (a2.1.off, a2.1.cnt))), [(.live true false false 106 ((a2.2.getD 0 .dead).row))]))
 (bSh (.tup [(.i .i64), .b]) (den E 111 [(.imm 2 ((((a2.2.getD 0 .dead).row).drop a2.1.off).take a2.1.cnt)), (.s x1_0), (.fn 112 [])] []) fun a3 =>
 bOwn (.pr 0) [(.row true 106), (.row true 106)] 2 (dno E 114 [(.sl 0 [] (some (a2.1.off, a2.1.cnt))), (.i .i64 ((a3.nth 0).toI)), (.sl 1 [] none)] [(.live true false false 106 ((a2.2.getD 0 .dead).row)), (.live true false false 106 [(.agg [(.s x1_0), (.s x1_3)])])]) fun a4 =>
 some ((.sl 0 [] (some (a4.1.off, a4.1.cnt))), [(.live true false false 106 ((a4.2.getD 0 .dead).row))])) := (dno_eq ..).trans (by kernel_rfl)
/-! 22: loop.example/g00905/impl.ApplyRecord -/
theorem f22o1_eq (x0 : List AV) (x1_0 : ByteArray) (x1_1 : Int) (x1_2 : Int) (x1_3 : ByteArray) (x1_4 : ByteArray) : dno E 22 [(.imm 2 x0), (.agg [(.s x1_0), (.i .i64 x1_1), (.i .i64 x1_2), (.s x1_3), (.s x1_4)])] [] =
 bSh .b (den E 64 [(.imm 2 x0)] []) fun a1 =>
 cond ((!a1.toB) == false)
 (bSh .b (den E 65 [(.agg [(.s x1_0), (.i .i64 x1_1), (.i .i64 x1_2), (.s x1_3), (.s x1_4)])] []) fun a2 =>
 cond (!a2.toB)
 (some ((.tup [(.sl 0 [] (some (0, ([] : List AV).length))), (.i .i64 (1 : Int))]), [(.live true false false 106 [])]))
 (bOwn (.pr 0) [(.row true 106)] 0 (dno E 66 [(.imm 2 x0), (.agg [(.s x1_0), (.i .i64 x1_1), (.i .i64 x1_2), (.s x1_3), (.s x1_4)])] []) fun a3 =>
 some ((.tup [(.sl 0 [] (some (a3.1.off, a3.1.cnt))), (.i .i64 (0 : Int))]), [(.live true false false 106 ((a3.2.getD 0 .dead).row))])))
 (some ((.tup [(.sl 0 [] (some (0, ([] : List AV).length))), (.i .i64 (1 : Int))]), [(.live true false false 106 [])])) := (dno_eq ..).trans (by kernel_rfl)
/-! 67: loop.example/g00905/laws.eqPair -/
theorem f67_eq (x0_0 : ByteArray) (x0_1 : ByteArray) (x1_0 : ByteArray) (x1_1 : ByteArray) : den E 67 [(.agg [(.s x0_0), (.s x0_1)]), (.agg [(.s x1_0), (.s x1_1)])] [] =
 cond (!decide (x0_0 = x1_0))
 (some (.b false))
 (cond (!decide (x0_1 = x1_1))
 (some (.b false))
 (some (.b true))) := (den_eq ..).trans (by kernel_rfl)
/-! 23: loop.example/g00905/laws.eqPairS -/
noncomputable def f23_l1 (t0 : List AV) (t1 : List AV) (t5 : Int) : Option AV := Lp E fi23 [true, true, false, true, false] (mkT 27 [(0, (.imm 2 t0)), (1, (.imm 2 t1)), (5, (.i .i64 t5))]) []
theorem f23_eq (x0 : List AV) (x1 : List AV) : den E 23 [(.imm 2 x0), (.imm 2 x1)] [] =
 cond (!decide (((x0.length : Nat) : Int) = ((x1.length : Nat) : Int)))
 (some (.b false))
 (f23_l1 x0 x1 (0 : Int)) := (den_eq ..).trans (by kernel_rfl)
theorem f23_l1_eq (t0 : List AV) (t1 : List AV) (t5 : Int) : f23_l1 t0 t1 t5 =
 cond (decide (t5 < ((t0.length : Nat) : Int)))
 (if 0 ≤ t5 ∧ t5 < ((t0.length : Nat) : Int) then
 if okCells false (t0.getD t5.toNat .x) 0 [.s, .s] = true then
 if 0 ≤ t5 ∧ t5 < ((t1.length : Nat) : Int) then
 if okCells false (t1.getD t5.toNat .x) 0 [.s, .s] = true then
 bSh .b (den E 67 [(.agg [(.s (((t0.getD t5.toNat .x).cells.getD 0 .x).toS)), (.s (((t0.getD t5.toNat .x).cells.getD 1 .x).toS))]), (.agg [(.s (((t1.getD t5.toNat .x).cells.getD 0 .x).toS)), (.s (((t1.getD t5.toNat .x).cells.getD 1 .x).toS))])] []) fun a1 =>
 cond (!a1.toB)
 (some (.b false))
 (f23_l1 t0 t1 (IntKind.i64.wrap (t5 + (1 : Int))))
 else none
 else none
 else none
 else none)
 (some (.b true)) := (Lp_eq ..).trans (by kernel_rfl)
/-! 68: loop.example/g00905/laws.markText -/
noncomputable def f68_l1 (t0 : Int) (t3 : ByteArray) : Option AV := Lp E fi68 [true, true, true, false, false] (mkT 20 [(0, (.i .i64 t0)), (3, (.s t3))]) []
theorem f68_eq (x0 : Int) : den E 68 [(.i .i64 x0)] [] =
 cond (decide (x0 ≤ (0 : Int)))
 (some (.s ({ data := #[109, 48] } : ByteArray)))
 (f68_l1 x0 ({ data := #[] } : ByteArray)) := (den_eq ..).trans (by kernel_rfl)
theorem f68_l1_eq (t0 : Int) (t3 : ByteArray) : f68_l1 t0 t3 =
 cond (decide ((0 : Int) < t0))
 (if (([(.i .u8 (IntKind.u8.wrap (IntKind.i64.wrap ((48 : Int) + (t0.tmod (10 : Int))))))] : List AV)).all isU8 = true then
 if (bytesOf [(.i .u8 (IntKind.u8.wrap (IntKind.i64.wrap ((48 : Int) + (t0.tmod (10 : Int))))))]).size + t3.size ≤ 9223372036854775807 then
 f68_l1 (IntKind.i64.wrap (t0.tdiv (10 : Int))) ((bytesOf [(.i .u8 (IntKind.u8.wrap (IntKind.i64.wrap ((48 : Int) + (t0.tmod (10 : Int))))))]) ++ t3)
 else none
 else none)
 (if ({ data := #[109] } : ByteArray).size + t3.size ≤ 9223372036854775807 then
 some (.s (({ data := #[109] } : ByteArray) ++ t3))
 else none) := (Lp_eq ..).trans (by kernel_rfl)
/-! 24: loop.example/g00905/laws.markPairS -/
noncomputable def f24o1_l1 (t1 : Int) (t5 : Int) (r0 : List AV) : Option (AV × List Root) := LpO E fi24 [(2, [0, 1, 5], 1)] 1 (.i .i64) [true, false, true, false] (mkT 29 [(0, (.sl 0 [] none)), (1, (.i .i64 t1)), (5, (.i .i64 t5))]) [(.live true false false 106 r0)]
theorem f24o1_eq (x1 : Int) (s0 : List AV) : dno E 24 [(.sl 0 [] none), (.i .i64 x1)] [(.live true false false 106 s0)] =
 f24o1_l1 x1 (0 : Int) s0 := (dno_eq ..).trans (by kernel_rfl)
theorem f24o1_l1_eq (t1 : Int) (t5 : Int) (r0 : List AV) : f24o1_l1 t1 t5 r0 =
 cond (decide (t5 < ((r0.length : Nat) : Int)))
 (bSh .s (den E 68 [(.i .i64 t1)] []) fun a1 =>
 if 0 ≤ t5 ∧ t5 < ((r0.length : Nat) : Int) then
 bSh .s (den E 68 [(.i .i64 (IntKind.i64.wrap (t1 + (1 : Int))))] []) fun a2 =>
 if 0 ≤ t5 ∧ t5 < (((r0.set (0 + t5.toNat) ((r0.getD (0 + t5.toNat) .x).putCells 0 [(.s a1.toS)])).length : Nat) : Int) then
 f24o1_l1 (IntKind.i64.wrap ((IntKind.i64.wrap (t1 + (1 : Int))) + (1 : Int))) (IntKind.i64.wrap (t5 + (1 : Int))) ((r0.set (0 + t5.toNat) ((r0.getD (0 + t5.toNat) .x).putCells 0 [(.s a1.toS)])).set (0 + t5.toNat) (((r0.set (0 + t5.toNat) ((r0.getD (0 + t5.toNat) .x).putCells 0 [(.s a1.toS)])).getD (0 + t5.toNat) .x).putCells 1 [(.s a2.toS)]))
 else none
 else none)
 (some ((.i .i64 t1), [(.live true false false 106 r0)])) := (LpO_eq ..).trans (by kernel_rfl)
/-! 24: loop.example/g00905/laws.markPairS -/
noncomputable def f24o2_l1 (t0o : Nat) (t0n : Nat) (t1 : Int) (t5 : Int) (r0 : List AV) : Option (AV × List Root) := LpO E fi24 [(2, [0, 1, 5], 1)] 1 (.i .i64) [true, false, true, false] (mkT 29 [(0, (.sl 0 [] (some (t0o, t0n)))), (1, (.i .i64 t1)), (5, (.i .i64 t5))]) [(.live true false false 106 r0)]
theorem f24o2_eq (x0o : Nat) (x0n : Nat) (x1 : Int) (s0 : List AV) : dno E 24 [(.sl 0 [] (some (x0o, x0n))), (.i .i64 x1)] [(.live true false false 106 s0)] =
 f24o2_l1 x0o x0n x1 (0 : Int) s0 := (dno_eq ..).trans (by kernel_rfl)
theorem f24o2_l1_eq (t0o : Nat) (t0n : Nat) (t1 : Int) (t5 : Int) (r0 : List AV) : f24o2_l1 t0o t0n t1 t5 r0 =
 cond (decide (t5 < ((t0n : Nat) : Int)))
 (bSh .s (den E 68 [(.i .i64 t1)] []) fun a1 =>
 if 0 ≤ t5 ∧ t5 < ((t0n : Nat) : Int) then
 bSh .s (den E 68 [(.i .i64 (IntKind.i64.wrap (t1 + (1 : Int))))] []) fun a2 =>
 if 0 ≤ t5 ∧ t5 < ((t0n : Nat) : Int) then
 f24o2_l1 t0o t0n (IntKind.i64.wrap ((IntKind.i64.wrap (t1 + (1 : Int))) + (1 : Int))) (IntKind.i64.wrap (t5 + (1 : Int))) ((r0.set (t0o + t5.toNat) ((r0.getD (t0o + t5.toNat) .x).putCells 0 [(.s a1.toS)])).set (t0o + t5.toNat) (((r0.set (t0o + t5.toNat) ((r0.getD (t0o + t5.toNat) .x).putCells 0 [(.s a1.toS)])).getD (t0o + t5.toNat) .x).putCells 1 [(.s a2.toS)]))
 else none
 else none)
 (some ((.i .i64 t1), [(.live true false false 106 r0)])) := (LpO_eq ..).trans (by kernel_rfl)
/-! 25: loop.example/g00905/laws.heldPairS -/
noncomputable def f25_l1 (t0 : List AV) (t1 : Int) (t5 : Int) : Option AV := Lp E fi25 [true, false, true, false] (mkT 33 [(0, (.imm 2 t0)), (1, (.i .i64 t1)), (5, (.i .i64 t5))]) []
theorem f25_eq (x0 : List AV) (x1 : Int) : den E 25 [(.imm 2 x0), (.i .i64 x1)] [] =
 f25_l1 x0 x1 (0 : Int) := (den_eq ..).trans (by kernel_rfl)
theorem f25_l1_eq (t0 : List AV) (t1 : Int) (t5 : Int) : f25_l1 t0 t1 t5 =
 cond (decide (t5 < ((t0.length : Nat) : Int)))
 (if 0 ≤ t5 ∧ t5 < ((t0.length : Nat) : Int) then
 if okCells false (t0.getD t5.toNat .x) 0 [.s] = true then
 bSh .s (den E 68 [(.i .i64 t1)] []) fun a1 =>
 cond (!decide ((((t0.getD t5.toNat .x).cells.getD 0 .x).toS) = a1.toS))
 (some (.i .i64 (-1 : Int)))
 (if 0 ≤ t5 ∧ t5 < ((t0.length : Nat) : Int) then
 if okCells false (t0.getD t5.toNat .x) 1 [.s] = true then
 bSh .s (den E 68 [(.i .i64 (IntKind.i64.wrap (t1 + (1 : Int))))] []) fun a2 =>
 cond (!decide ((((t0.getD t5.toNat .x).cells.getD 1 .x).toS) = a2.toS))
 (some (.i .i64 (-1 : Int)))
 (f25_l1 t0 (IntKind.i64.wrap ((IntKind.i64.wrap (t1 + (1 : Int))) + (1 : Int))) (IntKind.i64.wrap (t5 + (1 : Int))))
 else none
 else none)
 else none
 else none)
 (some (.i .i64 t1)) := (Lp_eq ..).trans (by kernel_rfl)
/-! 5: loop.example/g00905/laws.FnExactApplyRecord -/
theorem f5_eq (x0 : List AV) (x1_0 : ByteArray) (x1_1 : Int) (x1_2 : Int) (x1_3 : ByteArray) (x1_4 : ByteArray) : den E 5 [(.imm 2 x0), (.agg [(.s x1_0), (.i .i64 x1_1), (.i .i64 x1_2), (.s x1_3), (.s x1_4)])] [] =
 bSh (.i .i64) (den E 17 [(.imm 2 x0), (.i .i64 (1048576 : Int))] []) fun a1 =>
 cond (decide (a1.toI < (0 : Int)))
 (some (.b true))
 (bSh (.i .i64) (den E 18 [(.agg [(.s x1_0), (.i .i64 x1_1), (.i .i64 x1_2), (.s x1_3), (.s x1_4)]), (.i .i64 a1.toI)] []) fun a2 =>
 cond (decide (a2.toI < (0 : Int)))
 (some (.b true))
 (bOwn (.so 0) [(.row true 106)] 0 (dno E 20 [(.imm 2 x0)] []) fun a3 =>
 bSh (.agg [.s, (.i .i64), (.i .i64), .s, .s]) (den E 21 [(.agg [(.s x1_0), (.i .i64 x1_1), (.i .i64 x1_2), (.s x1_3), (.s x1_4)])] []) fun a4 =>
 bOwnF (.tup [(.so 0), (.i .i64)]) [(.row true 106)] 0 (dno E 19 [(.imm 2 ((a3.2.getD 0 .dead).row)), (.agg [(.s ((a4.nth 0).toS)), (.i .i64 ((a4.nth 1).toI)), (.i .i64 ((a4.nth 2).toI)), (.s ((a4.nth 3).toS)), (.s ((a4.nth 4).toS))])] []) fun a5 =>
 bOwn (.so 0) [(.row true 106)] 0 (dno E 20 [(.imm 2 x0)] []) fun a6 =>
 bSh (.agg [.s, (.i .i64), (.i .i64), .s, .s]) (den E 21 [(.agg [(.s x1_0), (.i .i64 x1_1), (.i .i64 x1_2), (.s x1_3), (.s x1_4)])] []) fun a7 =>
 bOwnF (.tup [(.pr 0), (.i .i64)]) [(.row true 106)] 0 (dno E 22 [(.imm 2 ((a6.2.getD 0 .dead).row)), (.agg [(.s ((a7.nth 0).toS)), (.i .i64 ((a7.nth 1).toI)), (.i .i64 ((a7.nth 2).toI)), (.s ((a7.nth 3).toS)), (.s ((a7.nth 4).toS))])] []) fun a8 =>
 bSh .b (den E 23 [(.imm 2 ((((a8.2.getD 0 .dead).row).drop ((a8.1.nth 0).off)).take ((a8.1.nth 0).cnt))), (.imm 2 ((a5.2.getD 0 .dead).row))] []) fun a9 =>
 cond ((!a9.toB) == false)
 (cond (!decide (((a8.1.nth 1).toI) = ((a5.1.nth 1).toI)))
 (some (.b false))
 (bOwn (.so 0) [(.row true 106)] 0 (dno E 20 [(.imm 2 x0)] []) fun a10 =>
 bSh .b (den E 23 [(.imm 2 ((a6.2.getD 0 .dead).row)), (.imm 2 ((a10.2.getD 0 .dead).row))] []) fun a11 =>
 cond (!a11.toB)
 (some (.b false))
 (bOwnS (.i .i64) [(.same 106)] 1 [(.live true false false 106 ((a6.2.getD 0 .dead).row))] (dno E 24 [(.sl 0 [] none), (.i .i64 (1 : Int))] [(.live true false false 106 ((a6.2.getD 0 .dead).row))]) fun a12 =>
 cond ((decide (a12.1.toI < (0 : Int))) == false)
 (bSh .b (den E 23 [(.imm 2 ((((a8.2.getD 0 .dead).row).drop ((a8.1.nth 0).off)).take ((a8.1.nth 0).cnt))), (.imm 2 ((a5.2.getD 0 .dead).row))] []) fun a13 =>
 cond ((!a13.toB) == false)
 (cond (!decide (((a8.1.nth 1).toI) = ((a5.1.nth 1).toI)))
 (some (.b false))
 (bOwnS (.i .i64) [(.same 106)] 1 [(.live true false false 106 ((a8.2.getD 0 .dead).row))] (dno E 24 [(.sl 0 [] (some ((a8.1.nth 0).off, (a8.1.nth 0).cnt))), (.i .i64 (1 : Int))] [(.live true false false 106 ((a8.2.getD 0 .dead).row))]) fun a14 =>
 bSh (.i .i64) (den E 25 [(.imm 2 ((((a14.2.getD 0 .dead).row).drop ((a8.1.nth 0).off)).take ((a8.1.nth 0).cnt))), (.i .i64 (1 : Int))] []) fun a15 =>
 cond (decide (a15.toI < (0 : Int)))
 (some (.b false))
 (cond (!decide (a15.toI = a14.1.toI))
 (some (.b false))
 (bOwn (.so 0) [(.row true 106)] 0 (dno E 20 [(.imm 2 x0)] []) fun a16 =>
 bSh (.agg [.s, (.i .i64), (.i .i64), .s, .s]) (den E 21 [(.agg [(.s x1_0), (.i .i64 x1_1), (.i .i64 x1_2), (.s x1_3), (.s x1_4)])] []) fun a17 =>
 bOwnF (.tup [(.pr 0), (.i .i64)]) [(.row true 106)] 0 (dno E 22 [(.imm 2 ((a16.2.getD 0 .dead).row)), (.agg [(.s ((a17.nth 0).toS)), (.i .i64 ((a17.nth 1).toI)), (.i .i64 ((a17.nth 2).toI)), (.s ((a17.nth 3).toS)), (.s ((a17.nth 4).toS))])] []) fun a18 =>
 bSh .b (den E 23 [(.imm 2 ((((a18.2.getD 0 .dead).row).drop ((a18.1.nth 0).off)).take ((a18.1.nth 0).cnt))), (.imm 2 ((a5.2.getD 0 .dead).row))] []) fun a19 =>
 cond ((!a19.toB) == false)
 (cond (!decide (((a18.1.nth 1).toI) = ((a5.1.nth 1).toI)))
 (some (.b false))
 (bSh (.i .i64) (den E 25 [(.imm 2 ((((a14.2.getD 0 .dead).row).drop ((a8.1.nth 0).off)).take ((a8.1.nth 0).cnt))), (.i .i64 (1 : Int))] []) fun a20 =>
 cond (decide (a20.toI < (0 : Int)))
 (some (.b false))
 (cond (!decide (a20.toI = a14.1.toI))
 (some (.b false))
 (some (.b true)))))
 (some (.b false))))))
 (some (.b false)))
 (some (.b false)))))
 (some (.b false)))) := (den_eq ..).trans (by kernel_rfl)
end Go.Proofs.Ytkpmplggbbiebaa.IApplyRecord
