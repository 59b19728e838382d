/- Printed by a program of this work (wip/it/itp.py): what each function comes to. No condition. -/
import Derived.Test.YtinjfceidedcnaaIKeyRanget
namespace Go.Proofs.Ytinjfceidedcnaa.IKeyRange
open Go Go.Proofs.YtinjfceidedcnaaIT
set_option linter.unusedVariables false
/-! 38: loop.example/g00905/laws.szRecord -/
theorem f38_eq (x0_0 : ByteArray) (x0_1 : Int) (x0_2 : Int) (x0_3 : ByteArray) (x0_4 : ByteArray) (x1 : Int) : den E 38 [(.agg [(.s x0_0), (.i .i64 x0_1), (.i .i64 x0_2), (.s x0_3), (.s x0_4)]), (.i .i64 x1)] [] =
 cond (decide ((IntKind.i64.wrap (x1 - ((x0_0.size : Nat) : Int))) < (0 : Int)))
 (some (.i .i64 (-1 : Int)))
 (cond (decide ((IntKind.i64.wrap ((IntKind.i64.wrap (x1 - ((x0_0.size : Nat) : Int))) - ((x0_3.size : Nat) : Int))) < (0 : Int)))
 (some (.i .i64 (-1 : Int)))
 (cond (decide ((IntKind.i64.wrap ((IntKind.i64.wrap ((IntKind.i64.wrap (x1 - ((x0_0.size : Nat) : Int))) - ((x0_3.size : Nat) : Int))) - ((x0_4.size : Nat) : Int))) < (0 : Int)))
 (some (.i .i64 (-1 : Int)))
 (some (.i .i64 (IntKind.i64.wrap ((IntKind.i64.wrap ((IntKind.i64.wrap (x1 - ((x0_0.size : Nat) : Int))) - ((x0_3.size : Nat) : Int))) - ((x0_4.size : Nat) : Int))))))) := (den_eq ..).trans (by kernel_rfl)
/-! 12: loop.example/g00905/laws.szRecordS -/
noncomputable def f12_l1 (t0 : List AV) (t1 : Int) (t5 : Int) : Option AV := Lp E fi12 [true, true, true, false, true, false] (mkT 27 [(0, (.imm 5 t0)), (1, (.i .i64 t1)), (5, (.i .i64 t5))]) []
theorem f12_eq (x0 : List AV) (x1 : Int) : den E 12 [(.imm 5 x0), (.i .i64 x1)] [] =
 cond (decide ((IntKind.i64.wrap (x1 - ((x0.length : Nat) : Int))) < (0 : Int)))
 (some (.i .i64 (-1 : Int)))
 (f12_l1 x0 (IntKind.i64.wrap (x1 - ((x0.length : Nat) : Int))) (0 : Int)) := (den_eq ..).trans (by kernel_rfl)
theorem f12_l1_eq (t0 : List AV) (t1 : Int) (t5 : Int) : f12_l1 t0 t1 t5 =
 cond (decide (t5 < ((t0.length : Nat) : Int)))
 (if 0 ≤ t5 ∧ t5 < ((t0.length : Nat) : Int) then
 if okCells false (t0.getD t5.toNat .x) 0 [.s, (.i .i64), (.i .i64), .s, .s] = true then
 bSh (.i .i64) (den E 38 [(.agg [(.s (((t0.getD t5.toNat .x).cells.getD 0 .x).toS)), (.i .i64 (((t0.getD t5.toNat .x).cells.getD 1 .x).toI)), (.i .i64 (((t0.getD t5.toNat .x).cells.getD 2 .x).toI)), (.s (((t0.getD t5.toNat .x).cells.getD 3 .x).toS)), (.s (((t0.getD t5.toNat .x).cells.getD 4 .x).toS))]), (.i .i64 t1)] []) fun a1 =>
 cond (decide (a1.toI < (0 : Int)))
 (some (.i .i64 (-1 : Int)))
 (f12_l1 t0 a1.toI (IntKind.i64.wrap (t5 + (1 : Int))))
 else none
 else none)
 (some (.i .i64 t1)) := (Lp_eq ..).trans (by kernel_rfl)
/-! 40: loop.example/g00905/laws.toRecord -/
theorem f40_eq (x0_0 : ByteArray) (x0_1 : Int) (x0_2 : Int) (x0_3 : ByteArray) (x0_4 : ByteArray) : den E 40 [(.agg [(.s x0_0), (.i .i64 x0_1), (.i .i64 x0_2), (.s x0_3), (.s x0_4)])] [] =
 some (.agg [(.s x0_0), (.i .i64 x0_1), (.i .i64 x0_2), (.s x0_3), (.s x0_4)]) := (den_eq ..).trans (by kernel_rfl)
/-! 14: loop.example/g00905/laws.toRecordS -/
noncomputable def f14_l1 (t0 : List AV) (t4 : Int) (r0 : List AV) (r1 : List AV) : Option AV := Lp E fi14 [true, true, false, true, false] (mkT 23 [(0, (.imm 5 t0)), (3, (.sl 1 [] none)), (4, (.i .i64 t4))]) [(.live true false false 57 r0), (.live true false false 57 r1)]
theorem f14_eq (x0 : List AV) : den E 14 [(.imm 5 x0)] [] =
 if 0 ≤ ((x0.length : Nat) : Int) ∧ ((x0.length : Nat) : Int) ≤ ((x0.length : Nat) : Int) ∧ ((x0.length : Nat) : Int) * ((64 : Nat) : Int) ≤ ((room : Nat) : Int) ∧ ((x0.length : Nat) : Int) ≤ 9223372036854775807 then
 f14_l1 x0 (0 : Int) [] (List.replicate ((x0.length : Nat) : Int).toNat (.agg [(.s .empty), (.i .i64 (0 : Int)), (.i .i64 (0 : Int)), (.s .empty), (.s .empty)]))
 else none := (den_eq ..).trans (by kernel_rfl)
theorem f14_l1_eq (t0 : List AV) (t4 : Int) (r0 : List AV) (r1 : List AV) : f14_l1 t0 t4 r0 r1 =
 cond (decide (t4 < ((t0.length : Nat) : Int)))
 (if 0 ≤ t4 ∧ t4 < ((t0.length : Nat) : Int) then
 if okCells false (t0.getD t4.toNat .x) 0 [.s, (.i .i64), (.i .i64), .s, .s] = true then
 bSh (.agg [.s, (.i .i64), (.i .i64), .s, .s]) (den E 40 [(.agg [(.s (((t0.getD t4.toNat .x).cells.getD 0 .x).toS)), (.i .i64 (((t0.getD t4.toNat .x).cells.getD 1 .x).toI)), (.i .i64 (((t0.getD t4.toNat .x).cells.getD 2 .x).toI)), (.s (((t0.getD t4.toNat .x).cells.getD 3 .x).toS)), (.s (((t0.getD t4.toNat .x).cells.getD 4 .x).toS))])] []) fun a1 =>
 if 0 ≤ t4 ∧ t4 < ((r1.length : Nat) : Int) then
 f14_l1 t0 (IntKind.i64.wrap (t4 + (1 : Int))) r0 (r1.set (0 + t4.toNat) ((r1.getD (0 + t4.toNat) .x).putCells 0 [(.s ((a1.nth 0).toS)), (.i .i64 ((a1.nth 1).toI)), (.i .i64 ((a1.nth 2).toI)), (.s ((a1.nth 3).toS)), (.s ((a1.nth 4).toS))]))
 else none
 else none
 else none)
 (some (.imm 5 r1)) := (Lp_eq ..).trans (by kernel_rfl)
/-! 55: loop.example/g00905/spec.l17Key -/
theorem f55_eq (x0 : ByteArray) : den E 55 [(.s x0)] [] =
 cond ((decide ((1 : Int) ≤ ((x0.size : Nat) : Int))) == true)
 (some (.b (decide (((x0.size : Nat) : Int) ≤ (8 : Int)))))
 (some (.b false)) := (den_eq ..).trans (by kernel_rfl)
/-! 103: loop.example/g00905/spec.l00In -/
theorem f103_eq (x0 : Int) (x1 : Int) (x2 : Int) : den E 103 [(.i .i64 x0), (.i .i64 x1), (.i .i64 x2)] [] =
 cond ((decide (x1 ≤ x0)) == true)
 (some (.b (decide (x0 ≤ x2))))
 (some (.b false)) := (den_eq ..).trans (by kernel_rfl)
/-! 72: loop.example/g00905/spec.l17Valid -/
theorem f72_eq (x0_0 : ByteArray) (x0_1 : Int) (x0_2 : Int) (x0_3 : ByteArray) (x0_4 : ByteArray) : den E 72 [(.agg [(.s x0_0), (.i .i64 x0_1), (.i .i64 x0_2), (.s x0_3), (.s x0_4)])] [] =
 bSh .b (den E 55 [(.s x0_0)] []) fun a1 =>
 cond ((!a1.toB) == false)
 (bSh .b (den E 103 [(.i .i64 x0_1), (.i .i64 (1 : Int)), (.i .i64 (1000000 : Int))] []) fun a2 =>
 cond (!a2.toB)
 (some (.b false))
 (cond (decide (x0_2 = (1 : Int)))
 (cond ((decide (((x0_3.size : Nat) : Int) ≤ (16 : Int))) == true)
 (some (.b (decide (x0_4 = ({ data := #[] } : ByteArray)))))
 (some (.b false)))
 (cond (decide (x0_2 = (2 : Int)))
 (cond ((decide (x0_3 = ({ data := #[] } : ByteArray))) == true)
 (some (.b (decide (x0_4 = ({ data := #[] } : ByteArray)))))
 (some (.b false)))
 (cond (decide (x0_2 = (3 : Int)))
 (cond ((decide (x0_3 = ({ data := #[] } : ByteArray))) == true)
 (bSh .b (den E 55 [(.s x0_4)] []) fun a3 =>
 cond (a3.toB == true)
 (some (.b (lessS x0_0 x0_4)))
 (some (.b false)))
 (some (.b false)))
 (some (.b false))))))
 (some (.b false)) := (den_eq ..).trans (by kernel_rfl)
/-! 97: loop.example/g00905/spec.l17Less -/
theorem f97_eq (x0_0 : ByteArray) (x0_1 : Int) (x0_2 : Int) (x0_3 : ByteArray) (x0_4 : ByteArray) (x1_0 : ByteArray) (x1_1 : Int) (x1_2 : Int) (x1_3 : ByteArray) (x1_4 : ByteArray) : den E 97 [(.agg [(.s x0_0), (.i .i64 x0_1), (.i .i64 x0_2), (.s x0_3), (.s x0_4)]), (.agg [(.s x1_0), (.i .i64 x1_1), (.i .i64 x1_2), (.s x1_3), (.s x1_4)])] [] =
 cond (!decide (x0_0 = x1_0))
 (some (.b (lessS x0_0 x1_0)))
 (cond (!decide (x0_1 = x1_1))
 (some (.b (decide (x1_1 < x0_1))))
 (cond (!decide (x0_2 = x1_2))
 (some (.b (decide (x0_2 < x1_2))))
 (cond (!decide (x0_3 = x1_3))
 (some (.b (lessS x0_3 x1_3)))
 (some (.b (lessS x0_4 x1_4)))))) := (den_eq ..).trans (by kernel_rfl)
/-! 54: loop.example/g00905/spec.l17Run -/
noncomputable def f54_l1 (t0 : List AV) (t3 : Int) : Option AV := Lp E fi54 [true, false, true, false] (mkT 50 [(0, (.imm 5 t0)), (3, (.i .i64 t3))]) []
noncomputable def f54_j2 (t0 : List AV) (t3 : Int) : Option AV := Jn E fi54 [true, false, true, false, false, true, false, false, true] (mkT 50 [(0, (.imm 5 t0)), (3, (.i .i64 t3))]) []
noncomputable def f54_l3 (t0 : List AV) (t3 : Int) (t4 : Int) : Option AV := Lp E fi54 [true, false, true, false, false, true, false, false, true, true, false] (mkT 50 [(0, (.imm 5 t0)), (3, (.i .i64 t3)), (4, (.i .i64 t4))]) []
theorem f54_eq (x0 : List AV) : den E 54 [(.imm 5 x0)] [] =
 f54_l1 x0 (0 : Int) := (den_eq ..).trans (by kernel_rfl)
theorem f54_l1_eq (t0 : List AV) (t3 : Int) : f54_l1 t0 t3 =
 cond (decide (t3 < ((t0.length : Nat) : Int)))
 (if 0 ≤ t3 ∧ t3 < ((t0.length : Nat) : Int) then
 if okCells false (t0.getD t3.toNat .x) 0 [.s, (.i .i64), (.i .i64), .s, .s] = true then
 bSh .b (den E 72 [(.agg [(.s (((t0.getD t3.toNat .x).cells.getD 0 .x).toS)), (.i .i64 (((t0.getD t3.toNat .x).cells.getD 1 .x).toI)), (.i .i64 (((t0.getD t3.toNat .x).cells.getD 2 .x).toI)), (.s (((t0.getD t3.toNat .x).cells.getD 3 .x).toS)), (.s (((t0.getD t3.toNat .x).cells.getD 4 .x).toS))])] []) fun a1 =>
 cond ((!a1.toB) == false)
 (cond ((decide ((0 : Int) < t3)) == true)
 (if 0 ≤ (IntKind.i64.wrap (t3 - (1 : Int))) ∧ (IntKind.i64.wrap (t3 - (1 : Int))) < ((t0.length : Nat) : Int) then
 if okCells false (t0.getD (IntKind.i64.wrap (t3 - (1 : Int))).toNat .x) 0 [.s, (.i .i64), (.i .i64), .s, .s] = true then
 if 0 ≤ t3 ∧ t3 < ((t0.length : Nat) : Int) then
 if okCells false (t0.getD t3.toNat .x) 0 [.s, (.i .i64), (.i .i64), .s, .s] = true then
 bSh .b (den E 97 [(.agg [(.s (((t0.getD (IntKind.i64.wrap (t3 - (1 : Int))).toNat .x).cells.getD 0 .x).toS)), (.i .i64 (((t0.getD (IntKind.i64.wrap (t3 - (1 : Int))).toNat .x).cells.getD 1 .x).toI)), (.i .i64 (((t0.getD (IntKind.i64.wrap (t3 - (1 : Int))).toNat .x).cells.getD 2 .x).toI)), (.s (((t0.getD (IntKind.i64.wrap (t3 - (1 : Int))).toNat .x).cells.getD 3 .x).toS)), (.s (((t0.getD (IntKind.i64.wrap (t3 - (1 : Int))).toNat .x).cells.getD 4 .x).toS))]), (.agg [(.s (((t0.getD t3.toNat .x).cells.getD 0 .x).toS)), (.i .i64 (((t0.getD t3.toNat .x).cells.getD 1 .x).toI)), (.i .i64 (((t0.getD t3.toNat .x).cells.getD 2 .x).toI)), (.s (((t0.getD t3.toNat .x).cells.getD 3 .x).toS)), (.s (((t0.getD t3.toNat .x).cells.getD 4 .x).toS))])] []) fun a2 =>
 cond (!a2.toB)
 (some (.b false))
 (f54_j2 t0 t3)
 else none
 else none
 else none
 else none)
 (f54_j2 t0 t3))
 (some (.b false))
 else none
 else none)
 (some (.b true)) := (Lp_eq ..).trans (by kernel_rfl)
theorem f54_j2_eq (t0 : List AV) (t3 : Int) : f54_j2 t0 t3 =
 f54_l3 t0 t3 (0 : Int) := by kernel_rfl
theorem f54_l3_eq (t0 : List AV) (t3 : Int) (t4 : Int) : f54_l3 t0 t3 t4 =
 cond (decide (t4 < t3))
 (if 0 ≤ t4 ∧ t4 < ((t0.length : Nat) : Int) then
 if okCells false (t0.getD t4.toNat .x) 1 [(.i .i64)] = true then
 if 0 ≤ t3 ∧ t3 < ((t0.length : Nat) : Int) then
 if okCells false (t0.getD t3.toNat .x) 1 [(.i .i64)] = true then
 cond (decide ((((t0.getD t4.toNat .x).cells.getD 1 .x).toI) = (((t0.getD t3.toNat .x).cells.getD 1 .x).toI)))
 (some (.b false))
 (f54_l3 t0 t3 (IntKind.i64.wrap (t4 + (1 : Int))))
 else none
 else none
 else none
 else none)
 (f54_l1 t0 (IntKind.i64.wrap (t3 + (1 : Int)))) := (Lp_eq ..).trans (by kernel_rfl)
/-! 49: loop.example/g00905/spec.ValidRun -/
theorem f49_eq (x0 : List AV) : den E 49 [(.imm 5 x0)] [] =
 bSh .b (den E 54 [(.imm 5 x0)] []) fun a1 =>
 some (.b a1.toB) := (den_eq ..).trans (by kernel_rfl)
/-! 94: loop.example/g00905/spec.l26High -/
theorem f94_eq (x0_0 : ByteArray) (x0_1 : Int) (x0_2 : Int) (x0_3 : ByteArray) (x0_4 : ByteArray) : den E 94 [(.agg [(.s x0_0), (.i .i64 x0_1), (.i .i64 x0_2), (.s x0_3), (.s x0_4)])] [] =
 cond (decide (x0_2 = (3 : Int)))
 (some (.s x0_4))
 (if x0_0.size + ({ data := #[0] } : ByteArray).size ≤ 9223372036854775807 then
 some (.s (x0_0 ++ ({ data := #[0] } : ByteArray)))
 else none) := (den_eq ..).trans (by kernel_rfl)
/-! 50: loop.example/g00905/spec.l26KeyRange -/
noncomputable def f50_l1 (t0 : List AV) (t4 : ByteArray) (t5 : Int) : Option AV := Lp E fi50 [true, true, false, true, false] (mkT 27 [(0, (.imm 5 t0)), (4, (.s t4)), (5, (.i .i64 t5))]) []
noncomputable def f50_j2 (t0 : List AV) (t4 : ByteArray) (t5 : Int) : Option AV := Jn E fi50 [true, true, false, true, false, false, true, true] (mkT 27 [(0, (.imm 5 t0)), (4, (.s t4)), (5, (.i .i64 t5))]) []
theorem f50_eq (x0 : List AV) : den E 50 [(.imm 5 x0)] [] =
 f50_l1 x0 ({ data := #[] } : ByteArray) (0 : Int) := (den_eq ..).trans (by kernel_rfl)
theorem f50_l1_eq (t0 : List AV) (t4 : ByteArray) (t5 : Int) : f50_l1 t0 t4 t5 =
 cond (decide (t5 < ((t0.length : Nat) : Int)))
 (if 0 ≤ t5 ∧ t5 < ((t0.length : Nat) : Int) then
 if okCells false (t0.getD t5.toNat .x) 0 [.s, (.i .i64), (.i .i64), .s, .s] = true then
 bSh .s (den E 94 [(.agg [(.s (((t0.getD t5.toNat .x).cells.getD 0 .x).toS)), (.i .i64 (((t0.getD t5.toNat .x).cells.getD 1 .x).toI)), (.i .i64 (((t0.getD t5.toNat .x).cells.getD 2 .x).toI)), (.s (((t0.getD t5.toNat .x).cells.getD 3 .x).toS)), (.s (((t0.getD t5.toNat .x).cells.getD 4 .x).toS))])] []) fun a1 =>
 cond (!(lessS a1.toS t4 || decide (a1.toS = t4)))
 (f50_j2 t0 a1.toS t5)
 (f50_j2 t0 t4 t5)
 else none
 else none)
 (if 0 ≤ (0 : Int) ∧ (0 : Int) < ((t0.length : Nat) : Int) then
 if okCells false (t0.getD (0 : Int).toNat .x) 0 [.s] = true then
 some (.tup [(.s (((t0.getD (0 : Int).toNat .x).cells.getD 0 .x).toS)), (.s t4)])
 else none
 else none) := (Lp_eq ..).trans (by kernel_rfl)
theorem f50_j2_eq (t0 : List AV) (t4 : ByteArray) (t5 : Int) : f50_j2 t0 t4 t5 =
 f50_l1 t0 t4 (IntKind.i64.wrap (t5 + (1 : Int))) := by kernel_rfl
/-! 13: loop.example/g00905/spec.KeyRange -/
theorem f13_eq (x0 : List AV) : den E 13 [(.imm 5 x0)] [] =
 cond ((decide (((x0.length : Nat) : Int) = (0 : Int))) == false)
 (bSh .b (den E 49 [(.imm 5 x0)] []) fun a1 =>
 cond (!a1.toB)
 (some (.tup [(.s ({ data := #[] } : ByteArray)), (.s ({ data := #[] } : ByteArray))]))
 (bSh (.tup [.s, .s]) (den E 50 [(.imm 5 x0)] []) fun a2 =>
 some (.tup [(.s ((a2.nth 0).toS)), (.s ((a2.nth 1).toS))])))
 (some (.tup [(.s ({ data := #[] } : ByteArray)), (.s ({ data := #[] } : ByteArray))])) := (den_eq ..).trans (by kernel_rfl)
/-! 99: loop.example/g00905/impl.within -/
theorem f99_eq (x0 : Int) (x1 : Int) (x2 : Int) : den E 99 [(.i .i64 x0), (.i .i64 x1), (.i .i64 x2)] [] =
 cond ((decide (x1 ≤ x0)) == true)
 (some (.b (decide (x0 ≤ x2))))
 (some (.b false)) := (den_eq ..).trans (by kernel_rfl)
/-! 57: loop.example/g00905/impl.ValidKey -/
theorem f57_eq (x0 : ByteArray) : den E 57 [(.s x0)] [] =
 bSh .b (den E 99 [(.i .i64 ((x0.size : Nat) : Int)), (.i .i64 (1 : Int)), (.i .i64 (8 : Int))] []) fun a1 =>
 some (.b a1.toB) := (den_eq ..).trans (by kernel_rfl)
/-! 75: loop.example/g00905/impl.ValidRecord -/
theorem f75_eq (x0_0 : ByteArray) (x0_1 : Int) (x0_2 : Int) (x0_3 : ByteArray) (x0_4 : ByteArray) : den E 75 [(.agg [(.s x0_0), (.i .i64 x0_1), (.i .i64 x0_2), (.s x0_3), (.s x0_4)])] [] =
 bSh .b (den E 57 [(.s x0_0)] []) fun a1 =>
 cond ((!a1.toB) == false)
 (bSh .b (den E 99 [(.i .i64 x0_1), (.i .i64 (1 : Int)), (.i .i64 (1000000 : Int))] []) fun a2 =>
 cond (!a2.toB)
 (some (.b false))
 (cond (decide (x0_2 = (1 : Int)))
 (cond ((decide (((x0_3.size : Nat) : Int) ≤ (16 : Int))) == true)
 (some (.b (decide (x0_4 = ({ data := #[] } : ByteArray)))))
 (some (.b false)))
 (cond (decide (x0_2 = (2 : Int)))
 (cond ((decide (x0_3 = ({ data := #[] } : ByteArray))) == true)
 (some (.b (decide (x0_4 = ({ data := #[] } : ByteArray)))))
 (some (.b false)))
 (cond (decide (x0_2 = (3 : Int)))
 (cond ((decide (x0_3 = ({ data := #[] } : ByteArray))) == true)
 (bSh .b (den E 57 [(.s x0_4)] []) fun a3 =>
 cond (a3.toB == true)
 (some (.b (!(lessS x0_4 x0_0 || decide (x0_4 = x0_0)))))
 (some (.b false)))
 (some (.b false)))
 (some (.b false))))))
 (some (.b false)) := (den_eq ..).trans (by kernel_rfl)
/-! 175: internal/bytealg.CompareString -/
theorem f175_eq (x0 x1 : ByteArray) : den E 175 [(.s x0), (.s x1)] [] = some (.i .i64 (cmpB x0 x1)) := (den_eq ..).trans (by kernel_rfl)
/-! 152: strings.Compare -/
theorem f152_eq (x0 : ByteArray) (x1 : ByteArray) : den E 152 [(.s x0), (.s x1)] [] =
 bSh (.i .i64) (den E 175 [(.s x0), (.s x1)] []) fun a1 =>
 some (.i .i64 a1.toI) := (den_eq ..).trans (by kernel_rfl)
/-! 176: cmp.isNaN[int64] -/
theorem f176_eq (x0 : Int) : den E 176 [(.i .i64 x0)] [] =
 some (.b (!decide (x0 = x0))) := (den_eq ..).trans (by kernel_rfl)
/-! 153: cmp.Compare[int64] -/
theorem f153_eq (x0 : Int) (x1 : Int) : den E 153 [(.i .i64 x0), (.i .i64 x1)] [] =
 bSh .b (den E 176 [(.i .i64 x0)] []) fun a1 =>
 bSh .b (den E 176 [(.i .i64 x1)] []) fun a2 =>
 cond a1.toB
 (cond a2.toB
 (some (.i .i64 (0 : Int)))
 (some (.i .i64 (-1 : Int))))
 (cond a2.toB
 (some (.i .i64 (1 : Int)))
 (cond (decide (x0 < x1))
 (some (.i .i64 (-1 : Int)))
 (cond (decide (x1 < x0))
 (some (.i .i64 (1 : Int)))
 (some (.i .i64 (0 : Int)))))) := (den_eq ..).trans (by kernel_rfl)
/-! 151: cmp.Or[int] -/
noncomputable def f151_l1 (t3 : Int) (t6 : List AV) (t7 : Int) (t8 : Int) : Option AV := Lp E fi151 [true, true, false, true, false] (mkT 18 [(3, (.i .i64 t3)), (6, (.imm 1 t6)), (7, (.i .i64 t7)), (8, (.i .i64 t8))]) []
theorem f151_eq (x0 : List AV) : den E 151 [(.imm 1 x0)] [] =
 f151_l1 (0 : Int) x0 ((x0.length : Nat) : Int) (0 : Int) := (den_eq ..).trans (by kernel_rfl)
theorem f151_l1_eq (t3 : Int) (t6 : List AV) (t7 : Int) (t8 : Int) : f151_l1 t3 t6 t7 t8 =
 cond (decide (t8 < t7))
 (if 0 ≤ t8 ∧ t8 < ((t6.length : Nat) : Int) then
 if okCells false (t6.getD t8.toNat .x) 0 [(.i .i64)] = true then
 cond (!decide ((((t6.getD t8.toNat .x).cells.getD 0 .x).toI) = t3))
 (some (.i .i64 (((t6.getD t8.toNat .x).cells.getD 0 .x).toI)))
 (f151_l1 t3 t6 t7 (IntKind.i64.wrap (t8 + (1 : Int))))
 else none
 else none)
 (some (.i .i64 t3)) := (Lp_eq ..).trans (by kernel_rfl)
/-! 121: loop.example/g00905/impl.compareRecords -/
theorem f121_eq (x0_0 : ByteArray) (x0_1 : Int) (x0_2 : Int) (x0_3 : ByteArray) (x0_4 : ByteArray) (x1_0 : ByteArray) (x1_1 : Int) (x1_2 : Int) (x1_3 : ByteArray) (x1_4 : ByteArray) : den E 121 [(.agg [(.s x0_0), (.i .i64 x0_1), (.i .i64 x0_2), (.s x0_3), (.s x0_4)]), (.agg [(.s x1_0), (.i .i64 x1_1), (.i .i64 x1_2), (.s x1_3), (.s x1_4)])] [] =
 bSh (.i .i64) (den E 152 [(.s x0_0), (.s x1_0)] []) fun a1 =>
 bSh (.i .i64) (den E 153 [(.i .i64 x1_1), (.i .i64 x0_1)] []) fun a2 =>
 bSh (.i .i64) (den E 153 [(.i .i64 x0_2), (.i .i64 x1_2)] []) fun a3 =>
 bSh (.i .i64) (den E 152 [(.s x0_3), (.s x1_3)] []) fun a4 =>
 bSh (.i .i64) (den E 152 [(.s x0_4), (.s x1_4)] []) fun a5 =>
 bSh (.i .i64) (den E 151 [(.imm 1 [(.i .i64 a1.toI), (.i .i64 a2.toI), (.i .i64 a3.toI), (.i .i64 a4.toI), (.i .i64 a5.toI)])] []) fun a6 =>
 some (.i .i64 a6.toI) := (den_eq ..).trans (by kernel_rfl)
/-! 95: loop.example/g00905/impl.LessRecord -/
theorem f95_eq (x0_0 : ByteArray) (x0_1 : Int) (x0_2 : Int) (x0_3 : ByteArray) (x0_4 : ByteArray) (x1_0 : ByteArray) (x1_1 : Int) (x1_2 : Int) (x1_3 : ByteArray) (x1_4 : ByteArray) : den E 95 [(.agg [(.s x0_0), (.i .i64 x0_1), (.i .i64 x0_2), (.s x0_3), (.s x0_4)]), (.agg [(.s x1_0), (.i .i64 x1_1), (.i .i64 x1_2), (.s x1_3), (.s x1_4)])] [] =
 bSh (.i .i64) (den E 121 [(.agg [(.s x0_0), (.i .i64 x0_1), (.i .i64 x0_2), (.s x0_3), (.s x0_4)]), (.agg [(.s x1_0), (.i .i64 x1_1), (.i .i64 x1_2), (.s x1_3), (.s x1_4)])] []) fun a1 =>
 some (.b (decide (a1.toI < (0 : Int)))) := (den_eq ..).trans (by kernel_rfl)
/-! 51: loop.example/g00905/impl.ValidRun -/
noncomputable def f51_l1 (t0 : List AV) (t7 : List AV) (t8 : Int) (t9 : Int) (r0 : List AV) : Option AV := Lp E fi51 [true, true, false, true, false] (mkT 41 [(0, (.imm 5 t0)), (3, (.pt 0 [(0, 0)] 0 0)), (7, (.imm 5 t7)), (8, (.i .i64 t8)), (9, (.i .i64 t9))]) [(.live false false false 1000000 [(.fn 0 r0)])]
noncomputable def f51_j2 (t0 : List AV) (t7 : List AV) (t8 : Int) (t9 : Int) (r0 : List AV) (r1_0 : ByteArray) (r1_1 : Int) (r1_2 : Int) (r1_3 : ByteArray) (r1_4 : ByteArray) : Option AV := Jn E fi51 [true, true, false, true, false, false, true, true, false, false, true, true] (mkT 41 [(0, (.imm 5 t0)), (3, (.pt 0 [(0, 0)] 0 0)), (5, (.pt 1 [] 0 0)), (7, (.imm 5 t7)), (8, (.i .i64 t8)), (9, (.i .i64 t9))]) [(.live false false false 1000000 [(.fn 0 r0)]), (.live false true false 57 [(.agg [(.s r1_0), (.i .i64 r1_1), (.i .i64 r1_2), (.s r1_3), (.s r1_4)])])]
theorem f51_eq (x0 : List AV) : den E 51 [(.imm 5 x0)] [] =
 f51_l1 x0 x0 ((x0.length : Nat) : Int) (0 : Int) [] := (den_eq ..).trans (by kernel_rfl)
theorem f51_l1_eq (t0 : List AV) (t7 : List AV) (t8 : Int) (t9 : Int) (r0 : List AV) : f51_l1 t0 t7 t8 t9 r0 =
 cond (decide (t9 < t8))
 (if 0 ≤ t9 ∧ t9 < ((t7.length : Nat) : Int) then
 if okCells false (t7.getD t9.toNat .x) 0 [.s, (.i .i64), (.i .i64), .s, .s] = true then
 bSh .b (den E 75 [(.agg [(.s (((t7.getD t9.toNat .x).cells.getD 0 .x).toS)), (.i .i64 (((t7.getD t9.toNat .x).cells.getD 1 .x).toI)), (.i .i64 (((t7.getD t9.toNat .x).cells.getD 2 .x).toI)), (.s (((t7.getD t9.toNat .x).cells.getD 3 .x).toS)), (.s (((t7.getD t9.toNat .x).cells.getD 4 .x).toS))])] []) fun a1 =>
 cond ((!a1.toB) == false)
 (cond ((hasI r0 (((t7.getD t9.toNat .x).cells.getD 1 .x).toI)) == false)
 (cond ((decide ((0 : Int) < t9)) == true)
 (if 0 ≤ (IntKind.i64.wrap (t9 - (1 : Int))) ∧ (IntKind.i64.wrap (t9 - (1 : Int))) < ((t0.length : Nat) : Int) then
 if okCells false (t0.getD (IntKind.i64.wrap (t9 - (1 : Int))).toNat .x) 0 [.s, (.i .i64), (.i .i64), .s, .s] = true then
 bSh .b (den E 95 [(.agg [(.s (((t0.getD (IntKind.i64.wrap (t9 - (1 : Int))).toNat .x).cells.getD 0 .x).toS)), (.i .i64 (((t0.getD (IntKind.i64.wrap (t9 - (1 : Int))).toNat .x).cells.getD 1 .x).toI)), (.i .i64 (((t0.getD (IntKind.i64.wrap (t9 - (1 : Int))).toNat .x).cells.getD 2 .x).toI)), (.s (((t0.getD (IntKind.i64.wrap (t9 - (1 : Int))).toNat .x).cells.getD 3 .x).toS)), (.s (((t0.getD (IntKind.i64.wrap (t9 - (1 : Int))).toNat .x).cells.getD 4 .x).toS))]), (.agg [(.s (((t7.getD t9.toNat .x).cells.getD 0 .x).toS)), (.i .i64 (((t7.getD t9.toNat .x).cells.getD 1 .x).toI)), (.i .i64 (((t7.getD t9.toNat .x).cells.getD 2 .x).toI)), (.s (((t7.getD t9.toNat .x).cells.getD 3 .x).toS)), (.s (((t7.getD t9.toNat .x).cells.getD 4 .x).toS))])] []) fun a2 =>
 cond (!a2.toB)
 (some (.b false))
 (f51_j2 t0 t7 t8 t9 r0 (((t7.getD t9.toNat .x).cells.getD 0 .x).toS) (((t7.getD t9.toNat .x).cells.getD 1 .x).toI) (((t7.getD t9.toNat .x).cells.getD 2 .x).toI) (((t7.getD t9.toNat .x).cells.getD 3 .x).toS) (((t7.getD t9.toNat .x).cells.getD 4 .x).toS))
 else none
 else none)
 (f51_j2 t0 t7 t8 t9 r0 (((t7.getD t9.toNat .x).cells.getD 0 .x).toS) (((t7.getD t9.toNat .x).cells.getD 1 .x).toI) (((t7.getD t9.toNat .x).cells.getD 2 .x).toI) (((t7.getD t9.toNat .x).cells.getD 3 .x).toS) (((t7.getD t9.toNat .x).cells.getD 4 .x).toS)))
 (some (.b false)))
 (some (.b false))
 else none
 else none)
 (some (.b true)) := (Lp_eq ..).trans (by kernel_rfl)
theorem f51_j2_eq (t0 : List AV) (t7 : List AV) (t8 : Int) (t9 : Int) (r0 : List AV) (r1_0 : ByteArray) (r1_1 : Int) (r1_2 : Int) (r1_3 : ByteArray) (r1_4 : ByteArray) : f51_j2 t0 t7 t8 t9 r0 r1_0 r1_1 r1_2 r1_3 r1_4 =
 f51_l1 t0 t7 t8 (IntKind.i64.wrap (t9 + (1 : Int))) (r0 ++ [(.i .i64 r1_1)]) := by kernel_rfl
/-! 110: loop.example/g00905/impl.isRange -/
theorem f110_eq (x0_0 : ByteArray) (x0_1 : Int) (x0_2 : Int) (x0_3 : ByteArray) (x0_4 : ByteArray) : den E 110 [(.agg [(.s x0_0), (.i .i64 x0_1), (.i .i64 x0_2), (.s x0_3), (.s x0_4)])] [] =
 some (.b (decide (x0_2 = (3 : Int)))) := (den_eq ..).trans (by kernel_rfl)
/-! 96: (loop.example/g00905/impl.Record).upper -/
theorem f96_eq (x0_0 : ByteArray) (x0_1 : Int) (x0_2 : Int) (x0_3 : ByteArray) (x0_4 : ByteArray) : den E 96 [(.agg [(.s x0_0), (.i .i64 x0_1), (.i .i64 x0_2), (.s x0_3), (.s x0_4)])] [] =
 bSh .b (den E 110 [(.agg [(.s x0_0), (.i .i64 x0_1), (.i .i64 x0_2), (.s x0_3), (.s x0_4)])] []) fun a1 =>
 cond a1.toB
 (some (.s x0_4))
 (if x0_0.size + ({ data := #[0] } : ByteArray).size ≤ 9223372036854775807 then
 some (.s (x0_0 ++ ({ data := #[0] } : ByteArray)))
 else none) := (den_eq ..).trans (by kernel_rfl)
/-! 52: loop.example/g00905/impl.keyRange -/
noncomputable def f52_l1 (t0 : List AV) (t4 : ByteArray) (t7 : List AV) (t8 : Int) (t9 : Int) : Option AV := Lp E fi52 [true, true, false, true, false] (mkT 23 [(0, (.imm 5 t0)), (4, (.s t4)), (7, (.imm 5 t7)), (8, (.i .i64 t8)), (9, (.i .i64 t9))]) []
theorem f52_eq (x0 : List AV) : den E 52 [(.imm 5 x0)] [] =
 f52_l1 x0 ({ data := #[] } : ByteArray) x0 ((x0.length : Nat) : Int) (0 : Int) := (den_eq ..).trans (by kernel_rfl)
theorem f52_l1_eq (t0 : List AV) (t4 : ByteArray) (t7 : List AV) (t8 : Int) (t9 : Int) : f52_l1 t0 t4 t7 t8 t9 =
 cond (decide (t9 < t8))
 (if 0 ≤ t9 ∧ t9 < ((t7.length : Nat) : Int) then
 if okCells false (t7.getD t9.toNat .x) 0 [.s, (.i .i64), (.i .i64), .s, .s] = true then
 bSh .s (den E 96 [(.agg [(.s (((t7.getD t9.toNat .x).cells.getD 0 .x).toS)), (.i .i64 (((t7.getD t9.toNat .x).cells.getD 1 .x).toI)), (.i .i64 (((t7.getD t9.toNat .x).cells.getD 2 .x).toI)), (.s (((t7.getD t9.toNat .x).cells.getD 3 .x).toS)), (.s (((t7.getD t9.toNat .x).cells.getD 4 .x).toS))])] []) fun a1 =>
 f52_l1 t0 (cond (!lessS t4 a1.toS) t4 a1.toS) t7 t8 (IntKind.i64.wrap (t9 + (1 : Int)))
 else none
 else none)
 (if 0 ≤ (0 : Int) ∧ (0 : Int) < ((t0.length : Nat) : Int) then
 if okCells false (t0.getD (0 : Int).toNat .x) 0 [.s] = true then
 some (.tup [(.s (((t0.getD (0 : Int).toNat .x).cells.getD 0 .x).toS)), (.s t4)])
 else none
 else none) := (Lp_eq ..).trans (by kernel_rfl)
/-! 15: loop.example/g00905/impl.KeyRange -/
theorem f15_eq (x0 : List AV) : den E 15 [(.imm 5 x0)] [] =
 cond ((decide (((x0.length : Nat) : Int) = (0 : Int))) == false)
 (bSh .b (den E 51 [(.imm 5 x0)] []) fun a1 =>
 cond (!a1.toB)
 (some (.tup [(.s ({ data := #[] } : ByteArray)), (.s ({ data := #[] } : ByteArray))]))
 (bSh (.tup [.s, .s]) (den E 52 [(.imm 5 x0)] []) fun a2 =>
 some (.tup [(.s ((a2.nth 0).toS)), (.s ((a2.nth 1).toS))])))
 (some (.tup [(.s ({ data := #[] } : ByteArray)), (.s ({ data := #[] } : ByteArray))])) := (den_eq ..).trans (by kernel_rfl)
/-! 53: loop.example/g00905/laws.eqRecord -/
theorem f53_eq (x0_0 : ByteArray) (x0_1 : Int) (x0_2 : Int) (x0_3 : ByteArray) (x0_4 : ByteArray) (x1_0 : ByteArray) (x1_1 : Int) (x1_2 : Int) (x1_3 : ByteArray) (x1_4 : ByteArray) : den E 53 [(.agg [(.s x0_0), (.i .i64 x0_1), (.i .i64 x0_2), (.s x0_3), (.s x0_4)]), (.agg [(.s x1_0), (.i .i64 x1_1), (.i .i64 x1_2), (.s x1_3), (.s x1_4)])] [] =
 cond (!decide (x0_0 = x1_0))
 (some (.b false))
 (cond (!decide (x0_1 = x1_1))
 (some (.b false))
 (cond (!decide (x0_2 = x1_2))
 (some (.b false))
 (cond (!decide (x0_3 = x1_3))
 (some (.b false))
 (cond (!decide (x0_4 = x1_4))
 (some (.b false))
 (some (.b true)))))) := (den_eq ..).trans (by kernel_rfl)
/-! 16: loop.example/g00905/laws.eqRecordS -/
noncomputable def f16_l1 (t0 : List AV) (t1 : List AV) (t5 : Int) : Option AV := Lp E fi16 [true, true, false, true, false] (mkT 27 [(0, (.imm 5 t0)), (1, (.imm 5 t1)), (5, (.i .i64 t5))]) []
theorem f16_eq (x0 : List AV) (x1 : List AV) : den E 16 [(.imm 5 x0), (.imm 5 x1)] [] =
 cond (!decide (((x0.length : Nat) : Int) = ((x1.length : Nat) : Int)))
 (some (.b false))
 (f16_l1 x0 x1 (0 : Int)) := (den_eq ..).trans (by kernel_rfl)
theorem f16_l1_eq (t0 : List AV) (t1 : List AV) (t5 : Int) : f16_l1 t0 t1 t5 =
 cond (decide (t5 < ((t0.length : Nat) : Int)))
 (if 0 ≤ t5 ∧ t5 < ((t0.length : Nat) : Int) then
 if okCells false (t0.getD t5.toNat .x) 0 [.s, (.i .i64), (.i .i64), .s, .s] = true then
 if 0 ≤ t5 ∧ t5 < ((t1.length : Nat) : Int) then
 if okCells false (t1.getD t5.toNat .x) 0 [.s, (.i .i64), (.i .i64), .s, .s] = true then
 bSh .b (den E 53 [(.agg [(.s (((t0.getD t5.toNat .x).cells.getD 0 .x).toS)), (.i .i64 (((t0.getD t5.toNat .x).cells.getD 1 .x).toI)), (.i .i64 (((t0.getD t5.toNat .x).cells.getD 2 .x).toI)), (.s (((t0.getD t5.toNat .x).cells.getD 3 .x).toS)), (.s (((t0.getD t5.toNat .x).cells.getD 4 .x).toS))]), (.agg [(.s (((t1.getD t5.toNat .x).cells.getD 0 .x).toS)), (.i .i64 (((t1.getD t5.toNat .x).cells.getD 1 .x).toI)), (.i .i64 (((t1.getD t5.toNat .x).cells.getD 2 .x).toI)), (.s (((t1.getD t5.toNat .x).cells.getD 3 .x).toS)), (.s (((t1.getD t5.toNat .x).cells.getD 4 .x).toS))])] []) fun a1 =>
 cond (!a1.toB)
 (some (.b false))
 (f16_l1 t0 t1 (IntKind.i64.wrap (t5 + (1 : Int))))
 else none
 else none
 else none
 else none)
 (some (.b true)) := (Lp_eq ..).trans (by kernel_rfl)
/-! 3: loop.example/g00905/laws.FnExactKeyRange -/
theorem f3_eq (x0 : List AV) : den E 3 [(.imm 5 x0)] [] =
 bSh (.i .i64) (den E 12 [(.imm 5 x0), (.i .i64 (1048576 : Int))] []) fun a1 =>
 cond (decide (a1.toI < (0 : Int)))
 (some (.b true))
 (bSh (.sl 57 5) (den E 14 [(.imm 5 x0)] []) fun a2 =>
 bSh (.tup [.s, .s]) (den E 13 [(.imm 5 a2.toL)] []) fun a3 =>
 bSh (.sl 57 5) (den E 14 [(.imm 5 x0)] []) fun a4 =>
 bSh (.tup [.s, .s]) (den E 15 [(.imm 5 a4.toL)] []) fun a5 =>
 cond ((!decide (((a5.nth 0).toS) = ((a3.nth 0).toS))) == false)
 (cond (!decide (((a5.nth 1).toS) = ((a3.nth 1).toS)))
 (some (.b false))
 (bSh (.sl 57 5) (den E 14 [(.imm 5 x0)] []) fun a6 =>
 bSh .b (den E 16 [(.imm 5 a4.toL), (.imm 5 a6.toL)] []) fun a7 =>
 cond (!a7.toB)
 (some (.b false))
 (some (.b true))))
 (some (.b false))) := (den_eq ..).trans (by kernel_rfl)
end Go.Proofs.Ytinjfceidedcnaa.IKeyRange
