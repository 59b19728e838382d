/- Printed by a program of this work (wip/it/itp.py): what each function comes to. No condition. -/
import Derived.Test.YtkpmplggbbiebaaISameDBt
namespace Go.Proofs.Ytkpmplggbbiebaa.ISameDB
open Go Go.Proofs.YtkpmplggbbiebaaIT
set_option linter.unusedVariables false
/-! 12: loop.example/g00905/laws.szStringS -/
noncomputable def f12_l1 (t0 : List AV) (t1 : Int) (t5 : Int) : Option AV := Lp E fi12 [true, true, true, false, true, false] (mkT 28 [(0, (.imm 1 t0)), (1, (.i .i64 t1)), (5, (.i .i64 t5))]) []
theorem f12_eq (x0 : List AV) (x1 : Int) : den E 12 [(.imm 1 x0), (.i .i64 x1)] [] =
 cond (decide ((IntKind.i64.wrap (x1 - ((x0.length : Nat) : Int))) < (0 : Int)))
 (some (.i .i64 (-1 : Int)))
 (f12_l1 x0 (IntKind.i64.wrap (x1 - ((x0.length : Nat) : Int))) (0 : Int)) := (den_eq ..).trans (by kernel_rfl)
theorem f12_l1_eq (t0 : List AV) (t1 : Int) (t5 : Int) : f12_l1 t0 t1 t5 =
 cond (decide (t5 < ((t0.length : Nat) : Int)))
 (if 0 ≤ t5 ∧ t5 < ((t0.length : Nat) : Int) then
 if okCells false (t0.getD t5.toNat .x) 0 [.s] = true then
 cond (decide ((IntKind.i64.wrap (t1 - (((((t0.getD t5.toNat .x).cells.getD 0 .x).toS).size : Nat) : Int))) < (0 : Int)))
 (some (.i .i64 (-1 : Int)))
 (f12_l1 t0 (IntKind.i64.wrap (t1 - (((((t0.getD t5.toNat .x).cells.getD 0 .x).toS).size : Nat) : Int))) (IntKind.i64.wrap (t5 + (1 : Int))))
 else none
 else none)
 (some (.i .i64 t1)) := (Lp_eq ..).trans (by kernel_rfl)
/-! 170: loop.example/g00905/laws.szBlock -/
theorem f170_eq (x0_0 : Int) (x0_1 : Int) (x0_2 : Bool) (x0_3 : List AV) (x1 : Int) : den E 170 [(.agg [(.i .i64 x0_0), (.i .i64 x0_1), (.b x0_2), (.imm 1 x0_3)]), (.i .i64 x1)] [] =
 bSh (.i .i64) (den E 12 [(.imm 1 x0_3), (.i .i64 x1)] []) fun a1 =>
 cond (decide (a1.toI < (0 : Int)))
 (some (.i .i64 (-1 : Int)))
 (some (.i .i64 a1.toI)) := (den_eq ..).trans (by kernel_rfl)
/-! 131: loop.example/g00905/laws.szBlockS -/
noncomputable def f131_l1 (t0 : List AV) (t1 : Int) (t5 : Int) : Option AV := Lp E fi131 [true, true, true, false, true, false] (mkT 27 [(0, (.imm 4 t0)), (1, (.i .i64 t1)), (5, (.i .i64 t5))]) []
theorem f131_eq (x0 : List AV) (x1 : Int) : den E 131 [(.imm 4 x0), (.i .i64 x1)] [] =
 cond (decide ((IntKind.i64.wrap (x1 - ((x0.length : Nat) : Int))) < (0 : Int)))
 (some (.i .i64 (-1 : Int)))
 (f131_l1 x0 (IntKind.i64.wrap (x1 - ((x0.length : Nat) : Int))) (0 : Int)) := (den_eq ..).trans (by kernel_rfl)
theorem f131_l1_eq (t0 : List AV) (t1 : Int) (t5 : Int) : f131_l1 t0 t1 t5 =
 cond (decide (t5 < ((t0.length : Nat) : Int)))
 (if 0 ≤ t5 ∧ t5 < ((t0.length : Nat) : Int) then
 if okCells false (t0.getD t5.toNat .x) 0 [(.i .i64), (.i .i64), .b, (.sl 9 1)] = true then
 bSh (.i .i64) (den E 170 [(.agg [(.i .i64 (((t0.getD t5.toNat .x).cells.getD 0 .x).toI)), (.i .i64 (((t0.getD t5.toNat .x).cells.getD 1 .x).toI)), (.b (((t0.getD t5.toNat .x).cells.getD 2 .x).toB)), (.imm 1 (((t0.getD t5.toNat .x).cells.getD 3 .x).toL))]), (.i .i64 t1)] []) fun a1 =>
 cond (decide (a1.toI < (0 : Int)))
 (some (.i .i64 (-1 : Int)))
 (f131_l1 t0 a1.toI (IntKind.i64.wrap (t5 + (1 : Int))))
 else none
 else none)
 (some (.i .i64 t1)) := (Lp_eq ..).trans (by kernel_rfl)
/-! 85: loop.example/g00905/laws.szFlash -/
theorem f85_eq (x0_0 : Int) (x0_1 : Int) (x0_2 : Int) (x0_3 : List AV) (x0_4 : Int) (x0_5 : Int) (x0_6 : Bool) (x0_7 : Int) (x1 : Int) : den E 85 [(.agg [(.i .i64 x0_0), (.i .i64 x0_1), (.i .i64 x0_2), (.imm 4 x0_3), (.i .i64 x0_4), (.i .i64 x0_5), (.b x0_6), (.i .i64 x0_7)]), (.i .i64 x1)] [] =
 bSh (.i .i64) (den E 131 [(.imm 4 x0_3), (.i .i64 x1)] []) fun a1 =>
 cond (decide (a1.toI < (0 : Int)))
 (some (.i .i64 (-1 : Int)))
 (some (.i .i64 a1.toI)) := (den_eq ..).trans (by kernel_rfl)
/-! 36: loop.example/g00905/laws.szInt64S -/
theorem f36_eq (x0 : List AV) (x1 : Int) : den E 36 [(.imm 1 x0), (.i .i64 x1)] [] =
 cond (decide ((IntKind.i64.wrap (x1 - ((x0.length : Nat) : Int))) < (0 : Int)))
 (some (.i .i64 (-1 : Int)))
 (some (.i .i64 (IntKind.i64.wrap (x1 - ((x0.length : Nat) : Int))))) := (den_eq ..).trans (by kernel_rfl)
/-! 132: loop.example/g00905/laws.szZone -/
theorem f132_eq (x0_0 : Int) (x0_1 : List AV) (x0_2 : Int) (x0_3 : Int) (x0_4 : List AV) (x0_5 : List AV) (x1 : Int) : den E 132 [(.agg [(.i .i64 x0_0), (.imm 1 x0_1), (.i .i64 x0_2), (.i .i64 x0_3), (.imm 1 x0_4), (.imm 1 x0_5)]), (.i .i64 x1)] [] =
 bSh (.i .i64) (den E 36 [(.imm 1 x0_1), (.i .i64 x1)] []) fun a1 =>
 cond (decide (a1.toI < (0 : Int)))
 (some (.i .i64 (-1 : Int)))
 (bSh (.i .i64) (den E 36 [(.imm 1 x0_4), (.i .i64 a1.toI)] []) fun a2 =>
 cond (decide (a2.toI < (0 : Int)))
 (some (.i .i64 (-1 : Int)))
 (bSh (.i .i64) (den E 12 [(.imm 1 x0_5), (.i .i64 a2.toI)] []) fun a3 =>
 cond (decide (a3.toI < (0 : Int)))
 (some (.i .i64 (-1 : Int)))
 (some (.i .i64 a3.toI)))) := (den_eq ..).trans (by kernel_rfl)
/-! 86: loop.example/g00905/laws.szZoneS -/
noncomputable def f86_l1 (t0 : List AV) (t1 : Int) (t5 : Int) : Option AV := Lp E fi86 [true, true, true, false, true, false] (mkT 27 [(0, (.imm 6 t0)), (1, (.i .i64 t1)), (5, (.i .i64 t5))]) []
theorem f86_eq (x0 : List AV) (x1 : Int) : den E 86 [(.imm 6 x0), (.i .i64 x1)] [] =
 cond (decide ((IntKind.i64.wrap (x1 - ((x0.length : Nat) : Int))) < (0 : Int)))
 (some (.i .i64 (-1 : Int)))
 (f86_l1 x0 (IntKind.i64.wrap (x1 - ((x0.length : Nat) : Int))) (0 : Int)) := (den_eq ..).trans (by kernel_rfl)
theorem f86_l1_eq (t0 : List AV) (t1 : Int) (t5 : Int) : f86_l1 t0 t1 t5 =
 cond (decide (t5 < ((t0.length : Nat) : Int)))
 (if 0 ≤ t5 ∧ t5 < ((t0.length : Nat) : Int) then
 if okCells false (t0.getD t5.toNat .x) 0 [(.i .i64), (.sl 2 1), (.i .i64), (.i .i64), (.sl 2 1), (.sl 9 1)] = true then
 bSh (.i .i64) (den E 132 [(.agg [(.i .i64 (((t0.getD t5.toNat .x).cells.getD 0 .x).toI)), (.imm 1 (((t0.getD t5.toNat .x).cells.getD 1 .x).toL)), (.i .i64 (((t0.getD t5.toNat .x).cells.getD 2 .x).toI)), (.i .i64 (((t0.getD t5.toNat .x).cells.getD 3 .x).toI)), (.imm 1 (((t0.getD t5.toNat .x).cells.getD 4 .x).toL)), (.imm 1 (((t0.getD t5.toNat .x).cells.getD 5 .x).toL))]), (.i .i64 t1)] []) fun a1 =>
 cond (decide (a1.toI < (0 : Int)))
 (some (.i .i64 (-1 : Int)))
 (f86_l1 t0 a1.toI (IntKind.i64.wrap (t5 + (1 : Int))))
 else none
 else none)
 (some (.i .i64 t1)) := (Lp_eq ..).trans (by kernel_rfl)
/-! 33: loop.example/g00905/laws.szDevice -/
theorem f33_eq (x0_0 : Int) (x0_1 : Int) (x0_2 : Int) (x0_3 : List AV) (x0_4 : Int) (x0_5 : Int) (x0_6 : Bool) (x0_7 : Int) (x0_8 : List AV) (x1 : Int) : den E 33 [(.agg [(.i .i64 x0_0), (.i .i64 x0_1), (.i .i64 x0_2), (.imm 4 x0_3), (.i .i64 x0_4), (.i .i64 x0_5), (.b x0_6), (.i .i64 x0_7), (.imm 6 x0_8)]), (.i .i64 x1)] [] =
 bSh (.i .i64) (den E 85 [(.agg [(.i .i64 x0_0), (.i .i64 x0_1), (.i .i64 x0_2), (.imm 4 x0_3), (.i .i64 x0_4), (.i .i64 x0_5), (.b x0_6), (.i .i64 x0_7)]), (.i .i64 x1)] []) fun a1 =>
 cond (decide (a1.toI < (0 : Int)))
 (some (.i .i64 (-1 : Int)))
 (bSh (.i .i64) (den E 86 [(.imm 6 x0_8), (.i .i64 a1.toI)] []) fun a2 =>
 cond (decide (a2.toI < (0 : Int)))
 (some (.i .i64 (-1 : Int)))
 (some (.i .i64 a2.toI))) := (den_eq ..).trans (by kernel_rfl)
/-! 133: loop.example/g00905/laws.szTableRef -/
theorem f133_eq (x0_0 : Int) (x0_1 : Int) (x0_2 : Int) (x0_3 : Int) (x0_4 : Int) (x0_5 : ByteArray) (x0_6 : ByteArray) (x0_7 : Int) (x0_8 : Int) (x0_9 : Int) (x1 : Int) : den E 133 [(.agg [(.i .i64 x0_0), (.i .i64 x0_1), (.i .i64 x0_2), (.i .i64 x0_3), (.i .i64 x0_4), (.s x0_5), (.s x0_6), (.i .i64 x0_7), (.i .i64 x0_8), (.i .i64 x0_9)]), (.i .i64 x1)] [] =
 cond (decide ((IntKind.i64.wrap (x1 - ((x0_5.size : Nat) : Int))) < (0 : Int)))
 (some (.i .i64 (-1 : Int)))
 (cond (decide ((IntKind.i64.wrap ((IntKind.i64.wrap (x1 - ((x0_5.size : Nat) : Int))) - ((x0_6.size : Nat) : Int))) < (0 : Int)))
 (some (.i .i64 (-1 : Int)))
 (some (.i .i64 (IntKind.i64.wrap ((IntKind.i64.wrap (x1 - ((x0_5.size : Nat) : Int))) - ((x0_6.size : Nat) : Int)))))) := (den_eq ..).trans (by kernel_rfl)
/-! 87: loop.example/g00905/laws.szTableRefS -/
noncomputable def f87_l1 (t0 : List AV) (t1 : Int) (t5 : Int) : Option AV := Lp E fi87 [true, true, true, false, true, false] (mkT 27 [(0, (.imm 10 t0)), (1, (.i .i64 t1)), (5, (.i .i64 t5))]) []
theorem f87_eq (x0 : List AV) (x1 : Int) : den E 87 [(.imm 10 x0), (.i .i64 x1)] [] =
 cond (decide ((IntKind.i64.wrap (x1 - ((x0.length : Nat) : Int))) < (0 : Int)))
 (some (.i .i64 (-1 : Int)))
 (f87_l1 x0 (IntKind.i64.wrap (x1 - ((x0.length : Nat) : Int))) (0 : Int)) := (den_eq ..).trans (by kernel_rfl)
theorem f87_l1_eq (t0 : List AV) (t1 : Int) (t5 : Int) : f87_l1 t0 t1 t5 =
 cond (decide (t5 < ((t0.length : Nat) : Int)))
 (if 0 ≤ t5 ∧ t5 < ((t0.length : Nat) : Int) then
 if okCells false (t0.getD t5.toNat .x) 0 [(.i .i64), (.i .i64), (.i .i64), (.i .i64), (.i .i64), .s, .s, (.i .i64), (.i .i64), (.i .i64)] = true then
 bSh (.i .i64) (den E 133 [(.agg [(.i .i64 (((t0.getD t5.toNat .x).cells.getD 0 .x).toI)), (.i .i64 (((t0.getD t5.toNat .x).cells.getD 1 .x).toI)), (.i .i64 (((t0.getD t5.toNat .x).cells.getD 2 .x).toI)), (.i .i64 (((t0.getD t5.toNat .x).cells.getD 3 .x).toI)), (.i .i64 (((t0.getD t5.toNat .x).cells.getD 4 .x).toI)), (.s (((t0.getD t5.toNat .x).cells.getD 5 .x).toS)), (.s (((t0.getD t5.toNat .x).cells.getD 6 .x).toS)), (.i .i64 (((t0.getD t5.toNat .x).cells.getD 7 .x).toI)), (.i .i64 (((t0.getD t5.toNat .x).cells.getD 8 .x).toI)), (.i .i64 (((t0.getD t5.toNat .x).cells.getD 9 .x).toI))]), (.i .i64 t1)] []) fun a1 =>
 cond (decide (a1.toI < (0 : Int)))
 (some (.i .i64 (-1 : Int)))
 (f87_l1 t0 a1.toI (IntKind.i64.wrap (t5 + (1 : Int))))
 else none
 else none)
 (some (.i .i64 t1)) := (Lp_eq ..).trans (by kernel_rfl)
/-! 34: loop.example/g00905/laws.szVersion -/
theorem f34_eq (x0_0 : Int) (x0_1 : Int) (x0_2 : Int) (x0_3 : List AV) (x1 : Int) : den E 34 [(.agg [(.i .i64 x0_0), (.i .i64 x0_1), (.i .i64 x0_2), (.imm 10 x0_3)]), (.i .i64 x1)] [] =
 bSh (.i .i64) (den E 87 [(.imm 10 x0_3), (.i .i64 x1)] []) fun a1 =>
 cond (decide (a1.toI < (0 : Int)))
 (some (.i .i64 (-1 : Int)))
 (some (.i .i64 a1.toI)) := (den_eq ..).trans (by kernel_rfl)
/-! 18: loop.example/g00905/laws.szRecord -/
theorem f18_eq (x0_0 : ByteArray) (x0_1 : Int) (x0_2 : Int) (x0_3 : ByteArray) (x0_4 : ByteArray) (x1 : Int) : den E 18 [(.agg [(.s x0_0), (.i .i64 x0_1), (.i .i64 x0_2), (.s x0_3), (.s x0_4)]), (.i .i64 x1)] [] =
 cond (decide ((IntKind.i64.wrap (x1 - ((x0_0.size : Nat) : Int))) < (0 : Int)))
 (some (.i .i64 (-1 : Int)))
 (cond (decide ((IntKind.i64.wrap ((IntKind.i64.wrap (x1 - ((x0_0.size : Nat) : Int))) - ((x0_3.size : Nat) : Int))) < (0 : Int)))
 (some (.i .i64 (-1 : Int)))
 (cond (decide ((IntKind.i64.wrap ((IntKind.i64.wrap ((IntKind.i64.wrap (x1 - ((x0_0.size : Nat) : Int))) - ((x0_3.size : Nat) : Int))) - ((x0_4.size : Nat) : Int))) < (0 : Int)))
 (some (.i .i64 (-1 : Int)))
 (some (.i .i64 (IntKind.i64.wrap ((IntKind.i64.wrap ((IntKind.i64.wrap (x1 - ((x0_0.size : Nat) : Int))) - ((x0_3.size : Nat) : Int))) - ((x0_4.size : Nat) : Int))))))) := (den_eq ..).trans (by kernel_rfl)
/-! 35: loop.example/g00905/laws.szRecordS -/
noncomputable def f35_l1 (t0 : List AV) (t1 : Int) (t5 : Int) : Option AV := Lp E fi35 [true, true, true, false, true, false] (mkT 27 [(0, (.imm 5 t0)), (1, (.i .i64 t1)), (5, (.i .i64 t5))]) []
theorem f35_eq (x0 : List AV) (x1 : Int) : den E 35 [(.imm 5 x0), (.i .i64 x1)] [] =
 cond (decide ((IntKind.i64.wrap (x1 - ((x0.length : Nat) : Int))) < (0 : Int)))
 (some (.i .i64 (-1 : Int)))
 (f35_l1 x0 (IntKind.i64.wrap (x1 - ((x0.length : Nat) : Int))) (0 : Int)) := (den_eq ..).trans (by kernel_rfl)
theorem f35_l1_eq (t0 : List AV) (t1 : Int) (t5 : Int) : f35_l1 t0 t1 t5 =
 cond (decide (t5 < ((t0.length : Nat) : Int)))
 (if 0 ≤ t5 ∧ t5 < ((t0.length : Nat) : Int) then
 if okCells false (t0.getD t5.toNat .x) 0 [.s, (.i .i64), (.i .i64), .s, .s] = true then
 bSh (.i .i64) (den E 18 [(.agg [(.s (((t0.getD t5.toNat .x).cells.getD 0 .x).toS)), (.i .i64 (((t0.getD t5.toNat .x).cells.getD 1 .x).toI)), (.i .i64 (((t0.getD t5.toNat .x).cells.getD 2 .x).toI)), (.s (((t0.getD t5.toNat .x).cells.getD 3 .x).toS)), (.s (((t0.getD t5.toNat .x).cells.getD 4 .x).toS))]), (.i .i64 t1)] []) fun a1 =>
 cond (decide (a1.toI < (0 : Int)))
 (some (.i .i64 (-1 : Int)))
 (f35_l1 t0 a1.toI (IntKind.i64.wrap (t5 + (1 : Int))))
 else none
 else none)
 (some (.i .i64 t1)) := (Lp_eq ..).trans (by kernel_rfl)
/-! 7: loop.example/g00905/laws.szDB -/
theorem f7_eq (x0_0 : Int) (x0_1 : Int) (x0_2 : Int) (x0_3 : List AV) (x0_4 : Int) (x0_5 : Int) (x0_6 : Bool) (x0_7 : Int) (x0_8 : List AV) (x0_9 : Int) (x0_10 : Int) (x0_11 : Int) (x0_12 : List AV) (x0_13 : Int) (x0_14 : Int) (x0_15 : List AV) (x0_16 : Int) (x0_17 : Int) (x0_18 : List AV) (x1 : Int) : den E 7 [(.agg [(.i .i64 x0_0), (.i .i64 x0_1), (.i .i64 x0_2), (.imm 4 x0_3), (.i .i64 x0_4), (.i .i64 x0_5), (.b x0_6), (.i .i64 x0_7), (.imm 6 x0_8), (.i .i64 x0_9), (.i .i64 x0_10), (.i .i64 x0_11), (.imm 10 x0_12), (.i .i64 x0_13), (.i .i64 x0_14), (.imm 5 x0_15), (.i .i64 x0_16), (.i .i64 x0_17), (.imm 1 x0_18)]), (.i .i64 x1)] [] =
 bSh (.i .i64) (den E 33 [(.agg [(.i .i64 x0_0), (.i .i64 x0_1), (.i .i64 x0_2), (.imm 4 x0_3), (.i .i64 x0_4), (.i .i64 x0_5), (.b x0_6), (.i .i64 x0_7), (.imm 6 x0_8)]), (.i .i64 x1)] []) fun a1 =>
 cond (decide (a1.toI < (0 : Int)))
 (some (.i .i64 (-1 : Int)))
 (bSh (.i .i64) (den E 34 [(.agg [(.i .i64 x0_9), (.i .i64 x0_10), (.i .i64 x0_11), (.imm 10 x0_12)]), (.i .i64 a1.toI)] []) fun a2 =>
 cond (decide (a2.toI < (0 : Int)))
 (some (.i .i64 (-1 : Int)))
 (bSh (.i .i64) (den E 35 [(.imm 5 x0_15), (.i .i64 a2.toI)] []) fun a3 =>
 cond (decide (a3.toI < (0 : Int)))
 (some (.i .i64 (-1 : Int)))
 (bSh (.i .i64) (den E 36 [(.imm 1 x0_18), (.i .i64 a3.toI)] []) fun a4 =>
 cond (decide (a4.toI < (0 : Int)))
 (some (.i .i64 (-1 : Int)))
 (some (.i .i64 a4.toI))))) := (den_eq ..).trans (by kernel_rfl)
/-! 77: loop.example/g00905/laws.toGeometry -/
theorem f77_eq (x0_0 : Int) (x0_1 : Int) (x0_2 : Int) : den E 77 [(.agg [(.i .i64 x0_0), (.i .i64 x0_1), (.i .i64 x0_2)])] [] =
 some (.agg [(.i .i64 x0_0), (.i .i64 x0_1), (.i .i64 x0_2)]) := (den_eq ..).trans (by kernel_rfl)
/-! 14: loop.example/g00905/laws.toStringS -/
noncomputable def f14_l1 (t0 : List AV) (t4 : Int) (r0 : List AV) (r1 : List AV) : Option AV := Lp E fi14 [true, true, false, true, false] (mkT 22 [(0, (.imm 1 t0)), (3, (.sl 1 [] none)), (4, (.i .i64 t4))]) [(.live true false false 9 r0), (.live true false false 9 r1)]
theorem f14_eq (x0 : List AV) : den E 14 [(.imm 1 x0)] [] =
 if 0 ≤ ((x0.length : Nat) : Int) ∧ ((x0.length : Nat) : Int) ≤ ((x0.length : Nat) : Int) ∧ ((x0.length : Nat) : Int) * ((16 : Nat) : Int) ≤ ((room : Nat) : Int) ∧ ((x0.length : Nat) : Int) ≤ 9223372036854775807 then
 f14_l1 x0 (0 : Int) [] (List.replicate ((x0.length : Nat) : Int).toNat (.s .empty))
 else none := (den_eq ..).trans (by kernel_rfl)
theorem f14_l1_eq (t0 : List AV) (t4 : Int) (r0 : List AV) (r1 : List AV) : f14_l1 t0 t4 r0 r1 =
 cond (decide (t4 < ((t0.length : Nat) : Int)))
 (if 0 ≤ t4 ∧ t4 < ((t0.length : Nat) : Int) then
 if okCells false (t0.getD t4.toNat .x) 0 [.s] = true then
 if 0 ≤ t4 ∧ t4 < ((r1.length : Nat) : Int) then
 f14_l1 t0 (IntKind.i64.wrap (t4 + (1 : Int))) r0 (r1.set (0 + t4.toNat) ((r1.getD (0 + t4.toNat) .x).putCells 0 [(.s (((t0.getD t4.toNat .x).cells.getD 0 .x).toS))]))
 else none
 else none
 else none)
 (some (.imm 1 r1)) := (Lp_eq ..).trans (by kernel_rfl)
/-! 171: loop.example/g00905/laws.toBlock -/
theorem f171_eq (x0_0 : Int) (x0_1 : Int) (x0_2 : Bool) (x0_3 : List AV) : den E 171 [(.agg [(.i .i64 x0_0), (.i .i64 x0_1), (.b x0_2), (.imm 1 x0_3)])] [] =
 bSh (.sl 9 1) (den E 14 [(.imm 1 x0_3)] []) fun a1 =>
 some (.agg [(.i .i64 x0_0), (.i .i64 x0_1), (.b x0_2), (.imm 1 a1.toL)]) := (den_eq ..).trans (by kernel_rfl)
/-! 135: loop.example/g00905/laws.toBlockS -/
noncomputable def f135_l1 (t0 : List AV) (t4 : Int) (r0 : List AV) (r1 : List AV) : Option AV := Lp E fi135 [true, true, false, true, false] (mkT 23 [(0, (.imm 4 t0)), (3, (.sl 1 [] none)), (4, (.i .i64 t4))]) [(.live true false false 172 r0), (.live true false false 172 r1)]
theorem f135_eq (x0 : List AV) : den E 135 [(.imm 4 x0)] [] =
 if 0 ≤ ((x0.length : Nat) : Int) ∧ ((x0.length : Nat) : Int) ≤ ((x0.length : Nat) : Int) ∧ ((x0.length : Nat) : Int) * ((48 : Nat) : Int) ≤ ((room : Nat) : Int) ∧ ((x0.length : Nat) : Int) ≤ 9223372036854775807 then
 f135_l1 x0 (0 : Int) [] (List.replicate ((x0.length : Nat) : Int).toNat (.agg [(.i .i64 (0 : Int)), (.i .i64 (0 : Int)), (.b false), (.imm 1 [])]))
 else none := (den_eq ..).trans (by kernel_rfl)
theorem f135_l1_eq (t0 : List AV) (t4 : Int) (r0 : List AV) (r1 : List AV) : f135_l1 t0 t4 r0 r1 =
 cond (decide (t4 < ((t0.length : Nat) : Int)))
 (if 0 ≤ t4 ∧ t4 < ((t0.length : Nat) : Int) then
 if okCells false (t0.getD t4.toNat .x) 0 [(.i .i64), (.i .i64), .b, (.sl 9 1)] = true then
 bSh (.agg [(.i .i64), (.i .i64), .b, (.sl 9 1)]) (den E 171 [(.agg [(.i .i64 (((t0.getD t4.toNat .x).cells.getD 0 .x).toI)), (.i .i64 (((t0.getD t4.toNat .x).cells.getD 1 .x).toI)), (.b (((t0.getD t4.toNat .x).cells.getD 2 .x).toB)), (.imm 1 (((t0.getD t4.toNat .x).cells.getD 3 .x).toL))])] []) fun a1 =>
 if 0 ≤ t4 ∧ t4 < ((r1.length : Nat) : Int) then
 f135_l1 t0 (IntKind.i64.wrap (t4 + (1 : Int))) r0 (r1.set (0 + t4.toNat) ((r1.getD (0 + t4.toNat) .x).putCells 0 [(.i .i64 ((a1.nth 0).toI)), (.i .i64 ((a1.nth 1).toI)), (.b ((a1.nth 2).toB)), (.imm 1 ((a1.nth 3).toL))]))
 else none
 else none
 else none)
 (some (.imm 4 r1)) := (Lp_eq ..).trans (by kernel_rfl)
/-! 91: loop.example/g00905/laws.toFlash -/
theorem f91_eq (x0_0 : Int) (x0_1 : Int) (x0_2 : Int) (x0_3 : List AV) (x0_4 : Int) (x0_5 : Int) (x0_6 : Bool) (x0_7 : Int) : den E 91 [(.agg [(.i .i64 x0_0), (.i .i64 x0_1), (.i .i64 x0_2), (.imm 4 x0_3), (.i .i64 x0_4), (.i .i64 x0_5), (.b x0_6), (.i .i64 x0_7)])] [] =
 bSh (.agg [(.i .i64), (.i .i64), (.i .i64)]) (den E 77 [(.agg [(.i .i64 x0_0), (.i .i64 x0_1), (.i .i64 x0_2)])] []) fun a1 =>
 bSh (.sl 172 4) (den E 135 [(.imm 4 x0_3)] []) fun a2 =>
 some (.agg [(.i .i64 ((a1.nth 0).toI)), (.i .i64 ((a1.nth 1).toI)), (.i .i64 ((a1.nth 2).toI)), (.imm 4 a2.toL), (.i .i64 x0_4), (.i .i64 x0_5), (.b x0_6), (.i .i64 x0_7)]) := (den_eq ..).trans (by kernel_rfl)
/-! 44: loop.example/g00905/laws.toInt64S -/
noncomputable def f44_l1 (t0 : List AV) (t4 : Int) (r0 : List AV) (r1 : List AV) : Option AV := Lp E fi44 [true, true, false, true, false] (mkT 22 [(0, (.imm 1 t0)), (3, (.sl 1 [] none)), (4, (.i .i64 t4))]) [(.live true false false 2 r0), (.live true false false 2 r1)]
theorem f44_eq (x0 : List AV) : den E 44 [(.imm 1 x0)] [] =
 if 0 ≤ ((x0.length : Nat) : Int) ∧ ((x0.length : Nat) : Int) ≤ ((x0.length : Nat) : Int) ∧ ((x0.length : Nat) : Int) * ((8 : Nat) : Int) ≤ ((room : Nat) : Int) ∧ ((x0.length : Nat) : Int) ≤ 9223372036854775807 then
 f44_l1 x0 (0 : Int) [] (List.replicate ((x0.length : Nat) : Int).toNat (.i .i64 (0 : Int)))
 else none := (den_eq ..).trans (by kernel_rfl)
theorem f44_l1_eq (t0 : List AV) (t4 : Int) (r0 : List AV) (r1 : List AV) : f44_l1 t0 t4 r0 r1 =
 cond (decide (t4 < ((t0.length : Nat) : Int)))
 (if 0 ≤ t4 ∧ t4 < ((t0.length : Nat) : Int) then
 if okCells false (t0.getD t4.toNat .x) 0 [(.i .i64)] = true then
 if 0 ≤ t4 ∧ t4 < ((r1.length : Nat) : Int) then
 f44_l1 t0 (IntKind.i64.wrap (t4 + (1 : Int))) r0 (r1.set (0 + t4.toNat) ((r1.getD (0 + t4.toNat) .x).putCells 0 [(.i .i64 (((t0.getD t4.toNat .x).cells.getD 0 .x).toI))]))
 else none
 else none
 else none)
 (some (.imm 1 r1)) := (Lp_eq ..).trans (by kernel_rfl)
/-! 136: loop.example/g00905/laws.toZone -/
theorem f136_eq (x0_0 : Int) (x0_1 : List AV) (x0_2 : Int) (x0_3 : Int) (x0_4 : List AV) (x0_5 : List AV) : den E 136 [(.agg [(.i .i64 x0_0), (.imm 1 x0_1), (.i .i64 x0_2), (.i .i64 x0_3), (.imm 1 x0_4), (.imm 1 x0_5)])] [] =
 bSh (.sl 2 1) (den E 44 [(.imm 1 x0_1)] []) fun a1 =>
 bSh (.sl 2 1) (den E 44 [(.imm 1 x0_4)] []) fun a2 =>
 bSh (.sl 9 1) (den E 14 [(.imm 1 x0_5)] []) fun a3 =>
 some (.agg [(.i .i64 x0_0), (.imm 1 a1.toL), (.i .i64 x0_2), (.i .i64 x0_3), (.imm 1 a2.toL), (.imm 1 a3.toL)]) := (den_eq ..).trans (by kernel_rfl)
/-! 92: loop.example/g00905/laws.toZoneS -/
noncomputable def f92_l1 (t0 : List AV) (t4 : Int) (r0 : List AV) (r1 : List AV) : Option AV := Lp E fi92 [true, true, false, true, false] (mkT 23 [(0, (.imm 6 t0)), (3, (.sl 1 [] none)), (4, (.i .i64 t4))]) [(.live true false false 129 r0), (.live true false false 129 r1)]
theorem f92_eq (x0 : List AV) : den E 92 [(.imm 6 x0)] [] =
 if 0 ≤ ((x0.length : Nat) : Int) ∧ ((x0.length : Nat) : Int) ≤ ((x0.length : Nat) : Int) ∧ ((x0.length : Nat) : Int) * ((96 : Nat) : Int) ≤ ((room : Nat) : Int) ∧ ((x0.length : Nat) : Int) ≤ 9223372036854775807 then
 f92_l1 x0 (0 : Int) [] (List.replicate ((x0.length : Nat) : Int).toNat (.agg [(.i .i64 (0 : Int)), (.imm 1 []), (.i .i64 (0 : Int)), (.i .i64 (0 : Int)), (.imm 1 []), (.imm 1 [])]))
 else none := (den_eq ..).trans (by kernel_rfl)
theorem f92_l1_eq (t0 : List AV) (t4 : Int) (r0 : List AV) (r1 : List AV) : f92_l1 t0 t4 r0 r1 =
 cond (decide (t4 < ((t0.length : Nat) : Int)))
 (if 0 ≤ t4 ∧ t4 < ((t0.length : Nat) : Int) then
 if okCells false (t0.getD t4.toNat .x) 0 [(.i .i64), (.sl 2 1), (.i .i64), (.i .i64), (.sl 2 1), (.sl 9 1)] = true then
 bSh (.agg [(.i .i64), (.sl 2 1), (.i .i64), (.i .i64), (.sl 2 1), (.sl 9 1)]) (den E 136 [(.agg [(.i .i64 (((t0.getD t4.toNat .x).cells.getD 0 .x).toI)), (.imm 1 (((t0.getD t4.toNat .x).cells.getD 1 .x).toL)), (.i .i64 (((t0.getD t4.toNat .x).cells.getD 2 .x).toI)), (.i .i64 (((t0.getD t4.toNat .x).cells.getD 3 .x).toI)), (.imm 1 (((t0.getD t4.toNat .x).cells.getD 4 .x).toL)), (.imm 1 (((t0.getD t4.toNat .x).cells.getD 5 .x).toL))])] []) fun a1 =>
 if 0 ≤ t4 ∧ t4 < ((r1.length : Nat) : Int) then
 f92_l1 t0 (IntKind.i64.wrap (t4 + (1 : Int))) r0 (r1.set (0 + t4.toNat) ((r1.getD (0 + t4.toNat) .x).putCells 0 [(.i .i64 ((a1.nth 0).toI)), (.imm 1 ((a1.nth 1).toL)), (.i .i64 ((a1.nth 2).toI)), (.i .i64 ((a1.nth 3).toI)), (.imm 1 ((a1.nth 4).toL)), (.imm 1 ((a1.nth 5).toL))]))
 else none
 else none
 else none)
 (some (.imm 6 r1)) := (Lp_eq ..).trans (by kernel_rfl)
/-! 41: loop.example/g00905/laws.toDevice -/
theorem f41_eq (x0_0 : Int) (x0_1 : Int) (x0_2 : Int) (x0_3 : List AV) (x0_4 : Int) (x0_5 : Int) (x0_6 : Bool) (x0_7 : Int) (x0_8 : List AV) : den E 41 [(.agg [(.i .i64 x0_0), (.i .i64 x0_1), (.i .i64 x0_2), (.imm 4 x0_3), (.i .i64 x0_4), (.i .i64 x0_5), (.b x0_6), (.i .i64 x0_7), (.imm 6 x0_8)])] [] =
 bSh (.agg [(.i .i64), (.i .i64), (.i .i64), (.sl 172 4), (.i .i64), (.i .i64), .b, (.i .i64)]) (den E 91 [(.agg [(.i .i64 x0_0), (.i .i64 x0_1), (.i .i64 x0_2), (.imm 4 x0_3), (.i .i64 x0_4), (.i .i64 x0_5), (.b x0_6), (.i .i64 x0_7)])] []) fun a1 =>
 bSh (.sl 129 6) (den E 92 [(.imm 6 x0_8)] []) fun a2 =>
 some (.agg [(.i .i64 ((a1.nth 0).toI)), (.i .i64 ((a1.nth 1).toI)), (.i .i64 ((a1.nth 2).toI)), (.imm 4 ((a1.nth 3).toL)), (.i .i64 ((a1.nth 4).toI)), (.i .i64 ((a1.nth 5).toI)), (.b ((a1.nth 6).toB)), (.i .i64 ((a1.nth 7).toI)), (.imm 6 a2.toL)]) := (den_eq ..).trans (by kernel_rfl)
/-! 137: loop.example/g00905/laws.toTableRef -/
theorem f137_eq (x0_0 : Int) (x0_1 : Int) (x0_2 : Int) (x0_3 : Int) (x0_4 : Int) (x0_5 : ByteArray) (x0_6 : ByteArray) (x0_7 : Int) (x0_8 : Int) (x0_9 : Int) : den E 137 [(.agg [(.i .i64 x0_0), (.i .i64 x0_1), (.i .i64 x0_2), (.i .i64 x0_3), (.i .i64 x0_4), (.s x0_5), (.s x0_6), (.i .i64 x0_7), (.i .i64 x0_8), (.i .i64 x0_9)])] [] =
 some (.agg [(.i .i64 x0_0), (.i .i64 x0_1), (.i .i64 x0_2), (.i .i64 x0_3), (.i .i64 x0_4), (.s x0_5), (.s x0_6), (.i .i64 x0_7), (.i .i64 x0_8), (.i .i64 x0_9)]) := (den_eq ..).trans (by kernel_rfl)
/-! 93: loop.example/g00905/laws.toTableRefS -/
noncomputable def f93_l1 (t0 : List AV) (t4 : Int) (r0 : List AV) (r1 : List AV) : Option AV := Lp E fi93 [true, true, false, true, false] (mkT 23 [(0, (.imm 10 t0)), (3, (.sl 1 [] none)), (4, (.i .i64 t4))]) [(.live true false false 131 r0), (.live true false false 131 r1)]
theorem f93_eq (x0 : List AV) : den E 93 [(.imm 10 x0)] [] =
 if 0 ≤ ((x0.length : Nat) : Int) ∧ ((x0.length : Nat) : Int) ≤ ((x0.length : Nat) : Int) ∧ ((x0.length : Nat) : Int) * ((96 : Nat) : Int) ≤ ((room : Nat) : Int) ∧ ((x0.length : Nat) : Int) ≤ 9223372036854775807 then
 f93_l1 x0 (0 : Int) [] (List.replicate ((x0.length : Nat) : Int).toNat (.agg [(.i .i64 (0 : Int)), (.i .i64 (0 : Int)), (.i .i64 (0 : Int)), (.i .i64 (0 : Int)), (.i .i64 (0 : Int)), (.s .empty), (.s .empty), (.i .i64 (0 : Int)), (.i .i64 (0 : Int)), (.i .i64 (0 : Int))]))
 else none := (den_eq ..).trans (by kernel_rfl)
theorem f93_l1_eq (t0 : List AV) (t4 : Int) (r0 : List AV) (r1 : List AV) : f93_l1 t0 t4 r0 r1 =
 cond (decide (t4 < ((t0.length : Nat) : Int)))
 (if 0 ≤ t4 ∧ t4 < ((t0.length : Nat) : Int) then
 if okCells false (t0.getD t4.toNat .x) 0 [(.i .i64), (.i .i64), (.i .i64), (.i .i64), (.i .i64), .s, .s, (.i .i64), (.i .i64), (.i .i64)] = true then
 bSh (.agg [(.i .i64), (.i .i64), (.i .i64), (.i .i64), (.i .i64), .s, .s, (.i .i64), (.i .i64), (.i .i64)]) (den E 137 [(.agg [(.i .i64 (((t0.getD t4.toNat .x).cells.getD 0 .x).toI)), (.i .i64 (((t0.getD t4.toNat .x).cells.getD 1 .x).toI)), (.i .i64 (((t0.getD t4.toNat .x).cells.getD 2 .x).toI)), (.i .i64 (((t0.getD t4.toNat .x).cells.getD 3 .x).toI)), (.i .i64 (((t0.getD t4.toNat .x).cells.getD 4 .x).toI)), (.s (((t0.getD t4.toNat .x).cells.getD 5 .x).toS)), (.s (((t0.getD t4.toNat .x).cells.getD 6 .x).toS)), (.i .i64 (((t0.getD t4.toNat .x).cells.getD 7 .x).toI)), (.i .i64 (((t0.getD t4.toNat .x).cells.getD 8 .x).toI)), (.i .i64 (((t0.getD t4.toNat .x).cells.getD 9 .x).toI))])] []) fun a1 =>
 if 0 ≤ t4 ∧ t4 < ((r1.length : Nat) : Int) then
 f93_l1 t0 (IntKind.i64.wrap (t4 + (1 : Int))) r0 (r1.set (0 + t4.toNat) ((r1.getD (0 + t4.toNat) .x).putCells 0 [(.i .i64 ((a1.nth 0).toI)), (.i .i64 ((a1.nth 1).toI)), (.i .i64 ((a1.nth 2).toI)), (.i .i64 ((a1.nth 3).toI)), (.i .i64 ((a1.nth 4).toI)), (.s ((a1.nth 5).toS)), (.s ((a1.nth 6).toS)), (.i .i64 ((a1.nth 7).toI)), (.i .i64 ((a1.nth 8).toI)), (.i .i64 ((a1.nth 9).toI))]))
 else none
 else none
 else none)
 (some (.imm 10 r1)) := (Lp_eq ..).trans (by kernel_rfl)
/-! 42: loop.example/g00905/laws.toVersion -/
theorem f42_eq (x0_0 : Int) (x0_1 : Int) (x0_2 : Int) (x0_3 : List AV) : den E 42 [(.agg [(.i .i64 x0_0), (.i .i64 x0_1), (.i .i64 x0_2), (.imm 10 x0_3)])] [] =
 bSh (.sl 131 10) (den E 93 [(.imm 10 x0_3)] []) fun a1 =>
 some (.agg [(.i .i64 x0_0), (.i .i64 x0_1), (.i .i64 x0_2), (.imm 10 a1.toL)]) := (den_eq ..).trans (by kernel_rfl)
/-! 21: loop.example/g00905/laws.toRecord -/
theorem f21_eq (x0_0 : ByteArray) (x0_1 : Int) (x0_2 : Int) (x0_3 : ByteArray) (x0_4 : ByteArray) : den E 21 [(.agg [(.s x0_0), (.i .i64 x0_1), (.i .i64 x0_2), (.s x0_3), (.s x0_4)])] [] =
 some (.agg [(.s x0_0), (.i .i64 x0_1), (.i .i64 x0_2), (.s x0_3), (.s x0_4)]) := (den_eq ..).trans (by kernel_rfl)
/-! 43: loop.example/g00905/laws.toRecordS -/
noncomputable def f43_l1 (t0 : List AV) (t4 : Int) (r0 : List AV) (r1 : List AV) : Option AV := Lp E fi43 [true, true, false, true, false] (mkT 23 [(0, (.imm 5 t0)), (3, (.sl 1 [] none)), (4, (.i .i64 t4))]) [(.live true false false 70 r0), (.live true false false 70 r1)]
theorem f43_eq (x0 : List AV) : den E 43 [(.imm 5 x0)] [] =
 if 0 ≤ ((x0.length : Nat) : Int) ∧ ((x0.length : Nat) : Int) ≤ ((x0.length : Nat) : Int) ∧ ((x0.length : Nat) : Int) * ((64 : Nat) : Int) ≤ ((room : Nat) : Int) ∧ ((x0.length : Nat) : Int) ≤ 9223372036854775807 then
 f43_l1 x0 (0 : Int) [] (List.replicate ((x0.length : Nat) : Int).toNat (.agg [(.s .empty), (.i .i64 (0 : Int)), (.i .i64 (0 : Int)), (.s .empty), (.s .empty)]))
 else none := (den_eq ..).trans (by kernel_rfl)
theorem f43_l1_eq (t0 : List AV) (t4 : Int) (r0 : List AV) (r1 : List AV) : f43_l1 t0 t4 r0 r1 =
 cond (decide (t4 < ((t0.length : Nat) : Int)))
 (if 0 ≤ t4 ∧ t4 < ((t0.length : Nat) : Int) then
 if okCells false (t0.getD t4.toNat .x) 0 [.s, (.i .i64), (.i .i64), .s, .s] = true then
 bSh (.agg [.s, (.i .i64), (.i .i64), .s, .s]) (den E 21 [(.agg [(.s (((t0.getD t4.toNat .x).cells.getD 0 .x).toS)), (.i .i64 (((t0.getD t4.toNat .x).cells.getD 1 .x).toI)), (.i .i64 (((t0.getD t4.toNat .x).cells.getD 2 .x).toI)), (.s (((t0.getD t4.toNat .x).cells.getD 3 .x).toS)), (.s (((t0.getD t4.toNat .x).cells.getD 4 .x).toS))])] []) fun a1 =>
 if 0 ≤ t4 ∧ t4 < ((r1.length : Nat) : Int) then
 f43_l1 t0 (IntKind.i64.wrap (t4 + (1 : Int))) r0 (r1.set (0 + t4.toNat) ((r1.getD (0 + t4.toNat) .x).putCells 0 [(.s ((a1.nth 0).toS)), (.i .i64 ((a1.nth 1).toI)), (.i .i64 ((a1.nth 2).toI)), (.s ((a1.nth 3).toS)), (.s ((a1.nth 4).toS))]))
 else none
 else none
 else none)
 (some (.imm 5 r1)) := (Lp_eq ..).trans (by kernel_rfl)
/-! 9: loop.example/g00905/laws.toDB -/
theorem f9_eq (x0_0 : Int) (x0_1 : Int) (x0_2 : Int) (x0_3 : List AV) (x0_4 : Int) (x0_5 : Int) (x0_6 : Bool) (x0_7 : Int) (x0_8 : List AV) (x0_9 : Int) (x0_10 : Int) (x0_11 : Int) (x0_12 : List AV) (x0_13 : Int) (x0_14 : Int) (x0_15 : List AV) (x0_16 : Int) (x0_17 : Int) (x0_18 : List AV) : den E 9 [(.agg [(.i .i64 x0_0), (.i .i64 x0_1), (.i .i64 x0_2), (.imm 4 x0_3), (.i .i64 x0_4), (.i .i64 x0_5), (.b x0_6), (.i .i64 x0_7), (.imm 6 x0_8), (.i .i64 x0_9), (.i .i64 x0_10), (.i .i64 x0_11), (.imm 10 x0_12), (.i .i64 x0_13), (.i .i64 x0_14), (.imm 5 x0_15), (.i .i64 x0_16), (.i .i64 x0_17), (.imm 1 x0_18)])] [] =
 bSh (.agg [(.i .i64), (.i .i64), (.i .i64), (.sl 172 4), (.i .i64), (.i .i64), .b, (.i .i64), (.sl 129 6)]) (den E 41 [(.agg [(.i .i64 x0_0), (.i .i64 x0_1), (.i .i64 x0_2), (.imm 4 x0_3), (.i .i64 x0_4), (.i .i64 x0_5), (.b x0_6), (.i .i64 x0_7), (.imm 6 x0_8)])] []) fun a1 =>
 bSh (.agg [(.i .i64), (.i .i64), (.i .i64), (.sl 131 10)]) (den E 42 [(.agg [(.i .i64 x0_9), (.i .i64 x0_10), (.i .i64 x0_11), (.imm 10 x0_12)])] []) fun a2 =>
 bSh (.sl 70 5) (den E 43 [(.imm 5 x0_15)] []) fun a3 =>
 bSh (.sl 2 1) (den E 44 [(.imm 1 x0_18)] []) fun a4 =>
 some (.agg [(.i .i64 ((a1.nth 0).toI)), (.i .i64 ((a1.nth 1).toI)), (.i .i64 ((a1.nth 2).toI)), (.imm 4 ((a1.nth 3).toL)), (.i .i64 ((a1.nth 4).toI)), (.i .i64 ((a1.nth 5).toI)), (.b ((a1.nth 6).toB)), (.i .i64 ((a1.nth 7).toI)), (.imm 6 ((a1.nth 8).toL)), (.i .i64 ((a2.nth 0).toI)), (.i .i64 ((a2.nth 1).toI)), (.i .i64 ((a2.nth 2).toI)), (.imm 10 ((a2.nth 3).toL)), (.i .i64 x0_13), (.i .i64 x0_14), (.imm 5 a3.toL), (.i .i64 x0_16), (.i .i64 x0_17), (.imm 1 a4.toL)]) := (den_eq ..).trans (by kernel_rfl)
/-! 134: loop.example/g00905/spec.l06SameBlock -/
noncomputable def f134_l1 (t5 : Int) (r0_0 : Int) (r0_1 : Int) (r0_2 : Bool) (r0_3 : List AV) (r1_0 : Int) (r1_1 : Int) (r1_2 : Bool) (r1_3 : List AV) : Option AV := Lp E fi134 [true, true, false, true, false] (mkT 52 [(2, (.pt 0 [] 0 0)), (3, (.pt 1 [] 0 0)), (5, (.i .i64 t5))]) [(.live false true false 172 [(.agg [(.i .i64 r0_0), (.i .i64 r0_1), (.b r0_2), (.imm 1 r0_3)])]), (.live false true false 172 [(.agg [(.i .i64 r1_0), (.i .i64 r1_1), (.b r1_2), (.imm 1 r1_3)])])]
theorem f134_eq (x0_0 : Int) (x0_1 : Int) (x0_2 : Bool) (x0_3 : List AV) (x1_0 : Int) (x1_1 : Int) (x1_2 : Bool) (x1_3 : List AV) : den E 134 [(.agg [(.i .i64 x0_0), (.i .i64 x0_1), (.b x0_2), (.imm 1 x0_3)]), (.agg [(.i .i64 x1_0), (.i .i64 x1_1), (.b x1_2), (.imm 1 x1_3)])] [] =
 cond ((!decide (x0_0 = x1_0)) == false)
 (cond ((!decide (x0_1 = x1_1)) == false)
 (cond ((!decide (x0_2 = x1_2)) == false)
 (cond (!decide (((x0_3.length : Nat) : Int) = ((x1_3.length : Nat) : Int)))
 (some (.b false))
 (f134_l1 (0 : Int) x0_0 x0_1 x0_2 x0_3 x1_0 x1_1 x1_2 x1_3))
 (some (.b false)))
 (some (.b false)))
 (some (.b false)) := (den_eq ..).trans (by kernel_rfl)
theorem f134_l1_eq (t5 : Int) (r0_0 : Int) (r0_1 : Int) (r0_2 : Bool) (r0_3 : List AV) (r1_0 : Int) (r1_1 : Int) (r1_2 : Bool) (r1_3 : List AV) : f134_l1 t5 r0_0 r0_1 r0_2 r0_3 r1_0 r1_1 r1_2 r1_3 =
 cond (decide (t5 < ((r0_3.length : Nat) : Int)))
 (if 0 ≤ t5 ∧ t5 < ((r0_3.length : Nat) : Int) then
 if okCells false (r0_3.getD t5.toNat .x) 0 [.s] = true then
 if 0 ≤ t5 ∧ t5 < ((r1_3.length : Nat) : Int) then
 if okCells false (r1_3.getD t5.toNat .x) 0 [.s] = true then
 cond (!decide ((((r0_3.getD t5.toNat .x).cells.getD 0 .x).toS) = (((r1_3.getD t5.toNat .x).cells.getD 0 .x).toS)))
 (some (.b false))
 (f134_l1 (IntKind.i64.wrap (t5 + (1 : Int))) r0_0 r0_1 r0_2 r0_3 r1_0 r1_1 r1_2 r1_3)
 else none
 else none
 else none
 else none)
 (some (.b true)) := (Lp_eq ..).trans (by kernel_rfl)
/-! 88: loop.example/g00905/spec.SameFlash -/
noncomputable def f88_l1 (t5 : Int) (r0_0 : Int) (r0_1 : Int) (r0_2 : Int) (r0_3 : List AV) (r0_4 : Int) (r0_5 : Int) (r0_6 : Bool) (r0_7 : Int) (r1_0 : Int) (r1_1 : Int) (r1_2 : Int) (r1_3 : List AV) (r1_4 : Int) (r1_5 : Int) (r1_6 : Bool) (r1_7 : Int) : Option AV := Lp E fi88 [true, true, false, true, false] (mkT 67 [(2, (.pt 0 [] 0 0)), (3, (.pt 1 [] 0 0)), (5, (.i .i64 t5))]) [(.live false true false 42 [(.agg [(.i .i64 r0_0), (.i .i64 r0_1), (.i .i64 r0_2), (.imm 4 r0_3), (.i .i64 r0_4), (.i .i64 r0_5), (.b r0_6), (.i .i64 r0_7)])]), (.live false true false 42 [(.agg [(.i .i64 r1_0), (.i .i64 r1_1), (.i .i64 r1_2), (.imm 4 r1_3), (.i .i64 r1_4), (.i .i64 r1_5), (.b r1_6), (.i .i64 r1_7)])])]
theorem f88_eq (x0_0 : Int) (x0_1 : Int) (x0_2 : Int) (x0_3 : List AV) (x0_4 : Int) (x0_5 : Int) (x0_6 : Bool) (x0_7 : Int) (x1_0 : Int) (x1_1 : Int) (x1_2 : Int) (x1_3 : List AV) (x1_4 : Int) (x1_5 : Int) (x1_6 : Bool) (x1_7 : Int) : den E 88 [(.agg [(.i .i64 x0_0), (.i .i64 x0_1), (.i .i64 x0_2), (.imm 4 x0_3), (.i .i64 x0_4), (.i .i64 x0_5), (.b x0_6), (.i .i64 x0_7)]), (.agg [(.i .i64 x1_0), (.i .i64 x1_1), (.i .i64 x1_2), (.imm 4 x1_3), (.i .i64 x1_4), (.i .i64 x1_5), (.b x1_6), (.i .i64 x1_7)])] [] =
 cond ((!(decide (x0_0 = x1_0) && (decide (x0_1 = x1_1) && (decide (x0_2 = x1_2) && true)))) == false)
 (cond ((!decide (((x0_3.length : Nat) : Int) = ((x1_3.length : Nat) : Int))) == false)
 (cond ((!decide (x0_4 = x1_4)) == false)
 (cond ((!decide (x0_5 = x1_5)) == false)
 (cond ((!decide (x0_6 = x1_6)) == false)
 (cond (!decide (x0_7 = x1_7))
 (some (.b false))
 (f88_l1 (0 : Int) x0_0 x0_1 x0_2 x0_3 x0_4 x0_5 x0_6 x0_7 x1_0 x1_1 x1_2 x1_3 x1_4 x1_5 x1_6 x1_7))
 (some (.b false)))
 (some (.b false)))
 (some (.b false)))
 (some (.b false)))
 (some (.b false)) := (den_eq ..).trans (by kernel_rfl)
theorem f88_l1_eq (t5 : Int) (r0_0 : Int) (r0_1 : Int) (r0_2 : Int) (r0_3 : List AV) (r0_4 : Int) (r0_5 : Int) (r0_6 : Bool) (r0_7 : Int) (r1_0 : Int) (r1_1 : Int) (r1_2 : Int) (r1_3 : List AV) (r1_4 : Int) (r1_5 : Int) (r1_6 : Bool) (r1_7 : Int) : f88_l1 t5 r0_0 r0_1 r0_2 r0_3 r0_4 r0_5 r0_6 r0_7 r1_0 r1_1 r1_2 r1_3 r1_4 r1_5 r1_6 r1_7 =
 cond (decide (t5 < ((r0_3.length : Nat) : Int)))
 (if 0 ≤ t5 ∧ t5 < ((r0_3.length : Nat) : Int) then
 if okCells false (r0_3.getD t5.toNat .x) 0 [(.i .i64), (.i .i64), .b, (.sl 9 1)] = true then
 if 0 ≤ t5 ∧ t5 < ((r1_3.length : Nat) : Int) then
 if okCells false (r1_3.getD t5.toNat .x) 0 [(.i .i64), (.i .i64), .b, (.sl 9 1)] = true then
 bSh .b (den E 134 [(.agg [(.i .i64 (((r0_3.getD t5.toNat .x).cells.getD 0 .x).toI)), (.i .i64 (((r0_3.getD t5.toNat .x).cells.getD 1 .x).toI)), (.b (((r0_3.getD t5.toNat .x).cells.getD 2 .x).toB)), (.imm 1 (((r0_3.getD t5.toNat .x).cells.getD 3 .x).toL))]), (.agg [(.i .i64 (((r1_3.getD t5.toNat .x).cells.getD 0 .x).toI)), (.i .i64 (((r1_3.getD t5.toNat .x).cells.getD 1 .x).toI)), (.b (((r1_3.getD t5.toNat .x).cells.getD 2 .x).toB)), (.imm 1 (((r1_3.getD t5.toNat .x).cells.getD 3 .x).toL))])] []) fun a1 =>
 cond (!a1.toB)
 (some (.b false))
 (f88_l1 (IntKind.i64.wrap (t5 + (1 : Int))) r0_0 r0_1 r0_2 r0_3 r0_4 r0_5 r0_6 r0_7 r1_0 r1_1 r1_2 r1_3 r1_4 r1_5 r1_6 r1_7)
 else none
 else none
 else none
 else none)
 (some (.b true)) := (Lp_eq ..).trans (by kernel_rfl)
/-! 89: loop.example/g00905/spec.l16SameInts -/
noncomputable def f89_l1 (t0 : List AV) (t1 : List AV) (t5 : Int) : Option AV := Lp E fi89 [true, true, false, true, false] (mkT 26 [(0, (.imm 1 t0)), (1, (.imm 1 t1)), (5, (.i .i64 t5))]) []
theorem f89_eq (x0 : List AV) (x1 : List AV) : den E 89 [(.imm 1 x0), (.imm 1 x1)] [] =
 cond (!decide (((x0.length : Nat) : Int) = ((x1.length : Nat) : Int)))
 (some (.b false))
 (f89_l1 x0 x1 (0 : Int)) := (den_eq ..).trans (by kernel_rfl)
theorem f89_l1_eq (t0 : List AV) (t1 : List AV) (t5 : Int) : f89_l1 t0 t1 t5 =
 cond (decide (t5 < ((t0.length : Nat) : Int)))
 (if 0 ≤ t5 ∧ t5 < ((t0.length : Nat) : Int) then
 if okCells false (t0.getD t5.toNat .x) 0 [(.i .i64)] = true then
 if 0 ≤ t5 ∧ t5 < ((t1.length : Nat) : Int) then
 if okCells false (t1.getD t5.toNat .x) 0 [(.i .i64)] = true then
 cond (!decide ((((t0.getD t5.toNat .x).cells.getD 0 .x).toI) = (((t1.getD t5.toNat .x).cells.getD 0 .x).toI)))
 (some (.b false))
 (f89_l1 t0 t1 (IntKind.i64.wrap (t5 + (1 : Int))))
 else none
 else none
 else none
 else none)
 (some (.b true)) := (Lp_eq ..).trans (by kernel_rfl)
/-! 90: loop.example/g00905/spec.l16SameTexts -/
noncomputable def f90_l1 (t0 : List AV) (t1 : List AV) (t5 : Int) : Option AV := Lp E fi90 [true, true, false, true, false] (mkT 26 [(0, (.imm 1 t0)), (1, (.imm 1 t1)), (5, (.i .i64 t5))]) []
theorem f90_eq (x0 : List AV) (x1 : List AV) : den E 90 [(.imm 1 x0), (.imm 1 x1)] [] =
 cond (!decide (((x0.length : Nat) : Int) = ((x1.length : Nat) : Int)))
 (some (.b false))
 (f90_l1 x0 x1 (0 : Int)) := (den_eq ..).trans (by kernel_rfl)
theorem f90_l1_eq (t0 : List AV) (t1 : List AV) (t5 : Int) : f90_l1 t0 t1 t5 =
 cond (decide (t5 < ((t0.length : Nat) : Int)))
 (if 0 ≤ t5 ∧ t5 < ((t0.length : Nat) : Int) then
 if okCells false (t0.getD t5.toNat .x) 0 [.s] = true then
 if 0 ≤ t5 ∧ t5 < ((t1.length : Nat) : Int) then
 if okCells false (t1.getD t5.toNat .x) 0 [.s] = true then
 cond (!decide ((((t0.getD t5.toNat .x).cells.getD 0 .x).toS) = (((t1.getD t5.toNat .x).cells.getD 0 .x).toS)))
 (some (.b false))
 (f90_l1 t0 t1 (IntKind.i64.wrap (t5 + (1 : Int))))
 else none
 else none
 else none
 else none)
 (some (.b true)) := (Lp_eq ..).trans (by kernel_rfl)
/-! 37: loop.example/g00905/spec.SameDevice -/
noncomputable def f37_l1 (t5 : Int) (r0_0 : Int) (r0_1 : Int) (r0_2 : Int) (r0_3 : List AV) (r0_4 : Int) (r0_5 : Int) (r0_6 : Bool) (r0_7 : Int) (r0_8 : List AV) (r1_0 : Int) (r1_1 : Int) (r1_2 : Int) (r1_3 : List AV) (r1_4 : Int) (r1_5 : Int) (r1_6 : Bool) (r1_7 : Int) (r1_8 : List AV) : Option AV := Lp E fi37 [true, true, false, true, false] (mkT 83 [(2, (.pt 0 [] 0 0)), (3, (.pt 1 [] 0 0)), (5, (.i .i64 t5))]) [(.live false true false 45 [(.agg [(.i .i64 r0_0), (.i .i64 r0_1), (.i .i64 r0_2), (.imm 4 r0_3), (.i .i64 r0_4), (.i .i64 r0_5), (.b r0_6), (.i .i64 r0_7), (.imm 6 r0_8)])]), (.live false true false 45 [(.agg [(.i .i64 r1_0), (.i .i64 r1_1), (.i .i64 r1_2), (.imm 4 r1_3), (.i .i64 r1_4), (.i .i64 r1_5), (.b r1_6), (.i .i64 r1_7), (.imm 6 r1_8)])])]
theorem f37_eq (x0_0 : Int) (x0_1 : Int) (x0_2 : Int) (x0_3 : List AV) (x0_4 : Int) (x0_5 : Int) (x0_6 : Bool) (x0_7 : Int) (x0_8 : List AV) (x1_0 : Int) (x1_1 : Int) (x1_2 : Int) (x1_3 : List AV) (x1_4 : Int) (x1_5 : Int) (x1_6 : Bool) (x1_7 : Int) (x1_8 : List AV) : den E 37 [(.agg [(.i .i64 x0_0), (.i .i64 x0_1), (.i .i64 x0_2), (.imm 4 x0_3), (.i .i64 x0_4), (.i .i64 x0_5), (.b x0_6), (.i .i64 x0_7), (.imm 6 x0_8)]), (.agg [(.i .i64 x1_0), (.i .i64 x1_1), (.i .i64 x1_2), (.imm 4 x1_3), (.i .i64 x1_4), (.i .i64 x1_5), (.b x1_6), (.i .i64 x1_7), (.imm 6 x1_8)])] [] =
 bSh .b (den E 88 [(.agg [(.i .i64 x0_0), (.i .i64 x0_1), (.i .i64 x0_2), (.imm 4 x0_3), (.i .i64 x0_4), (.i .i64 x0_5), (.b x0_6), (.i .i64 x0_7)]), (.agg [(.i .i64 x1_0), (.i .i64 x1_1), (.i .i64 x1_2), (.imm 4 x1_3), (.i .i64 x1_4), (.i .i64 x1_5), (.b x1_6), (.i .i64 x1_7)])] []) fun a1 =>
 cond ((!a1.toB) == false)
 (cond (!decide (((x0_8.length : Nat) : Int) = ((x1_8.length : Nat) : Int)))
 (some (.b false))
 (f37_l1 (0 : Int) x0_0 x0_1 x0_2 x0_3 x0_4 x0_5 x0_6 x0_7 x0_8 x1_0 x1_1 x1_2 x1_3 x1_4 x1_5 x1_6 x1_7 x1_8))
 (some (.b false)) := (den_eq ..).trans (by kernel_rfl)
theorem f37_l1_eq (t5 : Int) (r0_0 : Int) (r0_1 : Int) (r0_2 : Int) (r0_3 : List AV) (r0_4 : Int) (r0_5 : Int) (r0_6 : Bool) (r0_7 : Int) (r0_8 : List AV) (r1_0 : Int) (r1_1 : Int) (r1_2 : Int) (r1_3 : List AV) (r1_4 : Int) (r1_5 : Int) (r1_6 : Bool) (r1_7 : Int) (r1_8 : List AV) : f37_l1 t5 r0_0 r0_1 r0_2 r0_3 r0_4 r0_5 r0_6 r0_7 r0_8 r1_0 r1_1 r1_2 r1_3 r1_4 r1_5 r1_6 r1_7 r1_8 =
 cond (decide (t5 < ((r0_8.length : Nat) : Int)))
 (if 0 ≤ t5 ∧ t5 < ((r0_8.length : Nat) : Int) then
 if okCells false (r0_8.getD t5.toNat .x) 0 [(.i .i64), (.sl 2 1), (.i .i64), (.i .i64), (.sl 2 1), (.sl 9 1)] = true then
 if 0 ≤ t5 ∧ t5 < ((r1_8.length : Nat) : Int) then
 if okCells false (r1_8.getD t5.toNat .x) 0 [(.i .i64), (.sl 2 1), (.i .i64), (.i .i64), (.sl 2 1), (.sl 9 1)] = true then
 cond ((!decide ((((r0_8.getD t5.toNat .x).cells.getD 0 .x).toI) = (((r1_8.getD t5.toNat .x).cells.getD 0 .x).toI))) == false)
 (cond ((!decide ((((r0_8.getD t5.toNat .x).cells.getD 2 .x).toI) = (((r1_8.getD t5.toNat .x).cells.getD 2 .x).toI))) == false)
 (cond ((!decide ((((r0_8.getD t5.toNat .x).cells.getD 3 .x).toI) = (((r1_8.getD t5.toNat .x).cells.getD 3 .x).toI))) == false)
 (bSh .b (den E 89 [(.imm 1 (((r0_8.getD t5.toNat .x).cells.getD 1 .x).toL)), (.imm 1 (((r1_8.getD t5.toNat .x).cells.getD 1 .x).toL))] []) fun a1 =>
 cond ((!a1.toB) == false)
 (bSh .b (den E 89 [(.imm 1 (((r0_8.getD t5.toNat .x).cells.getD 4 .x).toL)), (.imm 1 (((r1_8.getD t5.toNat .x).cells.getD 4 .x).toL))] []) fun a2 =>
 cond ((!a2.toB) == false)
 (bSh .b (den E 90 [(.imm 1 (((r0_8.getD t5.toNat .x).cells.getD 5 .x).toL)), (.imm 1 (((r1_8.getD t5.toNat .x).cells.getD 5 .x).toL))] []) fun a3 =>
 cond (!a3.toB)
 (some (.b false))
 (f37_l1 (IntKind.i64.wrap (t5 + (1 : Int))) r0_0 r0_1 r0_2 r0_3 r0_4 r0_5 r0_6 r0_7 r0_8 r1_0 r1_1 r1_2 r1_3 r1_4 r1_5 r1_6 r1_7 r1_8))
 (some (.b false)))
 (some (.b false)))
 (some (.b false)))
 (some (.b false)))
 (some (.b false))
 else none
 else none
 else none
 else none)
 (some (.b true)) := (Lp_eq ..).trans (by kernel_rfl)
/-! 38: loop.example/g00905/spec.SameVersion -/
noncomputable def f38_l1 (t5 : Int) (r0_0 : Int) (r0_1 : Int) (r0_2 : Int) (r0_3 : List AV) (r1_0 : Int) (r1_1 : Int) (r1_2 : Int) (r1_3 : List AV) : Option AV := Lp E fi38 [true, true, false, true, false] (mkT 52 [(2, (.pt 0 [] 0 0)), (3, (.pt 1 [] 0 0)), (5, (.i .i64 t5))]) [(.live false true false 48 [(.agg [(.i .i64 r0_0), (.i .i64 r0_1), (.i .i64 r0_2), (.imm 10 r0_3)])]), (.live false true false 48 [(.agg [(.i .i64 r1_0), (.i .i64 r1_1), (.i .i64 r1_2), (.imm 10 r1_3)])])]
theorem f38_eq (x0_0 : Int) (x0_1 : Int) (x0_2 : Int) (x0_3 : List AV) (x1_0 : Int) (x1_1 : Int) (x1_2 : Int) (x1_3 : List AV) : den E 38 [(.agg [(.i .i64 x0_0), (.i .i64 x0_1), (.i .i64 x0_2), (.imm 10 x0_3)]), (.agg [(.i .i64 x1_0), (.i .i64 x1_1), (.i .i64 x1_2), (.imm 10 x1_3)])] [] =
 cond ((!decide (x0_0 = x1_0)) == false)
 (cond ((!decide (x0_1 = x1_1)) == false)
 (cond ((!decide (x0_2 = x1_2)) == false)
 (cond (!decide (((x0_3.length : Nat) : Int) = ((x1_3.length : Nat) : Int)))
 (some (.b false))
 (f38_l1 (0 : Int) x0_0 x0_1 x0_2 x0_3 x1_0 x1_1 x1_2 x1_3))
 (some (.b false)))
 (some (.b false)))
 (some (.b false)) := (den_eq ..).trans (by kernel_rfl)
theorem f38_l1_eq (t5 : Int) (r0_0 : Int) (r0_1 : Int) (r0_2 : Int) (r0_3 : List AV) (r1_0 : Int) (r1_1 : Int) (r1_2 : Int) (r1_3 : List AV) : f38_l1 t5 r0_0 r0_1 r0_2 r0_3 r1_0 r1_1 r1_2 r1_3 =
 cond (decide (t5 < ((r0_3.length : Nat) : Int)))
 (if 0 ≤ t5 ∧ t5 < ((r0_3.length : Nat) : Int) then
 if okCells false (r0_3.getD t5.toNat .x) 0 [(.i .i64), (.i .i64), (.i .i64), (.i .i64), (.i .i64), .s, .s, (.i .i64), (.i .i64), (.i .i64)] = true then
 if 0 ≤ t5 ∧ t5 < ((r1_3.length : Nat) : Int) then
 if okCells false (r1_3.getD t5.toNat .x) 0 [(.i .i64), (.i .i64), (.i .i64), (.i .i64), (.i .i64), .s, .s, (.i .i64), (.i .i64), (.i .i64)] = true then
 cond (!(decide ((((r0_3.getD t5.toNat .x).cells.getD 0 .x).toI) = (((r1_3.getD t5.toNat .x).cells.getD 0 .x).toI)) && (decide ((((r0_3.getD t5.toNat .x).cells.getD 1 .x).toI) = (((r1_3.getD t5.toNat .x).cells.getD 1 .x).toI)) && (decide ((((r0_3.getD t5.toNat .x).cells.getD 2 .x).toI) = (((r1_3.getD t5.toNat .x).cells.getD 2 .x).toI)) && (decide ((((r0_3.getD t5.toNat .x).cells.getD 3 .x).toI) = (((r1_3.getD t5.toNat .x).cells.getD 3 .x).toI)) && (decide ((((r0_3.getD t5.toNat .x).cells.getD 4 .x).toI) = (((r1_3.getD t5.toNat .x).cells.getD 4 .x).toI)) && (decide ((((r0_3.getD t5.toNat .x).cells.getD 5 .x).toS) = (((r1_3.getD t5.toNat .x).cells.getD 5 .x).toS)) && (decide ((((r0_3.getD t5.toNat .x).cells.getD 6 .x).toS) = (((r1_3.getD t5.toNat .x).cells.getD 6 .x).toS)) && (decide ((((r0_3.getD t5.toNat .x).cells.getD 7 .x).toI) = (((r1_3.getD t5.toNat .x).cells.getD 7 .x).toI)) && (decide ((((r0_3.getD t5.toNat .x).cells.getD 8 .x).toI) = (((r1_3.getD t5.toNat .x).cells.getD 8 .x).toI)) && (decide ((((r0_3.getD t5.toNat .x).cells.getD 9 .x).toI) = (((r1_3.getD t5.toNat .x).cells.getD 9 .x).toI)) && true)))))))))))
 (some (.b false))
 (f38_l1 (IntKind.i64.wrap (t5 + (1 : Int))) r0_0 r0_1 r0_2 r0_3 r1_0 r1_1 r1_2 r1_3)
 else none
 else none
 else none
 else none)
 (some (.b true)) := (Lp_eq ..).trans (by kernel_rfl)
/-! 39: loop.example/g00905/spec.l28SameRun -/
noncomputable def f39_l1 (t0 : List AV) (t1 : List AV) (t5 : Int) : Option AV := Lp E fi39 [true, true, false, true, false] (mkT 26 [(0, (.imm 5 t0)), (1, (.imm 5 t1)), (5, (.i .i64 t5))]) []
theorem f39_eq (x0 : List AV) (x1 : List AV) : den E 39 [(.imm 5 x0), (.imm 5 x1)] [] =
 cond (!decide (((x0.length : Nat) : Int) = ((x1.length : Nat) : Int)))
 (some (.b false))
 (f39_l1 x0 x1 (0 : Int)) := (den_eq ..).trans (by kernel_rfl)
theorem f39_l1_eq (t0 : List AV) (t1 : List AV) (t5 : Int) : f39_l1 t0 t1 t5 =
 cond (decide (t5 < ((t0.length : Nat) : Int)))
 (if 0 ≤ t5 ∧ t5 < ((t0.length : Nat) : Int) then
 if okCells false (t0.getD t5.toNat .x) 0 [.s, (.i .i64), (.i .i64), .s, .s] = true then
 if 0 ≤ t5 ∧ t5 < ((t1.length : Nat) : Int) then
 if okCells false (t1.getD t5.toNat .x) 0 [.s, (.i .i64), (.i .i64), .s, .s] = true then
 cond (!(decide ((((t0.getD t5.toNat .x).cells.getD 0 .x).toS) = (((t1.getD t5.toNat .x).cells.getD 0 .x).toS)) && (decide ((((t0.getD t5.toNat .x).cells.getD 1 .x).toI) = (((t1.getD t5.toNat .x).cells.getD 1 .x).toI)) && (decide ((((t0.getD t5.toNat .x).cells.getD 2 .x).toI) = (((t1.getD t5.toNat .x).cells.getD 2 .x).toI)) && (decide ((((t0.getD t5.toNat .x).cells.getD 3 .x).toS) = (((t1.getD t5.toNat .x).cells.getD 3 .x).toS)) && (decide ((((t0.getD t5.toNat .x).cells.getD 4 .x).toS) = (((t1.getD t5.toNat .x).cells.getD 4 .x).toS)) && true))))))
 (some (.b false))
 (f39_l1 t0 t1 (IntKind.i64.wrap (t5 + (1 : Int))))
 else none
 else none
 else none
 else none)
 (some (.b true)) := (Lp_eq ..).trans (by kernel_rfl)
/-! 40: loop.example/g00905/spec.l00Same -/
noncomputable def f40_l1 (t0 : List AV) (t1 : List AV) (t5 : Int) : Option AV := Lp E fi40 [true, true, false, true, false] (mkT 26 [(0, (.imm 1 t0)), (1, (.imm 1 t1)), (5, (.i .i64 t5))]) []
theorem f40_eq (x0 : List AV) (x1 : List AV) : den E 40 [(.imm 1 x0), (.imm 1 x1)] [] =
 cond (!decide (((x0.length : Nat) : Int) = ((x1.length : Nat) : Int)))
 (some (.b false))
 (f40_l1 x0 x1 (0 : Int)) := (den_eq ..).trans (by kernel_rfl)
theorem f40_l1_eq (t0 : List AV) (t1 : List AV) (t5 : Int) : f40_l1 t0 t1 t5 =
 cond (decide (t5 < ((t0.length : Nat) : Int)))
 (if 0 ≤ t5 ∧ t5 < ((t0.length : Nat) : Int) then
 if okCells false (t0.getD t5.toNat .x) 0 [(.i .i64)] = true then
 if 0 ≤ t5 ∧ t5 < ((t1.length : Nat) : Int) then
 if okCells false (t1.getD t5.toNat .x) 0 [(.i .i64)] = true then
 cond (!decide ((((t0.getD t5.toNat .x).cells.getD 0 .x).toI) = (((t1.getD t5.toNat .x).cells.getD 0 .x).toI)))
 (some (.b false))
 (f40_l1 t0 t1 (IntKind.i64.wrap (t5 + (1 : Int))))
 else none
 else none
 else none
 else none)
 (some (.b true)) := (Lp_eq ..).trans (by kernel_rfl)
/-! 8: loop.example/g00905/spec.SameDB -/
theorem f8_eq (x0_0 : Int) (x0_1 : Int) (x0_2 : Int) (x0_3 : List AV) (x0_4 : Int) (x0_5 : Int) (x0_6 : Bool) (x0_7 : Int) (x0_8 : List AV) (x0_9 : Int) (x0_10 : Int) (x0_11 : Int) (x0_12 : List AV) (x0_13 : Int) (x0_14 : Int) (x0_15 : List AV) (x0_16 : Int) (x0_17 : Int) (x0_18 : List AV) (x1_0 : Int) (x1_1 : Int) (x1_2 : Int) (x1_3 : List AV) (x1_4 : Int) (x1_5 : Int) (x1_6 : Bool) (x1_7 : Int) (x1_8 : List AV) (x1_9 : Int) (x1_10 : Int) (x1_11 : Int) (x1_12 : List AV) (x1_13 : Int) (x1_14 : Int) (x1_15 : List AV) (x1_16 : Int) (x1_17 : Int) (x1_18 : List AV) : den E 8 [(.agg [(.i .i64 x0_0), (.i .i64 x0_1), (.i .i64 x0_2), (.imm 4 x0_3), (.i .i64 x0_4), (.i .i64 x0_5), (.b x0_6), (.i .i64 x0_7), (.imm 6 x0_8), (.i .i64 x0_9), (.i .i64 x0_10), (.i .i64 x0_11), (.imm 10 x0_12), (.i .i64 x0_13), (.i .i64 x0_14), (.imm 5 x0_15), (.i .i64 x0_16), (.i .i64 x0_17), (.imm 1 x0_18)]), (.agg [(.i .i64 x1_0), (.i .i64 x1_1), (.i .i64 x1_2), (.imm 4 x1_3), (.i .i64 x1_4), (.i .i64 x1_5), (.b x1_6), (.i .i64 x1_7), (.imm 6 x1_8), (.i .i64 x1_9), (.i .i64 x1_10), (.i .i64 x1_11), (.imm 10 x1_12), (.i .i64 x1_13), (.i .i64 x1_14), (.imm 5 x1_15), (.i .i64 x1_16), (.i .i64 x1_17), (.imm 1 x1_18)])] [] =
 bSh .b (den E 37 [(.agg [(.i .i64 x0_0), (.i .i64 x0_1), (.i .i64 x0_2), (.imm 4 x0_3), (.i .i64 x0_4), (.i .i64 x0_5), (.b x0_6), (.i .i64 x0_7), (.imm 6 x0_8)]), (.agg [(.i .i64 x1_0), (.i .i64 x1_1), (.i .i64 x1_2), (.imm 4 x1_3), (.i .i64 x1_4), (.i .i64 x1_5), (.b x1_6), (.i .i64 x1_7), (.imm 6 x1_8)])] []) fun a1 =>
 cond (a1.toB == true)
 (bSh .b (den E 38 [(.agg [(.i .i64 x0_9), (.i .i64 x0_10), (.i .i64 x0_11), (.imm 10 x0_12)]), (.agg [(.i .i64 x1_9), (.i .i64 x1_10), (.i .i64 x1_11), (.imm 10 x1_12)])] []) fun a2 =>
 cond (a2.toB == true)
 (cond ((decide (x0_13 = x1_13)) == true)
 (cond ((decide (x0_14 = x1_14)) == true)
 (bSh .b (den E 39 [(.imm 5 x0_15), (.imm 5 x1_15)] []) fun a3 =>
 cond (a3.toB == true)
 (cond ((decide (x0_16 = x1_16)) == true)
 (cond ((decide (x0_17 = x1_17)) == true)
 (bSh .b (den E 40 [(.imm 1 x0_18), (.imm 1 x1_18)] []) fun a4 =>
 some (.b a4.toB))
 (some (.b false)))
 (some (.b false)))
 (some (.b false)))
 (some (.b false)))
 (some (.b false)))
 (some (.b false)))
 (some (.b false)) := (den_eq ..).trans (by kernel_rfl)
/-! 140: slices.Equal[[]string,string] -/
noncomputable def f140_l1 (t0 : List AV) (t1 : List AV) (t12 : Int) (t13 : Int) : Option AV := Lp E fi140 [true, true, false, true, false] (mkT 26 [(0, (.imm 1 t0)), (1, (.imm 1 t1)), (12, (.i .i64 t12)), (13, (.i .i64 t13))]) []
theorem f140_eq (x0 : List AV) (x1 : List AV) : den E 140 [(.imm 1 x0), (.imm 1 x1)] [] =
 cond (!decide (((x0.length : Nat) : Int) = ((x1.length : Nat) : Int)))
 (some (.b false))
 (f140_l1 x0 x1 ((x0.length : Nat) : Int) (0 : Int)) := (den_eq ..).trans (by kernel_rfl)
theorem f140_l1_eq (t0 : List AV) (t1 : List AV) (t12 : Int) (t13 : Int) : f140_l1 t0 t1 t12 t13 =
 cond (decide (t13 < t12))
 (if 0 ≤ t13 ∧ t13 < ((t0.length : Nat) : Int) then
 if okCells false (t0.getD t13.toNat .x) 0 [.s] = true then
 if 0 ≤ t13 ∧ t13 < ((t1.length : Nat) : Int) then
 if okCells false (t1.getD t13.toNat .x) 0 [.s] = true then
 cond (!decide ((((t0.getD t13.toNat .x).cells.getD 0 .x).toS) = (((t1.getD t13.toNat .x).cells.getD 0 .x).toS)))
 (some (.b false))
 (f140_l1 t0 t1 t12 (IntKind.i64.wrap (t13 + (1 : Int))))
 else none
 else none
 else none
 else none)
 (some (.b true)) := (Lp_eq ..).trans (by kernel_rfl)
/-! 139: loop.example/g00905/impl.sameBlock -/
theorem f139_eq (x0_0 : Int) (x0_1 : Int) (x0_2 : Bool) (x0_3 : List AV) (x1_0 : Int) (x1_1 : Int) (x1_2 : Bool) (x1_3 : List AV) : den E 139 [(.agg [(.i .i64 x0_0), (.i .i64 x0_1), (.b x0_2), (.imm 1 x0_3)]), (.agg [(.i .i64 x1_0), (.i .i64 x1_1), (.b x1_2), (.imm 1 x1_3)])] [] =
 cond ((decide (x0_0 = x1_0)) == true)
 (cond ((decide (x0_1 = x1_1)) == true)
 (cond ((decide (x0_2 = x1_2)) == true)
 (bSh .b (den E 140 [(.imm 1 x0_3), (.imm 1 x1_3)] []) fun a1 =>
 some (.b a1.toB))
 (some (.b false)))
 (some (.b false)))
 (some (.b false)) := (den_eq ..).trans (by kernel_rfl)
/-! 138: slices.EqualFunc[[]loop.example/g00905/impl.Block,[]loop.example/g00905/impl.Block,loop.example/g00905/impl.Block,loop.example/g00905/impl.Block] -/
noncomputable def f138q1_l1 (t1 : List AV) (t15 : List AV) (t16 : Int) (t17 : Int) : Option AV := Lp E fi138 [true, true, false, true, false] (mkT 32 [(1, (.imm 4 t1)), (2, (.fn 139 [])), (15, (.imm 4 t15)), (16, (.i .i64 t16)), (17, (.i .i64 t17))]) []
theorem f138q1_eq (x0 : List AV) (x1 : List AV) : den E 138 [(.imm 4 x0), (.imm 4 x1), (.fn 139 [])] [] =
 cond (!decide (((x0.length : Nat) : Int) = ((x1.length : Nat) : Int)))
 (some (.b false))
 (f138q1_l1 x1 x0 ((x0.length : Nat) : Int) (0 : Int)) := (den_eq ..).trans (by kernel_rfl)
theorem f138q1_l1_eq (t1 : List AV) (t15 : List AV) (t16 : Int) (t17 : Int) : f138q1_l1 t1 t15 t16 t17 =
 cond (decide (t17 < t16))
 (if 0 ≤ t17 ∧ t17 < ((t15.length : Nat) : Int) then
 if okCells false (t15.getD t17.toNat .x) 0 [(.i .i64), (.i .i64), .b, (.sl 9 1)] = true then
 if 0 ≤ t17 ∧ t17 < ((t1.length : Nat) : Int) then
 if okCells false (t1.getD t17.toNat .x) 0 [(.i .i64), (.i .i64), .b, (.sl 9 1)] = true then
 bSh .b (den E 139 [(.agg [(.i .i64 (((t15.getD t17.toNat .x).cells.getD 0 .x).toI)), (.i .i64 (((t15.getD t17.toNat .x).cells.getD 1 .x).toI)), (.b (((t15.getD t17.toNat .x).cells.getD 2 .x).toB)), (.imm 1 (((t15.getD t17.toNat .x).cells.getD 3 .x).toL))]), (.agg [(.i .i64 (((t1.getD t17.toNat .x).cells.getD 0 .x).toI)), (.i .i64 (((t1.getD t17.toNat .x).cells.getD 1 .x).toI)), (.b (((t1.getD t17.toNat .x).cells.getD 2 .x).toB)), (.imm 1 (((t1.getD t17.toNat .x).cells.getD 3 .x).toL))])] []) fun a1 =>
 cond (!a1.toB)
 (some (.b false))
 (f138q1_l1 t1 t15 t16 (IntKind.i64.wrap (t17 + (1 : Int))))
 else none
 else none
 else none
 else none)
 (some (.b true)) := (Lp_eq ..).trans (by kernel_rfl)
/-! 94: loop.example/g00905/impl.SameFlash -/
theorem f94_eq (x0_0 : Int) (x0_1 : Int) (x0_2 : Int) (x0_3 : List AV) (x0_4 : Int) (x0_5 : Int) (x0_6 : Bool) (x0_7 : Int) (x1_0 : Int) (x1_1 : Int) (x1_2 : Int) (x1_3 : List AV) (x1_4 : Int) (x1_5 : Int) (x1_6 : Bool) (x1_7 : Int) : den E 94 [(.agg [(.i .i64 x0_0), (.i .i64 x0_1), (.i .i64 x0_2), (.imm 4 x0_3), (.i .i64 x0_4), (.i .i64 x0_5), (.b x0_6), (.i .i64 x0_7)]), (.agg [(.i .i64 x1_0), (.i .i64 x1_1), (.i .i64 x1_2), (.imm 4 x1_3), (.i .i64 x1_4), (.i .i64 x1_5), (.b x1_6), (.i .i64 x1_7)])] [] =
 cond ((decide (x0_0 = x1_0) && (decide (x0_1 = x1_1) && (decide (x0_2 = x1_2) && true))) == true)
 (bSh .b (den E 138 [(.imm 4 x0_3), (.imm 4 x1_3), (.fn 139 [])] []) fun a1 =>
 cond (a1.toB == true)
 (cond ((decide (x0_4 = x1_4)) == true)
 (cond ((decide (x0_5 = x1_5)) == true)
 (cond ((decide (x0_6 = x1_6)) == true)
 (some (.b (decide (x0_7 = x1_7))))
 (some (.b false)))
 (some (.b false)))
 (some (.b false)))
 (some (.b false)))
 (some (.b false)) := (den_eq ..).trans (by kernel_rfl)
/-! 48: slices.Equal[[]int64,int64] -/
noncomputable def f48_l1 (t0 : List AV) (t1 : List AV) (t12 : Int) (t13 : Int) : Option AV := Lp E fi48 [true, true, false, true, false] (mkT 26 [(0, (.imm 1 t0)), (1, (.imm 1 t1)), (12, (.i .i64 t12)), (13, (.i .i64 t13))]) []
theorem f48_eq (x0 : List AV) (x1 : List AV) : den E 48 [(.imm 1 x0), (.imm 1 x1)] [] =
 cond (!decide (((x0.length : Nat) : Int) = ((x1.length : Nat) : Int)))
 (some (.b false))
 (f48_l1 x0 x1 ((x0.length : Nat) : Int) (0 : Int)) := (den_eq ..).trans (by kernel_rfl)
theorem f48_l1_eq (t0 : List AV) (t1 : List AV) (t12 : Int) (t13 : Int) : f48_l1 t0 t1 t12 t13 =
 cond (decide (t13 < t12))
 (if 0 ≤ t13 ∧ t13 < ((t0.length : Nat) : Int) then
 if okCells false (t0.getD t13.toNat .x) 0 [(.i .i64)] = true then
 if 0 ≤ t13 ∧ t13 < ((t1.length : Nat) : Int) then
 if okCells false (t1.getD t13.toNat .x) 0 [(.i .i64)] = true then
 cond (!decide ((((t0.getD t13.toNat .x).cells.getD 0 .x).toI) = (((t1.getD t13.toNat .x).cells.getD 0 .x).toI)))
 (some (.b false))
 (f48_l1 t0 t1 t12 (IntKind.i64.wrap (t13 + (1 : Int))))
 else none
 else none
 else none
 else none)
 (some (.b true)) := (Lp_eq ..).trans (by kernel_rfl)
/-! 96: loop.example/g00905/impl.sameZone -/
theorem f96_eq (x0_0 : Int) (x0_1 : List AV) (x0_2 : Int) (x0_3 : Int) (x0_4 : List AV) (x0_5 : List AV) (x1_0 : Int) (x1_1 : List AV) (x1_2 : Int) (x1_3 : Int) (x1_4 : List AV) (x1_5 : List AV) : den E 96 [(.agg [(.i .i64 x0_0), (.imm 1 x0_1), (.i .i64 x0_2), (.i .i64 x0_3), (.imm 1 x0_4), (.imm 1 x0_5)]), (.agg [(.i .i64 x1_0), (.imm 1 x1_1), (.i .i64 x1_2), (.i .i64 x1_3), (.imm 1 x1_4), (.imm 1 x1_5)])] [] =
 cond ((decide (x0_0 = x1_0)) == true)
 (bSh .b (den E 48 [(.imm 1 x0_1), (.imm 1 x1_1)] []) fun a1 =>
 cond (a1.toB == true)
 (cond ((decide (x0_2 = x1_2)) == true)
 (cond ((decide (x0_3 = x1_3)) == true)
 (bSh .b (den E 48 [(.imm 1 x0_4), (.imm 1 x1_4)] []) fun a2 =>
 cond (a2.toB == true)
 (bSh .b (den E 140 [(.imm 1 x0_5), (.imm 1 x1_5)] []) fun a3 =>
 some (.b a3.toB))
 (some (.b false)))
 (some (.b false)))
 (some (.b false)))
 (some (.b false)))
 (some (.b false)) := (den_eq ..).trans (by kernel_rfl)
/-! 95: slices.EqualFunc[[]loop.example/g00905/impl.Zone,[]loop.example/g00905/impl.Zone,loop.example/g00905/impl.Zone,loop.example/g00905/impl.Zone] -/
noncomputable def f95q1_l1 (t1 : List AV) (t15 : List AV) (t16 : Int) (t17 : Int) : Option AV := Lp E fi95 [true, true, false, true, false] (mkT 32 [(1, (.imm 6 t1)), (2, (.fn 96 [])), (15, (.imm 6 t15)), (16, (.i .i64 t16)), (17, (.i .i64 t17))]) []
theorem f95q1_eq (x0 : List AV) (x1 : List AV) : den E 95 [(.imm 6 x0), (.imm 6 x1), (.fn 96 [])] [] =
 cond (!decide (((x0.length : Nat) : Int) = ((x1.length : Nat) : Int)))
 (some (.b false))
 (f95q1_l1 x1 x0 ((x0.length : Nat) : Int) (0 : Int)) := (den_eq ..).trans (by kernel_rfl)
theorem f95q1_l1_eq (t1 : List AV) (t15 : List AV) (t16 : Int) (t17 : Int) : f95q1_l1 t1 t15 t16 t17 =
 cond (decide (t17 < t16))
 (if 0 ≤ t17 ∧ t17 < ((t15.length : Nat) : Int) then
 if okCells false (t15.getD t17.toNat .x) 0 [(.i .i64), (.sl 2 1), (.i .i64), (.i .i64), (.sl 2 1), (.sl 9 1)] = true then
 if 0 ≤ t17 ∧ t17 < ((t1.length : Nat) : Int) then
 if okCells false (t1.getD t17.toNat .x) 0 [(.i .i64), (.sl 2 1), (.i .i64), (.i .i64), (.sl 2 1), (.sl 9 1)] = true then
 bSh .b (den E 96 [(.agg [(.i .i64 (((t15.getD t17.toNat .x).cells.getD 0 .x).toI)), (.imm 1 (((t15.getD t17.toNat .x).cells.getD 1 .x).toL)), (.i .i64 (((t15.getD t17.toNat .x).cells.getD 2 .x).toI)), (.i .i64 (((t15.getD t17.toNat .x).cells.getD 3 .x).toI)), (.imm 1 (((t15.getD t17.toNat .x).cells.getD 4 .x).toL)), (.imm 1 (((t15.getD t17.toNat .x).cells.getD 5 .x).toL))]), (.agg [(.i .i64 (((t1.getD t17.toNat .x).cells.getD 0 .x).toI)), (.imm 1 (((t1.getD t17.toNat .x).cells.getD 1 .x).toL)), (.i .i64 (((t1.getD t17.toNat .x).cells.getD 2 .x).toI)), (.i .i64 (((t1.getD t17.toNat .x).cells.getD 3 .x).toI)), (.imm 1 (((t1.getD t17.toNat .x).cells.getD 4 .x).toL)), (.imm 1 (((t1.getD t17.toNat .x).cells.getD 5 .x).toL))])] []) fun a1 =>
 cond (!a1.toB)
 (some (.b false))
 (f95q1_l1 t1 t15 t16 (IntKind.i64.wrap (t17 + (1 : Int))))
 else none
 else none
 else none
 else none)
 (some (.b true)) := (Lp_eq ..).trans (by kernel_rfl)
/-! 45: loop.example/g00905/impl.SameDevice -/
theorem f45_eq (x0_0 : Int) (x0_1 : Int) (x0_2 : Int) (x0_3 : List AV) (x0_4 : Int) (x0_5 : Int) (x0_6 : Bool) (x0_7 : Int) (x0_8 : List AV) (x1_0 : Int) (x1_1 : Int) (x1_2 : Int) (x1_3 : List AV) (x1_4 : Int) (x1_5 : Int) (x1_6 : Bool) (x1_7 : Int) (x1_8 : List AV) : den E 45 [(.agg [(.i .i64 x0_0), (.i .i64 x0_1), (.i .i64 x0_2), (.imm 4 x0_3), (.i .i64 x0_4), (.i .i64 x0_5), (.b x0_6), (.i .i64 x0_7), (.imm 6 x0_8)]), (.agg [(.i .i64 x1_0), (.i .i64 x1_1), (.i .i64 x1_2), (.imm 4 x1_3), (.i .i64 x1_4), (.i .i64 x1_5), (.b x1_6), (.i .i64 x1_7), (.imm 6 x1_8)])] [] =
 bSh .b (den E 94 [(.agg [(.i .i64 x0_0), (.i .i64 x0_1), (.i .i64 x0_2), (.imm 4 x0_3), (.i .i64 x0_4), (.i .i64 x0_5), (.b x0_6), (.i .i64 x0_7)]), (.agg [(.i .i64 x1_0), (.i .i64 x1_1), (.i .i64 x1_2), (.imm 4 x1_3), (.i .i64 x1_4), (.i .i64 x1_5), (.b x1_6), (.i .i64 x1_7)])] []) fun a1 =>
 cond (a1.toB == true)
 (bSh .b (den E 95 [(.imm 6 x0_8), (.imm 6 x1_8), (.fn 96 [])] []) fun a2 =>
 some (.b a2.toB))
 (some (.b false)) := (den_eq ..).trans (by kernel_rfl)
/-! 97: slices.Equal[[]loop.example/g00905/impl.TableRef,loop.example/g00905/impl.TableRef] -/
noncomputable def f97_l1 (t0 : List AV) (t1 : List AV) (t12 : Int) (t13 : Int) : Option AV := Lp E fi97 [true, true, false, true, false] (mkT 26 [(0, (.imm 10 t0)), (1, (.imm 10 t1)), (12, (.i .i64 t12)), (13, (.i .i64 t13))]) []
theorem f97_eq (x0 : List AV) (x1 : List AV) : den E 97 [(.imm 10 x0), (.imm 10 x1)] [] =
 cond (!decide (((x0.length : Nat) : Int) = ((x1.length : Nat) : Int)))
 (some (.b false))
 (f97_l1 x0 x1 ((x0.length : Nat) : Int) (0 : Int)) := (den_eq ..).trans (by kernel_rfl)
theorem f97_l1_eq (t0 : List AV) (t1 : List AV) (t12 : Int) (t13 : Int) : f97_l1 t0 t1 t12 t13 =
 cond (decide (t13 < t12))
 (if 0 ≤ t13 ∧ t13 < ((t0.length : Nat) : Int) then
 if okCells false (t0.getD t13.toNat .x) 0 [(.i .i64), (.i .i64), (.i .i64), (.i .i64), (.i .i64), .s, .s, (.i .i64), (.i .i64), (.i .i64)] = true then
 if 0 ≤ t13 ∧ t13 < ((t1.length : Nat) : Int) then
 if okCells false (t1.getD t13.toNat .x) 0 [(.i .i64), (.i .i64), (.i .i64), (.i .i64), (.i .i64), .s, .s, (.i .i64), (.i .i64), (.i .i64)] = true then
 cond (!(decide ((((t0.getD t13.toNat .x).cells.getD 0 .x).toI) = (((t1.getD t13.toNat .x).cells.getD 0 .x).toI)) && (decide ((((t0.getD t13.toNat .x).cells.getD 1 .x).toI) = (((t1.getD t13.toNat .x).cells.getD 1 .x).toI)) && (decide ((((t0.getD t13.toNat .x).cells.getD 2 .x).toI) = (((t1.getD t13.toNat .x).cells.getD 2 .x).toI)) && (decide ((((t0.getD t13.toNat .x).cells.getD 3 .x).toI) = (((t1.getD t13.toNat .x).cells.getD 3 .x).toI)) && (decide ((((t0.getD t13.toNat .x).cells.getD 4 .x).toI) = (((t1.getD t13.toNat .x).cells.getD 4 .x).toI)) && (decide ((((t0.getD t13.toNat .x).cells.getD 5 .x).toS) = (((t1.getD t13.toNat .x).cells.getD 5 .x).toS)) && (decide ((((t0.getD t13.toNat .x).cells.getD 6 .x).toS) = (((t1.getD t13.toNat .x).cells.getD 6 .x).toS)) && (decide ((((t0.getD t13.toNat .x).cells.getD 7 .x).toI) = (((t1.getD t13.toNat .x).cells.getD 7 .x).toI)) && (decide ((((t0.getD t13.toNat .x).cells.getD 8 .x).toI) = (((t1.getD t13.toNat .x).cells.getD 8 .x).toI)) && (decide ((((t0.getD t13.toNat .x).cells.getD 9 .x).toI) = (((t1.getD t13.toNat .x).cells.getD 9 .x).toI)) && true)))))))))))
 (some (.b false))
 (f97_l1 t0 t1 t12 (IntKind.i64.wrap (t13 + (1 : Int))))
 else none
 else none
 else none
 else none)
 (some (.b true)) := (Lp_eq ..).trans (by kernel_rfl)
/-! 46: loop.example/g00905/impl.SameVersion -/
theorem f46_eq (x0_0 : Int) (x0_1 : Int) (x0_2 : Int) (x0_3 : List AV) (x1_0 : Int) (x1_1 : Int) (x1_2 : Int) (x1_3 : List AV) : den E 46 [(.agg [(.i .i64 x0_0), (.i .i64 x0_1), (.i .i64 x0_2), (.imm 10 x0_3)]), (.agg [(.i .i64 x1_0), (.i .i64 x1_1), (.i .i64 x1_2), (.imm 10 x1_3)])] [] =
 cond ((decide (x0_0 = x1_0)) == true)
 (cond ((decide (x0_1 = x1_1)) == true)
 (cond ((decide (x0_2 = x1_2)) == true)
 (bSh .b (den E 97 [(.imm 10 x0_3), (.imm 10 x1_3)] []) fun a1 =>
 some (.b a1.toB))
 (some (.b false)))
 (some (.b false)))
 (some (.b false)) := (den_eq ..).trans (by kernel_rfl)
/-! 47: slices.Equal[[]loop.example/g00905/impl.Record,loop.example/g00905/impl.Record] -/
noncomputable def f47_l1 (t0 : List AV) (t1 : List AV) (t12 : Int) (t13 : Int) : Option AV := Lp E fi47 [true, true, false, true, false] (mkT 26 [(0, (.imm 5 t0)), (1, (.imm 5 t1)), (12, (.i .i64 t12)), (13, (.i .i64 t13))]) []
theorem f47_eq (x0 : List AV) (x1 : List AV) : den E 47 [(.imm 5 x0), (.imm 5 x1)] [] =
 cond (!decide (((x0.length : Nat) : Int) = ((x1.length : Nat) : Int)))
 (some (.b false))
 (f47_l1 x0 x1 ((x0.length : Nat) : Int) (0 : Int)) := (den_eq ..).trans (by kernel_rfl)
theorem f47_l1_eq (t0 : List AV) (t1 : List AV) (t12 : Int) (t13 : Int) : f47_l1 t0 t1 t12 t13 =
 cond (decide (t13 < t12))
 (if 0 ≤ t13 ∧ t13 < ((t0.length : Nat) : Int) then
 if okCells false (t0.getD t13.toNat .x) 0 [.s, (.i .i64), (.i .i64), .s, .s] = true then
 if 0 ≤ t13 ∧ t13 < ((t1.length : Nat) : Int) then
 if okCells false (t1.getD t13.toNat .x) 0 [.s, (.i .i64), (.i .i64), .s, .s] = true then
 cond (!(decide ((((t0.getD t13.toNat .x).cells.getD 0 .x).toS) = (((t1.getD t13.toNat .x).cells.getD 0 .x).toS)) && (decide ((((t0.getD t13.toNat .x).cells.getD 1 .x).toI) = (((t1.getD t13.toNat .x).cells.getD 1 .x).toI)) && (decide ((((t0.getD t13.toNat .x).cells.getD 2 .x).toI) = (((t1.getD t13.toNat .x).cells.getD 2 .x).toI)) && (decide ((((t0.getD t13.toNat .x).cells.getD 3 .x).toS) = (((t1.getD t13.toNat .x).cells.getD 3 .x).toS)) && (decide ((((t0.getD t13.toNat .x).cells.getD 4 .x).toS) = (((t1.getD t13.toNat .x).cells.getD 4 .x).toS)) && true))))))
 (some (.b false))
 (f47_l1 t0 t1 t12 (IntKind.i64.wrap (t13 + (1 : Int))))
 else none
 else none
 else none
 else none)
 (some (.b true)) := (Lp_eq ..).trans (by kernel_rfl)
/-! 10: loop.example/g00905/impl.SameDB -/
theorem f10_eq (x0_0 : Int) (x0_1 : Int) (x0_2 : Int) (x0_3 : List AV) (x0_4 : Int) (x0_5 : Int) (x0_6 : Bool) (x0_7 : Int) (x0_8 : List AV) (x0_9 : Int) (x0_10 : Int) (x0_11 : Int) (x0_12 : List AV) (x0_13 : Int) (x0_14 : Int) (x0_15 : List AV) (x0_16 : Int) (x0_17 : Int) (x0_18 : List AV) (x1_0 : Int) (x1_1 : Int) (x1_2 : Int) (x1_3 : List AV) (x1_4 : Int) (x1_5 : Int) (x1_6 : Bool) (x1_7 : Int) (x1_8 : List AV) (x1_9 : Int) (x1_10 : Int) (x1_11 : Int) (x1_12 : List AV) (x1_13 : Int) (x1_14 : Int) (x1_15 : List AV) (x1_16 : Int) (x1_17 : Int) (x1_18 : List AV) : den E 10 [(.agg [(.i .i64 x0_0), (.i .i64 x0_1), (.i .i64 x0_2), (.imm 4 x0_3), (.i .i64 x0_4), (.i .i64 x0_5), (.b x0_6), (.i .i64 x0_7), (.imm 6 x0_8), (.i .i64 x0_9), (.i .i64 x0_10), (.i .i64 x0_11), (.imm 10 x0_12), (.i .i64 x0_13), (.i .i64 x0_14), (.imm 5 x0_15), (.i .i64 x0_16), (.i .i64 x0_17), (.imm 1 x0_18)]), (.agg [(.i .i64 x1_0), (.i .i64 x1_1), (.i .i64 x1_2), (.imm 4 x1_3), (.i .i64 x1_4), (.i .i64 x1_5), (.b x1_6), (.i .i64 x1_7), (.imm 6 x1_8), (.i .i64 x1_9), (.i .i64 x1_10), (.i .i64 x1_11), (.imm 10 x1_12), (.i .i64 x1_13), (.i .i64 x1_14), (.imm 5 x1_15), (.i .i64 x1_16), (.i .i64 x1_17), (.imm 1 x1_18)])] [] =
 bSh .b (den E 45 [(.agg [(.i .i64 x0_0), (.i .i64 x0_1), (.i .i64 x0_2), (.imm 4 x0_3), (.i .i64 x0_4), (.i .i64 x0_5), (.b x0_6), (.i .i64 x0_7), (.imm 6 x0_8)]), (.agg [(.i .i64 x1_0), (.i .i64 x1_1), (.i .i64 x1_2), (.imm 4 x1_3), (.i .i64 x1_4), (.i .i64 x1_5), (.b x1_6), (.i .i64 x1_7), (.imm 6 x1_8)])] []) fun a1 =>
 cond (a1.toB == true)
 (bSh .b (den E 46 [(.agg [(.i .i64 x0_9), (.i .i64 x0_10), (.i .i64 x0_11), (.imm 10 x0_12)]), (.agg [(.i .i64 x1_9), (.i .i64 x1_10), (.i .i64 x1_11), (.imm 10 x1_12)])] []) fun a2 =>
 cond (a2.toB == true)
 (cond ((decide (x0_13 = x1_13)) == true)
 (cond ((decide (x0_14 = x1_14)) == true)
 (bSh .b (den E 47 [(.imm 5 x0_15), (.imm 5 x1_15)] []) fun a3 =>
 cond (a3.toB == true)
 (cond ((decide (x0_16 = x1_16)) == true)
 (cond ((decide (x0_17 = x1_17)) == true)
 (bSh .b (den E 48 [(.imm 1 x0_18), (.imm 1 x1_18)] []) fun a4 =>
 some (.b a4.toB))
 (some (.b false)))
 (some (.b false)))
 (some (.b false)))
 (some (.b false)))
 (some (.b false)))
 (some (.b false)))
 (some (.b false)) := (den_eq ..).trans (by kernel_rfl)
/-! 82: loop.example/g00905/laws.eqGeometry -/
theorem f82_eq (x0_0 : Int) (x0_1 : Int) (x0_2 : Int) (x1_0 : Int) (x1_1 : Int) (x1_2 : Int) : den E 82 [(.agg [(.i .i64 x0_0), (.i .i64 x0_1), (.i .i64 x0_2)]), (.agg [(.i .i64 x1_0), (.i .i64 x1_1), (.i .i64 x1_2)])] [] =
 cond (!decide (x0_0 = x1_0))
 (some (.b false))
 (cond (!decide (x0_1 = x1_1))
 (some (.b false))
 (cond (!decide (x0_2 = x1_2))
 (some (.b false))
 (some (.b true)))) := (den_eq ..).trans (by kernel_rfl)
/-! 16: loop.example/g00905/laws.eqStringS -/
noncomputable def f16_l1 (t0 : List AV) (t1 : List AV) (t5 : Int) : Option AV := Lp E fi16 [true, true, false, true, false] (mkT 26 [(0, (.imm 1 t0)), (1, (.imm 1 t1)), (5, (.i .i64 t5))]) []
theorem f16_eq (x0 : List AV) (x1 : List AV) : den E 16 [(.imm 1 x0), (.imm 1 x1)] [] =
 cond (!decide (((x0.length : Nat) : Int) = ((x1.length : Nat) : Int)))
 (some (.b false))
 (f16_l1 x0 x1 (0 : Int)) := (den_eq ..).trans (by kernel_rfl)
theorem f16_l1_eq (t0 : List AV) (t1 : List AV) (t5 : Int) : f16_l1 t0 t1 t5 =
 cond (decide (t5 < ((t0.length : Nat) : Int)))
 (if 0 ≤ t5 ∧ t5 < ((t0.length : Nat) : Int) then
 if okCells false (t0.getD t5.toNat .x) 0 [.s] = true then
 if 0 ≤ t5 ∧ t5 < ((t1.length : Nat) : Int) then
 if okCells false (t1.getD t5.toNat .x) 0 [.s] = true then
 cond (!decide ((((t0.getD t5.toNat .x).cells.getD 0 .x).toS) = (((t1.getD t5.toNat .x).cells.getD 0 .x).toS)))
 (some (.b false))
 (f16_l1 t0 t1 (IntKind.i64.wrap (t5 + (1 : Int))))
 else none
 else none
 else none
 else none)
 (some (.b true)) := (Lp_eq ..).trans (by kernel_rfl)
/-! 172: loop.example/g00905/laws.eqBlock -/
theorem f172_eq (x0_0 : Int) (x0_1 : Int) (x0_2 : Bool) (x0_3 : List AV) (x1_0 : Int) (x1_1 : Int) (x1_2 : Bool) (x1_3 : List AV) : den E 172 [(.agg [(.i .i64 x0_0), (.i .i64 x0_1), (.b x0_2), (.imm 1 x0_3)]), (.agg [(.i .i64 x1_0), (.i .i64 x1_1), (.b x1_2), (.imm 1 x1_3)])] [] =
 cond (!decide (x0_0 = x1_0))
 (some (.b false))
 (cond (!decide (x0_1 = x1_1))
 (some (.b false))
 (cond (!decide (x0_2 = x1_2))
 (some (.b false))
 (bSh .b (den E 16 [(.imm 1 x0_3), (.imm 1 x1_3)] []) fun a1 =>
 cond (!a1.toB)
 (some (.b false))
 (some (.b true))))) := (den_eq ..).trans (by kernel_rfl)
/-! 141: loop.example/g00905/laws.eqBlockS -/
noncomputable def f141_l1 (t0 : List AV) (t1 : List AV) (t5 : Int) : Option AV := Lp E fi141 [true, true, false, true, false] (mkT 27 [(0, (.imm 4 t0)), (1, (.imm 4 t1)), (5, (.i .i64 t5))]) []
theorem f141_eq (x0 : List AV) (x1 : List AV) : den E 141 [(.imm 4 x0), (.imm 4 x1)] [] =
 cond (!decide (((x0.length : Nat) : Int) = ((x1.length : Nat) : Int)))
 (some (.b false))
 (f141_l1 x0 x1 (0 : Int)) := (den_eq ..).trans (by kernel_rfl)
theorem f141_l1_eq (t0 : List AV) (t1 : List AV) (t5 : Int) : f141_l1 t0 t1 t5 =
 cond (decide (t5 < ((t0.length : Nat) : Int)))
 (if 0 ≤ t5 ∧ t5 < ((t0.length : Nat) : Int) then
 if okCells false (t0.getD t5.toNat .x) 0 [(.i .i64), (.i .i64), .b, (.sl 9 1)] = true then
 if 0 ≤ t5 ∧ t5 < ((t1.length : Nat) : Int) then
 if okCells false (t1.getD t5.toNat .x) 0 [(.i .i64), (.i .i64), .b, (.sl 9 1)] = true then
 bSh .b (den E 172 [(.agg [(.i .i64 (((t0.getD t5.toNat .x).cells.getD 0 .x).toI)), (.i .i64 (((t0.getD t5.toNat .x).cells.getD 1 .x).toI)), (.b (((t0.getD t5.toNat .x).cells.getD 2 .x).toB)), (.imm 1 (((t0.getD t5.toNat .x).cells.getD 3 .x).toL))]), (.agg [(.i .i64 (((t1.getD t5.toNat .x).cells.getD 0 .x).toI)), (.i .i64 (((t1.getD t5.toNat .x).cells.getD 1 .x).toI)), (.b (((t1.getD t5.toNat .x).cells.getD 2 .x).toB)), (.imm 1 (((t1.getD t5.toNat .x).cells.getD 3 .x).toL))])] []) fun a1 =>
 cond (!a1.toB)
 (some (.b false))
 (f141_l1 t0 t1 (IntKind.i64.wrap (t5 + (1 : Int))))
 else none
 else none
 else none
 else none)
 (some (.b true)) := (Lp_eq ..).trans (by kernel_rfl)
/-! 98: loop.example/g00905/laws.eqFlash -/
theorem f98_eq (x0_0 : Int) (x0_1 : Int) (x0_2 : Int) (x0_3 : List AV) (x0_4 : Int) (x0_5 : Int) (x0_6 : Bool) (x0_7 : Int) (x1_0 : Int) (x1_1 : Int) (x1_2 : Int) (x1_3 : List AV) (x1_4 : Int) (x1_5 : Int) (x1_6 : Bool) (x1_7 : Int) : den E 98 [(.agg [(.i .i64 x0_0), (.i .i64 x0_1), (.i .i64 x0_2), (.imm 4 x0_3), (.i .i64 x0_4), (.i .i64 x0_5), (.b x0_6), (.i .i64 x0_7)]), (.agg [(.i .i64 x1_0), (.i .i64 x1_1), (.i .i64 x1_2), (.imm 4 x1_3), (.i .i64 x1_4), (.i .i64 x1_5), (.b x1_6), (.i .i64 x1_7)])] [] =
 bSh .b (den E 82 [(.agg [(.i .i64 x0_0), (.i .i64 x0_1), (.i .i64 x0_2)]), (.agg [(.i .i64 x1_0), (.i .i64 x1_1), (.i .i64 x1_2)])] []) fun a1 =>
 cond (!a1.toB)
 (some (.b false))
 (bSh .b (den E 141 [(.imm 4 x0_3), (.imm 4 x1_3)] []) fun a2 =>
 cond (!a2.toB)
 (some (.b false))
 (cond (!decide (x0_4 = x1_4))
 (some (.b false))
 (cond (!decide (x0_5 = x1_5))
 (some (.b false))
 (cond (!decide (x0_6 = x1_6))
 (some (.b false))
 (cond (!decide (x0_7 = x1_7))
 (some (.b false))
 (some (.b true))))))) := (den_eq ..).trans (by kernel_rfl)
/-! 52: loop.example/g00905/laws.eqInt64S -/
noncomputable def f52_l1 (t0 : List AV) (t1 : List AV) (t5 : Int) : Option AV := Lp E fi52 [true, true, false, true, false] (mkT 26 [(0, (.imm 1 t0)), (1, (.imm 1 t1)), (5, (.i .i64 t5))]) []
theorem f52_eq (x0 : List AV) (x1 : List AV) : den E 52 [(.imm 1 x0), (.imm 1 x1)] [] =
 cond (!decide (((x0.length : Nat) : Int) = ((x1.length : Nat) : Int)))
 (some (.b false))
 (f52_l1 x0 x1 (0 : Int)) := (den_eq ..).trans (by kernel_rfl)
theorem f52_l1_eq (t0 : List AV) (t1 : List AV) (t5 : Int) : f52_l1 t0 t1 t5 =
 cond (decide (t5 < ((t0.length : Nat) : Int)))
 (if 0 ≤ t5 ∧ t5 < ((t0.length : Nat) : Int) then
 if okCells false (t0.getD t5.toNat .x) 0 [(.i .i64)] = true then
 if 0 ≤ t5 ∧ t5 < ((t1.length : Nat) : Int) then
 if okCells false (t1.getD t5.toNat .x) 0 [(.i .i64)] = true then
 cond (!decide ((((t0.getD t5.toNat .x).cells.getD 0 .x).toI) = (((t1.getD t5.toNat .x).cells.getD 0 .x).toI)))
 (some (.b false))
 (f52_l1 t0 t1 (IntKind.i64.wrap (t5 + (1 : Int))))
 else none
 else none
 else none
 else none)
 (some (.b true)) := (Lp_eq ..).trans (by kernel_rfl)
/-! 142: loop.example/g00905/laws.eqZone -/
theorem f142_eq (x0_0 : Int) (x0_1 : List AV) (x0_2 : Int) (x0_3 : Int) (x0_4 : List AV) (x0_5 : List AV) (x1_0 : Int) (x1_1 : List AV) (x1_2 : Int) (x1_3 : Int) (x1_4 : List AV) (x1_5 : List AV) : den E 142 [(.agg [(.i .i64 x0_0), (.imm 1 x0_1), (.i .i64 x0_2), (.i .i64 x0_3), (.imm 1 x0_4), (.imm 1 x0_5)]), (.agg [(.i .i64 x1_0), (.imm 1 x1_1), (.i .i64 x1_2), (.i .i64 x1_3), (.imm 1 x1_4), (.imm 1 x1_5)])] [] =
 cond (!decide (x0_0 = x1_0))
 (some (.b false))
 (bSh .b (den E 52 [(.imm 1 x0_1), (.imm 1 x1_1)] []) fun a1 =>
 cond (!a1.toB)
 (some (.b false))
 (cond (!decide (x0_2 = x1_2))
 (some (.b false))
 (cond (!decide (x0_3 = x1_3))
 (some (.b false))
 (bSh .b (den E 52 [(.imm 1 x0_4), (.imm 1 x1_4)] []) fun a2 =>
 cond (!a2.toB)
 (some (.b false))
 (bSh .b (den E 16 [(.imm 1 x0_5), (.imm 1 x1_5)] []) fun a3 =>
 cond (!a3.toB)
 (some (.b false))
 (some (.b true))))))) := (den_eq ..).trans (by kernel_rfl)
/-! 99: loop.example/g00905/laws.eqZoneS -/
noncomputable def f99_l1 (t0 : List AV) (t1 : List AV) (t5 : Int) : Option AV := Lp E fi99 [true, true, false, true, false] (mkT 27 [(0, (.imm 6 t0)), (1, (.imm 6 t1)), (5, (.i .i64 t5))]) []
theorem f99_eq (x0 : List AV) (x1 : List AV) : den E 99 [(.imm 6 x0), (.imm 6 x1)] [] =
 cond (!decide (((x0.length : Nat) : Int) = ((x1.length : Nat) : Int)))
 (some (.b false))
 (f99_l1 x0 x1 (0 : Int)) := (den_eq ..).trans (by kernel_rfl)
theorem f99_l1_eq (t0 : List AV) (t1 : List AV) (t5 : Int) : f99_l1 t0 t1 t5 =
 cond (decide (t5 < ((t0.length : Nat) : Int)))
 (if 0 ≤ t5 ∧ t5 < ((t0.length : Nat) : Int) then
 if okCells false (t0.getD t5.toNat .x) 0 [(.i .i64), (.sl 2 1), (.i .i64), (.i .i64), (.sl 2 1), (.sl 9 1)] = true then
 if 0 ≤ t5 ∧ t5 < ((t1.length : Nat) : Int) then
 if okCells false (t1.getD t5.toNat .x) 0 [(.i .i64), (.sl 2 1), (.i .i64), (.i .i64), (.sl 2 1), (.sl 9 1)] = true then
 bSh .b (den E 142 [(.agg [(.i .i64 (((t0.getD t5.toNat .x).cells.getD 0 .x).toI)), (.imm 1 (((t0.getD t5.toNat .x).cells.getD 1 .x).toL)), (.i .i64 (((t0.getD t5.toNat .x).cells.getD 2 .x).toI)), (.i .i64 (((t0.getD t5.toNat .x).cells.getD 3 .x).toI)), (.imm 1 (((t0.getD t5.toNat .x).cells.getD 4 .x).toL)), (.imm 1 (((t0.getD t5.toNat .x).cells.getD 5 .x).toL))]), (.agg [(.i .i64 (((t1.getD t5.toNat .x).cells.getD 0 .x).toI)), (.imm 1 (((t1.getD t5.toNat .x).cells.getD 1 .x).toL)), (.i .i64 (((t1.getD t5.toNat .x).cells.getD 2 .x).toI)), (.i .i64 (((t1.getD t5.toNat .x).cells.getD 3 .x).toI)), (.imm 1 (((t1.getD t5.toNat .x).cells.getD 4 .x).toL)), (.imm 1 (((t1.getD t5.toNat .x).cells.getD 5 .x).toL))])] []) fun a1 =>
 cond (!a1.toB)
 (some (.b false))
 (f99_l1 t0 t1 (IntKind.i64.wrap (t5 + (1 : Int))))
 else none
 else none
 else none
 else none)
 (some (.b true)) := (Lp_eq ..).trans (by kernel_rfl)
/-! 49: loop.example/g00905/laws.eqDevice -/
theorem f49_eq (x0_0 : Int) (x0_1 : Int) (x0_2 : Int) (x0_3 : List AV) (x0_4 : Int) (x0_5 : Int) (x0_6 : Bool) (x0_7 : Int) (x0_8 : List AV) (x1_0 : Int) (x1_1 : Int) (x1_2 : Int) (x1_3 : List AV) (x1_4 : Int) (x1_5 : Int) (x1_6 : Bool) (x1_7 : Int) (x1_8 : List AV) : den E 49 [(.agg [(.i .i64 x0_0), (.i .i64 x0_1), (.i .i64 x0_2), (.imm 4 x0_3), (.i .i64 x0_4), (.i .i64 x0_5), (.b x0_6), (.i .i64 x0_7), (.imm 6 x0_8)]), (.agg [(.i .i64 x1_0), (.i .i64 x1_1), (.i .i64 x1_2), (.imm 4 x1_3), (.i .i64 x1_4), (.i .i64 x1_5), (.b x1_6), (.i .i64 x1_7), (.imm 6 x1_8)])] [] =
 bSh .b (den E 98 [(.agg [(.i .i64 x0_0), (.i .i64 x0_1), (.i .i64 x0_2), (.imm 4 x0_3), (.i .i64 x0_4), (.i .i64 x0_5), (.b x0_6), (.i .i64 x0_7)]), (.agg [(.i .i64 x1_0), (.i .i64 x1_1), (.i .i64 x1_2), (.imm 4 x1_3), (.i .i64 x1_4), (.i .i64 x1_5), (.b x1_6), (.i .i64 x1_7)])] []) fun a1 =>
 cond (!a1.toB)
 (some (.b false))
 (bSh .b (den E 99 [(.imm 6 x0_8), (.imm 6 x1_8)] []) fun a2 =>
 cond (!a2.toB)
 (some (.b false))
 (some (.b true))) := (den_eq ..).trans (by kernel_rfl)
/-! 143: loop.example/g00905/laws.eqTableRef -/
theorem f143_eq (x0_0 : Int) (x0_1 : Int) (x0_2 : Int) (x0_3 : Int) (x0_4 : Int) (x0_5 : ByteArray) (x0_6 : ByteArray) (x0_7 : Int) (x0_8 : Int) (x0_9 : Int) (x1_0 : Int) (x1_1 : Int) (x1_2 : Int) (x1_3 : Int) (x1_4 : Int) (x1_5 : ByteArray) (x1_6 : ByteArray) (x1_7 : Int) (x1_8 : Int) (x1_9 : Int) : den E 143 [(.agg [(.i .i64 x0_0), (.i .i64 x0_1), (.i .i64 x0_2), (.i .i64 x0_3), (.i .i64 x0_4), (.s x0_5), (.s x0_6), (.i .i64 x0_7), (.i .i64 x0_8), (.i .i64 x0_9)]), (.agg [(.i .i64 x1_0), (.i .i64 x1_1), (.i .i64 x1_2), (.i .i64 x1_3), (.i .i64 x1_4), (.s x1_5), (.s x1_6), (.i .i64 x1_7), (.i .i64 x1_8), (.i .i64 x1_9)])] [] =
 cond (!decide (x0_0 = x1_0))
 (some (.b false))
 (cond (!decide (x0_1 = x1_1))
 (some (.b false))
 (cond (!decide (x0_2 = x1_2))
 (some (.b false))
 (cond (!decide (x0_3 = x1_3))
 (some (.b false))
 (cond (!decide (x0_4 = x1_4))
 (some (.b false))
 (cond (!decide (x0_5 = x1_5))
 (some (.b false))
 (cond (!decide (x0_6 = x1_6))
 (some (.b false))
 (cond (!decide (x0_7 = x1_7))
 (some (.b false))
 (cond (!decide (x0_8 = x1_8))
 (some (.b false))
 (cond (!decide (x0_9 = x1_9))
 (some (.b false))
 (some (.b true))))))))))) := (den_eq ..).trans (by kernel_rfl)
/-! 100: loop.example/g00905/laws.eqTableRefS -/
noncomputable def f100_l1 (t0 : List AV) (t1 : List AV) (t5 : Int) : Option AV := Lp E fi100 [true, true, false, true, false] (mkT 27 [(0, (.imm 10 t0)), (1, (.imm 10 t1)), (5, (.i .i64 t5))]) []
theorem f100_eq (x0 : List AV) (x1 : List AV) : den E 100 [(.imm 10 x0), (.imm 10 x1)] [] =
 cond (!decide (((x0.length : Nat) : Int) = ((x1.length : Nat) : Int)))
 (some (.b false))
 (f100_l1 x0 x1 (0 : Int)) := (den_eq ..).trans (by kernel_rfl)
theorem f100_l1_eq (t0 : List AV) (t1 : List AV) (t5 : Int) : f100_l1 t0 t1 t5 =
 cond (decide (t5 < ((t0.length : Nat) : Int)))
 (if 0 ≤ t5 ∧ t5 < ((t0.length : Nat) : Int) then
 if okCells false (t0.getD t5.toNat .x) 0 [(.i .i64), (.i .i64), (.i .i64), (.i .i64), (.i .i64), .s, .s, (.i .i64), (.i .i64), (.i .i64)] = true then
 if 0 ≤ t5 ∧ t5 < ((t1.length : Nat) : Int) then
 if okCells false (t1.getD t5.toNat .x) 0 [(.i .i64), (.i .i64), (.i .i64), (.i .i64), (.i .i64), .s, .s, (.i .i64), (.i .i64), (.i .i64)] = true then
 bSh .b (den E 143 [(.agg [(.i .i64 (((t0.getD t5.toNat .x).cells.getD 0 .x).toI)), (.i .i64 (((t0.getD t5.toNat .x).cells.getD 1 .x).toI)), (.i .i64 (((t0.getD t5.toNat .x).cells.getD 2 .x).toI)), (.i .i64 (((t0.getD t5.toNat .x).cells.getD 3 .x).toI)), (.i .i64 (((t0.getD t5.toNat .x).cells.getD 4 .x).toI)), (.s (((t0.getD t5.toNat .x).cells.getD 5 .x).toS)), (.s (((t0.getD t5.toNat .x).cells.getD 6 .x).toS)), (.i .i64 (((t0.getD t5.toNat .x).cells.getD 7 .x).toI)), (.i .i64 (((t0.getD t5.toNat .x).cells.getD 8 .x).toI)), (.i .i64 (((t0.getD t5.toNat .x).cells.getD 9 .x).toI))]), (.agg [(.i .i64 (((t1.getD t5.toNat .x).cells.getD 0 .x).toI)), (.i .i64 (((t1.getD t5.toNat .x).cells.getD 1 .x).toI)), (.i .i64 (((t1.getD t5.toNat .x).cells.getD 2 .x).toI)), (.i .i64 (((t1.getD t5.toNat .x).cells.getD 3 .x).toI)), (.i .i64 (((t1.getD t5.toNat .x).cells.getD 4 .x).toI)), (.s (((t1.getD t5.toNat .x).cells.getD 5 .x).toS)), (.s (((t1.getD t5.toNat .x).cells.getD 6 .x).toS)), (.i .i64 (((t1.getD t5.toNat .x).cells.getD 7 .x).toI)), (.i .i64 (((t1.getD t5.toNat .x).cells.getD 8 .x).toI)), (.i .i64 (((t1.getD t5.toNat .x).cells.getD 9 .x).toI))])] []) fun a1 =>
 cond (!a1.toB)
 (some (.b false))
 (f100_l1 t0 t1 (IntKind.i64.wrap (t5 + (1 : Int))))
 else none
 else none
 else none
 else none)
 (some (.b true)) := (Lp_eq ..).trans (by kernel_rfl)
/-! 50: loop.example/g00905/laws.eqVersion -/
theorem f50_eq (x0_0 : Int) (x0_1 : Int) (x0_2 : Int) (x0_3 : List AV) (x1_0 : Int) (x1_1 : Int) (x1_2 : Int) (x1_3 : List AV) : den E 50 [(.agg [(.i .i64 x0_0), (.i .i64 x0_1), (.i .i64 x0_2), (.imm 10 x0_3)]), (.agg [(.i .i64 x1_0), (.i .i64 x1_1), (.i .i64 x1_2), (.imm 10 x1_3)])] [] =
 cond (!decide (x0_0 = x1_0))
 (some (.b false))
 (cond (!decide (x0_1 = x1_1))
 (some (.b false))
 (cond (!decide (x0_2 = x1_2))
 (some (.b false))
 (bSh .b (den E 100 [(.imm 10 x0_3), (.imm 10 x1_3)] []) fun a1 =>
 cond (!a1.toB)
 (some (.b false))
 (some (.b true))))) := (den_eq ..).trans (by kernel_rfl)
/-! 101: loop.example/g00905/laws.eqRecord -/
theorem f101_eq (x0_0 : ByteArray) (x0_1 : Int) (x0_2 : Int) (x0_3 : ByteArray) (x0_4 : ByteArray) (x1_0 : ByteArray) (x1_1 : Int) (x1_2 : Int) (x1_3 : ByteArray) (x1_4 : ByteArray) : den E 101 [(.agg [(.s x0_0), (.i .i64 x0_1), (.i .i64 x0_2), (.s x0_3), (.s x0_4)]), (.agg [(.s x1_0), (.i .i64 x1_1), (.i .i64 x1_2), (.s x1_3), (.s x1_4)])] [] =
 cond (!decide (x0_0 = x1_0))
 (some (.b false))
 (cond (!decide (x0_1 = x1_1))
 (some (.b false))
 (cond (!decide (x0_2 = x1_2))
 (some (.b false))
 (cond (!decide (x0_3 = x1_3))
 (some (.b false))
 (cond (!decide (x0_4 = x1_4))
 (some (.b false))
 (some (.b true)))))) := (den_eq ..).trans (by kernel_rfl)
/-! 51: loop.example/g00905/laws.eqRecordS -/
noncomputable def f51_l1 (t0 : List AV) (t1 : List AV) (t5 : Int) : Option AV := Lp E fi51 [true, true, false, true, false] (mkT 27 [(0, (.imm 5 t0)), (1, (.imm 5 t1)), (5, (.i .i64 t5))]) []
theorem f51_eq (x0 : List AV) (x1 : List AV) : den E 51 [(.imm 5 x0), (.imm 5 x1)] [] =
 cond (!decide (((x0.length : Nat) : Int) = ((x1.length : Nat) : Int)))
 (some (.b false))
 (f51_l1 x0 x1 (0 : Int)) := (den_eq ..).trans (by kernel_rfl)
theorem f51_l1_eq (t0 : List AV) (t1 : List AV) (t5 : Int) : f51_l1 t0 t1 t5 =
 cond (decide (t5 < ((t0.length : Nat) : Int)))
 (if 0 ≤ t5 ∧ t5 < ((t0.length : Nat) : Int) then
 if okCells false (t0.getD t5.toNat .x) 0 [.s, (.i .i64), (.i .i64), .s, .s] = true then
 if 0 ≤ t5 ∧ t5 < ((t1.length : Nat) : Int) then
 if okCells false (t1.getD t5.toNat .x) 0 [.s, (.i .i64), (.i .i64), .s, .s] = true then
 bSh .b (den E 101 [(.agg [(.s (((t0.getD t5.toNat .x).cells.getD 0 .x).toS)), (.i .i64 (((t0.getD t5.toNat .x).cells.getD 1 .x).toI)), (.i .i64 (((t0.getD t5.toNat .x).cells.getD 2 .x).toI)), (.s (((t0.getD t5.toNat .x).cells.getD 3 .x).toS)), (.s (((t0.getD t5.toNat .x).cells.getD 4 .x).toS))]), (.agg [(.s (((t1.getD t5.toNat .x).cells.getD 0 .x).toS)), (.i .i64 (((t1.getD t5.toNat .x).cells.getD 1 .x).toI)), (.i .i64 (((t1.getD t5.toNat .x).cells.getD 2 .x).toI)), (.s (((t1.getD t5.toNat .x).cells.getD 3 .x).toS)), (.s (((t1.getD t5.toNat .x).cells.getD 4 .x).toS))])] []) fun a1 =>
 cond (!a1.toB)
 (some (.b false))
 (f51_l1 t0 t1 (IntKind.i64.wrap (t5 + (1 : Int))))
 else none
 else none
 else none
 else none)
 (some (.b true)) := (Lp_eq ..).trans (by kernel_rfl)
/-! 11: loop.example/g00905/laws.eqDB -/
theorem f11_eq (x0_0 : Int) (x0_1 : Int) (x0_2 : Int) (x0_3 : List AV) (x0_4 : Int) (x0_5 : Int) (x0_6 : Bool) (x0_7 : Int) (x0_8 : List AV) (x0_9 : Int) (x0_10 : Int) (x0_11 : Int) (x0_12 : List AV) (x0_13 : Int) (x0_14 : Int) (x0_15 : List AV) (x0_16 : Int) (x0_17 : Int) (x0_18 : List AV) (x1_0 : Int) (x1_1 : Int) (x1_2 : Int) (x1_3 : List AV) (x1_4 : Int) (x1_5 : Int) (x1_6 : Bool) (x1_7 : Int) (x1_8 : List AV) (x1_9 : Int) (x1_10 : Int) (x1_11 : Int) (x1_12 : List AV) (x1_13 : Int) (x1_14 : Int) (x1_15 : List AV) (x1_16 : Int) (x1_17 : Int) (x1_18 : List AV) : den E 11 [(.agg [(.i .i64 x0_0), (.i .i64 x0_1), (.i .i64 x0_2), (.imm 4 x0_3), (.i .i64 x0_4), (.i .i64 x0_5), (.b x0_6), (.i .i64 x0_7), (.imm 6 x0_8), (.i .i64 x0_9), (.i .i64 x0_10), (.i .i64 x0_11), (.imm 10 x0_12), (.i .i64 x0_13), (.i .i64 x0_14), (.imm 5 x0_15), (.i .i64 x0_16), (.i .i64 x0_17), (.imm 1 x0_18)]), (.agg [(.i .i64 x1_0), (.i .i64 x1_1), (.i .i64 x1_2), (.imm 4 x1_3), (.i .i64 x1_4), (.i .i64 x1_5), (.b x1_6), (.i .i64 x1_7), (.imm 6 x1_8), (.i .i64 x1_9), (.i .i64 x1_10), (.i .i64 x1_11), (.imm 10 x1_12), (.i .i64 x1_13), (.i .i64 x1_14), (.imm 5 x1_15), (.i .i64 x1_16), (.i .i64 x1_17), (.imm 1 x1_18)])] [] =
 bSh .b (den E 49 [(.agg [(.i .i64 x0_0), (.i .i64 x0_1), (.i .i64 x0_2), (.imm 4 x0_3), (.i .i64 x0_4), (.i .i64 x0_5), (.b x0_6), (.i .i64 x0_7), (.imm 6 x0_8)]), (.agg [(.i .i64 x1_0), (.i .i64 x1_1), (.i .i64 x1_2), (.imm 4 x1_3), (.i .i64 x1_4), (.i .i64 x1_5), (.b x1_6), (.i .i64 x1_7), (.imm 6 x1_8)])] []) fun a1 =>
 cond (!a1.toB)
 (some (.b false))
 (bSh .b (den E 50 [(.agg [(.i .i64 x0_9), (.i .i64 x0_10), (.i .i64 x0_11), (.imm 10 x0_12)]), (.agg [(.i .i64 x1_9), (.i .i64 x1_10), (.i .i64 x1_11), (.imm 10 x1_12)])] []) fun a2 =>
 cond (!a2.toB)
 (some (.b false))
 (cond (!decide (x0_13 = x1_13))
 (some (.b false))
 (cond (!decide (x0_14 = x1_14))
 (some (.b false))
 (bSh .b (den E 51 [(.imm 5 x0_15), (.imm 5 x1_15)] []) fun a3 =>
 cond (!a3.toB)
 (some (.b false))
 (cond (!decide (x0_16 = x1_16))
 (some (.b false))
 (cond (!decide (x0_17 = x1_17))
 (some (.b false))
 (bSh .b (den E 52 [(.imm 1 x0_18), (.imm 1 x1_18)] []) fun a4 =>
 cond (!a4.toB)
 (some (.b false))
 (some (.b true))))))))) := (den_eq ..).trans (by kernel_rfl)
/-! 3: loop.example/g00905/laws.FnExactSameDB -/
theorem f3_eq (x0_0 : Int) (x0_1 : Int) (x0_2 : Int) (x0_3 : List AV) (x0_4 : Int) (x0_5 : Int) (x0_6 : Bool) (x0_7 : Int) (x0_8 : List AV) (x0_9 : Int) (x0_10 : Int) (x0_11 : Int) (x0_12 : List AV) (x0_13 : Int) (x0_14 : Int) (x0_15 : List AV) (x0_16 : Int) (x0_17 : Int) (x0_18 : List AV) (x1_0 : Int) (x1_1 : Int) (x1_2 : Int) (x1_3 : List AV) (x1_4 : Int) (x1_5 : Int) (x1_6 : Bool) (x1_7 : Int) (x1_8 : List AV) (x1_9 : Int) (x1_10 : Int) (x1_11 : Int) (x1_12 : List AV) (x1_13 : Int) (x1_14 : Int) (x1_15 : List AV) (x1_16 : Int) (x1_17 : Int) (x1_18 : List AV) : den E 3 [(.agg [(.i .i64 x0_0), (.i .i64 x0_1), (.i .i64 x0_2), (.imm 4 x0_3), (.i .i64 x0_4), (.i .i64 x0_5), (.b x0_6), (.i .i64 x0_7), (.imm 6 x0_8), (.i .i64 x0_9), (.i .i64 x0_10), (.i .i64 x0_11), (.imm 10 x0_12), (.i .i64 x0_13), (.i .i64 x0_14), (.imm 5 x0_15), (.i .i64 x0_16), (.i .i64 x0_17), (.imm 1 x0_18)]), (.agg [(.i .i64 x1_0), (.i .i64 x1_1), (.i .i64 x1_2), (.imm 4 x1_3), (.i .i64 x1_4), (.i .i64 x1_5), (.b x1_6), (.i .i64 x1_7), (.imm 6 x1_8), (.i .i64 x1_9), (.i .i64 x1_10), (.i .i64 x1_11), (.imm 10 x1_12), (.i .i64 x1_13), (.i .i64 x1_14), (.imm 5 x1_15), (.i .i64 x1_16), (.i .i64 x1_17), (.imm 1 x1_18)])] [] =
 bSh (.i .i64) (den E 7 [(.agg [(.i .i64 x0_0), (.i .i64 x0_1), (.i .i64 x0_2), (.imm 4 x0_3), (.i .i64 x0_4), (.i .i64 x0_5), (.b x0_6), (.i .i64 x0_7), (.imm 6 x0_8), (.i .i64 x0_9), (.i .i64 x0_10), (.i .i64 x0_11), (.imm 10 x0_12), (.i .i64 x0_13), (.i .i64 x0_14), (.imm 5 x0_15), (.i .i64 x0_16), (.i .i64 x0_17), (.imm 1 x0_18)]), (.i .i64 (1048576 : Int))] []) fun a1 =>
 cond (decide (a1.toI < (0 : Int)))
 (some (.b true))
 (bSh (.i .i64) (den E 7 [(.agg [(.i .i64 x1_0), (.i .i64 x1_1), (.i .i64 x1_2), (.imm 4 x1_3), (.i .i64 x1_4), (.i .i64 x1_5), (.b x1_6), (.i .i64 x1_7), (.imm 6 x1_8), (.i .i64 x1_9), (.i .i64 x1_10), (.i .i64 x1_11), (.imm 10 x1_12), (.i .i64 x1_13), (.i .i64 x1_14), (.imm 5 x1_15), (.i .i64 x1_16), (.i .i64 x1_17), (.imm 1 x1_18)]), (.i .i64 a1.toI)] []) fun a2 =>
 cond (decide (a2.toI < (0 : Int)))
 (some (.b true))
 (bSh (.agg [(.i .i64), (.i .i64), (.i .i64), (.sl 172 4), (.i .i64), (.i .i64), .b, (.i .i64), (.sl 129 6), (.i .i64), (.i .i64), (.i .i64), (.sl 131 10), (.i .i64), (.i .i64), (.sl 70 5), (.i .i64), (.i .i64), (.sl 2 1)]) (den E 9 [(.agg [(.i .i64 x0_0), (.i .i64 x0_1), (.i .i64 x0_2), (.imm 4 x0_3), (.i .i64 x0_4), (.i .i64 x0_5), (.b x0_6), (.i .i64 x0_7), (.imm 6 x0_8), (.i .i64 x0_9), (.i .i64 x0_10), (.i .i64 x0_11), (.imm 10 x0_12), (.i .i64 x0_13), (.i .i64 x0_14), (.imm 5 x0_15), (.i .i64 x0_16), (.i .i64 x0_17), (.imm 1 x0_18)])] []) fun a3 =>
 bSh (.agg [(.i .i64), (.i .i64), (.i .i64), (.sl 172 4), (.i .i64), (.i .i64), .b, (.i .i64), (.sl 129 6), (.i .i64), (.i .i64), (.i .i64), (.sl 131 10), (.i .i64), (.i .i64), (.sl 70 5), (.i .i64), (.i .i64), (.sl 2 1)]) (den E 9 [(.agg [(.i .i64 x1_0), (.i .i64 x1_1), (.i .i64 x1_2), (.imm 4 x1_3), (.i .i64 x1_4), (.i .i64 x1_5), (.b x1_6), (.i .i64 x1_7), (.imm 6 x1_8), (.i .i64 x1_9), (.i .i64 x1_10), (.i .i64 x1_11), (.imm 10 x1_12), (.i .i64 x1_13), (.i .i64 x1_14), (.imm 5 x1_15), (.i .i64 x1_16), (.i .i64 x1_17), (.imm 1 x1_18)])] []) fun a4 =>
 bSh .b (den E 8 [(.agg [(.i .i64 ((a3.nth 0).toI)), (.i .i64 ((a3.nth 1).toI)), (.i .i64 ((a3.nth 2).toI)), (.imm 4 ((a3.nth 3).toL)), (.i .i64 ((a3.nth 4).toI)), (.i .i64 ((a3.nth 5).toI)), (.b ((a3.nth 6).toB)), (.i .i64 ((a3.nth 7).toI)), (.imm 6 ((a3.nth 8).toL)), (.i .i64 ((a3.nth 9).toI)), (.i .i64 ((a3.nth 10).toI)), (.i .i64 ((a3.nth 11).toI)), (.imm 10 ((a3.nth 12).toL)), (.i .i64 ((a3.nth 13).toI)), (.i .i64 ((a3.nth 14).toI)), (.imm 5 ((a3.nth 15).toL)), (.i .i64 ((a3.nth 16).toI)), (.i .i64 ((a3.nth 17).toI)), (.imm 1 ((a3.nth 18).toL))]), (.agg [(.i .i64 ((a4.nth 0).toI)), (.i .i64 ((a4.nth 1).toI)), (.i .i64 ((a4.nth 2).toI)), (.imm 4 ((a4.nth 3).toL)), (.i .i64 ((a4.nth 4).toI)), (.i .i64 ((a4.nth 5).toI)), (.b ((a4.nth 6).toB)), (.i .i64 ((a4.nth 7).toI)), (.imm 6 ((a4.nth 8).toL)), (.i .i64 ((a4.nth 9).toI)), (.i .i64 ((a4.nth 10).toI)), (.i .i64 ((a4.nth 11).toI)), (.imm 10 ((a4.nth 12).toL)), (.i .i64 ((a4.nth 13).toI)), (.i .i64 ((a4.nth 14).toI)), (.imm 5 ((a4.nth 15).toL)), (.i .i64 ((a4.nth 16).toI)), (.i .i64 ((a4.nth 17).toI)), (.imm 1 ((a4.nth 18).toL))])] []) fun a5 =>
 bSh (.agg [(.i .i64), (.i .i64), (.i .i64), (.sl 172 4), (.i .i64), (.i .i64), .b, (.i .i64), (.sl 129 6), (.i .i64), (.i .i64), (.i .i64), (.sl 131 10), (.i .i64), (.i .i64), (.sl 70 5), (.i .i64), (.i .i64), (.sl 2 1)]) (den E 9 [(.agg [(.i .i64 x0_0), (.i .i64 x0_1), (.i .i64 x0_2), (.imm 4 x0_3), (.i .i64 x0_4), (.i .i64 x0_5), (.b x0_6), (.i .i64 x0_7), (.imm 6 x0_8), (.i .i64 x0_9), (.i .i64 x0_10), (.i .i64 x0_11), (.imm 10 x0_12), (.i .i64 x0_13), (.i .i64 x0_14), (.imm 5 x0_15), (.i .i64 x0_16), (.i .i64 x0_17), (.imm 1 x0_18)])] []) fun a6 =>
 bSh (.agg [(.i .i64), (.i .i64), (.i .i64), (.sl 172 4), (.i .i64), (.i .i64), .b, (.i .i64), (.sl 129 6), (.i .i64), (.i .i64), (.i .i64), (.sl 131 10), (.i .i64), (.i .i64), (.sl 70 5), (.i .i64), (.i .i64), (.sl 2 1)]) (den E 9 [(.agg [(.i .i64 x1_0), (.i .i64 x1_1), (.i .i64 x1_2), (.imm 4 x1_3), (.i .i64 x1_4), (.i .i64 x1_5), (.b x1_6), (.i .i64 x1_7), (.imm 6 x1_8), (.i .i64 x1_9), (.i .i64 x1_10), (.i .i64 x1_11), (.imm 10 x1_12), (.i .i64 x1_13), (.i .i64 x1_14), (.imm 5 x1_15), (.i .i64 x1_16), (.i .i64 x1_17), (.imm 1 x1_18)])] []) fun a7 =>
 bSh .b (den E 10 [(.agg [(.i .i64 ((a6.nth 0).toI)), (.i .i64 ((a6.nth 1).toI)), (.i .i64 ((a6.nth 2).toI)), (.imm 4 ((a6.nth 3).toL)), (.i .i64 ((a6.nth 4).toI)), (.i .i64 ((a6.nth 5).toI)), (.b ((a6.nth 6).toB)), (.i .i64 ((a6.nth 7).toI)), (.imm 6 ((a6.nth 8).toL)), (.i .i64 ((a6.nth 9).toI)), (.i .i64 ((a6.nth 10).toI)), (.i .i64 ((a6.nth 11).toI)), (.imm 10 ((a6.nth 12).toL)), (.i .i64 ((a6.nth 13).toI)), (.i .i64 ((a6.nth 14).toI)), (.imm 5 ((a6.nth 15).toL)), (.i .i64 ((a6.nth 16).toI)), (.i .i64 ((a6.nth 17).toI)), (.imm 1 ((a6.nth 18).toL))]), (.agg [(.i .i64 ((a7.nth 0).toI)), (.i .i64 ((a7.nth 1).toI)), (.i .i64 ((a7.nth 2).toI)), (.imm 4 ((a7.nth 3).toL)), (.i .i64 ((a7.nth 4).toI)), (.i .i64 ((a7.nth 5).toI)), (.b ((a7.nth 6).toB)), (.i .i64 ((a7.nth 7).toI)), (.imm 6 ((a7.nth 8).toL)), (.i .i64 ((a7.nth 9).toI)), (.i .i64 ((a7.nth 10).toI)), (.i .i64 ((a7.nth 11).toI)), (.imm 10 ((a7.nth 12).toL)), (.i .i64 ((a7.nth 13).toI)), (.i .i64 ((a7.nth 14).toI)), (.imm 5 ((a7.nth 15).toL)), (.i .i64 ((a7.nth 16).toI)), (.i .i64 ((a7.nth 17).toI)), (.imm 1 ((a7.nth 18).toL))])] []) fun a8 =>
 cond (!decide (a8.toB = a5.toB))
 (some (.b false))
 (bSh (.agg [(.i .i64), (.i .i64), (.i .i64), (.sl 172 4), (.i .i64), (.i .i64), .b, (.i .i64), (.sl 129 6), (.i .i64), (.i .i64), (.i .i64), (.sl 131 10), (.i .i64), (.i .i64), (.sl 70 5), (.i .i64), (.i .i64), (.sl 2 1)]) (den E 9 [(.agg [(.i .i64 x0_0), (.i .i64 x0_1), (.i .i64 x0_2), (.imm 4 x0_3), (.i .i64 x0_4), (.i .i64 x0_5), (.b x0_6), (.i .i64 x0_7), (.imm 6 x0_8), (.i .i64 x0_9), (.i .i64 x0_10), (.i .i64 x0_11), (.imm 10 x0_12), (.i .i64 x0_13), (.i .i64 x0_14), (.imm 5 x0_15), (.i .i64 x0_16), (.i .i64 x0_17), (.imm 1 x0_18)])] []) fun a9 =>
 bSh .b (den E 11 [(.agg [(.i .i64 ((a6.nth 0).toI)), (.i .i64 ((a6.nth 1).toI)), (.i .i64 ((a6.nth 2).toI)), (.imm 4 ((a6.nth 3).toL)), (.i .i64 ((a6.nth 4).toI)), (.i .i64 ((a6.nth 5).toI)), (.b ((a6.nth 6).toB)), (.i .i64 ((a6.nth 7).toI)), (.imm 6 ((a6.nth 8).toL)), (.i .i64 ((a6.nth 9).toI)), (.i .i64 ((a6.nth 10).toI)), (.i .i64 ((a6.nth 11).toI)), (.imm 10 ((a6.nth 12).toL)), (.i .i64 ((a6.nth 13).toI)), (.i .i64 ((a6.nth 14).toI)), (.imm 5 ((a6.nth 15).toL)), (.i .i64 ((a6.nth 16).toI)), (.i .i64 ((a6.nth 17).toI)), (.imm 1 ((a6.nth 18).toL))]), (.agg [(.i .i64 ((a9.nth 0).toI)), (.i .i64 ((a9.nth 1).toI)), (.i .i64 ((a9.nth 2).toI)), (.imm 4 ((a9.nth 3).toL)), (.i .i64 ((a9.nth 4).toI)), (.i .i64 ((a9.nth 5).toI)), (.b ((a9.nth 6).toB)), (.i .i64 ((a9.nth 7).toI)), (.imm 6 ((a9.nth 8).toL)), (.i .i64 ((a9.nth 9).toI)), (.i .i64 ((a9.nth 10).toI)), (.i .i64 ((a9.nth 11).toI)), (.imm 10 ((a9.nth 12).toL)), (.i .i64 ((a9.nth 13).toI)), (.i .i64 ((a9.nth 14).toI)), (.imm 5 ((a9.nth 15).toL)), (.i .i64 ((a9.nth 16).toI)), (.i .i64 ((a9.nth 17).toI)), (.imm 1 ((a9.nth 18).toL))])] []) fun a10 =>
 cond (!a10.toB)
 (some (.b false))
 (bSh (.agg [(.i .i64), (.i .i64), (.i .i64), (.sl 172 4), (.i .i64), (.i .i64), .b, (.i .i64), (.sl 129 6), (.i .i64), (.i .i64), (.i .i64), (.sl 131 10), (.i .i64), (.i .i64), (.sl 70 5), (.i .i64), (.i .i64), (.sl 2 1)]) (den E 9 [(.agg [(.i .i64 x1_0), (.i .i64 x1_1), (.i .i64 x1_2), (.imm 4 x1_3), (.i .i64 x1_4), (.i .i64 x1_5), (.b x1_6), (.i .i64 x1_7), (.imm 6 x1_8), (.i .i64 x1_9), (.i .i64 x1_10), (.i .i64 x1_11), (.imm 10 x1_12), (.i .i64 x1_13), (.i .i64 x1_14), (.imm 5 x1_15), (.i .i64 x1_16), (.i .i64 x1_17), (.imm 1 x1_18)])] []) fun a11 =>
 bSh .b (den E 11 [(.agg [(.i .i64 ((a7.nth 0).toI)), (.i .i64 ((a7.nth 1).toI)), (.i .i64 ((a7.nth 2).toI)), (.imm 4 ((a7.nth 3).toL)), (.i .i64 ((a7.nth 4).toI)), (.i .i64 ((a7.nth 5).toI)), (.b ((a7.nth 6).toB)), (.i .i64 ((a7.nth 7).toI)), (.imm 6 ((a7.nth 8).toL)), (.i .i64 ((a7.nth 9).toI)), (.i .i64 ((a7.nth 10).toI)), (.i .i64 ((a7.nth 11).toI)), (.imm 10 ((a7.nth 12).toL)), (.i .i64 ((a7.nth 13).toI)), (.i .i64 ((a7.nth 14).toI)), (.imm 5 ((a7.nth 15).toL)), (.i .i64 ((a7.nth 16).toI)), (.i .i64 ((a7.nth 17).toI)), (.imm 1 ((a7.nth 18).toL))]), (.agg [(.i .i64 ((a11.nth 0).toI)), (.i .i64 ((a11.nth 1).toI)), (.i .i64 ((a11.nth 2).toI)), (.imm 4 ((a11.nth 3).toL)), (.i .i64 ((a11.nth 4).toI)), (.i .i64 ((a11.nth 5).toI)), (.b ((a11.nth 6).toB)), (.i .i64 ((a11.nth 7).toI)), (.imm 6 ((a11.nth 8).toL)), (.i .i64 ((a11.nth 9).toI)), (.i .i64 ((a11.nth 10).toI)), (.i .i64 ((a11.nth 11).toI)), (.imm 10 ((a11.nth 12).toL)), (.i .i64 ((a11.nth 13).toI)), (.i .i64 ((a11.nth 14).toI)), (.imm 5 ((a11.nth 15).toL)), (.i .i64 ((a11.nth 16).toI)), (.i .i64 ((a11.nth 17).toI)), (.imm 1 ((a11.nth 18).toL))])] []) fun a12 =>
 cond (!a12.toB)
 (some (.b false))
 (some (.b true)))))) := (den_eq ..).trans (by kernel_rfl)
end Go.Proofs.Ytkpmplggbbiebaa.ISameDB
