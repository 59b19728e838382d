/- Printed by a program of this work (wip/it/itp.py): what each function comes to. No condition. -/
import Derived.Test.YtokpbjbngnlepaaIWearOfZonet
namespace Go.Proofs.Ytokpbjbngnlepaa.IWearOfZone
open Go Go.Proofs.YtokpbjbngnlepaaIT
set_option linter.unusedVariables false
/-! 143: loop.example/g00905/laws.szStringS -/
noncomputable def f143_l1 (t0 : List AV) (t1 : Int) (t5 : Int) : Option AV := Lp E fi143 [true, true, true, false, true, false] (mkT 28 [(0, (.imm 1 t0)), (1, (.i .i64 t1)), (5, (.i .i64 t5))]) []
theorem f143_eq (x0 : List AV) (x1 : Int) : den E 143 [(.imm 1 x0), (.i .i64 x1)] [] =
 cond (decide ((IntKind.i64.wrap (x1 - ((x0.length : Nat) : Int))) < (0 : Int)))
 (some (.i .i64 (-1 : Int)))
 (f143_l1 x0 (IntKind.i64.wrap (x1 - ((x0.length : Nat) : Int))) (0 : Int)) := (den_eq ..).trans (by kernel_rfl)
theorem f143_l1_eq (t0 : List AV) (t1 : Int) (t5 : Int) : f143_l1 t0 t1 t5 =
 cond (decide (t5 < ((t0.length : Nat) : Int)))
 (if 0 ≤ t5 ∧ t5 < ((t0.length : Nat) : Int) then
 if okCells false (t0.getD t5.toNat .x) 0 [.s] = true then
 cond (decide ((IntKind.i64.wrap (t1 - (((((t0.getD t5.toNat .x).cells.getD 0 .x).toS).size : Nat) : Int))) < (0 : Int)))
 (some (.i .i64 (-1 : Int)))
 (f143_l1 t0 (IntKind.i64.wrap (t1 - (((((t0.getD t5.toNat .x).cells.getD 0 .x).toS).size : Nat) : Int))) (IntKind.i64.wrap (t5 + (1 : Int))))
 else none
 else none)
 (some (.i .i64 t1)) := (Lp_eq ..).trans (by kernel_rfl)
/-! 142: loop.example/g00905/laws.szBlock -/
theorem f142_eq (x0_0 : Int) (x0_1 : Int) (x0_2 : Bool) (x0_3 : List AV) (x1 : Int) : den E 142 [(.agg [(.i .i64 x0_0), (.i .i64 x0_1), (.b x0_2), (.imm 1 x0_3)]), (.i .i64 x1)] [] =
 bSh (.i .i64) (den E 143 [(.imm 1 x0_3), (.i .i64 x1)] []) fun a1 =>
 cond (decide (a1.toI < (0 : Int)))
 (some (.i .i64 (-1 : Int)))
 (some (.i .i64 a1.toI)) := (den_eq ..).trans (by kernel_rfl)
/-! 89: loop.example/g00905/laws.szBlockS -/
noncomputable def f89_l1 (t0 : List AV) (t1 : Int) (t5 : Int) : Option AV := Lp E fi89 [true, true, true, false, true, false] (mkT 27 [(0, (.imm 4 t0)), (1, (.i .i64 t1)), (5, (.i .i64 t5))]) []
theorem f89_eq (x0 : List AV) (x1 : Int) : den E 89 [(.imm 4 x0), (.i .i64 x1)] [] =
 cond (decide ((IntKind.i64.wrap (x1 - ((x0.length : Nat) : Int))) < (0 : Int)))
 (some (.i .i64 (-1 : Int)))
 (f89_l1 x0 (IntKind.i64.wrap (x1 - ((x0.length : Nat) : Int))) (0 : Int)) := (den_eq ..).trans (by kernel_rfl)
theorem f89_l1_eq (t0 : List AV) (t1 : Int) (t5 : Int) : f89_l1 t0 t1 t5 =
 cond (decide (t5 < ((t0.length : Nat) : Int)))
 (if 0 ≤ t5 ∧ t5 < ((t0.length : Nat) : Int) then
 if okCells false (t0.getD t5.toNat .x) 0 [(.i .i64), (.i .i64), .b, (.sl 9 1)] = true then
 bSh (.i .i64) (den E 142 [(.agg [(.i .i64 (((t0.getD t5.toNat .x).cells.getD 0 .x).toI)), (.i .i64 (((t0.getD t5.toNat .x).cells.getD 1 .x).toI)), (.b (((t0.getD t5.toNat .x).cells.getD 2 .x).toB)), (.imm 1 (((t0.getD t5.toNat .x).cells.getD 3 .x).toL))]), (.i .i64 t1)] []) fun a1 =>
 cond (decide (a1.toI < (0 : Int)))
 (some (.i .i64 (-1 : Int)))
 (f89_l1 t0 a1.toI (IntKind.i64.wrap (t5 + (1 : Int))))
 else none
 else none)
 (some (.i .i64 t1)) := (Lp_eq ..).trans (by kernel_rfl)
/-! 47: loop.example/g00905/laws.szFlash -/
theorem f47_eq (x0_0 : Int) (x0_1 : Int) (x0_2 : Int) (x0_3 : List AV) (x0_4 : Int) (x0_5 : Int) (x0_6 : Bool) (x0_7 : Int) (x1 : Int) : den E 47 [(.agg [(.i .i64 x0_0), (.i .i64 x0_1), (.i .i64 x0_2), (.imm 4 x0_3), (.i .i64 x0_4), (.i .i64 x0_5), (.b x0_6), (.i .i64 x0_7)]), (.i .i64 x1)] [] =
 bSh (.i .i64) (den E 89 [(.imm 4 x0_3), (.i .i64 x1)] []) fun a1 =>
 cond (decide (a1.toI < (0 : Int)))
 (some (.i .i64 (-1 : Int)))
 (some (.i .i64 a1.toI)) := (den_eq ..).trans (by kernel_rfl)
/-! 139: loop.example/g00905/laws.szInt64S -/
theorem f139_eq (x0 : List AV) (x1 : Int) : den E 139 [(.imm 1 x0), (.i .i64 x1)] [] =
 cond (decide ((IntKind.i64.wrap (x1 - ((x0.length : Nat) : Int))) < (0 : Int)))
 (some (.i .i64 (-1 : Int)))
 (some (.i .i64 (IntKind.i64.wrap (x1 - ((x0.length : Nat) : Int))))) := (den_eq ..).trans (by kernel_rfl)
/-! 90: loop.example/g00905/laws.szZone -/
theorem f90_eq (x0_0 : Int) (x0_1 : List AV) (x0_2 : Int) (x0_3 : Int) (x0_4 : List AV) (x0_5 : List AV) (x1 : Int) : den E 90 [(.agg [(.i .i64 x0_0), (.imm 1 x0_1), (.i .i64 x0_2), (.i .i64 x0_3), (.imm 1 x0_4), (.imm 1 x0_5)]), (.i .i64 x1)] [] =
 bSh (.i .i64) (den E 139 [(.imm 1 x0_1), (.i .i64 x1)] []) fun a1 =>
 cond (decide (a1.toI < (0 : Int)))
 (some (.i .i64 (-1 : Int)))
 (bSh (.i .i64) (den E 139 [(.imm 1 x0_4), (.i .i64 a1.toI)] []) fun a2 =>
 cond (decide (a2.toI < (0 : Int)))
 (some (.i .i64 (-1 : Int)))
 (bSh (.i .i64) (den E 143 [(.imm 1 x0_5), (.i .i64 a2.toI)] []) fun a3 =>
 cond (decide (a3.toI < (0 : Int)))
 (some (.i .i64 (-1 : Int)))
 (some (.i .i64 a3.toI)))) := (den_eq ..).trans (by kernel_rfl)
/-! 48: loop.example/g00905/laws.szZoneS -/
noncomputable def f48_l1 (t0 : List AV) (t1 : Int) (t5 : Int) : Option AV := Lp E fi48 [true, true, true, false, true, false] (mkT 27 [(0, (.imm 6 t0)), (1, (.i .i64 t1)), (5, (.i .i64 t5))]) []
theorem f48_eq (x0 : List AV) (x1 : Int) : den E 48 [(.imm 6 x0), (.i .i64 x1)] [] =
 cond (decide ((IntKind.i64.wrap (x1 - ((x0.length : Nat) : Int))) < (0 : Int)))
 (some (.i .i64 (-1 : Int)))
 (f48_l1 x0 (IntKind.i64.wrap (x1 - ((x0.length : Nat) : Int))) (0 : Int)) := (den_eq ..).trans (by kernel_rfl)
theorem f48_l1_eq (t0 : List AV) (t1 : Int) (t5 : Int) : f48_l1 t0 t1 t5 =
 cond (decide (t5 < ((t0.length : Nat) : Int)))
 (if 0 ≤ t5 ∧ t5 < ((t0.length : Nat) : Int) then
 if okCells false (t0.getD t5.toNat .x) 0 [(.i .i64), (.sl 2 1), (.i .i64), (.i .i64), (.sl 2 1), (.sl 9 1)] = true then
 bSh (.i .i64) (den E 90 [(.agg [(.i .i64 (((t0.getD t5.toNat .x).cells.getD 0 .x).toI)), (.imm 1 (((t0.getD t5.toNat .x).cells.getD 1 .x).toL)), (.i .i64 (((t0.getD t5.toNat .x).cells.getD 2 .x).toI)), (.i .i64 (((t0.getD t5.toNat .x).cells.getD 3 .x).toI)), (.imm 1 (((t0.getD t5.toNat .x).cells.getD 4 .x).toL)), (.imm 1 (((t0.getD t5.toNat .x).cells.getD 5 .x).toL))]), (.i .i64 t1)] []) fun a1 =>
 cond (decide (a1.toI < (0 : Int)))
 (some (.i .i64 (-1 : Int)))
 (f48_l1 t0 a1.toI (IntKind.i64.wrap (t5 + (1 : Int))))
 else none
 else none)
 (some (.i .i64 t1)) := (Lp_eq ..).trans (by kernel_rfl)
/-! 10: loop.example/g00905/laws.szDevice -/
theorem f10_eq (x0_0 : Int) (x0_1 : Int) (x0_2 : Int) (x0_3 : List AV) (x0_4 : Int) (x0_5 : Int) (x0_6 : Bool) (x0_7 : Int) (x0_8 : List AV) (x1 : Int) : den E 10 [(.agg [(.i .i64 x0_0), (.i .i64 x0_1), (.i .i64 x0_2), (.imm 4 x0_3), (.i .i64 x0_4), (.i .i64 x0_5), (.b x0_6), (.i .i64 x0_7), (.imm 6 x0_8)]), (.i .i64 x1)] [] =
 bSh (.i .i64) (den E 47 [(.agg [(.i .i64 x0_0), (.i .i64 x0_1), (.i .i64 x0_2), (.imm 4 x0_3), (.i .i64 x0_4), (.i .i64 x0_5), (.b x0_6), (.i .i64 x0_7)]), (.i .i64 x1)] []) fun a1 =>
 cond (decide (a1.toI < (0 : Int)))
 (some (.i .i64 (-1 : Int)))
 (bSh (.i .i64) (den E 48 [(.imm 6 x0_8), (.i .i64 a1.toI)] []) fun a2 =>
 cond (decide (a2.toI < (0 : Int)))
 (some (.i .i64 (-1 : Int)))
 (some (.i .i64 a2.toI))) := (den_eq ..).trans (by kernel_rfl)
/-! 98: loop.example/g00905/laws.toGeometry -/
theorem f98_eq (x0_0 : Int) (x0_1 : Int) (x0_2 : Int) : den E 98 [(.agg [(.i .i64 x0_0), (.i .i64 x0_1), (.i .i64 x0_2)])] [] =
 some (.agg [(.i .i64 x0_0), (.i .i64 x0_1), (.i .i64 x0_2)]) := (den_eq ..).trans (by kernel_rfl)
/-! 148: loop.example/g00905/laws.toStringS -/
noncomputable def f148_l1 (t0 : List AV) (t4 : Int) (r0 : List AV) (r1 : List AV) : Option AV := Lp E fi148 [true, true, false, true, false] (mkT 22 [(0, (.imm 1 t0)), (3, (.sl 1 [] none)), (4, (.i .i64 t4))]) [(.live true false false 9 r0), (.live true false false 9 r1)]
theorem f148_eq (x0 : List AV) : den E 148 [(.imm 1 x0)] [] =
 if 0 ≤ ((x0.length : Nat) : Int) ∧ ((x0.length : Nat) : Int) ≤ ((x0.length : Nat) : Int) ∧ ((x0.length : Nat) : Int) * ((16 : Nat) : Int) ≤ ((room : Nat) : Int) ∧ ((x0.length : Nat) : Int) ≤ 9223372036854775807 then
 f148_l1 x0 (0 : Int) [] (List.replicate ((x0.length : Nat) : Int).toNat (.s .empty))
 else none := (den_eq ..).trans (by kernel_rfl)
theorem f148_l1_eq (t0 : List AV) (t4 : Int) (r0 : List AV) (r1 : List AV) : f148_l1 t0 t4 r0 r1 =
 cond (decide (t4 < ((t0.length : Nat) : Int)))
 (if 0 ≤ t4 ∧ t4 < ((t0.length : Nat) : Int) then
 if okCells false (t0.getD t4.toNat .x) 0 [.s] = true then
 if 0 ≤ t4 ∧ t4 < ((r1.length : Nat) : Int) then
 f148_l1 t0 (IntKind.i64.wrap (t4 + (1 : Int))) r0 (r1.set (0 + t4.toNat) ((r1.getD (0 + t4.toNat) .x).putCells 0 [(.s (((t0.getD t4.toNat .x).cells.getD 0 .x).toS))]))
 else none
 else none
 else none)
 (some (.imm 1 r1)) := (Lp_eq ..).trans (by kernel_rfl)
/-! 147: loop.example/g00905/laws.toBlock -/
theorem f147_eq (x0_0 : Int) (x0_1 : Int) (x0_2 : Bool) (x0_3 : List AV) : den E 147 [(.agg [(.i .i64 x0_0), (.i .i64 x0_1), (.b x0_2), (.imm 1 x0_3)])] [] =
 bSh (.sl 9 1) (den E 148 [(.imm 1 x0_3)] []) fun a1 =>
 some (.agg [(.i .i64 x0_0), (.i .i64 x0_1), (.b x0_2), (.imm 1 a1.toL)]) := (den_eq ..).trans (by kernel_rfl)
/-! 99: loop.example/g00905/laws.toBlockS -/
noncomputable def f99_l1 (t0 : List AV) (t4 : Int) (r0 : List AV) (r1 : List AV) : Option AV := Lp E fi99 [true, true, false, true, false] (mkT 23 [(0, (.imm 4 t0)), (3, (.sl 1 [] none)), (4, (.i .i64 t4))]) [(.live true false false 130 r0), (.live true false false 130 r1)]
theorem f99_eq (x0 : List AV) : den E 99 [(.imm 4 x0)] [] =
 if 0 ≤ ((x0.length : Nat) : Int) ∧ ((x0.length : Nat) : Int) ≤ ((x0.length : Nat) : Int) ∧ ((x0.length : Nat) : Int) * ((48 : Nat) : Int) ≤ ((room : Nat) : Int) ∧ ((x0.length : Nat) : Int) ≤ 9223372036854775807 then
 f99_l1 x0 (0 : Int) [] (List.replicate ((x0.length : Nat) : Int).toNat (.agg [(.i .i64 (0 : Int)), (.i .i64 (0 : Int)), (.b false), (.imm 1 [])]))
 else none := (den_eq ..).trans (by kernel_rfl)
theorem f99_l1_eq (t0 : List AV) (t4 : Int) (r0 : List AV) (r1 : List AV) : f99_l1 t0 t4 r0 r1 =
 cond (decide (t4 < ((t0.length : Nat) : Int)))
 (if 0 ≤ t4 ∧ t4 < ((t0.length : Nat) : Int) then
 if okCells false (t0.getD t4.toNat .x) 0 [(.i .i64), (.i .i64), .b, (.sl 9 1)] = true then
 bSh (.agg [(.i .i64), (.i .i64), .b, (.sl 9 1)]) (den E 147 [(.agg [(.i .i64 (((t0.getD t4.toNat .x).cells.getD 0 .x).toI)), (.i .i64 (((t0.getD t4.toNat .x).cells.getD 1 .x).toI)), (.b (((t0.getD t4.toNat .x).cells.getD 2 .x).toB)), (.imm 1 (((t0.getD t4.toNat .x).cells.getD 3 .x).toL))])] []) fun a1 =>
 if 0 ≤ t4 ∧ t4 < ((r1.length : Nat) : Int) then
 f99_l1 t0 (IntKind.i64.wrap (t4 + (1 : Int))) r0 (r1.set (0 + t4.toNat) ((r1.getD (0 + t4.toNat) .x).putCells 0 [(.i .i64 ((a1.nth 0).toI)), (.i .i64 ((a1.nth 1).toI)), (.b ((a1.nth 2).toB)), (.imm 1 ((a1.nth 3).toL))]))
 else none
 else none
 else none)
 (some (.imm 4 r1)) := (Lp_eq ..).trans (by kernel_rfl)
/-! 52: loop.example/g00905/laws.toFlash -/
theorem f52_eq (x0_0 : Int) (x0_1 : Int) (x0_2 : Int) (x0_3 : List AV) (x0_4 : Int) (x0_5 : Int) (x0_6 : Bool) (x0_7 : Int) : den E 52 [(.agg [(.i .i64 x0_0), (.i .i64 x0_1), (.i .i64 x0_2), (.imm 4 x0_3), (.i .i64 x0_4), (.i .i64 x0_5), (.b x0_6), (.i .i64 x0_7)])] [] =
 bSh (.agg [(.i .i64), (.i .i64), (.i .i64)]) (den E 98 [(.agg [(.i .i64 x0_0), (.i .i64 x0_1), (.i .i64 x0_2)])] []) fun a1 =>
 bSh (.sl 130 4) (den E 99 [(.imm 4 x0_3)] []) fun a2 =>
 some (.agg [(.i .i64 ((a1.nth 0).toI)), (.i .i64 ((a1.nth 1).toI)), (.i .i64 ((a1.nth 2).toI)), (.imm 4 a2.toL), (.i .i64 x0_4), (.i .i64 x0_5), (.b x0_6), (.i .i64 x0_7)]) := (den_eq ..).trans (by kernel_rfl)
/-! 27: loop.example/g00905/laws.toInt64S -/
noncomputable def f27_l1 (t0 : List AV) (t4 : Int) (r0 : List AV) (r1 : List AV) : Option AV := Lp E fi27 [true, true, false, true, false] (mkT 22 [(0, (.imm 1 t0)), (3, (.sl 1 [] none)), (4, (.i .i64 t4))]) [(.live true false false 2 r0), (.live true false false 2 r1)]
theorem f27_eq (x0 : List AV) : den E 27 [(.imm 1 x0)] [] =
 if 0 ≤ ((x0.length : Nat) : Int) ∧ ((x0.length : Nat) : Int) ≤ ((x0.length : Nat) : Int) ∧ ((x0.length : Nat) : Int) * ((8 : Nat) : Int) ≤ ((room : Nat) : Int) ∧ ((x0.length : Nat) : Int) ≤ 9223372036854775807 then
 f27_l1 x0 (0 : Int) [] (List.replicate ((x0.length : Nat) : Int).toNat (.i .i64 (0 : Int)))
 else none := (den_eq ..).trans (by kernel_rfl)
theorem f27_l1_eq (t0 : List AV) (t4 : Int) (r0 : List AV) (r1 : List AV) : f27_l1 t0 t4 r0 r1 =
 cond (decide (t4 < ((t0.length : Nat) : Int)))
 (if 0 ≤ t4 ∧ t4 < ((t0.length : Nat) : Int) then
 if okCells false (t0.getD t4.toNat .x) 0 [(.i .i64)] = true then
 if 0 ≤ t4 ∧ t4 < ((r1.length : Nat) : Int) then
 f27_l1 t0 (IntKind.i64.wrap (t4 + (1 : Int))) r0 (r1.set (0 + t4.toNat) ((r1.getD (0 + t4.toNat) .x).putCells 0 [(.i .i64 (((t0.getD t4.toNat .x).cells.getD 0 .x).toI))]))
 else none
 else none
 else none)
 (some (.imm 1 r1)) := (Lp_eq ..).trans (by kernel_rfl)
/-! 100: loop.example/g00905/laws.toZone -/
theorem f100_eq (x0_0 : Int) (x0_1 : List AV) (x0_2 : Int) (x0_3 : Int) (x0_4 : List AV) (x0_5 : List AV) : den E 100 [(.agg [(.i .i64 x0_0), (.imm 1 x0_1), (.i .i64 x0_2), (.i .i64 x0_3), (.imm 1 x0_4), (.imm 1 x0_5)])] [] =
 bSh (.sl 2 1) (den E 27 [(.imm 1 x0_1)] []) fun a1 =>
 bSh (.sl 2 1) (den E 27 [(.imm 1 x0_4)] []) fun a2 =>
 bSh (.sl 9 1) (den E 148 [(.imm 1 x0_5)] []) fun a3 =>
 some (.agg [(.i .i64 x0_0), (.imm 1 a1.toL), (.i .i64 x0_2), (.i .i64 x0_3), (.imm 1 a2.toL), (.imm 1 a3.toL)]) := (den_eq ..).trans (by kernel_rfl)
/-! 53: loop.example/g00905/laws.toZoneS -/
noncomputable def f53_l1 (t0 : List AV) (t4 : Int) (r0 : List AV) (r1 : List AV) : Option AV := Lp E fi53 [true, true, false, true, false] (mkT 23 [(0, (.imm 6 t0)), (3, (.sl 1 [] none)), (4, (.i .i64 t4))]) [(.live true false false 124 r0), (.live true false false 124 r1)]
theorem f53_eq (x0 : List AV) : den E 53 [(.imm 6 x0)] [] =
 if 0 ≤ ((x0.length : Nat) : Int) ∧ ((x0.length : Nat) : Int) ≤ ((x0.length : Nat) : Int) ∧ ((x0.length : Nat) : Int) * ((96 : Nat) : Int) ≤ ((room : Nat) : Int) ∧ ((x0.length : Nat) : Int) ≤ 9223372036854775807 then
 f53_l1 x0 (0 : Int) [] (List.replicate ((x0.length : Nat) : Int).toNat (.agg [(.i .i64 (0 : Int)), (.imm 1 []), (.i .i64 (0 : Int)), (.i .i64 (0 : Int)), (.imm 1 []), (.imm 1 [])]))
 else none := (den_eq ..).trans (by kernel_rfl)
theorem f53_l1_eq (t0 : List AV) (t4 : Int) (r0 : List AV) (r1 : List AV) : f53_l1 t0 t4 r0 r1 =
 cond (decide (t4 < ((t0.length : Nat) : Int)))
 (if 0 ≤ t4 ∧ t4 < ((t0.length : Nat) : Int) then
 if okCells false (t0.getD t4.toNat .x) 0 [(.i .i64), (.sl 2 1), (.i .i64), (.i .i64), (.sl 2 1), (.sl 9 1)] = true then
 bSh (.agg [(.i .i64), (.sl 2 1), (.i .i64), (.i .i64), (.sl 2 1), (.sl 9 1)]) (den E 100 [(.agg [(.i .i64 (((t0.getD t4.toNat .x).cells.getD 0 .x).toI)), (.imm 1 (((t0.getD t4.toNat .x).cells.getD 1 .x).toL)), (.i .i64 (((t0.getD t4.toNat .x).cells.getD 2 .x).toI)), (.i .i64 (((t0.getD t4.toNat .x).cells.getD 3 .x).toI)), (.imm 1 (((t0.getD t4.toNat .x).cells.getD 4 .x).toL)), (.imm 1 (((t0.getD t4.toNat .x).cells.getD 5 .x).toL))])] []) fun a1 =>
 if 0 ≤ t4 ∧ t4 < ((r1.length : Nat) : Int) then
 f53_l1 t0 (IntKind.i64.wrap (t4 + (1 : Int))) r0 (r1.set (0 + t4.toNat) ((r1.getD (0 + t4.toNat) .x).putCells 0 [(.i .i64 ((a1.nth 0).toI)), (.imm 1 ((a1.nth 1).toL)), (.i .i64 ((a1.nth 2).toI)), (.i .i64 ((a1.nth 3).toI)), (.imm 1 ((a1.nth 4).toL)), (.imm 1 ((a1.nth 5).toL))]))
 else none
 else none
 else none)
 (some (.imm 6 r1)) := (Lp_eq ..).trans (by kernel_rfl)
/-! 12: loop.example/g00905/laws.toDevice -/
theorem f12_eq (x0_0 : Int) (x0_1 : Int) (x0_2 : Int) (x0_3 : List AV) (x0_4 : Int) (x0_5 : Int) (x0_6 : Bool) (x0_7 : Int) (x0_8 : List AV) : den E 12 [(.agg [(.i .i64 x0_0), (.i .i64 x0_1), (.i .i64 x0_2), (.imm 4 x0_3), (.i .i64 x0_4), (.i .i64 x0_5), (.b x0_6), (.i .i64 x0_7), (.imm 6 x0_8)])] [] =
 bSh (.agg [(.i .i64), (.i .i64), (.i .i64), (.sl 130 4), (.i .i64), (.i .i64), .b, (.i .i64)]) (den E 52 [(.agg [(.i .i64 x0_0), (.i .i64 x0_1), (.i .i64 x0_2), (.imm 4 x0_3), (.i .i64 x0_4), (.i .i64 x0_5), (.b x0_6), (.i .i64 x0_7)])] []) fun a1 =>
 bSh (.sl 124 6) (den E 53 [(.imm 6 x0_8)] []) fun a2 =>
 some (.agg [(.i .i64 ((a1.nth 0).toI)), (.i .i64 ((a1.nth 1).toI)), (.i .i64 ((a1.nth 2).toI)), (.imm 4 ((a1.nth 3).toL)), (.i .i64 ((a1.nth 4).toI)), (.i .i64 ((a1.nth 5).toI)), (.b ((a1.nth 6).toB)), (.i .i64 ((a1.nth 7).toI)), (.imm 6 a2.toL)]) := (den_eq ..).trans (by kernel_rfl)
/-! 97: loop.example/g00905/spec.l00In -/
theorem f97_eq (x0 : Int) (x1 : Int) (x2 : Int) : den E 97 [(.i .i64 x0), (.i .i64 x1), (.i .i64 x2)] [] =
 cond ((decide (x1 ≤ x0)) == true)
 (some (.b (decide (x0 ≤ x2))))
 (some (.b false)) := (den_eq ..).trans (by kernel_rfl)
/-! 144: loop.example/g00905/spec.ValidGeometry -/
theorem f144_eq (x0_0 : Int) (x0_1 : Int) (x0_2 : Int) : den E 144 [(.agg [(.i .i64 x0_0), (.i .i64 x0_1), (.i .i64 x0_2)])] [] =
 bSh .b (den E 97 [(.i .i64 x0_0), (.i .i64 (2 : Int)), (.i .i64 (3 : Int))] []) fun a1 =>
 cond (a1.toB == true)
 (bSh .b (den E 97 [(.i .i64 x0_1), (.i .i64 (4 : Int)), (.i .i64 (12 : Int))] []) fun a2 =>
 cond (a2.toB == true)
 (cond ((decide (x0_2 = (8 : Int))) == false)
 (some (.b (decide (x0_2 = (16 : Int)))))
 (some (.b true)))
 (some (.b false)))
 (some (.b false)) := (den_eq ..).trans (by kernel_rfl)
/-! 145: loop.example/g00905/spec.l06Block -/
noncomputable def f145_l1 (t1 : Int) (t5 : Int) (r0_0 : Int) (r0_1 : Int) (r0_2 : Bool) (r0_3 : List AV) : Option AV := Lp E fi145 [true, true, false, true, false] (mkT 48 [(1, (.i .i64 t1)), (2, (.pt 0 [] 0 0)), (5, (.i .i64 t5))]) [(.live false true false 130 [(.agg [(.i .i64 r0_0), (.i .i64 r0_1), (.b r0_2), (.imm 1 r0_3)])])]
noncomputable def f145_j2 (t1 : Int) (t5 : Int) (r0_0 : Int) (r0_1 : Int) (r0_2 : Bool) (r0_3 : List AV) : Option AV := Jn E fi145 [true, true, false, true, false, false, true, true] (mkT 48 [(1, (.i .i64 t1)), (2, (.pt 0 [] 0 0)), (5, (.i .i64 t5))]) [(.live false true false 130 [(.agg [(.i .i64 r0_0), (.i .i64 r0_1), (.b r0_2), (.imm 1 r0_3)])])]
theorem f145_eq (x0_0 : Int) (x0_1 : Int) (x0_2 : Bool) (x0_3 : List AV) (x1 : Int) : den E 145 [(.agg [(.i .i64 x0_0), (.i .i64 x0_1), (.b x0_2), (.imm 1 x0_3)]), (.i .i64 x1)] [] =
 bSh .b (den E 97 [(.i .i64 x0_0), (.i .i64 (0 : Int)), (.i .i64 (1000 : Int))] []) fun a1 =>
 cond ((!a1.toB) == false)
 (bSh .b (den E 97 [(.i .i64 x0_1), (.i .i64 (0 : Int)), (.i .i64 x1)] []) fun a2 =>
 cond ((!a2.toB) == false)
 (cond (!decide (((x0_3.length : Nat) : Int) = x1))
 (some (.b false))
 (f145_l1 x1 (0 : Int) x0_0 x0_1 x0_2 x0_3))
 (some (.b false)))
 (some (.b false)) := (den_eq ..).trans (by kernel_rfl)
theorem f145_l1_eq (t1 : Int) (t5 : Int) (r0_0 : Int) (r0_1 : Int) (r0_2 : Bool) (r0_3 : List AV) : f145_l1 t1 t5 r0_0 r0_1 r0_2 r0_3 =
 cond (decide (t5 < t1))
 (if 0 ≤ t5 ∧ t5 < ((r0_3.length : Nat) : Int) then
 if okCells false (r0_3.getD t5.toNat .x) 0 [.s] = true then
 cond ((!decide ((((((r0_3.getD t5.toNat .x).cells.getD 0 .x).toS).size : Nat) : Int) = (0 : Int))) == true)
 (cond ((!decide ((((((r0_3.getD t5.toNat .x).cells.getD 0 .x).toS).size : Nat) : Int) = (91 : Int))) == false)
 (cond (decide (r0_1 ≤ t5))
 (some (.b false))
 (f145_j2 t1 t5 r0_0 r0_1 r0_2 r0_3))
 (some (.b false)))
 (f145_j2 t1 t5 r0_0 r0_1 r0_2 r0_3)
 else none
 else none)
 (some (.b true)) := (Lp_eq ..).trans (by kernel_rfl)
theorem f145_j2_eq (t1 : Int) (t5 : Int) (r0_0 : Int) (r0_1 : Int) (r0_2 : Bool) (r0_3 : List AV) : f145_j2 t1 t5 r0_0 r0_1 r0_2 r0_3 =
 f145_l1 t1 (IntKind.i64.wrap (t5 + (1 : Int))) r0_0 r0_1 r0_2 r0_3 := by kernel_rfl
/-! 91: loop.example/g00905/spec.ValidFlash -/
noncomputable def f91_l1 (t3 : Int) (r0_0 : Int) (r0_1 : Int) (r0_2 : Int) (r0_3 : List AV) (r0_4 : Int) (r0_5 : Int) (r0_6 : Bool) (r0_7 : Int) : Option AV := Lp E fi91 [true, true, false, true, false] (mkT 55 [(1, (.pt 0 [] 0 0)), (3, (.i .i64 t3))]) [(.live false true false 35 [(.agg [(.i .i64 r0_0), (.i .i64 r0_1), (.i .i64 r0_2), (.imm 4 r0_3), (.i .i64 r0_4), (.i .i64 r0_5), (.b r0_6), (.i .i64 r0_7)])])]
theorem f91_eq (x0_0 : Int) (x0_1 : Int) (x0_2 : Int) (x0_3 : List AV) (x0_4 : Int) (x0_5 : Int) (x0_6 : Bool) (x0_7 : Int) : den E 91 [(.agg [(.i .i64 x0_0), (.i .i64 x0_1), (.i .i64 x0_2), (.imm 4 x0_3), (.i .i64 x0_4), (.i .i64 x0_5), (.b x0_6), (.i .i64 x0_7)])] [] =
 bSh .b (den E 144 [(.agg [(.i .i64 x0_0), (.i .i64 x0_1), (.i .i64 x0_2)])] []) fun a1 =>
 cond ((!a1.toB) == false)
 (cond ((!decide (((x0_3.length : Nat) : Int) = (IntKind.i64.wrap (x0_0 * x0_1)))) == false)
 (bSh .b (den E 97 [(.i .i64 x0_4), (.i .i64 (-1 : Int)), (.i .i64 (1000000 : Int))] []) fun a2 =>
 cond ((!a2.toB) == false)
 (bSh .b (den E 97 [(.i .i64 x0_5), (.i .i64 (0 : Int)), (.i .i64 (91 : Int))] []) fun a3 =>
 cond ((!a3.toB) == false)
 (cond (decide (x0_7 < (0 : Int)))
 (some (.b false))
 (f91_l1 (0 : Int) x0_0 x0_1 x0_2 x0_3 x0_4 x0_5 x0_6 x0_7))
 (some (.b false)))
 (some (.b false)))
 (some (.b false)))
 (some (.b false)) := (den_eq ..).trans (by kernel_rfl)
theorem f91_l1_eq (t3 : Int) (r0_0 : Int) (r0_1 : Int) (r0_2 : Int) (r0_3 : List AV) (r0_4 : Int) (r0_5 : Int) (r0_6 : Bool) (r0_7 : Int) : f91_l1 t3 r0_0 r0_1 r0_2 r0_3 r0_4 r0_5 r0_6 r0_7 =
 cond (decide (t3 < ((r0_3.length : Nat) : Int)))
 (if 0 ≤ t3 ∧ t3 < ((r0_3.length : Nat) : Int) then
 if okCells false (r0_3.getD t3.toNat .x) 0 [(.i .i64), (.i .i64), .b, (.sl 9 1)] = true then
 bSh .b (den E 145 [(.agg [(.i .i64 (((r0_3.getD t3.toNat .x).cells.getD 0 .x).toI)), (.i .i64 (((r0_3.getD t3.toNat .x).cells.getD 1 .x).toI)), (.b (((r0_3.getD t3.toNat .x).cells.getD 2 .x).toB)), (.imm 1 (((r0_3.getD t3.toNat .x).cells.getD 3 .x).toL))]), (.i .i64 r0_2)] []) fun a1 =>
 cond (!a1.toB)
 (some (.b false))
 (f91_l1 (IntKind.i64.wrap (t3 + (1 : Int))) r0_0 r0_1 r0_2 r0_3 r0_4 r0_5 r0_6 r0_7)
 else none
 else none)
 (some (.b true)) := (Lp_eq ..).trans (by kernel_rfl)
/-! 92: loop.example/g00905/spec.l00Min -/
theorem f92_eq (x0 : Int) (x1 : Int) : den E 92 [(.i .i64 x0), (.i .i64 x1)] [] =
 cond (decide (x0 < x1))
 (some (.i .i64 x0))
 (some (.i .i64 x1)) := (den_eq ..).trans (by kernel_rfl)
/-! 93: loop.example/g00905/spec.l16Blocks -/
noncomputable def f93_l1 (t5 : Int) (r0_0 : Int) (r0_1 : Int) (r0_2 : Int) (r1_0 : Int) (r1_1 : List AV) (r1_2 : Int) (r1_3 : Int) (r1_4 : List AV) (r1_5 : List AV) : Option AV := Lp E fi93 [true, true, false, true, false] (mkT 35 [(2, (.pt 0 [] 0 0)), (3, (.pt 1 [] 0 0)), (5, (.i .i64 t5))]) [(.live false true false 32 [(.agg [(.i .i64 r0_0), (.i .i64 r0_1), (.i .i64 r0_2)])]), (.live false true false 124 [(.agg [(.i .i64 r1_0), (.imm 1 r1_1), (.i .i64 r1_2), (.i .i64 r1_3), (.imm 1 r1_4), (.imm 1 r1_5)])])]
theorem f93_eq (x0_0 : Int) (x0_1 : Int) (x0_2 : Int) (x1_0 : Int) (x1_1 : List AV) (x1_2 : Int) (x1_3 : Int) (x1_4 : List AV) (x1_5 : List AV) : den E 93 [(.agg [(.i .i64 x0_0), (.i .i64 x0_1), (.i .i64 x0_2)]), (.agg [(.i .i64 x1_0), (.imm 1 x1_1), (.i .i64 x1_2), (.i .i64 x1_3), (.imm 1 x1_4), (.imm 1 x1_5)])] [] =
 cond (!decide (((x1_1.length : Nat) : Int) = x0_0))
 (some (.b false))
 (f93_l1 (0 : Int) x0_0 x0_1 x0_2 x1_0 x1_1 x1_2 x1_3 x1_4 x1_5) := (den_eq ..).trans (by kernel_rfl)
theorem f93_l1_eq (t5 : Int) (r0_0 : Int) (r0_1 : Int) (r0_2 : Int) (r1_0 : Int) (r1_1 : List AV) (r1_2 : Int) (r1_3 : Int) (r1_4 : List AV) (r1_5 : List AV) : f93_l1 t5 r0_0 r0_1 r0_2 r1_0 r1_1 r1_2 r1_3 r1_4 r1_5 =
 cond (decide (t5 < r0_0))
 (if 0 ≤ t5 ∧ t5 < ((r1_1.length : Nat) : Int) then
 if okCells false (r1_1.getD t5.toNat .x) 0 [(.i .i64)] = true then
 bSh .b (den E 97 [(.i .i64 (((r1_1.getD t5.toNat .x).cells.getD 0 .x).toI)), (.i .i64 (IntKind.i64.wrap (t5 * r0_1))), (.i .i64 (IntKind.i64.wrap ((IntKind.i64.wrap ((IntKind.i64.wrap (t5 + (1 : Int))) * r0_1)) - (1 : Int))))] []) fun a1 =>
 cond (!a1.toB)
 (some (.b false))
 (f93_l1 (IntKind.i64.wrap (t5 + (1 : Int))) r0_0 r0_1 r0_2 r1_0 r1_1 r1_2 r1_3 r1_4 r1_5)
 else none
 else none)
 (some (.b true)) := (Lp_eq ..).trans (by kernel_rfl)
/-! 146: loop.example/g00905/spec.l16Sum -/
noncomputable def f146_l1 (t0 : List AV) (t3 : Int) (t4 : Int) : Option AV := Lp E fi146 [true, true, false, true, false] (mkT 18 [(0, (.imm 1 t0)), (3, (.i .i64 t3)), (4, (.i .i64 t4))]) []
theorem f146_eq (x0 : List AV) : den E 146 [(.imm 1 x0)] [] =
 f146_l1 x0 (0 : Int) (0 : Int) := (den_eq ..).trans (by kernel_rfl)
theorem f146_l1_eq (t0 : List AV) (t3 : Int) (t4 : Int) : f146_l1 t0 t3 t4 =
 cond (decide (t4 < ((t0.length : Nat) : Int)))
 (if 0 ≤ t4 ∧ t4 < ((t0.length : Nat) : Int) then
 if okCells false (t0.getD t4.toNat .x) 0 [(.i .i64)] = true then
 f146_l1 t0 (IntKind.i64.wrap (t3 + (((t0.getD t4.toNat .x).cells.getD 0 .x).toI))) (IntKind.i64.wrap (t4 + (1 : Int)))
 else none
 else none)
 (some (.i .i64 t3)) := (Lp_eq ..).trans (by kernel_rfl)
/-! 94: loop.example/g00905/spec.l16Counts -/
noncomputable def f94_l1 (t5 : Int) (r0_0 : Int) (r0_1 : Int) (r0_2 : Int) (r1_0 : Int) (r1_1 : List AV) (r1_2 : Int) (r1_3 : Int) (r1_4 : List AV) (r1_5 : List AV) : Option AV := Lp E fi94 [true, true, false, true, false] (mkT 70 [(2, (.pt 0 [] 0 0)), (3, (.pt 1 [] 0 0)), (5, (.i .i64 t5))]) [(.live false true false 32 [(.agg [(.i .i64 r0_0), (.i .i64 r0_1), (.i .i64 r0_2)])]), (.live false true false 124 [(.agg [(.i .i64 r1_0), (.imm 1 r1_1), (.i .i64 r1_2), (.i .i64 r1_3), (.imm 1 r1_4), (.imm 1 r1_5)])])]
noncomputable def f94_l2 (t6 : Int) (r0_0 : Int) (r0_1 : Int) (r0_2 : Int) (r1_0 : Int) (r1_1 : List AV) (r1_2 : Int) (r1_3 : Int) (r1_4 : List AV) (r1_5 : List AV) : Option AV := Lp E fi94 [true, true, true, false, true, false] (mkT 70 [(3, (.pt 1 [] 0 0)), (6, (.i .i64 t6))]) [(.live false true false 32 [(.agg [(.i .i64 r0_0), (.i .i64 r0_1), (.i .i64 r0_2)])]), (.live false true false 124 [(.agg [(.i .i64 r1_0), (.imm 1 r1_1), (.i .i64 r1_2), (.i .i64 r1_3), (.imm 1 r1_4), (.imm 1 r1_5)])])]
theorem f94_eq (x0_0 : Int) (x0_1 : Int) (x0_2 : Int) (x1_0 : Int) (x1_1 : List AV) (x1_2 : Int) (x1_3 : Int) (x1_4 : List AV) (x1_5 : List AV) : den E 94 [(.agg [(.i .i64 x0_0), (.i .i64 x0_1), (.i .i64 x0_2)]), (.agg [(.i .i64 x1_0), (.imm 1 x1_1), (.i .i64 x1_2), (.i .i64 x1_3), (.imm 1 x1_4), (.imm 1 x1_5)])] [] =
 cond ((decide (x0_2 < ((x1_4.length : Nat) : Int))) == false)
 (cond (decide ((IntKind.i64.wrap (x0_0 - (1 : Int))) ≤ ((x1_5.length : Nat) : Int)))
 (some (.b false))
 (f94_l1 (0 : Int) x0_0 x0_1 x0_2 x1_0 x1_1 x1_2 x1_3 x1_4 x1_5))
 (some (.b false)) := (den_eq ..).trans (by kernel_rfl)
theorem f94_l1_eq (t5 : Int) (r0_0 : Int) (r0_1 : Int) (r0_2 : Int) (r1_0 : Int) (r1_1 : List AV) (r1_2 : Int) (r1_3 : Int) (r1_4 : List AV) (r1_5 : List AV) : f94_l1 t5 r0_0 r0_1 r0_2 r1_0 r1_1 r1_2 r1_3 r1_4 r1_5 =
 cond (decide (t5 < ((r1_4.length : Nat) : Int)))
 (if 0 ≤ t5 ∧ t5 < ((r1_4.length : Nat) : Int) then
 if okCells false (r1_4.getD t5.toNat .x) 0 [(.i .i64)] = true then
 bSh .b (den E 97 [(.i .i64 (((r1_4.getD t5.toNat .x).cells.getD 0 .x).toI)), (.i .i64 (1 : Int)), (.i .i64 (IntKind.i64.wrap (r0_0 - (1 : Int))))] []) fun a1 =>
 cond (!a1.toB)
 (some (.b false))
 (f94_l1 (IntKind.i64.wrap (t5 + (1 : Int))) r0_0 r0_1 r0_2 r1_0 r1_1 r1_2 r1_3 r1_4 r1_5)
 else none
 else none)
 (f94_l2 (0 : Int) r0_0 r0_1 r0_2 r1_0 r1_1 r1_2 r1_3 r1_4 r1_5) := (Lp_eq ..).trans (by kernel_rfl)
theorem f94_l2_eq (t6 : Int) (r0_0 : Int) (r0_1 : Int) (r0_2 : Int) (r1_0 : Int) (r1_1 : List AV) (r1_2 : Int) (r1_3 : Int) (r1_4 : List AV) (r1_5 : List AV) : f94_l2 t6 r0_0 r0_1 r0_2 r1_0 r1_1 r1_2 r1_3 r1_4 r1_5 =
 cond (decide (t6 < ((r1_5.length : Nat) : Int)))
 (if 0 ≤ t6 ∧ t6 < ((r1_5.length : Nat) : Int) then
 if okCells false (r1_5.getD t6.toNat .x) 0 [.s] = true then
 cond (decide ((64 : Int) < (((((r1_5.getD t6.toNat .x).cells.getD 0 .x).toS).size : Nat) : Int)))
 (some (.b false))
 (f94_l2 (IntKind.i64.wrap (t6 + (1 : Int))) r0_0 r0_1 r0_2 r1_0 r1_1 r1_2 r1_3 r1_4 r1_5)
 else none
 else none)
 (bSh (.i .i64) (den E 146 [(.imm 1 r1_4)] []) fun a1 =>
 cond ((decide (r1_3 = a1.toI)) == true)
 (some (.b (decide (r1_2 = (IntKind.i64.wrap (r1_3 + ((r1_5.length : Nat) : Int)))))))
 (some (.b false))) := (Lp_eq ..).trans (by kernel_rfl)
/-! 95: loop.example/g00905/spec.l16State -/
noncomputable def f95_j1 (t5 : Int) (r0_0 : Int) (r0_1 : Int) (r0_2 : Int) (r0_3 : List AV) (r0_4 : Int) (r0_5 : Int) (r0_6 : Bool) (r0_7 : Int) (r1_0 : Int) (r1_1 : List AV) (r1_2 : Int) (r1_3 : Int) (r1_4 : List AV) (r1_5 : List AV) : Option AV := Jn E fi95 [true, true, true] (mkT 74 [(2, (.pt 0 [] 0 0)), (3, (.pt 1 [] 0 0)), (5, (.i .i64 t5))]) [(.live false true false 35 [(.agg [(.i .i64 r0_0), (.i .i64 r0_1), (.i .i64 r0_2), (.imm 4 r0_3), (.i .i64 r0_4), (.i .i64 r0_5), (.b r0_6), (.i .i64 r0_7)])]), (.live false true false 124 [(.agg [(.i .i64 r1_0), (.imm 1 r1_1), (.i .i64 r1_2), (.i .i64 r1_3), (.imm 1 r1_4), (.imm 1 r1_5)])])]
noncomputable def f95_l2 (t5 : Int) (t6 : Int) (r0_0 : Int) (r0_1 : Int) (r0_2 : Int) (r0_3 : List AV) (r0_4 : Int) (r0_5 : Int) (r0_6 : Bool) (r0_7 : Int) (r1_0 : Int) (r1_1 : List AV) (r1_2 : Int) (r1_3 : Int) (r1_4 : List AV) (r1_5 : List AV) : Option AV := Lp E fi95 [true, true, true, false, true, false] (mkT 74 [(2, (.pt 0 [] 0 0)), (3, (.pt 1 [] 0 0)), (5, (.i .i64 t5)), (6, (.i .i64 t6))]) [(.live false true false 35 [(.agg [(.i .i64 r0_0), (.i .i64 r0_1), (.i .i64 r0_2), (.imm 4 r0_3), (.i .i64 r0_4), (.i .i64 r0_5), (.b r0_6), (.i .i64 r0_7)])]), (.live false true false 124 [(.agg [(.i .i64 r1_0), (.imm 1 r1_1), (.i .i64 r1_2), (.i .i64 r1_3), (.imm 1 r1_4), (.imm 1 r1_5)])])]
theorem f95_eq (x0_0 : Int) (x0_1 : Int) (x0_2 : Int) (x0_3 : List AV) (x0_4 : Int) (x0_5 : Int) (x0_6 : Bool) (x0_7 : Int) (x1_0 : Int) (x1_1 : List AV) (x1_2 : Int) (x1_3 : Int) (x1_4 : List AV) (x1_5 : List AV) : den E 95 [(.agg [(.i .i64 x0_0), (.i .i64 x0_1), (.i .i64 x0_2), (.imm 4 x0_3), (.i .i64 x0_4), (.i .i64 x0_5), (.b x0_6), (.i .i64 x0_7)]), (.agg [(.i .i64 x1_0), (.imm 1 x1_1), (.i .i64 x1_2), (.i .i64 x1_3), (.imm 1 x1_4), (.imm 1 x1_5)])] [] =
 cond (decide (x1_0 = (3 : Int)))
 (some (.b (decide (((x1_5.length : Nat) : Int) = (0 : Int)))))
 (cond (decide (x1_0 = (4 : Int)))
 (cond ((decide (((x1_4.length : Nat) : Int) = (0 : Int))) == true)
 (some (.b (decide (((x1_5.length : Nat) : Int) = (0 : Int)))))
 (some (.b false)))
 (cond (decide (x1_0 = (1 : Int)))
 (cond ((decide ((0 : Int) < ((x1_4.length : Nat) : Int))) == false)
 (cond (decide ((0 : Int) < ((x1_5.length : Nat) : Int)))
 (some (.b false))
 (f95_j1 ((x1_4.length : Nat) : Int) x0_0 x0_1 x0_2 x0_3 x0_4 x0_5 x0_6 x0_7 x1_0 x1_1 x1_2 x1_3 x1_4 x1_5))
 (some (.b false)))
 (cond (decide (x1_0 = (2 : Int)))
 (cond ((decide (((x1_4.length : Nat) : Int) = (0 : Int))) == true)
 (cond ((decide (((x1_5.length : Nat) : Int) = (0 : Int))) == false)
 (cond (decide (x0_2 ≤ ((x1_4.length : Nat) : Int)))
 (some (.b false))
 (f95_j1 ((x1_4.length : Nat) : Int) x0_0 x0_1 x0_2 x0_3 x0_4 x0_5 x0_6 x0_7 x1_0 x1_1 x1_2 x1_3 x1_4 x1_5))
 (some (.b false)))
 (cond (decide (x0_2 ≤ ((x1_4.length : Nat) : Int)))
 (some (.b false))
 (f95_j1 ((x1_4.length : Nat) : Int) x0_0 x0_1 x0_2 x0_3 x0_4 x0_5 x0_6 x0_7 x1_0 x1_1 x1_2 x1_3 x1_4 x1_5)))
 (some (.b false))))) := (den_eq ..).trans (by kernel_rfl)
theorem f95_j1_eq (t5 : Int) (r0_0 : Int) (r0_1 : Int) (r0_2 : Int) (r0_3 : List AV) (r0_4 : Int) (r0_5 : Int) (r0_6 : Bool) (r0_7 : Int) (r1_0 : Int) (r1_1 : List AV) (r1_2 : Int) (r1_3 : Int) (r1_4 : List AV) (r1_5 : List AV) : f95_j1 t5 r0_0 r0_1 r0_2 r0_3 r0_4 r0_5 r0_6 r0_7 r1_0 r1_1 r1_2 r1_3 r1_4 r1_5 =
 f95_l2 t5 (0 : Int) r0_0 r0_1 r0_2 r0_3 r0_4 r0_5 r0_6 r0_7 r1_0 r1_1 r1_2 r1_3 r1_4 r1_5 := by kernel_rfl
theorem f95_l2_eq (t5 : Int) (t6 : Int) (r0_0 : Int) (r0_1 : Int) (r0_2 : Int) (r0_3 : List AV) (r0_4 : Int) (r0_5 : Int) (r0_6 : Bool) (r0_7 : Int) (r1_0 : Int) (r1_1 : List AV) (r1_2 : Int) (r1_3 : Int) (r1_4 : List AV) (r1_5 : List AV) : f95_l2 t5 t6 r0_0 r0_1 r0_2 r0_3 r0_4 r0_5 r0_6 r0_7 r1_0 r1_1 r1_2 r1_3 r1_4 r1_5 =
 cond (decide (t6 < ((r1_1.length : Nat) : Int)))
 (if 0 ≤ t6 ∧ t6 < ((r1_1.length : Nat) : Int) then
 if okCells false (r1_1.getD t6.toNat .x) 0 [(.i .i64)] = true then
 if 0 ≤ (((r1_1.getD t6.toNat .x).cells.getD 0 .x).toI) ∧ (((r1_1.getD t6.toNat .x).cells.getD 0 .x).toI) < ((r0_3.length : Nat) : Int) then
 if okCells false (r0_3.getD (((r1_1.getD t6.toNat .x).cells.getD 0 .x).toI).toNat .x) 1 [(.i .i64)] = true then
 cond (!decide ((((r0_3.getD (((r1_1.getD t6.toNat .x).cells.getD 0 .x).toI).toNat .x).cells.getD 1 .x).toI) = t5))
 (some (.b false))
 (f95_l2 t5 (IntKind.i64.wrap (t6 + (1 : Int))) r0_0 r0_1 r0_2 r0_3 r0_4 r0_5 r0_6 r0_7 r1_0 r1_1 r1_2 r1_3 r1_4 r1_5)
 else none
 else none
 else none
 else none)
 (some (.b true)) := (Lp_eq ..).trans (by kernel_rfl)
/-! 96: loop.example/g00905/spec.l00Has -/
noncomputable def f96_l1 (t0 : List AV) (t1 : Int) (t5 : Int) : Option AV := Lp E fi96 [true, false, true, false] (mkT 18 [(0, (.imm 1 t0)), (1, (.i .i64 t1)), (5, (.i .i64 t5))]) []
theorem f96_eq (x0 : List AV) (x1 : Int) : den E 96 [(.imm 1 x0), (.i .i64 x1)] [] =
 f96_l1 x0 x1 (0 : Int) := (den_eq ..).trans (by kernel_rfl)
theorem f96_l1_eq (t0 : List AV) (t1 : Int) (t5 : Int) : f96_l1 t0 t1 t5 =
 cond (decide (t5 < ((t0.length : Nat) : Int)))
 (if 0 ≤ t5 ∧ t5 < ((t0.length : Nat) : Int) then
 if okCells false (t0.getD t5.toNat .x) 0 [(.i .i64)] = true then
 cond (decide ((((t0.getD t5.toNat .x).cells.getD 0 .x).toI) = t1))
 (some (.b true))
 (f96_l1 t0 t1 (IntKind.i64.wrap (t5 + (1 : Int))))
 else none
 else none)
 (some (.b false)) := (Lp_eq ..).trans (by kernel_rfl)
/-! 49: loop.example/g00905/spec.ValidDevice -/
noncomputable def f49_l1 (t4 : Int) (r0_0 : Int) (r0_1 : Int) (r0_2 : Int) (r0_3 : List AV) (r0_4 : Int) (r0_5 : Int) (r0_6 : Bool) (r0_7 : Int) (r0_8 : List AV) (r1 : List AV) : Option AV := Lp E fi49 [true, true, true, false, true, false] (mkT 84 [(1, (.pt 0 [] 0 0)), (3, (.sl 1 [] none)), (4, (.i .i64 t4))]) [(.live false true false 38 [(.agg [(.i .i64 r0_0), (.i .i64 r0_1), (.i .i64 r0_2), (.imm 4 r0_3), (.i .i64 r0_4), (.i .i64 r0_5), (.b r0_6), (.i .i64 r0_7), (.imm 6 r0_8)])]), (.live true false false 2 r1)]
noncomputable def f49_l2 (t4 : Int) (t6 : Int) (r0_0 : Int) (r0_1 : Int) (r0_2 : Int) (r0_3 : List AV) (r0_4 : Int) (r0_5 : Int) (r0_6 : Bool) (r0_7 : Int) (r0_8 : List AV) (r1 : List AV) (r2_0 : Int) (r2_1 : List AV) (r2_2 : Int) (r2_3 : Int) (r2_4 : List AV) (r2_5 : List AV) : Option AV := Lp E fi49 [true, true, true, false, true, false, false, true, false, false, true, true, true, false] (mkT 84 [(1, (.pt 0 [] 0 0)), (3, (.sl 1 [] none)), (4, (.i .i64 t4)), (5, (.pt 2 [] 0 0)), (6, (.i .i64 t6))]) [(.live false true false 38 [(.agg [(.i .i64 r0_0), (.i .i64 r0_1), (.i .i64 r0_2), (.imm 4 r0_3), (.i .i64 r0_4), (.i .i64 r0_5), (.b r0_6), (.i .i64 r0_7), (.imm 6 r0_8)])]), (.live true false false 2 r1), (.live false true false 124 [(.agg [(.i .i64 r2_0), (.imm 1 r2_1), (.i .i64 r2_2), (.i .i64 r2_3), (.imm 1 r2_4), (.imm 1 r2_5)])])]
theorem f49_eq (x0_0 : Int) (x0_1 : Int) (x0_2 : Int) (x0_3 : List AV) (x0_4 : Int) (x0_5 : Int) (x0_6 : Bool) (x0_7 : Int) (x0_8 : List AV) : den E 49 [(.agg [(.i .i64 x0_0), (.i .i64 x0_1), (.i .i64 x0_2), (.imm 4 x0_3), (.i .i64 x0_4), (.i .i64 x0_5), (.b x0_6), (.i .i64 x0_7), (.imm 6 x0_8)])] [] =
 bSh .b (den E 91 [(.agg [(.i .i64 x0_0), (.i .i64 x0_1), (.i .i64 x0_2), (.imm 4 x0_3), (.i .i64 x0_4), (.i .i64 x0_5), (.b x0_6), (.i .i64 x0_7)])] []) fun a1 =>
 cond ((!a1.toB) == false)
 (cond ((decide (((x0_8.length : Nat) : Int) < (1 : Int))) == false)
 (bSh (.i .i64) (den E 92 [(.i .i64 (12 : Int)), (.i .i64 x0_1)] []) fun a2 =>
 cond (decide (a2.toI < ((x0_8.length : Nat) : Int)))
 (some (.b false))
 (f49_l1 (0 : Int) x0_0 x0_1 x0_2 x0_3 x0_4 x0_5 x0_6 x0_7 x0_8 []))
 (some (.b false)))
 (some (.b false)) := (den_eq ..).trans (by kernel_rfl)
theorem f49_l1_eq (t4 : Int) (r0_0 : Int) (r0_1 : Int) (r0_2 : Int) (r0_3 : List AV) (r0_4 : Int) (r0_5 : Int) (r0_6 : Bool) (r0_7 : Int) (r0_8 : List AV) (r1 : List AV) : f49_l1 t4 r0_0 r0_1 r0_2 r0_3 r0_4 r0_5 r0_6 r0_7 r0_8 r1 =
 cond (decide (t4 < ((r0_8.length : Nat) : Int)))
 (if 0 ≤ t4 ∧ t4 < ((r0_8.length : Nat) : Int) then
 if okCells false (r0_8.getD t4.toNat .x) 0 [(.i .i64), (.sl 2 1), (.i .i64), (.i .i64), (.sl 2 1), (.sl 9 1)] = true then
 bSh .b (den E 93 [(.agg [(.i .i64 r0_0), (.i .i64 r0_1), (.i .i64 r0_2)]), (.agg [(.i .i64 (((r0_8.getD t4.toNat .x).cells.getD 0 .x).toI)), (.imm 1 (((r0_8.getD t4.toNat .x).cells.getD 1 .x).toL)), (.i .i64 (((r0_8.getD t4.toNat .x).cells.getD 2 .x).toI)), (.i .i64 (((r0_8.getD t4.toNat .x).cells.getD 3 .x).toI)), (.imm 1 (((r0_8.getD t4.toNat .x).cells.getD 4 .x).toL)), (.imm 1 (((r0_8.getD t4.toNat .x).cells.getD 5 .x).toL))])] []) fun a1 =>
 cond ((!a1.toB) == false)
 (bSh .b (den E 94 [(.agg [(.i .i64 r0_0), (.i .i64 r0_1), (.i .i64 r0_2)]), (.agg [(.i .i64 (((r0_8.getD t4.toNat .x).cells.getD 0 .x).toI)), (.imm 1 (((r0_8.getD t4.toNat .x).cells.getD 1 .x).toL)), (.i .i64 (((r0_8.getD t4.toNat .x).cells.getD 2 .x).toI)), (.i .i64 (((r0_8.getD t4.toNat .x).cells.getD 3 .x).toI)), (.imm 1 (((r0_8.getD t4.toNat .x).cells.getD 4 .x).toL)), (.imm 1 (((r0_8.getD t4.toNat .x).cells.getD 5 .x).toL))])] []) fun a2 =>
 cond ((!a2.toB) == false)
 (bSh .b (den E 95 [(.agg [(.i .i64 r0_0), (.i .i64 r0_1), (.i .i64 r0_2), (.imm 4 r0_3), (.i .i64 r0_4), (.i .i64 r0_5), (.b r0_6), (.i .i64 r0_7)]), (.agg [(.i .i64 (((r0_8.getD t4.toNat .x).cells.getD 0 .x).toI)), (.imm 1 (((r0_8.getD t4.toNat .x).cells.getD 1 .x).toL)), (.i .i64 (((r0_8.getD t4.toNat .x).cells.getD 2 .x).toI)), (.i .i64 (((r0_8.getD t4.toNat .x).cells.getD 3 .x).toI)), (.imm 1 (((r0_8.getD t4.toNat .x).cells.getD 4 .x).toL)), (.imm 1 (((r0_8.getD t4.toNat .x).cells.getD 5 .x).toL))])] []) fun a3 =>
 cond (!a3.toB)
 (some (.b false))
 (f49_l2 t4 (0 : Int) r0_0 r0_1 r0_2 r0_3 r0_4 r0_5 r0_6 r0_7 r0_8 r1 (((r0_8.getD t4.toNat .x).cells.getD 0 .x).toI) (((r0_8.getD t4.toNat .x).cells.getD 1 .x).toL) (((r0_8.getD t4.toNat .x).cells.getD 2 .x).toI) (((r0_8.getD t4.toNat .x).cells.getD 3 .x).toI) (((r0_8.getD t4.toNat .x).cells.getD 4 .x).toL) (((r0_8.getD t4.toNat .x).cells.getD 5 .x).toL)))
 (some (.b false)))
 (some (.b false))
 else none
 else none)
 (some (.b true)) := (Lp_eq ..).trans (by kernel_rfl)
theorem f49_l2_eq (t4 : Int) (t6 : Int) (r0_0 : Int) (r0_1 : Int) (r0_2 : Int) (r0_3 : List AV) (r0_4 : Int) (r0_5 : Int) (r0_6 : Bool) (r0_7 : Int) (r0_8 : List AV) (r1 : List AV) (r2_0 : Int) (r2_1 : List AV) (r2_2 : Int) (r2_3 : Int) (r2_4 : List AV) (r2_5 : List AV) : f49_l2 t4 t6 r0_0 r0_1 r0_2 r0_3 r0_4 r0_5 r0_6 r0_7 r0_8 r1 r2_0 r2_1 r2_2 r2_3 r2_4 r2_5 =
 cond (decide (t6 < ((r2_1.length : Nat) : Int)))
 (if 0 ≤ t6 ∧ t6 < ((r2_1.length : Nat) : Int) then
 if okCells false (r2_1.getD t6.toNat .x) 0 [(.i .i64)] = true then
 bSh .b (den E 96 [(.imm 1 r1), (.i .i64 (((r2_1.getD t6.toNat .x).cells.getD 0 .x).toI))] []) fun a1 =>
 cond a1.toB
 (some (.b false))
 (if 0 ≤ t6 ∧ t6 < ((r2_1.length : Nat) : Int) then
 if okCells false (r2_1.getD t6.toNat .x) 0 [(.i .i64)] = true then
 if (r1.length + ([(.i .i64 (((r2_1.getD t6.toNat .x).cells.getD 0 .x).toI))] : List AV).length) * 8 ≤ room then
 f49_l2 t4 (IntKind.i64.wrap (t6 + (1 : Int))) r0_0 r0_1 r0_2 r0_3 r0_4 r0_5 r0_6 r0_7 r0_8 (r1 ++ [(.i .i64 (((r2_1.getD t6.toNat .x).cells.getD 0 .x).toI))]) r2_0 r2_1 r2_2 r2_3 r2_4 r2_5
 else none
 else none
 else none)
 else none
 else none)
 (f49_l1 (IntKind.i64.wrap (t4 + (1 : Int))) r0_0 r0_1 r0_2 r0_3 r0_4 r0_5 r0_6 r0_7 r0_8 r1) := (Lp_eq ..).trans (by kernel_rfl)
/-! 50: loop.example/g00905/spec.l27Zone -/
theorem f50_eq (x0 : AV) (x1 : Int) : den E 50 [(.ip x0 0), (.i .i64 x1)] [] =
 if okCells false x0 8 [(.sl 124 6)] = true then
 bSh .b (den E 97 [(.i .i64 x1), (.i .i64 (0 : Int)), (.i .i64 (IntKind.i64.wrap (((((x0.cells.getD 8 .x).toL).length : Nat) : Int) - (1 : Int))))] []) fun a1 =>
 some (.b a1.toB)
 else none := (den_eq ..).trans (by kernel_rfl)
/-! 51: loop.example/g00905/spec.l27Wear -/
noncomputable def f51_l1 (t0 : AV) (t1 : Int) (t5 : Int) (t6 : Int) : Option AV := Lp E fi51 [true, true, false, true, false] (mkT 42 [(0, (.ip t0 0)), (1, (.i .i64 t1)), (5, (.i .i64 t5)), (6, (.i .i64 t6))]) []
theorem f51_eq (x0 : AV) (x1 : Int) : den E 51 [(.ip x0 0), (.i .i64 x1)] [] =
 f51_l1 x0 x1 (0 : Int) (0 : Int) := (den_eq ..).trans (by kernel_rfl)
theorem f51_l1_eq (t0 : AV) (t1 : Int) (t5 : Int) (t6 : Int) : f51_l1 t0 t1 t5 t6 =
 if okCells false t0 8 [(.sl 124 6)] = true then
 if 0 ≤ t1 ∧ t1 < ((((t0.cells.getD 8 .x).toL).length : Nat) : Int) then
 if okCells false (((t0.cells.getD 8 .x).toL).getD t1.toNat .x) 1 [(.sl 2 1)] = true then
 cond (decide (t6 < (((((((t0.cells.getD 8 .x).toL).getD t1.toNat .x).cells.getD 1 .x).toL).length : Nat) : Int)))
 (if okCells false t0 3 [(.sl 130 4)] = true then
 if okCells false t0 8 [(.sl 124 6)] = true then
 if 0 ≤ t1 ∧ t1 < ((((t0.cells.getD 8 .x).toL).length : Nat) : Int) then
 if okCells false (((t0.cells.getD 8 .x).toL).getD t1.toNat .x) 1 [(.sl 2 1)] = true then
 if 0 ≤ t6 ∧ t6 < (((((((t0.cells.getD 8 .x).toL).getD t1.toNat .x).cells.getD 1 .x).toL).length : Nat) : Int) then
 if okCells false ((((((t0.cells.getD 8 .x).toL).getD t1.toNat .x).cells.getD 1 .x).toL).getD t6.toNat .x) 0 [(.i .i64)] = true then
 if 0 ≤ ((((((((t0.cells.getD 8 .x).toL).getD t1.toNat .x).cells.getD 1 .x).toL).getD t6.toNat .x).cells.getD 0 .x).toI) ∧ ((((((((t0.cells.getD 8 .x).toL).getD t1.toNat .x).cells.getD 1 .x).toL).getD t6.toNat .x).cells.getD 0 .x).toI) < ((((t0.cells.getD 3 .x).toL).length : Nat) : Int) then
 if okCells false (((t0.cells.getD 3 .x).toL).getD ((((((((t0.cells.getD 8 .x).toL).getD t1.toNat .x).cells.getD 1 .x).toL).getD t6.toNat .x).cells.getD 0 .x).toI).toNat .x) 0 [(.i .i64)] = true then
 f51_l1 t0 t1 (IntKind.i64.wrap (t5 + (((((t0.cells.getD 3 .x).toL).getD ((((((((t0.cells.getD 8 .x).toL).getD t1.toNat .x).cells.getD 1 .x).toL).getD t6.toNat .x).cells.getD 0 .x).toI).toNat .x).cells.getD 0 .x).toI))) (IntKind.i64.wrap (t6 + (1 : Int)))
 else none
 else none
 else none
 else none
 else none
 else none
 else none
 else none)
 (some (.i .i64 t5))
 else none
 else none
 else none := (Lp_eq ..).trans (by kernel_rfl)
/-! 11: loop.example/g00905/spec.WearOfZone -/
theorem f11_eq (x0_0 : Int) (x0_1 : Int) (x0_2 : Int) (x0_3 : List AV) (x0_4 : Int) (x0_5 : Int) (x0_6 : Bool) (x0_7 : Int) (x0_8 : List AV) (x1 : Int) : den E 11 [(.agg [(.i .i64 x0_0), (.i .i64 x0_1), (.i .i64 x0_2), (.imm 4 x0_3), (.i .i64 x0_4), (.i .i64 x0_5), (.b x0_6), (.i .i64 x0_7), (.imm 6 x0_8)]), (.i .i64 x1)] [] =
 bSh .b (den E 49 [(.agg [(.i .i64 x0_0), (.i .i64 x0_1), (.i .i64 x0_2), (.imm 4 x0_3), (.i .i64 x0_4), (.i .i64 x0_5), (.b x0_6), (.i .i64 x0_7), (.imm 6 x0_8)])] []) fun a1 =>
 cond ((!a1.toB) == false)
 (bSh .b (den E 50 [(.ip (.agg [(.i .i64 x0_0), (.i .i64 x0_1), (.i .i64 x0_2), (.imm 4 x0_3), (.i .i64 x0_4), (.i .i64 x0_5), (.b x0_6), (.i .i64 x0_7), (.imm 6 x0_8)]) 0), (.i .i64 x1)] []) fun a2 =>
 cond (!a2.toB)
 (some (.i .i64 (0 : Int)))
 (bSh (.i .i64) (den E 51 [(.ip (.agg [(.i .i64 x0_0), (.i .i64 x0_1), (.i .i64 x0_2), (.imm 4 x0_3), (.i .i64 x0_4), (.i .i64 x0_5), (.b x0_6), (.i .i64 x0_7), (.imm 6 x0_8)]) 0), (.i .i64 x1)] []) fun a3 =>
 some (.i .i64 a3.toI)))
 (some (.i .i64 (0 : Int))) := (den_eq ..).trans (by kernel_rfl)
/-! 102: loop.example/g00905/impl.within -/
theorem f102_eq (x0 : Int) (x1 : Int) (x2 : Int) : den E 102 [(.i .i64 x0), (.i .i64 x1), (.i .i64 x2)] [] =
 cond ((decide (x1 ≤ x0)) == true)
 (some (.b (decide (x0 ≤ x2))))
 (some (.b false)) := (den_eq ..).trans (by kernel_rfl)
/-! 149: loop.example/g00905/impl.ValidGeometry -/
theorem f149_eq (x0_0 : Int) (x0_1 : Int) (x0_2 : Int) : den E 149 [(.agg [(.i .i64 x0_0), (.i .i64 x0_1), (.i .i64 x0_2)])] [] =
 bSh .b (den E 102 [(.i .i64 x0_0), (.i .i64 (2 : Int)), (.i .i64 (3 : Int))] []) fun a1 =>
 cond (a1.toB == true)
 (bSh .b (den E 102 [(.i .i64 x0_1), (.i .i64 (4 : Int)), (.i .i64 (12 : Int))] []) fun a2 =>
 cond (a2.toB == true)
 (cond ((decide (x0_2 = (8 : Int))) == false)
 (some (.b (decide (x0_2 = (16 : Int)))))
 (some (.b true)))
 (some (.b false)))
 (some (.b false)) := (den_eq ..).trans (by kernel_rfl)
/-! 150: (loop.example/g00905/impl.Geometry).all -/
theorem f150_eq (x0_0 : Int) (x0_1 : Int) (x0_2 : Int) : den E 150 [(.agg [(.i .i64 x0_0), (.i .i64 x0_1), (.i .i64 x0_2)])] [] =
 some (.i .i64 (IntKind.i64.wrap (x0_0 * x0_1))) := (den_eq ..).trans (by kernel_rfl)
/-! 153: (loop.example/g00905/impl.Geometry).blockOk -/
noncomputable def f153_l1 (t28 : List AV) (t29 : Int) (t30 : Int) (r0_0 : Int) (r0_1 : Int) (r0_2 : Int) (r1_0 : Int) (r1_1 : Int) (r1_2 : Bool) (r1_3 : List AV) : Option AV := Lp E fi153 [true, true, false, true, false] (mkT 49 [(3, (.pt 1 [] 0 0)), (28, (.imm 1 t28)), (29, (.i .i64 t29)), (30, (.i .i64 t30))]) [(.live false true false 32 [(.agg [(.i .i64 r0_0), (.i .i64 r0_1), (.i .i64 r0_2)])]), (.live false true false 130 [(.agg [(.i .i64 r1_0), (.i .i64 r1_1), (.b r1_2), (.imm 1 r1_3)])])]
noncomputable def f153_j2 (t28 : List AV) (t29 : Int) (t30 : Int) (r0_0 : Int) (r0_1 : Int) (r0_2 : Int) (r1_0 : Int) (r1_1 : Int) (r1_2 : Bool) (r1_3 : List AV) : Option AV := Jn E fi153 [true, true, false, true, false, false, true, true, true] (mkT 49 [(3, (.pt 1 [] 0 0)), (28, (.imm 1 t28)), (29, (.i .i64 t29)), (30, (.i .i64 t30))]) [(.live false true false 32 [(.agg [(.i .i64 r0_0), (.i .i64 r0_1), (.i .i64 r0_2)])]), (.live false true false 130 [(.agg [(.i .i64 r1_0), (.i .i64 r1_1), (.b r1_2), (.imm 1 r1_3)])])]
theorem f153_eq (x0_0 : Int) (x0_1 : Int) (x0_2 : Int) (x1_0 : Int) (x1_1 : Int) (x1_2 : Bool) (x1_3 : List AV) : den E 153 [(.agg [(.i .i64 x0_0), (.i .i64 x0_1), (.i .i64 x0_2)]), (.agg [(.i .i64 x1_0), (.i .i64 x1_1), (.b x1_2), (.imm 1 x1_3)])] [] =
 bSh .b (den E 102 [(.i .i64 x1_0), (.i .i64 (0 : Int)), (.i .i64 (1000 : Int))] []) fun a1 =>
 cond ((!a1.toB) == false)
 (bSh .b (den E 102 [(.i .i64 x1_1), (.i .i64 (0 : Int)), (.i .i64 x0_2)] []) fun a2 =>
 cond ((!a2.toB) == false)
 (cond (!decide (((x1_3.length : Nat) : Int) = x0_2))
 (some (.b false))
 (f153_l1 x1_3 ((x1_3.length : Nat) : Int) (0 : Int) x0_0 x0_1 x0_2 x1_0 x1_1 x1_2 x1_3))
 (some (.b false)))
 (some (.b false)) := (den_eq ..).trans (by kernel_rfl)
theorem f153_l1_eq (t28 : List AV) (t29 : Int) (t30 : Int) (r0_0 : Int) (r0_1 : Int) (r0_2 : Int) (r1_0 : Int) (r1_1 : Int) (r1_2 : Bool) (r1_3 : List AV) : f153_l1 t28 t29 t30 r0_0 r0_1 r0_2 r1_0 r1_1 r1_2 r1_3 =
 cond (decide (t30 < t29))
 (if 0 ≤ t30 ∧ t30 < ((t28.length : Nat) : Int) then
 if okCells false (t28.getD t30.toNat .x) 0 [.s] = true then
 cond ((!decide ((((t28.getD t30.toNat .x).cells.getD 0 .x).toS) = ({ data := #[] } : ByteArray))) == true)
 (cond ((!decide ((((((t28.getD t30.toNat .x).cells.getD 0 .x).toS).size : Nat) : Int) = (91 : Int))) == false)
 (cond (decide (r1_1 ≤ t30))
 (some (.b false))
 (f153_j2 t28 t29 t30 r0_0 r0_1 r0_2 r1_0 r1_1 r1_2 r1_3))
 (some (.b false)))
 (f153_j2 t28 t29 t30 r0_0 r0_1 r0_2 r1_0 r1_1 r1_2 r1_3)
 else none
 else none)
 (some (.b true)) := (Lp_eq ..).trans (by kernel_rfl)
theorem f153_j2_eq (t28 : List AV) (t29 : Int) (t30 : Int) (r0_0 : Int) (r0_1 : Int) (r0_2 : Int) (r1_0 : Int) (r1_1 : Int) (r1_2 : Bool) (r1_3 : List AV) : f153_j2 t28 t29 t30 r0_0 r0_1 r0_2 r1_0 r1_1 r1_2 r1_3 =
 f153_l1 t28 t29 (IntKind.i64.wrap (t30 + (1 : Int))) r0_0 r0_1 r0_2 r1_0 r1_1 r1_2 r1_3 := by kernel_rfl
/-! 152: loop.example/g00905/impl.ValidFlash$1 -/
theorem f152q1_eq (x0_0 : Int) (x0_1 : Int) (x0_2 : Bool) (x0_3 : List AV) (x1 : AV) : den E 152 [(.agg [(.i .i64 x0_0), (.i .i64 x0_1), (.b x0_2), (.imm 1 x0_3)]), (.ip x1 0)] [] =
 if okCells false x1 0 [(.i .i64), (.i .i64), (.i .i64)] = true then
 bSh .b (den E 153 [(.agg [(.i .i64 ((x1.cells.getD 0 .x).toI)), (.i .i64 ((x1.cells.getD 1 .x).toI)), (.i .i64 ((x1.cells.getD 2 .x).toI))]), (.agg [(.i .i64 x0_0), (.i .i64 x0_1), (.b x0_2), (.imm 1 x0_3)])] []) fun a1 =>
 some (.b (!a1.toB))
 else none := (den_eq ..).trans (by kernel_rfl)
/-! 176: slices.IndexFunc[[]loop.example/g00905/impl.Block,loop.example/g00905/impl.Block] -/
noncomputable def f176q1_l1 (t0 : List AV) (t1_0 : AV) (t7 : Int) (t8 : Int) : Option AV := Lp E fi176 [true, false, true, false] (mkT 19 [(0, (.imm 4 t0)), (1, (.fn 152 [(.ip t1_0 0)])), (7, (.i .i64 t7)), (8, (.i .i64 t8))]) []
theorem f176q1_eq (x0 : List AV) (x1_0 : AV) : den E 176 [(.imm 4 x0), (.fn 152 [(.ip x1_0 0)])] [] =
 f176q1_l1 x0 x1_0 ((x0.length : Nat) : Int) (0 : Int) := (den_eq ..).trans (by kernel_rfl)
theorem f176q1_l1_eq (t0 : List AV) (t1_0 : AV) (t7 : Int) (t8 : Int) : f176q1_l1 t0 t1_0 t7 t8 =
 cond (decide (t8 < t7))
 (if 0 ≤ t8 ∧ t8 < ((t0.length : Nat) : Int) then
 if okCells false (t0.getD t8.toNat .x) 0 [(.i .i64), (.i .i64), .b, (.sl 9 1)] = true then
 bSh .b (den E 152 [(.agg [(.i .i64 (((t0.getD t8.toNat .x).cells.getD 0 .x).toI)), (.i .i64 (((t0.getD t8.toNat .x).cells.getD 1 .x).toI)), (.b (((t0.getD t8.toNat .x).cells.getD 2 .x).toB)), (.imm 1 (((t0.getD t8.toNat .x).cells.getD 3 .x).toL))]), (.ip t1_0 0)] []) fun a1 =>
 cond a1.toB
 (some (.i .i64 t8))
 (f176q1_l1 t0 t1_0 t7 (IntKind.i64.wrap (t8 + (1 : Int))))
 else none
 else none)
 (some (.i .i64 (-1 : Int))) := (Lp_eq ..).trans (by kernel_rfl)
/-! 151: slices.ContainsFunc[[]loop.example/g00905/impl.Block,loop.example/g00905/impl.Block] -/
theorem f151q1_eq (x0 : List AV) (x1_0 : AV) : den E 151 [(.imm 4 x0), (.fn 152 [(.ip x1_0 0)])] [] =
 bSh (.i .i64) (den E 176 [(.imm 4 x0), (.fn 152 [(.ip x1_0 0)])] []) fun a1 =>
 some (.b (decide ((0 : Int) ≤ a1.toI))) := (den_eq ..).trans (by kernel_rfl)
/-! 101: loop.example/g00905/impl.ValidFlash -/
theorem f101_eq (x0_0 : Int) (x0_1 : Int) (x0_2 : Int) (x0_3 : List AV) (x0_4 : Int) (x0_5 : Int) (x0_6 : Bool) (x0_7 : Int) : den E 101 [(.agg [(.i .i64 x0_0), (.i .i64 x0_1), (.i .i64 x0_2), (.imm 4 x0_3), (.i .i64 x0_4), (.i .i64 x0_5), (.b x0_6), (.i .i64 x0_7)])] [] =
 bSh .b (den E 149 [(.agg [(.i .i64 x0_0), (.i .i64 x0_1), (.i .i64 x0_2)])] []) fun a1 =>
 cond ((!a1.toB) == false)
 (bSh (.i .i64) (den E 150 [(.agg [(.i .i64 x0_0), (.i .i64 x0_1), (.i .i64 x0_2)])] []) fun a2 =>
 cond ((!decide (((x0_3.length : Nat) : Int) = a2.toI)) == false)
 (bSh .b (den E 102 [(.i .i64 x0_4), (.i .i64 (-1 : Int)), (.i .i64 (1000000 : Int))] []) fun a3 =>
 cond ((!a3.toB) == false)
 (bSh .b (den E 102 [(.i .i64 x0_5), (.i .i64 (0 : Int)), (.i .i64 (91 : Int))] []) fun a4 =>
 cond ((!a4.toB) == false)
 (cond (decide (x0_7 < (0 : Int)))
 (some (.b false))
 (bSh .b (den E 151 [(.imm 4 x0_3), (.fn 152 [(.ip (.agg [(.i .i64 x0_0), (.i .i64 x0_1), (.i .i64 x0_2), (.imm 4 x0_3), (.i .i64 x0_4), (.i .i64 x0_5), (.b x0_6), (.i .i64 x0_7)]) 0)])] []) fun a5 =>
 some (.b (!a5.toB))))
 (some (.b false)))
 (some (.b false)))
 (some (.b false)))
 (some (.b false)) := (den_eq ..).trans (by kernel_rfl)
/-! 103: (*loop.example/g00905/impl.Device).placesOk -/
noncomputable def f103_l1 (t0 : AV) (t19 : List AV) (t20 : Int) (t21 : Int) : Option AV := Lp E fi103 [true, true, false, true, false] (mkT 48 [(0, (.ip t0 0)), (19, (.imm 1 t19)), (20, (.i .i64 t20)), (21, (.i .i64 t21))]) []
theorem f103_eq (x0 : AV) (x1_0 : Int) (x1_1 : List AV) (x1_2 : Int) (x1_3 : Int) (x1_4 : List AV) (x1_5 : List AV) : den E 103 [(.ip x0 0), (.agg [(.i .i64 x1_0), (.imm 1 x1_1), (.i .i64 x1_2), (.i .i64 x1_3), (.imm 1 x1_4), (.imm 1 x1_5)])] [] =
 if okCells false x0 0 [(.i .i64)] = true then
 cond (!decide (((x1_1.length : Nat) : Int) = ((x0.cells.getD 0 .x).toI)))
 (some (.b false))
 (f103_l1 x0 x1_1 ((x1_1.length : Nat) : Int) (0 : Int))
 else none := (den_eq ..).trans (by kernel_rfl)
theorem f103_l1_eq (t0 : AV) (t19 : List AV) (t20 : Int) (t21 : Int) : f103_l1 t0 t19 t20 t21 =
 cond (decide (t21 < t20))
 (if 0 ≤ t21 ∧ t21 < ((t19.length : Nat) : Int) then
 if okCells false (t19.getD t21.toNat .x) 0 [(.i .i64)] = true then
 if okCells false t0 1 [(.i .i64)] = true then
 if okCells false t0 1 [(.i .i64)] = true then
 bSh .b (den E 102 [(.i .i64 (((t19.getD t21.toNat .x).cells.getD 0 .x).toI)), (.i .i64 (IntKind.i64.wrap (t21 * ((t0.cells.getD 1 .x).toI)))), (.i .i64 (IntKind.i64.wrap ((IntKind.i64.wrap ((IntKind.i64.wrap (t21 * ((t0.cells.getD 1 .x).toI))) + ((t0.cells.getD 1 .x).toI))) - (1 : Int))))] []) fun a1 =>
 cond (!a1.toB)
 (some (.b false))
 (f103_l1 t0 t19 t20 (IntKind.i64.wrap (t21 + (1 : Int))))
 else none
 else none
 else none
 else none)
 (some (.b true)) := (Lp_eq ..).trans (by kernel_rfl)
/-! 154: (*loop.example/g00905/impl.Device).units -/
theorem f154_eq (x0 : AV) : den E 154 [(.ip x0 0)] [] =
 if okCells false x0 0 [(.i .i64)] = true then
 some (.i .i64 (IntKind.i64.wrap (((x0.cells.getD 0 .x).toI) - (1 : Int))))
 else none := (den_eq ..).trans (by kernel_rfl)
/-! 167: loop.example/g00905/impl.allWithin$1 -/
theorem f167q1_eq (x0 : Int) (x1 : AV) (x2 : AV) : den E 167 [(.i .i64 x0), (.ip x1 0), (.ip x2 0)] [] =
 if okCells false x1 0 [(.i .i64)] = true then
 if okCells false x2 0 [(.i .i64)] = true then
 bSh .b (den E 102 [(.i .i64 x0), (.i .i64 ((x1.cells.getD 0 .x).toI)), (.i .i64 ((x2.cells.getD 0 .x).toI))] []) fun a1 =>
 some (.b (!a1.toB))
 else none
 else none := (den_eq ..).trans (by kernel_rfl)
/-! 179: slices.IndexFunc[[]int64,int64] -/
noncomputable def f179q1_l1 (t0 : List AV) (t1_0 : AV) (t1_1 : AV) (t7 : Int) (t8 : Int) : Option AV := Lp E fi179 [true, false, true, false] (mkT 19 [(0, (.imm 1 t0)), (1, (.fn 167 [(.ip t1_0 0), (.ip t1_1 0)])), (7, (.i .i64 t7)), (8, (.i .i64 t8))]) []
theorem f179q1_eq (x0 : List AV) (x1_0 : AV) (x1_1 : AV) : den E 179 [(.imm 1 x0), (.fn 167 [(.ip x1_0 0), (.ip x1_1 0)])] [] =
 f179q1_l1 x0 x1_0 x1_1 ((x0.length : Nat) : Int) (0 : Int) := (den_eq ..).trans (by kernel_rfl)
theorem f179q1_l1_eq (t0 : List AV) (t1_0 : AV) (t1_1 : AV) (t7 : Int) (t8 : Int) : f179q1_l1 t0 t1_0 t1_1 t7 t8 =
 cond (decide (t8 < t7))
 (if 0 ≤ t8 ∧ t8 < ((t0.length : Nat) : Int) then
 if okCells false (t0.getD t8.toNat .x) 0 [(.i .i64)] = true then
 bSh .b (den E 167 [(.i .i64 (((t0.getD t8.toNat .x).cells.getD 0 .x).toI)), (.ip t1_0 0), (.ip t1_1 0)] []) fun a1 =>
 cond a1.toB
 (some (.i .i64 t8))
 (f179q1_l1 t0 t1_0 t1_1 t7 (IntKind.i64.wrap (t8 + (1 : Int))))
 else none
 else none)
 (some (.i .i64 (-1 : Int))) := (Lp_eq ..).trans (by kernel_rfl)
/-! 166: slices.ContainsFunc[[]int64,int64] -/
theorem f166q1_eq (x0 : List AV) (x1_0 : AV) (x1_1 : AV) : den E 166 [(.imm 1 x0), (.fn 167 [(.ip x1_0 0), (.ip x1_1 0)])] [] =
 bSh (.i .i64) (den E 179 [(.imm 1 x0), (.fn 167 [(.ip x1_0 0), (.ip x1_1 0)])] []) fun a1 =>
 some (.b (decide ((0 : Int) ≤ a1.toI))) := (den_eq ..).trans (by kernel_rfl)
/-! 120: loop.example/g00905/impl.allWithin -/
theorem f120_eq (x0 : List AV) (x1 : Int) (x2 : Int) : den E 120 [(.imm 1 x0), (.i .i64 x1), (.i .i64 x2)] [] =
 bSh .b (den E 166 [(.imm 1 x0), (.fn 167 [(.ip (.i .i64 x1) 0), (.ip (.i .i64 x2) 0)])] []) fun a1 =>
 some (.b (!a1.toB)) := (den_eq ..).trans (by kernel_rfl)
/-! 155: loop.example/g00905/impl.total -/
noncomputable def f155_l1 (t3 : Int) (t6 : List AV) (t7 : Int) (t8 : Int) : Option AV := Lp E fi155 [true, true, false, true, false] (mkT 17 [(3, (.i .i64 t3)), (6, (.imm 1 t6)), (7, (.i .i64 t7)), (8, (.i .i64 t8))]) []
theorem f155_eq (x0 : List AV) : den E 155 [(.imm 1 x0)] [] =
 f155_l1 (0 : Int) x0 ((x0.length : Nat) : Int) (0 : Int) := (den_eq ..).trans (by kernel_rfl)
theorem f155_l1_eq (t3 : Int) (t6 : List AV) (t7 : Int) (t8 : Int) : f155_l1 t3 t6 t7 t8 =
 cond (decide (t8 < t7))
 (if 0 ≤ t8 ∧ t8 < ((t6.length : Nat) : Int) then
 if okCells false (t6.getD t8.toNat .x) 0 [(.i .i64)] = true then
 f155_l1 (IntKind.i64.wrap (t3 + (((t6.getD t8.toNat .x).cells.getD 0 .x).toI))) t6 t7 (IntKind.i64.wrap (t8 + (1 : Int)))
 else none
 else none)
 (some (.i .i64 t3)) := (Lp_eq ..).trans (by kernel_rfl)
/-! 157: (*loop.example/g00905/impl.Device).contentsOk$1 -/
theorem f157_eq (x0 : ByteArray) : den E 157 [(.s x0)] [] =
 some (.b (decide ((64 : Int) < ((x0.size : Nat) : Int)))) := (den_eq ..).trans (by kernel_rfl)
/-! 177: slices.IndexFunc[[]string,string] -/
noncomputable def f177q1_l1 (t0 : List AV) (t7 : Int) (t8 : Int) : Option AV := Lp E fi177 [true, false, true, false] (mkT 19 [(0, (.imm 1 t0)), (1, (.fn 157 [])), (7, (.i .i64 t7)), (8, (.i .i64 t8))]) []
theorem f177q1_eq (x0 : List AV) : den E 177 [(.imm 1 x0), (.fn 157 [])] [] =
 f177q1_l1 x0 ((x0.length : Nat) : Int) (0 : Int) := (den_eq ..).trans (by kernel_rfl)
theorem f177q1_l1_eq (t0 : List AV) (t7 : Int) (t8 : Int) : f177q1_l1 t0 t7 t8 =
 cond (decide (t8 < t7))
 (if 0 ≤ t8 ∧ t8 < ((t0.length : Nat) : Int) then
 if okCells false (t0.getD t8.toNat .x) 0 [.s] = true then
 bSh .b (den E 157 [(.s (((t0.getD t8.toNat .x).cells.getD 0 .x).toS))] []) fun a1 =>
 cond a1.toB
 (some (.i .i64 t8))
 (f177q1_l1 t0 t7 (IntKind.i64.wrap (t8 + (1 : Int))))
 else none
 else none)
 (some (.i .i64 (-1 : Int))) := (Lp_eq ..).trans (by kernel_rfl)
/-! 156: slices.ContainsFunc[[]string,string] -/
theorem f156q1_eq (x0 : List AV) : den E 156 [(.imm 1 x0), (.fn 157 [])] [] =
 bSh (.i .i64) (den E 177 [(.imm 1 x0), (.fn 157 [])] []) fun a1 =>
 some (.b (decide ((0 : Int) ≤ a1.toI))) := (den_eq ..).trans (by kernel_rfl)
/-! 104: (*loop.example/g00905/impl.Device).contentsOk -/
theorem f104_eq (x0 : AV) (x1_0 : Int) (x1_1 : List AV) (x1_2 : Int) (x1_3 : Int) (x1_4 : List AV) (x1_5 : List AV) : den E 104 [(.ip x0 0), (.agg [(.i .i64 x1_0), (.imm 1 x1_1), (.i .i64 x1_2), (.i .i64 x1_3), (.imm 1 x1_4), (.imm 1 x1_5)])] [] =
 if okCells false x0 2 [(.i .i64)] = true then
 cond ((decide (((x0.cells.getD 2 .x).toI) < ((x1_4.length : Nat) : Int))) == false)
 (bSh (.i .i64) (den E 154 [(.ip x0 0)] []) fun a1 =>
 bSh .b (den E 120 [(.imm 1 x1_4), (.i .i64 (1 : Int)), (.i .i64 a1.toI)] []) fun a2 =>
 cond ((!a2.toB) == false)
 (bSh (.i .i64) (den E 154 [(.ip x0 0)] []) fun a3 =>
 cond (decide (a3.toI ≤ ((x1_5.length : Nat) : Int)))
 (some (.b false))
 (bSh (.i .i64) (den E 155 [(.imm 1 x1_4)] []) fun a4 =>
 cond ((decide (x1_3 = a4.toI)) == true)
 (cond ((decide (x1_2 = (IntKind.i64.wrap (x1_3 + ((x1_5.length : Nat) : Int))))) == true)
 (bSh .b (den E 156 [(.imm 1 x1_5), (.fn 157 [])] []) fun a5 =>
 some (.b (!a5.toB)))
 (some (.b false)))
 (some (.b false))))
 (some (.b false)))
 (some (.b false))
 else none := (den_eq ..).trans (by kernel_rfl)
/-! 178: (*loop.example/g00905/impl.Device).ready$1 -/
theorem f178q1_eq (x0 : Int) (x1 : AV) (x2 : AV) : den E 178 [(.i .i64 x0), (.ip (.ip x1 0) 0), (.ip x2 0)] [] =
 if okCells false x1 3 [(.sl 130 4)] = true then
 if 0 ≤ x0 ∧ x0 < ((((x1.cells.getD 3 .x).toL).length : Nat) : Int) then
 if okCells false (((x1.cells.getD 3 .x).toL).getD x0.toNat .x) 1 [(.i .i64)] = true then
 if okCells false x2 4 [(.sl 2 1)] = true then
 some (.b (!decide ((((((x1.cells.getD 3 .x).toL).getD x0.toNat .x).cells.getD 1 .x).toI) = ((((x2.cells.getD 4 .x).toL).length : Nat) : Int))))
 else none
 else none
 else none
 else none := (den_eq ..).trans (by kernel_rfl)
/-! 179: slices.IndexFunc[[]int64,int64] -/
noncomputable def f179q2_l1 (t0 : List AV) (t1_0 : AV) (t1_1 : AV) (t7 : Int) (t8 : Int) : Option AV := Lp E fi179 [true, false, true, false] (mkT 19 [(0, (.imm 1 t0)), (1, (.fn 178 [(.ip (.ip t1_0 0) 0), (.ip t1_1 0)])), (7, (.i .i64 t7)), (8, (.i .i64 t8))]) []
theorem f179q2_eq (x0 : List AV) (x1_0 : AV) (x1_1 : AV) : den E 179 [(.imm 1 x0), (.fn 178 [(.ip (.ip x1_0 0) 0), (.ip x1_1 0)])] [] =
 f179q2_l1 x0 x1_0 x1_1 ((x0.length : Nat) : Int) (0 : Int) := (den_eq ..).trans (by kernel_rfl)
theorem f179q2_l1_eq (t0 : List AV) (t1_0 : AV) (t1_1 : AV) (t7 : Int) (t8 : Int) : f179q2_l1 t0 t1_0 t1_1 t7 t8 =
 cond (decide (t8 < t7))
 (if 0 ≤ t8 ∧ t8 < ((t0.length : Nat) : Int) then
 if okCells false (t0.getD t8.toNat .x) 0 [(.i .i64)] = true then
 bSh .b (den E 178 [(.i .i64 (((t0.getD t8.toNat .x).cells.getD 0 .x).toI)), (.ip (.ip t1_0 0) 0), (.ip t1_1 0)] []) fun a1 =>
 cond a1.toB
 (some (.i .i64 t8))
 (f179q2_l1 t0 t1_0 t1_1 t7 (IntKind.i64.wrap (t8 + (1 : Int))))
 else none
 else none)
 (some (.i .i64 (-1 : Int))) := (Lp_eq ..).trans (by kernel_rfl)
/-! 166: slices.ContainsFunc[[]int64,int64] -/
theorem f166q2_eq (x0 : List AV) (x1_0 : AV) (x1_1 : AV) : den E 166 [(.imm 1 x0), (.fn 178 [(.ip (.ip x1_0 0) 0), (.ip x1_1 0)])] [] =
 bSh (.i .i64) (den E 179 [(.imm 1 x0), (.fn 178 [(.ip (.ip x1_0 0) 0), (.ip x1_1 0)])] []) fun a1 =>
 some (.b (decide ((0 : Int) ≤ a1.toI))) := (den_eq ..).trans (by kernel_rfl)
/-! 158: (*loop.example/g00905/impl.Device).ready -/
theorem f158_eq (x0 : AV) (x1_0 : Int) (x1_1 : List AV) (x1_2 : Int) (x1_3 : Int) (x1_4 : List AV) (x1_5 : List AV) : den E 158 [(.ip x0 0), (.agg [(.i .i64 x1_0), (.imm 1 x1_1), (.i .i64 x1_2), (.i .i64 x1_3), (.imm 1 x1_4), (.imm 1 x1_5)])] [] =
 bSh .b (den E 166 [(.imm 1 x1_1), (.fn 178 [(.ip (.ip x0 0) 0), (.ip (.agg [(.i .i64 x1_0), (.imm 1 x1_1), (.i .i64 x1_2), (.i .i64 x1_3), (.imm 1 x1_4), (.imm 1 x1_5)]) 0)])] []) fun a1 =>
 some (.b (!a1.toB)) := (den_eq ..).trans (by kernel_rfl)
/-! 105: (*loop.example/g00905/impl.Device).stateOk -/
theorem f105_eq (x0 : AV) (x1_0 : Int) (x1_1 : List AV) (x1_2 : Int) (x1_3 : Int) (x1_4 : List AV) (x1_5 : List AV) : den E 105 [(.ip x0 0), (.agg [(.i .i64 x1_0), (.imm 1 x1_1), (.i .i64 x1_2), (.i .i64 x1_3), (.imm 1 x1_4), (.imm 1 x1_5)])] [] =
 cond (decide (x1_0 = (1 : Int)))
 (cond ((decide (x1_2 = (0 : Int))) == true)
 (bSh .b (den E 158 [(.ip x0 0), (.agg [(.i .i64 x1_0), (.imm 1 x1_1), (.i .i64 x1_2), (.i .i64 x1_3), (.imm 1 x1_4), (.imm 1 x1_5)])] []) fun a1 =>
 some (.b a1.toB))
 (some (.b false)))
 (cond (decide (x1_0 = (2 : Int)))
 (cond ((decide ((0 : Int) < x1_2)) == true)
 (if okCells false x0 2 [(.i .i64)] = true then
 cond ((decide (((x1_4.length : Nat) : Int) < ((x0.cells.getD 2 .x).toI))) == true)
 (bSh .b (den E 158 [(.ip x0 0), (.agg [(.i .i64 x1_0), (.imm 1 x1_1), (.i .i64 x1_2), (.i .i64 x1_3), (.imm 1 x1_4), (.imm 1 x1_5)])] []) fun a2 =>
 some (.b a2.toB))
 (some (.b false))
 else none)
 (some (.b false)))
 (cond (decide (x1_0 = (3 : Int)))
 (some (.b (decide (((x1_5.length : Nat) : Int) = (0 : Int)))))
 (cond (decide (x1_0 = (4 : Int)))
 (some (.b (decide (x1_2 = (0 : Int)))))
 (some (.b false))))) := (den_eq ..).trans (by kernel_rfl)
/-! 54: loop.example/g00905/impl.ValidDevice -/
noncomputable def f54_l1 (t26 : List AV) (t27 : Int) (t28 : Int) (r0_0 : Int) (r0_1 : Int) (r0_2 : Int) (r0_3 : List AV) (r0_4 : Int) (r0_5 : Int) (r0_6 : Bool) (r0_7 : Int) (r0_8 : List AV) (r1 : List AV) : Option AV := Lp E fi54 [true, true, true, false, true, false] (mkT 59 [(1, (.pt 0 [] 0 0)), (3, (.pt 1 [(0, 0)] 0 0)), (26, (.imm 6 t26)), (27, (.i .i64 t27)), (28, (.i .i64 t28))]) [(.live false true false 38 [(.agg [(.i .i64 r0_0), (.i .i64 r0_1), (.i .i64 r0_2), (.imm 4 r0_3), (.i .i64 r0_4), (.i .i64 r0_5), (.b r0_6), (.i .i64 r0_7), (.imm 6 r0_8)])]), (.live false false false 1000000 [(.fn 0 r1)])]
noncomputable def f54_l2 (t26 : List AV) (t27 : Int) (t28 : Int) (t46 : List AV) (t47 : Int) (t48 : Int) (r0_0 : Int) (r0_1 : Int) (r0_2 : Int) (r0_3 : List AV) (r0_4 : Int) (r0_5 : Int) (r0_6 : Bool) (r0_7 : Int) (r0_8 : List AV) (r1 : List AV) : Option AV := Lp E fi54 [true, true, true, false, true, false, false, true, true, false, false, true, true, true, false] (mkT 59 [(1, (.pt 0 [] 0 0)), (3, (.pt 1 [(0, 0)] 0 0)), (26, (.imm 6 t26)), (27, (.i .i64 t27)), (28, (.i .i64 t28)), (46, (.imm 1 t46)), (47, (.i .i64 t47)), (48, (.i .i64 t48))]) [(.live false true false 38 [(.agg [(.i .i64 r0_0), (.i .i64 r0_1), (.i .i64 r0_2), (.imm 4 r0_3), (.i .i64 r0_4), (.i .i64 r0_5), (.b r0_6), (.i .i64 r0_7), (.imm 6 r0_8)])]), (.live false false false 1000000 [(.fn 0 r1)])]
theorem f54_eq (x0_0 : Int) (x0_1 : Int) (x0_2 : Int) (x0_3 : List AV) (x0_4 : Int) (x0_5 : Int) (x0_6 : Bool) (x0_7 : Int) (x0_8 : List AV) : den E 54 [(.agg [(.i .i64 x0_0), (.i .i64 x0_1), (.i .i64 x0_2), (.imm 4 x0_3), (.i .i64 x0_4), (.i .i64 x0_5), (.b x0_6), (.i .i64 x0_7), (.imm 6 x0_8)])] [] =
 bSh .b (den E 101 [(.agg [(.i .i64 x0_0), (.i .i64 x0_1), (.i .i64 x0_2), (.imm 4 x0_3), (.i .i64 x0_4), (.i .i64 x0_5), (.b x0_6), (.i .i64 x0_7)])] []) fun a1 =>
 cond ((!a1.toB) == false)
 (bSh .b (den E 102 [(.i .i64 ((x0_8.length : Nat) : Int)), (.i .i64 (1 : Int)), (.i .i64 (if x0_1 < (12 : Int) then x0_1 else (12 : Int)))] []) fun a2 =>
 cond (!a2.toB)
 (some (.b false))
 (f54_l1 x0_8 ((x0_8.length : Nat) : Int) (0 : Int) x0_0 x0_1 x0_2 x0_3 x0_4 x0_5 x0_6 x0_7 x0_8 []))
 (some (.b false)) := (den_eq ..).trans (by kernel_rfl)
theorem f54_l1_eq (t26 : List AV) (t27 : Int) (t28 : Int) (r0_0 : Int) (r0_1 : Int) (r0_2 : Int) (r0_3 : List AV) (r0_4 : Int) (r0_5 : Int) (r0_6 : Bool) (r0_7 : Int) (r0_8 : List AV) (r1 : List AV) : f54_l1 t26 t27 t28 r0_0 r0_1 r0_2 r0_3 r0_4 r0_5 r0_6 r0_7 r0_8 r1 =
 cond (decide (t28 < t27))
 (if 0 ≤ t28 ∧ t28 < ((t26.length : Nat) : Int) then
 if okCells false (t26.getD t28.toNat .x) 0 [(.i .i64), (.sl 2 1), (.i .i64), (.i .i64), (.sl 2 1), (.sl 9 1)] = true then
 bSh .b (den E 103 [(.ip (.agg [(.i .i64 r0_0), (.i .i64 r0_1), (.i .i64 r0_2), (.imm 4 r0_3), (.i .i64 r0_4), (.i .i64 r0_5), (.b r0_6), (.i .i64 r0_7), (.imm 6 r0_8)]) 0), (.agg [(.i .i64 (((t26.getD t28.toNat .x).cells.getD 0 .x).toI)), (.imm 1 (((t26.getD t28.toNat .x).cells.getD 1 .x).toL)), (.i .i64 (((t26.getD t28.toNat .x).cells.getD 2 .x).toI)), (.i .i64 (((t26.getD t28.toNat .x).cells.getD 3 .x).toI)), (.imm 1 (((t26.getD t28.toNat .x).cells.getD 4 .x).toL)), (.imm 1 (((t26.getD t28.toNat .x).cells.getD 5 .x).toL))])] []) fun a1 =>
 cond ((!a1.toB) == false)
 (bSh .b (den E 104 [(.ip (.agg [(.i .i64 r0_0), (.i .i64 r0_1), (.i .i64 r0_2), (.imm 4 r0_3), (.i .i64 r0_4), (.i .i64 r0_5), (.b r0_6), (.i .i64 r0_7), (.imm 6 r0_8)]) 0), (.agg [(.i .i64 (((t26.getD t28.toNat .x).cells.getD 0 .x).toI)), (.imm 1 (((t26.getD t28.toNat .x).cells.getD 1 .x).toL)), (.i .i64 (((t26.getD t28.toNat .x).cells.getD 2 .x).toI)), (.i .i64 (((t26.getD t28.toNat .x).cells.getD 3 .x).toI)), (.imm 1 (((t26.getD t28.toNat .x).cells.getD 4 .x).toL)), (.imm 1 (((t26.getD t28.toNat .x).cells.getD 5 .x).toL))])] []) fun a2 =>
 cond ((!a2.toB) == false)
 (bSh .b (den E 105 [(.ip (.agg [(.i .i64 r0_0), (.i .i64 r0_1), (.i .i64 r0_2), (.imm 4 r0_3), (.i .i64 r0_4), (.i .i64 r0_5), (.b r0_6), (.i .i64 r0_7), (.imm 6 r0_8)]) 0), (.agg [(.i .i64 (((t26.getD t28.toNat .x).cells.getD 0 .x).toI)), (.imm 1 (((t26.getD t28.toNat .x).cells.getD 1 .x).toL)), (.i .i64 (((t26.getD t28.toNat .x).cells.getD 2 .x).toI)), (.i .i64 (((t26.getD t28.toNat .x).cells.getD 3 .x).toI)), (.imm 1 (((t26.getD t28.toNat .x).cells.getD 4 .x).toL)), (.imm 1 (((t26.getD t28.toNat .x).cells.getD 5 .x).toL))])] []) fun a3 =>
 cond (!a3.toB)
 (some (.b false))
 (f54_l2 t26 t27 t28 (((t26.getD t28.toNat .x).cells.getD 1 .x).toL) (((((t26.getD t28.toNat .x).cells.getD 1 .x).toL).length : Nat) : Int) (0 : Int) r0_0 r0_1 r0_2 r0_3 r0_4 r0_5 r0_6 r0_7 r0_8 r1))
 (some (.b false)))
 (some (.b false))
 else none
 else none)
 (some (.b true)) := (Lp_eq ..).trans (by kernel_rfl)
theorem f54_l2_eq (t26 : List AV) (t27 : Int) (t28 : Int) (t46 : List AV) (t47 : Int) (t48 : Int) (r0_0 : Int) (r0_1 : Int) (r0_2 : Int) (r0_3 : List AV) (r0_4 : Int) (r0_5 : Int) (r0_6 : Bool) (r0_7 : Int) (r0_8 : List AV) (r1 : List AV) : f54_l2 t26 t27 t28 t46 t47 t48 r0_0 r0_1 r0_2 r0_3 r0_4 r0_5 r0_6 r0_7 r0_8 r1 =
 cond (decide (t48 < t47))
 (if 0 ≤ t48 ∧ t48 < ((t46.length : Nat) : Int) then
 if okCells false (t46.getD t48.toNat .x) 0 [(.i .i64)] = true then
 cond (hasI r1 (((t46.getD t48.toNat .x).cells.getD 0 .x).toI))
 (some (.b false))
 (f54_l2 t26 t27 t28 t46 t47 (IntKind.i64.wrap (t48 + (1 : Int))) r0_0 r0_1 r0_2 r0_3 r0_4 r0_5 r0_6 r0_7 r0_8 (r1 ++ [(.i .i64 (((t46.getD t48.toNat .x).cells.getD 0 .x).toI))]))
 else none
 else none)
 (f54_l1 t26 t27 (IntKind.i64.wrap (t28 + (1 : Int))) r0_0 r0_1 r0_2 r0_3 r0_4 r0_5 r0_6 r0_7 r0_8 r1) := (Lp_eq ..).trans (by kernel_rfl)
/-! 55: loop.example/g00905/impl.isIndex -/
theorem f55_eq (x0 : Int) (x1 : Int) : den E 55 [(.i .i64 x0), (.i .i64 x1)] [] =
 bSh .b (den E 102 [(.i .i64 x0), (.i .i64 (0 : Int)), (.i .i64 (IntKind.i64.wrap (x1 - (1 : Int))))] []) fun a1 =>
 some (.b a1.toB) := (den_eq ..).trans (by kernel_rfl)
/-! 56: (*loop.example/g00905/impl.Device).wearOf -/
noncomputable def f56_l1 (t0 : AV) (t5 : Int) (t15 : List AV) (t16 : Int) (t17 : Int) : Option AV := Lp E fi56 [true, true, false, true, false] (mkT 34 [(0, (.ip t0 0)), (5, (.i .i64 t5)), (15, (.imm 1 t15)), (16, (.i .i64 t16)), (17, (.i .i64 t17))]) []
theorem f56_eq (x0 : AV) (x1 : Int) : den E 56 [(.ip x0 0), (.i .i64 x1)] [] =
 if okCells false x0 8 [(.sl 124 6)] = true then
 if 0 ≤ x1 ∧ x1 < ((((x0.cells.getD 8 .x).toL).length : Nat) : Int) then
 if okCells false (((x0.cells.getD 8 .x).toL).getD x1.toNat .x) 1 [(.sl 2 1)] = true then
 f56_l1 x0 (0 : Int) (((((x0.cells.getD 8 .x).toL).getD x1.toNat .x).cells.getD 1 .x).toL) (((((((x0.cells.getD 8 .x).toL).getD x1.toNat .x).cells.getD 1 .x).toL).length : Nat) : Int) (0 : Int)
 else none
 else none
 else none := (den_eq ..).trans (by kernel_rfl)
theorem f56_l1_eq (t0 : AV) (t5 : Int) (t15 : List AV) (t16 : Int) (t17 : Int) : f56_l1 t0 t5 t15 t16 t17 =
 cond (decide (t17 < t16))
 (if 0 ≤ t17 ∧ t17 < ((t15.length : Nat) : Int) then
 if okCells false (t15.getD t17.toNat .x) 0 [(.i .i64)] = true then
 if okCells false t0 3 [(.sl 130 4)] = true then
 if 0 ≤ (((t15.getD t17.toNat .x).cells.getD 0 .x).toI) ∧ (((t15.getD t17.toNat .x).cells.getD 0 .x).toI) < ((((t0.cells.getD 3 .x).toL).length : Nat) : Int) then
 if okCells false (((t0.cells.getD 3 .x).toL).getD (((t15.getD t17.toNat .x).cells.getD 0 .x).toI).toNat .x) 0 [(.i .i64)] = true then
 f56_l1 t0 (IntKind.i64.wrap (t5 + (((((t0.cells.getD 3 .x).toL).getD (((t15.getD t17.toNat .x).cells.getD 0 .x).toI).toNat .x).cells.getD 0 .x).toI))) t15 t16 (IntKind.i64.wrap (t17 + (1 : Int)))
 else none
 else none
 else none
 else none
 else none)
 (some (.i .i64 t5)) := (Lp_eq ..).trans (by kernel_rfl)
/-! 13: loop.example/g00905/impl.WearOfZone -/
theorem f13_eq (x0_0 : Int) (x0_1 : Int) (x0_2 : Int) (x0_3 : List AV) (x0_4 : Int) (x0_5 : Int) (x0_6 : Bool) (x0_7 : Int) (x0_8 : List AV) (x1 : Int) : den E 13 [(.agg [(.i .i64 x0_0), (.i .i64 x0_1), (.i .i64 x0_2), (.imm 4 x0_3), (.i .i64 x0_4), (.i .i64 x0_5), (.b x0_6), (.i .i64 x0_7), (.imm 6 x0_8)]), (.i .i64 x1)] [] =
 bSh .b (den E 54 [(.agg [(.i .i64 x0_0), (.i .i64 x0_1), (.i .i64 x0_2), (.imm 4 x0_3), (.i .i64 x0_4), (.i .i64 x0_5), (.b x0_6), (.i .i64 x0_7), (.imm 6 x0_8)])] []) fun a1 =>
 cond ((!a1.toB) == false)
 (bSh .b (den E 55 [(.i .i64 x1), (.i .i64 ((x0_8.length : Nat) : Int))] []) fun a2 =>
 cond (!a2.toB)
 (some (.i .i64 (0 : Int)))
 (bSh (.i .i64) (den E 56 [(.ip (.agg [(.i .i64 x0_0), (.i .i64 x0_1), (.i .i64 x0_2), (.imm 4 x0_3), (.i .i64 x0_4), (.i .i64 x0_5), (.b x0_6), (.i .i64 x0_7), (.imm 6 x0_8)]) 0), (.i .i64 x1)] []) fun a3 =>
 some (.i .i64 a3.toI)))
 (some (.i .i64 (0 : Int))) := (den_eq ..).trans (by kernel_rfl)
/-! 106: loop.example/g00905/laws.eqGeometry -/
theorem f106_eq (x0_0 : Int) (x0_1 : Int) (x0_2 : Int) (x1_0 : Int) (x1_1 : Int) (x1_2 : Int) : den E 106 [(.agg [(.i .i64 x0_0), (.i .i64 x0_1), (.i .i64 x0_2)]), (.agg [(.i .i64 x1_0), (.i .i64 x1_1), (.i .i64 x1_2)])] [] =
 cond (!decide (x0_0 = x1_0))
 (some (.b false))
 (cond (!decide (x0_1 = x1_1))
 (some (.b false))
 (cond (!decide (x0_2 = x1_2))
 (some (.b false))
 (some (.b true)))) := (den_eq ..).trans (by kernel_rfl)
/-! 160: loop.example/g00905/laws.eqStringS -/
noncomputable def f160_l1 (t0 : List AV) (t1 : List AV) (t5 : Int) : Option AV := Lp E fi160 [true, true, false, true, false] (mkT 26 [(0, (.imm 1 t0)), (1, (.imm 1 t1)), (5, (.i .i64 t5))]) []
theorem f160_eq (x0 : List AV) (x1 : List AV) : den E 160 [(.imm 1 x0), (.imm 1 x1)] [] =
 cond (!decide (((x0.length : Nat) : Int) = ((x1.length : Nat) : Int)))
 (some (.b false))
 (f160_l1 x0 x1 (0 : Int)) := (den_eq ..).trans (by kernel_rfl)
theorem f160_l1_eq (t0 : List AV) (t1 : List AV) (t5 : Int) : f160_l1 t0 t1 t5 =
 cond (decide (t5 < ((t0.length : Nat) : Int)))
 (if 0 ≤ t5 ∧ t5 < ((t0.length : Nat) : Int) then
 if okCells false (t0.getD t5.toNat .x) 0 [.s] = true then
 if 0 ≤ t5 ∧ t5 < ((t1.length : Nat) : Int) then
 if okCells false (t1.getD t5.toNat .x) 0 [.s] = true then
 cond (!decide ((((t0.getD t5.toNat .x).cells.getD 0 .x).toS) = (((t1.getD t5.toNat .x).cells.getD 0 .x).toS)))
 (some (.b false))
 (f160_l1 t0 t1 (IntKind.i64.wrap (t5 + (1 : Int))))
 else none
 else none
 else none
 else none)
 (some (.b true)) := (Lp_eq ..).trans (by kernel_rfl)
/-! 159: loop.example/g00905/laws.eqBlock -/
theorem f159_eq (x0_0 : Int) (x0_1 : Int) (x0_2 : Bool) (x0_3 : List AV) (x1_0 : Int) (x1_1 : Int) (x1_2 : Bool) (x1_3 : List AV) : den E 159 [(.agg [(.i .i64 x0_0), (.i .i64 x0_1), (.b x0_2), (.imm 1 x0_3)]), (.agg [(.i .i64 x1_0), (.i .i64 x1_1), (.b x1_2), (.imm 1 x1_3)])] [] =
 cond (!decide (x0_0 = x1_0))
 (some (.b false))
 (cond (!decide (x0_1 = x1_1))
 (some (.b false))
 (cond (!decide (x0_2 = x1_2))
 (some (.b false))
 (bSh .b (den E 160 [(.imm 1 x0_3), (.imm 1 x1_3)] []) fun a1 =>
 cond (!a1.toB)
 (some (.b false))
 (some (.b true))))) := (den_eq ..).trans (by kernel_rfl)
/-! 107: loop.example/g00905/laws.eqBlockS -/
noncomputable def f107_l1 (t0 : List AV) (t1 : List AV) (t5 : Int) : Option AV := Lp E fi107 [true, true, false, true, false] (mkT 27 [(0, (.imm 4 t0)), (1, (.imm 4 t1)), (5, (.i .i64 t5))]) []
theorem f107_eq (x0 : List AV) (x1 : List AV) : den E 107 [(.imm 4 x0), (.imm 4 x1)] [] =
 cond (!decide (((x0.length : Nat) : Int) = ((x1.length : Nat) : Int)))
 (some (.b false))
 (f107_l1 x0 x1 (0 : Int)) := (den_eq ..).trans (by kernel_rfl)
theorem f107_l1_eq (t0 : List AV) (t1 : List AV) (t5 : Int) : f107_l1 t0 t1 t5 =
 cond (decide (t5 < ((t0.length : Nat) : Int)))
 (if 0 ≤ t5 ∧ t5 < ((t0.length : Nat) : Int) then
 if okCells false (t0.getD t5.toNat .x) 0 [(.i .i64), (.i .i64), .b, (.sl 9 1)] = true then
 if 0 ≤ t5 ∧ t5 < ((t1.length : Nat) : Int) then
 if okCells false (t1.getD t5.toNat .x) 0 [(.i .i64), (.i .i64), .b, (.sl 9 1)] = true then
 bSh .b (den E 159 [(.agg [(.i .i64 (((t0.getD t5.toNat .x).cells.getD 0 .x).toI)), (.i .i64 (((t0.getD t5.toNat .x).cells.getD 1 .x).toI)), (.b (((t0.getD t5.toNat .x).cells.getD 2 .x).toB)), (.imm 1 (((t0.getD t5.toNat .x).cells.getD 3 .x).toL))]), (.agg [(.i .i64 (((t1.getD t5.toNat .x).cells.getD 0 .x).toI)), (.i .i64 (((t1.getD t5.toNat .x).cells.getD 1 .x).toI)), (.b (((t1.getD t5.toNat .x).cells.getD 2 .x).toB)), (.imm 1 (((t1.getD t5.toNat .x).cells.getD 3 .x).toL))])] []) fun a1 =>
 cond (!a1.toB)
 (some (.b false))
 (f107_l1 t0 t1 (IntKind.i64.wrap (t5 + (1 : Int))))
 else none
 else none
 else none
 else none)
 (some (.b true)) := (Lp_eq ..).trans (by kernel_rfl)
/-! 57: loop.example/g00905/laws.eqFlash -/
theorem f57_eq (x0_0 : Int) (x0_1 : Int) (x0_2 : Int) (x0_3 : List AV) (x0_4 : Int) (x0_5 : Int) (x0_6 : Bool) (x0_7 : Int) (x1_0 : Int) (x1_1 : Int) (x1_2 : Int) (x1_3 : List AV) (x1_4 : Int) (x1_5 : Int) (x1_6 : Bool) (x1_7 : Int) : den E 57 [(.agg [(.i .i64 x0_0), (.i .i64 x0_1), (.i .i64 x0_2), (.imm 4 x0_3), (.i .i64 x0_4), (.i .i64 x0_5), (.b x0_6), (.i .i64 x0_7)]), (.agg [(.i .i64 x1_0), (.i .i64 x1_1), (.i .i64 x1_2), (.imm 4 x1_3), (.i .i64 x1_4), (.i .i64 x1_5), (.b x1_6), (.i .i64 x1_7)])] [] =
 bSh .b (den E 106 [(.agg [(.i .i64 x0_0), (.i .i64 x0_1), (.i .i64 x0_2)]), (.agg [(.i .i64 x1_0), (.i .i64 x1_1), (.i .i64 x1_2)])] []) fun a1 =>
 cond (!a1.toB)
 (some (.b false))
 (bSh .b (den E 107 [(.imm 4 x0_3), (.imm 4 x1_3)] []) fun a2 =>
 cond (!a2.toB)
 (some (.b false))
 (cond (!decide (x0_4 = x1_4))
 (some (.b false))
 (cond (!decide (x0_5 = x1_5))
 (some (.b false))
 (cond (!decide (x0_6 = x1_6))
 (some (.b false))
 (cond (!decide (x0_7 = x1_7))
 (some (.b false))
 (some (.b true))))))) := (den_eq ..).trans (by kernel_rfl)
/-! 29: loop.example/g00905/laws.eqInt64S -/
noncomputable def f29_l1 (t0 : List AV) (t1 : List AV) (t5 : Int) : Option AV := Lp E fi29 [true, true, false, true, false] (mkT 26 [(0, (.imm 1 t0)), (1, (.imm 1 t1)), (5, (.i .i64 t5))]) []
theorem f29_eq (x0 : List AV) (x1 : List AV) : den E 29 [(.imm 1 x0), (.imm 1 x1)] [] =
 cond (!decide (((x0.length : Nat) : Int) = ((x1.length : Nat) : Int)))
 (some (.b false))
 (f29_l1 x0 x1 (0 : Int)) := (den_eq ..).trans (by kernel_rfl)
theorem f29_l1_eq (t0 : List AV) (t1 : List AV) (t5 : Int) : f29_l1 t0 t1 t5 =
 cond (decide (t5 < ((t0.length : Nat) : Int)))
 (if 0 ≤ t5 ∧ t5 < ((t0.length : Nat) : Int) then
 if okCells false (t0.getD t5.toNat .x) 0 [(.i .i64)] = true then
 if 0 ≤ t5 ∧ t5 < ((t1.length : Nat) : Int) then
 if okCells false (t1.getD t5.toNat .x) 0 [(.i .i64)] = true then
 cond (!decide ((((t0.getD t5.toNat .x).cells.getD 0 .x).toI) = (((t1.getD t5.toNat .x).cells.getD 0 .x).toI)))
 (some (.b false))
 (f29_l1 t0 t1 (IntKind.i64.wrap (t5 + (1 : Int))))
 else none
 else none
 else none
 else none)
 (some (.b true)) := (Lp_eq ..).trans (by kernel_rfl)
/-! 108: loop.example/g00905/laws.eqZone -/
theorem f108_eq (x0_0 : Int) (x0_1 : List AV) (x0_2 : Int) (x0_3 : Int) (x0_4 : List AV) (x0_5 : List AV) (x1_0 : Int) (x1_1 : List AV) (x1_2 : Int) (x1_3 : Int) (x1_4 : List AV) (x1_5 : List AV) : den E 108 [(.agg [(.i .i64 x0_0), (.imm 1 x0_1), (.i .i64 x0_2), (.i .i64 x0_3), (.imm 1 x0_4), (.imm 1 x0_5)]), (.agg [(.i .i64 x1_0), (.imm 1 x1_1), (.i .i64 x1_2), (.i .i64 x1_3), (.imm 1 x1_4), (.imm 1 x1_5)])] [] =
 cond (!decide (x0_0 = x1_0))
 (some (.b false))
 (bSh .b (den E 29 [(.imm 1 x0_1), (.imm 1 x1_1)] []) fun a1 =>
 cond (!a1.toB)
 (some (.b false))
 (cond (!decide (x0_2 = x1_2))
 (some (.b false))
 (cond (!decide (x0_3 = x1_3))
 (some (.b false))
 (bSh .b (den E 29 [(.imm 1 x0_4), (.imm 1 x1_4)] []) fun a2 =>
 cond (!a2.toB)
 (some (.b false))
 (bSh .b (den E 160 [(.imm 1 x0_5), (.imm 1 x1_5)] []) fun a3 =>
 cond (!a3.toB)
 (some (.b false))
 (some (.b true))))))) := (den_eq ..).trans (by kernel_rfl)
/-! 58: loop.example/g00905/laws.eqZoneS -/
noncomputable def f58_l1 (t0 : List AV) (t1 : List AV) (t5 : Int) : Option AV := Lp E fi58 [true, true, false, true, false] (mkT 27 [(0, (.imm 6 t0)), (1, (.imm 6 t1)), (5, (.i .i64 t5))]) []
theorem f58_eq (x0 : List AV) (x1 : List AV) : den E 58 [(.imm 6 x0), (.imm 6 x1)] [] =
 cond (!decide (((x0.length : Nat) : Int) = ((x1.length : Nat) : Int)))
 (some (.b false))
 (f58_l1 x0 x1 (0 : Int)) := (den_eq ..).trans (by kernel_rfl)
theorem f58_l1_eq (t0 : List AV) (t1 : List AV) (t5 : Int) : f58_l1 t0 t1 t5 =
 cond (decide (t5 < ((t0.length : Nat) : Int)))
 (if 0 ≤ t5 ∧ t5 < ((t0.length : Nat) : Int) then
 if okCells false (t0.getD t5.toNat .x) 0 [(.i .i64), (.sl 2 1), (.i .i64), (.i .i64), (.sl 2 1), (.sl 9 1)] = true then
 if 0 ≤ t5 ∧ t5 < ((t1.length : Nat) : Int) then
 if okCells false (t1.getD t5.toNat .x) 0 [(.i .i64), (.sl 2 1), (.i .i64), (.i .i64), (.sl 2 1), (.sl 9 1)] = true then
 bSh .b (den E 108 [(.agg [(.i .i64 (((t0.getD t5.toNat .x).cells.getD 0 .x).toI)), (.imm 1 (((t0.getD t5.toNat .x).cells.getD 1 .x).toL)), (.i .i64 (((t0.getD t5.toNat .x).cells.getD 2 .x).toI)), (.i .i64 (((t0.getD t5.toNat .x).cells.getD 3 .x).toI)), (.imm 1 (((t0.getD t5.toNat .x).cells.getD 4 .x).toL)), (.imm 1 (((t0.getD t5.toNat .x).cells.getD 5 .x).toL))]), (.agg [(.i .i64 (((t1.getD t5.toNat .x).cells.getD 0 .x).toI)), (.imm 1 (((t1.getD t5.toNat .x).cells.getD 1 .x).toL)), (.i .i64 (((t1.getD t5.toNat .x).cells.getD 2 .x).toI)), (.i .i64 (((t1.getD t5.toNat .x).cells.getD 3 .x).toI)), (.imm 1 (((t1.getD t5.toNat .x).cells.getD 4 .x).toL)), (.imm 1 (((t1.getD t5.toNat .x).cells.getD 5 .x).toL))])] []) fun a1 =>
 cond (!a1.toB)
 (some (.b false))
 (f58_l1 t0 t1 (IntKind.i64.wrap (t5 + (1 : Int))))
 else none
 else none
 else none
 else none)
 (some (.b true)) := (Lp_eq ..).trans (by kernel_rfl)
/-! 14: loop.example/g00905/laws.eqDevice -/
theorem f14_eq (x0_0 : Int) (x0_1 : Int) (x0_2 : Int) (x0_3 : List AV) (x0_4 : Int) (x0_5 : Int) (x0_6 : Bool) (x0_7 : Int) (x0_8 : List AV) (x1_0 : Int) (x1_1 : Int) (x1_2 : Int) (x1_3 : List AV) (x1_4 : Int) (x1_5 : Int) (x1_6 : Bool) (x1_7 : Int) (x1_8 : List AV) : den E 14 [(.agg [(.i .i64 x0_0), (.i .i64 x0_1), (.i .i64 x0_2), (.imm 4 x0_3), (.i .i64 x0_4), (.i .i64 x0_5), (.b x0_6), (.i .i64 x0_7), (.imm 6 x0_8)]), (.agg [(.i .i64 x1_0), (.i .i64 x1_1), (.i .i64 x1_2), (.imm 4 x1_3), (.i .i64 x1_4), (.i .i64 x1_5), (.b x1_6), (.i .i64 x1_7), (.imm 6 x1_8)])] [] =
 bSh .b (den E 57 [(.agg [(.i .i64 x0_0), (.i .i64 x0_1), (.i .i64 x0_2), (.imm 4 x0_3), (.i .i64 x0_4), (.i .i64 x0_5), (.b x0_6), (.i .i64 x0_7)]), (.agg [(.i .i64 x1_0), (.i .i64 x1_1), (.i .i64 x1_2), (.imm 4 x1_3), (.i .i64 x1_4), (.i .i64 x1_5), (.b x1_6), (.i .i64 x1_7)])] []) fun a1 =>
 cond (!a1.toB)
 (some (.b false))
 (bSh .b (den E 58 [(.imm 6 x0_8), (.imm 6 x1_8)] []) fun a2 =>
 cond (!a2.toB)
 (some (.b false))
 (some (.b true))) := (den_eq ..).trans (by kernel_rfl)
/-! 3: loop.example/g00905/laws.FnExactWearOfZone -/
theorem f3_eq (x0_0 : Int) (x0_1 : Int) (x0_2 : Int) (x0_3 : List AV) (x0_4 : Int) (x0_5 : Int) (x0_6 : Bool) (x0_7 : Int) (x0_8 : List AV) (x1 : Int) : den E 3 [(.agg [(.i .i64 x0_0), (.i .i64 x0_1), (.i .i64 x0_2), (.imm 4 x0_3), (.i .i64 x0_4), (.i .i64 x0_5), (.b x0_6), (.i .i64 x0_7), (.imm 6 x0_8)]), (.i .i64 x1)] [] =
 bSh (.i .i64) (den E 10 [(.agg [(.i .i64 x0_0), (.i .i64 x0_1), (.i .i64 x0_2), (.imm 4 x0_3), (.i .i64 x0_4), (.i .i64 x0_5), (.b x0_6), (.i .i64 x0_7), (.imm 6 x0_8)]), (.i .i64 (1048576 : Int))] []) fun a1 =>
 cond (decide (a1.toI < (0 : Int)))
 (some (.b true))
 (bSh (.agg [(.i .i64), (.i .i64), (.i .i64), (.sl 130 4), (.i .i64), (.i .i64), .b, (.i .i64), (.sl 124 6)]) (den E 12 [(.agg [(.i .i64 x0_0), (.i .i64 x0_1), (.i .i64 x0_2), (.imm 4 x0_3), (.i .i64 x0_4), (.i .i64 x0_5), (.b x0_6), (.i .i64 x0_7), (.imm 6 x0_8)])] []) fun a2 =>
 bSh (.i .i64) (den E 11 [(.agg [(.i .i64 ((a2.nth 0).toI)), (.i .i64 ((a2.nth 1).toI)), (.i .i64 ((a2.nth 2).toI)), (.imm 4 ((a2.nth 3).toL)), (.i .i64 ((a2.nth 4).toI)), (.i .i64 ((a2.nth 5).toI)), (.b ((a2.nth 6).toB)), (.i .i64 ((a2.nth 7).toI)), (.imm 6 ((a2.nth 8).toL))]), (.i .i64 x1)] []) fun a3 =>
 bSh (.agg [(.i .i64), (.i .i64), (.i .i64), (.sl 130 4), (.i .i64), (.i .i64), .b, (.i .i64), (.sl 124 6)]) (den E 12 [(.agg [(.i .i64 x0_0), (.i .i64 x0_1), (.i .i64 x0_2), (.imm 4 x0_3), (.i .i64 x0_4), (.i .i64 x0_5), (.b x0_6), (.i .i64 x0_7), (.imm 6 x0_8)])] []) fun a4 =>
 bSh (.i .i64) (den E 13 [(.agg [(.i .i64 ((a4.nth 0).toI)), (.i .i64 ((a4.nth 1).toI)), (.i .i64 ((a4.nth 2).toI)), (.imm 4 ((a4.nth 3).toL)), (.i .i64 ((a4.nth 4).toI)), (.i .i64 ((a4.nth 5).toI)), (.b ((a4.nth 6).toB)), (.i .i64 ((a4.nth 7).toI)), (.imm 6 ((a4.nth 8).toL))]), (.i .i64 x1)] []) fun a5 =>
 cond (!decide (a5.toI = a3.toI))
 (some (.b false))
 (bSh (.agg [(.i .i64), (.i .i64), (.i .i64), (.sl 130 4), (.i .i64), (.i .i64), .b, (.i .i64), (.sl 124 6)]) (den E 12 [(.agg [(.i .i64 x0_0), (.i .i64 x0_1), (.i .i64 x0_2), (.imm 4 x0_3), (.i .i64 x0_4), (.i .i64 x0_5), (.b x0_6), (.i .i64 x0_7), (.imm 6 x0_8)])] []) fun a6 =>
 bSh .b (den E 14 [(.agg [(.i .i64 ((a4.nth 0).toI)), (.i .i64 ((a4.nth 1).toI)), (.i .i64 ((a4.nth 2).toI)), (.imm 4 ((a4.nth 3).toL)), (.i .i64 ((a4.nth 4).toI)), (.i .i64 ((a4.nth 5).toI)), (.b ((a4.nth 6).toB)), (.i .i64 ((a4.nth 7).toI)), (.imm 6 ((a4.nth 8).toL))]), (.agg [(.i .i64 ((a6.nth 0).toI)), (.i .i64 ((a6.nth 1).toI)), (.i .i64 ((a6.nth 2).toI)), (.imm 4 ((a6.nth 3).toL)), (.i .i64 ((a6.nth 4).toI)), (.i .i64 ((a6.nth 5).toI)), (.b ((a6.nth 6).toB)), (.i .i64 ((a6.nth 7).toI)), (.imm 6 ((a6.nth 8).toL))])] []) fun a7 =>
 cond (!a7.toB)
 (some (.b false))
 (some (.b true)))) := (den_eq ..).trans (by kernel_rfl)
end Go.Proofs.Ytokpbjbngnlepaa.IWearOfZone
