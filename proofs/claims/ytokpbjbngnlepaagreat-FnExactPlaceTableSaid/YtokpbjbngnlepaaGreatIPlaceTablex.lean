/- Printed by a program of this work (wip/it/itp.py): what each function comes to. No condition. -/
import Derived.Test.YtokpbjbngnlepaaGreatIPlaceTablet
namespace Go.Proofs.YtokpbjbngnlepaaGreat.IPlaceTable
open Go Go.Proofs.YtokpbjbngnlepaaGreatIT
set_option linter.unusedVariables false
/-! 99: loop.example/g00905/laws.szStringS -/
noncomputable def f99_l1 (t0 : List AV) (t1 : Int) (t5 : Int) : Option AV := Lp E fi99 [true, true, true, false, true, false] (mkT 28 [(0, (.imm 1 t0)), (1, (.i .i64 t1)), (5, (.i .i64 t5))]) []
theorem f99_eq (x0 : List AV) (x1 : Int) : den E 99 [(.imm 1 x0), (.i .i64 x1)] [] =
 cond (decide ((IntKind.i64.wrap (x1 - ((x0.length : Nat) : Int))) < (0 : Int)))
 (some (.i .i64 (-1 : Int)))
 (f99_l1 x0 (IntKind.i64.wrap (x1 - ((x0.length : Nat) : Int))) (0 : Int)) := (den_eq ..).trans (by kernel_rfl)
theorem f99_l1_eq (t0 : List AV) (t1 : Int) (t5 : Int) : f99_l1 t0 t1 t5 =
 cond (decide (t5 < ((t0.length : Nat) : Int)))
 (if 0 ≤ t5 ∧ t5 < ((t0.length : Nat) : Int) then
 if okCells false (t0.getD t5.toNat .x) 0 [.s] = true then
 cond (decide ((IntKind.i64.wrap (t1 - (((((t0.getD t5.toNat .x).cells.getD 0 .x).toS).size : Nat) : Int))) < (0 : Int)))
 (some (.i .i64 (-1 : Int)))
 (f99_l1 t0 (IntKind.i64.wrap (t1 - (((((t0.getD t5.toNat .x).cells.getD 0 .x).toS).size : Nat) : Int))) (IntKind.i64.wrap (t5 + (1 : Int))))
 else none
 else none)
 (some (.i .i64 t1)) := (Lp_eq ..).trans (by kernel_rfl)
/-! 97: loop.example/g00905/laws.szBlock -/
theorem f97_eq (x0_0 : Int) (x0_1 : Int) (x0_2 : Bool) (x0_3 : List AV) (x1 : Int) : den E 97 [(.agg [(.i .i64 x0_0), (.i .i64 x0_1), (.b x0_2), (.imm 1 x0_3)]), (.i .i64 x1)] [] =
 bSh (.i .i64) (den E 99 [(.imm 1 x0_3), (.i .i64 x1)] []) fun a1 =>
 cond (decide (a1.toI < (0 : Int)))
 (some (.i .i64 (-1 : Int)))
 (some (.i .i64 a1.toI)) := (den_eq ..).trans (by kernel_rfl)
/-! 58: loop.example/g00905/laws.szBlockS -/
noncomputable def f58_l1 (t0 : List AV) (t1 : Int) (t5 : Int) : Option AV := Lp E fi58 [true, true, true, false, true, false] (mkT 27 [(0, (.imm 4 t0)), (1, (.i .i64 t1)), (5, (.i .i64 t5))]) []
theorem f58_eq (x0 : List AV) (x1 : Int) : den E 58 [(.imm 4 x0), (.i .i64 x1)] [] =
 cond (decide ((IntKind.i64.wrap (x1 - ((x0.length : Nat) : Int))) < (0 : Int)))
 (some (.i .i64 (-1 : Int)))
 (f58_l1 x0 (IntKind.i64.wrap (x1 - ((x0.length : Nat) : Int))) (0 : Int)) := (den_eq ..).trans (by kernel_rfl)
theorem f58_l1_eq (t0 : List AV) (t1 : Int) (t5 : Int) : f58_l1 t0 t1 t5 =
 cond (decide (t5 < ((t0.length : Nat) : Int)))
 (if 0 ≤ t5 ∧ t5 < ((t0.length : Nat) : Int) then
 if okCells false (t0.getD t5.toNat .x) 0 [(.i .i64), (.i .i64), .b, (.sl 9 1)] = true then
 bSh (.i .i64) (den E 97 [(.agg [(.i .i64 (((t0.getD t5.toNat .x).cells.getD 0 .x).toI)), (.i .i64 (((t0.getD t5.toNat .x).cells.getD 1 .x).toI)), (.b (((t0.getD t5.toNat .x).cells.getD 2 .x).toB)), (.imm 1 (((t0.getD t5.toNat .x).cells.getD 3 .x).toL))]), (.i .i64 t1)] []) fun a1 =>
 cond (decide (a1.toI < (0 : Int)))
 (some (.i .i64 (-1 : Int)))
 (f58_l1 t0 a1.toI (IntKind.i64.wrap (t5 + (1 : Int))))
 else none
 else none)
 (some (.i .i64 t1)) := (Lp_eq ..).trans (by kernel_rfl)
/-! 29: loop.example/g00905/laws.szFlash -/
theorem f29_eq (x0_0 : Int) (x0_1 : Int) (x0_2 : Int) (x0_3 : List AV) (x0_4 : Int) (x0_5 : Int) (x0_6 : Bool) (x0_7 : Int) (x1 : Int) : den E 29 [(.agg [(.i .i64 x0_0), (.i .i64 x0_1), (.i .i64 x0_2), (.imm 4 x0_3), (.i .i64 x0_4), (.i .i64 x0_5), (.b x0_6), (.i .i64 x0_7)]), (.i .i64 x1)] [] =
 bSh (.i .i64) (den E 58 [(.imm 4 x0_3), (.i .i64 x1)] []) fun a1 =>
 cond (decide (a1.toI < (0 : Int)))
 (some (.i .i64 (-1 : Int)))
 (some (.i .i64 a1.toI)) := (den_eq ..).trans (by kernel_rfl)
/-! 98: loop.example/g00905/laws.szInt64S -/
theorem f98_eq (x0 : List AV) (x1 : Int) : den E 98 [(.imm 1 x0), (.i .i64 x1)] [] =
 cond (decide ((IntKind.i64.wrap (x1 - ((x0.length : Nat) : Int))) < (0 : Int)))
 (some (.i .i64 (-1 : Int)))
 (some (.i .i64 (IntKind.i64.wrap (x1 - ((x0.length : Nat) : Int))))) := (den_eq ..).trans (by kernel_rfl)
/-! 59: loop.example/g00905/laws.szZone -/
theorem f59_eq (x0_0 : Int) (x0_1 : List AV) (x0_2 : Int) (x0_3 : Int) (x0_4 : List AV) (x0_5 : List AV) (x1 : Int) : den E 59 [(.agg [(.i .i64 x0_0), (.imm 1 x0_1), (.i .i64 x0_2), (.i .i64 x0_3), (.imm 1 x0_4), (.imm 1 x0_5)]), (.i .i64 x1)] [] =
 bSh (.i .i64) (den E 98 [(.imm 1 x0_1), (.i .i64 x1)] []) fun a1 =>
 cond (decide (a1.toI < (0 : Int)))
 (some (.i .i64 (-1 : Int)))
 (bSh (.i .i64) (den E 98 [(.imm 1 x0_4), (.i .i64 a1.toI)] []) fun a2 =>
 cond (decide (a2.toI < (0 : Int)))
 (some (.i .i64 (-1 : Int)))
 (bSh (.i .i64) (den E 99 [(.imm 1 x0_5), (.i .i64 a2.toI)] []) fun a3 =>
 cond (decide (a3.toI < (0 : Int)))
 (some (.i .i64 (-1 : Int)))
 (some (.i .i64 a3.toI)))) := (den_eq ..).trans (by kernel_rfl)
/-! 30: loop.example/g00905/laws.szZoneS -/
noncomputable def f30_l1 (t0 : List AV) (t1 : Int) (t5 : Int) : Option AV := Lp E fi30 [true, true, true, false, true, false] (mkT 27 [(0, (.imm 6 t0)), (1, (.i .i64 t1)), (5, (.i .i64 t5))]) []
theorem f30_eq (x0 : List AV) (x1 : Int) : den E 30 [(.imm 6 x0), (.i .i64 x1)] [] =
 cond (decide ((IntKind.i64.wrap (x1 - ((x0.length : Nat) : Int))) < (0 : Int)))
 (some (.i .i64 (-1 : Int)))
 (f30_l1 x0 (IntKind.i64.wrap (x1 - ((x0.length : Nat) : Int))) (0 : Int)) := (den_eq ..).trans (by kernel_rfl)
theorem f30_l1_eq (t0 : List AV) (t1 : Int) (t5 : Int) : f30_l1 t0 t1 t5 =
 cond (decide (t5 < ((t0.length : Nat) : Int)))
 (if 0 ≤ t5 ∧ t5 < ((t0.length : Nat) : Int) then
 if okCells false (t0.getD t5.toNat .x) 0 [(.i .i64), (.sl 2 1), (.i .i64), (.i .i64), (.sl 2 1), (.sl 9 1)] = true then
 bSh (.i .i64) (den E 59 [(.agg [(.i .i64 (((t0.getD t5.toNat .x).cells.getD 0 .x).toI)), (.imm 1 (((t0.getD t5.toNat .x).cells.getD 1 .x).toL)), (.i .i64 (((t0.getD t5.toNat .x).cells.getD 2 .x).toI)), (.i .i64 (((t0.getD t5.toNat .x).cells.getD 3 .x).toI)), (.imm 1 (((t0.getD t5.toNat .x).cells.getD 4 .x).toL)), (.imm 1 (((t0.getD t5.toNat .x).cells.getD 5 .x).toL))]), (.i .i64 t1)] []) fun a1 =>
 cond (decide (a1.toI < (0 : Int)))
 (some (.i .i64 (-1 : Int)))
 (f30_l1 t0 a1.toI (IntKind.i64.wrap (t5 + (1 : Int))))
 else none
 else none)
 (some (.i .i64 t1)) := (Lp_eq ..).trans (by kernel_rfl)
/-! 8: loop.example/g00905/laws.szDevice -/
theorem f8_eq (x0_0 : Int) (x0_1 : Int) (x0_2 : Int) (x0_3 : List AV) (x0_4 : Int) (x0_5 : Int) (x0_6 : Bool) (x0_7 : Int) (x0_8 : List AV) (x1 : Int) : den E 8 [(.agg [(.i .i64 x0_0), (.i .i64 x0_1), (.i .i64 x0_2), (.imm 4 x0_3), (.i .i64 x0_4), (.i .i64 x0_5), (.b x0_6), (.i .i64 x0_7), (.imm 6 x0_8)]), (.i .i64 x1)] [] =
 bSh (.i .i64) (den E 29 [(.agg [(.i .i64 x0_0), (.i .i64 x0_1), (.i .i64 x0_2), (.imm 4 x0_3), (.i .i64 x0_4), (.i .i64 x0_5), (.b x0_6), (.i .i64 x0_7)]), (.i .i64 x1)] []) fun a1 =>
 cond (decide (a1.toI < (0 : Int)))
 (some (.i .i64 (-1 : Int)))
 (bSh (.i .i64) (den E 30 [(.imm 6 x0_8), (.i .i64 a1.toI)] []) fun a2 =>
 cond (decide (a2.toI < (0 : Int)))
 (some (.i .i64 (-1 : Int)))
 (some (.i .i64 a2.toI))) := (den_eq ..).trans (by kernel_rfl)
/-! 60: loop.example/g00905/laws.szTableRef -/
theorem f60_eq (x0_0 : Int) (x0_1 : Int) (x0_2 : Int) (x0_3 : Int) (x0_4 : Int) (x0_5 : ByteArray) (x0_6 : ByteArray) (x0_7 : Int) (x0_8 : Int) (x0_9 : Int) (x1 : Int) : den E 60 [(.agg [(.i .i64 x0_0), (.i .i64 x0_1), (.i .i64 x0_2), (.i .i64 x0_3), (.i .i64 x0_4), (.s x0_5), (.s x0_6), (.i .i64 x0_7), (.i .i64 x0_8), (.i .i64 x0_9)]), (.i .i64 x1)] [] =
 cond (decide ((IntKind.i64.wrap (x1 - ((x0_5.size : Nat) : Int))) < (0 : Int)))
 (some (.i .i64 (-1 : Int)))
 (cond (decide ((IntKind.i64.wrap ((IntKind.i64.wrap (x1 - ((x0_5.size : Nat) : Int))) - ((x0_6.size : Nat) : Int))) < (0 : Int)))
 (some (.i .i64 (-1 : Int)))
 (some (.i .i64 (IntKind.i64.wrap ((IntKind.i64.wrap (x1 - ((x0_5.size : Nat) : Int))) - ((x0_6.size : Nat) : Int)))))) := (den_eq ..).trans (by kernel_rfl)
/-! 31: loop.example/g00905/laws.szTableRefS -/
noncomputable def f31_l1 (t0 : List AV) (t1 : Int) (t5 : Int) : Option AV := Lp E fi31 [true, true, true, false, true, false] (mkT 27 [(0, (.imm 10 t0)), (1, (.i .i64 t1)), (5, (.i .i64 t5))]) []
theorem f31_eq (x0 : List AV) (x1 : Int) : den E 31 [(.imm 10 x0), (.i .i64 x1)] [] =
 cond (decide ((IntKind.i64.wrap (x1 - ((x0.length : Nat) : Int))) < (0 : Int)))
 (some (.i .i64 (-1 : Int)))
 (f31_l1 x0 (IntKind.i64.wrap (x1 - ((x0.length : Nat) : Int))) (0 : Int)) := (den_eq ..).trans (by kernel_rfl)
theorem f31_l1_eq (t0 : List AV) (t1 : Int) (t5 : Int) : f31_l1 t0 t1 t5 =
 cond (decide (t5 < ((t0.length : Nat) : Int)))
 (if 0 ≤ t5 ∧ t5 < ((t0.length : Nat) : Int) then
 if okCells false (t0.getD t5.toNat .x) 0 [(.i .i64), (.i .i64), (.i .i64), (.i .i64), (.i .i64), .s, .s, (.i .i64), (.i .i64), (.i .i64)] = true then
 bSh (.i .i64) (den E 60 [(.agg [(.i .i64 (((t0.getD t5.toNat .x).cells.getD 0 .x).toI)), (.i .i64 (((t0.getD t5.toNat .x).cells.getD 1 .x).toI)), (.i .i64 (((t0.getD t5.toNat .x).cells.getD 2 .x).toI)), (.i .i64 (((t0.getD t5.toNat .x).cells.getD 3 .x).toI)), (.i .i64 (((t0.getD t5.toNat .x).cells.getD 4 .x).toI)), (.s (((t0.getD t5.toNat .x).cells.getD 5 .x).toS)), (.s (((t0.getD t5.toNat .x).cells.getD 6 .x).toS)), (.i .i64 (((t0.getD t5.toNat .x).cells.getD 7 .x).toI)), (.i .i64 (((t0.getD t5.toNat .x).cells.getD 8 .x).toI)), (.i .i64 (((t0.getD t5.toNat .x).cells.getD 9 .x).toI))]), (.i .i64 t1)] []) fun a1 =>
 cond (decide (a1.toI < (0 : Int)))
 (some (.i .i64 (-1 : Int)))
 (f31_l1 t0 a1.toI (IntKind.i64.wrap (t5 + (1 : Int))))
 else none
 else none)
 (some (.i .i64 t1)) := (Lp_eq ..).trans (by kernel_rfl)
/-! 9: loop.example/g00905/laws.szVersion -/
theorem f9_eq (x0_0 : Int) (x0_1 : Int) (x0_2 : Int) (x0_3 : List AV) (x1 : Int) : den E 9 [(.agg [(.i .i64 x0_0), (.i .i64 x0_1), (.i .i64 x0_2), (.imm 10 x0_3)]), (.i .i64 x1)] [] =
 bSh (.i .i64) (den E 31 [(.imm 10 x0_3), (.i .i64 x1)] []) fun a1 =>
 cond (decide (a1.toI < (0 : Int)))
 (some (.i .i64 (-1 : Int)))
 (some (.i .i64 a1.toI)) := (den_eq ..).trans (by kernel_rfl)
/-! 70: loop.example/g00905/laws.toGeometry -/
theorem f70_eq (x0_0 : Int) (x0_1 : Int) (x0_2 : Int) : den E 70 [(.agg [(.i .i64 x0_0), (.i .i64 x0_1), (.i .i64 x0_2)])] [] =
 some (.agg [(.i .i64 x0_0), (.i .i64 x0_1), (.i .i64 x0_2)]) := (den_eq ..).trans (by kernel_rfl)
/-! 105: loop.example/g00905/laws.toStringS -/
noncomputable def f105_l1 (t0 : List AV) (t4 : Int) (r0 : List AV) (r1 : List AV) : Option AV := Lp E fi105 [true, true, false, true, false] (mkT 22 [(0, (.imm 1 t0)), (3, (.sl 1 [] none)), (4, (.i .i64 t4))]) [(.live true false false 9 r0), (.live true false false 9 r1)]
theorem f105_eq (x0 : List AV) : den E 105 [(.imm 1 x0)] [] =
 if 0 ≤ ((x0.length : Nat) : Int) ∧ ((x0.length : Nat) : Int) ≤ ((x0.length : Nat) : Int) ∧ ((x0.length : Nat) : Int) * ((16 : Nat) : Int) ≤ ((room : Nat) : Int) ∧ ((x0.length : Nat) : Int) ≤ 9223372036854775807 then
 f105_l1 x0 (0 : Int) [] (List.replicate ((x0.length : Nat) : Int).toNat (.s .empty))
 else none := (den_eq ..).trans (by kernel_rfl)
theorem f105_l1_eq (t0 : List AV) (t4 : Int) (r0 : List AV) (r1 : List AV) : f105_l1 t0 t4 r0 r1 =
 cond (decide (t4 < ((t0.length : Nat) : Int)))
 (if 0 ≤ t4 ∧ t4 < ((t0.length : Nat) : Int) then
 if okCells false (t0.getD t4.toNat .x) 0 [.s] = true then
 if 0 ≤ t4 ∧ t4 < ((r1.length : Nat) : Int) then
 f105_l1 t0 (IntKind.i64.wrap (t4 + (1 : Int))) r0 (r1.set (0 + t4.toNat) ((r1.getD (0 + t4.toNat) .x).putCells 0 [(.s (((t0.getD t4.toNat .x).cells.getD 0 .x).toS))]))
 else none
 else none
 else none)
 (some (.imm 1 r1)) := (Lp_eq ..).trans (by kernel_rfl)
/-! 103: loop.example/g00905/laws.toBlock -/
theorem f103_eq (x0_0 : Int) (x0_1 : Int) (x0_2 : Bool) (x0_3 : List AV) : den E 103 [(.agg [(.i .i64 x0_0), (.i .i64 x0_1), (.b x0_2), (.imm 1 x0_3)])] [] =
 bSh (.sl 9 1) (den E 105 [(.imm 1 x0_3)] []) fun a1 =>
 some (.agg [(.i .i64 x0_0), (.i .i64 x0_1), (.b x0_2), (.imm 1 a1.toL)]) := (den_eq ..).trans (by kernel_rfl)
/-! 71: loop.example/g00905/laws.toBlockS -/
noncomputable def f71_l1 (t0 : List AV) (t4 : Int) (r0 : List AV) (r1 : List AV) : Option AV := Lp E fi71 [true, true, false, true, false] (mkT 23 [(0, (.imm 4 t0)), (3, (.sl 1 [] none)), (4, (.i .i64 t4))]) [(.live true false false 138 r0), (.live true false false 138 r1)]
theorem f71_eq (x0 : List AV) : den E 71 [(.imm 4 x0)] [] =
 if 0 ≤ ((x0.length : Nat) : Int) ∧ ((x0.length : Nat) : Int) ≤ ((x0.length : Nat) : Int) ∧ ((x0.length : Nat) : Int) * ((48 : Nat) : Int) ≤ ((room : Nat) : Int) ∧ ((x0.length : Nat) : Int) ≤ 9223372036854775807 then
 f71_l1 x0 (0 : Int) [] (List.replicate ((x0.length : Nat) : Int).toNat (.agg [(.i .i64 (0 : Int)), (.i .i64 (0 : Int)), (.b false), (.imm 1 [])]))
 else none := (den_eq ..).trans (by kernel_rfl)
theorem f71_l1_eq (t0 : List AV) (t4 : Int) (r0 : List AV) (r1 : List AV) : f71_l1 t0 t4 r0 r1 =
 cond (decide (t4 < ((t0.length : Nat) : Int)))
 (if 0 ≤ t4 ∧ t4 < ((t0.length : Nat) : Int) then
 if okCells false (t0.getD t4.toNat .x) 0 [(.i .i64), (.i .i64), .b, (.sl 9 1)] = true then
 bSh (.agg [(.i .i64), (.i .i64), .b, (.sl 9 1)]) (den E 103 [(.agg [(.i .i64 (((t0.getD t4.toNat .x).cells.getD 0 .x).toI)), (.i .i64 (((t0.getD t4.toNat .x).cells.getD 1 .x).toI)), (.b (((t0.getD t4.toNat .x).cells.getD 2 .x).toB)), (.imm 1 (((t0.getD t4.toNat .x).cells.getD 3 .x).toL))])] []) fun a1 =>
 if 0 ≤ t4 ∧ t4 < ((r1.length : Nat) : Int) then
 f71_l1 t0 (IntKind.i64.wrap (t4 + (1 : Int))) r0 (r1.set (0 + t4.toNat) ((r1.getD (0 + t4.toNat) .x).putCells 0 [(.i .i64 ((a1.nth 0).toI)), (.i .i64 ((a1.nth 1).toI)), (.b ((a1.nth 2).toB)), (.imm 1 ((a1.nth 3).toL))]))
 else none
 else none
 else none)
 (some (.imm 4 r1)) := (Lp_eq ..).trans (by kernel_rfl)
/-! 36: loop.example/g00905/laws.toFlash -/
theorem f36_eq (x0_0 : Int) (x0_1 : Int) (x0_2 : Int) (x0_3 : List AV) (x0_4 : Int) (x0_5 : Int) (x0_6 : Bool) (x0_7 : Int) : den E 36 [(.agg [(.i .i64 x0_0), (.i .i64 x0_1), (.i .i64 x0_2), (.imm 4 x0_3), (.i .i64 x0_4), (.i .i64 x0_5), (.b x0_6), (.i .i64 x0_7)])] [] =
 bSh (.agg [(.i .i64), (.i .i64), (.i .i64)]) (den E 70 [(.agg [(.i .i64 x0_0), (.i .i64 x0_1), (.i .i64 x0_2)])] []) fun a1 =>
 bSh (.sl 138 4) (den E 71 [(.imm 4 x0_3)] []) fun a2 =>
 some (.agg [(.i .i64 ((a1.nth 0).toI)), (.i .i64 ((a1.nth 1).toI)), (.i .i64 ((a1.nth 2).toI)), (.imm 4 a2.toL), (.i .i64 x0_4), (.i .i64 x0_5), (.b x0_6), (.i .i64 x0_7)]) := (den_eq ..).trans (by kernel_rfl)
/-! 104: loop.example/g00905/laws.toInt64S -/
noncomputable def f104_l1 (t0 : List AV) (t4 : Int) (r0 : List AV) (r1 : List AV) : Option AV := Lp E fi104 [true, true, false, true, false] (mkT 22 [(0, (.imm 1 t0)), (3, (.sl 1 [] none)), (4, (.i .i64 t4))]) [(.live true false false 2 r0), (.live true false false 2 r1)]
theorem f104_eq (x0 : List AV) : den E 104 [(.imm 1 x0)] [] =
 if 0 ≤ ((x0.length : Nat) : Int) ∧ ((x0.length : Nat) : Int) ≤ ((x0.length : Nat) : Int) ∧ ((x0.length : Nat) : Int) * ((8 : Nat) : Int) ≤ ((room : Nat) : Int) ∧ ((x0.length : Nat) : Int) ≤ 9223372036854775807 then
 f104_l1 x0 (0 : Int) [] (List.replicate ((x0.length : Nat) : Int).toNat (.i .i64 (0 : Int)))
 else none := (den_eq ..).trans (by kernel_rfl)
theorem f104_l1_eq (t0 : List AV) (t4 : Int) (r0 : List AV) (r1 : List AV) : f104_l1 t0 t4 r0 r1 =
 cond (decide (t4 < ((t0.length : Nat) : Int)))
 (if 0 ≤ t4 ∧ t4 < ((t0.length : Nat) : Int) then
 if okCells false (t0.getD t4.toNat .x) 0 [(.i .i64)] = true then
 if 0 ≤ t4 ∧ t4 < ((r1.length : Nat) : Int) then
 f104_l1 t0 (IntKind.i64.wrap (t4 + (1 : Int))) r0 (r1.set (0 + t4.toNat) ((r1.getD (0 + t4.toNat) .x).putCells 0 [(.i .i64 (((t0.getD t4.toNat .x).cells.getD 0 .x).toI))]))
 else none
 else none
 else none)
 (some (.imm 1 r1)) := (Lp_eq ..).trans (by kernel_rfl)
/-! 72: loop.example/g00905/laws.toZone -/
theorem f72_eq (x0_0 : Int) (x0_1 : List AV) (x0_2 : Int) (x0_3 : Int) (x0_4 : List AV) (x0_5 : List AV) : den E 72 [(.agg [(.i .i64 x0_0), (.imm 1 x0_1), (.i .i64 x0_2), (.i .i64 x0_3), (.imm 1 x0_4), (.imm 1 x0_5)])] [] =
 bSh (.sl 2 1) (den E 104 [(.imm 1 x0_1)] []) fun a1 =>
 bSh (.sl 2 1) (den E 104 [(.imm 1 x0_4)] []) fun a2 =>
 bSh (.sl 9 1) (den E 105 [(.imm 1 x0_5)] []) fun a3 =>
 some (.agg [(.i .i64 x0_0), (.imm 1 a1.toL), (.i .i64 x0_2), (.i .i64 x0_3), (.imm 1 a2.toL), (.imm 1 a3.toL)]) := (den_eq ..).trans (by kernel_rfl)
/-! 37: loop.example/g00905/laws.toZoneS -/
noncomputable def f37_l1 (t0 : List AV) (t4 : Int) (r0 : List AV) (r1 : List AV) : Option AV := Lp E fi37 [true, true, false, true, false] (mkT 23 [(0, (.imm 6 t0)), (3, (.sl 1 [] none)), (4, (.i .i64 t4))]) [(.live true false false 101 r0), (.live true false false 101 r1)]
theorem f37_eq (x0 : List AV) : den E 37 [(.imm 6 x0)] [] =
 if 0 ≤ ((x0.length : Nat) : Int) ∧ ((x0.length : Nat) : Int) ≤ ((x0.length : Nat) : Int) ∧ ((x0.length : Nat) : Int) * ((96 : Nat) : Int) ≤ ((room : Nat) : Int) ∧ ((x0.length : Nat) : Int) ≤ 9223372036854775807 then
 f37_l1 x0 (0 : Int) [] (List.replicate ((x0.length : Nat) : Int).toNat (.agg [(.i .i64 (0 : Int)), (.imm 1 []), (.i .i64 (0 : Int)), (.i .i64 (0 : Int)), (.imm 1 []), (.imm 1 [])]))
 else none := (den_eq ..).trans (by kernel_rfl)
theorem f37_l1_eq (t0 : List AV) (t4 : Int) (r0 : List AV) (r1 : List AV) : f37_l1 t0 t4 r0 r1 =
 cond (decide (t4 < ((t0.length : Nat) : Int)))
 (if 0 ≤ t4 ∧ t4 < ((t0.length : Nat) : Int) then
 if okCells false (t0.getD t4.toNat .x) 0 [(.i .i64), (.sl 2 1), (.i .i64), (.i .i64), (.sl 2 1), (.sl 9 1)] = true then
 bSh (.agg [(.i .i64), (.sl 2 1), (.i .i64), (.i .i64), (.sl 2 1), (.sl 9 1)]) (den E 72 [(.agg [(.i .i64 (((t0.getD t4.toNat .x).cells.getD 0 .x).toI)), (.imm 1 (((t0.getD t4.toNat .x).cells.getD 1 .x).toL)), (.i .i64 (((t0.getD t4.toNat .x).cells.getD 2 .x).toI)), (.i .i64 (((t0.getD t4.toNat .x).cells.getD 3 .x).toI)), (.imm 1 (((t0.getD t4.toNat .x).cells.getD 4 .x).toL)), (.imm 1 (((t0.getD t4.toNat .x).cells.getD 5 .x).toL))])] []) fun a1 =>
 if 0 ≤ t4 ∧ t4 < ((r1.length : Nat) : Int) then
 f37_l1 t0 (IntKind.i64.wrap (t4 + (1 : Int))) r0 (r1.set (0 + t4.toNat) ((r1.getD (0 + t4.toNat) .x).putCells 0 [(.i .i64 ((a1.nth 0).toI)), (.imm 1 ((a1.nth 1).toL)), (.i .i64 ((a1.nth 2).toI)), (.i .i64 ((a1.nth 3).toI)), (.imm 1 ((a1.nth 4).toL)), (.imm 1 ((a1.nth 5).toL))]))
 else none
 else none
 else none)
 (some (.imm 6 r1)) := (Lp_eq ..).trans (by kernel_rfl)
/-! 11: loop.example/g00905/laws.toDevice -/
theorem f11_eq (x0_0 : Int) (x0_1 : Int) (x0_2 : Int) (x0_3 : List AV) (x0_4 : Int) (x0_5 : Int) (x0_6 : Bool) (x0_7 : Int) (x0_8 : List AV) : den E 11 [(.agg [(.i .i64 x0_0), (.i .i64 x0_1), (.i .i64 x0_2), (.imm 4 x0_3), (.i .i64 x0_4), (.i .i64 x0_5), (.b x0_6), (.i .i64 x0_7), (.imm 6 x0_8)])] [] =
 bSh (.agg [(.i .i64), (.i .i64), (.i .i64), (.sl 138 4), (.i .i64), (.i .i64), .b, (.i .i64)]) (den E 36 [(.agg [(.i .i64 x0_0), (.i .i64 x0_1), (.i .i64 x0_2), (.imm 4 x0_3), (.i .i64 x0_4), (.i .i64 x0_5), (.b x0_6), (.i .i64 x0_7)])] []) fun a1 =>
 bSh (.sl 101 6) (den E 37 [(.imm 6 x0_8)] []) fun a2 =>
 some (.agg [(.i .i64 ((a1.nth 0).toI)), (.i .i64 ((a1.nth 1).toI)), (.i .i64 ((a1.nth 2).toI)), (.imm 4 ((a1.nth 3).toL)), (.i .i64 ((a1.nth 4).toI)), (.i .i64 ((a1.nth 5).toI)), (.b ((a1.nth 6).toB)), (.i .i64 ((a1.nth 7).toI)), (.imm 6 a2.toL)]) := (den_eq ..).trans (by kernel_rfl)
/-! 73: loop.example/g00905/laws.toTableRef -/
theorem f73_eq (x0_0 : Int) (x0_1 : Int) (x0_2 : Int) (x0_3 : Int) (x0_4 : Int) (x0_5 : ByteArray) (x0_6 : ByteArray) (x0_7 : Int) (x0_8 : Int) (x0_9 : Int) : den E 73 [(.agg [(.i .i64 x0_0), (.i .i64 x0_1), (.i .i64 x0_2), (.i .i64 x0_3), (.i .i64 x0_4), (.s x0_5), (.s x0_6), (.i .i64 x0_7), (.i .i64 x0_8), (.i .i64 x0_9)])] [] =
 some (.agg [(.i .i64 x0_0), (.i .i64 x0_1), (.i .i64 x0_2), (.i .i64 x0_3), (.i .i64 x0_4), (.s x0_5), (.s x0_6), (.i .i64 x0_7), (.i .i64 x0_8), (.i .i64 x0_9)]) := (den_eq ..).trans (by kernel_rfl)
/-! 38: loop.example/g00905/laws.toTableRefS -/
noncomputable def f38_l1 (t0 : List AV) (t4 : Int) (r0 : List AV) (r1 : List AV) : Option AV := Lp E fi38 [true, true, false, true, false] (mkT 23 [(0, (.imm 10 t0)), (3, (.sl 1 [] none)), (4, (.i .i64 t4))]) [(.live true false false 106 r0), (.live true false false 106 r1)]
theorem f38_eq (x0 : List AV) : den E 38 [(.imm 10 x0)] [] =
 if 0 ≤ ((x0.length : Nat) : Int) ∧ ((x0.length : Nat) : Int) ≤ ((x0.length : Nat) : Int) ∧ ((x0.length : Nat) : Int) * ((96 : Nat) : Int) ≤ ((room : Nat) : Int) ∧ ((x0.length : Nat) : Int) ≤ 9223372036854775807 then
 f38_l1 x0 (0 : Int) [] (List.replicate ((x0.length : Nat) : Int).toNat (.agg [(.i .i64 (0 : Int)), (.i .i64 (0 : Int)), (.i .i64 (0 : Int)), (.i .i64 (0 : Int)), (.i .i64 (0 : Int)), (.s .empty), (.s .empty), (.i .i64 (0 : Int)), (.i .i64 (0 : Int)), (.i .i64 (0 : Int))]))
 else none := (den_eq ..).trans (by kernel_rfl)
theorem f38_l1_eq (t0 : List AV) (t4 : Int) (r0 : List AV) (r1 : List AV) : f38_l1 t0 t4 r0 r1 =
 cond (decide (t4 < ((t0.length : Nat) : Int)))
 (if 0 ≤ t4 ∧ t4 < ((t0.length : Nat) : Int) then
 if okCells false (t0.getD t4.toNat .x) 0 [(.i .i64), (.i .i64), (.i .i64), (.i .i64), (.i .i64), .s, .s, (.i .i64), (.i .i64), (.i .i64)] = true then
 bSh (.agg [(.i .i64), (.i .i64), (.i .i64), (.i .i64), (.i .i64), .s, .s, (.i .i64), (.i .i64), (.i .i64)]) (den E 73 [(.agg [(.i .i64 (((t0.getD t4.toNat .x).cells.getD 0 .x).toI)), (.i .i64 (((t0.getD t4.toNat .x).cells.getD 1 .x).toI)), (.i .i64 (((t0.getD t4.toNat .x).cells.getD 2 .x).toI)), (.i .i64 (((t0.getD t4.toNat .x).cells.getD 3 .x).toI)), (.i .i64 (((t0.getD t4.toNat .x).cells.getD 4 .x).toI)), (.s (((t0.getD t4.toNat .x).cells.getD 5 .x).toS)), (.s (((t0.getD t4.toNat .x).cells.getD 6 .x).toS)), (.i .i64 (((t0.getD t4.toNat .x).cells.getD 7 .x).toI)), (.i .i64 (((t0.getD t4.toNat .x).cells.getD 8 .x).toI)), (.i .i64 (((t0.getD t4.toNat .x).cells.getD 9 .x).toI))])] []) fun a1 =>
 if 0 ≤ t4 ∧ t4 < ((r1.length : Nat) : Int) then
 f38_l1 t0 (IntKind.i64.wrap (t4 + (1 : Int))) r0 (r1.set (0 + t4.toNat) ((r1.getD (0 + t4.toNat) .x).putCells 0 [(.i .i64 ((a1.nth 0).toI)), (.i .i64 ((a1.nth 1).toI)), (.i .i64 ((a1.nth 2).toI)), (.i .i64 ((a1.nth 3).toI)), (.i .i64 ((a1.nth 4).toI)), (.s ((a1.nth 5).toS)), (.s ((a1.nth 6).toS)), (.i .i64 ((a1.nth 7).toI)), (.i .i64 ((a1.nth 8).toI)), (.i .i64 ((a1.nth 9).toI))]))
 else none
 else none
 else none)
 (some (.imm 10 r1)) := (Lp_eq ..).trans (by kernel_rfl)
/-! 12: loop.example/g00905/laws.toVersion -/
theorem f12_eq (x0_0 : Int) (x0_1 : Int) (x0_2 : Int) (x0_3 : List AV) : den E 12 [(.agg [(.i .i64 x0_0), (.i .i64 x0_1), (.i .i64 x0_2), (.imm 10 x0_3)])] [] =
 bSh (.sl 106 10) (den E 38 [(.imm 10 x0_3)] []) fun a1 =>
 some (.agg [(.i .i64 x0_0), (.i .i64 x0_1), (.i .i64 x0_2), (.imm 10 a1.toL)]) := (den_eq ..).trans (by kernel_rfl)
/-! 54: loop.example/g00905/spec.l00In -/
theorem f54_eq (x0 : Int) (x1 : Int) (x2 : Int) : den E 54 [(.i .i64 x0), (.i .i64 x1), (.i .i64 x2)] [] =
 cond ((decide (x1 ≤ x0)) == true)
 (some (.b (decide (x0 ≤ x2))))
 (some (.b false)) := (den_eq ..).trans (by kernel_rfl)
/-! 100: loop.example/g00905/spec.ValidGeometry -/
theorem f100_eq (x0_0 : Int) (x0_1 : Int) (x0_2 : Int) : den E 100 [(.agg [(.i .i64 x0_0), (.i .i64 x0_1), (.i .i64 x0_2)])] [] =
 bSh .b (den E 54 [(.i .i64 x0_0), (.i .i64 (2 : Int)), (.i .i64 (3 : Int))] []) fun a1 =>
 cond (a1.toB == true)
 (bSh .b (den E 54 [(.i .i64 x0_1), (.i .i64 (4 : Int)), (.i .i64 (12 : Int))] []) fun a2 =>
 cond (a2.toB == true)
 (cond ((decide (x0_2 = (8 : Int))) == false)
 (some (.b (decide (x0_2 = (16 : Int)))))
 (some (.b true)))
 (some (.b false)))
 (some (.b false)) := (den_eq ..).trans (by kernel_rfl)
/-! 101: loop.example/g00905/spec.l06Block -/
noncomputable def f101_l1 (t1 : Int) (t5 : Int) (r0_0 : Int) (r0_1 : Int) (r0_2 : Bool) (r0_3 : List AV) : Option AV := Lp E fi101 [true, true, false, true, false] (mkT 48 [(1, (.i .i64 t1)), (2, (.pt 0 [] 0 0)), (5, (.i .i64 t5))]) [(.live false true false 138 [(.agg [(.i .i64 r0_0), (.i .i64 r0_1), (.b r0_2), (.imm 1 r0_3)])])]
noncomputable def f101_j2 (t1 : Int) (t5 : Int) (r0_0 : Int) (r0_1 : Int) (r0_2 : Bool) (r0_3 : List AV) : Option AV := Jn E fi101 [true, true, false, true, false, false, true, true] (mkT 48 [(1, (.i .i64 t1)), (2, (.pt 0 [] 0 0)), (5, (.i .i64 t5))]) [(.live false true false 138 [(.agg [(.i .i64 r0_0), (.i .i64 r0_1), (.b r0_2), (.imm 1 r0_3)])])]
theorem f101_eq (x0_0 : Int) (x0_1 : Int) (x0_2 : Bool) (x0_3 : List AV) (x1 : Int) : den E 101 [(.agg [(.i .i64 x0_0), (.i .i64 x0_1), (.b x0_2), (.imm 1 x0_3)]), (.i .i64 x1)] [] =
 bSh .b (den E 54 [(.i .i64 x0_0), (.i .i64 (0 : Int)), (.i .i64 (1000 : Int))] []) fun a1 =>
 cond ((!a1.toB) == false)
 (bSh .b (den E 54 [(.i .i64 x0_1), (.i .i64 (0 : Int)), (.i .i64 x1)] []) fun a2 =>
 cond ((!a2.toB) == false)
 (cond (!decide (((x0_3.length : Nat) : Int) = x1))
 (some (.b false))
 (f101_l1 x1 (0 : Int) x0_0 x0_1 x0_2 x0_3))
 (some (.b false)))
 (some (.b false)) := (den_eq ..).trans (by kernel_rfl)
theorem f101_l1_eq (t1 : Int) (t5 : Int) (r0_0 : Int) (r0_1 : Int) (r0_2 : Bool) (r0_3 : List AV) : f101_l1 t1 t5 r0_0 r0_1 r0_2 r0_3 =
 cond (decide (t5 < t1))
 (if 0 ≤ t5 ∧ t5 < ((r0_3.length : Nat) : Int) then
 if okCells false (r0_3.getD t5.toNat .x) 0 [.s] = true then
 cond ((!decide ((((((r0_3.getD t5.toNat .x).cells.getD 0 .x).toS).size : Nat) : Int) = (0 : Int))) == true)
 (cond ((!decide ((((((r0_3.getD t5.toNat .x).cells.getD 0 .x).toS).size : Nat) : Int) = (91 : Int))) == false)
 (cond (decide (r0_1 ≤ t5))
 (some (.b false))
 (f101_j2 t1 t5 r0_0 r0_1 r0_2 r0_3))
 (some (.b false)))
 (f101_j2 t1 t5 r0_0 r0_1 r0_2 r0_3)
 else none
 else none)
 (some (.b true)) := (Lp_eq ..).trans (by kernel_rfl)
theorem f101_j2_eq (t1 : Int) (t5 : Int) (r0_0 : Int) (r0_1 : Int) (r0_2 : Bool) (r0_3 : List AV) : f101_j2 t1 t5 r0_0 r0_1 r0_2 r0_3 =
 f101_l1 t1 (IntKind.i64.wrap (t5 + (1 : Int))) r0_0 r0_1 r0_2 r0_3 := by kernel_rfl
/-! 61: loop.example/g00905/spec.ValidFlash -/
noncomputable def f61_l1 (t3 : Int) (r0_0 : Int) (r0_1 : Int) (r0_2 : Int) (r0_3 : List AV) (r0_4 : Int) (r0_5 : Int) (r0_6 : Bool) (r0_7 : Int) : Option AV := Lp E fi61 [true, true, false, true, false] (mkT 55 [(1, (.pt 0 [] 0 0)), (3, (.i .i64 t3))]) [(.live false true false 39 [(.agg [(.i .i64 r0_0), (.i .i64 r0_1), (.i .i64 r0_2), (.imm 4 r0_3), (.i .i64 r0_4), (.i .i64 r0_5), (.b r0_6), (.i .i64 r0_7)])])]
theorem f61_eq (x0_0 : Int) (x0_1 : Int) (x0_2 : Int) (x0_3 : List AV) (x0_4 : Int) (x0_5 : Int) (x0_6 : Bool) (x0_7 : Int) : den E 61 [(.agg [(.i .i64 x0_0), (.i .i64 x0_1), (.i .i64 x0_2), (.imm 4 x0_3), (.i .i64 x0_4), (.i .i64 x0_5), (.b x0_6), (.i .i64 x0_7)])] [] =
 bSh .b (den E 100 [(.agg [(.i .i64 x0_0), (.i .i64 x0_1), (.i .i64 x0_2)])] []) fun a1 =>
 cond ((!a1.toB) == false)
 (cond ((!decide (((x0_3.length : Nat) : Int) = (IntKind.i64.wrap (x0_0 * x0_1)))) == false)
 (bSh .b (den E 54 [(.i .i64 x0_4), (.i .i64 (-1 : Int)), (.i .i64 (1000000 : Int))] []) fun a2 =>
 cond ((!a2.toB) == false)
 (bSh .b (den E 54 [(.i .i64 x0_5), (.i .i64 (0 : Int)), (.i .i64 (91 : Int))] []) fun a3 =>
 cond ((!a3.toB) == false)
 (cond (decide (x0_7 < (0 : Int)))
 (some (.b false))
 (f61_l1 (0 : Int) x0_0 x0_1 x0_2 x0_3 x0_4 x0_5 x0_6 x0_7))
 (some (.b false)))
 (some (.b false)))
 (some (.b false)))
 (some (.b false)) := (den_eq ..).trans (by kernel_rfl)
theorem f61_l1_eq (t3 : Int) (r0_0 : Int) (r0_1 : Int) (r0_2 : Int) (r0_3 : List AV) (r0_4 : Int) (r0_5 : Int) (r0_6 : Bool) (r0_7 : Int) : f61_l1 t3 r0_0 r0_1 r0_2 r0_3 r0_4 r0_5 r0_6 r0_7 =
 cond (decide (t3 < ((r0_3.length : Nat) : Int)))
 (if 0 ≤ t3 ∧ t3 < ((r0_3.length : Nat) : Int) then
 if okCells false (r0_3.getD t3.toNat .x) 0 [(.i .i64), (.i .i64), .b, (.sl 9 1)] = true then
 bSh .b (den E 101 [(.agg [(.i .i64 (((r0_3.getD t3.toNat .x).cells.getD 0 .x).toI)), (.i .i64 (((r0_3.getD t3.toNat .x).cells.getD 1 .x).toI)), (.b (((r0_3.getD t3.toNat .x).cells.getD 2 .x).toB)), (.imm 1 (((r0_3.getD t3.toNat .x).cells.getD 3 .x).toL))]), (.i .i64 r0_2)] []) fun a1 =>
 cond (!a1.toB)
 (some (.b false))
 (f61_l1 (IntKind.i64.wrap (t3 + (1 : Int))) r0_0 r0_1 r0_2 r0_3 r0_4 r0_5 r0_6 r0_7)
 else none
 else none)
 (some (.b true)) := (Lp_eq ..).trans (by kernel_rfl)
/-! 62: loop.example/g00905/spec.l00Min -/
theorem f62_eq (x0 : Int) (x1 : Int) : den E 62 [(.i .i64 x0), (.i .i64 x1)] [] =
 cond (decide (x0 < x1))
 (some (.i .i64 x0))
 (some (.i .i64 x1)) := (den_eq ..).trans (by kernel_rfl)
/-! 63: loop.example/g00905/spec.l16Blocks -/
noncomputable def f63_l1 (t5 : Int) (r0_0 : Int) (r0_1 : Int) (r0_2 : Int) (r1_0 : Int) (r1_1 : List AV) (r1_2 : Int) (r1_3 : Int) (r1_4 : List AV) (r1_5 : List AV) : Option AV := Lp E fi63 [true, true, false, true, false] (mkT 35 [(2, (.pt 0 [] 0 0)), (3, (.pt 1 [] 0 0)), (5, (.i .i64 t5))]) [(.live false true false 36 [(.agg [(.i .i64 r0_0), (.i .i64 r0_1), (.i .i64 r0_2)])]), (.live false true false 101 [(.agg [(.i .i64 r1_0), (.imm 1 r1_1), (.i .i64 r1_2), (.i .i64 r1_3), (.imm 1 r1_4), (.imm 1 r1_5)])])]
theorem f63_eq (x0_0 : Int) (x0_1 : Int) (x0_2 : Int) (x1_0 : Int) (x1_1 : List AV) (x1_2 : Int) (x1_3 : Int) (x1_4 : List AV) (x1_5 : List AV) : den E 63 [(.agg [(.i .i64 x0_0), (.i .i64 x0_1), (.i .i64 x0_2)]), (.agg [(.i .i64 x1_0), (.imm 1 x1_1), (.i .i64 x1_2), (.i .i64 x1_3), (.imm 1 x1_4), (.imm 1 x1_5)])] [] =
 cond (!decide (((x1_1.length : Nat) : Int) = x0_0))
 (some (.b false))
 (f63_l1 (0 : Int) x0_0 x0_1 x0_2 x1_0 x1_1 x1_2 x1_3 x1_4 x1_5) := (den_eq ..).trans (by kernel_rfl)
theorem f63_l1_eq (t5 : Int) (r0_0 : Int) (r0_1 : Int) (r0_2 : Int) (r1_0 : Int) (r1_1 : List AV) (r1_2 : Int) (r1_3 : Int) (r1_4 : List AV) (r1_5 : List AV) : f63_l1 t5 r0_0 r0_1 r0_2 r1_0 r1_1 r1_2 r1_3 r1_4 r1_5 =
 cond (decide (t5 < r0_0))
 (if 0 ≤ t5 ∧ t5 < ((r1_1.length : Nat) : Int) then
 if okCells false (r1_1.getD t5.toNat .x) 0 [(.i .i64)] = true then
 bSh .b (den E 54 [(.i .i64 (((r1_1.getD t5.toNat .x).cells.getD 0 .x).toI)), (.i .i64 (IntKind.i64.wrap (t5 * r0_1))), (.i .i64 (IntKind.i64.wrap ((IntKind.i64.wrap ((IntKind.i64.wrap (t5 + (1 : Int))) * r0_1)) - (1 : Int))))] []) fun a1 =>
 cond (!a1.toB)
 (some (.b false))
 (f63_l1 (IntKind.i64.wrap (t5 + (1 : Int))) r0_0 r0_1 r0_2 r1_0 r1_1 r1_2 r1_3 r1_4 r1_5)
 else none
 else none)
 (some (.b true)) := (Lp_eq ..).trans (by kernel_rfl)
/-! 102: loop.example/g00905/spec.l16Sum -/
noncomputable def f102_l1 (t0 : List AV) (t3 : Int) (t4 : Int) : Option AV := Lp E fi102 [true, true, false, true, false] (mkT 18 [(0, (.imm 1 t0)), (3, (.i .i64 t3)), (4, (.i .i64 t4))]) []
theorem f102_eq (x0 : List AV) : den E 102 [(.imm 1 x0)] [] =
 f102_l1 x0 (0 : Int) (0 : Int) := (den_eq ..).trans (by kernel_rfl)
theorem f102_l1_eq (t0 : List AV) (t3 : Int) (t4 : Int) : f102_l1 t0 t3 t4 =
 cond (decide (t4 < ((t0.length : Nat) : Int)))
 (if 0 ≤ t4 ∧ t4 < ((t0.length : Nat) : Int) then
 if okCells false (t0.getD t4.toNat .x) 0 [(.i .i64)] = true then
 f102_l1 t0 (IntKind.i64.wrap (t3 + (((t0.getD t4.toNat .x).cells.getD 0 .x).toI))) (IntKind.i64.wrap (t4 + (1 : Int)))
 else none
 else none)
 (some (.i .i64 t3)) := (Lp_eq ..).trans (by kernel_rfl)
/-! 64: loop.example/g00905/spec.l16Counts -/
noncomputable def f64_l1 (t5 : Int) (r0_0 : Int) (r0_1 : Int) (r0_2 : Int) (r1_0 : Int) (r1_1 : List AV) (r1_2 : Int) (r1_3 : Int) (r1_4 : List AV) (r1_5 : List AV) : Option AV := Lp E fi64 [true, true, false, true, false] (mkT 70 [(2, (.pt 0 [] 0 0)), (3, (.pt 1 [] 0 0)), (5, (.i .i64 t5))]) [(.live false true false 36 [(.agg [(.i .i64 r0_0), (.i .i64 r0_1), (.i .i64 r0_2)])]), (.live false true false 101 [(.agg [(.i .i64 r1_0), (.imm 1 r1_1), (.i .i64 r1_2), (.i .i64 r1_3), (.imm 1 r1_4), (.imm 1 r1_5)])])]
noncomputable def f64_l2 (t6 : Int) (r0_0 : Int) (r0_1 : Int) (r0_2 : Int) (r1_0 : Int) (r1_1 : List AV) (r1_2 : Int) (r1_3 : Int) (r1_4 : List AV) (r1_5 : List AV) : Option AV := Lp E fi64 [true, true, true, false, true, false] (mkT 70 [(3, (.pt 1 [] 0 0)), (6, (.i .i64 t6))]) [(.live false true false 36 [(.agg [(.i .i64 r0_0), (.i .i64 r0_1), (.i .i64 r0_2)])]), (.live false true false 101 [(.agg [(.i .i64 r1_0), (.imm 1 r1_1), (.i .i64 r1_2), (.i .i64 r1_3), (.imm 1 r1_4), (.imm 1 r1_5)])])]
theorem f64_eq (x0_0 : Int) (x0_1 : Int) (x0_2 : Int) (x1_0 : Int) (x1_1 : List AV) (x1_2 : Int) (x1_3 : Int) (x1_4 : List AV) (x1_5 : List AV) : den E 64 [(.agg [(.i .i64 x0_0), (.i .i64 x0_1), (.i .i64 x0_2)]), (.agg [(.i .i64 x1_0), (.imm 1 x1_1), (.i .i64 x1_2), (.i .i64 x1_3), (.imm 1 x1_4), (.imm 1 x1_5)])] [] =
 cond ((decide (x0_2 < ((x1_4.length : Nat) : Int))) == false)
 (cond (decide ((IntKind.i64.wrap (x0_0 - (1 : Int))) ≤ ((x1_5.length : Nat) : Int)))
 (some (.b false))
 (f64_l1 (0 : Int) x0_0 x0_1 x0_2 x1_0 x1_1 x1_2 x1_3 x1_4 x1_5))
 (some (.b false)) := (den_eq ..).trans (by kernel_rfl)
theorem f64_l1_eq (t5 : Int) (r0_0 : Int) (r0_1 : Int) (r0_2 : Int) (r1_0 : Int) (r1_1 : List AV) (r1_2 : Int) (r1_3 : Int) (r1_4 : List AV) (r1_5 : List AV) : f64_l1 t5 r0_0 r0_1 r0_2 r1_0 r1_1 r1_2 r1_3 r1_4 r1_5 =
 cond (decide (t5 < ((r1_4.length : Nat) : Int)))
 (if 0 ≤ t5 ∧ t5 < ((r1_4.length : Nat) : Int) then
 if okCells false (r1_4.getD t5.toNat .x) 0 [(.i .i64)] = true then
 bSh .b (den E 54 [(.i .i64 (((r1_4.getD t5.toNat .x).cells.getD 0 .x).toI)), (.i .i64 (1 : Int)), (.i .i64 (IntKind.i64.wrap (r0_0 - (1 : Int))))] []) fun a1 =>
 cond (!a1.toB)
 (some (.b false))
 (f64_l1 (IntKind.i64.wrap (t5 + (1 : Int))) r0_0 r0_1 r0_2 r1_0 r1_1 r1_2 r1_3 r1_4 r1_5)
 else none
 else none)
 (f64_l2 (0 : Int) r0_0 r0_1 r0_2 r1_0 r1_1 r1_2 r1_3 r1_4 r1_5) := (Lp_eq ..).trans (by kernel_rfl)
theorem f64_l2_eq (t6 : Int) (r0_0 : Int) (r0_1 : Int) (r0_2 : Int) (r1_0 : Int) (r1_1 : List AV) (r1_2 : Int) (r1_3 : Int) (r1_4 : List AV) (r1_5 : List AV) : f64_l2 t6 r0_0 r0_1 r0_2 r1_0 r1_1 r1_2 r1_3 r1_4 r1_5 =
 cond (decide (t6 < ((r1_5.length : Nat) : Int)))
 (if 0 ≤ t6 ∧ t6 < ((r1_5.length : Nat) : Int) then
 if okCells false (r1_5.getD t6.toNat .x) 0 [.s] = true then
 cond (decide ((64 : Int) < (((((r1_5.getD t6.toNat .x).cells.getD 0 .x).toS).size : Nat) : Int)))
 (some (.b false))
 (f64_l2 (IntKind.i64.wrap (t6 + (1 : Int))) r0_0 r0_1 r0_2 r1_0 r1_1 r1_2 r1_3 r1_4 r1_5)
 else none
 else none)
 (bSh (.i .i64) (den E 102 [(.imm 1 r1_4)] []) fun a1 =>
 cond ((decide (r1_3 = a1.toI)) == true)
 (some (.b (decide (r1_2 = (IntKind.i64.wrap (r1_3 + ((r1_5.length : Nat) : Int)))))))
 (some (.b false))) := (Lp_eq ..).trans (by kernel_rfl)
/-! 65: loop.example/g00905/spec.l16State -/
noncomputable def f65_j1 (t5 : Int) (r0_0 : Int) (r0_1 : Int) (r0_2 : Int) (r0_3 : List AV) (r0_4 : Int) (r0_5 : Int) (r0_6 : Bool) (r0_7 : Int) (r1_0 : Int) (r1_1 : List AV) (r1_2 : Int) (r1_3 : Int) (r1_4 : List AV) (r1_5 : List AV) : Option AV := Jn E fi65 [true, true, true] (mkT 74 [(2, (.pt 0 [] 0 0)), (3, (.pt 1 [] 0 0)), (5, (.i .i64 t5))]) [(.live false true false 39 [(.agg [(.i .i64 r0_0), (.i .i64 r0_1), (.i .i64 r0_2), (.imm 4 r0_3), (.i .i64 r0_4), (.i .i64 r0_5), (.b r0_6), (.i .i64 r0_7)])]), (.live false true false 101 [(.agg [(.i .i64 r1_0), (.imm 1 r1_1), (.i .i64 r1_2), (.i .i64 r1_3), (.imm 1 r1_4), (.imm 1 r1_5)])])]
noncomputable def f65_l2 (t5 : Int) (t6 : Int) (r0_0 : Int) (r0_1 : Int) (r0_2 : Int) (r0_3 : List AV) (r0_4 : Int) (r0_5 : Int) (r0_6 : Bool) (r0_7 : Int) (r1_0 : Int) (r1_1 : List AV) (r1_2 : Int) (r1_3 : Int) (r1_4 : List AV) (r1_5 : List AV) : Option AV := Lp E fi65 [true, true, true, false, true, false] (mkT 74 [(2, (.pt 0 [] 0 0)), (3, (.pt 1 [] 0 0)), (5, (.i .i64 t5)), (6, (.i .i64 t6))]) [(.live false true false 39 [(.agg [(.i .i64 r0_0), (.i .i64 r0_1), (.i .i64 r0_2), (.imm 4 r0_3), (.i .i64 r0_4), (.i .i64 r0_5), (.b r0_6), (.i .i64 r0_7)])]), (.live false true false 101 [(.agg [(.i .i64 r1_0), (.imm 1 r1_1), (.i .i64 r1_2), (.i .i64 r1_3), (.imm 1 r1_4), (.imm 1 r1_5)])])]
theorem f65_eq (x0_0 : Int) (x0_1 : Int) (x0_2 : Int) (x0_3 : List AV) (x0_4 : Int) (x0_5 : Int) (x0_6 : Bool) (x0_7 : Int) (x1_0 : Int) (x1_1 : List AV) (x1_2 : Int) (x1_3 : Int) (x1_4 : List AV) (x1_5 : List AV) : den E 65 [(.agg [(.i .i64 x0_0), (.i .i64 x0_1), (.i .i64 x0_2), (.imm 4 x0_3), (.i .i64 x0_4), (.i .i64 x0_5), (.b x0_6), (.i .i64 x0_7)]), (.agg [(.i .i64 x1_0), (.imm 1 x1_1), (.i .i64 x1_2), (.i .i64 x1_3), (.imm 1 x1_4), (.imm 1 x1_5)])] [] =
 cond (decide (x1_0 = (3 : Int)))
 (some (.b (decide (((x1_5.length : Nat) : Int) = (0 : Int)))))
 (cond (decide (x1_0 = (4 : Int)))
 (cond ((decide (((x1_4.length : Nat) : Int) = (0 : Int))) == true)
 (some (.b (decide (((x1_5.length : Nat) : Int) = (0 : Int)))))
 (some (.b false)))
 (cond (decide (x1_0 = (1 : Int)))
 (cond ((decide ((0 : Int) < ((x1_4.length : Nat) : Int))) == false)
 (cond (decide ((0 : Int) < ((x1_5.length : Nat) : Int)))
 (some (.b false))
 (f65_j1 ((x1_4.length : Nat) : Int) x0_0 x0_1 x0_2 x0_3 x0_4 x0_5 x0_6 x0_7 x1_0 x1_1 x1_2 x1_3 x1_4 x1_5))
 (some (.b false)))
 (cond (decide (x1_0 = (2 : Int)))
 (cond ((decide (((x1_4.length : Nat) : Int) = (0 : Int))) == true)
 (cond ((decide (((x1_5.length : Nat) : Int) = (0 : Int))) == false)
 (cond (decide (x0_2 ≤ ((x1_4.length : Nat) : Int)))
 (some (.b false))
 (f65_j1 ((x1_4.length : Nat) : Int) x0_0 x0_1 x0_2 x0_3 x0_4 x0_5 x0_6 x0_7 x1_0 x1_1 x1_2 x1_3 x1_4 x1_5))
 (some (.b false)))
 (cond (decide (x0_2 ≤ ((x1_4.length : Nat) : Int)))
 (some (.b false))
 (f65_j1 ((x1_4.length : Nat) : Int) x0_0 x0_1 x0_2 x0_3 x0_4 x0_5 x0_6 x0_7 x1_0 x1_1 x1_2 x1_3 x1_4 x1_5)))
 (some (.b false))))) := (den_eq ..).trans (by kernel_rfl)
theorem f65_j1_eq (t5 : Int) (r0_0 : Int) (r0_1 : Int) (r0_2 : Int) (r0_3 : List AV) (r0_4 : Int) (r0_5 : Int) (r0_6 : Bool) (r0_7 : Int) (r1_0 : Int) (r1_1 : List AV) (r1_2 : Int) (r1_3 : Int) (r1_4 : List AV) (r1_5 : List AV) : f65_j1 t5 r0_0 r0_1 r0_2 r0_3 r0_4 r0_5 r0_6 r0_7 r1_0 r1_1 r1_2 r1_3 r1_4 r1_5 =
 f65_l2 t5 (0 : Int) r0_0 r0_1 r0_2 r0_3 r0_4 r0_5 r0_6 r0_7 r1_0 r1_1 r1_2 r1_3 r1_4 r1_5 := by kernel_rfl
theorem f65_l2_eq (t5 : Int) (t6 : Int) (r0_0 : Int) (r0_1 : Int) (r0_2 : Int) (r0_3 : List AV) (r0_4 : Int) (r0_5 : Int) (r0_6 : Bool) (r0_7 : Int) (r1_0 : Int) (r1_1 : List AV) (r1_2 : Int) (r1_3 : Int) (r1_4 : List AV) (r1_5 : List AV) : f65_l2 t5 t6 r0_0 r0_1 r0_2 r0_3 r0_4 r0_5 r0_6 r0_7 r1_0 r1_1 r1_2 r1_3 r1_4 r1_5 =
 cond (decide (t6 < ((r1_1.length : Nat) : Int)))
 (if 0 ≤ t6 ∧ t6 < ((r1_1.length : Nat) : Int) then
 if okCells false (r1_1.getD t6.toNat .x) 0 [(.i .i64)] = true then
 if 0 ≤ (((r1_1.getD t6.toNat .x).cells.getD 0 .x).toI) ∧ (((r1_1.getD t6.toNat .x).cells.getD 0 .x).toI) < ((r0_3.length : Nat) : Int) then
 if okCells false (r0_3.getD (((r1_1.getD t6.toNat .x).cells.getD 0 .x).toI).toNat .x) 1 [(.i .i64)] = true then
 cond (!decide ((((r0_3.getD (((r1_1.getD t6.toNat .x).cells.getD 0 .x).toI).toNat .x).cells.getD 1 .x).toI) = t5))
 (some (.b false))
 (f65_l2 t5 (IntKind.i64.wrap (t6 + (1 : Int))) r0_0 r0_1 r0_2 r0_3 r0_4 r0_5 r0_6 r0_7 r1_0 r1_1 r1_2 r1_3 r1_4 r1_5)
 else none
 else none
 else none
 else none)
 (some (.b true)) := (Lp_eq ..).trans (by kernel_rfl)
/-! 66: loop.example/g00905/spec.l00Has -/
noncomputable def f66_l1 (t0 : List AV) (t1 : Int) (t5 : Int) : Option AV := Lp E fi66 [true, false, true, false] (mkT 18 [(0, (.imm 1 t0)), (1, (.i .i64 t1)), (5, (.i .i64 t5))]) []
theorem f66_eq (x0 : List AV) (x1 : Int) : den E 66 [(.imm 1 x0), (.i .i64 x1)] [] =
 f66_l1 x0 x1 (0 : Int) := (den_eq ..).trans (by kernel_rfl)
theorem f66_l1_eq (t0 : List AV) (t1 : Int) (t5 : Int) : f66_l1 t0 t1 t5 =
 cond (decide (t5 < ((t0.length : Nat) : Int)))
 (if 0 ≤ t5 ∧ t5 < ((t0.length : Nat) : Int) then
 if okCells false (t0.getD t5.toNat .x) 0 [(.i .i64)] = true then
 cond (decide ((((t0.getD t5.toNat .x).cells.getD 0 .x).toI) = t1))
 (some (.b true))
 (f66_l1 t0 t1 (IntKind.i64.wrap (t5 + (1 : Int))))
 else none
 else none)
 (some (.b false)) := (Lp_eq ..).trans (by kernel_rfl)
/-! 32: loop.example/g00905/spec.ValidDevice -/
noncomputable def f32_l1 (t4 : Int) (r0_0 : Int) (r0_1 : Int) (r0_2 : Int) (r0_3 : List AV) (r0_4 : Int) (r0_5 : Int) (r0_6 : Bool) (r0_7 : Int) (r0_8 : List AV) (r1 : List AV) : Option AV := Lp E fi32 [true, true, true, false, true, false] (mkT 84 [(1, (.pt 0 [] 0 0)), (3, (.sl 1 [] none)), (4, (.i .i64 t4))]) [(.live false true false 42 [(.agg [(.i .i64 r0_0), (.i .i64 r0_1), (.i .i64 r0_2), (.imm 4 r0_3), (.i .i64 r0_4), (.i .i64 r0_5), (.b r0_6), (.i .i64 r0_7), (.imm 6 r0_8)])]), (.live true false false 2 r1)]
noncomputable def f32_l2 (t4 : Int) (t6 : Int) (r0_0 : Int) (r0_1 : Int) (r0_2 : Int) (r0_3 : List AV) (r0_4 : Int) (r0_5 : Int) (r0_6 : Bool) (r0_7 : Int) (r0_8 : List AV) (r1 : List AV) (r2_0 : Int) (r2_1 : List AV) (r2_2 : Int) (r2_3 : Int) (r2_4 : List AV) (r2_5 : List AV) : Option AV := Lp E fi32 [true, true, true, false, true, false, false, true, false, false, true, true, true, false] (mkT 84 [(1, (.pt 0 [] 0 0)), (3, (.sl 1 [] none)), (4, (.i .i64 t4)), (5, (.pt 2 [] 0 0)), (6, (.i .i64 t6))]) [(.live false true false 42 [(.agg [(.i .i64 r0_0), (.i .i64 r0_1), (.i .i64 r0_2), (.imm 4 r0_3), (.i .i64 r0_4), (.i .i64 r0_5), (.b r0_6), (.i .i64 r0_7), (.imm 6 r0_8)])]), (.live true false false 2 r1), (.live false true false 101 [(.agg [(.i .i64 r2_0), (.imm 1 r2_1), (.i .i64 r2_2), (.i .i64 r2_3), (.imm 1 r2_4), (.imm 1 r2_5)])])]
theorem f32_eq (x0_0 : Int) (x0_1 : Int) (x0_2 : Int) (x0_3 : List AV) (x0_4 : Int) (x0_5 : Int) (x0_6 : Bool) (x0_7 : Int) (x0_8 : List AV) : den E 32 [(.agg [(.i .i64 x0_0), (.i .i64 x0_1), (.i .i64 x0_2), (.imm 4 x0_3), (.i .i64 x0_4), (.i .i64 x0_5), (.b x0_6), (.i .i64 x0_7), (.imm 6 x0_8)])] [] =
 bSh .b (den E 61 [(.agg [(.i .i64 x0_0), (.i .i64 x0_1), (.i .i64 x0_2), (.imm 4 x0_3), (.i .i64 x0_4), (.i .i64 x0_5), (.b x0_6), (.i .i64 x0_7)])] []) fun a1 =>
 cond ((!a1.toB) == false)
 (cond ((decide (((x0_8.length : Nat) : Int) < (1 : Int))) == false)
 (bSh (.i .i64) (den E 62 [(.i .i64 (12 : Int)), (.i .i64 x0_1)] []) fun a2 =>
 cond (decide (a2.toI < ((x0_8.length : Nat) : Int)))
 (some (.b false))
 (f32_l1 (0 : Int) x0_0 x0_1 x0_2 x0_3 x0_4 x0_5 x0_6 x0_7 x0_8 []))
 (some (.b false)))
 (some (.b false)) := (den_eq ..).trans (by kernel_rfl)
theorem f32_l1_eq (t4 : Int) (r0_0 : Int) (r0_1 : Int) (r0_2 : Int) (r0_3 : List AV) (r0_4 : Int) (r0_5 : Int) (r0_6 : Bool) (r0_7 : Int) (r0_8 : List AV) (r1 : List AV) : f32_l1 t4 r0_0 r0_1 r0_2 r0_3 r0_4 r0_5 r0_6 r0_7 r0_8 r1 =
 cond (decide (t4 < ((r0_8.length : Nat) : Int)))
 (if 0 ≤ t4 ∧ t4 < ((r0_8.length : Nat) : Int) then
 if okCells false (r0_8.getD t4.toNat .x) 0 [(.i .i64), (.sl 2 1), (.i .i64), (.i .i64), (.sl 2 1), (.sl 9 1)] = true then
 bSh .b (den E 63 [(.agg [(.i .i64 r0_0), (.i .i64 r0_1), (.i .i64 r0_2)]), (.agg [(.i .i64 (((r0_8.getD t4.toNat .x).cells.getD 0 .x).toI)), (.imm 1 (((r0_8.getD t4.toNat .x).cells.getD 1 .x).toL)), (.i .i64 (((r0_8.getD t4.toNat .x).cells.getD 2 .x).toI)), (.i .i64 (((r0_8.getD t4.toNat .x).cells.getD 3 .x).toI)), (.imm 1 (((r0_8.getD t4.toNat .x).cells.getD 4 .x).toL)), (.imm 1 (((r0_8.getD t4.toNat .x).cells.getD 5 .x).toL))])] []) fun a1 =>
 cond ((!a1.toB) == false)
 (bSh .b (den E 64 [(.agg [(.i .i64 r0_0), (.i .i64 r0_1), (.i .i64 r0_2)]), (.agg [(.i .i64 (((r0_8.getD t4.toNat .x).cells.getD 0 .x).toI)), (.imm 1 (((r0_8.getD t4.toNat .x).cells.getD 1 .x).toL)), (.i .i64 (((r0_8.getD t4.toNat .x).cells.getD 2 .x).toI)), (.i .i64 (((r0_8.getD t4.toNat .x).cells.getD 3 .x).toI)), (.imm 1 (((r0_8.getD t4.toNat .x).cells.getD 4 .x).toL)), (.imm 1 (((r0_8.getD t4.toNat .x).cells.getD 5 .x).toL))])] []) fun a2 =>
 cond ((!a2.toB) == false)
 (bSh .b (den E 65 [(.agg [(.i .i64 r0_0), (.i .i64 r0_1), (.i .i64 r0_2), (.imm 4 r0_3), (.i .i64 r0_4), (.i .i64 r0_5), (.b r0_6), (.i .i64 r0_7)]), (.agg [(.i .i64 (((r0_8.getD t4.toNat .x).cells.getD 0 .x).toI)), (.imm 1 (((r0_8.getD t4.toNat .x).cells.getD 1 .x).toL)), (.i .i64 (((r0_8.getD t4.toNat .x).cells.getD 2 .x).toI)), (.i .i64 (((r0_8.getD t4.toNat .x).cells.getD 3 .x).toI)), (.imm 1 (((r0_8.getD t4.toNat .x).cells.getD 4 .x).toL)), (.imm 1 (((r0_8.getD t4.toNat .x).cells.getD 5 .x).toL))])] []) fun a3 =>
 cond (!a3.toB)
 (some (.b false))
 (f32_l2 t4 (0 : Int) r0_0 r0_1 r0_2 r0_3 r0_4 r0_5 r0_6 r0_7 r0_8 r1 (((r0_8.getD t4.toNat .x).cells.getD 0 .x).toI) (((r0_8.getD t4.toNat .x).cells.getD 1 .x).toL) (((r0_8.getD t4.toNat .x).cells.getD 2 .x).toI) (((r0_8.getD t4.toNat .x).cells.getD 3 .x).toI) (((r0_8.getD t4.toNat .x).cells.getD 4 .x).toL) (((r0_8.getD t4.toNat .x).cells.getD 5 .x).toL)))
 (some (.b false)))
 (some (.b false))
 else none
 else none)
 (some (.b true)) := (Lp_eq ..).trans (by kernel_rfl)
theorem f32_l2_eq (t4 : Int) (t6 : Int) (r0_0 : Int) (r0_1 : Int) (r0_2 : Int) (r0_3 : List AV) (r0_4 : Int) (r0_5 : Int) (r0_6 : Bool) (r0_7 : Int) (r0_8 : List AV) (r1 : List AV) (r2_0 : Int) (r2_1 : List AV) (r2_2 : Int) (r2_3 : Int) (r2_4 : List AV) (r2_5 : List AV) : f32_l2 t4 t6 r0_0 r0_1 r0_2 r0_3 r0_4 r0_5 r0_6 r0_7 r0_8 r1 r2_0 r2_1 r2_2 r2_3 r2_4 r2_5 =
 cond (decide (t6 < ((r2_1.length : Nat) : Int)))
 (if 0 ≤ t6 ∧ t6 < ((r2_1.length : Nat) : Int) then
 if okCells false (r2_1.getD t6.toNat .x) 0 [(.i .i64)] = true then
 bSh .b (den E 66 [(.imm 1 r1), (.i .i64 (((r2_1.getD t6.toNat .x).cells.getD 0 .x).toI))] []) fun a1 =>
 cond a1.toB
 (some (.b false))
 (if 0 ≤ t6 ∧ t6 < ((r2_1.length : Nat) : Int) then
 if okCells false (r2_1.getD t6.toNat .x) 0 [(.i .i64)] = true then
 if (r1.length + ([(.i .i64 (((r2_1.getD t6.toNat .x).cells.getD 0 .x).toI))] : List AV).length) * 8 ≤ room then
 f32_l2 t4 (IntKind.i64.wrap (t6 + (1 : Int))) r0_0 r0_1 r0_2 r0_3 r0_4 r0_5 r0_6 r0_7 r0_8 (r1 ++ [(.i .i64 (((r2_1.getD t6.toNat .x).cells.getD 0 .x).toI))]) r2_0 r2_1 r2_2 r2_3 r2_4 r2_5
 else none
 else none
 else none)
 else none
 else none)
 (f32_l1 (IntKind.i64.wrap (t4 + (1 : Int))) r0_0 r0_1 r0_2 r0_3 r0_4 r0_5 r0_6 r0_7 r0_8 r1) := (Lp_eq ..).trans (by kernel_rfl)
/-! 67: loop.example/g00905/spec.l25Table -/
theorem f67_eq (x0 : AV) : den E 67 [(.ip x0 0)] [] =
 if okCells false x0 0 [(.i .i64)] = true then
 bSh .b (den E 54 [(.i .i64 ((x0.cells.getD 0 .x).toI)), (.i .i64 (1 : Int)), (.i .i64 (1000000 : Int))] []) fun a1 =>
 cond ((!a1.toB) == false)
 (if okCells false x0 1 [(.i .i64)] = true then
 bSh .b (den E 54 [(.i .i64 ((x0.cells.getD 1 .x).toI)), (.i .i64 (0 : Int)), (.i .i64 (2 : Int))] []) fun a2 =>
 cond ((!a2.toB) == false)
 (if okCells false x0 2 [(.i .i64)] = true then
 bSh .b (den E 54 [(.i .i64 ((x0.cells.getD 2 .x).toI)), (.i .i64 (0 : Int)), (.i .i64 (11 : Int))] []) fun a3 =>
 cond ((!a3.toB) == false)
 (if okCells false x0 3 [(.i .i64)] = true then
 bSh .b (den E 54 [(.i .i64 ((x0.cells.getD 3 .x).toI)), (.i .i64 (0 : Int)), (.i .i64 (1000 : Int))] []) fun a4 =>
 cond ((!a4.toB) == false)
 (if okCells false x0 4 [(.i .i64)] = true then
 bSh .b (den E 54 [(.i .i64 ((x0.cells.getD 4 .x).toI)), (.i .i64 (1 : Int)), (.i .i64 (100 : Int))] []) fun a5 =>
 cond (!a5.toB)
 (some (.b false))
 (if okCells false x0 5 [.s] = true then
 cond ((decide ((9 : Int) < ((((x0.cells.getD 5 .x).toS).size : Nat) : Int))) == false)
 (if okCells false x0 6 [.s] = true then
 cond ((decide ((9 : Int) < ((((x0.cells.getD 6 .x).toS).size : Nat) : Int))) == false)
 (if okCells false x0 5 [.s] = true then
 if okCells false x0 6 [.s] = true then
 cond (!lessS ((x0.cells.getD 5 .x).toS) ((x0.cells.getD 6 .x).toS))
 (some (.b false))
 (if okCells false x0 7 [(.i .i64)] = true then
 cond ((decide ((0 : Int) < ((x0.cells.getD 7 .x).toI))) == true)
 (if okCells false x0 7 [(.i .i64)] = true then
 if okCells false x0 8 [(.i .i64)] = true then
 cond ((decide (((x0.cells.getD 7 .x).toI) ≤ ((x0.cells.getD 8 .x).toI))) == true)
 (if okCells false x0 8 [(.i .i64)] = true then
 cond ((decide (((x0.cells.getD 8 .x).toI) ≤ (1000000 : Int))) == true)
 (if okCells false x0 9 [(.i .i64)] = true then
 bSh .b (den E 54 [(.i .i64 ((x0.cells.getD 9 .x).toI)), (.i .i64 (1 : Int)), (.i .i64 (60 : Int))] []) fun a6 =>
 some (.b a6.toB)
 else none)
 (some (.b false))
 else none)
 (some (.b false))
 else none
 else none)
 (some (.b false))
 else none)
 else none
 else none)
 (some (.b false))
 else none)
 (some (.b false))
 else none)
 else none)
 (some (.b false))
 else none)
 (some (.b false))
 else none)
 (some (.b false))
 else none)
 (some (.b false))
 else none := (den_eq ..).trans (by kernel_rfl)
/-! 68: loop.example/g00905/spec.l25Before -/
theorem f68_eq (x0 : AV) (x1 : AV) : den E 68 [(.ip x0 0), (.ip x1 0)] [] =
 if okCells false x0 1 [(.i .i64)] = true then
 if okCells false x1 1 [(.i .i64)] = true then
 cond (!decide (((x0.cells.getD 1 .x).toI) = ((x1.cells.getD 1 .x).toI)))
 (if okCells false x0 1 [(.i .i64)] = true then
 if okCells false x1 1 [(.i .i64)] = true then
 some (.b (decide (((x0.cells.getD 1 .x).toI) < ((x1.cells.getD 1 .x).toI))))
 else none
 else none)
 (if okCells false x0 1 [(.i .i64)] = true then
 cond (decide (((x0.cells.getD 1 .x).toI) = (0 : Int)))
 (if okCells false x0 0 [(.i .i64)] = true then
 if okCells false x1 0 [(.i .i64)] = true then
 some (.b (decide (((x1.cells.getD 0 .x).toI) < ((x0.cells.getD 0 .x).toI))))
 else none
 else none)
 (if okCells false x0 5 [.s] = true then
 if okCells false x1 5 [.s] = true then
 cond ((lessS ((x0.cells.getD 5 .x).toS) ((x1.cells.getD 5 .x).toS)) == true)
 (if okCells false x0 6 [.s] = true then
 if okCells false x1 5 [.s] = true then
 some (.b (lessS ((x0.cells.getD 6 .x).toS) ((x1.cells.getD 5 .x).toS) || decide (((x0.cells.getD 6 .x).toS) = ((x1.cells.getD 5 .x).toS))))
 else none
 else none)
 (some (.b false))
 else none
 else none)
 else none)
 else none
 else none := (den_eq ..).trans (by kernel_rfl)
/-! 33: loop.example/g00905/spec.l25Ok -/
noncomputable def f33_l1 (t0 : AV) (t3 : Int) : Option AV := Lp E fi33 [true, true, false, true, false] (mkT 110 [(0, (.ip t0 0)), (3, (.i .i64 t3))]) []
noncomputable def f33_j2 (t0 : AV) (t3 : Int) (t4 : AV) : Option AV := Jn E fi33 [true, true, false, true, false, false, true, false, false, true, true] (mkT 110 [(0, (.ip t0 0)), (3, (.i .i64 t3)), (4, (.ip t4 0))]) []
noncomputable def f33_l3 (t0 : AV) (t3 : Int) (t4 : AV) (t5 : Int) : Option AV := Lp E fi33 [true, true, false, true, false, false, true, false, false, true, true, true, false] (mkT 110 [(0, (.ip t0 0)), (3, (.i .i64 t3)), (4, (.ip t4 0)), (5, (.i .i64 t5))]) []
theorem f33_eq (x0 : AV) : den E 33 [(.ip x0 0)] [] =
 if okCells false x0 0 [(.i .i64)] = true then
 bSh .b (den E 54 [(.i .i64 ((x0.cells.getD 0 .x).toI)), (.i .i64 (1 : Int)), (.i .i64 (1000000 : Int))] []) fun a1 =>
 cond ((!a1.toB) == false)
 (if okCells false x0 1 [(.i .i64)] = true then
 bSh .b (den E 54 [(.i .i64 ((x0.cells.getD 1 .x).toI)), (.i .i64 (0 : Int)), (.i .i64 (11 : Int))] []) fun a2 =>
 cond ((!a2.toB) == false)
 (if okCells false x0 2 [(.i .i64)] = true then
 bSh .b (den E 54 [(.i .i64 ((x0.cells.getD 2 .x).toI)), (.i .i64 (0 : Int)), (.i .i64 (1000000 : Int))] []) fun a3 =>
 cond ((!a3.toB) == false)
 (if okCells false x0 3 [(.sl 106 10)] = true then
 cond (decide ((16 : Int) < ((((x0.cells.getD 3 .x).toL).length : Nat) : Int)))
 (some (.b false))
 (f33_l1 x0 (0 : Int))
 else none)
 (some (.b false))
 else none)
 (some (.b false))
 else none)
 (some (.b false))
 else none := (den_eq ..).trans (by kernel_rfl)
theorem f33_l1_eq (t0 : AV) (t3 : Int) : f33_l1 t0 t3 =
 if okCells false t0 3 [(.sl 106 10)] = true then
 cond (decide (t3 < ((((t0.cells.getD 3 .x).toL).length : Nat) : Int)))
 (if okCells false t0 3 [(.sl 106 10)] = true then
 if 0 ≤ t3 ∧ t3 < ((((t0.cells.getD 3 .x).toL).length : Nat) : Int) then
 bSh .b (den E 67 [(.ip (((t0.cells.getD 3 .x).toL).getD t3.toNat .x) 0)] []) fun a1 =>
 cond ((!a1.toB) == false)
 (if okCells false (((t0.cells.getD 3 .x).toL).getD t3.toNat .x) 0 [(.i .i64)] = true then
 if okCells false t0 0 [(.i .i64)] = true then
 cond ((decide (((t0.cells.getD 0 .x).toI) ≤ (((((t0.cells.getD 3 .x).toL).getD t3.toNat .x).cells.getD 0 .x).toI))) == false)
 (if okCells false (((t0.cells.getD 3 .x).toL).getD t3.toNat .x) 8 [(.i .i64)] = true then
 if okCells false t0 2 [(.i .i64)] = true then
 cond ((decide (((t0.cells.getD 2 .x).toI) < (((((t0.cells.getD 3 .x).toL).getD t3.toNat .x).cells.getD 8 .x).toI))) == false)
 (cond ((decide ((0 : Int) < t3)) == true)
 (if okCells false t0 3 [(.sl 106 10)] = true then
 if 0 ≤ (IntKind.i64.wrap (t3 - (1 : Int))) ∧ (IntKind.i64.wrap (t3 - (1 : Int))) < ((((t0.cells.getD 3 .x).toL).length : Nat) : Int) then
 bSh .b (den E 68 [(.ip (((t0.cells.getD 3 .x).toL).getD (IntKind.i64.wrap (t3 - (1 : Int))).toNat .x) 0), (.ip (((t0.cells.getD 3 .x).toL).getD t3.toNat .x) 0)] []) fun a2 =>
 cond (!a2.toB)
 (some (.b false))
 (f33_j2 t0 t3 (((t0.cells.getD 3 .x).toL).getD t3.toNat .x))
 else none
 else none)
 (f33_j2 t0 t3 (((t0.cells.getD 3 .x).toL).getD t3.toNat .x)))
 (some (.b false))
 else none
 else none)
 (some (.b false))
 else none
 else none)
 (some (.b false))
 else none
 else none)
 (some (.b true))
 else none := (Lp_eq ..).trans (by kernel_rfl)
theorem f33_j2_eq (t0 : AV) (t3 : Int) (t4 : AV) : f33_j2 t0 t3 t4 =
 f33_l3 t0 t3 t4 (0 : Int) := by kernel_rfl
theorem f33_l3_eq (t0 : AV) (t3 : Int) (t4 : AV) (t5 : Int) : f33_l3 t0 t3 t4 t5 =
 cond (decide (t5 < t3))
 (if okCells false t0 3 [(.sl 106 10)] = true then
 if 0 ≤ t5 ∧ t5 < ((((t0.cells.getD 3 .x).toL).length : Nat) : Int) then
 if okCells false (((t0.cells.getD 3 .x).toL).getD t5.toNat .x) 0 [(.i .i64)] = true then
 if okCells false t4 0 [(.i .i64)] = true then
 cond (decide ((((((t0.cells.getD 3 .x).toL).getD t5.toNat .x).cells.getD 0 .x).toI) = ((t4.cells.getD 0 .x).toI)))
 (some (.b false))
 (f33_l3 t0 t3 t4 (IntKind.i64.wrap (t5 + (1 : Int))))
 else none
 else none
 else none
 else none)
 (f33_l1 t0 (IntKind.i64.wrap (t3 + (1 : Int)))) := (Lp_eq ..).trans (by kernel_rfl)
/-! 69: loop.example/g00905/spec.l27Tables -/
noncomputable def f69_l1 (t0 : AV) (t1 : Int) (t6 : Int) (r0 : List AV) (r1 : List AV) : Option AV := Lp E fi69 [true, true, false, true, false] (mkT 38 [(0, (.ip t0 0)), (1, (.i .i64 t1)), (5, (.sl 1 [] none)), (6, (.i .i64 t6))]) [(.live true false false 106 r0), (.live true false false 106 r1)]
noncomputable def f69_j2 (t0 : AV) (t1 : Int) (t6 : Int) (r0 : List AV) (r1 : List AV) : Option AV := Jn E fi69 [true, true, false, true, false, false, true, true] (mkT 38 [(0, (.ip t0 0)), (1, (.i .i64 t1)), (5, (.sl 1 [] none)), (6, (.i .i64 t6))]) [(.live true false false 106 r0), (.live true false false 106 r1)]
theorem f69_eq (x0 : AV) (x1 : Int) : den E 69 [(.ip x0 0), (.i .i64 x1)] [] =
 f69_l1 x0 x1 (0 : Int) [] [] := (den_eq ..).trans (by kernel_rfl)
theorem f69_l1_eq (t0 : AV) (t1 : Int) (t6 : Int) (r0 : List AV) (r1 : List AV) : f69_l1 t0 t1 t6 r0 r1 =
 if okCells false t0 3 [(.sl 106 10)] = true then
 cond (decide (t6 < ((((t0.cells.getD 3 .x).toL).length : Nat) : Int)))
 (if okCells false t0 3 [(.sl 106 10)] = true then
 if 0 ≤ t6 ∧ t6 < ((((t0.cells.getD 3 .x).toL).length : Nat) : Int) then
 if okCells false (((t0.cells.getD 3 .x).toL).getD t6.toNat .x) 2 [(.i .i64)] = true then
 cond (decide ((((((t0.cells.getD 3 .x).toL).getD t6.toNat .x).cells.getD 2 .x).toI) = t1))
 (if okCells false t0 3 [(.sl 106 10)] = true then
 if 0 ≤ t6 ∧ t6 < ((((t0.cells.getD 3 .x).toL).length : Nat) : Int) then
 if okCells false (((t0.cells.getD 3 .x).toL).getD t6.toNat .x) 0 [(.i .i64), (.i .i64), (.i .i64), (.i .i64), (.i .i64), .s, .s, (.i .i64), (.i .i64), (.i .i64)] = true then
 if (r1.length + ([(.agg [(.i .i64 (((((t0.cells.getD 3 .x).toL).getD t6.toNat .x).cells.getD 0 .x).toI)), (.i .i64 (((((t0.cells.getD 3 .x).toL).getD t6.toNat .x).cells.getD 1 .x).toI)), (.i .i64 (((((t0.cells.getD 3 .x).toL).getD t6.toNat .x).cells.getD 2 .x).toI)), (.i .i64 (((((t0.cells.getD 3 .x).toL).getD t6.toNat .x).cells.getD 3 .x).toI)), (.i .i64 (((((t0.cells.getD 3 .x).toL).getD t6.toNat .x).cells.getD 4 .x).toI)), (.s (((((t0.cells.getD 3 .x).toL).getD t6.toNat .x).cells.getD 5 .x).toS)), (.s (((((t0.cells.getD 3 .x).toL).getD t6.toNat .x).cells.getD 6 .x).toS)), (.i .i64 (((((t0.cells.getD 3 .x).toL).getD t6.toNat .x).cells.getD 7 .x).toI)), (.i .i64 (((((t0.cells.getD 3 .x).toL).getD t6.toNat .x).cells.getD 8 .x).toI)), (.i .i64 (((((t0.cells.getD 3 .x).toL).getD t6.toNat .x).cells.getD 9 .x).toI))])] : List AV).length) * 96 ≤ room then
 f69_j2 t0 t1 t6 r0 (r1 ++ [(.agg [(.i .i64 (((((t0.cells.getD 3 .x).toL).getD t6.toNat .x).cells.getD 0 .x).toI)), (.i .i64 (((((t0.cells.getD 3 .x).toL).getD t6.toNat .x).cells.getD 1 .x).toI)), (.i .i64 (((((t0.cells.getD 3 .x).toL).getD t6.toNat .x).cells.getD 2 .x).toI)), (.i .i64 (((((t0.cells.getD 3 .x).toL).getD t6.toNat .x).cells.getD 3 .x).toI)), (.i .i64 (((((t0.cells.getD 3 .x).toL).getD t6.toNat .x).cells.getD 4 .x).toI)), (.s (((((t0.cells.getD 3 .x).toL).getD t6.toNat .x).cells.getD 5 .x).toS)), (.s (((((t0.cells.getD 3 .x).toL).getD t6.toNat .x).cells.getD 6 .x).toS)), (.i .i64 (((((t0.cells.getD 3 .x).toL).getD t6.toNat .x).cells.getD 7 .x).toI)), (.i .i64 (((((t0.cells.getD 3 .x).toL).getD t6.toNat .x).cells.getD 8 .x).toI)), (.i .i64 (((((t0.cells.getD 3 .x).toL).getD t6.toNat .x).cells.getD 9 .x).toI))])])
 else none
 else none
 else none
 else none)
 (f69_j2 t0 t1 t6 r0 r1)
 else none
 else none
 else none)
 (some (.imm 10 r1))
 else none := (Lp_eq ..).trans (by kernel_rfl)
theorem f69_j2_eq (t0 : AV) (t1 : Int) (t6 : Int) (r0 : List AV) (r1 : List AV) : f69_j2 t0 t1 t6 r0 r1 =
 f69_l1 t0 t1 (IntKind.i64.wrap (t6 + (1 : Int))) r0 r1 := by kernel_rfl
/-! 35: loop.example/g00905/spec.l27Role -/
theorem f35_eq (x0 : AV) (x1 : AV) (x2 : Int) : den E 35 [(.ip x0 0), (.ip x1 0), (.i .i64 x2)] [] =
 cond (decide (x2 < (2 : Int)))
 (some (.i .i64 (1 : Int)))
 (if okCells false x0 8 [(.sl 101 6)] = true then
 if 0 ≤ x2 ∧ x2 < ((((x0.cells.getD 8 .x).toL).length : Nat) : Int) then
 if okCells false (((x0.cells.getD 8 .x).toL).getD x2.toNat .x) 0 [(.i .i64)] = true then
 cond (decide ((((((x0.cells.getD 8 .x).toL).getD x2.toNat .x).cells.getD 0 .x).toI) = (4 : Int)))
 (some (.i .i64 (6 : Int)))
 (if okCells false x1 1 [(.i .i64)] = true then
 cond (decide (x2 = ((x1.cells.getD 1 .x).toI)))
 (some (.i .i64 (2 : Int)))
 (bSh (.sl 106 10) (den E 69 [(.ip x1 0), (.i .i64 x2)] []) fun a1 =>
 cond (decide ((0 : Int) < ((a1.toL.length : Nat) : Int)))
 (some (.i .i64 (3 : Int)))
 (if okCells false x0 8 [(.sl 101 6)] = true then
 if 0 ≤ x2 ∧ x2 < ((((x0.cells.getD 8 .x).toL).length : Nat) : Int) then
 if okCells false (((x0.cells.getD 8 .x).toL).getD x2.toNat .x) 0 [(.i .i64)] = true then
 cond (decide ((((((x0.cells.getD 8 .x).toL).getD x2.toNat .x).cells.getD 0 .x).toI) = (1 : Int)))
 (some (.i .i64 (4 : Int)))
 (some (.i .i64 (5 : Int)))
 else none
 else none
 else none))
 else none)
 else none
 else none
 else none) := (den_eq ..).trans (by kernel_rfl)
/-! 49: loop.example/g00905/spec.l27With -/
noncomputable def f49_l1 (t0 : AV) (t1 : AV) (t2 : Int) (t8 : Int) (r0 : List AV) (r1 : List AV) : Option AV := Lp E fi49 [true, true, false, true, false] (mkT 30 [(0, (.ip t0 0)), (1, (.ip t1 0)), (2, (.i .i64 t2)), (7, (.sl 1 [] none)), (8, (.i .i64 t8))]) [(.live true false false 2 r0), (.live true false false 2 r1)]
noncomputable def f49_j2 (t0 : AV) (t1 : AV) (t2 : Int) (t8 : Int) (r0 : List AV) (r1 : List AV) : Option AV := Jn E fi49 [true, true, false, true, false, false, true, true] (mkT 30 [(0, (.ip t0 0)), (1, (.ip t1 0)), (2, (.i .i64 t2)), (7, (.sl 1 [] none)), (8, (.i .i64 t8))]) [(.live true false false 2 r0), (.live true false false 2 r1)]
theorem f49_eq (x0 : AV) (x1 : AV) (x2 : Int) : den E 49 [(.ip x0 0), (.ip x1 0), (.i .i64 x2)] [] =
 f49_l1 x0 x1 x2 (0 : Int) [] [] := (den_eq ..).trans (by kernel_rfl)
theorem f49_l1_eq (t0 : AV) (t1 : AV) (t2 : Int) (t8 : Int) (r0 : List AV) (r1 : List AV) : f49_l1 t0 t1 t2 t8 r0 r1 =
 if okCells false t0 8 [(.sl 101 6)] = true then
 cond (decide (t8 < ((((t0.cells.getD 8 .x).toL).length : Nat) : Int)))
 (bSh (.i .i64) (den E 35 [(.ip t0 0), (.ip t1 0), (.i .i64 t8)] []) fun a1 =>
 cond (decide (a1.toI = t2))
 (if (r1.length + ([(.i .i64 t8)] : List AV).length) * 8 ≤ room then
 f49_j2 t0 t1 t2 t8 r0 (r1 ++ [(.i .i64 t8)])
 else none)
 (f49_j2 t0 t1 t2 t8 r0 r1))
 (some (.imm 1 r1))
 else none := (Lp_eq ..).trans (by kernel_rfl)
theorem f49_j2_eq (t0 : AV) (t1 : AV) (t2 : Int) (t8 : Int) (r0 : List AV) (r1 : List AV) : f49_j2 t0 t1 t2 t8 r0 r1 =
 f49_l1 t0 t1 t2 (IntKind.i64.wrap (t8 + (1 : Int))) r0 r1 := by kernel_rfl
/-! 90: loop.example/g00905/spec.l27Same -/
noncomputable def f90_l1 (t2 : Int) (t7 : List AV) (t8 : Int) : Option AV := Lp E fi90 [true, true, false, true, false] (mkT 25 [(2, (.i .i64 t2)), (7, (.imm 10 t7)), (8, (.i .i64 t8))]) []
theorem f90_eq (x0 : AV) (x1 : Int) (x2 : Int) : den E 90 [(.ip x0 0), (.i .i64 x1), (.i .i64 x2)] [] =
 bSh (.sl 106 10) (den E 69 [(.ip x0 0), (.i .i64 x1)] []) fun a1 =>
 f90_l1 x2 a1.toL (0 : Int) := (den_eq ..).trans (by kernel_rfl)
theorem f90_l1_eq (t2 : Int) (t7 : List AV) (t8 : Int) : f90_l1 t2 t7 t8 =
 cond (decide (t8 < ((t7.length : Nat) : Int)))
 (if 0 ≤ t8 ∧ t8 < ((t7.length : Nat) : Int) then
 if okCells false (t7.getD t8.toNat .x) 1 [(.i .i64)] = true then
 cond (!decide ((((t7.getD t8.toNat .x).cells.getD 1 .x).toI) = t2))
 (some (.b false))
 (f90_l1 t2 t7 (IntKind.i64.wrap (t8 + (1 : Int))))
 else none
 else none)
 (some (.b true)) := (Lp_eq ..).trans (by kernel_rfl)
/-! 91: loop.example/g00905/spec.l27Room -/
noncomputable def f91_j1 (t0 : AV) (r0_0 : Int) (r0_1 : List AV) (r0_2 : Int) (r0_3 : Int) (r0_4 : List AV) (r0_5 : List AV) : Option AV := Jn E fi91 [true, true, true] (mkT 43 [(0, (.ip t0 0)), (5, (.pt 0 [] 0 0))]) [(.live false true false 101 [(.agg [(.i .i64 r0_0), (.imm 1 r0_1), (.i .i64 r0_2), (.i .i64 r0_3), (.imm 1 r0_4), (.imm 1 r0_5)])])]
theorem f91_eq (x0 : AV) (x1 : Int) : den E 91 [(.ip x0 0), (.i .i64 x1)] [] =
 if okCells false x0 8 [(.sl 101 6)] = true then
 if 0 ≤ x1 ∧ x1 < ((((x0.cells.getD 8 .x).toL).length : Nat) : Int) then
 if okCells false (((x0.cells.getD 8 .x).toL).getD x1.toNat .x) 0 [(.i .i64), (.sl 2 1), (.i .i64), (.i .i64), (.sl 2 1), (.sl 9 1)] = true then
 cond ((!decide ((((((x0.cells.getD 8 .x).toL).getD x1.toNat .x).cells.getD 0 .x).toI) = (1 : Int))) == true)
 (cond (!decide ((((((x0.cells.getD 8 .x).toL).getD x1.toNat .x).cells.getD 0 .x).toI) = (2 : Int)))
 (some (.i .i64 (0 : Int)))
 (f91_j1 x0 (((((x0.cells.getD 8 .x).toL).getD x1.toNat .x).cells.getD 0 .x).toI) (((((x0.cells.getD 8 .x).toL).getD x1.toNat .x).cells.getD 1 .x).toL) (((((x0.cells.getD 8 .x).toL).getD x1.toNat .x).cells.getD 2 .x).toI) (((((x0.cells.getD 8 .x).toL).getD x1.toNat .x).cells.getD 3 .x).toI) (((((x0.cells.getD 8 .x).toL).getD x1.toNat .x).cells.getD 4 .x).toL) (((((x0.cells.getD 8 .x).toL).getD x1.toNat .x).cells.getD 5 .x).toL)))
 (f91_j1 x0 (((((x0.cells.getD 8 .x).toL).getD x1.toNat .x).cells.getD 0 .x).toI) (((((x0.cells.getD 8 .x).toL).getD x1.toNat .x).cells.getD 1 .x).toL) (((((x0.cells.getD 8 .x).toL).getD x1.toNat .x).cells.getD 2 .x).toI) (((((x0.cells.getD 8 .x).toL).getD x1.toNat .x).cells.getD 3 .x).toI) (((((x0.cells.getD 8 .x).toL).getD x1.toNat .x).cells.getD 4 .x).toL) (((((x0.cells.getD 8 .x).toL).getD x1.toNat .x).cells.getD 5 .x).toL))
 else none
 else none
 else none := (den_eq ..).trans (by kernel_rfl)
theorem f91_j1_eq (t0 : AV) (r0_0 : Int) (r0_1 : List AV) (r0_2 : Int) (r0_3 : Int) (r0_4 : List AV) (r0_5 : List AV) : f91_j1 t0 r0_0 r0_1 r0_2 r0_3 r0_4 r0_5 =
 if okCells false t0 2 [(.i .i64)] = true then
 if okCells false t0 0 [(.i .i64)] = true then
 some (.i .i64 (IntKind.i64.wrap ((IntKind.i64.wrap ((IntKind.i64.wrap (((t0.cells.getD 2 .x).toI) - ((r0_4.length : Nat) : Int))) * (IntKind.i64.wrap (((t0.cells.getD 0 .x).toI) - (1 : Int))))) - ((r0_5.length : Nat) : Int))))
 else none
 else none := by kernel_rfl
/-! 92: loop.example/g00905/spec.l27Capacity -/
theorem f92_eq (x0 : AV) : den E 92 [(.ip x0 0)] [] =
 if okCells false x0 0 [(.i .i64)] = true then
 if okCells false x0 2 [(.i .i64)] = true then
 some (.i .i64 (IntKind.i64.wrap ((IntKind.i64.wrap (((x0.cells.getD 0 .x).toI) - (1 : Int))) * ((x0.cells.getD 2 .x).toI))))
 else none
 else none := (den_eq ..).trans (by kernel_rfl)
/-! 83: loop.example/g00905/spec.l27Wear -/
noncomputable def f83_l1 (t0 : AV) (t1 : Int) (t5 : Int) (t6 : Int) : Option AV := Lp E fi83 [true, true, false, true, false] (mkT 42 [(0, (.ip t0 0)), (1, (.i .i64 t1)), (5, (.i .i64 t5)), (6, (.i .i64 t6))]) []
theorem f83_eq (x0 : AV) (x1 : Int) : den E 83 [(.ip x0 0), (.i .i64 x1)] [] =
 f83_l1 x0 x1 (0 : Int) (0 : Int) := (den_eq ..).trans (by kernel_rfl)
theorem f83_l1_eq (t0 : AV) (t1 : Int) (t5 : Int) (t6 : Int) : f83_l1 t0 t1 t5 t6 =
 if okCells false t0 8 [(.sl 101 6)] = true then
 if 0 ≤ t1 ∧ t1 < ((((t0.cells.getD 8 .x).toL).length : Nat) : Int) then
 if okCells false (((t0.cells.getD 8 .x).toL).getD t1.toNat .x) 1 [(.sl 2 1)] = true then
 cond (decide (t6 < (((((((t0.cells.getD 8 .x).toL).getD t1.toNat .x).cells.getD 1 .x).toL).length : Nat) : Int)))
 (if okCells false t0 3 [(.sl 138 4)] = true then
 if okCells false t0 8 [(.sl 101 6)] = true then
 if 0 ≤ t1 ∧ t1 < ((((t0.cells.getD 8 .x).toL).length : Nat) : Int) then
 if okCells false (((t0.cells.getD 8 .x).toL).getD t1.toNat .x) 1 [(.sl 2 1)] = true then
 if 0 ≤ t6 ∧ t6 < (((((((t0.cells.getD 8 .x).toL).getD t1.toNat .x).cells.getD 1 .x).toL).length : Nat) : Int) then
 if okCells false ((((((t0.cells.getD 8 .x).toL).getD t1.toNat .x).cells.getD 1 .x).toL).getD t6.toNat .x) 0 [(.i .i64)] = true then
 if 0 ≤ ((((((((t0.cells.getD 8 .x).toL).getD t1.toNat .x).cells.getD 1 .x).toL).getD t6.toNat .x).cells.getD 0 .x).toI) ∧ ((((((((t0.cells.getD 8 .x).toL).getD t1.toNat .x).cells.getD 1 .x).toL).getD t6.toNat .x).cells.getD 0 .x).toI) < ((((t0.cells.getD 3 .x).toL).length : Nat) : Int) then
 if okCells false (((t0.cells.getD 3 .x).toL).getD ((((((((t0.cells.getD 8 .x).toL).getD t1.toNat .x).cells.getD 1 .x).toL).getD t6.toNat .x).cells.getD 0 .x).toI).toNat .x) 0 [(.i .i64)] = true then
 f83_l1 t0 t1 (IntKind.i64.wrap (t5 + (((((t0.cells.getD 3 .x).toL).getD ((((((((t0.cells.getD 8 .x).toL).getD t1.toNat .x).cells.getD 1 .x).toL).getD t6.toNat .x).cells.getD 0 .x).toI).toNat .x).cells.getD 0 .x).toI))) (IntKind.i64.wrap (t6 + (1 : Int)))
 else none
 else none
 else none
 else none
 else none
 else none
 else none
 else none)
 (some (.i .i64 t5))
 else none
 else none
 else none := (Lp_eq ..).trans (by kernel_rfl)
/-! 47: loop.example/g00905/spec.l27Fresh -/
noncomputable def f47_l1 (t0 : AV) (t5 : Int) (t6 : List AV) (t7 : Int) : Option AV := Lp E fi47 [true, true, true, false, true, false] (mkT 36 [(0, (.ip t0 0)), (5, (.i .i64 t5)), (6, (.imm 1 t6)), (7, (.i .i64 t7))]) []
noncomputable def f47_j2 (t0 : AV) (t6 : List AV) (t7 : Int) : Option AV := Jn E fi47 [true, true, true, false, true, false, false, true, false, false, true, false] (mkT 36 [(0, (.ip t0 0)), (6, (.imm 1 t6)), (7, (.i .i64 t7))]) []
noncomputable def f47_j3 (t0 : AV) (t5 : Int) (t6 : List AV) (t7 : Int) : Option AV := Jn E fi47 [true, true, true, false, true, false, false, true, true] (mkT 36 [(0, (.ip t0 0)), (5, (.i .i64 t5)), (6, (.imm 1 t6)), (7, (.i .i64 t7))]) []
theorem f47_eq (x0 : AV) (x1 : AV) : den E 47 [(.ip x0 0), (.ip x1 0)] [] =
 bSh (.sl 2 1) (den E 49 [(.ip x0 0), (.ip x1 0), (.i .i64 (4 : Int))] []) fun a1 =>
 f47_l1 x0 (-1 : Int) a1.toL (0 : Int) := (den_eq ..).trans (by kernel_rfl)
theorem f47_l1_eq (t0 : AV) (t5 : Int) (t6 : List AV) (t7 : Int) : f47_l1 t0 t5 t6 t7 =
 cond (decide (t7 < ((t6.length : Nat) : Int)))
 (cond ((decide (t5 < (0 : Int))) == false)
 (if 0 ≤ t7 ∧ t7 < ((t6.length : Nat) : Int) then
 if okCells false (t6.getD t7.toNat .x) 0 [(.i .i64)] = true then
 bSh (.i .i64) (den E 83 [(.ip t0 0), (.i .i64 (((t6.getD t7.toNat .x).cells.getD 0 .x).toI))] []) fun a1 =>
 bSh (.i .i64) (den E 83 [(.ip t0 0), (.i .i64 t5)] []) fun a2 =>
 cond (decide (a1.toI < a2.toI))
 (f47_j2 t0 t6 t7)
 (f47_j3 t0 t5 t6 t7)
 else none
 else none)
 (f47_j2 t0 t6 t7))
 (some (.i .i64 t5)) := (Lp_eq ..).trans (by kernel_rfl)
theorem f47_j2_eq (t0 : AV) (t6 : List AV) (t7 : Int) : f47_j2 t0 t6 t7 =
 if 0 ≤ t7 ∧ t7 < ((t6.length : Nat) : Int) then
 if okCells false (t6.getD t7.toNat .x) 0 [(.i .i64)] = true then
 f47_j3 t0 (((t6.getD t7.toNat .x).cells.getD 0 .x).toI) t6 t7
 else none
 else none := by kernel_rfl
theorem f47_j3_eq (t0 : AV) (t5 : Int) (t6 : List AV) (t7 : Int) : f47_j3 t0 t5 t6 t7 =
 f47_l1 t0 t5 t6 (IntKind.i64.wrap (t7 + (1 : Int))) := by kernel_rfl
/-! 55: loop.example/g00905/spec.l27Place -/
noncomputable def f55_l1 (t0 : AV) (t1 : AV) (t2 : Int) (t3 : Int) (t4 : Int) (t12 : List AV) (t13 : Int) : Option AV := Lp E fi55 [true, true, false, true, false] (mkT 66 [(0, (.ip t0 0)), (1, (.ip t1 0)), (2, (.i .i64 t2)), (3, (.i .i64 t3)), (4, (.i .i64 t4)), (12, (.imm 1 t12)), (13, (.i .i64 t13))]) []
noncomputable def f55_j2 (t0 : AV) (t1 : AV) (t2 : Int) (t3 : Int) (t4 : Int) (t12 : List AV) (t13 : Int) : Option AV := Jn E fi55 [true, true, false, true, false, false, true, true] (mkT 66 [(0, (.ip t0 0)), (1, (.ip t1 0)), (2, (.i .i64 t2)), (3, (.i .i64 t3)), (4, (.i .i64 t4)), (12, (.imm 1 t12)), (13, (.i .i64 t13))]) []
theorem f55_eq (x0 : AV) (x1 : AV) (x2 : Int) (x3 : Int) (x4 : Int) : den E 55 [(.ip x0 0), (.ip x1 0), (.i .i64 x2), (.i .i64 x3), (.i .i64 x4)] [] =
 bSh (.sl 2 1) (den E 49 [(.ip x0 0), (.ip x1 0), (.i .i64 (3 : Int))] []) fun a1 =>
 f55_l1 x0 x1 x2 x3 x4 a1.toL (0 : Int) := (den_eq ..).trans (by kernel_rfl)
theorem f55_l1_eq (t0 : AV) (t1 : AV) (t2 : Int) (t3 : Int) (t4 : Int) (t12 : List AV) (t13 : Int) : f55_l1 t0 t1 t2 t3 t4 t12 t13 =
 cond (decide (t13 < ((t12.length : Nat) : Int)))
 (if 0 ≤ t13 ∧ t13 < ((t12.length : Nat) : Int) then
 if okCells false (t12.getD t13.toNat .x) 0 [(.i .i64)] = true then
 cond ((!decide ((((t12.getD t13.toNat .x).cells.getD 0 .x).toI) = t4)) == true)
 (if 0 ≤ t13 ∧ t13 < ((t12.length : Nat) : Int) then
 if okCells false (t12.getD t13.toNat .x) 0 [(.i .i64)] = true then
 bSh .b (den E 90 [(.ip t1 0), (.i .i64 (((t12.getD t13.toNat .x).cells.getD 0 .x).toI)), (.i .i64 t2)] []) fun a1 =>
 cond (a1.toB == true)
 (if 0 ≤ t13 ∧ t13 < ((t12.length : Nat) : Int) then
 if okCells false (t12.getD t13.toNat .x) 0 [(.i .i64)] = true then
 bSh (.i .i64) (den E 91 [(.ip t0 0), (.i .i64 (((t12.getD t13.toNat .x).cells.getD 0 .x).toI))] []) fun a2 =>
 cond (decide (t3 ≤ a2.toI))
 (if 0 ≤ t13 ∧ t13 < ((t12.length : Nat) : Int) then
 if okCells false (t12.getD t13.toNat .x) 0 [(.i .i64)] = true then
 some (.tup [(.i .i64 (((t12.getD t13.toNat .x).cells.getD 0 .x).toI)), (.i .i64 (0 : Int))])
 else none
 else none)
 (f55_j2 t0 t1 t2 t3 t4 t12 t13)
 else none
 else none)
 (f55_j2 t0 t1 t2 t3 t4 t12 t13)
 else none
 else none)
 (f55_j2 t0 t1 t2 t3 t4 t12 t13)
 else none
 else none)
 (bSh (.sl 2 1) (den E 49 [(.ip t0 0), (.ip t1 0), (.i .i64 (4 : Int))] []) fun a3 =>
 cond ((decide (((a3.toL.length : Nat) : Int) < (2 : Int))) == false)
 (bSh (.i .i64) (den E 92 [(.ip t0 0)] []) fun a4 =>
 cond (decide (a4.toI < t3))
 (some (.tup [(.i .i64 (0 : Int)), (.i .i64 (4 : Int))]))
 (bSh (.i .i64) (den E 47 [(.ip t0 0), (.ip t1 0)] []) fun a5 =>
 some (.tup [(.i .i64 a5.toI), (.i .i64 (0 : Int))])))
 (some (.tup [(.i .i64 (0 : Int)), (.i .i64 (4 : Int))]))) := (Lp_eq ..).trans (by kernel_rfl)
theorem f55_j2_eq (t0 : AV) (t1 : AV) (t2 : Int) (t3 : Int) (t4 : Int) (t12 : List AV) (t13 : Int) : f55_j2 t0 t1 t2 t3 t4 t12 t13 =
 f55_l1 t0 t1 t2 t3 t4 t12 (IntKind.i64.wrap (t13 + (1 : Int))) := by kernel_rfl
/-! 27: loop.example/g00905/spec.PlaceTable -/
theorem f27_eq (x0_0 : Int) (x0_1 : Int) (x0_2 : Int) (x0_3 : List AV) (x0_4 : Int) (x0_5 : Int) (x0_6 : Bool) (x0_7 : Int) (x0_8 : List AV) (x1_0 : Int) (x1_1 : Int) (x1_2 : Int) (x1_3 : List AV) (x2 : Int) (x3 : Int) : den E 27 [(.agg [(.i .i64 x0_0), (.i .i64 x0_1), (.i .i64 x0_2), (.imm 4 x0_3), (.i .i64 x0_4), (.i .i64 x0_5), (.b x0_6), (.i .i64 x0_7), (.imm 6 x0_8)]), (.agg [(.i .i64 x1_0), (.i .i64 x1_1), (.i .i64 x1_2), (.imm 10 x1_3)]), (.i .i64 x2), (.i .i64 x3)] [] =
 bSh .b (den E 32 [(.agg [(.i .i64 x0_0), (.i .i64 x0_1), (.i .i64 x0_2), (.imm 4 x0_3), (.i .i64 x0_4), (.i .i64 x0_5), (.b x0_6), (.i .i64 x0_7), (.imm 6 x0_8)])] []) fun a1 =>
 cond ((!a1.toB) == false)
 (bSh .b (den E 33 [(.ip (.agg [(.i .i64 x1_0), (.i .i64 x1_1), (.i .i64 x1_2), (.imm 10 x1_3)]) 0)] []) fun a2 =>
 cond (!a2.toB)
 (some (.tup [(.i .i64 (0 : Int)), (.i .i64 (1 : Int))]))
 (bSh .b (den E 54 [(.i .i64 x2), (.i .i64 (0 : Int)), (.i .i64 (2 : Int))] []) fun a3 =>
 cond ((!a3.toB) == false)
 (cond (decide (x3 < (1 : Int)))
 (some (.tup [(.i .i64 (0 : Int)), (.i .i64 (2 : Int))]))
 (bSh (.tup [(.i .i64), (.i .i64)]) (den E 55 [(.ip (.agg [(.i .i64 x0_0), (.i .i64 x0_1), (.i .i64 x0_2), (.imm 4 x0_3), (.i .i64 x0_4), (.i .i64 x0_5), (.b x0_6), (.i .i64 x0_7), (.imm 6 x0_8)]) 0), (.ip (.agg [(.i .i64 x1_0), (.i .i64 x1_1), (.i .i64 x1_2), (.imm 10 x1_3)]) 0), (.i .i64 x2), (.i .i64 x3), (.i .i64 (-1 : Int))] []) fun a4 =>
 some (.tup [(.i .i64 ((a4.nth 0).toI)), (.i .i64 ((a4.nth 1).toI))])))
 (some (.tup [(.i .i64 (0 : Int)), (.i .i64 (2 : Int))]))))
 (some (.tup [(.i .i64 (0 : Int)), (.i .i64 (1 : Int))])) := (den_eq ..).trans (by kernel_rfl)
/-! 56: loop.example/g00905/impl.within -/
theorem f56_eq (x0 : Int) (x1 : Int) (x2 : Int) : den E 56 [(.i .i64 x0), (.i .i64 x1), (.i .i64 x2)] [] =
 cond ((decide (x1 ≤ x0)) == true)
 (some (.b (decide (x0 ≤ x2))))
 (some (.b false)) := (den_eq ..).trans (by kernel_rfl)
/-! 118: loop.example/g00905/impl.ValidGeometry -/
theorem f118_eq (x0_0 : Int) (x0_1 : Int) (x0_2 : Int) : den E 118 [(.agg [(.i .i64 x0_0), (.i .i64 x0_1), (.i .i64 x0_2)])] [] =
 bSh .b (den E 56 [(.i .i64 x0_0), (.i .i64 (2 : Int)), (.i .i64 (3 : Int))] []) fun a1 =>
 cond (a1.toB == true)
 (bSh .b (den E 56 [(.i .i64 x0_1), (.i .i64 (4 : Int)), (.i .i64 (12 : Int))] []) fun a2 =>
 cond (a2.toB == true)
 (cond ((decide (x0_2 = (8 : Int))) == false)
 (some (.b (decide (x0_2 = (16 : Int)))))
 (some (.b true)))
 (some (.b false)))
 (some (.b false)) := (den_eq ..).trans (by kernel_rfl)
/-! 119: (loop.example/g00905/impl.Geometry).all -/
theorem f119_eq (x0_0 : Int) (x0_1 : Int) (x0_2 : Int) : den E 119 [(.agg [(.i .i64 x0_0), (.i .i64 x0_1), (.i .i64 x0_2)])] [] =
 some (.i .i64 (IntKind.i64.wrap (x0_0 * x0_1))) := (den_eq ..).trans (by kernel_rfl)
/-! 122: (loop.example/g00905/impl.Geometry).blockOk -/
noncomputable def f122_l1 (t28 : List AV) (t29 : Int) (t30 : Int) (r0_0 : Int) (r0_1 : Int) (r0_2 : Int) (r1_0 : Int) (r1_1 : Int) (r1_2 : Bool) (r1_3 : List AV) : Option AV := Lp E fi122 [true, true, false, true, false] (mkT 49 [(3, (.pt 1 [] 0 0)), (28, (.imm 1 t28)), (29, (.i .i64 t29)), (30, (.i .i64 t30))]) [(.live false true false 36 [(.agg [(.i .i64 r0_0), (.i .i64 r0_1), (.i .i64 r0_2)])]), (.live false true false 138 [(.agg [(.i .i64 r1_0), (.i .i64 r1_1), (.b r1_2), (.imm 1 r1_3)])])]
noncomputable def f122_j2 (t28 : List AV) (t29 : Int) (t30 : Int) (r0_0 : Int) (r0_1 : Int) (r0_2 : Int) (r1_0 : Int) (r1_1 : Int) (r1_2 : Bool) (r1_3 : List AV) : Option AV := Jn E fi122 [true, true, false, true, false, false, true, true, true] (mkT 49 [(3, (.pt 1 [] 0 0)), (28, (.imm 1 t28)), (29, (.i .i64 t29)), (30, (.i .i64 t30))]) [(.live false true false 36 [(.agg [(.i .i64 r0_0), (.i .i64 r0_1), (.i .i64 r0_2)])]), (.live false true false 138 [(.agg [(.i .i64 r1_0), (.i .i64 r1_1), (.b r1_2), (.imm 1 r1_3)])])]
theorem f122_eq (x0_0 : Int) (x0_1 : Int) (x0_2 : Int) (x1_0 : Int) (x1_1 : Int) (x1_2 : Bool) (x1_3 : List AV) : den E 122 [(.agg [(.i .i64 x0_0), (.i .i64 x0_1), (.i .i64 x0_2)]), (.agg [(.i .i64 x1_0), (.i .i64 x1_1), (.b x1_2), (.imm 1 x1_3)])] [] =
 bSh .b (den E 56 [(.i .i64 x1_0), (.i .i64 (0 : Int)), (.i .i64 (1000 : Int))] []) fun a1 =>
 cond ((!a1.toB) == false)
 (bSh .b (den E 56 [(.i .i64 x1_1), (.i .i64 (0 : Int)), (.i .i64 x0_2)] []) fun a2 =>
 cond ((!a2.toB) == false)
 (cond (!decide (((x1_3.length : Nat) : Int) = x0_2))
 (some (.b false))
 (f122_l1 x1_3 ((x1_3.length : Nat) : Int) (0 : Int) x0_0 x0_1 x0_2 x1_0 x1_1 x1_2 x1_3))
 (some (.b false)))
 (some (.b false)) := (den_eq ..).trans (by kernel_rfl)
theorem f122_l1_eq (t28 : List AV) (t29 : Int) (t30 : Int) (r0_0 : Int) (r0_1 : Int) (r0_2 : Int) (r1_0 : Int) (r1_1 : Int) (r1_2 : Bool) (r1_3 : List AV) : f122_l1 t28 t29 t30 r0_0 r0_1 r0_2 r1_0 r1_1 r1_2 r1_3 =
 cond (decide (t30 < t29))
 (if 0 ≤ t30 ∧ t30 < ((t28.length : Nat) : Int) then
 if okCells false (t28.getD t30.toNat .x) 0 [.s] = true then
 cond ((!decide ((((t28.getD t30.toNat .x).cells.getD 0 .x).toS) = ({ data := #[] } : ByteArray))) == true)
 (cond ((!decide ((((((t28.getD t30.toNat .x).cells.getD 0 .x).toS).size : Nat) : Int) = (91 : Int))) == false)
 (cond (decide (r1_1 ≤ t30))
 (some (.b false))
 (f122_j2 t28 t29 t30 r0_0 r0_1 r0_2 r1_0 r1_1 r1_2 r1_3))
 (some (.b false)))
 (f122_j2 t28 t29 t30 r0_0 r0_1 r0_2 r1_0 r1_1 r1_2 r1_3)
 else none
 else none)
 (some (.b true)) := (Lp_eq ..).trans (by kernel_rfl)
theorem f122_j2_eq (t28 : List AV) (t29 : Int) (t30 : Int) (r0_0 : Int) (r0_1 : Int) (r0_2 : Int) (r1_0 : Int) (r1_1 : Int) (r1_2 : Bool) (r1_3 : List AV) : f122_j2 t28 t29 t30 r0_0 r0_1 r0_2 r1_0 r1_1 r1_2 r1_3 =
 f122_l1 t28 t29 (IntKind.i64.wrap (t30 + (1 : Int))) r0_0 r0_1 r0_2 r1_0 r1_1 r1_2 r1_3 := by kernel_rfl
/-! 121: loop.example/g00905/impl.ValidFlash$1 -/
theorem f121q1_eq (x0_0 : Int) (x0_1 : Int) (x0_2 : Bool) (x0_3 : List AV) (x1 : AV) : den E 121 [(.agg [(.i .i64 x0_0), (.i .i64 x0_1), (.b x0_2), (.imm 1 x0_3)]), (.ip x1 0)] [] =
 if okCells false x1 0 [(.i .i64), (.i .i64), (.i .i64)] = true then
 bSh .b (den E 122 [(.agg [(.i .i64 ((x1.cells.getD 0 .x).toI)), (.i .i64 ((x1.cells.getD 1 .x).toI)), (.i .i64 ((x1.cells.getD 2 .x).toI))]), (.agg [(.i .i64 x0_0), (.i .i64 x0_1), (.b x0_2), (.imm 1 x0_3)])] []) fun a1 =>
 some (.b (!a1.toB))
 else none := (den_eq ..).trans (by kernel_rfl)
/-! 131: slices.IndexFunc[[]loop.example/g00905/impl.Block,loop.example/g00905/impl.Block] -/
noncomputable def f131q1_l1 (t0 : List AV) (t1_0 : AV) (t7 : Int) (t8 : Int) : Option AV := Lp E fi131 [true, false, true, false] (mkT 19 [(0, (.imm 4 t0)), (1, (.fn 121 [(.ip t1_0 0)])), (7, (.i .i64 t7)), (8, (.i .i64 t8))]) []
theorem f131q1_eq (x0 : List AV) (x1_0 : AV) : den E 131 [(.imm 4 x0), (.fn 121 [(.ip x1_0 0)])] [] =
 f131q1_l1 x0 x1_0 ((x0.length : Nat) : Int) (0 : Int) := (den_eq ..).trans (by kernel_rfl)
theorem f131q1_l1_eq (t0 : List AV) (t1_0 : AV) (t7 : Int) (t8 : Int) : f131q1_l1 t0 t1_0 t7 t8 =
 cond (decide (t8 < t7))
 (if 0 ≤ t8 ∧ t8 < ((t0.length : Nat) : Int) then
 if okCells false (t0.getD t8.toNat .x) 0 [(.i .i64), (.i .i64), .b, (.sl 9 1)] = true then
 bSh .b (den E 121 [(.agg [(.i .i64 (((t0.getD t8.toNat .x).cells.getD 0 .x).toI)), (.i .i64 (((t0.getD t8.toNat .x).cells.getD 1 .x).toI)), (.b (((t0.getD t8.toNat .x).cells.getD 2 .x).toB)), (.imm 1 (((t0.getD t8.toNat .x).cells.getD 3 .x).toL))]), (.ip t1_0 0)] []) fun a1 =>
 cond a1.toB
 (some (.i .i64 t8))
 (f131q1_l1 t0 t1_0 t7 (IntKind.i64.wrap (t8 + (1 : Int))))
 else none
 else none)
 (some (.i .i64 (-1 : Int))) := (Lp_eq ..).trans (by kernel_rfl)
/-! 120: slices.ContainsFunc[[]loop.example/g00905/impl.Block,loop.example/g00905/impl.Block] -/
theorem f120q1_eq (x0 : List AV) (x1_0 : AV) : den E 120 [(.imm 4 x0), (.fn 121 [(.ip x1_0 0)])] [] =
 bSh (.i .i64) (den E 131 [(.imm 4 x0), (.fn 121 [(.ip x1_0 0)])] []) fun a1 =>
 some (.b (decide ((0 : Int) ≤ a1.toI))) := (den_eq ..).trans (by kernel_rfl)
/-! 106: loop.example/g00905/impl.ValidFlash -/
theorem f106_eq (x0_0 : Int) (x0_1 : Int) (x0_2 : Int) (x0_3 : List AV) (x0_4 : Int) (x0_5 : Int) (x0_6 : Bool) (x0_7 : Int) : den E 106 [(.agg [(.i .i64 x0_0), (.i .i64 x0_1), (.i .i64 x0_2), (.imm 4 x0_3), (.i .i64 x0_4), (.i .i64 x0_5), (.b x0_6), (.i .i64 x0_7)])] [] =
 bSh .b (den E 118 [(.agg [(.i .i64 x0_0), (.i .i64 x0_1), (.i .i64 x0_2)])] []) fun a1 =>
 cond ((!a1.toB) == false)
 (bSh (.i .i64) (den E 119 [(.agg [(.i .i64 x0_0), (.i .i64 x0_1), (.i .i64 x0_2)])] []) fun a2 =>
 cond ((!decide (((x0_3.length : Nat) : Int) = a2.toI)) == false)
 (bSh .b (den E 56 [(.i .i64 x0_4), (.i .i64 (-1 : Int)), (.i .i64 (1000000 : Int))] []) fun a3 =>
 cond ((!a3.toB) == false)
 (bSh .b (den E 56 [(.i .i64 x0_5), (.i .i64 (0 : Int)), (.i .i64 (91 : Int))] []) fun a4 =>
 cond ((!a4.toB) == false)
 (cond (decide (x0_7 < (0 : Int)))
 (some (.b false))
 (bSh .b (den E 120 [(.imm 4 x0_3), (.fn 121 [(.ip (.agg [(.i .i64 x0_0), (.i .i64 x0_1), (.i .i64 x0_2), (.imm 4 x0_3), (.i .i64 x0_4), (.i .i64 x0_5), (.b x0_6), (.i .i64 x0_7)]) 0)])] []) fun a5 =>
 some (.b (!a5.toB))))
 (some (.b false)))
 (some (.b false)))
 (some (.b false)))
 (some (.b false)) := (den_eq ..).trans (by kernel_rfl)
/-! 107: (*loop.example/g00905/impl.Device).placesOk -/
noncomputable def f107_l1 (t0 : AV) (t19 : List AV) (t20 : Int) (t21 : Int) : Option AV := Lp E fi107 [true, true, false, true, false] (mkT 48 [(0, (.ip t0 0)), (19, (.imm 1 t19)), (20, (.i .i64 t20)), (21, (.i .i64 t21))]) []
theorem f107_eq (x0 : AV) (x1_0 : Int) (x1_1 : List AV) (x1_2 : Int) (x1_3 : Int) (x1_4 : List AV) (x1_5 : List AV) : den E 107 [(.ip x0 0), (.agg [(.i .i64 x1_0), (.imm 1 x1_1), (.i .i64 x1_2), (.i .i64 x1_3), (.imm 1 x1_4), (.imm 1 x1_5)])] [] =
 if okCells false x0 0 [(.i .i64)] = true then
 cond (!decide (((x1_1.length : Nat) : Int) = ((x0.cells.getD 0 .x).toI)))
 (some (.b false))
 (f107_l1 x0 x1_1 ((x1_1.length : Nat) : Int) (0 : Int))
 else none := (den_eq ..).trans (by kernel_rfl)
theorem f107_l1_eq (t0 : AV) (t19 : List AV) (t20 : Int) (t21 : Int) : f107_l1 t0 t19 t20 t21 =
 cond (decide (t21 < t20))
 (if 0 ≤ t21 ∧ t21 < ((t19.length : Nat) : Int) then
 if okCells false (t19.getD t21.toNat .x) 0 [(.i .i64)] = true then
 if okCells false t0 1 [(.i .i64)] = true then
 if okCells false t0 1 [(.i .i64)] = true then
 bSh .b (den E 56 [(.i .i64 (((t19.getD t21.toNat .x).cells.getD 0 .x).toI)), (.i .i64 (IntKind.i64.wrap (t21 * ((t0.cells.getD 1 .x).toI)))), (.i .i64 (IntKind.i64.wrap ((IntKind.i64.wrap ((IntKind.i64.wrap (t21 * ((t0.cells.getD 1 .x).toI))) + ((t0.cells.getD 1 .x).toI))) - (1 : Int))))] []) fun a1 =>
 cond (!a1.toB)
 (some (.b false))
 (f107_l1 t0 t19 t20 (IntKind.i64.wrap (t21 + (1 : Int))))
 else none
 else none
 else none
 else none)
 (some (.b true)) := (Lp_eq ..).trans (by kernel_rfl)
/-! 116: (*loop.example/g00905/impl.Device).units -/
theorem f116_eq (x0 : AV) : den E 116 [(.ip x0 0)] [] =
 if okCells false x0 0 [(.i .i64)] = true then
 some (.i .i64 (IntKind.i64.wrap (((x0.cells.getD 0 .x).toI) - (1 : Int))))
 else none := (den_eq ..).trans (by kernel_rfl)
/-! 133: loop.example/g00905/impl.allWithin$1 -/
theorem f133q1_eq (x0 : Int) (x1 : AV) (x2 : AV) : den E 133 [(.i .i64 x0), (.ip x1 0), (.ip x2 0)] [] =
 if okCells false x1 0 [(.i .i64)] = true then
 if okCells false x2 0 [(.i .i64)] = true then
 bSh .b (den E 56 [(.i .i64 x0), (.i .i64 ((x1.cells.getD 0 .x).toI)), (.i .i64 ((x2.cells.getD 0 .x).toI))] []) fun a1 =>
 some (.b (!a1.toB))
 else none
 else none := (den_eq ..).trans (by kernel_rfl)
/-! 139: slices.IndexFunc[[]int64,int64] -/
noncomputable def f139q1_l1 (t0 : List AV) (t1_0 : AV) (t1_1 : AV) (t7 : Int) (t8 : Int) : Option AV := Lp E fi139 [true, false, true, false] (mkT 19 [(0, (.imm 1 t0)), (1, (.fn 133 [(.ip t1_0 0), (.ip t1_1 0)])), (7, (.i .i64 t7)), (8, (.i .i64 t8))]) []
theorem f139q1_eq (x0 : List AV) (x1_0 : AV) (x1_1 : AV) : den E 139 [(.imm 1 x0), (.fn 133 [(.ip x1_0 0), (.ip x1_1 0)])] [] =
 f139q1_l1 x0 x1_0 x1_1 ((x0.length : Nat) : Int) (0 : Int) := (den_eq ..).trans (by kernel_rfl)
theorem f139q1_l1_eq (t0 : List AV) (t1_0 : AV) (t1_1 : AV) (t7 : Int) (t8 : Int) : f139q1_l1 t0 t1_0 t1_1 t7 t8 =
 cond (decide (t8 < t7))
 (if 0 ≤ t8 ∧ t8 < ((t0.length : Nat) : Int) then
 if okCells false (t0.getD t8.toNat .x) 0 [(.i .i64)] = true then
 bSh .b (den E 133 [(.i .i64 (((t0.getD t8.toNat .x).cells.getD 0 .x).toI)), (.ip t1_0 0), (.ip t1_1 0)] []) fun a1 =>
 cond a1.toB
 (some (.i .i64 t8))
 (f139q1_l1 t0 t1_0 t1_1 t7 (IntKind.i64.wrap (t8 + (1 : Int))))
 else none
 else none)
 (some (.i .i64 (-1 : Int))) := (Lp_eq ..).trans (by kernel_rfl)
/-! 132: slices.ContainsFunc[[]int64,int64] -/
theorem f132q1_eq (x0 : List AV) (x1_0 : AV) (x1_1 : AV) : den E 132 [(.imm 1 x0), (.fn 133 [(.ip x1_0 0), (.ip x1_1 0)])] [] =
 bSh (.i .i64) (den E 139 [(.imm 1 x0), (.fn 133 [(.ip x1_0 0), (.ip x1_1 0)])] []) fun a1 =>
 some (.b (decide ((0 : Int) ≤ a1.toI))) := (den_eq ..).trans (by kernel_rfl)
/-! 123: loop.example/g00905/impl.allWithin -/
theorem f123_eq (x0 : List AV) (x1 : Int) (x2 : Int) : den E 123 [(.imm 1 x0), (.i .i64 x1), (.i .i64 x2)] [] =
 bSh .b (den E 132 [(.imm 1 x0), (.fn 133 [(.ip (.i .i64 x1) 0), (.ip (.i .i64 x2) 0)])] []) fun a1 =>
 some (.b (!a1.toB)) := (den_eq ..).trans (by kernel_rfl)
/-! 124: loop.example/g00905/impl.total -/
noncomputable def f124_l1 (t3 : Int) (t6 : List AV) (t7 : Int) (t8 : Int) : Option AV := Lp E fi124 [true, true, false, true, false] (mkT 17 [(3, (.i .i64 t3)), (6, (.imm 1 t6)), (7, (.i .i64 t7)), (8, (.i .i64 t8))]) []
theorem f124_eq (x0 : List AV) : den E 124 [(.imm 1 x0)] [] =
 f124_l1 (0 : Int) x0 ((x0.length : Nat) : Int) (0 : Int) := (den_eq ..).trans (by kernel_rfl)
theorem f124_l1_eq (t3 : Int) (t6 : List AV) (t7 : Int) (t8 : Int) : f124_l1 t3 t6 t7 t8 =
 cond (decide (t8 < t7))
 (if 0 ≤ t8 ∧ t8 < ((t6.length : Nat) : Int) then
 if okCells false (t6.getD t8.toNat .x) 0 [(.i .i64)] = true then
 f124_l1 (IntKind.i64.wrap (t3 + (((t6.getD t8.toNat .x).cells.getD 0 .x).toI))) t6 t7 (IntKind.i64.wrap (t8 + (1 : Int)))
 else none
 else none)
 (some (.i .i64 t3)) := (Lp_eq ..).trans (by kernel_rfl)
/-! 126: (*loop.example/g00905/impl.Device).contentsOk$1 -/
theorem f126_eq (x0 : ByteArray) : den E 126 [(.s x0)] [] =
 some (.b (decide ((64 : Int) < ((x0.size : Nat) : Int)))) := (den_eq ..).trans (by kernel_rfl)
/-! 134: slices.IndexFunc[[]string,string] -/
noncomputable def f134q1_l1 (t0 : List AV) (t7 : Int) (t8 : Int) : Option AV := Lp E fi134 [true, false, true, false] (mkT 19 [(0, (.imm 1 t0)), (1, (.fn 126 [])), (7, (.i .i64 t7)), (8, (.i .i64 t8))]) []
theorem f134q1_eq (x0 : List AV) : den E 134 [(.imm 1 x0), (.fn 126 [])] [] =
 f134q1_l1 x0 ((x0.length : Nat) : Int) (0 : Int) := (den_eq ..).trans (by kernel_rfl)
theorem f134q1_l1_eq (t0 : List AV) (t7 : Int) (t8 : Int) : f134q1_l1 t0 t7 t8 =
 cond (decide (t8 < t7))
 (if 0 ≤ t8 ∧ t8 < ((t0.length : Nat) : Int) then
 if okCells false (t0.getD t8.toNat .x) 0 [.s] = true then
 bSh .b (den E 126 [(.s (((t0.getD t8.toNat .x).cells.getD 0 .x).toS))] []) fun a1 =>
 cond a1.toB
 (some (.i .i64 t8))
 (f134q1_l1 t0 t7 (IntKind.i64.wrap (t8 + (1 : Int))))
 else none
 else none)
 (some (.i .i64 (-1 : Int))) := (Lp_eq ..).trans (by kernel_rfl)
/-! 125: slices.ContainsFunc[[]string,string] -/
theorem f125q1_eq (x0 : List AV) : den E 125 [(.imm 1 x0), (.fn 126 [])] [] =
 bSh (.i .i64) (den E 134 [(.imm 1 x0), (.fn 126 [])] []) fun a1 =>
 some (.b (decide ((0 : Int) ≤ a1.toI))) := (den_eq ..).trans (by kernel_rfl)
/-! 108: (*loop.example/g00905/impl.Device).contentsOk -/
theorem f108_eq (x0 : AV) (x1_0 : Int) (x1_1 : List AV) (x1_2 : Int) (x1_3 : Int) (x1_4 : List AV) (x1_5 : List AV) : den E 108 [(.ip x0 0), (.agg [(.i .i64 x1_0), (.imm 1 x1_1), (.i .i64 x1_2), (.i .i64 x1_3), (.imm 1 x1_4), (.imm 1 x1_5)])] [] =
 if okCells false x0 2 [(.i .i64)] = true then
 cond ((decide (((x0.cells.getD 2 .x).toI) < ((x1_4.length : Nat) : Int))) == false)
 (bSh (.i .i64) (den E 116 [(.ip x0 0)] []) fun a1 =>
 bSh .b (den E 123 [(.imm 1 x1_4), (.i .i64 (1 : Int)), (.i .i64 a1.toI)] []) fun a2 =>
 cond ((!a2.toB) == false)
 (bSh (.i .i64) (den E 116 [(.ip x0 0)] []) fun a3 =>
 cond (decide (a3.toI ≤ ((x1_5.length : Nat) : Int)))
 (some (.b false))
 (bSh (.i .i64) (den E 124 [(.imm 1 x1_4)] []) fun a4 =>
 cond ((decide (x1_3 = a4.toI)) == true)
 (cond ((decide (x1_2 = (IntKind.i64.wrap (x1_3 + ((x1_5.length : Nat) : Int))))) == true)
 (bSh .b (den E 125 [(.imm 1 x1_5), (.fn 126 [])] []) fun a5 =>
 some (.b (!a5.toB)))
 (some (.b false)))
 (some (.b false))))
 (some (.b false)))
 (some (.b false))
 else none := (den_eq ..).trans (by kernel_rfl)
/-! 135: (*loop.example/g00905/impl.Device).ready$1 -/
theorem f135q1_eq (x0 : Int) (x1 : AV) (x2 : AV) : den E 135 [(.i .i64 x0), (.ip (.ip x1 0) 0), (.ip x2 0)] [] =
 if okCells false x1 3 [(.sl 138 4)] = true then
 if 0 ≤ x0 ∧ x0 < ((((x1.cells.getD 3 .x).toL).length : Nat) : Int) then
 if okCells false (((x1.cells.getD 3 .x).toL).getD x0.toNat .x) 1 [(.i .i64)] = true then
 if okCells false x2 4 [(.sl 2 1)] = true then
 some (.b (!decide ((((((x1.cells.getD 3 .x).toL).getD x0.toNat .x).cells.getD 1 .x).toI) = ((((x2.cells.getD 4 .x).toL).length : Nat) : Int))))
 else none
 else none
 else none
 else none := (den_eq ..).trans (by kernel_rfl)
/-! 139: slices.IndexFunc[[]int64,int64] -/
noncomputable def f139q2_l1 (t0 : List AV) (t1_0 : AV) (t1_1 : AV) (t7 : Int) (t8 : Int) : Option AV := Lp E fi139 [true, false, true, false] (mkT 19 [(0, (.imm 1 t0)), (1, (.fn 135 [(.ip (.ip t1_0 0) 0), (.ip t1_1 0)])), (7, (.i .i64 t7)), (8, (.i .i64 t8))]) []
theorem f139q2_eq (x0 : List AV) (x1_0 : AV) (x1_1 : AV) : den E 139 [(.imm 1 x0), (.fn 135 [(.ip (.ip x1_0 0) 0), (.ip x1_1 0)])] [] =
 f139q2_l1 x0 x1_0 x1_1 ((x0.length : Nat) : Int) (0 : Int) := (den_eq ..).trans (by kernel_rfl)
theorem f139q2_l1_eq (t0 : List AV) (t1_0 : AV) (t1_1 : AV) (t7 : Int) (t8 : Int) : f139q2_l1 t0 t1_0 t1_1 t7 t8 =
 cond (decide (t8 < t7))
 (if 0 ≤ t8 ∧ t8 < ((t0.length : Nat) : Int) then
 if okCells false (t0.getD t8.toNat .x) 0 [(.i .i64)] = true then
 bSh .b (den E 135 [(.i .i64 (((t0.getD t8.toNat .x).cells.getD 0 .x).toI)), (.ip (.ip t1_0 0) 0), (.ip t1_1 0)] []) fun a1 =>
 cond a1.toB
 (some (.i .i64 t8))
 (f139q2_l1 t0 t1_0 t1_1 t7 (IntKind.i64.wrap (t8 + (1 : Int))))
 else none
 else none)
 (some (.i .i64 (-1 : Int))) := (Lp_eq ..).trans (by kernel_rfl)
/-! 132: slices.ContainsFunc[[]int64,int64] -/
theorem f132q2_eq (x0 : List AV) (x1_0 : AV) (x1_1 : AV) : den E 132 [(.imm 1 x0), (.fn 135 [(.ip (.ip x1_0 0) 0), (.ip x1_1 0)])] [] =
 bSh (.i .i64) (den E 139 [(.imm 1 x0), (.fn 135 [(.ip (.ip x1_0 0) 0), (.ip x1_1 0)])] []) fun a1 =>
 some (.b (decide ((0 : Int) ≤ a1.toI))) := (den_eq ..).trans (by kernel_rfl)
/-! 127: (*loop.example/g00905/impl.Device).ready -/
theorem f127_eq (x0 : AV) (x1_0 : Int) (x1_1 : List AV) (x1_2 : Int) (x1_3 : Int) (x1_4 : List AV) (x1_5 : List AV) : den E 127 [(.ip x0 0), (.agg [(.i .i64 x1_0), (.imm 1 x1_1), (.i .i64 x1_2), (.i .i64 x1_3), (.imm 1 x1_4), (.imm 1 x1_5)])] [] =
 bSh .b (den E 132 [(.imm 1 x1_1), (.fn 135 [(.ip (.ip x0 0) 0), (.ip (.agg [(.i .i64 x1_0), (.imm 1 x1_1), (.i .i64 x1_2), (.i .i64 x1_3), (.imm 1 x1_4), (.imm 1 x1_5)]) 0)])] []) fun a1 =>
 some (.b (!a1.toB)) := (den_eq ..).trans (by kernel_rfl)
/-! 109: (*loop.example/g00905/impl.Device).stateOk -/
theorem f109_eq (x0 : AV) (x1_0 : Int) (x1_1 : List AV) (x1_2 : Int) (x1_3 : Int) (x1_4 : List AV) (x1_5 : List AV) : den E 109 [(.ip x0 0), (.agg [(.i .i64 x1_0), (.imm 1 x1_1), (.i .i64 x1_2), (.i .i64 x1_3), (.imm 1 x1_4), (.imm 1 x1_5)])] [] =
 cond (decide (x1_0 = (1 : Int)))
 (cond ((decide (x1_2 = (0 : Int))) == true)
 (bSh .b (den E 127 [(.ip x0 0), (.agg [(.i .i64 x1_0), (.imm 1 x1_1), (.i .i64 x1_2), (.i .i64 x1_3), (.imm 1 x1_4), (.imm 1 x1_5)])] []) fun a1 =>
 some (.b a1.toB))
 (some (.b false)))
 (cond (decide (x1_0 = (2 : Int)))
 (cond ((decide ((0 : Int) < x1_2)) == true)
 (if okCells false x0 2 [(.i .i64)] = true then
 cond ((decide (((x1_4.length : Nat) : Int) < ((x0.cells.getD 2 .x).toI))) == true)
 (bSh .b (den E 127 [(.ip x0 0), (.agg [(.i .i64 x1_0), (.imm 1 x1_1), (.i .i64 x1_2), (.i .i64 x1_3), (.imm 1 x1_4), (.imm 1 x1_5)])] []) fun a2 =>
 some (.b a2.toB))
 (some (.b false))
 else none)
 (some (.b false)))
 (cond (decide (x1_0 = (3 : Int)))
 (some (.b (decide (((x1_5.length : Nat) : Int) = (0 : Int)))))
 (cond (decide (x1_0 = (4 : Int)))
 (some (.b (decide (x1_2 = (0 : Int)))))
 (some (.b false))))) := (den_eq ..).trans (by kernel_rfl)
/-! 74: loop.example/g00905/impl.ValidDevice -/
noncomputable def f74_l1 (t26 : List AV) (t27 : Int) (t28 : Int) (r0_0 : Int) (r0_1 : Int) (r0_2 : Int) (r0_3 : List AV) (r0_4 : Int) (r0_5 : Int) (r0_6 : Bool) (r0_7 : Int) (r0_8 : List AV) (r1 : List AV) : Option AV := Lp E fi74 [true, true, true, false, true, false] (mkT 59 [(1, (.pt 0 [] 0 0)), (3, (.pt 1 [(0, 0)] 0 0)), (26, (.imm 6 t26)), (27, (.i .i64 t27)), (28, (.i .i64 t28))]) [(.live false true false 42 [(.agg [(.i .i64 r0_0), (.i .i64 r0_1), (.i .i64 r0_2), (.imm 4 r0_3), (.i .i64 r0_4), (.i .i64 r0_5), (.b r0_6), (.i .i64 r0_7), (.imm 6 r0_8)])]), (.live false false false 1000000 [(.fn 0 r1)])]
noncomputable def f74_l2 (t26 : List AV) (t27 : Int) (t28 : Int) (t46 : List AV) (t47 : Int) (t48 : Int) (r0_0 : Int) (r0_1 : Int) (r0_2 : Int) (r0_3 : List AV) (r0_4 : Int) (r0_5 : Int) (r0_6 : Bool) (r0_7 : Int) (r0_8 : List AV) (r1 : List AV) : Option AV := Lp E fi74 [true, true, true, false, true, false, false, true, true, false, false, true, true, true, false] (mkT 59 [(1, (.pt 0 [] 0 0)), (3, (.pt 1 [(0, 0)] 0 0)), (26, (.imm 6 t26)), (27, (.i .i64 t27)), (28, (.i .i64 t28)), (46, (.imm 1 t46)), (47, (.i .i64 t47)), (48, (.i .i64 t48))]) [(.live false true false 42 [(.agg [(.i .i64 r0_0), (.i .i64 r0_1), (.i .i64 r0_2), (.imm 4 r0_3), (.i .i64 r0_4), (.i .i64 r0_5), (.b r0_6), (.i .i64 r0_7), (.imm 6 r0_8)])]), (.live false false false 1000000 [(.fn 0 r1)])]
theorem f74_eq (x0_0 : Int) (x0_1 : Int) (x0_2 : Int) (x0_3 : List AV) (x0_4 : Int) (x0_5 : Int) (x0_6 : Bool) (x0_7 : Int) (x0_8 : List AV) : den E 74 [(.agg [(.i .i64 x0_0), (.i .i64 x0_1), (.i .i64 x0_2), (.imm 4 x0_3), (.i .i64 x0_4), (.i .i64 x0_5), (.b x0_6), (.i .i64 x0_7), (.imm 6 x0_8)])] [] =
 bSh .b (den E 106 [(.agg [(.i .i64 x0_0), (.i .i64 x0_1), (.i .i64 x0_2), (.imm 4 x0_3), (.i .i64 x0_4), (.i .i64 x0_5), (.b x0_6), (.i .i64 x0_7)])] []) fun a1 =>
 cond ((!a1.toB) == false)
 (bSh .b (den E 56 [(.i .i64 ((x0_8.length : Nat) : Int)), (.i .i64 (1 : Int)), (.i .i64 (if x0_1 < (12 : Int) then x0_1 else (12 : Int)))] []) fun a2 =>
 cond (!a2.toB)
 (some (.b false))
 (f74_l1 x0_8 ((x0_8.length : Nat) : Int) (0 : Int) x0_0 x0_1 x0_2 x0_3 x0_4 x0_5 x0_6 x0_7 x0_8 []))
 (some (.b false)) := (den_eq ..).trans (by kernel_rfl)
theorem f74_l1_eq (t26 : List AV) (t27 : Int) (t28 : Int) (r0_0 : Int) (r0_1 : Int) (r0_2 : Int) (r0_3 : List AV) (r0_4 : Int) (r0_5 : Int) (r0_6 : Bool) (r0_7 : Int) (r0_8 : List AV) (r1 : List AV) : f74_l1 t26 t27 t28 r0_0 r0_1 r0_2 r0_3 r0_4 r0_5 r0_6 r0_7 r0_8 r1 =
 cond (decide (t28 < t27))
 (if 0 ≤ t28 ∧ t28 < ((t26.length : Nat) : Int) then
 if okCells false (t26.getD t28.toNat .x) 0 [(.i .i64), (.sl 2 1), (.i .i64), (.i .i64), (.sl 2 1), (.sl 9 1)] = true then
 bSh .b (den E 107 [(.ip (.agg [(.i .i64 r0_0), (.i .i64 r0_1), (.i .i64 r0_2), (.imm 4 r0_3), (.i .i64 r0_4), (.i .i64 r0_5), (.b r0_6), (.i .i64 r0_7), (.imm 6 r0_8)]) 0), (.agg [(.i .i64 (((t26.getD t28.toNat .x).cells.getD 0 .x).toI)), (.imm 1 (((t26.getD t28.toNat .x).cells.getD 1 .x).toL)), (.i .i64 (((t26.getD t28.toNat .x).cells.getD 2 .x).toI)), (.i .i64 (((t26.getD t28.toNat .x).cells.getD 3 .x).toI)), (.imm 1 (((t26.getD t28.toNat .x).cells.getD 4 .x).toL)), (.imm 1 (((t26.getD t28.toNat .x).cells.getD 5 .x).toL))])] []) fun a1 =>
 cond ((!a1.toB) == false)
 (bSh .b (den E 108 [(.ip (.agg [(.i .i64 r0_0), (.i .i64 r0_1), (.i .i64 r0_2), (.imm 4 r0_3), (.i .i64 r0_4), (.i .i64 r0_5), (.b r0_6), (.i .i64 r0_7), (.imm 6 r0_8)]) 0), (.agg [(.i .i64 (((t26.getD t28.toNat .x).cells.getD 0 .x).toI)), (.imm 1 (((t26.getD t28.toNat .x).cells.getD 1 .x).toL)), (.i .i64 (((t26.getD t28.toNat .x).cells.getD 2 .x).toI)), (.i .i64 (((t26.getD t28.toNat .x).cells.getD 3 .x).toI)), (.imm 1 (((t26.getD t28.toNat .x).cells.getD 4 .x).toL)), (.imm 1 (((t26.getD t28.toNat .x).cells.getD 5 .x).toL))])] []) fun a2 =>
 cond ((!a2.toB) == false)
 (bSh .b (den E 109 [(.ip (.agg [(.i .i64 r0_0), (.i .i64 r0_1), (.i .i64 r0_2), (.imm 4 r0_3), (.i .i64 r0_4), (.i .i64 r0_5), (.b r0_6), (.i .i64 r0_7), (.imm 6 r0_8)]) 0), (.agg [(.i .i64 (((t26.getD t28.toNat .x).cells.getD 0 .x).toI)), (.imm 1 (((t26.getD t28.toNat .x).cells.getD 1 .x).toL)), (.i .i64 (((t26.getD t28.toNat .x).cells.getD 2 .x).toI)), (.i .i64 (((t26.getD t28.toNat .x).cells.getD 3 .x).toI)), (.imm 1 (((t26.getD t28.toNat .x).cells.getD 4 .x).toL)), (.imm 1 (((t26.getD t28.toNat .x).cells.getD 5 .x).toL))])] []) fun a3 =>
 cond (!a3.toB)
 (some (.b false))
 (f74_l2 t26 t27 t28 (((t26.getD t28.toNat .x).cells.getD 1 .x).toL) (((((t26.getD t28.toNat .x).cells.getD 1 .x).toL).length : Nat) : Int) (0 : Int) r0_0 r0_1 r0_2 r0_3 r0_4 r0_5 r0_6 r0_7 r0_8 r1))
 (some (.b false)))
 (some (.b false))
 else none
 else none)
 (some (.b true)) := (Lp_eq ..).trans (by kernel_rfl)
theorem f74_l2_eq (t26 : List AV) (t27 : Int) (t28 : Int) (t46 : List AV) (t47 : Int) (t48 : Int) (r0_0 : Int) (r0_1 : Int) (r0_2 : Int) (r0_3 : List AV) (r0_4 : Int) (r0_5 : Int) (r0_6 : Bool) (r0_7 : Int) (r0_8 : List AV) (r1 : List AV) : f74_l2 t26 t27 t28 t46 t47 t48 r0_0 r0_1 r0_2 r0_3 r0_4 r0_5 r0_6 r0_7 r0_8 r1 =
 cond (decide (t48 < t47))
 (if 0 ≤ t48 ∧ t48 < ((t46.length : Nat) : Int) then
 if okCells false (t46.getD t48.toNat .x) 0 [(.i .i64)] = true then
 cond (hasI r1 (((t46.getD t48.toNat .x).cells.getD 0 .x).toI))
 (some (.b false))
 (f74_l2 t26 t27 t28 t46 t47 (IntKind.i64.wrap (t48 + (1 : Int))) r0_0 r0_1 r0_2 r0_3 r0_4 r0_5 r0_6 r0_7 r0_8 (r1 ++ [(.i .i64 (((t46.getD t48.toNat .x).cells.getD 0 .x).toI))]))
 else none
 else none)
 (f74_l1 t26 t27 (IntKind.i64.wrap (t28 + (1 : Int))) r0_0 r0_1 r0_2 r0_3 r0_4 r0_5 r0_6 r0_7 r0_8 r1) := (Lp_eq ..).trans (by kernel_rfl)
/-! 128: loop.example/g00905/impl.ValidTable -/
theorem f128_eq (x0_0 : Int) (x0_1 : Int) (x0_2 : Int) (x0_3 : Int) (x0_4 : Int) (x0_5 : ByteArray) (x0_6 : ByteArray) (x0_7 : Int) (x0_8 : Int) (x0_9 : Int) : den E 128 [(.agg [(.i .i64 x0_0), (.i .i64 x0_1), (.i .i64 x0_2), (.i .i64 x0_3), (.i .i64 x0_4), (.s x0_5), (.s x0_6), (.i .i64 x0_7), (.i .i64 x0_8), (.i .i64 x0_9)])] [] =
 bSh .b (den E 56 [(.i .i64 x0_0), (.i .i64 (1 : Int)), (.i .i64 (1000000 : Int))] []) fun a1 =>
 cond (a1.toB == true)
 (bSh .b (den E 56 [(.i .i64 x0_1), (.i .i64 (0 : Int)), (.i .i64 (2 : Int))] []) fun a2 =>
 cond (a2.toB == true)
 (bSh .b (den E 56 [(.i .i64 x0_2), (.i .i64 (0 : Int)), (.i .i64 (11 : Int))] []) fun a3 =>
 cond (a3.toB == true)
 (bSh .b (den E 56 [(.i .i64 x0_3), (.i .i64 (0 : Int)), (.i .i64 (1000 : Int))] []) fun a4 =>
 cond (a4.toB == true)
 (bSh .b (den E 56 [(.i .i64 x0_4), (.i .i64 (1 : Int)), (.i .i64 (100 : Int))] []) fun a5 =>
 cond (a5.toB == true)
 (cond ((decide (((x0_5.size : Nat) : Int) ≤ (9 : Int))) == true)
 (cond ((decide (((x0_6.size : Nat) : Int) ≤ (9 : Int))) == true)
 (cond ((lessS x0_5 x0_6) == true)
 (cond ((decide ((0 : Int) < x0_7)) == true)
 (cond ((decide (x0_7 ≤ x0_8)) == true)
 (cond ((decide (x0_8 ≤ (1000000 : Int))) == true)
 (bSh .b (den E 56 [(.i .i64 x0_9), (.i .i64 (1 : Int)), (.i .i64 (60 : Int))] []) fun a6 =>
 some (.b a6.toB))
 (some (.b false)))
 (some (.b false)))
 (some (.b false)))
 (some (.b false)))
 (some (.b false)))
 (some (.b false)))
 (some (.b false)))
 (some (.b false)))
 (some (.b false)))
 (some (.b false)))
 (some (.b false)) := (den_eq ..).trans (by kernel_rfl)
/-! 129: (loop.example/g00905/impl.Version).tablesOk$1 -/
theorem f129q1_eq (x0_0 : Int) (x0_1 : Int) (x0_2 : Int) (x0_3 : Int) (x0_4 : Int) (x0_5 : ByteArray) (x0_6 : ByteArray) (x0_7 : Int) (x0_8 : Int) (x0_9 : Int) (x1 : AV) : den E 129 [(.agg [(.i .i64 x0_0), (.i .i64 x0_1), (.i .i64 x0_2), (.i .i64 x0_3), (.i .i64 x0_4), (.s x0_5), (.s x0_6), (.i .i64 x0_7), (.i .i64 x0_8), (.i .i64 x0_9)]), (.ip x1 0)] [] =
 if okCells false x1 0 [(.i .i64)] = true then
 some (.b (decide (x0_0 = ((x1.cells.getD 0 .x).toI))))
 else none := (den_eq ..).trans (by kernel_rfl)
/-! 117: slices.IndexFunc[[]loop.example/g00905/impl.TableRef,loop.example/g00905/impl.TableRef] -/
noncomputable def f117q1_l1 (t0 : List AV) (t1_0 : AV) (t7 : Int) (t8 : Int) : Option AV := Lp E fi117 [true, false, true, false] (mkT 19 [(0, (.imm 10 t0)), (1, (.fn 129 [(.ip t1_0 0)])), (7, (.i .i64 t7)), (8, (.i .i64 t8))]) []
theorem f117q1_eq (x0 : List AV) (x1_0 : AV) : den E 117 [(.imm 10 x0), (.fn 129 [(.ip x1_0 0)])] [] =
 f117q1_l1 x0 x1_0 ((x0.length : Nat) : Int) (0 : Int) := (den_eq ..).trans (by kernel_rfl)
theorem f117q1_l1_eq (t0 : List AV) (t1_0 : AV) (t7 : Int) (t8 : Int) : f117q1_l1 t0 t1_0 t7 t8 =
 cond (decide (t8 < t7))
 (if 0 ≤ t8 ∧ t8 < ((t0.length : Nat) : Int) then
 if okCells false (t0.getD t8.toNat .x) 0 [(.i .i64), (.i .i64), (.i .i64), (.i .i64), (.i .i64), .s, .s, (.i .i64), (.i .i64), (.i .i64)] = true then
 bSh .b (den E 129 [(.agg [(.i .i64 (((t0.getD t8.toNat .x).cells.getD 0 .x).toI)), (.i .i64 (((t0.getD t8.toNat .x).cells.getD 1 .x).toI)), (.i .i64 (((t0.getD t8.toNat .x).cells.getD 2 .x).toI)), (.i .i64 (((t0.getD t8.toNat .x).cells.getD 3 .x).toI)), (.i .i64 (((t0.getD t8.toNat .x).cells.getD 4 .x).toI)), (.s (((t0.getD t8.toNat .x).cells.getD 5 .x).toS)), (.s (((t0.getD t8.toNat .x).cells.getD 6 .x).toS)), (.i .i64 (((t0.getD t8.toNat .x).cells.getD 7 .x).toI)), (.i .i64 (((t0.getD t8.toNat .x).cells.getD 8 .x).toI)), (.i .i64 (((t0.getD t8.toNat .x).cells.getD 9 .x).toI))]), (.ip t1_0 0)] []) fun a1 =>
 cond a1.toB
 (some (.i .i64 t8))
 (f117q1_l1 t0 t1_0 t7 (IntKind.i64.wrap (t8 + (1 : Int))))
 else none
 else none)
 (some (.i .i64 (-1 : Int))) := (Lp_eq ..).trans (by kernel_rfl)
/-! 94: slices.ContainsFunc[[]loop.example/g00905/impl.TableRef,loop.example/g00905/impl.TableRef] -/
theorem f94q1_eq (x0 : List AV) (x1_0 : AV) : den E 94 [(.imm 10 x0), (.fn 129 [(.ip x1_0 0)])] [] =
 bSh (.i .i64) (den E 117 [(.imm 10 x0), (.fn 129 [(.ip x1_0 0)])] []) fun a1 =>
 some (.b (decide ((0 : Int) ≤ a1.toI))) := (den_eq ..).trans (by kernel_rfl)
/-! 140: cmp.isNaN[int64] -/
theorem f140_eq (x0 : Int) : den E 140 [(.i .i64 x0)] [] =
 some (.b (!decide (x0 = x0))) := (den_eq ..).trans (by kernel_rfl)
/-! 136: cmp.Compare[int64] -/
theorem f136_eq (x0 : Int) (x1 : Int) : den E 136 [(.i .i64 x0), (.i .i64 x1)] [] =
 bSh .b (den E 140 [(.i .i64 x0)] []) fun a1 =>
 bSh .b (den E 140 [(.i .i64 x1)] []) fun a2 =>
 cond a1.toB
 (cond a2.toB
 (some (.i .i64 (0 : Int)))
 (some (.i .i64 (-1 : Int))))
 (cond a2.toB
 (some (.i .i64 (1 : Int)))
 (cond (decide (x0 < x1))
 (some (.i .i64 (-1 : Int)))
 (cond (decide (x1 < x0))
 (some (.i .i64 (1 : Int)))
 (some (.i .i64 (0 : Int)))))) := (den_eq ..).trans (by kernel_rfl)
/-! 141: internal/bytealg.CompareString -/
theorem f141_eq (x0 x1 : ByteArray) : den E 141 [(.s x0), (.s x1)] [] = some (.i .i64 (cmpB x0 x1)) := (den_eq ..).trans (by kernel_rfl)
/-! 138: strings.Compare -/
theorem f138_eq (x0 : ByteArray) (x1 : ByteArray) : den E 138 [(.s x0), (.s x1)] [] =
 bSh (.i .i64) (den E 141 [(.s x0), (.s x1)] []) fun a1 =>
 some (.i .i64 a1.toI) := (den_eq ..).trans (by kernel_rfl)
/-! 137: cmp.Or[int] -/
noncomputable def f137_l1 (t3 : Int) (t6 : List AV) (t7 : Int) (t8 : Int) : Option AV := Lp E fi137 [true, true, false, true, false] (mkT 18 [(3, (.i .i64 t3)), (6, (.imm 1 t6)), (7, (.i .i64 t7)), (8, (.i .i64 t8))]) []
theorem f137_eq (x0 : List AV) : den E 137 [(.imm 1 x0)] [] =
 f137_l1 (0 : Int) x0 ((x0.length : Nat) : Int) (0 : Int) := (den_eq ..).trans (by kernel_rfl)
theorem f137_l1_eq (t3 : Int) (t6 : List AV) (t7 : Int) (t8 : Int) : f137_l1 t3 t6 t7 t8 =
 cond (decide (t8 < t7))
 (if 0 ≤ t8 ∧ t8 < ((t6.length : Nat) : Int) then
 if okCells false (t6.getD t8.toNat .x) 0 [(.i .i64)] = true then
 cond (!decide ((((t6.getD t8.toNat .x).cells.getD 0 .x).toI) = t3))
 (some (.i .i64 (((t6.getD t8.toNat .x).cells.getD 0 .x).toI)))
 (f137_l1 t3 t6 t7 (IntKind.i64.wrap (t8 + (1 : Int))))
 else none
 else none)
 (some (.i .i64 t3)) := (Lp_eq ..).trans (by kernel_rfl)
/-! 130: loop.example/g00905/impl.compareRefs -/
noncomputable def f130_j1 (r0_0 : Int) (r0_1 : Int) (r0_2 : Int) (r0_3 : Int) (r0_4 : Int) (r0_5 : ByteArray) (r0_6 : ByteArray) (r0_7 : Int) (r0_8 : Int) (r0_9 : Int) (r1_0 : Int) (r1_1 : Int) (r1_2 : Int) (r1_3 : Int) (r1_4 : Int) (r1_5 : ByteArray) (r1_6 : ByteArray) (r1_7 : Int) (r1_8 : Int) (r1_9 : Int) : Option AV := Jn E fi130 [true, true] (mkT 32 [(2, (.pt 0 [] 0 0)), (3, (.pt 1 [] 0 0))]) [(.live false true false 106 [(.agg [(.i .i64 r0_0), (.i .i64 r0_1), (.i .i64 r0_2), (.i .i64 r0_3), (.i .i64 r0_4), (.s r0_5), (.s r0_6), (.i .i64 r0_7), (.i .i64 r0_8), (.i .i64 r0_9)])]), (.live false true false 106 [(.agg [(.i .i64 r1_0), (.i .i64 r1_1), (.i .i64 r1_2), (.i .i64 r1_3), (.i .i64 r1_4), (.s r1_5), (.s r1_6), (.i .i64 r1_7), (.i .i64 r1_8), (.i .i64 r1_9)])])]
theorem f130_eq (x0_0 : Int) (x0_1 : Int) (x0_2 : Int) (x0_3 : Int) (x0_4 : Int) (x0_5 : ByteArray) (x0_6 : ByteArray) (x0_7 : Int) (x0_8 : Int) (x0_9 : Int) (x1_0 : Int) (x1_1 : Int) (x1_2 : Int) (x1_3 : Int) (x1_4 : Int) (x1_5 : ByteArray) (x1_6 : ByteArray) (x1_7 : Int) (x1_8 : Int) (x1_9 : Int) : den E 130 [(.agg [(.i .i64 x0_0), (.i .i64 x0_1), (.i .i64 x0_2), (.i .i64 x0_3), (.i .i64 x0_4), (.s x0_5), (.s x0_6), (.i .i64 x0_7), (.i .i64 x0_8), (.i .i64 x0_9)]), (.agg [(.i .i64 x1_0), (.i .i64 x1_1), (.i .i64 x1_2), (.i .i64 x1_3), (.i .i64 x1_4), (.s x1_5), (.s x1_6), (.i .i64 x1_7), (.i .i64 x1_8), (.i .i64 x1_9)])] [] =
 cond ((decide (x0_1 = x1_1)) == true)
 (cond (decide (x0_1 = (0 : Int)))
 (bSh (.i .i64) (den E 136 [(.i .i64 x1_0), (.i .i64 x0_0)] []) fun a1 =>
 some (.i .i64 a1.toI))
 (f130_j1 x0_0 x0_1 x0_2 x0_3 x0_4 x0_5 x0_6 x0_7 x0_8 x0_9 x1_0 x1_1 x1_2 x1_3 x1_4 x1_5 x1_6 x1_7 x1_8 x1_9))
 (f130_j1 x0_0 x0_1 x0_2 x0_3 x0_4 x0_5 x0_6 x0_7 x0_8 x0_9 x1_0 x1_1 x1_2 x1_3 x1_4 x1_5 x1_6 x1_7 x1_8 x1_9) := (den_eq ..).trans (by kernel_rfl)
theorem f130_j1_eq (r0_0 : Int) (r0_1 : Int) (r0_2 : Int) (r0_3 : Int) (r0_4 : Int) (r0_5 : ByteArray) (r0_6 : ByteArray) (r0_7 : Int) (r0_8 : Int) (r0_9 : Int) (r1_0 : Int) (r1_1 : Int) (r1_2 : Int) (r1_3 : Int) (r1_4 : Int) (r1_5 : ByteArray) (r1_6 : ByteArray) (r1_7 : Int) (r1_8 : Int) (r1_9 : Int) : f130_j1 r0_0 r0_1 r0_2 r0_3 r0_4 r0_5 r0_6 r0_7 r0_8 r0_9 r1_0 r1_1 r1_2 r1_3 r1_4 r1_5 r1_6 r1_7 r1_8 r1_9 =
 bSh (.i .i64) (den E 136 [(.i .i64 r0_1), (.i .i64 r1_1)] []) fun a1 =>
 bSh (.i .i64) (den E 138 [(.s r0_5), (.s r1_5)] []) fun a2 =>
 bSh (.i .i64) (den E 137 [(.imm 1 [(.i .i64 a1.toI), (.i .i64 a2.toI)])] []) fun a3 =>
 some (.i .i64 a3.toI) := by kernel_rfl
/-! 110: (loop.example/g00905/impl.Version).tablesOk -/
noncomputable def f110_l1 (t7 : List AV) (t8 : Int) (t9 : Int) (r0_0 : Int) (r0_1 : Int) (r0_2 : Int) (r0_3 : List AV) : Option AV := Lp E fi110 [true, false, true, false] (mkT 75 [(1, (.pt 0 [] 0 0)), (7, (.imm 10 t7)), (8, (.i .i64 t8)), (9, (.i .i64 t9))]) [(.live false true false 46 [(.agg [(.i .i64 r0_0), (.i .i64 r0_1), (.i .i64 r0_2), (.imm 10 r0_3)])])]
noncomputable def f110_j2 (t7 : List AV) (t8 : Int) (t9 : Int) (r0_0 : Int) (r0_1 : Int) (r0_2 : Int) (r0_3 : List AV) : Option AV := Jn E fi110 [true, false, true, false, false, true, true, true] (mkT 75 [(1, (.pt 0 [] 0 0)), (7, (.imm 10 t7)), (8, (.i .i64 t8)), (9, (.i .i64 t9))]) [(.live false true false 46 [(.agg [(.i .i64 r0_0), (.i .i64 r0_1), (.i .i64 r0_2), (.imm 10 r0_3)])])]
theorem f110_eq (x0_0 : Int) (x0_1 : Int) (x0_2 : Int) (x0_3 : List AV) : den E 110 [(.agg [(.i .i64 x0_0), (.i .i64 x0_1), (.i .i64 x0_2), (.imm 10 x0_3)])] [] =
 f110_l1 x0_3 ((x0_3.length : Nat) : Int) (0 : Int) x0_0 x0_1 x0_2 x0_3 := (den_eq ..).trans (by kernel_rfl)
theorem f110_l1_eq (t7 : List AV) (t8 : Int) (t9 : Int) (r0_0 : Int) (r0_1 : Int) (r0_2 : Int) (r0_3 : List AV) : f110_l1 t7 t8 t9 r0_0 r0_1 r0_2 r0_3 =
 cond (decide (t9 < t8))
 (if 0 ≤ t9 ∧ t9 < ((t7.length : Nat) : Int) then
 if okCells false (t7.getD t9.toNat .x) 0 [(.i .i64), (.i .i64), (.i .i64), (.i .i64), (.i .i64), .s, .s, (.i .i64), (.i .i64), (.i .i64)] = true then
 bSh .b (den E 128 [(.agg [(.i .i64 (((t7.getD t9.toNat .x).cells.getD 0 .x).toI)), (.i .i64 (((t7.getD t9.toNat .x).cells.getD 1 .x).toI)), (.i .i64 (((t7.getD t9.toNat .x).cells.getD 2 .x).toI)), (.i .i64 (((t7.getD t9.toNat .x).cells.getD 3 .x).toI)), (.i .i64 (((t7.getD t9.toNat .x).cells.getD 4 .x).toI)), (.s (((t7.getD t9.toNat .x).cells.getD 5 .x).toS)), (.s (((t7.getD t9.toNat .x).cells.getD 6 .x).toS)), (.i .i64 (((t7.getD t9.toNat .x).cells.getD 7 .x).toI)), (.i .i64 (((t7.getD t9.toNat .x).cells.getD 8 .x).toI)), (.i .i64 (((t7.getD t9.toNat .x).cells.getD 9 .x).toI))])] []) fun a1 =>
 cond ((!a1.toB) == false)
 (cond ((decide (r0_0 ≤ (((t7.getD t9.toNat .x).cells.getD 0 .x).toI))) == false)
 (cond ((decide (r0_2 < (((t7.getD t9.toNat .x).cells.getD 8 .x).toI))) == false)
 (if 0 ≤ (0 : Int) ∧ (0 : Int) ≤ t9 ∧ t9 ≤ ((r0_3.length : Nat) : Int) then
 bSh .b (den E 94 [(.imm 10 (r0_3.take t9.toNat)), (.fn 129 [(.ip (.agg [(.i .i64 (((t7.getD t9.toNat .x).cells.getD 0 .x).toI)), (.i .i64 (((t7.getD t9.toNat .x).cells.getD 1 .x).toI)), (.i .i64 (((t7.getD t9.toNat .x).cells.getD 2 .x).toI)), (.i .i64 (((t7.getD t9.toNat .x).cells.getD 3 .x).toI)), (.i .i64 (((t7.getD t9.toNat .x).cells.getD 4 .x).toI)), (.s (((t7.getD t9.toNat .x).cells.getD 5 .x).toS)), (.s (((t7.getD t9.toNat .x).cells.getD 6 .x).toS)), (.i .i64 (((t7.getD t9.toNat .x).cells.getD 7 .x).toI)), (.i .i64 (((t7.getD t9.toNat .x).cells.getD 8 .x).toI)), (.i .i64 (((t7.getD t9.toNat .x).cells.getD 9 .x).toI))]) 0)])] []) fun a2 =>
 cond a2.toB
 (some (.b false))
 (cond (decide (t9 = (0 : Int)))
 (f110_j2 t7 t8 t9 r0_0 r0_1 r0_2 r0_3)
 (if 0 ≤ (IntKind.i64.wrap (t9 - (1 : Int))) ∧ (IntKind.i64.wrap (t9 - (1 : Int))) < ((r0_3.length : Nat) : Int) then
 if okCells false (r0_3.getD (IntKind.i64.wrap (t9 - (1 : Int))).toNat .x) 0 [(.i .i64), (.i .i64), (.i .i64), (.i .i64), (.i .i64), .s, .s, (.i .i64), (.i .i64), (.i .i64)] = true then
 bSh (.i .i64) (den E 130 [(.agg [(.i .i64 (((r0_3.getD (IntKind.i64.wrap (t9 - (1 : Int))).toNat .x).cells.getD 0 .x).toI)), (.i .i64 (((r0_3.getD (IntKind.i64.wrap (t9 - (1 : Int))).toNat .x).cells.getD 1 .x).toI)), (.i .i64 (((r0_3.getD (IntKind.i64.wrap (t9 - (1 : Int))).toNat .x).cells.getD 2 .x).toI)), (.i .i64 (((r0_3.getD (IntKind.i64.wrap (t9 - (1 : Int))).toNat .x).cells.getD 3 .x).toI)), (.i .i64 (((r0_3.getD (IntKind.i64.wrap (t9 - (1 : Int))).toNat .x).cells.getD 4 .x).toI)), (.s (((r0_3.getD (IntKind.i64.wrap (t9 - (1 : Int))).toNat .x).cells.getD 5 .x).toS)), (.s (((r0_3.getD (IntKind.i64.wrap (t9 - (1 : Int))).toNat .x).cells.getD 6 .x).toS)), (.i .i64 (((r0_3.getD (IntKind.i64.wrap (t9 - (1 : Int))).toNat .x).cells.getD 7 .x).toI)), (.i .i64 (((r0_3.getD (IntKind.i64.wrap (t9 - (1 : Int))).toNat .x).cells.getD 8 .x).toI)), (.i .i64 (((r0_3.getD (IntKind.i64.wrap (t9 - (1 : Int))).toNat .x).cells.getD 9 .x).toI))]), (.agg [(.i .i64 (((t7.getD t9.toNat .x).cells.getD 0 .x).toI)), (.i .i64 (((t7.getD t9.toNat .x).cells.getD 1 .x).toI)), (.i .i64 (((t7.getD t9.toNat .x).cells.getD 2 .x).toI)), (.i .i64 (((t7.getD t9.toNat .x).cells.getD 3 .x).toI)), (.i .i64 (((t7.getD t9.toNat .x).cells.getD 4 .x).toI)), (.s (((t7.getD t9.toNat .x).cells.getD 5 .x).toS)), (.s (((t7.getD t9.toNat .x).cells.getD 6 .x).toS)), (.i .i64 (((t7.getD t9.toNat .x).cells.getD 7 .x).toI)), (.i .i64 (((t7.getD t9.toNat .x).cells.getD 8 .x).toI)), (.i .i64 (((t7.getD t9.toNat .x).cells.getD 9 .x).toI))])] []) fun a3 =>
 cond ((decide ((0 : Int) ≤ a3.toI)) == false)
 (cond ((decide ((0 : Int) < (((t7.getD t9.toNat .x).cells.getD 1 .x).toI))) == true)
 (cond ((decide ((((r0_3.getD (IntKind.i64.wrap (t9 - (1 : Int))).toNat .x).cells.getD 1 .x).toI) = (((t7.getD t9.toNat .x).cells.getD 1 .x).toI))) == true)
 (cond (!(lessS (((r0_3.getD (IntKind.i64.wrap (t9 - (1 : Int))).toNat .x).cells.getD 6 .x).toS) (((t7.getD t9.toNat .x).cells.getD 5 .x).toS) || decide ((((r0_3.getD (IntKind.i64.wrap (t9 - (1 : Int))).toNat .x).cells.getD 6 .x).toS) = (((t7.getD t9.toNat .x).cells.getD 5 .x).toS))))
 (some (.b false))
 (f110_j2 t7 t8 t9 r0_0 r0_1 r0_2 r0_3))
 (f110_j2 t7 t8 t9 r0_0 r0_1 r0_2 r0_3))
 (f110_j2 t7 t8 t9 r0_0 r0_1 r0_2 r0_3))
 (some (.b false))
 else none
 else none))
 else none)
 (some (.b false)))
 (some (.b false)))
 (some (.b false))
 else none
 else none)
 (some (.b (decide (((r0_3.length : Nat) : Int) ≤ (16 : Int))))) := (Lp_eq ..).trans (by kernel_rfl)
theorem f110_j2_eq (t7 : List AV) (t8 : Int) (t9 : Int) (r0_0 : Int) (r0_1 : Int) (r0_2 : Int) (r0_3 : List AV) : f110_j2 t7 t8 t9 r0_0 r0_1 r0_2 r0_3 =
 f110_l1 t7 t8 (IntKind.i64.wrap (t9 + (1 : Int))) r0_0 r0_1 r0_2 r0_3 := by kernel_rfl
/-! 75: loop.example/g00905/impl.ValidVersion -/
theorem f75_eq (x0_0 : Int) (x0_1 : Int) (x0_2 : Int) (x0_3 : List AV) : den E 75 [(.agg [(.i .i64 x0_0), (.i .i64 x0_1), (.i .i64 x0_2), (.imm 10 x0_3)])] [] =
 bSh .b (den E 56 [(.i .i64 x0_0), (.i .i64 (1 : Int)), (.i .i64 (1000000 : Int))] []) fun a1 =>
 cond (a1.toB == true)
 (bSh .b (den E 56 [(.i .i64 x0_1), (.i .i64 (0 : Int)), (.i .i64 (11 : Int))] []) fun a2 =>
 cond (a2.toB == true)
 (bSh .b (den E 56 [(.i .i64 x0_2), (.i .i64 (0 : Int)), (.i .i64 (1000000 : Int))] []) fun a3 =>
 cond (a3.toB == true)
 (bSh .b (den E 110 [(.agg [(.i .i64 x0_0), (.i .i64 x0_1), (.i .i64 x0_2), (.imm 10 x0_3)])] []) fun a4 =>
 some (.b a4.toB))
 (some (.b false)))
 (some (.b false)))
 (some (.b false)) := (den_eq ..).trans (by kernel_rfl)
/-! 39: loop.example/g00905/impl.allocOk -/
theorem f39_eq (x0_0 : Int) (x0_1 : Int) (x0_2 : Int) (x0_3 : List AV) (x0_4 : Int) (x0_5 : Int) (x0_6 : Bool) (x0_7 : Int) (x0_8 : List AV) (x1_0 : Int) (x1_1 : Int) (x1_2 : Int) (x1_3 : List AV) : den E 39 [(.agg [(.i .i64 x0_0), (.i .i64 x0_1), (.i .i64 x0_2), (.imm 4 x0_3), (.i .i64 x0_4), (.i .i64 x0_5), (.b x0_6), (.i .i64 x0_7), (.imm 6 x0_8)]), (.agg [(.i .i64 x1_0), (.i .i64 x1_1), (.i .i64 x1_2), (.imm 10 x1_3)])] [] =
 bSh .b (den E 74 [(.agg [(.i .i64 x0_0), (.i .i64 x0_1), (.i .i64 x0_2), (.imm 4 x0_3), (.i .i64 x0_4), (.i .i64 x0_5), (.b x0_6), (.i .i64 x0_7), (.imm 6 x0_8)])] []) fun a1 =>
 cond (a1.toB == true)
 (bSh .b (den E 75 [(.agg [(.i .i64 x1_0), (.i .i64 x1_1), (.i .i64 x1_2), (.imm 10 x1_3)])] []) fun a2 =>
 some (.b a2.toB))
 (some (.b false)) := (den_eq ..).trans (by kernel_rfl)
/-! 112: slices.Clone[[]loop.example/g00905/impl.TableRef,loop.example/g00905/impl.TableRef] -/
theorem f112_eq (x0 : List AV) : dno E 112 [(.imm 10 x0)] [] = if 10 = 10 ∧ x0.length * 96 ≤ room then some (.sl 0 [] none, [.live true false false 106 x0]) else none := (dno_eq ..).trans (by kernel_rfl)
/-! 113: (loop.example/g00905/impl.Version).in$1 -/
theorem f113q1_eq (x0_0 : Int) (x0_1 : Int) (x0_2 : Int) (x0_3 : Int) (x0_4 : Int) (x0_5 : ByteArray) (x0_6 : ByteArray) (x0_7 : Int) (x0_8 : Int) (x0_9 : Int) (x1 : AV) : den E 113 [(.agg [(.i .i64 x0_0), (.i .i64 x0_1), (.i .i64 x0_2), (.i .i64 x0_3), (.i .i64 x0_4), (.s x0_5), (.s x0_6), (.i .i64 x0_7), (.i .i64 x0_8), (.i .i64 x0_9)]), (.ip x1 0)] [] =
 if okCells false x1 0 [(.i .i64)] = true then
 some (.b (!decide (x0_2 = ((x1.cells.getD 0 .x).toI))))
 else none := (den_eq ..).trans (by kernel_rfl)
/-! 117: slices.IndexFunc[[]loop.example/g00905/impl.TableRef,loop.example/g00905/impl.TableRef] -/
noncomputable def f117q2_l1 (t0 : List AV) (t1_0 : AV) (t7 : Int) (t8 : Int) : Option AV := Lp E fi117 [true, false, true, false] (mkT 19 [(0, (.imm 10 t0)), (1, (.fn 113 [(.ip t1_0 0)])), (7, (.i .i64 t7)), (8, (.i .i64 t8))]) []
theorem f117q2_eq (x0 : List AV) (x1_0 : AV) : den E 117 [(.imm 10 x0), (.fn 113 [(.ip x1_0 0)])] [] =
 f117q2_l1 x0 x1_0 ((x0.length : Nat) : Int) (0 : Int) := (den_eq ..).trans (by kernel_rfl)
theorem f117q2_l1_eq (t0 : List AV) (t1_0 : AV) (t7 : Int) (t8 : Int) : f117q2_l1 t0 t1_0 t7 t8 =
 cond (decide (t8 < t7))
 (if 0 ≤ t8 ∧ t8 < ((t0.length : Nat) : Int) then
 if okCells false (t0.getD t8.toNat .x) 0 [(.i .i64), (.i .i64), (.i .i64), (.i .i64), (.i .i64), .s, .s, (.i .i64), (.i .i64), (.i .i64)] = true then
 bSh .b (den E 113 [(.agg [(.i .i64 (((t0.getD t8.toNat .x).cells.getD 0 .x).toI)), (.i .i64 (((t0.getD t8.toNat .x).cells.getD 1 .x).toI)), (.i .i64 (((t0.getD t8.toNat .x).cells.getD 2 .x).toI)), (.i .i64 (((t0.getD t8.toNat .x).cells.getD 3 .x).toI)), (.i .i64 (((t0.getD t8.toNat .x).cells.getD 4 .x).toI)), (.s (((t0.getD t8.toNat .x).cells.getD 5 .x).toS)), (.s (((t0.getD t8.toNat .x).cells.getD 6 .x).toS)), (.i .i64 (((t0.getD t8.toNat .x).cells.getD 7 .x).toI)), (.i .i64 (((t0.getD t8.toNat .x).cells.getD 8 .x).toI)), (.i .i64 (((t0.getD t8.toNat .x).cells.getD 9 .x).toI))]), (.ip t1_0 0)] []) fun a1 =>
 cond a1.toB
 (some (.i .i64 t8))
 (f117q2_l1 t0 t1_0 t7 (IntKind.i64.wrap (t8 + (1 : Int))))
 else none
 else none)
 (some (.i .i64 (-1 : Int))) := (Lp_eq ..).trans (by kernel_rfl)
/-! 111: slices.DeleteFunc[[]loop.example/g00905/impl.TableRef,loop.example/g00905/impl.TableRef] -/
noncomputable def f111o1_l1 (t1_0 : AV) (t5 : Int) (t6 : Int) (r0 : List AV) : Option (AV × List Root) := LpO E fi111 [(5, [0, 1, 5, 6], 1), (6, [0, 1, 5, 6], 1)] 1 (.pr 0) [true, true, true, false, true, false] (mkT 42 [(0, (.sl 0 [] none)), (1, (.fn 113 [(.ip t1_0 0)])), (5, (.i .i64 t5)), (6, (.i .i64 t6))]) [(.live true false false 106 r0)]
noncomputable def f111o1_j2 (t1_0 : AV) (t5 : Int) (t6 : Int) (r0 : List AV) : Option (AV × List Root) := JnO E fi111 [(5, [0, 1, 5, 6], 1), (6, [0, 1, 5, 6], 1)] 1 (.pr 0) [true, true, true, false, true, false, false, true, true] (mkT 42 [(0, (.sl 0 [] none)), (1, (.fn 113 [(.ip t1_0 0)])), (5, (.i .i64 t5)), (6, (.i .i64 t6))]) [(.live true false false 106 r0)]
theorem f111o1_eq (x1_0 : AV) (s0 : List AV) : dno E 111 [(.sl 0 [] none), (.fn 113 [(.ip x1_0 0)])] [(.live true false false 106 s0)] =
 bSh (.i .i64) (den E 117 [(.imm 10 s0), (.fn 113 [(.ip x1_0 0)])] []) fun a1 =>
 cond (decide (a1.toI = (-1 : Int)))
 (some ((.sl 0 [] (some (0, s0.length))), [(.live true false false 106 s0)]))
 (f111o1_l1 x1_0 a1.toI (IntKind.i64.wrap (a1.toI + (1 : Int))) s0) := (dno_eq ..).trans (by kernel_rfl)
theorem f111o1_l1_eq (t1_0 : AV) (t5 : Int) (t6 : Int) (r0 : List AV) : f111o1_l1 t1_0 t5 t6 r0 =
 cond (decide (t6 < ((r0.length : Nat) : Int)))
 (if 0 ≤ t6 ∧ t6 < ((r0.length : Nat) : Int) then
 if okCells false (r0.getD (0 + t6.toNat) .x) 0 [(.i .i64), (.i .i64), (.i .i64), (.i .i64), (.i .i64), .s, .s, (.i .i64), (.i .i64), (.i .i64)] = true then
 bSh .b (den E 113 [(.agg [(.i .i64 (((r0.getD (0 + t6.toNat) .x).cells.getD 0 .x).toI)), (.i .i64 (((r0.getD (0 + t6.toNat) .x).cells.getD 1 .x).toI)), (.i .i64 (((r0.getD (0 + t6.toNat) .x).cells.getD 2 .x).toI)), (.i .i64 (((r0.getD (0 + t6.toNat) .x).cells.getD 3 .x).toI)), (.i .i64 (((r0.getD (0 + t6.toNat) .x).cells.getD 4 .x).toI)), (.s (((r0.getD (0 + t6.toNat) .x).cells.getD 5 .x).toS)), (.s (((r0.getD (0 + t6.toNat) .x).cells.getD 6 .x).toS)), (.i .i64 (((r0.getD (0 + t6.toNat) .x).cells.getD 7 .x).toI)), (.i .i64 (((r0.getD (0 + t6.toNat) .x).cells.getD 8 .x).toI)), (.i .i64 (((r0.getD (0 + t6.toNat) .x).cells.getD 9 .x).toI))]), (.ip t1_0 0)] []) fun a1 =>
 cond (!a1.toB)
 (if 0 ≤ t5 ∧ t5 < ((r0.length : Nat) : Int) then
 f111o1_j2 t1_0 (IntKind.i64.wrap (t5 + (1 : Int))) t6 (r0.set (0 + t5.toNat) ((r0.getD (0 + t5.toNat) .x).putCells 0 [(.i .i64 (((r0.getD (0 + t6.toNat) .x).cells.getD 0 .x).toI)), (.i .i64 (((r0.getD (0 + t6.toNat) .x).cells.getD 1 .x).toI)), (.i .i64 (((r0.getD (0 + t6.toNat) .x).cells.getD 2 .x).toI)), (.i .i64 (((r0.getD (0 + t6.toNat) .x).cells.getD 3 .x).toI)), (.i .i64 (((r0.getD (0 + t6.toNat) .x).cells.getD 4 .x).toI)), (.s (((r0.getD (0 + t6.toNat) .x).cells.getD 5 .x).toS)), (.s (((r0.getD (0 + t6.toNat) .x).cells.getD 6 .x).toS)), (.i .i64 (((r0.getD (0 + t6.toNat) .x).cells.getD 7 .x).toI)), (.i .i64 (((r0.getD (0 + t6.toNat) .x).cells.getD 8 .x).toI)), (.i .i64 (((r0.getD (0 + t6.toNat) .x).cells.getD 9 .x).toI))]))
 else none)
 (f111o1_j2 t1_0 t5 t6 r0)
 else none
 else none)
 (if 0 ≤ t5 ∧ t5 ≤ ((r0.length : Nat) : Int) ∧ ((r0.length : Nat) : Int) ≤ ((r0.length : Nat) : Int) then
 if 0 ≤ (0 : Int) ∧ (0 : Int) ≤ t5 ∧ t5 ≤ (((r0.take t5.toNat ++ List.replicate (((r0.length : Nat) : Int).toNat - t5.toNat) ((.agg [(.i .i64 (0 : Int)), (.i .i64 (0 : Int)), (.i .i64 (0 : Int)), (.i .i64 (0 : Int)), (.i .i64 (0 : Int)), (.s .empty), (.s .empty), (.i .i64 (0 : Int)), (.i .i64 (0 : Int)), (.i .i64 (0 : Int))]) : AV) ++ r0.drop (t5.toNat + (((r0.length : Nat) : Int).toNat - t5.toNat))).length : Nat) : Int) then
 some ((.sl 0 [] (some ((0 : Int).toNat, (t5.toNat - (0 : Int).toNat)))), [(.live true false false 106 (r0.take t5.toNat ++ List.replicate (((r0.length : Nat) : Int).toNat - t5.toNat) ((.agg [(.i .i64 (0 : Int)), (.i .i64 (0 : Int)), (.i .i64 (0 : Int)), (.i .i64 (0 : Int)), (.i .i64 (0 : Int)), (.s .empty), (.s .empty), (.i .i64 (0 : Int)), (.i .i64 (0 : Int)), (.i .i64 (0 : Int))]) : AV) ++ r0.drop (t5.toNat + (((r0.length : Nat) : Int).toNat - t5.toNat))))])
 else none
 else none) := (LpO_eq ..).trans (by kernel_rfl)
theorem f111o1_j2_eq (t1_0 : AV) (t5 : Int) (t6 : Int) (r0 : List AV) : f111o1_j2 t1_0 t5 t6 r0 =
 f111o1_l1 t1_0 t5 (IntKind.i64.wrap (t6 + (1 : Int))) r0 := by kernel_rfl
/-! 76: (loop.example/g00905/impl.Version).in -/
theorem f76_eq (x0_0 : Int) (x0_1 : Int) (x0_2 : Int) (x0_3 : List AV) (x1 : Int) : den E 76 [(.agg [(.i .i64 x0_0), (.i .i64 x0_1), (.i .i64 x0_2), (.imm 10 x0_3)]), (.i .i64 x1)] [] =
 bOwn (.so 0) [(.row true 106)] 0 (dno E 112 [(.imm 10 x0_3)] []) fun a1 =>
 bOwnFS (.pr 0) [(.same 106)] 1 [(.live true false false 106 ((a1.2.getD 0 .dead).row))] (dno E 111 [(.sl 0 [] none), (.fn 113 [(.ip (.i .i64 x1) 0)])] [(.live true false false 106 ((a1.2.getD 0 .dead).row))]) fun a2 =>
 some (.imm 10 ((((a2.2.getD 0 .dead).row).drop a2.1.off).take a2.1.cnt)) := (den_eq ..).trans (by kernel_rfl)
/-! 41: (*loop.example/g00905/impl.Device).role -/
theorem f41_eq (x0 : AV) (x1_0 : Int) (x1_1 : Int) (x1_2 : Int) (x1_3 : List AV) (x2 : Int) : den E 41 [(.ip x0 0), (.agg [(.i .i64 x1_0), (.i .i64 x1_1), (.i .i64 x1_2), (.imm 10 x1_3)]), (.i .i64 x2)] [] =
 cond (decide (x2 < (2 : Int)))
 (some (.i .i64 (1 : Int)))
 (if okCells false x0 8 [(.sl 101 6)] = true then
 if 0 ≤ x2 ∧ x2 < ((((x0.cells.getD 8 .x).toL).length : Nat) : Int) then
 if okCells false (((x0.cells.getD 8 .x).toL).getD x2.toNat .x) 0 [(.i .i64)] = true then
 cond (decide ((((((x0.cells.getD 8 .x).toL).getD x2.toNat .x).cells.getD 0 .x).toI) = (4 : Int)))
 (some (.i .i64 (6 : Int)))
 (cond (decide (x2 = x1_1))
 (some (.i .i64 (2 : Int)))
 (bSh (.sl 106 10) (den E 76 [(.agg [(.i .i64 x1_0), (.i .i64 x1_1), (.i .i64 x1_2), (.imm 10 x1_3)]), (.i .i64 x2)] []) fun a1 =>
 cond (decide ((0 : Int) < ((a1.toL.length : Nat) : Int)))
 (some (.i .i64 (3 : Int)))
 (if okCells false x0 8 [(.sl 101 6)] = true then
 if 0 ≤ x2 ∧ x2 < ((((x0.cells.getD 8 .x).toL).length : Nat) : Int) then
 if okCells false (((x0.cells.getD 8 .x).toL).getD x2.toNat .x) 0 [(.i .i64)] = true then
 cond (decide ((((((x0.cells.getD 8 .x).toL).getD x2.toNat .x).cells.getD 0 .x).toI) = (1 : Int)))
 (some (.i .i64 (4 : Int)))
 (some (.i .i64 (5 : Int)))
 else none
 else none
 else none)))
 else none
 else none
 else none) := (den_eq ..).trans (by kernel_rfl)
/-! 50: (*loop.example/g00905/impl.Device).zonesWith -/
noncomputable def f50_l1 (t0 : AV) (t2 : Int) (t13 : Int) (t14 : Int) (r0_0 : Int) (r0_1 : Int) (r0_2 : Int) (r0_3 : List AV) (r1 : List AV) (r2 : List AV) : Option AV := Lp E fi50 [true, true, false, true, false] (mkT 29 [(0, (.ip t0 0)), (2, (.i .i64 t2)), (4, (.pt 0 [] 0 0)), (7, (.sl 2 [] none)), (13, (.i .i64 t13)), (14, (.i .i64 t14))]) [(.live false true false 46 [(.agg [(.i .i64 r0_0), (.i .i64 r0_1), (.i .i64 r0_2), (.imm 10 r0_3)])]), (.live true false false 2 r1), (.live true false false 2 r2)]
noncomputable def f50_j2 (t0 : AV) (t2 : Int) (t13 : Int) (t14 : Int) (r0_0 : Int) (r0_1 : Int) (r0_2 : Int) (r0_3 : List AV) (r1 : List AV) (r2 : List AV) : Option AV := Jn E fi50 [true, true, false, true, false, false, true, true, true] (mkT 29 [(0, (.ip t0 0)), (2, (.i .i64 t2)), (4, (.pt 0 [] 0 0)), (7, (.sl 2 [] none)), (13, (.i .i64 t13)), (14, (.i .i64 t14))]) [(.live false true false 46 [(.agg [(.i .i64 r0_0), (.i .i64 r0_1), (.i .i64 r0_2), (.imm 10 r0_3)])]), (.live true false false 2 r1), (.live true false false 2 r2)]
theorem f50_eq (x0 : AV) (x1_0 : Int) (x1_1 : Int) (x1_2 : Int) (x1_3 : List AV) (x2 : Int) : den E 50 [(.ip x0 0), (.agg [(.i .i64 x1_0), (.i .i64 x1_1), (.i .i64 x1_2), (.imm 10 x1_3)]), (.i .i64 x2)] [] =
 if okCells false x0 8 [(.sl 101 6)] = true then
 f50_l1 x0 x2 ((((x0.cells.getD 8 .x).toL).length : Nat) : Int) (0 : Int) x1_0 x1_1 x1_2 x1_3 [] []
 else none := (den_eq ..).trans (by kernel_rfl)
theorem f50_l1_eq (t0 : AV) (t2 : Int) (t13 : Int) (t14 : Int) (r0_0 : Int) (r0_1 : Int) (r0_2 : Int) (r0_3 : List AV) (r1 : List AV) (r2 : List AV) : f50_l1 t0 t2 t13 t14 r0_0 r0_1 r0_2 r0_3 r1 r2 =
 cond (decide (t14 < t13))
 (bSh (.i .i64) (den E 41 [(.ip t0 0), (.agg [(.i .i64 r0_0), (.i .i64 r0_1), (.i .i64 r0_2), (.imm 10 r0_3)]), (.i .i64 t14)] []) fun a1 =>
 cond (decide (a1.toI = t2))
 (if (r2.length + ([(.i .i64 t14)] : List AV).length) * 8 ≤ room then
 f50_j2 t0 t2 t13 t14 r0_0 r0_1 r0_2 r0_3 r1 (r2 ++ [(.i .i64 t14)])
 else none)
 (f50_j2 t0 t2 t13 t14 r0_0 r0_1 r0_2 r0_3 r1 r2))
 (some (.imm 1 r2)) := (Lp_eq ..).trans (by kernel_rfl)
theorem f50_j2_eq (t0 : AV) (t2 : Int) (t13 : Int) (t14 : Int) (r0_0 : Int) (r0_1 : Int) (r0_2 : Int) (r0_3 : List AV) (r1 : List AV) (r2 : List AV) : f50_j2 t0 t2 t13 t14 r0_0 r0_1 r0_2 r0_3 r1 r2 =
 f50_l1 t0 t2 t13 (IntKind.i64.wrap (t14 + (1 : Int))) r0_0 r0_1 r0_2 r0_3 r1 r2 := by kernel_rfl
/-! 93: (*loop.example/g00905/impl.Device).roomIn -/
noncomputable def f93_j1 (t0 : AV) (r0_0 : Int) (r0_1 : List AV) (r0_2 : Int) (r0_3 : Int) (r0_4 : List AV) (r0_5 : List AV) : Option AV := Jn E fi93 [true, true, true] (mkT 38 [(0, (.ip t0 0)), (5, (.pt 0 [] 0 0))]) [(.live false true false 101 [(.agg [(.i .i64 r0_0), (.imm 1 r0_1), (.i .i64 r0_2), (.i .i64 r0_3), (.imm 1 r0_4), (.imm 1 r0_5)])])]
theorem f93_eq (x0 : AV) (x1 : Int) : den E 93 [(.ip x0 0), (.i .i64 x1)] [] =
 if okCells false x0 8 [(.sl 101 6)] = true then
 if 0 ≤ x1 ∧ x1 < ((((x0.cells.getD 8 .x).toL).length : Nat) : Int) then
 if okCells false (((x0.cells.getD 8 .x).toL).getD x1.toNat .x) 0 [(.i .i64), (.sl 2 1), (.i .i64), (.i .i64), (.sl 2 1), (.sl 9 1)] = true then
 cond ((!decide ((((((x0.cells.getD 8 .x).toL).getD x1.toNat .x).cells.getD 0 .x).toI) = (1 : Int))) == true)
 (cond (!decide ((((((x0.cells.getD 8 .x).toL).getD x1.toNat .x).cells.getD 0 .x).toI) = (2 : Int)))
 (some (.i .i64 (0 : Int)))
 (f93_j1 x0 (((((x0.cells.getD 8 .x).toL).getD x1.toNat .x).cells.getD 0 .x).toI) (((((x0.cells.getD 8 .x).toL).getD x1.toNat .x).cells.getD 1 .x).toL) (((((x0.cells.getD 8 .x).toL).getD x1.toNat .x).cells.getD 2 .x).toI) (((((x0.cells.getD 8 .x).toL).getD x1.toNat .x).cells.getD 3 .x).toI) (((((x0.cells.getD 8 .x).toL).getD x1.toNat .x).cells.getD 4 .x).toL) (((((x0.cells.getD 8 .x).toL).getD x1.toNat .x).cells.getD 5 .x).toL)))
 (f93_j1 x0 (((((x0.cells.getD 8 .x).toL).getD x1.toNat .x).cells.getD 0 .x).toI) (((((x0.cells.getD 8 .x).toL).getD x1.toNat .x).cells.getD 1 .x).toL) (((((x0.cells.getD 8 .x).toL).getD x1.toNat .x).cells.getD 2 .x).toI) (((((x0.cells.getD 8 .x).toL).getD x1.toNat .x).cells.getD 3 .x).toI) (((((x0.cells.getD 8 .x).toL).getD x1.toNat .x).cells.getD 4 .x).toL) (((((x0.cells.getD 8 .x).toL).getD x1.toNat .x).cells.getD 5 .x).toL))
 else none
 else none
 else none := (den_eq ..).trans (by kernel_rfl)
theorem f93_j1_eq (t0 : AV) (r0_0 : Int) (r0_1 : List AV) (r0_2 : Int) (r0_3 : Int) (r0_4 : List AV) (r0_5 : List AV) : f93_j1 t0 r0_0 r0_1 r0_2 r0_3 r0_4 r0_5 =
 if okCells false t0 2 [(.i .i64)] = true then
 bSh (.i .i64) (den E 116 [(.ip t0 0)] []) fun a1 =>
 some (.i .i64 (IntKind.i64.wrap ((IntKind.i64.wrap ((IntKind.i64.wrap (((t0.cells.getD 2 .x).toI) - ((r0_4.length : Nat) : Int))) * a1.toI)) - ((r0_5.length : Nat) : Int))))
 else none := by kernel_rfl
/-! 95: (*loop.example/g00905/impl.Device).place$1 -/
theorem f95q1_eq (x0_0 : Int) (x0_1 : Int) (x0_2 : Int) (x0_3 : Int) (x0_4 : Int) (x0_5 : ByteArray) (x0_6 : ByteArray) (x0_7 : Int) (x0_8 : Int) (x0_9 : Int) (x1 : AV) : den E 95 [(.agg [(.i .i64 x0_0), (.i .i64 x0_1), (.i .i64 x0_2), (.i .i64 x0_3), (.i .i64 x0_4), (.s x0_5), (.s x0_6), (.i .i64 x0_7), (.i .i64 x0_8), (.i .i64 x0_9)]), (.ip x1 0)] [] =
 if okCells false x1 0 [(.i .i64)] = true then
 some (.b (!decide (x0_1 = ((x1.cells.getD 0 .x).toI))))
 else none := (den_eq ..).trans (by kernel_rfl)
/-! 117: slices.IndexFunc[[]loop.example/g00905/impl.TableRef,loop.example/g00905/impl.TableRef] -/
noncomputable def f117q3_l1 (t0 : List AV) (t1_0 : AV) (t7 : Int) (t8 : Int) : Option AV := Lp E fi117 [true, false, true, false] (mkT 19 [(0, (.imm 10 t0)), (1, (.fn 95 [(.ip t1_0 0)])), (7, (.i .i64 t7)), (8, (.i .i64 t8))]) []
theorem f117q3_eq (x0 : List AV) (x1_0 : AV) : den E 117 [(.imm 10 x0), (.fn 95 [(.ip x1_0 0)])] [] =
 f117q3_l1 x0 x1_0 ((x0.length : Nat) : Int) (0 : Int) := (den_eq ..).trans (by kernel_rfl)
theorem f117q3_l1_eq (t0 : List AV) (t1_0 : AV) (t7 : Int) (t8 : Int) : f117q3_l1 t0 t1_0 t7 t8 =
 cond (decide (t8 < t7))
 (if 0 ≤ t8 ∧ t8 < ((t0.length : Nat) : Int) then
 if okCells false (t0.getD t8.toNat .x) 0 [(.i .i64), (.i .i64), (.i .i64), (.i .i64), (.i .i64), .s, .s, (.i .i64), (.i .i64), (.i .i64)] = true then
 bSh .b (den E 95 [(.agg [(.i .i64 (((t0.getD t8.toNat .x).cells.getD 0 .x).toI)), (.i .i64 (((t0.getD t8.toNat .x).cells.getD 1 .x).toI)), (.i .i64 (((t0.getD t8.toNat .x).cells.getD 2 .x).toI)), (.i .i64 (((t0.getD t8.toNat .x).cells.getD 3 .x).toI)), (.i .i64 (((t0.getD t8.toNat .x).cells.getD 4 .x).toI)), (.s (((t0.getD t8.toNat .x).cells.getD 5 .x).toS)), (.s (((t0.getD t8.toNat .x).cells.getD 6 .x).toS)), (.i .i64 (((t0.getD t8.toNat .x).cells.getD 7 .x).toI)), (.i .i64 (((t0.getD t8.toNat .x).cells.getD 8 .x).toI)), (.i .i64 (((t0.getD t8.toNat .x).cells.getD 9 .x).toI))]), (.ip t1_0 0)] []) fun a1 =>
 cond a1.toB
 (some (.i .i64 t8))
 (f117q3_l1 t0 t1_0 t7 (IntKind.i64.wrap (t8 + (1 : Int))))
 else none
 else none)
 (some (.i .i64 (-1 : Int))) := (Lp_eq ..).trans (by kernel_rfl)
/-! 94: slices.ContainsFunc[[]loop.example/g00905/impl.TableRef,loop.example/g00905/impl.TableRef] -/
theorem f94q2_eq (x0 : List AV) (x1_0 : AV) : den E 94 [(.imm 10 x0), (.fn 95 [(.ip x1_0 0)])] [] =
 bSh (.i .i64) (den E 117 [(.imm 10 x0), (.fn 95 [(.ip x1_0 0)])] []) fun a1 =>
 some (.b (decide ((0 : Int) ≤ a1.toI))) := (den_eq ..).trans (by kernel_rfl)
/-! 96: (*loop.example/g00905/impl.Device).capacity -/
theorem f96_eq (x0 : AV) : den E 96 [(.ip x0 0)] [] =
 bSh (.i .i64) (den E 116 [(.ip x0 0)] []) fun a1 =>
 if okCells false x0 2 [(.i .i64)] = true then
 some (.i .i64 (IntKind.i64.wrap (a1.toI * ((x0.cells.getD 2 .x).toI))))
 else none := (den_eq ..).trans (by kernel_rfl)
/-! 86: (*loop.example/g00905/impl.Device).wearOf -/
noncomputable def f86_l1 (t0 : AV) (t5 : Int) (t15 : List AV) (t16 : Int) (t17 : Int) : Option AV := Lp E fi86 [true, true, false, true, false] (mkT 34 [(0, (.ip t0 0)), (5, (.i .i64 t5)), (15, (.imm 1 t15)), (16, (.i .i64 t16)), (17, (.i .i64 t17))]) []
theorem f86_eq (x0 : AV) (x1 : Int) : den E 86 [(.ip x0 0), (.i .i64 x1)] [] =
 if okCells false x0 8 [(.sl 101 6)] = true then
 if 0 ≤ x1 ∧ x1 < ((((x0.cells.getD 8 .x).toL).length : Nat) : Int) then
 if okCells false (((x0.cells.getD 8 .x).toL).getD x1.toNat .x) 1 [(.sl 2 1)] = true then
 f86_l1 x0 (0 : Int) (((((x0.cells.getD 8 .x).toL).getD x1.toNat .x).cells.getD 1 .x).toL) (((((((x0.cells.getD 8 .x).toL).getD x1.toNat .x).cells.getD 1 .x).toL).length : Nat) : Int) (0 : Int)
 else none
 else none
 else none := (den_eq ..).trans (by kernel_rfl)
theorem f86_l1_eq (t0 : AV) (t5 : Int) (t15 : List AV) (t16 : Int) (t17 : Int) : f86_l1 t0 t5 t15 t16 t17 =
 cond (decide (t17 < t16))
 (if 0 ≤ t17 ∧ t17 < ((t15.length : Nat) : Int) then
 if okCells false (t15.getD t17.toNat .x) 0 [(.i .i64)] = true then
 if okCells false t0 3 [(.sl 138 4)] = true then
 if 0 ≤ (((t15.getD t17.toNat .x).cells.getD 0 .x).toI) ∧ (((t15.getD t17.toNat .x).cells.getD 0 .x).toI) < ((((t0.cells.getD 3 .x).toL).length : Nat) : Int) then
 if okCells false (((t0.cells.getD 3 .x).toL).getD (((t15.getD t17.toNat .x).cells.getD 0 .x).toI).toNat .x) 0 [(.i .i64)] = true then
 f86_l1 t0 (IntKind.i64.wrap (t5 + (((((t0.cells.getD 3 .x).toL).getD (((t15.getD t17.toNat .x).cells.getD 0 .x).toI).toNat .x).cells.getD 0 .x).toI))) t15 t16 (IntKind.i64.wrap (t17 + (1 : Int)))
 else none
 else none
 else none
 else none
 else none)
 (some (.i .i64 t5)) := (Lp_eq ..).trans (by kernel_rfl)
/-! 85: (*loop.example/g00905/impl.Device).fresh$1 -/
theorem f85q1_eq (x0 : Int) (x1 : Int) (x2 : AV) : den E 85 [(.i .i64 x0), (.i .i64 x1), (.ip (.ip x2 0) 0)] [] =
 bSh (.i .i64) (den E 86 [(.ip x2 0), (.i .i64 x0)] []) fun a1 =>
 bSh (.i .i64) (den E 86 [(.ip x2 0), (.i .i64 x1)] []) fun a2 =>
 some (.i .i64 (IntKind.i64.wrap (a1.toI - a2.toI))) := (den_eq ..).trans (by kernel_rfl)
/-! 84: slices.MinFunc[[]int64,int64] -/
noncomputable def f84q1_l1 (t0 : List AV) (t1_0 : AV) (t5 : Int) (t6 : Int) : Option AV := Lp E fi84 [true, true, true, false, true, false] (mkT 33 [(0, (.imm 1 t0)), (1, (.fn 85 [(.ip (.ip t1_0 0) 0)])), (5, (.i .i64 t5)), (6, (.i .i64 t6))]) []
noncomputable def f84q1_j2 (t0 : List AV) (t1_0 : AV) (t5 : Int) (t6 : Int) : Option AV := Jn E fi84 [true, true, true, false, true, false, false, true, true] (mkT 33 [(0, (.imm 1 t0)), (1, (.fn 85 [(.ip (.ip t1_0 0) 0)])), (5, (.i .i64 t5)), (6, (.i .i64 t6))]) []
theorem f84q1_eq (x0 : List AV) (x1_0 : AV) : den E 84 [(.imm 1 x0), (.fn 85 [(.ip (.ip x1_0 0) 0)])] [] =
 cond (decide (((x0.length : Nat) : Int) < (1 : Int)))
 (none)
 (if 0 ≤ (0 : Int) ∧ (0 : Int) < ((x0.length : Nat) : Int) then
 if okCells false (x0.getD (0 : Int).toNat .x) 0 [(.i .i64)] = true then
 f84q1_l1 x0 x1_0 (((x0.getD (0 : Int).toNat .x).cells.getD 0 .x).toI) (1 : Int)
 else none
 else none) := (den_eq ..).trans (by kernel_rfl)
theorem f84q1_l1_eq (t0 : List AV) (t1_0 : AV) (t5 : Int) (t6 : Int) : f84q1_l1 t0 t1_0 t5 t6 =
 cond (decide (t6 < ((t0.length : Nat) : Int)))
 (if 0 ≤ t6 ∧ t6 < ((t0.length : Nat) : Int) then
 if okCells false (t0.getD t6.toNat .x) 0 [(.i .i64)] = true then
 bSh (.i .i64) (den E 85 [(.i .i64 (((t0.getD t6.toNat .x).cells.getD 0 .x).toI)), (.i .i64 t5), (.ip (.ip t1_0 0) 0)] []) fun a1 =>
 cond (decide (a1.toI < (0 : Int)))
 (if 0 ≤ t6 ∧ t6 < ((t0.length : Nat) : Int) then
 if okCells false (t0.getD t6.toNat .x) 0 [(.i .i64)] = true then
 f84q1_j2 t0 t1_0 (((t0.getD t6.toNat .x).cells.getD 0 .x).toI) t6
 else none
 else none)
 (f84q1_j2 t0 t1_0 t5 t6)
 else none
 else none)
 (some (.i .i64 t5)) := (Lp_eq ..).trans (by kernel_rfl)
theorem f84q1_j2_eq (t0 : List AV) (t1_0 : AV) (t5 : Int) (t6 : Int) : f84q1_j2 t0 t1_0 t5 t6 =
 f84q1_l1 t0 t1_0 t5 (IntKind.i64.wrap (t6 + (1 : Int))) := by kernel_rfl
/-! 48: (*loop.example/g00905/impl.Device).fresh -/
theorem f48_eq (x0 : AV) (x1_0 : Int) (x1_1 : Int) (x1_2 : Int) (x1_3 : List AV) : den E 48 [(.ip x0 0), (.agg [(.i .i64 x1_0), (.i .i64 x1_1), (.i .i64 x1_2), (.imm 10 x1_3)])] [] =
 bSh (.sl 2 1) (den E 50 [(.ip x0 0), (.agg [(.i .i64 x1_0), (.i .i64 x1_1), (.i .i64 x1_2), (.imm 10 x1_3)]), (.i .i64 (4 : Int))] []) fun a1 =>
 cond (decide (((a1.toL.length : Nat) : Int) = (0 : Int)))
 (some (.tup [(.i .i64 (0 : Int)), (.b false)]))
 (bSh (.i .i64) (den E 84 [(.imm 1 a1.toL), (.fn 85 [(.ip (.ip x0 0) 0)])] []) fun a2 =>
 some (.tup [(.i .i64 a2.toI), (.b true)])) := (den_eq ..).trans (by kernel_rfl)
/-! 57: (*loop.example/g00905/impl.Device).place -/
noncomputable def f57_l1 (t0 : AV) (t3 : Int) (t14 : List AV) (t15 : Int) (t16 : Int) (r0_0 : Int) (r0_1 : Int) (r0_2 : Int) (r0_3 : List AV) (r1 : Int) : Option AV := Lp E fi57 [true, false, true, false] (mkT 51 [(0, (.ip t0 0)), (3, (.i .i64 t3)), (5, (.pt 0 [] 0 0)), (6, (.pt 1 [] 0 0)), (14, (.imm 1 t14)), (15, (.i .i64 t15)), (16, (.i .i64 t16))]) [(.live false true false 46 [(.agg [(.i .i64 r0_0), (.i .i64 r0_1), (.i .i64 r0_2), (.imm 10 r0_3)])]), (.live false true false 2 [(.i .i64 r1)])]
noncomputable def f57_j2 (t0 : AV) (t3 : Int) (t14 : List AV) (t15 : Int) (t16 : Int) (r0_0 : Int) (r0_1 : Int) (r0_2 : Int) (r0_3 : List AV) (r1 : Int) : Option AV := Jn E fi57 [true, false, true, false, false, true, true, true] (mkT 51 [(0, (.ip t0 0)), (3, (.i .i64 t3)), (5, (.pt 0 [] 0 0)), (6, (.pt 1 [] 0 0)), (14, (.imm 1 t14)), (15, (.i .i64 t15)), (16, (.i .i64 t16))]) [(.live false true false 46 [(.agg [(.i .i64 r0_0), (.i .i64 r0_1), (.i .i64 r0_2), (.imm 10 r0_3)])]), (.live false true false 2 [(.i .i64 r1)])]
theorem f57_eq (x0 : AV) (x1_0 : Int) (x1_1 : Int) (x1_2 : Int) (x1_3 : List AV) (x2 : Int) (x3 : Int) : den E 57 [(.ip x0 0), (.agg [(.i .i64 x1_0), (.i .i64 x1_1), (.i .i64 x1_2), (.imm 10 x1_3)]), (.i .i64 x2), (.i .i64 x3)] [] =
 bSh (.sl 2 1) (den E 50 [(.ip x0 0), (.agg [(.i .i64 x1_0), (.i .i64 x1_1), (.i .i64 x1_2), (.imm 10 x1_3)]), (.i .i64 (3 : Int))] []) fun a1 =>
 f57_l1 x0 x3 a1.toL ((a1.toL.length : Nat) : Int) (0 : Int) x1_0 x1_1 x1_2 x1_3 x2 := (den_eq ..).trans (by kernel_rfl)
theorem f57_l1_eq (t0 : AV) (t3 : Int) (t14 : List AV) (t15 : Int) (t16 : Int) (r0_0 : Int) (r0_1 : Int) (r0_2 : Int) (r0_3 : List AV) (r1 : Int) : f57_l1 t0 t3 t14 t15 t16 r0_0 r0_1 r0_2 r0_3 r1 =
 cond (decide (t16 < t15))
 (if 0 ≤ t16 ∧ t16 < ((t14.length : Nat) : Int) then
 if okCells false (t14.getD t16.toNat .x) 0 [(.i .i64)] = true then
 bSh (.i .i64) (den E 93 [(.ip t0 0), (.i .i64 (((t14.getD t16.toNat .x).cells.getD 0 .x).toI))] []) fun a1 =>
 cond ((decide (t3 ≤ a1.toI)) == true)
 (bSh (.sl 106 10) (den E 76 [(.agg [(.i .i64 r0_0), (.i .i64 r0_1), (.i .i64 r0_2), (.imm 10 r0_3)]), (.i .i64 (((t14.getD t16.toNat .x).cells.getD 0 .x).toI))] []) fun a2 =>
 bSh .b (den E 94 [(.imm 10 a2.toL), (.fn 95 [(.ip (.i .i64 r1) 0)])] []) fun a3 =>
 cond (!a3.toB)
 (some (.tup [(.i .i64 (((t14.getD t16.toNat .x).cells.getD 0 .x).toI)), (.b true)]))
 (f57_j2 t0 t3 t14 t15 t16 r0_0 r0_1 r0_2 r0_3 r1))
 (f57_j2 t0 t3 t14 t15 t16 r0_0 r0_1 r0_2 r0_3 r1)
 else none
 else none)
 (bSh (.sl 2 1) (den E 50 [(.ip t0 0), (.agg [(.i .i64 r0_0), (.i .i64 r0_1), (.i .i64 r0_2), (.imm 10 r0_3)]), (.i .i64 (4 : Int))] []) fun a4 =>
 cond ((decide (((a4.toL.length : Nat) : Int) < (2 : Int))) == false)
 (bSh (.i .i64) (den E 96 [(.ip t0 0)] []) fun a5 =>
 cond (decide (a5.toI < t3))
 (some (.tup [(.i .i64 (0 : Int)), (.b false)]))
 (bSh (.tup [(.i .i64), .b]) (den E 48 [(.ip t0 0), (.agg [(.i .i64 r0_0), (.i .i64 r0_1), (.i .i64 r0_2), (.imm 10 r0_3)])] []) fun a6 =>
 some (.tup [(.i .i64 ((a6.nth 0).toI)), (.b ((a6.nth 1).toB))])))
 (some (.tup [(.i .i64 (0 : Int)), (.b false)]))) := (Lp_eq ..).trans (by kernel_rfl)
theorem f57_j2_eq (t0 : AV) (t3 : Int) (t14 : List AV) (t15 : Int) (t16 : Int) (r0_0 : Int) (r0_1 : Int) (r0_2 : Int) (r0_3 : List AV) (r1 : Int) : f57_j2 t0 t3 t14 t15 t16 r0_0 r0_1 r0_2 r0_3 r1 =
 f57_l1 t0 t3 t14 t15 (IntKind.i64.wrap (t16 + (1 : Int))) r0_0 r0_1 r0_2 r0_3 r1 := by kernel_rfl
/-! 28: loop.example/g00905/impl.PlaceTable -/
theorem f28_eq (x0_0 : Int) (x0_1 : Int) (x0_2 : Int) (x0_3 : List AV) (x0_4 : Int) (x0_5 : Int) (x0_6 : Bool) (x0_7 : Int) (x0_8 : List AV) (x1_0 : Int) (x1_1 : Int) (x1_2 : Int) (x1_3 : List AV) (x2 : Int) (x3 : Int) : den E 28 [(.agg [(.i .i64 x0_0), (.i .i64 x0_1), (.i .i64 x0_2), (.imm 4 x0_3), (.i .i64 x0_4), (.i .i64 x0_5), (.b x0_6), (.i .i64 x0_7), (.imm 6 x0_8)]), (.agg [(.i .i64 x1_0), (.i .i64 x1_1), (.i .i64 x1_2), (.imm 10 x1_3)]), (.i .i64 x2), (.i .i64 x3)] [] =
 bSh .b (den E 39 [(.agg [(.i .i64 x0_0), (.i .i64 x0_1), (.i .i64 x0_2), (.imm 4 x0_3), (.i .i64 x0_4), (.i .i64 x0_5), (.b x0_6), (.i .i64 x0_7), (.imm 6 x0_8)]), (.agg [(.i .i64 x1_0), (.i .i64 x1_1), (.i .i64 x1_2), (.imm 10 x1_3)])] []) fun a1 =>
 cond (!a1.toB)
 (some (.tup [(.i .i64 (0 : Int)), (.i .i64 (1 : Int))]))
 (bSh .b (den E 56 [(.i .i64 x2), (.i .i64 (0 : Int)), (.i .i64 (2 : Int))] []) fun a2 =>
 cond ((!a2.toB) == false)
 (cond (decide (x3 < (1 : Int)))
 (some (.tup [(.i .i64 (0 : Int)), (.i .i64 (2 : Int))]))
 (bSh (.tup [(.i .i64), .b]) (den E 57 [(.ip (.agg [(.i .i64 x0_0), (.i .i64 x0_1), (.i .i64 x0_2), (.imm 4 x0_3), (.i .i64 x0_4), (.i .i64 x0_5), (.b x0_6), (.i .i64 x0_7), (.imm 6 x0_8)]) 0), (.agg [(.i .i64 x1_0), (.i .i64 x1_1), (.i .i64 x1_2), (.imm 10 x1_3)]), (.i .i64 x2), (.i .i64 x3)] []) fun a3 =>
 cond (!((a3.nth 1).toB))
 (some (.tup [(.i .i64 (0 : Int)), (.i .i64 (4 : Int))]))
 (some (.tup [(.i .i64 ((a3.nth 0).toI)), (.i .i64 (0 : Int))]))))
 (some (.tup [(.i .i64 (0 : Int)), (.i .i64 (2 : Int))]))) := (den_eq ..).trans (by kernel_rfl)
/-! 77: loop.example/g00905/laws.eqGeometry -/
theorem f77_eq (x0_0 : Int) (x0_1 : Int) (x0_2 : Int) (x1_0 : Int) (x1_1 : Int) (x1_2 : Int) : den E 77 [(.agg [(.i .i64 x0_0), (.i .i64 x0_1), (.i .i64 x0_2)]), (.agg [(.i .i64 x1_0), (.i .i64 x1_1), (.i .i64 x1_2)])] [] =
 cond (!decide (x0_0 = x1_0))
 (some (.b false))
 (cond (!decide (x0_1 = x1_1))
 (some (.b false))
 (cond (!decide (x0_2 = x1_2))
 (some (.b false))
 (some (.b true)))) := (den_eq ..).trans (by kernel_rfl)
/-! 115: loop.example/g00905/laws.eqStringS -/
noncomputable def f115_l1 (t0 : List AV) (t1 : List AV) (t5 : Int) : Option AV := Lp E fi115 [true, true, false, true, false] (mkT 26 [(0, (.imm 1 t0)), (1, (.imm 1 t1)), (5, (.i .i64 t5))]) []
theorem f115_eq (x0 : List AV) (x1 : List AV) : den E 115 [(.imm 1 x0), (.imm 1 x1)] [] =
 cond (!decide (((x0.length : Nat) : Int) = ((x1.length : Nat) : Int)))
 (some (.b false))
 (f115_l1 x0 x1 (0 : Int)) := (den_eq ..).trans (by kernel_rfl)
theorem f115_l1_eq (t0 : List AV) (t1 : List AV) (t5 : Int) : f115_l1 t0 t1 t5 =
 cond (decide (t5 < ((t0.length : Nat) : Int)))
 (if 0 ≤ t5 ∧ t5 < ((t0.length : Nat) : Int) then
 if okCells false (t0.getD t5.toNat .x) 0 [.s] = true then
 if 0 ≤ t5 ∧ t5 < ((t1.length : Nat) : Int) then
 if okCells false (t1.getD t5.toNat .x) 0 [.s] = true then
 cond (!decide ((((t0.getD t5.toNat .x).cells.getD 0 .x).toS) = (((t1.getD t5.toNat .x).cells.getD 0 .x).toS)))
 (some (.b false))
 (f115_l1 t0 t1 (IntKind.i64.wrap (t5 + (1 : Int))))
 else none
 else none
 else none
 else none)
 (some (.b true)) := (Lp_eq ..).trans (by kernel_rfl)
/-! 114: loop.example/g00905/laws.eqBlock -/
theorem f114_eq (x0_0 : Int) (x0_1 : Int) (x0_2 : Bool) (x0_3 : List AV) (x1_0 : Int) (x1_1 : Int) (x1_2 : Bool) (x1_3 : List AV) : den E 114 [(.agg [(.i .i64 x0_0), (.i .i64 x0_1), (.b x0_2), (.imm 1 x0_3)]), (.agg [(.i .i64 x1_0), (.i .i64 x1_1), (.b x1_2), (.imm 1 x1_3)])] [] =
 cond (!decide (x0_0 = x1_0))
 (some (.b false))
 (cond (!decide (x0_1 = x1_1))
 (some (.b false))
 (cond (!decide (x0_2 = x1_2))
 (some (.b false))
 (bSh .b (den E 115 [(.imm 1 x0_3), (.imm 1 x1_3)] []) fun a1 =>
 cond (!a1.toB)
 (some (.b false))
 (some (.b true))))) := (den_eq ..).trans (by kernel_rfl)
/-! 78: loop.example/g00905/laws.eqBlockS -/
noncomputable def f78_l1 (t0 : List AV) (t1 : List AV) (t5 : Int) : Option AV := Lp E fi78 [true, true, false, true, false] (mkT 27 [(0, (.imm 4 t0)), (1, (.imm 4 t1)), (5, (.i .i64 t5))]) []
theorem f78_eq (x0 : List AV) (x1 : List AV) : den E 78 [(.imm 4 x0), (.imm 4 x1)] [] =
 cond (!decide (((x0.length : Nat) : Int) = ((x1.length : Nat) : Int)))
 (some (.b false))
 (f78_l1 x0 x1 (0 : Int)) := (den_eq ..).trans (by kernel_rfl)
theorem f78_l1_eq (t0 : List AV) (t1 : List AV) (t5 : Int) : f78_l1 t0 t1 t5 =
 cond (decide (t5 < ((t0.length : Nat) : Int)))
 (if 0 ≤ t5 ∧ t5 < ((t0.length : Nat) : Int) then
 if okCells false (t0.getD t5.toNat .x) 0 [(.i .i64), (.i .i64), .b, (.sl 9 1)] = true then
 if 0 ≤ t5 ∧ t5 < ((t1.length : Nat) : Int) then
 if okCells false (t1.getD t5.toNat .x) 0 [(.i .i64), (.i .i64), .b, (.sl 9 1)] = true then
 bSh .b (den E 114 [(.agg [(.i .i64 (((t0.getD t5.toNat .x).cells.getD 0 .x).toI)), (.i .i64 (((t0.getD t5.toNat .x).cells.getD 1 .x).toI)), (.b (((t0.getD t5.toNat .x).cells.getD 2 .x).toB)), (.imm 1 (((t0.getD t5.toNat .x).cells.getD 3 .x).toL))]), (.agg [(.i .i64 (((t1.getD t5.toNat .x).cells.getD 0 .x).toI)), (.i .i64 (((t1.getD t5.toNat .x).cells.getD 1 .x).toI)), (.b (((t1.getD t5.toNat .x).cells.getD 2 .x).toB)), (.imm 1 (((t1.getD t5.toNat .x).cells.getD 3 .x).toL))])] []) fun a1 =>
 cond (!a1.toB)
 (some (.b false))
 (f78_l1 t0 t1 (IntKind.i64.wrap (t5 + (1 : Int))))
 else none
 else none
 else none
 else none)
 (some (.b true)) := (Lp_eq ..).trans (by kernel_rfl)
/-! 42: loop.example/g00905/laws.eqFlash -/
theorem f42_eq (x0_0 : Int) (x0_1 : Int) (x0_2 : Int) (x0_3 : List AV) (x0_4 : Int) (x0_5 : Int) (x0_6 : Bool) (x0_7 : Int) (x1_0 : Int) (x1_1 : Int) (x1_2 : Int) (x1_3 : List AV) (x1_4 : Int) (x1_5 : Int) (x1_6 : Bool) (x1_7 : Int) : den E 42 [(.agg [(.i .i64 x0_0), (.i .i64 x0_1), (.i .i64 x0_2), (.imm 4 x0_3), (.i .i64 x0_4), (.i .i64 x0_5), (.b x0_6), (.i .i64 x0_7)]), (.agg [(.i .i64 x1_0), (.i .i64 x1_1), (.i .i64 x1_2), (.imm 4 x1_3), (.i .i64 x1_4), (.i .i64 x1_5), (.b x1_6), (.i .i64 x1_7)])] [] =
 bSh .b (den E 77 [(.agg [(.i .i64 x0_0), (.i .i64 x0_1), (.i .i64 x0_2)]), (.agg [(.i .i64 x1_0), (.i .i64 x1_1), (.i .i64 x1_2)])] []) fun a1 =>
 cond (!a1.toB)
 (some (.b false))
 (bSh .b (den E 78 [(.imm 4 x0_3), (.imm 4 x1_3)] []) fun a2 =>
 cond (!a2.toB)
 (some (.b false))
 (cond (!decide (x0_4 = x1_4))
 (some (.b false))
 (cond (!decide (x0_5 = x1_5))
 (some (.b false))
 (cond (!decide (x0_6 = x1_6))
 (some (.b false))
 (cond (!decide (x0_7 = x1_7))
 (some (.b false))
 (some (.b true))))))) := (den_eq ..).trans (by kernel_rfl)
/-! 22: loop.example/g00905/laws.eqInt64S -/
noncomputable def f22_l1 (t0 : List AV) (t1 : List AV) (t5 : Int) : Option AV := Lp E fi22 [true, true, false, true, false] (mkT 26 [(0, (.imm 1 t0)), (1, (.imm 1 t1)), (5, (.i .i64 t5))]) []
theorem f22_eq (x0 : List AV) (x1 : List AV) : den E 22 [(.imm 1 x0), (.imm 1 x1)] [] =
 cond (!decide (((x0.length : Nat) : Int) = ((x1.length : Nat) : Int)))
 (some (.b false))
 (f22_l1 x0 x1 (0 : Int)) := (den_eq ..).trans (by kernel_rfl)
theorem f22_l1_eq (t0 : List AV) (t1 : List AV) (t5 : Int) : f22_l1 t0 t1 t5 =
 cond (decide (t5 < ((t0.length : Nat) : Int)))
 (if 0 ≤ t5 ∧ t5 < ((t0.length : Nat) : Int) then
 if okCells false (t0.getD t5.toNat .x) 0 [(.i .i64)] = true then
 if 0 ≤ t5 ∧ t5 < ((t1.length : Nat) : Int) then
 if okCells false (t1.getD t5.toNat .x) 0 [(.i .i64)] = true then
 cond (!decide ((((t0.getD t5.toNat .x).cells.getD 0 .x).toI) = (((t1.getD t5.toNat .x).cells.getD 0 .x).toI)))
 (some (.b false))
 (f22_l1 t0 t1 (IntKind.i64.wrap (t5 + (1 : Int))))
 else none
 else none
 else none
 else none)
 (some (.b true)) := (Lp_eq ..).trans (by kernel_rfl)
/-! 79: loop.example/g00905/laws.eqZone -/
theorem f79_eq (x0_0 : Int) (x0_1 : List AV) (x0_2 : Int) (x0_3 : Int) (x0_4 : List AV) (x0_5 : List AV) (x1_0 : Int) (x1_1 : List AV) (x1_2 : Int) (x1_3 : Int) (x1_4 : List AV) (x1_5 : List AV) : den E 79 [(.agg [(.i .i64 x0_0), (.imm 1 x0_1), (.i .i64 x0_2), (.i .i64 x0_3), (.imm 1 x0_4), (.imm 1 x0_5)]), (.agg [(.i .i64 x1_0), (.imm 1 x1_1), (.i .i64 x1_2), (.i .i64 x1_3), (.imm 1 x1_4), (.imm 1 x1_5)])] [] =
 cond (!decide (x0_0 = x1_0))
 (some (.b false))
 (bSh .b (den E 22 [(.imm 1 x0_1), (.imm 1 x1_1)] []) fun a1 =>
 cond (!a1.toB)
 (some (.b false))
 (cond (!decide (x0_2 = x1_2))
 (some (.b false))
 (cond (!decide (x0_3 = x1_3))
 (some (.b false))
 (bSh .b (den E 22 [(.imm 1 x0_4), (.imm 1 x1_4)] []) fun a2 =>
 cond (!a2.toB)
 (some (.b false))
 (bSh .b (den E 115 [(.imm 1 x0_5), (.imm 1 x1_5)] []) fun a3 =>
 cond (!a3.toB)
 (some (.b false))
 (some (.b true))))))) := (den_eq ..).trans (by kernel_rfl)
/-! 43: loop.example/g00905/laws.eqZoneS -/
noncomputable def f43_l1 (t0 : List AV) (t1 : List AV) (t5 : Int) : Option AV := Lp E fi43 [true, true, false, true, false] (mkT 27 [(0, (.imm 6 t0)), (1, (.imm 6 t1)), (5, (.i .i64 t5))]) []
theorem f43_eq (x0 : List AV) (x1 : List AV) : den E 43 [(.imm 6 x0), (.imm 6 x1)] [] =
 cond (!decide (((x0.length : Nat) : Int) = ((x1.length : Nat) : Int)))
 (some (.b false))
 (f43_l1 x0 x1 (0 : Int)) := (den_eq ..).trans (by kernel_rfl)
theorem f43_l1_eq (t0 : List AV) (t1 : List AV) (t5 : Int) : f43_l1 t0 t1 t5 =
 cond (decide (t5 < ((t0.length : Nat) : Int)))
 (if 0 ≤ t5 ∧ t5 < ((t0.length : Nat) : Int) then
 if okCells false (t0.getD t5.toNat .x) 0 [(.i .i64), (.sl 2 1), (.i .i64), (.i .i64), (.sl 2 1), (.sl 9 1)] = true then
 if 0 ≤ t5 ∧ t5 < ((t1.length : Nat) : Int) then
 if okCells false (t1.getD t5.toNat .x) 0 [(.i .i64), (.sl 2 1), (.i .i64), (.i .i64), (.sl 2 1), (.sl 9 1)] = true then
 bSh .b (den E 79 [(.agg [(.i .i64 (((t0.getD t5.toNat .x).cells.getD 0 .x).toI)), (.imm 1 (((t0.getD t5.toNat .x).cells.getD 1 .x).toL)), (.i .i64 (((t0.getD t5.toNat .x).cells.getD 2 .x).toI)), (.i .i64 (((t0.getD t5.toNat .x).cells.getD 3 .x).toI)), (.imm 1 (((t0.getD t5.toNat .x).cells.getD 4 .x).toL)), (.imm 1 (((t0.getD t5.toNat .x).cells.getD 5 .x).toL))]), (.agg [(.i .i64 (((t1.getD t5.toNat .x).cells.getD 0 .x).toI)), (.imm 1 (((t1.getD t5.toNat .x).cells.getD 1 .x).toL)), (.i .i64 (((t1.getD t5.toNat .x).cells.getD 2 .x).toI)), (.i .i64 (((t1.getD t5.toNat .x).cells.getD 3 .x).toI)), (.imm 1 (((t1.getD t5.toNat .x).cells.getD 4 .x).toL)), (.imm 1 (((t1.getD t5.toNat .x).cells.getD 5 .x).toL))])] []) fun a1 =>
 cond (!a1.toB)
 (some (.b false))
 (f43_l1 t0 t1 (IntKind.i64.wrap (t5 + (1 : Int))))
 else none
 else none
 else none
 else none)
 (some (.b true)) := (Lp_eq ..).trans (by kernel_rfl)
/-! 14: loop.example/g00905/laws.eqDevice -/
theorem f14_eq (x0_0 : Int) (x0_1 : Int) (x0_2 : Int) (x0_3 : List AV) (x0_4 : Int) (x0_5 : Int) (x0_6 : Bool) (x0_7 : Int) (x0_8 : List AV) (x1_0 : Int) (x1_1 : Int) (x1_2 : Int) (x1_3 : List AV) (x1_4 : Int) (x1_5 : Int) (x1_6 : Bool) (x1_7 : Int) (x1_8 : List AV) : den E 14 [(.agg [(.i .i64 x0_0), (.i .i64 x0_1), (.i .i64 x0_2), (.imm 4 x0_3), (.i .i64 x0_4), (.i .i64 x0_5), (.b x0_6), (.i .i64 x0_7), (.imm 6 x0_8)]), (.agg [(.i .i64 x1_0), (.i .i64 x1_1), (.i .i64 x1_2), (.imm 4 x1_3), (.i .i64 x1_4), (.i .i64 x1_5), (.b x1_6), (.i .i64 x1_7), (.imm 6 x1_8)])] [] =
 bSh .b (den E 42 [(.agg [(.i .i64 x0_0), (.i .i64 x0_1), (.i .i64 x0_2), (.imm 4 x0_3), (.i .i64 x0_4), (.i .i64 x0_5), (.b x0_6), (.i .i64 x0_7)]), (.agg [(.i .i64 x1_0), (.i .i64 x1_1), (.i .i64 x1_2), (.imm 4 x1_3), (.i .i64 x1_4), (.i .i64 x1_5), (.b x1_6), (.i .i64 x1_7)])] []) fun a1 =>
 cond (!a1.toB)
 (some (.b false))
 (bSh .b (den E 43 [(.imm 6 x0_8), (.imm 6 x1_8)] []) fun a2 =>
 cond (!a2.toB)
 (some (.b false))
 (some (.b true))) := (den_eq ..).trans (by kernel_rfl)
/-! 80: loop.example/g00905/laws.eqTableRef -/
theorem f80_eq (x0_0 : Int) (x0_1 : Int) (x0_2 : Int) (x0_3 : Int) (x0_4 : Int) (x0_5 : ByteArray) (x0_6 : ByteArray) (x0_7 : Int) (x0_8 : Int) (x0_9 : Int) (x1_0 : Int) (x1_1 : Int) (x1_2 : Int) (x1_3 : Int) (x1_4 : Int) (x1_5 : ByteArray) (x1_6 : ByteArray) (x1_7 : Int) (x1_8 : Int) (x1_9 : Int) : den E 80 [(.agg [(.i .i64 x0_0), (.i .i64 x0_1), (.i .i64 x0_2), (.i .i64 x0_3), (.i .i64 x0_4), (.s x0_5), (.s x0_6), (.i .i64 x0_7), (.i .i64 x0_8), (.i .i64 x0_9)]), (.agg [(.i .i64 x1_0), (.i .i64 x1_1), (.i .i64 x1_2), (.i .i64 x1_3), (.i .i64 x1_4), (.s x1_5), (.s x1_6), (.i .i64 x1_7), (.i .i64 x1_8), (.i .i64 x1_9)])] [] =
 cond (!decide (x0_0 = x1_0))
 (some (.b false))
 (cond (!decide (x0_1 = x1_1))
 (some (.b false))
 (cond (!decide (x0_2 = x1_2))
 (some (.b false))
 (cond (!decide (x0_3 = x1_3))
 (some (.b false))
 (cond (!decide (x0_4 = x1_4))
 (some (.b false))
 (cond (!decide (x0_5 = x1_5))
 (some (.b false))
 (cond (!decide (x0_6 = x1_6))
 (some (.b false))
 (cond (!decide (x0_7 = x1_7))
 (some (.b false))
 (cond (!decide (x0_8 = x1_8))
 (some (.b false))
 (cond (!decide (x0_9 = x1_9))
 (some (.b false))
 (some (.b true))))))))))) := (den_eq ..).trans (by kernel_rfl)
/-! 44: loop.example/g00905/laws.eqTableRefS -/
noncomputable def f44_l1 (t0 : List AV) (t1 : List AV) (t5 : Int) : Option AV := Lp E fi44 [true, true, false, true, false] (mkT 27 [(0, (.imm 10 t0)), (1, (.imm 10 t1)), (5, (.i .i64 t5))]) []
theorem f44_eq (x0 : List AV) (x1 : List AV) : den E 44 [(.imm 10 x0), (.imm 10 x1)] [] =
 cond (!decide (((x0.length : Nat) : Int) = ((x1.length : Nat) : Int)))
 (some (.b false))
 (f44_l1 x0 x1 (0 : Int)) := (den_eq ..).trans (by kernel_rfl)
theorem f44_l1_eq (t0 : List AV) (t1 : List AV) (t5 : Int) : f44_l1 t0 t1 t5 =
 cond (decide (t5 < ((t0.length : Nat) : Int)))
 (if 0 ≤ t5 ∧ t5 < ((t0.length : Nat) : Int) then
 if okCells false (t0.getD t5.toNat .x) 0 [(.i .i64), (.i .i64), (.i .i64), (.i .i64), (.i .i64), .s, .s, (.i .i64), (.i .i64), (.i .i64)] = true then
 if 0 ≤ t5 ∧ t5 < ((t1.length : Nat) : Int) then
 if okCells false (t1.getD t5.toNat .x) 0 [(.i .i64), (.i .i64), (.i .i64), (.i .i64), (.i .i64), .s, .s, (.i .i64), (.i .i64), (.i .i64)] = true then
 bSh .b (den E 80 [(.agg [(.i .i64 (((t0.getD t5.toNat .x).cells.getD 0 .x).toI)), (.i .i64 (((t0.getD t5.toNat .x).cells.getD 1 .x).toI)), (.i .i64 (((t0.getD t5.toNat .x).cells.getD 2 .x).toI)), (.i .i64 (((t0.getD t5.toNat .x).cells.getD 3 .x).toI)), (.i .i64 (((t0.getD t5.toNat .x).cells.getD 4 .x).toI)), (.s (((t0.getD t5.toNat .x).cells.getD 5 .x).toS)), (.s (((t0.getD t5.toNat .x).cells.getD 6 .x).toS)), (.i .i64 (((t0.getD t5.toNat .x).cells.getD 7 .x).toI)), (.i .i64 (((t0.getD t5.toNat .x).cells.getD 8 .x).toI)), (.i .i64 (((t0.getD t5.toNat .x).cells.getD 9 .x).toI))]), (.agg [(.i .i64 (((t1.getD t5.toNat .x).cells.getD 0 .x).toI)), (.i .i64 (((t1.getD t5.toNat .x).cells.getD 1 .x).toI)), (.i .i64 (((t1.getD t5.toNat .x).cells.getD 2 .x).toI)), (.i .i64 (((t1.getD t5.toNat .x).cells.getD 3 .x).toI)), (.i .i64 (((t1.getD t5.toNat .x).cells.getD 4 .x).toI)), (.s (((t1.getD t5.toNat .x).cells.getD 5 .x).toS)), (.s (((t1.getD t5.toNat .x).cells.getD 6 .x).toS)), (.i .i64 (((t1.getD t5.toNat .x).cells.getD 7 .x).toI)), (.i .i64 (((t1.getD t5.toNat .x).cells.getD 8 .x).toI)), (.i .i64 (((t1.getD t5.toNat .x).cells.getD 9 .x).toI))])] []) fun a1 =>
 cond (!a1.toB)
 (some (.b false))
 (f44_l1 t0 t1 (IntKind.i64.wrap (t5 + (1 : Int))))
 else none
 else none
 else none
 else none)
 (some (.b true)) := (Lp_eq ..).trans (by kernel_rfl)
/-! 15: loop.example/g00905/laws.eqVersion -/
theorem f15_eq (x0_0 : Int) (x0_1 : Int) (x0_2 : Int) (x0_3 : List AV) (x1_0 : Int) (x1_1 : Int) (x1_2 : Int) (x1_3 : List AV) : den E 15 [(.agg [(.i .i64 x0_0), (.i .i64 x0_1), (.i .i64 x0_2), (.imm 10 x0_3)]), (.agg [(.i .i64 x1_0), (.i .i64 x1_1), (.i .i64 x1_2), (.imm 10 x1_3)])] [] =
 cond (!decide (x0_0 = x1_0))
 (some (.b false))
 (cond (!decide (x0_1 = x1_1))
 (some (.b false))
 (cond (!decide (x0_2 = x1_2))
 (some (.b false))
 (bSh .b (den E 44 [(.imm 10 x0_3), (.imm 10 x1_3)] []) fun a1 =>
 cond (!a1.toB)
 (some (.b false))
 (some (.b true))))) := (den_eq ..).trans (by kernel_rfl)
/-! 7: loop.example/g00905/laws.FnExactPlaceTable -/
theorem f7_eq (x0_0 : Int) (x0_1 : Int) (x0_2 : Int) (x0_3 : List AV) (x0_4 : Int) (x0_5 : Int) (x0_6 : Bool) (x0_7 : Int) (x0_8 : List AV) (x1_0 : Int) (x1_1 : Int) (x1_2 : Int) (x1_3 : List AV) (x2 : Int) (x3 : Int) : den E 7 [(.agg [(.i .i64 x0_0), (.i .i64 x0_1), (.i .i64 x0_2), (.imm 4 x0_3), (.i .i64 x0_4), (.i .i64 x0_5), (.b x0_6), (.i .i64 x0_7), (.imm 6 x0_8)]), (.agg [(.i .i64 x1_0), (.i .i64 x1_1), (.i .i64 x1_2), (.imm 10 x1_3)]), (.i .i64 x2), (.i .i64 x3)] [] =
 bSh (.i .i64) (den E 8 [(.agg [(.i .i64 x0_0), (.i .i64 x0_1), (.i .i64 x0_2), (.imm 4 x0_3), (.i .i64 x0_4), (.i .i64 x0_5), (.b x0_6), (.i .i64 x0_7), (.imm 6 x0_8)]), (.i .i64 (1048576 : Int))] []) fun a1 =>
 cond (decide (a1.toI < (0 : Int)))
 (some (.b true))
 (bSh (.i .i64) (den E 9 [(.agg [(.i .i64 x1_0), (.i .i64 x1_1), (.i .i64 x1_2), (.imm 10 x1_3)]), (.i .i64 a1.toI)] []) fun a2 =>
 cond (decide (a2.toI < (0 : Int)))
 (some (.b true))
 (bSh (.agg [(.i .i64), (.i .i64), (.i .i64), (.sl 138 4), (.i .i64), (.i .i64), .b, (.i .i64), (.sl 101 6)]) (den E 11 [(.agg [(.i .i64 x0_0), (.i .i64 x0_1), (.i .i64 x0_2), (.imm 4 x0_3), (.i .i64 x0_4), (.i .i64 x0_5), (.b x0_6), (.i .i64 x0_7), (.imm 6 x0_8)])] []) fun a3 =>
 bSh (.agg [(.i .i64), (.i .i64), (.i .i64), (.sl 106 10)]) (den E 12 [(.agg [(.i .i64 x1_0), (.i .i64 x1_1), (.i .i64 x1_2), (.imm 10 x1_3)])] []) fun a4 =>
 bSh (.tup [(.i .i64), (.i .i64)]) (den E 27 [(.agg [(.i .i64 ((a3.nth 0).toI)), (.i .i64 ((a3.nth 1).toI)), (.i .i64 ((a3.nth 2).toI)), (.imm 4 ((a3.nth 3).toL)), (.i .i64 ((a3.nth 4).toI)), (.i .i64 ((a3.nth 5).toI)), (.b ((a3.nth 6).toB)), (.i .i64 ((a3.nth 7).toI)), (.imm 6 ((a3.nth 8).toL))]), (.agg [(.i .i64 ((a4.nth 0).toI)), (.i .i64 ((a4.nth 1).toI)), (.i .i64 ((a4.nth 2).toI)), (.imm 10 ((a4.nth 3).toL))]), (.i .i64 x2), (.i .i64 x3)] []) fun a5 =>
 bSh (.agg [(.i .i64), (.i .i64), (.i .i64), (.sl 138 4), (.i .i64), (.i .i64), .b, (.i .i64), (.sl 101 6)]) (den E 11 [(.agg [(.i .i64 x0_0), (.i .i64 x0_1), (.i .i64 x0_2), (.imm 4 x0_3), (.i .i64 x0_4), (.i .i64 x0_5), (.b x0_6), (.i .i64 x0_7), (.imm 6 x0_8)])] []) fun a6 =>
 bSh (.agg [(.i .i64), (.i .i64), (.i .i64), (.sl 106 10)]) (den E 12 [(.agg [(.i .i64 x1_0), (.i .i64 x1_1), (.i .i64 x1_2), (.imm 10 x1_3)])] []) fun a7 =>
 bSh (.tup [(.i .i64), (.i .i64)]) (den E 28 [(.agg [(.i .i64 ((a6.nth 0).toI)), (.i .i64 ((a6.nth 1).toI)), (.i .i64 ((a6.nth 2).toI)), (.imm 4 ((a6.nth 3).toL)), (.i .i64 ((a6.nth 4).toI)), (.i .i64 ((a6.nth 5).toI)), (.b ((a6.nth 6).toB)), (.i .i64 ((a6.nth 7).toI)), (.imm 6 ((a6.nth 8).toL))]), (.agg [(.i .i64 ((a7.nth 0).toI)), (.i .i64 ((a7.nth 1).toI)), (.i .i64 ((a7.nth 2).toI)), (.imm 10 ((a7.nth 3).toL))]), (.i .i64 x2), (.i .i64 x3)] []) fun a8 =>
 cond ((!decide (((a8.nth 0).toI) = ((a5.nth 0).toI))) == false)
 (cond (!decide (((a8.nth 1).toI) = ((a5.nth 1).toI)))
 (some (.b false))
 (bSh (.agg [(.i .i64), (.i .i64), (.i .i64), (.sl 138 4), (.i .i64), (.i .i64), .b, (.i .i64), (.sl 101 6)]) (den E 11 [(.agg [(.i .i64 x0_0), (.i .i64 x0_1), (.i .i64 x0_2), (.imm 4 x0_3), (.i .i64 x0_4), (.i .i64 x0_5), (.b x0_6), (.i .i64 x0_7), (.imm 6 x0_8)])] []) fun a9 =>
 bSh .b (den E 14 [(.agg [(.i .i64 ((a6.nth 0).toI)), (.i .i64 ((a6.nth 1).toI)), (.i .i64 ((a6.nth 2).toI)), (.imm 4 ((a6.nth 3).toL)), (.i .i64 ((a6.nth 4).toI)), (.i .i64 ((a6.nth 5).toI)), (.b ((a6.nth 6).toB)), (.i .i64 ((a6.nth 7).toI)), (.imm 6 ((a6.nth 8).toL))]), (.agg [(.i .i64 ((a9.nth 0).toI)), (.i .i64 ((a9.nth 1).toI)), (.i .i64 ((a9.nth 2).toI)), (.imm 4 ((a9.nth 3).toL)), (.i .i64 ((a9.nth 4).toI)), (.i .i64 ((a9.nth 5).toI)), (.b ((a9.nth 6).toB)), (.i .i64 ((a9.nth 7).toI)), (.imm 6 ((a9.nth 8).toL))])] []) fun a10 =>
 cond (!a10.toB)
 (some (.b false))
 (bSh (.agg [(.i .i64), (.i .i64), (.i .i64), (.sl 106 10)]) (den E 12 [(.agg [(.i .i64 x1_0), (.i .i64 x1_1), (.i .i64 x1_2), (.imm 10 x1_3)])] []) fun a11 =>
 bSh .b (den E 15 [(.agg [(.i .i64 ((a7.nth 0).toI)), (.i .i64 ((a7.nth 1).toI)), (.i .i64 ((a7.nth 2).toI)), (.imm 10 ((a7.nth 3).toL))]), (.agg [(.i .i64 ((a11.nth 0).toI)), (.i .i64 ((a11.nth 1).toI)), (.i .i64 ((a11.nth 2).toI)), (.imm 10 ((a11.nth 3).toL))])] []) fun a12 =>
 cond (!a12.toB)
 (some (.b false))
 (some (.b true)))))
 (some (.b false)))) := (den_eq ..).trans (by kernel_rfl)
end Go.Proofs.YtokpbjbngnlepaaGreat.IPlaceTable
