/- Printed by a program of this work (wip/it/itp.py): what each function comes to. No condition. -/
import Derived.Test.YthlmjmejnlalaaaIValidEditt
namespace Go.Proofs.Ythlmjmejnlalaaa.IValidEdit
open Go Go.Proofs.YthlmjmejnlalaaaIT
set_option linter.unusedVariables false
/-! 77: loop.example/g00905/laws.szInt64S -/
theorem f77_eq (x0 : List AV) (x1 : Int) : den E 77 [(.imm 1 x0), (.i .i64 x1)] [] =
 cond (decide ((IntKind.i64.wrap (x1 - ((x0.length : Nat) : Int))) < (0 : Int)))
 (some (.i .i64 (-1 : Int)))
 (some (.i .i64 (IntKind.i64.wrap (x1 - ((x0.length : Nat) : Int))))) := (den_eq ..).trans (by kernel_rfl)
/-! 141: loop.example/g00905/laws.szTableRef -/
theorem f141_eq (x0_0 : Int) (x0_1 : Int) (x0_2 : Int) (x0_3 : Int) (x0_4 : Int) (x0_5 : ByteArray) (x0_6 : ByteArray) (x0_7 : Int) (x0_8 : Int) (x0_9 : Int) (x1 : Int) : den E 141 [(.agg [(.i .i64 x0_0), (.i .i64 x0_1), (.i .i64 x0_2), (.i .i64 x0_3), (.i .i64 x0_4), (.s x0_5), (.s x0_6), (.i .i64 x0_7), (.i .i64 x0_8), (.i .i64 x0_9)]), (.i .i64 x1)] [] =
 cond (decide ((IntKind.i64.wrap (x1 - ((x0_5.size : Nat) : Int))) < (0 : Int)))
 (some (.i .i64 (-1 : Int)))
 (cond (decide ((IntKind.i64.wrap ((IntKind.i64.wrap (x1 - ((x0_5.size : Nat) : Int))) - ((x0_6.size : Nat) : Int))) < (0 : Int)))
 (some (.i .i64 (-1 : Int)))
 (some (.i .i64 (IntKind.i64.wrap ((IntKind.i64.wrap (x1 - ((x0_5.size : Nat) : Int))) - ((x0_6.size : Nat) : Int)))))) := (den_eq ..).trans (by kernel_rfl)
/-! 78: loop.example/g00905/laws.szTableRefS -/
noncomputable def f78_l1 (t0 : List AV) (t1 : Int) (t5 : Int) : Option AV := Lp E fi78 [true, true, true, false, true, false] (mkT 27 [(0, (.imm 10 t0)), (1, (.i .i64 t1)), (5, (.i .i64 t5))]) []
theorem f78_eq (x0 : List AV) (x1 : Int) : den E 78 [(.imm 10 x0), (.i .i64 x1)] [] =
 cond (decide ((IntKind.i64.wrap (x1 - ((x0.length : Nat) : Int))) < (0 : Int)))
 (some (.i .i64 (-1 : Int)))
 (f78_l1 x0 (IntKind.i64.wrap (x1 - ((x0.length : Nat) : Int))) (0 : Int)) := (den_eq ..).trans (by kernel_rfl)
theorem f78_l1_eq (t0 : List AV) (t1 : Int) (t5 : Int) : f78_l1 t0 t1 t5 =
 cond (decide (t5 < ((t0.length : Nat) : Int)))
 (if 0 ≤ t5 ∧ t5 < ((t0.length : Nat) : Int) then
 if okCells false (t0.getD t5.toNat .x) 0 [(.i .i64), (.i .i64), (.i .i64), (.i .i64), (.i .i64), .s, .s, (.i .i64), (.i .i64), (.i .i64)] = true then
 bSh (.i .i64) (den E 141 [(.agg [(.i .i64 (((t0.getD t5.toNat .x).cells.getD 0 .x).toI)), (.i .i64 (((t0.getD t5.toNat .x).cells.getD 1 .x).toI)), (.i .i64 (((t0.getD t5.toNat .x).cells.getD 2 .x).toI)), (.i .i64 (((t0.getD t5.toNat .x).cells.getD 3 .x).toI)), (.i .i64 (((t0.getD t5.toNat .x).cells.getD 4 .x).toI)), (.s (((t0.getD t5.toNat .x).cells.getD 5 .x).toS)), (.s (((t0.getD t5.toNat .x).cells.getD 6 .x).toS)), (.i .i64 (((t0.getD t5.toNat .x).cells.getD 7 .x).toI)), (.i .i64 (((t0.getD t5.toNat .x).cells.getD 8 .x).toI)), (.i .i64 (((t0.getD t5.toNat .x).cells.getD 9 .x).toI))]), (.i .i64 t1)] []) fun a1 =>
 cond (decide (a1.toI < (0 : Int)))
 (some (.i .i64 (-1 : Int)))
 (f78_l1 t0 a1.toI (IntKind.i64.wrap (t5 + (1 : Int))))
 else none
 else none)
 (some (.i .i64 t1)) := (Lp_eq ..).trans (by kernel_rfl)
/-! 23: loop.example/g00905/laws.szEdit -/
theorem f23_eq (x0_0 : Int) (x0_1 : Int) (x0_2 : List AV) (x0_3 : List AV) (x1 : Int) : den E 23 [(.agg [(.i .i64 x0_0), (.i .i64 x0_1), (.imm 1 x0_2), (.imm 10 x0_3)]), (.i .i64 x1)] [] =
 bSh (.i .i64) (den E 77 [(.imm 1 x0_2), (.i .i64 x1)] []) fun a1 =>
 cond (decide (a1.toI < (0 : Int)))
 (some (.i .i64 (-1 : Int)))
 (bSh (.i .i64) (den E 78 [(.imm 10 x0_3), (.i .i64 a1.toI)] []) fun a2 =>
 cond (decide (a2.toI < (0 : Int)))
 (some (.i .i64 (-1 : Int)))
 (some (.i .i64 a2.toI))) := (den_eq ..).trans (by kernel_rfl)
/-! 59: loop.example/g00905/laws.toInt64S -/
noncomputable def f59_l1 (t0 : List AV) (t4 : Int) (r0 : List AV) (r1 : List AV) : Option AV := Lp E fi59 [true, true, false, true, false] (mkT 22 [(0, (.imm 1 t0)), (3, (.sl 1 [] none)), (4, (.i .i64 t4))]) [(.live true false false 2 r0), (.live true false false 2 r1)]
theorem f59_eq (x0 : List AV) : den E 59 [(.imm 1 x0)] [] =
 if 0 ≤ ((x0.length : Nat) : Int) ∧ ((x0.length : Nat) : Int) ≤ ((x0.length : Nat) : Int) ∧ ((x0.length : Nat) : Int) * ((8 : Nat) : Int) ≤ ((room : Nat) : Int) ∧ ((x0.length : Nat) : Int) ≤ 9223372036854775807 then
 f59_l1 x0 (0 : Int) [] (List.replicate ((x0.length : Nat) : Int).toNat (.i .i64 (0 : Int)))
 else none := (den_eq ..).trans (by kernel_rfl)
theorem f59_l1_eq (t0 : List AV) (t4 : Int) (r0 : List AV) (r1 : List AV) : f59_l1 t0 t4 r0 r1 =
 cond (decide (t4 < ((t0.length : Nat) : Int)))
 (if 0 ≤ t4 ∧ t4 < ((t0.length : Nat) : Int) then
 if okCells false (t0.getD t4.toNat .x) 0 [(.i .i64)] = true then
 if 0 ≤ t4 ∧ t4 < ((r1.length : Nat) : Int) then
 f59_l1 t0 (IntKind.i64.wrap (t4 + (1 : Int))) r0 (r1.set (0 + t4.toNat) ((r1.getD (0 + t4.toNat) .x).putCells 0 [(.i .i64 (((t0.getD t4.toNat .x).cells.getD 0 .x).toI))]))
 else none
 else none
 else none)
 (some (.imm 1 r1)) := (Lp_eq ..).trans (by kernel_rfl)
/-! 143: loop.example/g00905/laws.toTableRef -/
theorem f143_eq (x0_0 : Int) (x0_1 : Int) (x0_2 : Int) (x0_3 : Int) (x0_4 : Int) (x0_5 : ByteArray) (x0_6 : ByteArray) (x0_7 : Int) (x0_8 : Int) (x0_9 : Int) : den E 143 [(.agg [(.i .i64 x0_0), (.i .i64 x0_1), (.i .i64 x0_2), (.i .i64 x0_3), (.i .i64 x0_4), (.s x0_5), (.s x0_6), (.i .i64 x0_7), (.i .i64 x0_8), (.i .i64 x0_9)])] [] =
 some (.agg [(.i .i64 x0_0), (.i .i64 x0_1), (.i .i64 x0_2), (.i .i64 x0_3), (.i .i64 x0_4), (.s x0_5), (.s x0_6), (.i .i64 x0_7), (.i .i64 x0_8), (.i .i64 x0_9)]) := (den_eq ..).trans (by kernel_rfl)
/-! 80: loop.example/g00905/laws.toTableRefS -/
noncomputable def f80_l1 (t0 : List AV) (t4 : Int) (r0 : List AV) (r1 : List AV) : Option AV := Lp E fi80 [true, true, false, true, false] (mkT 23 [(0, (.imm 10 t0)), (3, (.sl 1 [] none)), (4, (.i .i64 t4))]) [(.live true false false 118 r0), (.live true false false 118 r1)]
theorem f80_eq (x0 : List AV) : den E 80 [(.imm 10 x0)] [] =
 if 0 ≤ ((x0.length : Nat) : Int) ∧ ((x0.length : Nat) : Int) ≤ ((x0.length : Nat) : Int) ∧ ((x0.length : Nat) : Int) * ((96 : Nat) : Int) ≤ ((room : Nat) : Int) ∧ ((x0.length : Nat) : Int) ≤ 9223372036854775807 then
 f80_l1 x0 (0 : Int) [] (List.replicate ((x0.length : Nat) : Int).toNat (.agg [(.i .i64 (0 : Int)), (.i .i64 (0 : Int)), (.i .i64 (0 : Int)), (.i .i64 (0 : Int)), (.i .i64 (0 : Int)), (.s .empty), (.s .empty), (.i .i64 (0 : Int)), (.i .i64 (0 : Int)), (.i .i64 (0 : Int))]))
 else none := (den_eq ..).trans (by kernel_rfl)
theorem f80_l1_eq (t0 : List AV) (t4 : Int) (r0 : List AV) (r1 : List AV) : f80_l1 t0 t4 r0 r1 =
 cond (decide (t4 < ((t0.length : Nat) : Int)))
 (if 0 ≤ t4 ∧ t4 < ((t0.length : Nat) : Int) then
 if okCells false (t0.getD t4.toNat .x) 0 [(.i .i64), (.i .i64), (.i .i64), (.i .i64), (.i .i64), .s, .s, (.i .i64), (.i .i64), (.i .i64)] = true then
 bSh (.agg [(.i .i64), (.i .i64), (.i .i64), (.i .i64), (.i .i64), .s, .s, (.i .i64), (.i .i64), (.i .i64)]) (den E 143 [(.agg [(.i .i64 (((t0.getD t4.toNat .x).cells.getD 0 .x).toI)), (.i .i64 (((t0.getD t4.toNat .x).cells.getD 1 .x).toI)), (.i .i64 (((t0.getD t4.toNat .x).cells.getD 2 .x).toI)), (.i .i64 (((t0.getD t4.toNat .x).cells.getD 3 .x).toI)), (.i .i64 (((t0.getD t4.toNat .x).cells.getD 4 .x).toI)), (.s (((t0.getD t4.toNat .x).cells.getD 5 .x).toS)), (.s (((t0.getD t4.toNat .x).cells.getD 6 .x).toS)), (.i .i64 (((t0.getD t4.toNat .x).cells.getD 7 .x).toI)), (.i .i64 (((t0.getD t4.toNat .x).cells.getD 8 .x).toI)), (.i .i64 (((t0.getD t4.toNat .x).cells.getD 9 .x).toI))])] []) fun a1 =>
 if 0 ≤ t4 ∧ t4 < ((r1.length : Nat) : Int) then
 f80_l1 t0 (IntKind.i64.wrap (t4 + (1 : Int))) r0 (r1.set (0 + t4.toNat) ((r1.getD (0 + t4.toNat) .x).putCells 0 [(.i .i64 ((a1.nth 0).toI)), (.i .i64 ((a1.nth 1).toI)), (.i .i64 ((a1.nth 2).toI)), (.i .i64 ((a1.nth 3).toI)), (.i .i64 ((a1.nth 4).toI)), (.s ((a1.nth 5).toS)), (.s ((a1.nth 6).toS)), (.i .i64 ((a1.nth 7).toI)), (.i .i64 ((a1.nth 8).toI)), (.i .i64 ((a1.nth 9).toI))]))
 else none
 else none
 else none)
 (some (.imm 10 r1)) := (Lp_eq ..).trans (by kernel_rfl)
/-! 25: loop.example/g00905/laws.toEdit -/
theorem f25_eq (x0_0 : Int) (x0_1 : Int) (x0_2 : List AV) (x0_3 : List AV) : den E 25 [(.agg [(.i .i64 x0_0), (.i .i64 x0_1), (.imm 1 x0_2), (.imm 10 x0_3)])] [] =
 bSh (.sl 2 1) (den E 59 [(.imm 1 x0_2)] []) fun a1 =>
 bSh (.sl 118 10) (den E 80 [(.imm 10 x0_3)] []) fun a2 =>
 some (.agg [(.i .i64 x0_0), (.i .i64 x0_1), (.imm 1 a1.toL), (.imm 10 a2.toL)]) := (den_eq ..).trans (by kernel_rfl)
/-! 90: loop.example/g00905/spec.l00In -/
theorem f90_eq (x0 : Int) (x1 : Int) (x2 : Int) : den E 90 [(.i .i64 x0), (.i .i64 x1), (.i .i64 x2)] [] =
 cond ((decide (x1 ≤ x0)) == true)
 (some (.b (decide (x0 ≤ x2))))
 (some (.b false)) := (den_eq ..).trans (by kernel_rfl)
/-! 142: loop.example/g00905/spec.l25Table -/
theorem f142_eq (x0 : AV) : den E 142 [(.ip x0 0)] [] =
 if okCells false x0 0 [(.i .i64)] = true then
 bSh .b (den E 90 [(.i .i64 ((x0.cells.getD 0 .x).toI)), (.i .i64 (1 : Int)), (.i .i64 (1000000 : Int))] []) fun a1 =>
 cond ((!a1.toB) == false)
 (if okCells false x0 1 [(.i .i64)] = true then
 bSh .b (den E 90 [(.i .i64 ((x0.cells.getD 1 .x).toI)), (.i .i64 (0 : Int)), (.i .i64 (2 : Int))] []) fun a2 =>
 cond ((!a2.toB) == false)
 (if okCells false x0 2 [(.i .i64)] = true then
 bSh .b (den E 90 [(.i .i64 ((x0.cells.getD 2 .x).toI)), (.i .i64 (0 : Int)), (.i .i64 (11 : Int))] []) fun a3 =>
 cond ((!a3.toB) == false)
 (if okCells false x0 3 [(.i .i64)] = true then
 bSh .b (den E 90 [(.i .i64 ((x0.cells.getD 3 .x).toI)), (.i .i64 (0 : Int)), (.i .i64 (1000 : Int))] []) fun a4 =>
 cond ((!a4.toB) == false)
 (if okCells false x0 4 [(.i .i64)] = true then
 bSh .b (den E 90 [(.i .i64 ((x0.cells.getD 4 .x).toI)), (.i .i64 (1 : Int)), (.i .i64 (100 : Int))] []) fun a5 =>
 cond (!a5.toB)
 (some (.b false))
 (if okCells false x0 5 [.s] = true then
 cond ((decide ((9 : Int) < ((((x0.cells.getD 5 .x).toS).size : Nat) : Int))) == false)
 (if okCells false x0 6 [.s] = true then
 cond ((decide ((9 : Int) < ((((x0.cells.getD 6 .x).toS).size : Nat) : Int))) == false)
 (if okCells false x0 5 [.s] = true then
 if okCells false x0 6 [.s] = true then
 cond (!lessS ((x0.cells.getD 5 .x).toS) ((x0.cells.getD 6 .x).toS))
 (some (.b false))
 (if okCells false x0 7 [(.i .i64)] = true then
 cond ((decide ((0 : Int) < ((x0.cells.getD 7 .x).toI))) == true)
 (if okCells false x0 7 [(.i .i64)] = true then
 if okCells false x0 8 [(.i .i64)] = true then
 cond ((decide (((x0.cells.getD 7 .x).toI) ≤ ((x0.cells.getD 8 .x).toI))) == true)
 (if okCells false x0 8 [(.i .i64)] = true then
 cond ((decide (((x0.cells.getD 8 .x).toI) ≤ (1000000 : Int))) == true)
 (if okCells false x0 9 [(.i .i64)] = true then
 bSh .b (den E 90 [(.i .i64 ((x0.cells.getD 9 .x).toI)), (.i .i64 (1 : Int)), (.i .i64 (60 : Int))] []) fun a6 =>
 some (.b a6.toB)
 else none)
 (some (.b false))
 else none)
 (some (.b false))
 else none
 else none)
 (some (.b false))
 else none)
 else none
 else none)
 (some (.b false))
 else none)
 (some (.b false))
 else none)
 else none)
 (some (.b false))
 else none)
 (some (.b false))
 else none)
 (some (.b false))
 else none)
 (some (.b false))
 else none := (den_eq ..).trans (by kernel_rfl)
/-! 79: loop.example/g00905/spec.l25Edit -/
noncomputable def f79_l1 (t0 : AV) (t3 : Int) : Option AV := Lp E fi79 [true, true, false, true, false] (mkT 108 [(0, (.ip t0 0)), (3, (.i .i64 t3))]) []
noncomputable def f79_j2 (t0 : AV) (t3 : Int) : Option AV := Jn E fi79 [true, true, false, true, false, false, true, true] (mkT 108 [(0, (.ip t0 0)), (3, (.i .i64 t3))]) []
noncomputable def f79_l3 (t0 : AV) (t4 : Int) : Option AV := Lp E fi79 [true, true, true, false, true, false] (mkT 108 [(0, (.ip t0 0)), (4, (.i .i64 t4))]) []
noncomputable def f79_j4 (t0 : AV) (t4 : Int) : Option AV := Jn E fi79 [true, true, true, false, true, false, false, true, true] (mkT 108 [(0, (.ip t0 0)), (4, (.i .i64 t4))]) []
theorem f79_eq (x0 : AV) : den E 79 [(.ip x0 0)] [] =
 if okCells false x0 0 [(.i .i64)] = true then
 bSh .b (den E 90 [(.i .i64 ((x0.cells.getD 0 .x).toI)), (.i .i64 (0 : Int)), (.i .i64 (11 : Int))] []) fun a1 =>
 cond ((!a1.toB) == false)
 (if okCells false x0 1 [(.i .i64)] = true then
 bSh .b (den E 90 [(.i .i64 ((x0.cells.getD 1 .x).toI)), (.i .i64 (0 : Int)), (.i .i64 (1000000 : Int))] []) fun a2 =>
 cond ((!a2.toB) == false)
 (if okCells false x0 3 [(.sl 118 10)] = true then
 cond (decide ((16 : Int) < ((((x0.cells.getD 3 .x).toL).length : Nat) : Int)))
 (some (.b false))
 (f79_l1 x0 (0 : Int))
 else none)
 (some (.b false))
 else none)
 (some (.b false))
 else none := (den_eq ..).trans (by kernel_rfl)
theorem f79_l1_eq (t0 : AV) (t3 : Int) : f79_l1 t0 t3 =
 if okCells false t0 2 [(.sl 2 1)] = true then
 cond (decide (t3 < ((((t0.cells.getD 2 .x).toL).length : Nat) : Int)))
 (if okCells false t0 2 [(.sl 2 1)] = true then
 if 0 ≤ t3 ∧ t3 < ((((t0.cells.getD 2 .x).toL).length : Nat) : Int) then
 if okCells false (((t0.cells.getD 2 .x).toL).getD t3.toNat .x) 0 [(.i .i64)] = true then
 bSh .b (den E 90 [(.i .i64 (((((t0.cells.getD 2 .x).toL).getD t3.toNat .x).cells.getD 0 .x).toI)), (.i .i64 (1 : Int)), (.i .i64 (1000000 : Int))] []) fun a1 =>
 cond ((!a1.toB) == false)
 (cond ((decide ((0 : Int) < t3)) == true)
 (if okCells false t0 2 [(.sl 2 1)] = true then
 if 0 ≤ (IntKind.i64.wrap (t3 - (1 : Int))) ∧ (IntKind.i64.wrap (t3 - (1 : Int))) < ((((t0.cells.getD 2 .x).toL).length : Nat) : Int) then
 if okCells false (((t0.cells.getD 2 .x).toL).getD (IntKind.i64.wrap (t3 - (1 : Int))).toNat .x) 0 [(.i .i64)] = true then
 if okCells false t0 2 [(.sl 2 1)] = true then
 if 0 ≤ t3 ∧ t3 < ((((t0.cells.getD 2 .x).toL).length : Nat) : Int) then
 if okCells false (((t0.cells.getD 2 .x).toL).getD t3.toNat .x) 0 [(.i .i64)] = true then
 cond (decide ((((((t0.cells.getD 2 .x).toL).getD t3.toNat .x).cells.getD 0 .x).toI) ≤ (((((t0.cells.getD 2 .x).toL).getD (IntKind.i64.wrap (t3 - (1 : Int))).toNat .x).cells.getD 0 .x).toI)))
 (some (.b false))
 (f79_j2 t0 t3)
 else none
 else none
 else none
 else none
 else none
 else none)
 (f79_j2 t0 t3))
 (some (.b false))
 else none
 else none
 else none)
 (f79_l3 t0 (0 : Int))
 else none := (Lp_eq ..).trans (by kernel_rfl)
theorem f79_j2_eq (t0 : AV) (t3 : Int) : f79_j2 t0 t3 =
 f79_l1 t0 (IntKind.i64.wrap (t3 + (1 : Int))) := by kernel_rfl
theorem f79_l3_eq (t0 : AV) (t4 : Int) : f79_l3 t0 t4 =
 if okCells false t0 3 [(.sl 118 10)] = true then
 cond (decide (t4 < ((((t0.cells.getD 3 .x).toL).length : Nat) : Int)))
 (if okCells false t0 3 [(.sl 118 10)] = true then
 if 0 ≤ t4 ∧ t4 < ((((t0.cells.getD 3 .x).toL).length : Nat) : Int) then
 bSh .b (den E 142 [(.ip (((t0.cells.getD 3 .x).toL).getD t4.toNat .x) 0)] []) fun a1 =>
 cond ((!a1.toB) == false)
 (cond ((decide ((0 : Int) < t4)) == true)
 (if okCells false t0 3 [(.sl 118 10)] = true then
 if 0 ≤ (IntKind.i64.wrap (t4 - (1 : Int))) ∧ (IntKind.i64.wrap (t4 - (1 : Int))) < ((((t0.cells.getD 3 .x).toL).length : Nat) : Int) then
 if okCells false (((t0.cells.getD 3 .x).toL).getD (IntKind.i64.wrap (t4 - (1 : Int))).toNat .x) 0 [(.i .i64)] = true then
 if okCells false t0 3 [(.sl 118 10)] = true then
 if 0 ≤ t4 ∧ t4 < ((((t0.cells.getD 3 .x).toL).length : Nat) : Int) then
 if okCells false (((t0.cells.getD 3 .x).toL).getD t4.toNat .x) 0 [(.i .i64)] = true then
 cond (decide ((((((t0.cells.getD 3 .x).toL).getD t4.toNat .x).cells.getD 0 .x).toI) ≤ (((((t0.cells.getD 3 .x).toL).getD (IntKind.i64.wrap (t4 - (1 : Int))).toNat .x).cells.getD 0 .x).toI)))
 (some (.b false))
 (f79_j4 t0 t4)
 else none
 else none
 else none
 else none
 else none
 else none)
 (f79_j4 t0 t4))
 (some (.b false))
 else none
 else none)
 (some (.b true))
 else none := (Lp_eq ..).trans (by kernel_rfl)
theorem f79_j4_eq (t0 : AV) (t4 : Int) : f79_j4 t0 t4 =
 f79_l3 t0 (IntKind.i64.wrap (t4 + (1 : Int))) := by kernel_rfl
/-! 24: loop.example/g00905/spec.ValidEdit -/
theorem f24_eq (x0_0 : Int) (x0_1 : Int) (x0_2 : List AV) (x0_3 : List AV) : den E 24 [(.agg [(.i .i64 x0_0), (.i .i64 x0_1), (.imm 1 x0_2), (.imm 10 x0_3)])] [] =
 bSh .b (den E 79 [(.ip (.agg [(.i .i64 x0_0), (.i .i64 x0_1), (.imm 1 x0_2), (.imm 10 x0_3)]) 0)] []) fun a1 =>
 some (.b a1.toB) := (den_eq ..).trans (by kernel_rfl)
/-! 72: loop.example/g00905/impl.within -/
theorem f72_eq (x0 : Int) (x1 : Int) (x2 : Int) : den E 72 [(.i .i64 x0), (.i .i64 x1), (.i .i64 x2)] [] =
 cond ((decide (x1 ≤ x0)) == true)
 (some (.b (decide (x0 ≤ x2))))
 (some (.b false)) := (den_eq ..).trans (by kernel_rfl)
/-! 81: loop.example/g00905/impl.ValidTable -/
theorem f81_eq (x0_0 : Int) (x0_1 : Int) (x0_2 : Int) (x0_3 : Int) (x0_4 : Int) (x0_5 : ByteArray) (x0_6 : ByteArray) (x0_7 : Int) (x0_8 : Int) (x0_9 : Int) : den E 81 [(.agg [(.i .i64 x0_0), (.i .i64 x0_1), (.i .i64 x0_2), (.i .i64 x0_3), (.i .i64 x0_4), (.s x0_5), (.s x0_6), (.i .i64 x0_7), (.i .i64 x0_8), (.i .i64 x0_9)])] [] =
 bSh .b (den E 72 [(.i .i64 x0_0), (.i .i64 (1 : Int)), (.i .i64 (1000000 : Int))] []) fun a1 =>
 cond (a1.toB == true)
 (bSh .b (den E 72 [(.i .i64 x0_1), (.i .i64 (0 : Int)), (.i .i64 (2 : Int))] []) fun a2 =>
 cond (a2.toB == true)
 (bSh .b (den E 72 [(.i .i64 x0_2), (.i .i64 (0 : Int)), (.i .i64 (11 : Int))] []) fun a3 =>
 cond (a3.toB == true)
 (bSh .b (den E 72 [(.i .i64 x0_3), (.i .i64 (0 : Int)), (.i .i64 (1000 : Int))] []) fun a4 =>
 cond (a4.toB == true)
 (bSh .b (den E 72 [(.i .i64 x0_4), (.i .i64 (1 : Int)), (.i .i64 (100 : Int))] []) fun a5 =>
 cond (a5.toB == true)
 (cond ((decide (((x0_5.size : Nat) : Int) ≤ (9 : Int))) == true)
 (cond ((decide (((x0_6.size : Nat) : Int) ≤ (9 : Int))) == true)
 (cond ((lessS x0_5 x0_6) == true)
 (cond ((decide ((0 : Int) < x0_7)) == true)
 (cond ((decide (x0_7 ≤ x0_8)) == true)
 (cond ((decide (x0_8 ≤ (1000000 : Int))) == true)
 (bSh .b (den E 72 [(.i .i64 x0_9), (.i .i64 (1 : Int)), (.i .i64 (60 : Int))] []) fun a6 =>
 some (.b a6.toB))
 (some (.b false)))
 (some (.b false)))
 (some (.b false)))
 (some (.b false)))
 (some (.b false)))
 (some (.b false)))
 (some (.b false)))
 (some (.b false)))
 (some (.b false)))
 (some (.b false)))
 (some (.b false)) := (den_eq ..).trans (by kernel_rfl)
/-! 82: loop.example/g00905/impl.increasing -/
noncomputable def f82_l1 (t0 : List AV) (t3 : Int) : Option AV := Lp E fi82 [true, false, true, false] (mkT 20 [(0, (.imm 1 t0)), (3, (.i .i64 t3))]) []
theorem f82_eq (x0 : List AV) : den E 82 [(.imm 1 x0)] [] =
 f82_l1 x0 (1 : Int) := (den_eq ..).trans (by kernel_rfl)
theorem f82_l1_eq (t0 : List AV) (t3 : Int) : f82_l1 t0 t3 =
 cond (decide (t3 < ((t0.length : Nat) : Int)))
 (if 0 ≤ t3 ∧ t3 < ((t0.length : Nat) : Int) then
 if okCells false (t0.getD t3.toNat .x) 0 [(.i .i64)] = true then
 if 0 ≤ (IntKind.i64.wrap (t3 - (1 : Int))) ∧ (IntKind.i64.wrap (t3 - (1 : Int))) < ((t0.length : Nat) : Int) then
 if okCells false (t0.getD (IntKind.i64.wrap (t3 - (1 : Int))).toNat .x) 0 [(.i .i64)] = true then
 cond (decide ((((t0.getD t3.toNat .x).cells.getD 0 .x).toI) ≤ (((t0.getD (IntKind.i64.wrap (t3 - (1 : Int))).toNat .x).cells.getD 0 .x).toI)))
 (some (.b false))
 (f82_l1 t0 (IntKind.i64.wrap (t3 + (1 : Int))))
 else none
 else none
 else none
 else none)
 (some (.b true)) := (Lp_eq ..).trans (by kernel_rfl)
/-! 145: loop.example/g00905/impl.allWithin$1 -/
theorem f145q1_eq (x0 : Int) (x1 : AV) (x2 : AV) : den E 145 [(.i .i64 x0), (.ip x1 0), (.ip x2 0)] [] =
 if okCells false x1 0 [(.i .i64)] = true then
 if okCells false x2 0 [(.i .i64)] = true then
 bSh .b (den E 72 [(.i .i64 x0), (.i .i64 ((x1.cells.getD 0 .x).toI)), (.i .i64 ((x2.cells.getD 0 .x).toI))] []) fun a1 =>
 some (.b (!a1.toB))
 else none
 else none := (den_eq ..).trans (by kernel_rfl)
/-! 192: slices.IndexFunc[[]int64,int64] -/
noncomputable def f192q1_l1 (t0 : List AV) (t1_0 : AV) (t1_1 : AV) (t7 : Int) (t8 : Int) : Option AV := Lp E fi192 [true, false, true, false] (mkT 19 [(0, (.imm 1 t0)), (1, (.fn 145 [(.ip t1_0 0), (.ip t1_1 0)])), (7, (.i .i64 t7)), (8, (.i .i64 t8))]) []
theorem f192q1_eq (x0 : List AV) (x1_0 : AV) (x1_1 : AV) : den E 192 [(.imm 1 x0), (.fn 145 [(.ip x1_0 0), (.ip x1_1 0)])] [] =
 f192q1_l1 x0 x1_0 x1_1 ((x0.length : Nat) : Int) (0 : Int) := (den_eq ..).trans (by kernel_rfl)
theorem f192q1_l1_eq (t0 : List AV) (t1_0 : AV) (t1_1 : AV) (t7 : Int) (t8 : Int) : f192q1_l1 t0 t1_0 t1_1 t7 t8 =
 cond (decide (t8 < t7))
 (if 0 ≤ t8 ∧ t8 < ((t0.length : Nat) : Int) then
 if okCells false (t0.getD t8.toNat .x) 0 [(.i .i64)] = true then
 bSh .b (den E 145 [(.i .i64 (((t0.getD t8.toNat .x).cells.getD 0 .x).toI)), (.ip t1_0 0), (.ip t1_1 0)] []) fun a1 =>
 cond a1.toB
 (some (.i .i64 t8))
 (f192q1_l1 t0 t1_0 t1_1 t7 (IntKind.i64.wrap (t8 + (1 : Int))))
 else none
 else none)
 (some (.i .i64 (-1 : Int))) := (Lp_eq ..).trans (by kernel_rfl)
/-! 144: slices.ContainsFunc[[]int64,int64] -/
theorem f144q1_eq (x0 : List AV) (x1_0 : AV) (x1_1 : AV) : den E 144 [(.imm 1 x0), (.fn 145 [(.ip x1_0 0), (.ip x1_1 0)])] [] =
 bSh (.i .i64) (den E 192 [(.imm 1 x0), (.fn 145 [(.ip x1_0 0), (.ip x1_1 0)])] []) fun a1 =>
 some (.b (decide ((0 : Int) ≤ a1.toI))) := (den_eq ..).trans (by kernel_rfl)
/-! 83: loop.example/g00905/impl.allWithin -/
theorem f83_eq (x0 : List AV) (x1 : Int) (x2 : Int) : den E 83 [(.imm 1 x0), (.i .i64 x1), (.i .i64 x2)] [] =
 bSh .b (den E 144 [(.imm 1 x0), (.fn 145 [(.ip (.i .i64 x1) 0), (.ip (.i .i64 x2) 0)])] []) fun a1 =>
 some (.b (!a1.toB)) := (den_eq ..).trans (by kernel_rfl)
/-! 26: loop.example/g00905/impl.ValidEdit -/
noncomputable def f26_l1 (t6 : List AV) (t7 : Int) (t8 : Int) (r0_0 : Int) (r0_1 : Int) (r0_2 : List AV) (r0_3 : List AV) : Option AV := Lp E fi26 [true, false, true, false] (mkT 57 [(1, (.pt 0 [] 0 0)), (6, (.imm 10 t6)), (7, (.i .i64 t7)), (8, (.i .i64 t8))]) [(.live false true false 42 [(.agg [(.i .i64 r0_0), (.i .i64 r0_1), (.imm 1 r0_2), (.imm 10 r0_3)])])]
noncomputable def f26_j2 (t6 : List AV) (t7 : Int) (t8 : Int) (r0_0 : Int) (r0_1 : Int) (r0_2 : List AV) (r0_3 : List AV) : Option AV := Jn E fi26 [true, false, true, false, false, true, true, true] (mkT 57 [(1, (.pt 0 [] 0 0)), (6, (.imm 10 t6)), (7, (.i .i64 t7)), (8, (.i .i64 t8))]) [(.live false true false 42 [(.agg [(.i .i64 r0_0), (.i .i64 r0_1), (.imm 1 r0_2), (.imm 10 r0_3)])])]
theorem f26_eq (x0_0 : Int) (x0_1 : Int) (x0_2 : List AV) (x0_3 : List AV) : den E 26 [(.agg [(.i .i64 x0_0), (.i .i64 x0_1), (.imm 1 x0_2), (.imm 10 x0_3)])] [] =
 f26_l1 x0_3 ((x0_3.length : Nat) : Int) (0 : Int) x0_0 x0_1 x0_2 x0_3 := (den_eq ..).trans (by kernel_rfl)
theorem f26_l1_eq (t6 : List AV) (t7 : Int) (t8 : Int) (r0_0 : Int) (r0_1 : Int) (r0_2 : List AV) (r0_3 : List AV) : f26_l1 t6 t7 t8 r0_0 r0_1 r0_2 r0_3 =
 cond (decide (t8 < t7))
 (if 0 ≤ t8 ∧ t8 < ((t6.length : Nat) : Int) then
 if okCells false (t6.getD t8.toNat .x) 0 [(.i .i64), (.i .i64), (.i .i64), (.i .i64), (.i .i64), .s, .s, (.i .i64), (.i .i64), (.i .i64)] = true then
 bSh .b (den E 81 [(.agg [(.i .i64 (((t6.getD t8.toNat .x).cells.getD 0 .x).toI)), (.i .i64 (((t6.getD t8.toNat .x).cells.getD 1 .x).toI)), (.i .i64 (((t6.getD t8.toNat .x).cells.getD 2 .x).toI)), (.i .i64 (((t6.getD t8.toNat .x).cells.getD 3 .x).toI)), (.i .i64 (((t6.getD t8.toNat .x).cells.getD 4 .x).toI)), (.s (((t6.getD t8.toNat .x).cells.getD 5 .x).toS)), (.s (((t6.getD t8.toNat .x).cells.getD 6 .x).toS)), (.i .i64 (((t6.getD t8.toNat .x).cells.getD 7 .x).toI)), (.i .i64 (((t6.getD t8.toNat .x).cells.getD 8 .x).toI)), (.i .i64 (((t6.getD t8.toNat .x).cells.getD 9 .x).toI))])] []) fun a1 =>
 cond ((!a1.toB) == false)
 (cond ((decide ((0 : Int) < t8)) == true)
 (if 0 ≤ (IntKind.i64.wrap (t8 - (1 : Int))) ∧ (IntKind.i64.wrap (t8 - (1 : Int))) < ((r0_3.length : Nat) : Int) then
 if okCells false (r0_3.getD (IntKind.i64.wrap (t8 - (1 : Int))).toNat .x) 0 [(.i .i64)] = true then
 cond (decide ((((t6.getD t8.toNat .x).cells.getD 0 .x).toI) ≤ (((r0_3.getD (IntKind.i64.wrap (t8 - (1 : Int))).toNat .x).cells.getD 0 .x).toI)))
 (some (.b false))
 (f26_j2 t6 t7 t8 r0_0 r0_1 r0_2 r0_3)
 else none
 else none)
 (f26_j2 t6 t7 t8 r0_0 r0_1 r0_2 r0_3))
 (some (.b false))
 else none
 else none)
 (bSh .b (den E 72 [(.i .i64 r0_0), (.i .i64 (0 : Int)), (.i .i64 (11 : Int))] []) fun a2 =>
 cond (a2.toB == true)
 (bSh .b (den E 72 [(.i .i64 r0_1), (.i .i64 (0 : Int)), (.i .i64 (1000000 : Int))] []) fun a3 =>
 cond (a3.toB == true)
 (bSh .b (den E 82 [(.imm 1 r0_2)] []) fun a4 =>
 cond (a4.toB == true)
 (bSh .b (den E 83 [(.imm 1 r0_2), (.i .i64 (1 : Int)), (.i .i64 (1000000 : Int))] []) fun a5 =>
 cond (a5.toB == true)
 (some (.b (decide (((r0_3.length : Nat) : Int) ≤ (16 : Int)))))
 (some (.b false)))
 (some (.b false)))
 (some (.b false)))
 (some (.b false))) := (Lp_eq ..).trans (by kernel_rfl)
theorem f26_j2_eq (t6 : List AV) (t7 : Int) (t8 : Int) (r0_0 : Int) (r0_1 : Int) (r0_2 : List AV) (r0_3 : List AV) : f26_j2 t6 t7 t8 r0_0 r0_1 r0_2 r0_3 =
 f26_l1 t6 t7 (IntKind.i64.wrap (t8 + (1 : Int))) r0_0 r0_1 r0_2 r0_3 := by kernel_rfl
/-! 62: loop.example/g00905/laws.eqInt64S -/
noncomputable def f62_l1 (t0 : List AV) (t1 : List AV) (t5 : Int) : Option AV := Lp E fi62 [true, true, false, true, false] (mkT 26 [(0, (.imm 1 t0)), (1, (.imm 1 t1)), (5, (.i .i64 t5))]) []
theorem f62_eq (x0 : List AV) (x1 : List AV) : den E 62 [(.imm 1 x0), (.imm 1 x1)] [] =
 cond (!decide (((x0.length : Nat) : Int) = ((x1.length : Nat) : Int)))
 (some (.b false))
 (f62_l1 x0 x1 (0 : Int)) := (den_eq ..).trans (by kernel_rfl)
theorem f62_l1_eq (t0 : List AV) (t1 : List AV) (t5 : Int) : f62_l1 t0 t1 t5 =
 cond (decide (t5 < ((t0.length : Nat) : Int)))
 (if 0 ≤ t5 ∧ t5 < ((t0.length : Nat) : Int) then
 if okCells false (t0.getD t5.toNat .x) 0 [(.i .i64)] = true then
 if 0 ≤ t5 ∧ t5 < ((t1.length : Nat) : Int) then
 if okCells false (t1.getD t5.toNat .x) 0 [(.i .i64)] = true then
 cond (!decide ((((t0.getD t5.toNat .x).cells.getD 0 .x).toI) = (((t1.getD t5.toNat .x).cells.getD 0 .x).toI)))
 (some (.b false))
 (f62_l1 t0 t1 (IntKind.i64.wrap (t5 + (1 : Int))))
 else none
 else none
 else none
 else none)
 (some (.b true)) := (Lp_eq ..).trans (by kernel_rfl)
/-! 146: loop.example/g00905/laws.eqTableRef -/
theorem f146_eq (x0_0 : Int) (x0_1 : Int) (x0_2 : Int) (x0_3 : Int) (x0_4 : Int) (x0_5 : ByteArray) (x0_6 : ByteArray) (x0_7 : Int) (x0_8 : Int) (x0_9 : Int) (x1_0 : Int) (x1_1 : Int) (x1_2 : Int) (x1_3 : Int) (x1_4 : Int) (x1_5 : ByteArray) (x1_6 : ByteArray) (x1_7 : Int) (x1_8 : Int) (x1_9 : Int) : den E 146 [(.agg [(.i .i64 x0_0), (.i .i64 x0_1), (.i .i64 x0_2), (.i .i64 x0_3), (.i .i64 x0_4), (.s x0_5), (.s x0_6), (.i .i64 x0_7), (.i .i64 x0_8), (.i .i64 x0_9)]), (.agg [(.i .i64 x1_0), (.i .i64 x1_1), (.i .i64 x1_2), (.i .i64 x1_3), (.i .i64 x1_4), (.s x1_5), (.s x1_6), (.i .i64 x1_7), (.i .i64 x1_8), (.i .i64 x1_9)])] [] =
 cond (!decide (x0_0 = x1_0))
 (some (.b false))
 (cond (!decide (x0_1 = x1_1))
 (some (.b false))
 (cond (!decide (x0_2 = x1_2))
 (some (.b false))
 (cond (!decide (x0_3 = x1_3))
 (some (.b false))
 (cond (!decide (x0_4 = x1_4))
 (some (.b false))
 (cond (!decide (x0_5 = x1_5))
 (some (.b false))
 (cond (!decide (x0_6 = x1_6))
 (some (.b false))
 (cond (!decide (x0_7 = x1_7))
 (some (.b false))
 (cond (!decide (x0_8 = x1_8))
 (some (.b false))
 (cond (!decide (x0_9 = x1_9))
 (some (.b false))
 (some (.b true))))))))))) := (den_eq ..).trans (by kernel_rfl)
/-! 84: loop.example/g00905/laws.eqTableRefS -/
noncomputable def f84_l1 (t0 : List AV) (t1 : List AV) (t5 : Int) : Option AV := Lp E fi84 [true, true, false, true, false] (mkT 27 [(0, (.imm 10 t0)), (1, (.imm 10 t1)), (5, (.i .i64 t5))]) []
theorem f84_eq (x0 : List AV) (x1 : List AV) : den E 84 [(.imm 10 x0), (.imm 10 x1)] [] =
 cond (!decide (((x0.length : Nat) : Int) = ((x1.length : Nat) : Int)))
 (some (.b false))
 (f84_l1 x0 x1 (0 : Int)) := (den_eq ..).trans (by kernel_rfl)
theorem f84_l1_eq (t0 : List AV) (t1 : List AV) (t5 : Int) : f84_l1 t0 t1 t5 =
 cond (decide (t5 < ((t0.length : Nat) : Int)))
 (if 0 ≤ t5 ∧ t5 < ((t0.length : Nat) : Int) then
 if okCells false (t0.getD t5.toNat .x) 0 [(.i .i64), (.i .i64), (.i .i64), (.i .i64), (.i .i64), .s, .s, (.i .i64), (.i .i64), (.i .i64)] = true then
 if 0 ≤ t5 ∧ t5 < ((t1.length : Nat) : Int) then
 if okCells false (t1.getD t5.toNat .x) 0 [(.i .i64), (.i .i64), (.i .i64), (.i .i64), (.i .i64), .s, .s, (.i .i64), (.i .i64), (.i .i64)] = true then
 bSh .b (den E 146 [(.agg [(.i .i64 (((t0.getD t5.toNat .x).cells.getD 0 .x).toI)), (.i .i64 (((t0.getD t5.toNat .x).cells.getD 1 .x).toI)), (.i .i64 (((t0.getD t5.toNat .x).cells.getD 2 .x).toI)), (.i .i64 (((t0.getD t5.toNat .x).cells.getD 3 .x).toI)), (.i .i64 (((t0.getD t5.toNat .x).cells.getD 4 .x).toI)), (.s (((t0.getD t5.toNat .x).cells.getD 5 .x).toS)), (.s (((t0.getD t5.toNat .x).cells.getD 6 .x).toS)), (.i .i64 (((t0.getD t5.toNat .x).cells.getD 7 .x).toI)), (.i .i64 (((t0.getD t5.toNat .x).cells.getD 8 .x).toI)), (.i .i64 (((t0.getD t5.toNat .x).cells.getD 9 .x).toI))]), (.agg [(.i .i64 (((t1.getD t5.toNat .x).cells.getD 0 .x).toI)), (.i .i64 (((t1.getD t5.toNat .x).cells.getD 1 .x).toI)), (.i .i64 (((t1.getD t5.toNat .x).cells.getD 2 .x).toI)), (.i .i64 (((t1.getD t5.toNat .x).cells.getD 3 .x).toI)), (.i .i64 (((t1.getD t5.toNat .x).cells.getD 4 .x).toI)), (.s (((t1.getD t5.toNat .x).cells.getD 5 .x).toS)), (.s (((t1.getD t5.toNat .x).cells.getD 6 .x).toS)), (.i .i64 (((t1.getD t5.toNat .x).cells.getD 7 .x).toI)), (.i .i64 (((t1.getD t5.toNat .x).cells.getD 8 .x).toI)), (.i .i64 (((t1.getD t5.toNat .x).cells.getD 9 .x).toI))])] []) fun a1 =>
 cond (!a1.toB)
 (some (.b false))
 (f84_l1 t0 t1 (IntKind.i64.wrap (t5 + (1 : Int))))
 else none
 else none
 else none
 else none)
 (some (.b true)) := (Lp_eq ..).trans (by kernel_rfl)
/-! 27: loop.example/g00905/laws.eqEdit -/
theorem f27_eq (x0_0 : Int) (x0_1 : Int) (x0_2 : List AV) (x0_3 : List AV) (x1_0 : Int) (x1_1 : Int) (x1_2 : List AV) (x1_3 : List AV) : den E 27 [(.agg [(.i .i64 x0_0), (.i .i64 x0_1), (.imm 1 x0_2), (.imm 10 x0_3)]), (.agg [(.i .i64 x1_0), (.i .i64 x1_1), (.imm 1 x1_2), (.imm 10 x1_3)])] [] =
 cond (!decide (x0_0 = x1_0))
 (some (.b false))
 (cond (!decide (x0_1 = x1_1))
 (some (.b false))
 (bSh .b (den E 62 [(.imm 1 x0_2), (.imm 1 x1_2)] []) fun a1 =>
 cond (!a1.toB)
 (some (.b false))
 (bSh .b (den E 84 [(.imm 10 x0_3), (.imm 10 x1_3)] []) fun a2 =>
 cond (!a2.toB)
 (some (.b false))
 (some (.b true))))) := (den_eq ..).trans (by kernel_rfl)
/-! 6: loop.example/g00905/laws.FnExactValidEdit -/
theorem f6_eq (x0_0 : Int) (x0_1 : Int) (x0_2 : List AV) (x0_3 : List AV) : den E 6 [(.agg [(.i .i64 x0_0), (.i .i64 x0_1), (.imm 1 x0_2), (.imm 10 x0_3)])] [] =
 bSh (.i .i64) (den E 23 [(.agg [(.i .i64 x0_0), (.i .i64 x0_1), (.imm 1 x0_2), (.imm 10 x0_3)]), (.i .i64 (1048576 : Int))] []) fun a1 =>
 cond (decide (a1.toI < (0 : Int)))
 (some (.b true))
 (bSh (.agg [(.i .i64), (.i .i64), (.sl 2 1), (.sl 118 10)]) (den E 25 [(.agg [(.i .i64 x0_0), (.i .i64 x0_1), (.imm 1 x0_2), (.imm 10 x0_3)])] []) fun a2 =>
 bSh .b (den E 24 [(.agg [(.i .i64 ((a2.nth 0).toI)), (.i .i64 ((a2.nth 1).toI)), (.imm 1 ((a2.nth 2).toL)), (.imm 10 ((a2.nth 3).toL))])] []) fun a3 =>
 bSh (.agg [(.i .i64), (.i .i64), (.sl 2 1), (.sl 118 10)]) (den E 25 [(.agg [(.i .i64 x0_0), (.i .i64 x0_1), (.imm 1 x0_2), (.imm 10 x0_3)])] []) fun a4 =>
 bSh .b (den E 26 [(.agg [(.i .i64 ((a4.nth 0).toI)), (.i .i64 ((a4.nth 1).toI)), (.imm 1 ((a4.nth 2).toL)), (.imm 10 ((a4.nth 3).toL))])] []) fun a5 =>
 cond (!decide (a5.toB = a3.toB))
 (some (.b false))
 (bSh (.agg [(.i .i64), (.i .i64), (.sl 2 1), (.sl 118 10)]) (den E 25 [(.agg [(.i .i64 x0_0), (.i .i64 x0_1), (.imm 1 x0_2), (.imm 10 x0_3)])] []) fun a6 =>
 bSh .b (den E 27 [(.agg [(.i .i64 ((a4.nth 0).toI)), (.i .i64 ((a4.nth 1).toI)), (.imm 1 ((a4.nth 2).toL)), (.imm 10 ((a4.nth 3).toL))]), (.agg [(.i .i64 ((a6.nth 0).toI)), (.i .i64 ((a6.nth 1).toI)), (.imm 1 ((a6.nth 2).toL)), (.imm 10 ((a6.nth 3).toL))])] []) fun a7 =>
 cond (!a7.toB)
 (some (.b false))
 (some (.b true)))) := (den_eq ..).trans (by kernel_rfl)
end Go.Proofs.Ythlmjmejnlalaaa.IValidEdit
