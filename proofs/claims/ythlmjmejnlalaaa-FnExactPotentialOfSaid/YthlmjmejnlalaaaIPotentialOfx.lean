/- Printed by a program of this work (wip/it/itp.py): what each function comes to. No condition. -/
import Derived.Test.YthlmjmejnlalaaaIPotentialOft
namespace Go.Proofs.Ythlmjmejnlalaaa.IPotentialOf
open Go Go.Proofs.YthlmjmejnlalaaaIT
set_option linter.unusedVariables false
/-! 141: loop.example/g00905/laws.szTableRef -/
theorem f141_eq (x0_0 : Int) (x0_1 : Int) (x0_2 : Int) (x0_3 : Int) (x0_4 : Int) (x0_5 : ByteArray) (x0_6 : ByteArray) (x0_7 : Int) (x0_8 : Int) (x0_9 : Int) (x1 : Int) : den E 141 [(.agg [(.i .i64 x0_0), (.i .i64 x0_1), (.i .i64 x0_2), (.i .i64 x0_3), (.i .i64 x0_4), (.s x0_5), (.s x0_6), (.i .i64 x0_7), (.i .i64 x0_8), (.i .i64 x0_9)]), (.i .i64 x1)] [] =
 cond (decide ((IntKind.i64.wrap (x1 - ((x0_5.size : Nat) : Int))) < (0 : Int)))
 (some (.i .i64 (-1 : Int)))
 (cond (decide ((IntKind.i64.wrap ((IntKind.i64.wrap (x1 - ((x0_5.size : Nat) : Int))) - ((x0_6.size : Nat) : Int))) < (0 : Int)))
 (some (.i .i64 (-1 : Int)))
 (some (.i .i64 (IntKind.i64.wrap ((IntKind.i64.wrap (x1 - ((x0_5.size : Nat) : Int))) - ((x0_6.size : Nat) : Int)))))) := (den_eq ..).trans (by kernel_rfl)
/-! 78: loop.example/g00905/laws.szTableRefS -/
noncomputable def f78_l1 (t0 : List AV) (t1 : Int) (t5 : Int) : Option AV := Lp E fi78 [true, true, true, false, true, false] (mkT 27 [(0, (.imm 10 t0)), (1, (.i .i64 t1)), (5, (.i .i64 t5))]) []
theorem f78_eq (x0 : List AV) (x1 : Int) : den E 78 [(.imm 10 x0), (.i .i64 x1)] [] =
 cond (decide ((IntKind.i64.wrap (x1 - ((x0.length : Nat) : Int))) < (0 : Int)))
 (some (.i .i64 (-1 : Int)))
 (f78_l1 x0 (IntKind.i64.wrap (x1 - ((x0.length : Nat) : Int))) (0 : Int)) := (den_eq ..).trans (by kernel_rfl)
theorem f78_l1_eq (t0 : List AV) (t1 : Int) (t5 : Int) : f78_l1 t0 t1 t5 =
 cond (decide (t5 < ((t0.length : Nat) : Int)))
 (if 0 ≤ t5 ∧ t5 < ((t0.length : Nat) : Int) then
 if okCells false (t0.getD t5.toNat .x) 0 [(.i .i64), (.i .i64), (.i .i64), (.i .i64), (.i .i64), .s, .s, (.i .i64), (.i .i64), (.i .i64)] = true then
 bSh (.i .i64) (den E 141 [(.agg [(.i .i64 (((t0.getD t5.toNat .x).cells.getD 0 .x).toI)), (.i .i64 (((t0.getD t5.toNat .x).cells.getD 1 .x).toI)), (.i .i64 (((t0.getD t5.toNat .x).cells.getD 2 .x).toI)), (.i .i64 (((t0.getD t5.toNat .x).cells.getD 3 .x).toI)), (.i .i64 (((t0.getD t5.toNat .x).cells.getD 4 .x).toI)), (.s (((t0.getD t5.toNat .x).cells.getD 5 .x).toS)), (.s (((t0.getD t5.toNat .x).cells.getD 6 .x).toS)), (.i .i64 (((t0.getD t5.toNat .x).cells.getD 7 .x).toI)), (.i .i64 (((t0.getD t5.toNat .x).cells.getD 8 .x).toI)), (.i .i64 (((t0.getD t5.toNat .x).cells.getD 9 .x).toI))]), (.i .i64 t1)] []) fun a1 =>
 cond (decide (a1.toI < (0 : Int)))
 (some (.i .i64 (-1 : Int)))
 (f78_l1 t0 a1.toI (IntKind.i64.wrap (t5 + (1 : Int))))
 else none
 else none)
 (some (.i .i64 t1)) := (Lp_eq ..).trans (by kernel_rfl)
/-! 40: loop.example/g00905/laws.szVersion -/
theorem f40_eq (x0_0 : Int) (x0_1 : Int) (x0_2 : Int) (x0_3 : List AV) (x1 : Int) : den E 40 [(.agg [(.i .i64 x0_0), (.i .i64 x0_1), (.i .i64 x0_2), (.imm 10 x0_3)]), (.i .i64 x1)] [] =
 bSh (.i .i64) (den E 78 [(.imm 10 x0_3), (.i .i64 x1)] []) fun a1 =>
 cond (decide (a1.toI < (0 : Int)))
 (some (.i .i64 (-1 : Int)))
 (some (.i .i64 a1.toI)) := (den_eq ..).trans (by kernel_rfl)
/-! 143: loop.example/g00905/laws.toTableRef -/
theorem f143_eq (x0_0 : Int) (x0_1 : Int) (x0_2 : Int) (x0_3 : Int) (x0_4 : Int) (x0_5 : ByteArray) (x0_6 : ByteArray) (x0_7 : Int) (x0_8 : Int) (x0_9 : Int) : den E 143 [(.agg [(.i .i64 x0_0), (.i .i64 x0_1), (.i .i64 x0_2), (.i .i64 x0_3), (.i .i64 x0_4), (.s x0_5), (.s x0_6), (.i .i64 x0_7), (.i .i64 x0_8), (.i .i64 x0_9)])] [] =
 some (.agg [(.i .i64 x0_0), (.i .i64 x0_1), (.i .i64 x0_2), (.i .i64 x0_3), (.i .i64 x0_4), (.s x0_5), (.s x0_6), (.i .i64 x0_7), (.i .i64 x0_8), (.i .i64 x0_9)]) := (den_eq ..).trans (by kernel_rfl)
/-! 80: loop.example/g00905/laws.toTableRefS -/
noncomputable def f80_l1 (t0 : List AV) (t4 : Int) (r0 : List AV) (r1 : List AV) : Option AV := Lp E fi80 [true, true, false, true, false] (mkT 23 [(0, (.imm 10 t0)), (3, (.sl 1 [] none)), (4, (.i .i64 t4))]) [(.live true false false 118 r0), (.live true false false 118 r1)]
theorem f80_eq (x0 : List AV) : den E 80 [(.imm 10 x0)] [] =
 if 0 ≤ ((x0.length : Nat) : Int) ∧ ((x0.length : Nat) : Int) ≤ ((x0.length : Nat) : Int) ∧ ((x0.length : Nat) : Int) * ((96 : Nat) : Int) ≤ ((room : Nat) : Int) ∧ ((x0.length : Nat) : Int) ≤ 9223372036854775807 then
 f80_l1 x0 (0 : Int) [] (List.replicate ((x0.length : Nat) : Int).toNat (.agg [(.i .i64 (0 : Int)), (.i .i64 (0 : Int)), (.i .i64 (0 : Int)), (.i .i64 (0 : Int)), (.i .i64 (0 : Int)), (.s .empty), (.s .empty), (.i .i64 (0 : Int)), (.i .i64 (0 : Int)), (.i .i64 (0 : Int))]))
 else none := (den_eq ..).trans (by kernel_rfl)
theorem f80_l1_eq (t0 : List AV) (t4 : Int) (r0 : List AV) (r1 : List AV) : f80_l1 t0 t4 r0 r1 =
 cond (decide (t4 < ((t0.length : Nat) : Int)))
 (if 0 ≤ t4 ∧ t4 < ((t0.length : Nat) : Int) then
 if okCells false (t0.getD t4.toNat .x) 0 [(.i .i64), (.i .i64), (.i .i64), (.i .i64), (.i .i64), .s, .s, (.i .i64), (.i .i64), (.i .i64)] = true then
 bSh (.agg [(.i .i64), (.i .i64), (.i .i64), (.i .i64), (.i .i64), .s, .s, (.i .i64), (.i .i64), (.i .i64)]) (den E 143 [(.agg [(.i .i64 (((t0.getD t4.toNat .x).cells.getD 0 .x).toI)), (.i .i64 (((t0.getD t4.toNat .x).cells.getD 1 .x).toI)), (.i .i64 (((t0.getD t4.toNat .x).cells.getD 2 .x).toI)), (.i .i64 (((t0.getD t4.toNat .x).cells.getD 3 .x).toI)), (.i .i64 (((t0.getD t4.toNat .x).cells.getD 4 .x).toI)), (.s (((t0.getD t4.toNat .x).cells.getD 5 .x).toS)), (.s (((t0.getD t4.toNat .x).cells.getD 6 .x).toS)), (.i .i64 (((t0.getD t4.toNat .x).cells.getD 7 .x).toI)), (.i .i64 (((t0.getD t4.toNat .x).cells.getD 8 .x).toI)), (.i .i64 (((t0.getD t4.toNat .x).cells.getD 9 .x).toI))])] []) fun a1 =>
 if 0 ≤ t4 ∧ t4 < ((r1.length : Nat) : Int) then
 f80_l1 t0 (IntKind.i64.wrap (t4 + (1 : Int))) r0 (r1.set (0 + t4.toNat) ((r1.getD (0 + t4.toNat) .x).putCells 0 [(.i .i64 ((a1.nth 0).toI)), (.i .i64 ((a1.nth 1).toI)), (.i .i64 ((a1.nth 2).toI)), (.i .i64 ((a1.nth 3).toI)), (.i .i64 ((a1.nth 4).toI)), (.s ((a1.nth 5).toS)), (.s ((a1.nth 6).toS)), (.i .i64 ((a1.nth 7).toI)), (.i .i64 ((a1.nth 8).toI)), (.i .i64 ((a1.nth 9).toI))]))
 else none
 else none
 else none)
 (some (.imm 10 r1)) := (Lp_eq ..).trans (by kernel_rfl)
/-! 42: loop.example/g00905/laws.toVersion -/
theorem f42_eq (x0_0 : Int) (x0_1 : Int) (x0_2 : Int) (x0_3 : List AV) : den E 42 [(.agg [(.i .i64 x0_0), (.i .i64 x0_1), (.i .i64 x0_2), (.imm 10 x0_3)])] [] =
 bSh (.sl 118 10) (den E 80 [(.imm 10 x0_3)] []) fun a1 =>
 some (.agg [(.i .i64 x0_0), (.i .i64 x0_1), (.i .i64 x0_2), (.imm 10 a1.toL)]) := (den_eq ..).trans (by kernel_rfl)
/-! 90: loop.example/g00905/spec.l00In -/
theorem f90_eq (x0 : Int) (x1 : Int) (x2 : Int) : den E 90 [(.i .i64 x0), (.i .i64 x1), (.i .i64 x2)] [] =
 cond ((decide (x1 ≤ x0)) == true)
 (some (.b (decide (x0 ≤ x2))))
 (some (.b false)) := (den_eq ..).trans (by kernel_rfl)
/-! 142: loop.example/g00905/spec.l25Table -/
theorem f142_eq (x0 : AV) : den E 142 [(.ip x0 0)] [] =
 if okCells false x0 0 [(.i .i64)] = true then
 bSh .b (den E 90 [(.i .i64 ((x0.cells.getD 0 .x).toI)), (.i .i64 (1 : Int)), (.i .i64 (1000000 : Int))] []) fun a1 =>
 cond ((!a1.toB) == false)
 (if okCells false x0 1 [(.i .i64)] = true then
 bSh .b (den E 90 [(.i .i64 ((x0.cells.getD 1 .x).toI)), (.i .i64 (0 : Int)), (.i .i64 (2 : Int))] []) fun a2 =>
 cond ((!a2.toB) == false)
 (if okCells false x0 2 [(.i .i64)] = true then
 bSh .b (den E 90 [(.i .i64 ((x0.cells.getD 2 .x).toI)), (.i .i64 (0 : Int)), (.i .i64 (11 : Int))] []) fun a3 =>
 cond ((!a3.toB) == false)
 (if okCells false x0 3 [(.i .i64)] = true then
 bSh .b (den E 90 [(.i .i64 ((x0.cells.getD 3 .x).toI)), (.i .i64 (0 : Int)), (.i .i64 (1000 : Int))] []) fun a4 =>
 cond ((!a4.toB) == false)
 (if okCells false x0 4 [(.i .i64)] = true then
 bSh .b (den E 90 [(.i .i64 ((x0.cells.getD 4 .x).toI)), (.i .i64 (1 : Int)), (.i .i64 (100 : Int))] []) fun a5 =>
 cond (!a5.toB)
 (some (.b false))
 (if okCells false x0 5 [.s] = true then
 cond ((decide ((9 : Int) < ((((x0.cells.getD 5 .x).toS).size : Nat) : Int))) == false)
 (if okCells false x0 6 [.s] = true then
 cond ((decide ((9 : Int) < ((((x0.cells.getD 6 .x).toS).size : Nat) : Int))) == false)
 (if okCells false x0 5 [.s] = true then
 if okCells false x0 6 [.s] = true then
 cond (!lessS ((x0.cells.getD 5 .x).toS) ((x0.cells.getD 6 .x).toS))
 (some (.b false))
 (if okCells false x0 7 [(.i .i64)] = true then
 cond ((decide ((0 : Int) < ((x0.cells.getD 7 .x).toI))) == true)
 (if okCells false x0 7 [(.i .i64)] = true then
 if okCells false x0 8 [(.i .i64)] = true then
 cond ((decide (((x0.cells.getD 7 .x).toI) ≤ ((x0.cells.getD 8 .x).toI))) == true)
 (if okCells false x0 8 [(.i .i64)] = true then
 cond ((decide (((x0.cells.getD 8 .x).toI) ≤ (1000000 : Int))) == true)
 (if okCells false x0 9 [(.i .i64)] = true then
 bSh .b (den E 90 [(.i .i64 ((x0.cells.getD 9 .x).toI)), (.i .i64 (1 : Int)), (.i .i64 (60 : Int))] []) fun a6 =>
 some (.b a6.toB)
 else none)
 (some (.b false))
 else none)
 (some (.b false))
 else none
 else none)
 (some (.b false))
 else none)
 else none
 else none)
 (some (.b false))
 else none)
 (some (.b false))
 else none)
 else none)
 (some (.b false))
 else none)
 (some (.b false))
 else none)
 (some (.b false))
 else none)
 (some (.b false))
 else none := (den_eq ..).trans (by kernel_rfl)
/-! 157: loop.example/g00905/spec.l25Before -/
theorem f157_eq (x0 : AV) (x1 : AV) : den E 157 [(.ip x0 0), (.ip x1 0)] [] =
 if okCells false x0 1 [(.i .i64)] = true then
 if okCells false x1 1 [(.i .i64)] = true then
 cond (!decide (((x0.cells.getD 1 .x).toI) = ((x1.cells.getD 1 .x).toI)))
 (if okCells false x0 1 [(.i .i64)] = true then
 if okCells false x1 1 [(.i .i64)] = true then
 some (.b (decide (((x0.cells.getD 1 .x).toI) < ((x1.cells.getD 1 .x).toI))))
 else none
 else none)
 (if okCells false x0 1 [(.i .i64)] = true then
 cond (decide (((x0.cells.getD 1 .x).toI) = (0 : Int)))
 (if okCells false x0 0 [(.i .i64)] = true then
 if okCells false x1 0 [(.i .i64)] = true then
 some (.b (decide (((x1.cells.getD 0 .x).toI) < ((x0.cells.getD 0 .x).toI))))
 else none
 else none)
 (if okCells false x0 5 [.s] = true then
 if okCells false x1 5 [.s] = true then
 cond ((lessS ((x0.cells.getD 5 .x).toS) ((x1.cells.getD 5 .x).toS)) == true)
 (if okCells false x0 6 [.s] = true then
 if okCells false x1 5 [.s] = true then
 some (.b (lessS ((x0.cells.getD 6 .x).toS) ((x1.cells.getD 5 .x).toS) || decide (((x0.cells.getD 6 .x).toS) = ((x1.cells.getD 5 .x).toS))))
 else none
 else none)
 (some (.b false))
 else none
 else none)
 else none)
 else none
 else none := (den_eq ..).trans (by kernel_rfl)
/-! 104: loop.example/g00905/spec.l25Ok -/
noncomputable def f104_l1 (t0 : AV) (t3 : Int) : Option AV := Lp E fi104 [true, true, false, true, false] (mkT 110 [(0, (.ip t0 0)), (3, (.i .i64 t3))]) []
noncomputable def f104_j2 (t0 : AV) (t3 : Int) (t4 : AV) : Option AV := Jn E fi104 [true, true, false, true, false, false, true, false, false, true, true] (mkT 110 [(0, (.ip t0 0)), (3, (.i .i64 t3)), (4, (.ip t4 0))]) []
noncomputable def f104_l3 (t0 : AV) (t3 : Int) (t4 : AV) (t5 : Int) : Option AV := Lp E fi104 [true, true, false, true, false, false, true, false, false, true, true, true, false] (mkT 110 [(0, (.ip t0 0)), (3, (.i .i64 t3)), (4, (.ip t4 0)), (5, (.i .i64 t5))]) []
theorem f104_eq (x0 : AV) : den E 104 [(.ip x0 0)] [] =
 if okCells false x0 0 [(.i .i64)] = true then
 bSh .b (den E 90 [(.i .i64 ((x0.cells.getD 0 .x).toI)), (.i .i64 (1 : Int)), (.i .i64 (1000000 : Int))] []) fun a1 =>
 cond ((!a1.toB) == false)
 (if okCells false x0 1 [(.i .i64)] = true then
 bSh .b (den E 90 [(.i .i64 ((x0.cells.getD 1 .x).toI)), (.i .i64 (0 : Int)), (.i .i64 (11 : Int))] []) fun a2 =>
 cond ((!a2.toB) == false)
 (if okCells false x0 2 [(.i .i64)] = true then
 bSh .b (den E 90 [(.i .i64 ((x0.cells.getD 2 .x).toI)), (.i .i64 (0 : Int)), (.i .i64 (1000000 : Int))] []) fun a3 =>
 cond ((!a3.toB) == false)
 (if okCells false x0 3 [(.sl 118 10)] = true then
 cond (decide ((16 : Int) < ((((x0.cells.getD 3 .x).toL).length : Nat) : Int)))
 (some (.b false))
 (f104_l1 x0 (0 : Int))
 else none)
 (some (.b false))
 else none)
 (some (.b false))
 else none)
 (some (.b false))
 else none := (den_eq ..).trans (by kernel_rfl)
theorem f104_l1_eq (t0 : AV) (t3 : Int) : f104_l1 t0 t3 =
 if okCells false t0 3 [(.sl 118 10)] = true then
 cond (decide (t3 < ((((t0.cells.getD 3 .x).toL).length : Nat) : Int)))
 (if okCells false t0 3 [(.sl 118 10)] = true then
 if 0 ≤ t3 ∧ t3 < ((((t0.cells.getD 3 .x).toL).length : Nat) : Int) then
 bSh .b (den E 142 [(.ip (((t0.cells.getD 3 .x).toL).getD t3.toNat .x) 0)] []) fun a1 =>
 cond ((!a1.toB) == false)
 (if okCells false (((t0.cells.getD 3 .x).toL).getD t3.toNat .x) 0 [(.i .i64)] = true then
 if okCells false t0 0 [(.i .i64)] = true then
 cond ((decide (((t0.cells.getD 0 .x).toI) ≤ (((((t0.cells.getD 3 .x).toL).getD t3.toNat .x).cells.getD 0 .x).toI))) == false)
 (if okCells false (((t0.cells.getD 3 .x).toL).getD t3.toNat .x) 8 [(.i .i64)] = true then
 if okCells false t0 2 [(.i .i64)] = true then
 cond ((decide (((t0.cells.getD 2 .x).toI) < (((((t0.cells.getD 3 .x).toL).getD t3.toNat .x).cells.getD 8 .x).toI))) == false)
 (cond ((decide ((0 : Int) < t3)) == true)
 (if okCells false t0 3 [(.sl 118 10)] = true then
 if 0 ≤ (IntKind.i64.wrap (t3 - (1 : Int))) ∧ (IntKind.i64.wrap (t3 - (1 : Int))) < ((((t0.cells.getD 3 .x).toL).length : Nat) : Int) then
 bSh .b (den E 157 [(.ip (((t0.cells.getD 3 .x).toL).getD (IntKind.i64.wrap (t3 - (1 : Int))).toNat .x) 0), (.ip (((t0.cells.getD 3 .x).toL).getD t3.toNat .x) 0)] []) fun a2 =>
 cond (!a2.toB)
 (some (.b false))
 (f104_j2 t0 t3 (((t0.cells.getD 3 .x).toL).getD t3.toNat .x))
 else none
 else none)
 (f104_j2 t0 t3 (((t0.cells.getD 3 .x).toL).getD t3.toNat .x)))
 (some (.b false))
 else none
 else none)
 (some (.b false))
 else none
 else none)
 (some (.b false))
 else none
 else none)
 (some (.b true))
 else none := (Lp_eq ..).trans (by kernel_rfl)
theorem f104_j2_eq (t0 : AV) (t3 : Int) (t4 : AV) : f104_j2 t0 t3 t4 =
 f104_l3 t0 t3 t4 (0 : Int) := by kernel_rfl
theorem f104_l3_eq (t0 : AV) (t3 : Int) (t4 : AV) (t5 : Int) : f104_l3 t0 t3 t4 t5 =
 cond (decide (t5 < t3))
 (if okCells false t0 3 [(.sl 118 10)] = true then
 if 0 ≤ t5 ∧ t5 < ((((t0.cells.getD 3 .x).toL).length : Nat) : Int) then
 if okCells false (((t0.cells.getD 3 .x).toL).getD t5.toNat .x) 0 [(.i .i64)] = true then
 if okCells false t4 0 [(.i .i64)] = true then
 cond (decide ((((((t0.cells.getD 3 .x).toL).getD t5.toNat .x).cells.getD 0 .x).toI) = ((t4.cells.getD 0 .x).toI)))
 (some (.b false))
 (f104_l3 t0 t3 t4 (IntKind.i64.wrap (t5 + (1 : Int))))
 else none
 else none
 else none
 else none)
 (f104_l1 t0 (IntKind.i64.wrap (t3 + (1 : Int)))) := (Lp_eq ..).trans (by kernel_rfl)
/-! 54: loop.example/g00905/spec.PotentialOf -/
noncomputable def f54_l1 (t3 : Int) (t4 : Int) (r0_0 : Int) (r0_1 : Int) (r0_2 : Int) (r0_3 : List AV) : Option AV := Lp E fi54 [true, true, true, false, true, false] (mkT 32 [(1, (.pt 0 [] 0 0)), (3, (.i .i64 t3)), (4, (.i .i64 t4))]) [(.live false true false 73 [(.agg [(.i .i64 r0_0), (.i .i64 r0_1), (.i .i64 r0_2), (.imm 10 r0_3)])])]
theorem f54_eq (x0_0 : Int) (x0_1 : Int) (x0_2 : Int) (x0_3 : List AV) : den E 54 [(.agg [(.i .i64 x0_0), (.i .i64 x0_1), (.i .i64 x0_2), (.imm 10 x0_3)])] [] =
 bSh .b (den E 104 [(.ip (.agg [(.i .i64 x0_0), (.i .i64 x0_1), (.i .i64 x0_2), (.imm 10 x0_3)]) 0)] []) fun a1 =>
 cond (!a1.toB)
 (some (.i .i64 (0 : Int)))
 (f54_l1 (0 : Int) (0 : Int) x0_0 x0_1 x0_2 x0_3) := (den_eq ..).trans (by kernel_rfl)
theorem f54_l1_eq (t3 : Int) (t4 : Int) (r0_0 : Int) (r0_1 : Int) (r0_2 : Int) (r0_3 : List AV) : f54_l1 t3 t4 r0_0 r0_1 r0_2 r0_3 =
 cond (decide (t4 < ((r0_3.length : Nat) : Int)))
 (if 0 ≤ t4 ∧ t4 < ((r0_3.length : Nat) : Int) then
 if okCells false (r0_3.getD t4.toNat .x) 9 [(.i .i64)] = true then
 if 0 ≤ t4 ∧ t4 < ((r0_3.length : Nat) : Int) then
 if okCells false (r0_3.getD t4.toNat .x) 1 [(.i .i64)] = true then
 f54_l1 (IntKind.i64.wrap (t3 + (IntKind.i64.wrap ((((r0_3.getD t4.toNat .x).cells.getD 9 .x).toI) * (IntKind.i64.wrap ((2 : Int) - (((r0_3.getD t4.toNat .x).cells.getD 1 .x).toI))))))) (IntKind.i64.wrap (t4 + (1 : Int))) r0_0 r0_1 r0_2 r0_3
 else none
 else none
 else none
 else none)
 (some (.i .i64 t3)) := (Lp_eq ..).trans (by kernel_rfl)
/-! 72: loop.example/g00905/impl.within -/
theorem f72_eq (x0 : Int) (x1 : Int) (x2 : Int) : den E 72 [(.i .i64 x0), (.i .i64 x1), (.i .i64 x2)] [] =
 cond ((decide (x1 ≤ x0)) == true)
 (some (.b (decide (x0 ≤ x2))))
 (some (.b false)) := (den_eq ..).trans (by kernel_rfl)
/-! 81: loop.example/g00905/impl.ValidTable -/
theorem f81_eq (x0_0 : Int) (x0_1 : Int) (x0_2 : Int) (x0_3 : Int) (x0_4 : Int) (x0_5 : ByteArray) (x0_6 : ByteArray) (x0_7 : Int) (x0_8 : Int) (x0_9 : Int) : den E 81 [(.agg [(.i .i64 x0_0), (.i .i64 x0_1), (.i .i64 x0_2), (.i .i64 x0_3), (.i .i64 x0_4), (.s x0_5), (.s x0_6), (.i .i64 x0_7), (.i .i64 x0_8), (.i .i64 x0_9)])] [] =
 bSh .b (den E 72 [(.i .i64 x0_0), (.i .i64 (1 : Int)), (.i .i64 (1000000 : Int))] []) fun a1 =>
 cond (a1.toB == true)
 (bSh .b (den E 72 [(.i .i64 x0_1), (.i .i64 (0 : Int)), (.i .i64 (2 : Int))] []) fun a2 =>
 cond (a2.toB == true)
 (bSh .b (den E 72 [(.i .i64 x0_2), (.i .i64 (0 : Int)), (.i .i64 (11 : Int))] []) fun a3 =>
 cond (a3.toB == true)
 (bSh .b (den E 72 [(.i .i64 x0_3), (.i .i64 (0 : Int)), (.i .i64 (1000 : Int))] []) fun a4 =>
 cond (a4.toB == true)
 (bSh .b (den E 72 [(.i .i64 x0_4), (.i .i64 (1 : Int)), (.i .i64 (100 : Int))] []) fun a5 =>
 cond (a5.toB == true)
 (cond ((decide (((x0_5.size : Nat) : Int) ≤ (9 : Int))) == true)
 (cond ((decide (((x0_6.size : Nat) : Int) ≤ (9 : Int))) == true)
 (cond ((lessS x0_5 x0_6) == true)
 (cond ((decide ((0 : Int) < x0_7)) == true)
 (cond ((decide (x0_7 ≤ x0_8)) == true)
 (cond ((decide (x0_8 ≤ (1000000 : Int))) == true)
 (bSh .b (den E 72 [(.i .i64 x0_9), (.i .i64 (1 : Int)), (.i .i64 (60 : Int))] []) fun a6 =>
 some (.b a6.toB))
 (some (.b false)))
 (some (.b false)))
 (some (.b false)))
 (some (.b false)))
 (some (.b false)))
 (some (.b false)))
 (some (.b false)))
 (some (.b false)))
 (some (.b false)))
 (some (.b false)))
 (some (.b false)) := (den_eq ..).trans (by kernel_rfl)
/-! 159: (loop.example/g00905/impl.Version).tablesOk$1 -/
theorem f159q1_eq (x0_0 : Int) (x0_1 : Int) (x0_2 : Int) (x0_3 : Int) (x0_4 : Int) (x0_5 : ByteArray) (x0_6 : ByteArray) (x0_7 : Int) (x0_8 : Int) (x0_9 : Int) (x1 : AV) : den E 159 [(.agg [(.i .i64 x0_0), (.i .i64 x0_1), (.i .i64 x0_2), (.i .i64 x0_3), (.i .i64 x0_4), (.s x0_5), (.s x0_6), (.i .i64 x0_7), (.i .i64 x0_8), (.i .i64 x0_9)]), (.ip x1 0)] [] =
 if okCells false x1 0 [(.i .i64)] = true then
 some (.b (decide (x0_0 = ((x1.cells.getD 0 .x).toI))))
 else none := (den_eq ..).trans (by kernel_rfl)
/-! 196: slices.IndexFunc[[]loop.example/g00905/impl.TableRef,loop.example/g00905/impl.TableRef] -/
noncomputable def f196q1_l1 (t0 : List AV) (t1_0 : AV) (t7 : Int) (t8 : Int) : Option AV := Lp E fi196 [true, false, true, false] (mkT 19 [(0, (.imm 10 t0)), (1, (.fn 159 [(.ip t1_0 0)])), (7, (.i .i64 t7)), (8, (.i .i64 t8))]) []
theorem f196q1_eq (x0 : List AV) (x1_0 : AV) : den E 196 [(.imm 10 x0), (.fn 159 [(.ip x1_0 0)])] [] =
 f196q1_l1 x0 x1_0 ((x0.length : Nat) : Int) (0 : Int) := (den_eq ..).trans (by kernel_rfl)
theorem f196q1_l1_eq (t0 : List AV) (t1_0 : AV) (t7 : Int) (t8 : Int) : f196q1_l1 t0 t1_0 t7 t8 =
 cond (decide (t8 < t7))
 (if 0 ≤ t8 ∧ t8 < ((t0.length : Nat) : Int) then
 if okCells false (t0.getD t8.toNat .x) 0 [(.i .i64), (.i .i64), (.i .i64), (.i .i64), (.i .i64), .s, .s, (.i .i64), (.i .i64), (.i .i64)] = true then
 bSh .b (den E 159 [(.agg [(.i .i64 (((t0.getD t8.toNat .x).cells.getD 0 .x).toI)), (.i .i64 (((t0.getD t8.toNat .x).cells.getD 1 .x).toI)), (.i .i64 (((t0.getD t8.toNat .x).cells.getD 2 .x).toI)), (.i .i64 (((t0.getD t8.toNat .x).cells.getD 3 .x).toI)), (.i .i64 (((t0.getD t8.toNat .x).cells.getD 4 .x).toI)), (.s (((t0.getD t8.toNat .x).cells.getD 5 .x).toS)), (.s (((t0.getD t8.toNat .x).cells.getD 6 .x).toS)), (.i .i64 (((t0.getD t8.toNat .x).cells.getD 7 .x).toI)), (.i .i64 (((t0.getD t8.toNat .x).cells.getD 8 .x).toI)), (.i .i64 (((t0.getD t8.toNat .x).cells.getD 9 .x).toI))]), (.ip t1_0 0)] []) fun a1 =>
 cond a1.toB
 (some (.i .i64 t8))
 (f196q1_l1 t0 t1_0 t7 (IntKind.i64.wrap (t8 + (1 : Int))))
 else none
 else none)
 (some (.i .i64 (-1 : Int))) := (Lp_eq ..).trans (by kernel_rfl)
/-! 158: slices.ContainsFunc[[]loop.example/g00905/impl.TableRef,loop.example/g00905/impl.TableRef] -/
theorem f158q1_eq (x0 : List AV) (x1_0 : AV) : den E 158 [(.imm 10 x0), (.fn 159 [(.ip x1_0 0)])] [] =
 bSh (.i .i64) (den E 196 [(.imm 10 x0), (.fn 159 [(.ip x1_0 0)])] []) fun a1 =>
 some (.b (decide ((0 : Int) ≤ a1.toI))) := (den_eq ..).trans (by kernel_rfl)
/-! 211: cmp.isNaN[int64] -/
theorem f211_eq (x0 : Int) : den E 211 [(.i .i64 x0)] [] =
 some (.b (!decide (x0 = x0))) := (den_eq ..).trans (by kernel_rfl)
/-! 197: cmp.Compare[int64] -/
theorem f197_eq (x0 : Int) (x1 : Int) : den E 197 [(.i .i64 x0), (.i .i64 x1)] [] =
 bSh .b (den E 211 [(.i .i64 x0)] []) fun a1 =>
 bSh .b (den E 211 [(.i .i64 x1)] []) fun a2 =>
 cond a1.toB
 (cond a2.toB
 (some (.i .i64 (0 : Int)))
 (some (.i .i64 (-1 : Int))))
 (cond a2.toB
 (some (.i .i64 (1 : Int)))
 (cond (decide (x0 < x1))
 (some (.i .i64 (-1 : Int)))
 (cond (decide (x1 < x0))
 (some (.i .i64 (1 : Int)))
 (some (.i .i64 (0 : Int)))))) := (den_eq ..).trans (by kernel_rfl)
/-! 212: internal/bytealg.CompareString -/
theorem f212_eq (x0 x1 : ByteArray) : den E 212 [(.s x0), (.s x1)] [] = some (.i .i64 (cmpB x0 x1)) := (den_eq ..).trans (by kernel_rfl)
/-! 199: strings.Compare -/
theorem f199_eq (x0 : ByteArray) (x1 : ByteArray) : den E 199 [(.s x0), (.s x1)] [] =
 bSh (.i .i64) (den E 212 [(.s x0), (.s x1)] []) fun a1 =>
 some (.i .i64 a1.toI) := (den_eq ..).trans (by kernel_rfl)
/-! 198: cmp.Or[int] -/
noncomputable def f198_l1 (t3 : Int) (t6 : List AV) (t7 : Int) (t8 : Int) : Option AV := Lp E fi198 [true, true, false, true, false] (mkT 18 [(3, (.i .i64 t3)), (6, (.imm 1 t6)), (7, (.i .i64 t7)), (8, (.i .i64 t8))]) []
theorem f198_eq (x0 : List AV) : den E 198 [(.imm 1 x0)] [] =
 f198_l1 (0 : Int) x0 ((x0.length : Nat) : Int) (0 : Int) := (den_eq ..).trans (by kernel_rfl)
theorem f198_l1_eq (t3 : Int) (t6 : List AV) (t7 : Int) (t8 : Int) : f198_l1 t3 t6 t7 t8 =
 cond (decide (t8 < t7))
 (if 0 ≤ t8 ∧ t8 < ((t6.length : Nat) : Int) then
 if okCells false (t6.getD t8.toNat .x) 0 [(.i .i64)] = true then
 cond (!decide ((((t6.getD t8.toNat .x).cells.getD 0 .x).toI) = t3))
 (some (.i .i64 (((t6.getD t8.toNat .x).cells.getD 0 .x).toI)))
 (f198_l1 t3 t6 t7 (IntKind.i64.wrap (t8 + (1 : Int))))
 else none
 else none)
 (some (.i .i64 t3)) := (Lp_eq ..).trans (by kernel_rfl)
/-! 160: loop.example/g00905/impl.compareRefs -/
noncomputable def f160_j1 (r0_0 : Int) (r0_1 : Int) (r0_2 : Int) (r0_3 : Int) (r0_4 : Int) (r0_5 : ByteArray) (r0_6 : ByteArray) (r0_7 : Int) (r0_8 : Int) (r0_9 : Int) (r1_0 : Int) (r1_1 : Int) (r1_2 : Int) (r1_3 : Int) (r1_4 : Int) (r1_5 : ByteArray) (r1_6 : ByteArray) (r1_7 : Int) (r1_8 : Int) (r1_9 : Int) : Option AV := Jn E fi160 [true, true] (mkT 32 [(2, (.pt 0 [] 0 0)), (3, (.pt 1 [] 0 0))]) [(.live false true false 118 [(.agg [(.i .i64 r0_0), (.i .i64 r0_1), (.i .i64 r0_2), (.i .i64 r0_3), (.i .i64 r0_4), (.s r0_5), (.s r0_6), (.i .i64 r0_7), (.i .i64 r0_8), (.i .i64 r0_9)])]), (.live false true false 118 [(.agg [(.i .i64 r1_0), (.i .i64 r1_1), (.i .i64 r1_2), (.i .i64 r1_3), (.i .i64 r1_4), (.s r1_5), (.s r1_6), (.i .i64 r1_7), (.i .i64 r1_8), (.i .i64 r1_9)])])]
theorem f160_eq (x0_0 : Int) (x0_1 : Int) (x0_2 : Int) (x0_3 : Int) (x0_4 : Int) (x0_5 : ByteArray) (x0_6 : ByteArray) (x0_7 : Int) (x0_8 : Int) (x0_9 : Int) (x1_0 : Int) (x1_1 : Int) (x1_2 : Int) (x1_3 : Int) (x1_4 : Int) (x1_5 : ByteArray) (x1_6 : ByteArray) (x1_7 : Int) (x1_8 : Int) (x1_9 : Int) : den E 160 [(.agg [(.i .i64 x0_0), (.i .i64 x0_1), (.i .i64 x0_2), (.i .i64 x0_3), (.i .i64 x0_4), (.s x0_5), (.s x0_6), (.i .i64 x0_7), (.i .i64 x0_8), (.i .i64 x0_9)]), (.agg [(.i .i64 x1_0), (.i .i64 x1_1), (.i .i64 x1_2), (.i .i64 x1_3), (.i .i64 x1_4), (.s x1_5), (.s x1_6), (.i .i64 x1_7), (.i .i64 x1_8), (.i .i64 x1_9)])] [] =
 cond ((decide (x0_1 = x1_1)) == true)
 (cond (decide (x0_1 = (0 : Int)))
 (bSh (.i .i64) (den E 197 [(.i .i64 x1_0), (.i .i64 x0_0)] []) fun a1 =>
 some (.i .i64 a1.toI))
 (f160_j1 x0_0 x0_1 x0_2 x0_3 x0_4 x0_5 x0_6 x0_7 x0_8 x0_9 x1_0 x1_1 x1_2 x1_3 x1_4 x1_5 x1_6 x1_7 x1_8 x1_9))
 (f160_j1 x0_0 x0_1 x0_2 x0_3 x0_4 x0_5 x0_6 x0_7 x0_8 x0_9 x1_0 x1_1 x1_2 x1_3 x1_4 x1_5 x1_6 x1_7 x1_8 x1_9) := (den_eq ..).trans (by kernel_rfl)
theorem f160_j1_eq (r0_0 : Int) (r0_1 : Int) (r0_2 : Int) (r0_3 : Int) (r0_4 : Int) (r0_5 : ByteArray) (r0_6 : ByteArray) (r0_7 : Int) (r0_8 : Int) (r0_9 : Int) (r1_0 : Int) (r1_1 : Int) (r1_2 : Int) (r1_3 : Int) (r1_4 : Int) (r1_5 : ByteArray) (r1_6 : ByteArray) (r1_7 : Int) (r1_8 : Int) (r1_9 : Int) : f160_j1 r0_0 r0_1 r0_2 r0_3 r0_4 r0_5 r0_6 r0_7 r0_8 r0_9 r1_0 r1_1 r1_2 r1_3 r1_4 r1_5 r1_6 r1_7 r1_8 r1_9 =
 bSh (.i .i64) (den E 197 [(.i .i64 r0_1), (.i .i64 r1_1)] []) fun a1 =>
 bSh (.i .i64) (den E 199 [(.s r0_5), (.s r1_5)] []) fun a2 =>
 bSh (.i .i64) (den E 198 [(.imm 1 [(.i .i64 a1.toI), (.i .i64 a2.toI)])] []) fun a3 =>
 some (.i .i64 a3.toI) := by kernel_rfl
/-! 105: (loop.example/g00905/impl.Version).tablesOk -/
noncomputable def f105_l1 (t7 : List AV) (t8 : Int) (t9 : Int) (r0_0 : Int) (r0_1 : Int) (r0_2 : Int) (r0_3 : List AV) : Option AV := Lp E fi105 [true, false, true, false] (mkT 75 [(1, (.pt 0 [] 0 0)), (7, (.imm 10 t7)), (8, (.i .i64 t8)), (9, (.i .i64 t9))]) [(.live false true false 73 [(.agg [(.i .i64 r0_0), (.i .i64 r0_1), (.i .i64 r0_2), (.imm 10 r0_3)])])]
noncomputable def f105_j2 (t7 : List AV) (t8 : Int) (t9 : Int) (r0_0 : Int) (r0_1 : Int) (r0_2 : Int) (r0_3 : List AV) : Option AV := Jn E fi105 [true, false, true, false, false, true, true, true] (mkT 75 [(1, (.pt 0 [] 0 0)), (7, (.imm 10 t7)), (8, (.i .i64 t8)), (9, (.i .i64 t9))]) [(.live false true false 73 [(.agg [(.i .i64 r0_0), (.i .i64 r0_1), (.i .i64 r0_2), (.imm 10 r0_3)])])]
theorem f105_eq (x0_0 : Int) (x0_1 : Int) (x0_2 : Int) (x0_3 : List AV) : den E 105 [(.agg [(.i .i64 x0_0), (.i .i64 x0_1), (.i .i64 x0_2), (.imm 10 x0_3)])] [] =
 f105_l1 x0_3 ((x0_3.length : Nat) : Int) (0 : Int) x0_0 x0_1 x0_2 x0_3 := (den_eq ..).trans (by kernel_rfl)
theorem f105_l1_eq (t7 : List AV) (t8 : Int) (t9 : Int) (r0_0 : Int) (r0_1 : Int) (r0_2 : Int) (r0_3 : List AV) : f105_l1 t7 t8 t9 r0_0 r0_1 r0_2 r0_3 =
 cond (decide (t9 < t8))
 (if 0 ≤ t9 ∧ t9 < ((t7.length : Nat) : Int) then
 if okCells false (t7.getD t9.toNat .x) 0 [(.i .i64), (.i .i64), (.i .i64), (.i .i64), (.i .i64), .s, .s, (.i .i64), (.i .i64), (.i .i64)] = true then
 bSh .b (den E 81 [(.agg [(.i .i64 (((t7.getD t9.toNat .x).cells.getD 0 .x).toI)), (.i .i64 (((t7.getD t9.toNat .x).cells.getD 1 .x).toI)), (.i .i64 (((t7.getD t9.toNat .x).cells.getD 2 .x).toI)), (.i .i64 (((t7.getD t9.toNat .x).cells.getD 3 .x).toI)), (.i .i64 (((t7.getD t9.toNat .x).cells.getD 4 .x).toI)), (.s (((t7.getD t9.toNat .x).cells.getD 5 .x).toS)), (.s (((t7.getD t9.toNat .x).cells.getD 6 .x).toS)), (.i .i64 (((t7.getD t9.toNat .x).cells.getD 7 .x).toI)), (.i .i64 (((t7.getD t9.toNat .x).cells.getD 8 .x).toI)), (.i .i64 (((t7.getD t9.toNat .x).cells.getD 9 .x).toI))])] []) fun a1 =>
 cond ((!a1.toB) == false)
 (cond ((decide (r0_0 ≤ (((t7.getD t9.toNat .x).cells.getD 0 .x).toI))) == false)
 (cond ((decide (r0_2 < (((t7.getD t9.toNat .x).cells.getD 8 .x).toI))) == false)
 (if 0 ≤ (0 : Int) ∧ (0 : Int) ≤ t9 ∧ t9 ≤ ((r0_3.length : Nat) : Int) then
 bSh .b (den E 158 [(.imm 10 (r0_3.take t9.toNat)), (.fn 159 [(.ip (.agg [(.i .i64 (((t7.getD t9.toNat .x).cells.getD 0 .x).toI)), (.i .i64 (((t7.getD t9.toNat .x).cells.getD 1 .x).toI)), (.i .i64 (((t7.getD t9.toNat .x).cells.getD 2 .x).toI)), (.i .i64 (((t7.getD t9.toNat .x).cells.getD 3 .x).toI)), (.i .i64 (((t7.getD t9.toNat .x).cells.getD 4 .x).toI)), (.s (((t7.getD t9.toNat .x).cells.getD 5 .x).toS)), (.s (((t7.getD t9.toNat .x).cells.getD 6 .x).toS)), (.i .i64 (((t7.getD t9.toNat .x).cells.getD 7 .x).toI)), (.i .i64 (((t7.getD t9.toNat .x).cells.getD 8 .x).toI)), (.i .i64 (((t7.getD t9.toNat .x).cells.getD 9 .x).toI))]) 0)])] []) fun a2 =>
 cond a2.toB
 (some (.b false))
 (cond (decide (t9 = (0 : Int)))
 (f105_j2 t7 t8 t9 r0_0 r0_1 r0_2 r0_3)
 (if 0 ≤ (IntKind.i64.wrap (t9 - (1 : Int))) ∧ (IntKind.i64.wrap (t9 - (1 : Int))) < ((r0_3.length : Nat) : Int) then
 if okCells false (r0_3.getD (IntKind.i64.wrap (t9 - (1 : Int))).toNat .x) 0 [(.i .i64), (.i .i64), (.i .i64), (.i .i64), (.i .i64), .s, .s, (.i .i64), (.i .i64), (.i .i64)] = true then
 bSh (.i .i64) (den E 160 [(.agg [(.i .i64 (((r0_3.getD (IntKind.i64.wrap (t9 - (1 : Int))).toNat .x).cells.getD 0 .x).toI)), (.i .i64 (((r0_3.getD (IntKind.i64.wrap (t9 - (1 : Int))).toNat .x).cells.getD 1 .x).toI)), (.i .i64 (((r0_3.getD (IntKind.i64.wrap (t9 - (1 : Int))).toNat .x).cells.getD 2 .x).toI)), (.i .i64 (((r0_3.getD (IntKind.i64.wrap (t9 - (1 : Int))).toNat .x).cells.getD 3 .x).toI)), (.i .i64 (((r0_3.getD (IntKind.i64.wrap (t9 - (1 : Int))).toNat .x).cells.getD 4 .x).toI)), (.s (((r0_3.getD (IntKind.i64.wrap (t9 - (1 : Int))).toNat .x).cells.getD 5 .x).toS)), (.s (((r0_3.getD (IntKind.i64.wrap (t9 - (1 : Int))).toNat .x).cells.getD 6 .x).toS)), (.i .i64 (((r0_3.getD (IntKind.i64.wrap (t9 - (1 : Int))).toNat .x).cells.getD 7 .x).toI)), (.i .i64 (((r0_3.getD (IntKind.i64.wrap (t9 - (1 : Int))).toNat .x).cells.getD 8 .x).toI)), (.i .i64 (((r0_3.getD (IntKind.i64.wrap (t9 - (1 : Int))).toNat .x).cells.getD 9 .x).toI))]), (.agg [(.i .i64 (((t7.getD t9.toNat .x).cells.getD 0 .x).toI)), (.i .i64 (((t7.getD t9.toNat .x).cells.getD 1 .x).toI)), (.i .i64 (((t7.getD t9.toNat .x).cells.getD 2 .x).toI)), (.i .i64 (((t7.getD t9.toNat .x).cells.getD 3 .x).toI)), (.i .i64 (((t7.getD t9.toNat .x).cells.getD 4 .x).toI)), (.s (((t7.getD t9.toNat .x).cells.getD 5 .x).toS)), (.s (((t7.getD t9.toNat .x).cells.getD 6 .x).toS)), (.i .i64 (((t7.getD t9.toNat .x).cells.getD 7 .x).toI)), (.i .i64 (((t7.getD t9.toNat .x).cells.getD 8 .x).toI)), (.i .i64 (((t7.getD t9.toNat .x).cells.getD 9 .x).toI))])] []) fun a3 =>
 cond ((decide ((0 : Int) ≤ a3.toI)) == false)
 (cond ((decide ((0 : Int) < (((t7.getD t9.toNat .x).cells.getD 1 .x).toI))) == true)
 (cond ((decide ((((r0_3.getD (IntKind.i64.wrap (t9 - (1 : Int))).toNat .x).cells.getD 1 .x).toI) = (((t7.getD t9.toNat .x).cells.getD 1 .x).toI))) == true)
 (cond (!(lessS (((r0_3.getD (IntKind.i64.wrap (t9 - (1 : Int))).toNat .x).cells.getD 6 .x).toS) (((t7.getD t9.toNat .x).cells.getD 5 .x).toS) || decide ((((r0_3.getD (IntKind.i64.wrap (t9 - (1 : Int))).toNat .x).cells.getD 6 .x).toS) = (((t7.getD t9.toNat .x).cells.getD 5 .x).toS))))
 (some (.b false))
 (f105_j2 t7 t8 t9 r0_0 r0_1 r0_2 r0_3))
 (f105_j2 t7 t8 t9 r0_0 r0_1 r0_2 r0_3))
 (f105_j2 t7 t8 t9 r0_0 r0_1 r0_2 r0_3))
 (some (.b false))
 else none
 else none))
 else none)
 (some (.b false)))
 (some (.b false)))
 (some (.b false))
 else none
 else none)
 (some (.b (decide (((r0_3.length : Nat) : Int) ≤ (16 : Int))))) := (Lp_eq ..).trans (by kernel_rfl)
theorem f105_j2_eq (t7 : List AV) (t8 : Int) (t9 : Int) (r0_0 : Int) (r0_1 : Int) (r0_2 : Int) (r0_3 : List AV) : f105_j2 t7 t8 t9 r0_0 r0_1 r0_2 r0_3 =
 f105_l1 t7 t8 (IntKind.i64.wrap (t9 + (1 : Int))) r0_0 r0_1 r0_2 r0_3 := by kernel_rfl
/-! 43: loop.example/g00905/impl.ValidVersion -/
theorem f43_eq (x0_0 : Int) (x0_1 : Int) (x0_2 : Int) (x0_3 : List AV) : den E 43 [(.agg [(.i .i64 x0_0), (.i .i64 x0_1), (.i .i64 x0_2), (.imm 10 x0_3)])] [] =
 bSh .b (den E 72 [(.i .i64 x0_0), (.i .i64 (1 : Int)), (.i .i64 (1000000 : Int))] []) fun a1 =>
 cond (a1.toB == true)
 (bSh .b (den E 72 [(.i .i64 x0_1), (.i .i64 (0 : Int)), (.i .i64 (11 : Int))] []) fun a2 =>
 cond (a2.toB == true)
 (bSh .b (den E 72 [(.i .i64 x0_2), (.i .i64 (0 : Int)), (.i .i64 (1000000 : Int))] []) fun a3 =>
 cond (a3.toB == true)
 (bSh .b (den E 105 [(.agg [(.i .i64 x0_0), (.i .i64 x0_1), (.i .i64 x0_2), (.imm 10 x0_3)])] []) fun a4 =>
 some (.b a4.toB))
 (some (.b false)))
 (some (.b false)))
 (some (.b false)) := (den_eq ..).trans (by kernel_rfl)
/-! 55: loop.example/g00905/impl.PotentialOf -/
noncomputable def f55_l1 (t3 : Int) (t10 : List AV) (t11 : Int) (t12 : Int) : Option AV := Lp E fi55 [true, true, true, false, true, false] (mkT 26 [(3, (.i .i64 t3)), (10, (.imm 10 t10)), (11, (.i .i64 t11)), (12, (.i .i64 t12))]) []
theorem f55_eq (x0_0 : Int) (x0_1 : Int) (x0_2 : Int) (x0_3 : List AV) : den E 55 [(.agg [(.i .i64 x0_0), (.i .i64 x0_1), (.i .i64 x0_2), (.imm 10 x0_3)])] [] =
 bSh .b (den E 43 [(.agg [(.i .i64 x0_0), (.i .i64 x0_1), (.i .i64 x0_2), (.imm 10 x0_3)])] []) fun a1 =>
 cond (!a1.toB)
 (some (.i .i64 (0 : Int)))
 (f55_l1 (0 : Int) x0_3 ((x0_3.length : Nat) : Int) (0 : Int)) := (den_eq ..).trans (by kernel_rfl)
theorem f55_l1_eq (t3 : Int) (t10 : List AV) (t11 : Int) (t12 : Int) : f55_l1 t3 t10 t11 t12 =
 cond (decide (t12 < t11))
 (if 0 ≤ t12 ∧ t12 < ((t10.length : Nat) : Int) then
 if okCells false (t10.getD t12.toNat .x) 0 [(.i .i64), (.i .i64), (.i .i64), (.i .i64), (.i .i64), .s, .s, (.i .i64), (.i .i64), (.i .i64)] = true then
 f55_l1 (IntKind.i64.wrap (t3 + (IntKind.i64.wrap ((((t10.getD t12.toNat .x).cells.getD 9 .x).toI) * (IntKind.i64.wrap ((2 : Int) - (((t10.getD t12.toNat .x).cells.getD 1 .x).toI))))))) t10 t11 (IntKind.i64.wrap (t12 + (1 : Int)))
 else none
 else none)
 (some (.i .i64 t3)) := (Lp_eq ..).trans (by kernel_rfl)
/-! 146: loop.example/g00905/laws.eqTableRef -/
theorem f146_eq (x0_0 : Int) (x0_1 : Int) (x0_2 : Int) (x0_3 : Int) (x0_4 : Int) (x0_5 : ByteArray) (x0_6 : ByteArray) (x0_7 : Int) (x0_8 : Int) (x0_9 : Int) (x1_0 : Int) (x1_1 : Int) (x1_2 : Int) (x1_3 : Int) (x1_4 : Int) (x1_5 : ByteArray) (x1_6 : ByteArray) (x1_7 : Int) (x1_8 : Int) (x1_9 : Int) : den E 146 [(.agg [(.i .i64 x0_0), (.i .i64 x0_1), (.i .i64 x0_2), (.i .i64 x0_3), (.i .i64 x0_4), (.s x0_5), (.s x0_6), (.i .i64 x0_7), (.i .i64 x0_8), (.i .i64 x0_9)]), (.agg [(.i .i64 x1_0), (.i .i64 x1_1), (.i .i64 x1_2), (.i .i64 x1_3), (.i .i64 x1_4), (.s x1_5), (.s x1_6), (.i .i64 x1_7), (.i .i64 x1_8), (.i .i64 x1_9)])] [] =
 cond (!decide (x0_0 = x1_0))
 (some (.b false))
 (cond (!decide (x0_1 = x1_1))
 (some (.b false))
 (cond (!decide (x0_2 = x1_2))
 (some (.b false))
 (cond (!decide (x0_3 = x1_3))
 (some (.b false))
 (cond (!decide (x0_4 = x1_4))
 (some (.b false))
 (cond (!decide (x0_5 = x1_5))
 (some (.b false))
 (cond (!decide (x0_6 = x1_6))
 (some (.b false))
 (cond (!decide (x0_7 = x1_7))
 (some (.b false))
 (cond (!decide (x0_8 = x1_8))
 (some (.b false))
 (cond (!decide (x0_9 = x1_9))
 (some (.b false))
 (some (.b true))))))))))) := (den_eq ..).trans (by kernel_rfl)
/-! 84: loop.example/g00905/laws.eqTableRefS -/
noncomputable def f84_l1 (t0 : List AV) (t1 : List AV) (t5 : Int) : Option AV := Lp E fi84 [true, true, false, true, false] (mkT 27 [(0, (.imm 10 t0)), (1, (.imm 10 t1)), (5, (.i .i64 t5))]) []
theorem f84_eq (x0 : List AV) (x1 : List AV) : den E 84 [(.imm 10 x0), (.imm 10 x1)] [] =
 cond (!decide (((x0.length : Nat) : Int) = ((x1.length : Nat) : Int)))
 (some (.b false))
 (f84_l1 x0 x1 (0 : Int)) := (den_eq ..).trans (by kernel_rfl)
theorem f84_l1_eq (t0 : List AV) (t1 : List AV) (t5 : Int) : f84_l1 t0 t1 t5 =
 cond (decide (t5 < ((t0.length : Nat) : Int)))
 (if 0 ≤ t5 ∧ t5 < ((t0.length : Nat) : Int) then
 if okCells false (t0.getD t5.toNat .x) 0 [(.i .i64), (.i .i64), (.i .i64), (.i .i64), (.i .i64), .s, .s, (.i .i64), (.i .i64), (.i .i64)] = true then
 if 0 ≤ t5 ∧ t5 < ((t1.length : Nat) : Int) then
 if okCells false (t1.getD t5.toNat .x) 0 [(.i .i64), (.i .i64), (.i .i64), (.i .i64), (.i .i64), .s, .s, (.i .i64), (.i .i64), (.i .i64)] = true then
 bSh .b (den E 146 [(.agg [(.i .i64 (((t0.getD t5.toNat .x).cells.getD 0 .x).toI)), (.i .i64 (((t0.getD t5.toNat .x).cells.getD 1 .x).toI)), (.i .i64 (((t0.getD t5.toNat .x).cells.getD 2 .x).toI)), (.i .i64 (((t0.getD t5.toNat .x).cells.getD 3 .x).toI)), (.i .i64 (((t0.getD t5.toNat .x).cells.getD 4 .x).toI)), (.s (((t0.getD t5.toNat .x).cells.getD 5 .x).toS)), (.s (((t0.getD t5.toNat .x).cells.getD 6 .x).toS)), (.i .i64 (((t0.getD t5.toNat .x).cells.getD 7 .x).toI)), (.i .i64 (((t0.getD t5.toNat .x).cells.getD 8 .x).toI)), (.i .i64 (((t0.getD t5.toNat .x).cells.getD 9 .x).toI))]), (.agg [(.i .i64 (((t1.getD t5.toNat .x).cells.getD 0 .x).toI)), (.i .i64 (((t1.getD t5.toNat .x).cells.getD 1 .x).toI)), (.i .i64 (((t1.getD t5.toNat .x).cells.getD 2 .x).toI)), (.i .i64 (((t1.getD t5.toNat .x).cells.getD 3 .x).toI)), (.i .i64 (((t1.getD t5.toNat .x).cells.getD 4 .x).toI)), (.s (((t1.getD t5.toNat .x).cells.getD 5 .x).toS)), (.s (((t1.getD t5.toNat .x).cells.getD 6 .x).toS)), (.i .i64 (((t1.getD t5.toNat .x).cells.getD 7 .x).toI)), (.i .i64 (((t1.getD t5.toNat .x).cells.getD 8 .x).toI)), (.i .i64 (((t1.getD t5.toNat .x).cells.getD 9 .x).toI))])] []) fun a1 =>
 cond (!a1.toB)
 (some (.b false))
 (f84_l1 t0 t1 (IntKind.i64.wrap (t5 + (1 : Int))))
 else none
 else none
 else none
 else none)
 (some (.b true)) := (Lp_eq ..).trans (by kernel_rfl)
/-! 44: loop.example/g00905/laws.eqVersion -/
theorem f44_eq (x0_0 : Int) (x0_1 : Int) (x0_2 : Int) (x0_3 : List AV) (x1_0 : Int) (x1_1 : Int) (x1_2 : Int) (x1_3 : List AV) : den E 44 [(.agg [(.i .i64 x0_0), (.i .i64 x0_1), (.i .i64 x0_2), (.imm 10 x0_3)]), (.agg [(.i .i64 x1_0), (.i .i64 x1_1), (.i .i64 x1_2), (.imm 10 x1_3)])] [] =
 cond (!decide (x0_0 = x1_0))
 (some (.b false))
 (cond (!decide (x0_1 = x1_1))
 (some (.b false))
 (cond (!decide (x0_2 = x1_2))
 (some (.b false))
 (bSh .b (den E 84 [(.imm 10 x0_3), (.imm 10 x1_3)] []) fun a1 =>
 cond (!a1.toB)
 (some (.b false))
 (some (.b true))))) := (den_eq ..).trans (by kernel_rfl)
/-! 12: loop.example/g00905/laws.FnExactPotentialOf -/
theorem f12_eq (x0_0 : Int) (x0_1 : Int) (x0_2 : Int) (x0_3 : List AV) : den E 12 [(.agg [(.i .i64 x0_0), (.i .i64 x0_1), (.i .i64 x0_2), (.imm 10 x0_3)])] [] =
 bSh (.i .i64) (den E 40 [(.agg [(.i .i64 x0_0), (.i .i64 x0_1), (.i .i64 x0_2), (.imm 10 x0_3)]), (.i .i64 (1048576 : Int))] []) fun a1 =>
 cond (decide (a1.toI < (0 : Int)))
 (some (.b true))
 (bSh (.agg [(.i .i64), (.i .i64), (.i .i64), (.sl 118 10)]) (den E 42 [(.agg [(.i .i64 x0_0), (.i .i64 x0_1), (.i .i64 x0_2), (.imm 10 x0_3)])] []) fun a2 =>
 bSh (.i .i64) (den E 54 [(.agg [(.i .i64 ((a2.nth 0).toI)), (.i .i64 ((a2.nth 1).toI)), (.i .i64 ((a2.nth 2).toI)), (.imm 10 ((a2.nth 3).toL))])] []) fun a3 =>
 bSh (.agg [(.i .i64), (.i .i64), (.i .i64), (.sl 118 10)]) (den E 42 [(.agg [(.i .i64 x0_0), (.i .i64 x0_1), (.i .i64 x0_2), (.imm 10 x0_3)])] []) fun a4 =>
 bSh (.i .i64) (den E 55 [(.agg [(.i .i64 ((a4.nth 0).toI)), (.i .i64 ((a4.nth 1).toI)), (.i .i64 ((a4.nth 2).toI)), (.imm 10 ((a4.nth 3).toL))])] []) fun a5 =>
 cond (!decide (a5.toI = a3.toI))
 (some (.b false))
 (bSh (.agg [(.i .i64), (.i .i64), (.i .i64), (.sl 118 10)]) (den E 42 [(.agg [(.i .i64 x0_0), (.i .i64 x0_1), (.i .i64 x0_2), (.imm 10 x0_3)])] []) fun a6 =>
 bSh .b (den E 44 [(.agg [(.i .i64 ((a4.nth 0).toI)), (.i .i64 ((a4.nth 1).toI)), (.i .i64 ((a4.nth 2).toI)), (.imm 10 ((a4.nth 3).toL))]), (.agg [(.i .i64 ((a6.nth 0).toI)), (.i .i64 ((a6.nth 1).toI)), (.i .i64 ((a6.nth 2).toI)), (.imm 10 ((a6.nth 3).toL))])] []) fun a7 =>
 cond (!a7.toB)
 (some (.b false))
 (some (.b true)))) := (den_eq ..).trans (by kernel_rfl)
end Go.Proofs.Ythlmjmejnlalaaa.IPotentialOf
