/- Printed by a program of this work (wip/it/itp.py): what each function comes to. No condition. -/
import Derived.Test.YthlmjmejnlalaabILiveInZonet
namespace Go.Proofs.Ythlmjmejnlalaab.ILiveInZone
open Go Go.Proofs.YthlmjmejnlalaabIT
set_option linter.unusedVariables false
/-! 158: loop.example/g00905/laws.szTableRef -/
theorem f158_eq (x0_0 : Int) (x0_1 : Int) (x0_2 : Int) (x0_3 : Int) (x0_4 : Int) (x0_5 : ByteArray) (x0_6 : ByteArray) (x0_7 : Int) (x0_8 : Int) (x0_9 : Int) (x1 : Int) : den E 158 [(.agg [(.i .i64 x0_0), (.i .i64 x0_1), (.i .i64 x0_2), (.i .i64 x0_3), (.i .i64 x0_4), (.s x0_5), (.s x0_6), (.i .i64 x0_7), (.i .i64 x0_8), (.i .i64 x0_9)]), (.i .i64 x1)] [] =
 cond (decide ((IntKind.i64.wrap (x1 - ((x0_5.size : Nat) : Int))) < (0 : Int)))
 (some (.i .i64 (-1 : Int)))
 (cond (decide ((IntKind.i64.wrap ((IntKind.i64.wrap (x1 - ((x0_5.size : Nat) : Int))) - ((x0_6.size : Nat) : Int))) < (0 : Int)))
 (some (.i .i64 (-1 : Int)))
 (some (.i .i64 (IntKind.i64.wrap ((IntKind.i64.wrap (x1 - ((x0_5.size : Nat) : Int))) - ((x0_6.size : Nat) : Int)))))) := (den_eq ..).trans (by kernel_rfl)
/-! 98: loop.example/g00905/laws.szTableRefS -/
noncomputable def f98_l1 (t0 : List AV) (t1 : Int) (t5 : Int) : Option AV := Lp E fi98 [true, true, true, false, true, false] (mkT 27 [(0, (.imm 10 t0)), (1, (.i .i64 t1)), (5, (.i .i64 t5))]) []
theorem f98_eq (x0 : List AV) (x1 : Int) : den E 98 [(.imm 10 x0), (.i .i64 x1)] [] =
 cond (decide ((IntKind.i64.wrap (x1 - ((x0.length : Nat) : Int))) < (0 : Int)))
 (some (.i .i64 (-1 : Int)))
 (f98_l1 x0 (IntKind.i64.wrap (x1 - ((x0.length : Nat) : Int))) (0 : Int)) := (den_eq ..).trans (by kernel_rfl)
theorem f98_l1_eq (t0 : List AV) (t1 : Int) (t5 : Int) : f98_l1 t0 t1 t5 =
 cond (decide (t5 < ((t0.length : Nat) : Int)))
 (if 0 ≤ t5 ∧ t5 < ((t0.length : Nat) : Int) then
 if okCells false (t0.getD t5.toNat .x) 0 [(.i .i64), (.i .i64), (.i .i64), (.i .i64), (.i .i64), .s, .s, (.i .i64), (.i .i64), (.i .i64)] = true then
 bSh (.i .i64) (den E 158 [(.agg [(.i .i64 (((t0.getD t5.toNat .x).cells.getD 0 .x).toI)), (.i .i64 (((t0.getD t5.toNat .x).cells.getD 1 .x).toI)), (.i .i64 (((t0.getD t5.toNat .x).cells.getD 2 .x).toI)), (.i .i64 (((t0.getD t5.toNat .x).cells.getD 3 .x).toI)), (.i .i64 (((t0.getD t5.toNat .x).cells.getD 4 .x).toI)), (.s (((t0.getD t5.toNat .x).cells.getD 5 .x).toS)), (.s (((t0.getD t5.toNat .x).cells.getD 6 .x).toS)), (.i .i64 (((t0.getD t5.toNat .x).cells.getD 7 .x).toI)), (.i .i64 (((t0.getD t5.toNat .x).cells.getD 8 .x).toI)), (.i .i64 (((t0.getD t5.toNat .x).cells.getD 9 .x).toI))]), (.i .i64 t1)] []) fun a1 =>
 cond (decide (a1.toI < (0 : Int)))
 (some (.i .i64 (-1 : Int)))
 (f98_l1 t0 a1.toI (IntKind.i64.wrap (t5 + (1 : Int))))
 else none
 else none)
 (some (.i .i64 t1)) := (Lp_eq ..).trans (by kernel_rfl)
/-! 37: loop.example/g00905/laws.szVersion -/
theorem f37_eq (x0_0 : Int) (x0_1 : Int) (x0_2 : Int) (x0_3 : List AV) (x1 : Int) : den E 37 [(.agg [(.i .i64 x0_0), (.i .i64 x0_1), (.i .i64 x0_2), (.imm 10 x0_3)]), (.i .i64 x1)] [] =
 bSh (.i .i64) (den E 98 [(.imm 10 x0_3), (.i .i64 x1)] []) fun a1 =>
 cond (decide (a1.toI < (0 : Int)))
 (some (.i .i64 (-1 : Int)))
 (some (.i .i64 a1.toI)) := (den_eq ..).trans (by kernel_rfl)
/-! 162: loop.example/g00905/laws.toTableRef -/
theorem f162_eq (x0_0 : Int) (x0_1 : Int) (x0_2 : Int) (x0_3 : Int) (x0_4 : Int) (x0_5 : ByteArray) (x0_6 : ByteArray) (x0_7 : Int) (x0_8 : Int) (x0_9 : Int) : den E 162 [(.agg [(.i .i64 x0_0), (.i .i64 x0_1), (.i .i64 x0_2), (.i .i64 x0_3), (.i .i64 x0_4), (.s x0_5), (.s x0_6), (.i .i64 x0_7), (.i .i64 x0_8), (.i .i64 x0_9)])] [] =
 some (.agg [(.i .i64 x0_0), (.i .i64 x0_1), (.i .i64 x0_2), (.i .i64 x0_3), (.i .i64 x0_4), (.s x0_5), (.s x0_6), (.i .i64 x0_7), (.i .i64 x0_8), (.i .i64 x0_9)]) := (den_eq ..).trans (by kernel_rfl)
/-! 101: loop.example/g00905/laws.toTableRefS -/
noncomputable def f101_l1 (t0 : List AV) (t4 : Int) (r0 : List AV) (r1 : List AV) : Option AV := Lp E fi101 [true, true, false, true, false] (mkT 23 [(0, (.imm 10 t0)), (3, (.sl 1 [] none)), (4, (.i .i64 t4))]) [(.live true false false 185 r0), (.live true false false 185 r1)]
theorem f101_eq (x0 : List AV) : den E 101 [(.imm 10 x0)] [] =
 if 0 ≤ ((x0.length : Nat) : Int) ∧ ((x0.length : Nat) : Int) ≤ ((x0.length : Nat) : Int) ∧ ((x0.length : Nat) : Int) * ((96 : Nat) : Int) ≤ ((room : Nat) : Int) ∧ ((x0.length : Nat) : Int) ≤ 9223372036854775807 then
 f101_l1 x0 (0 : Int) [] (List.replicate ((x0.length : Nat) : Int).toNat (.agg [(.i .i64 (0 : Int)), (.i .i64 (0 : Int)), (.i .i64 (0 : Int)), (.i .i64 (0 : Int)), (.i .i64 (0 : Int)), (.s .empty), (.s .empty), (.i .i64 (0 : Int)), (.i .i64 (0 : Int)), (.i .i64 (0 : Int))]))
 else none := (den_eq ..).trans (by kernel_rfl)
theorem f101_l1_eq (t0 : List AV) (t4 : Int) (r0 : List AV) (r1 : List AV) : f101_l1 t0 t4 r0 r1 =
 cond (decide (t4 < ((t0.length : Nat) : Int)))
 (if 0 ≤ t4 ∧ t4 < ((t0.length : Nat) : Int) then
 if okCells false (t0.getD t4.toNat .x) 0 [(.i .i64), (.i .i64), (.i .i64), (.i .i64), (.i .i64), .s, .s, (.i .i64), (.i .i64), (.i .i64)] = true then
 bSh (.agg [(.i .i64), (.i .i64), (.i .i64), (.i .i64), (.i .i64), .s, .s, (.i .i64), (.i .i64), (.i .i64)]) (den E 162 [(.agg [(.i .i64 (((t0.getD t4.toNat .x).cells.getD 0 .x).toI)), (.i .i64 (((t0.getD t4.toNat .x).cells.getD 1 .x).toI)), (.i .i64 (((t0.getD t4.toNat .x).cells.getD 2 .x).toI)), (.i .i64 (((t0.getD t4.toNat .x).cells.getD 3 .x).toI)), (.i .i64 (((t0.getD t4.toNat .x).cells.getD 4 .x).toI)), (.s (((t0.getD t4.toNat .x).cells.getD 5 .x).toS)), (.s (((t0.getD t4.toNat .x).cells.getD 6 .x).toS)), (.i .i64 (((t0.getD t4.toNat .x).cells.getD 7 .x).toI)), (.i .i64 (((t0.getD t4.toNat .x).cells.getD 8 .x).toI)), (.i .i64 (((t0.getD t4.toNat .x).cells.getD 9 .x).toI))])] []) fun a1 =>
 if 0 ≤ t4 ∧ t4 < ((r1.length : Nat) : Int) then
 f101_l1 t0 (IntKind.i64.wrap (t4 + (1 : Int))) r0 (r1.set (0 + t4.toNat) ((r1.getD (0 + t4.toNat) .x).putCells 0 [(.i .i64 ((a1.nth 0).toI)), (.i .i64 ((a1.nth 1).toI)), (.i .i64 ((a1.nth 2).toI)), (.i .i64 ((a1.nth 3).toI)), (.i .i64 ((a1.nth 4).toI)), (.s ((a1.nth 5).toS)), (.s ((a1.nth 6).toS)), (.i .i64 ((a1.nth 7).toI)), (.i .i64 ((a1.nth 8).toI)), (.i .i64 ((a1.nth 9).toI))]))
 else none
 else none
 else none)
 (some (.imm 10 r1)) := (Lp_eq ..).trans (by kernel_rfl)
/-! 39: loop.example/g00905/laws.toVersion -/
theorem f39_eq (x0_0 : Int) (x0_1 : Int) (x0_2 : Int) (x0_3 : List AV) : den E 39 [(.agg [(.i .i64 x0_0), (.i .i64 x0_1), (.i .i64 x0_2), (.imm 10 x0_3)])] [] =
 bSh (.sl 185 10) (den E 101 [(.imm 10 x0_3)] []) fun a1 =>
 some (.agg [(.i .i64 x0_0), (.i .i64 x0_1), (.i .i64 x0_2), (.imm 10 a1.toL)]) := (den_eq ..).trans (by kernel_rfl)
/-! 135: loop.example/g00905/spec.l00In -/
theorem f135_eq (x0 : Int) (x1 : Int) (x2 : Int) : den E 135 [(.i .i64 x0), (.i .i64 x1), (.i .i64 x2)] [] =
 cond ((decide (x1 ≤ x0)) == true)
 (some (.b (decide (x0 ≤ x2))))
 (some (.b false)) := (den_eq ..).trans (by kernel_rfl)
/-! 159: loop.example/g00905/spec.l25Table -/
theorem f159_eq (x0 : AV) : den E 159 [(.ip x0 0)] [] =
 if okCells false x0 0 [(.i .i64)] = true then
 bSh .b (den E 135 [(.i .i64 ((x0.cells.getD 0 .x).toI)), (.i .i64 (1 : Int)), (.i .i64 (1000000 : Int))] []) fun a1 =>
 cond ((!a1.toB) == false)
 (if okCells false x0 1 [(.i .i64)] = true then
 bSh .b (den E 135 [(.i .i64 ((x0.cells.getD 1 .x).toI)), (.i .i64 (0 : Int)), (.i .i64 (2 : Int))] []) fun a2 =>
 cond ((!a2.toB) == false)
 (if okCells false x0 2 [(.i .i64)] = true then
 bSh .b (den E 135 [(.i .i64 ((x0.cells.getD 2 .x).toI)), (.i .i64 (0 : Int)), (.i .i64 (11 : Int))] []) fun a3 =>
 cond ((!a3.toB) == false)
 (if okCells false x0 3 [(.i .i64)] = true then
 bSh .b (den E 135 [(.i .i64 ((x0.cells.getD 3 .x).toI)), (.i .i64 (0 : Int)), (.i .i64 (1000 : Int))] []) fun a4 =>
 cond ((!a4.toB) == false)
 (if okCells false x0 4 [(.i .i64)] = true then
 bSh .b (den E 135 [(.i .i64 ((x0.cells.getD 4 .x).toI)), (.i .i64 (1 : Int)), (.i .i64 (100 : Int))] []) fun a5 =>
 cond (!a5.toB)
 (some (.b false))
 (if okCells false x0 5 [.s] = true then
 cond ((decide ((9 : Int) < ((((x0.cells.getD 5 .x).toS).size : Nat) : Int))) == false)
 (if okCells false x0 6 [.s] = true then
 cond ((decide ((9 : Int) < ((((x0.cells.getD 6 .x).toS).size : Nat) : Int))) == false)
 (if okCells false x0 5 [.s] = true then
 if okCells false x0 6 [.s] = true then
 cond (!lessS ((x0.cells.getD 5 .x).toS) ((x0.cells.getD 6 .x).toS))
 (some (.b false))
 (if okCells false x0 7 [(.i .i64)] = true then
 cond ((decide ((0 : Int) < ((x0.cells.getD 7 .x).toI))) == true)
 (if okCells false x0 7 [(.i .i64)] = true then
 if okCells false x0 8 [(.i .i64)] = true then
 cond ((decide (((x0.cells.getD 7 .x).toI) ≤ ((x0.cells.getD 8 .x).toI))) == true)
 (if okCells false x0 8 [(.i .i64)] = true then
 cond ((decide (((x0.cells.getD 8 .x).toI) ≤ (1000000 : Int))) == true)
 (if okCells false x0 9 [(.i .i64)] = true then
 bSh .b (den E 135 [(.i .i64 ((x0.cells.getD 9 .x).toI)), (.i .i64 (1 : Int)), (.i .i64 (60 : Int))] []) fun a6 =>
 some (.b a6.toB)
 else none)
 (some (.b false))
 else none)
 (some (.b false))
 else none
 else none)
 (some (.b false))
 else none)
 else none
 else none)
 (some (.b false))
 else none)
 (some (.b false))
 else none)
 else none)
 (some (.b false))
 else none)
 (some (.b false))
 else none)
 (some (.b false))
 else none)
 (some (.b false))
 else none := (den_eq ..).trans (by kernel_rfl)
/-! 160: loop.example/g00905/spec.l25Before -/
theorem f160_eq (x0 : AV) (x1 : AV) : den E 160 [(.ip x0 0), (.ip x1 0)] [] =
 if okCells false x0 1 [(.i .i64)] = true then
 if okCells false x1 1 [(.i .i64)] = true then
 cond (!decide (((x0.cells.getD 1 .x).toI) = ((x1.cells.getD 1 .x).toI)))
 (if okCells false x0 1 [(.i .i64)] = true then
 if okCells false x1 1 [(.i .i64)] = true then
 some (.b (decide (((x0.cells.getD 1 .x).toI) < ((x1.cells.getD 1 .x).toI))))
 else none
 else none)
 (if okCells false x0 1 [(.i .i64)] = true then
 cond (decide (((x0.cells.getD 1 .x).toI) = (0 : Int)))
 (if okCells false x0 0 [(.i .i64)] = true then
 if okCells false x1 0 [(.i .i64)] = true then
 some (.b (decide (((x1.cells.getD 0 .x).toI) < ((x0.cells.getD 0 .x).toI))))
 else none
 else none)
 (if okCells false x0 5 [.s] = true then
 if okCells false x1 5 [.s] = true then
 cond ((lessS ((x0.cells.getD 5 .x).toS) ((x1.cells.getD 5 .x).toS)) == true)
 (if okCells false x0 6 [.s] = true then
 if okCells false x1 5 [.s] = true then
 some (.b (lessS ((x0.cells.getD 6 .x).toS) ((x1.cells.getD 5 .x).toS) || decide (((x0.cells.getD 6 .x).toS) = ((x1.cells.getD 5 .x).toS))))
 else none
 else none)
 (some (.b false))
 else none
 else none)
 else none)
 else none
 else none := (den_eq ..).trans (by kernel_rfl)
/-! 99: loop.example/g00905/spec.l25Ok -/
noncomputable def f99_l1 (t0 : AV) (t3 : Int) : Option AV := Lp E fi99 [true, true, false, true, false] (mkT 110 [(0, (.ip t0 0)), (3, (.i .i64 t3))]) []
noncomputable def f99_j2 (t0 : AV) (t3 : Int) (t4 : AV) : Option AV := Jn E fi99 [true, true, false, true, false, false, true, false, false, true, true] (mkT 110 [(0, (.ip t0 0)), (3, (.i .i64 t3)), (4, (.ip t4 0))]) []
noncomputable def f99_l3 (t0 : AV) (t3 : Int) (t4 : AV) (t5 : Int) : Option AV := Lp E fi99 [true, true, false, true, false, false, true, false, false, true, true, true, false] (mkT 110 [(0, (.ip t0 0)), (3, (.i .i64 t3)), (4, (.ip t4 0)), (5, (.i .i64 t5))]) []
theorem f99_eq (x0 : AV) : den E 99 [(.ip x0 0)] [] =
 if okCells false x0 0 [(.i .i64)] = true then
 bSh .b (den E 135 [(.i .i64 ((x0.cells.getD 0 .x).toI)), (.i .i64 (1 : Int)), (.i .i64 (1000000 : Int))] []) fun a1 =>
 cond ((!a1.toB) == false)
 (if okCells false x0 1 [(.i .i64)] = true then
 bSh .b (den E 135 [(.i .i64 ((x0.cells.getD 1 .x).toI)), (.i .i64 (0 : Int)), (.i .i64 (11 : Int))] []) fun a2 =>
 cond ((!a2.toB) == false)
 (if okCells false x0 2 [(.i .i64)] = true then
 bSh .b (den E 135 [(.i .i64 ((x0.cells.getD 2 .x).toI)), (.i .i64 (0 : Int)), (.i .i64 (1000000 : Int))] []) fun a3 =>
 cond ((!a3.toB) == false)
 (if okCells false x0 3 [(.sl 185 10)] = true then
 cond (decide ((16 : Int) < ((((x0.cells.getD 3 .x).toL).length : Nat) : Int)))
 (some (.b false))
 (f99_l1 x0 (0 : Int))
 else none)
 (some (.b false))
 else none)
 (some (.b false))
 else none)
 (some (.b false))
 else none := (den_eq ..).trans (by kernel_rfl)
theorem f99_l1_eq (t0 : AV) (t3 : Int) : f99_l1 t0 t3 =
 if okCells false t0 3 [(.sl 185 10)] = true then
 cond (decide (t3 < ((((t0.cells.getD 3 .x).toL).length : Nat) : Int)))
 (if okCells false t0 3 [(.sl 185 10)] = true then
 if 0 ≤ t3 ∧ t3 < ((((t0.cells.getD 3 .x).toL).length : Nat) : Int) then
 bSh .b (den E 159 [(.ip (((t0.cells.getD 3 .x).toL).getD t3.toNat .x) 0)] []) fun a1 =>
 cond ((!a1.toB) == false)
 (if okCells false (((t0.cells.getD 3 .x).toL).getD t3.toNat .x) 0 [(.i .i64)] = true then
 if okCells false t0 0 [(.i .i64)] = true then
 cond ((decide (((t0.cells.getD 0 .x).toI) ≤ (((((t0.cells.getD 3 .x).toL).getD t3.toNat .x).cells.getD 0 .x).toI))) == false)
 (if okCells false (((t0.cells.getD 3 .x).toL).getD t3.toNat .x) 8 [(.i .i64)] = true then
 if okCells false t0 2 [(.i .i64)] = true then
 cond ((decide (((t0.cells.getD 2 .x).toI) < (((((t0.cells.getD 3 .x).toL).getD t3.toNat .x).cells.getD 8 .x).toI))) == false)
 (cond ((decide ((0 : Int) < t3)) == true)
 (if okCells false t0 3 [(.sl 185 10)] = true then
 if 0 ≤ (IntKind.i64.wrap (t3 - (1 : Int))) ∧ (IntKind.i64.wrap (t3 - (1 : Int))) < ((((t0.cells.getD 3 .x).toL).length : Nat) : Int) then
 bSh .b (den E 160 [(.ip (((t0.cells.getD 3 .x).toL).getD (IntKind.i64.wrap (t3 - (1 : Int))).toNat .x) 0), (.ip (((t0.cells.getD 3 .x).toL).getD t3.toNat .x) 0)] []) fun a2 =>
 cond (!a2.toB)
 (some (.b false))
 (f99_j2 t0 t3 (((t0.cells.getD 3 .x).toL).getD t3.toNat .x))
 else none
 else none)
 (f99_j2 t0 t3 (((t0.cells.getD 3 .x).toL).getD t3.toNat .x)))
 (some (.b false))
 else none
 else none)
 (some (.b false))
 else none
 else none)
 (some (.b false))
 else none
 else none)
 (some (.b true))
 else none := (Lp_eq ..).trans (by kernel_rfl)
theorem f99_j2_eq (t0 : AV) (t3 : Int) (t4 : AV) : f99_j2 t0 t3 t4 =
 f99_l3 t0 t3 t4 (0 : Int) := by kernel_rfl
theorem f99_l3_eq (t0 : AV) (t3 : Int) (t4 : AV) (t5 : Int) : f99_l3 t0 t3 t4 t5 =
 cond (decide (t5 < t3))
 (if okCells false t0 3 [(.sl 185 10)] = true then
 if 0 ≤ t5 ∧ t5 < ((((t0.cells.getD 3 .x).toL).length : Nat) : Int) then
 if okCells false (((t0.cells.getD 3 .x).toL).getD t5.toNat .x) 0 [(.i .i64)] = true then
 if okCells false t4 0 [(.i .i64)] = true then
 cond (decide ((((((t0.cells.getD 3 .x).toL).getD t5.toNat .x).cells.getD 0 .x).toI) = ((t4.cells.getD 0 .x).toI)))
 (some (.b false))
 (f99_l3 t0 t3 t4 (IntKind.i64.wrap (t5 + (1 : Int))))
 else none
 else none
 else none
 else none)
 (f99_l1 t0 (IntKind.i64.wrap (t3 + (1 : Int)))) := (Lp_eq ..).trans (by kernel_rfl)
/-! 161: loop.example/g00905/spec.l27Tables -/
noncomputable def f161_l1 (t0 : AV) (t1 : Int) (t6 : Int) (r0 : List AV) (r1 : List AV) : Option AV := Lp E fi161 [true, true, false, true, false] (mkT 38 [(0, (.ip t0 0)), (1, (.i .i64 t1)), (5, (.sl 1 [] none)), (6, (.i .i64 t6))]) [(.live true false false 185 r0), (.live true false false 185 r1)]
noncomputable def f161_j2 (t0 : AV) (t1 : Int) (t6 : Int) (r0 : List AV) (r1 : List AV) : Option AV := Jn E fi161 [true, true, false, true, false, false, true, true] (mkT 38 [(0, (.ip t0 0)), (1, (.i .i64 t1)), (5, (.sl 1 [] none)), (6, (.i .i64 t6))]) [(.live true false false 185 r0), (.live true false false 185 r1)]
theorem f161_eq (x0 : AV) (x1 : Int) : den E 161 [(.ip x0 0), (.i .i64 x1)] [] =
 f161_l1 x0 x1 (0 : Int) [] [] := (den_eq ..).trans (by kernel_rfl)
theorem f161_l1_eq (t0 : AV) (t1 : Int) (t6 : Int) (r0 : List AV) (r1 : List AV) : f161_l1 t0 t1 t6 r0 r1 =
 if okCells false t0 3 [(.sl 185 10)] = true then
 cond (decide (t6 < ((((t0.cells.getD 3 .x).toL).length : Nat) : Int)))
 (if okCells false t0 3 [(.sl 185 10)] = true then
 if 0 ≤ t6 ∧ t6 < ((((t0.cells.getD 3 .x).toL).length : Nat) : Int) then
 if okCells false (((t0.cells.getD 3 .x).toL).getD t6.toNat .x) 2 [(.i .i64)] = true then
 cond (decide ((((((t0.cells.getD 3 .x).toL).getD t6.toNat .x).cells.getD 2 .x).toI) = t1))
 (if okCells false t0 3 [(.sl 185 10)] = true then
 if 0 ≤ t6 ∧ t6 < ((((t0.cells.getD 3 .x).toL).length : Nat) : Int) then
 if okCells false (((t0.cells.getD 3 .x).toL).getD t6.toNat .x) 0 [(.i .i64), (.i .i64), (.i .i64), (.i .i64), (.i .i64), .s, .s, (.i .i64), (.i .i64), (.i .i64)] = true then
 if (r1.length + ([(.agg [(.i .i64 (((((t0.cells.getD 3 .x).toL).getD t6.toNat .x).cells.getD 0 .x).toI)), (.i .i64 (((((t0.cells.getD 3 .x).toL).getD t6.toNat .x).cells.getD 1 .x).toI)), (.i .i64 (((((t0.cells.getD 3 .x).toL).getD t6.toNat .x).cells.getD 2 .x).toI)), (.i .i64 (((((t0.cells.getD 3 .x).toL).getD t6.toNat .x).cells.getD 3 .x).toI)), (.i .i64 (((((t0.cells.getD 3 .x).toL).getD t6.toNat .x).cells.getD 4 .x).toI)), (.s (((((t0.cells.getD 3 .x).toL).getD t6.toNat .x).cells.getD 5 .x).toS)), (.s (((((t0.cells.getD 3 .x).toL).getD t6.toNat .x).cells.getD 6 .x).toS)), (.i .i64 (((((t0.cells.getD 3 .x).toL).getD t6.toNat .x).cells.getD 7 .x).toI)), (.i .i64 (((((t0.cells.getD 3 .x).toL).getD t6.toNat .x).cells.getD 8 .x).toI)), (.i .i64 (((((t0.cells.getD 3 .x).toL).getD t6.toNat .x).cells.getD 9 .x).toI))])] : List AV).length) * 96 ≤ room then
 f161_j2 t0 t1 t6 r0 (r1 ++ [(.agg [(.i .i64 (((((t0.cells.getD 3 .x).toL).getD t6.toNat .x).cells.getD 0 .x).toI)), (.i .i64 (((((t0.cells.getD 3 .x).toL).getD t6.toNat .x).cells.getD 1 .x).toI)), (.i .i64 (((((t0.cells.getD 3 .x).toL).getD t6.toNat .x).cells.getD 2 .x).toI)), (.i .i64 (((((t0.cells.getD 3 .x).toL).getD t6.toNat .x).cells.getD 3 .x).toI)), (.i .i64 (((((t0.cells.getD 3 .x).toL).getD t6.toNat .x).cells.getD 4 .x).toI)), (.s (((((t0.cells.getD 3 .x).toL).getD t6.toNat .x).cells.getD 5 .x).toS)), (.s (((((t0.cells.getD 3 .x).toL).getD t6.toNat .x).cells.getD 6 .x).toS)), (.i .i64 (((((t0.cells.getD 3 .x).toL).getD t6.toNat .x).cells.getD 7 .x).toI)), (.i .i64 (((((t0.cells.getD 3 .x).toL).getD t6.toNat .x).cells.getD 8 .x).toI)), (.i .i64 (((((t0.cells.getD 3 .x).toL).getD t6.toNat .x).cells.getD 9 .x).toI))])])
 else none
 else none
 else none
 else none)
 (f161_j2 t0 t1 t6 r0 r1)
 else none
 else none
 else none)
 (some (.imm 10 r1))
 else none := (Lp_eq ..).trans (by kernel_rfl)
theorem f161_j2_eq (t0 : AV) (t1 : Int) (t6 : Int) (r0 : List AV) (r1 : List AV) : f161_j2 t0 t1 t6 r0 r1 =
 f161_l1 t0 t1 (IntKind.i64.wrap (t6 + (1 : Int))) r0 r1 := by kernel_rfl
/-! 100: loop.example/g00905/spec.l27Live -/
noncomputable def f100_l1 (t5 : List AV) (t6 : Int) (t7 : Int) : Option AV := Lp E fi100 [true, true, true, false, true, false] (mkT 25 [(5, (.imm 10 t5)), (6, (.i .i64 t6)), (7, (.i .i64 t7))]) []
theorem f100_eq (x0 : AV) (x1 : Int) : den E 100 [(.ip x0 0), (.i .i64 x1)] [] =
 bSh (.sl 185 10) (den E 161 [(.ip x0 0), (.i .i64 x1)] []) fun a1 =>
 f100_l1 a1.toL (0 : Int) (0 : Int) := (den_eq ..).trans (by kernel_rfl)
theorem f100_l1_eq (t5 : List AV) (t6 : Int) (t7 : Int) : f100_l1 t5 t6 t7 =
 cond (decide (t7 < ((t5.length : Nat) : Int)))
 (if 0 ≤ t7 ∧ t7 < ((t5.length : Nat) : Int) then
 if okCells false (t5.getD t7.toNat .x) 4 [(.i .i64)] = true then
 f100_l1 t5 (IntKind.i64.wrap (t6 + (((t5.getD t7.toNat .x).cells.getD 4 .x).toI))) (IntKind.i64.wrap (t7 + (1 : Int)))
 else none
 else none)
 (some (.i .i64 t6)) := (Lp_eq ..).trans (by kernel_rfl)
/-! 38: loop.example/g00905/spec.LiveInZone -/
theorem f38_eq (x0_0 : Int) (x0_1 : Int) (x0_2 : Int) (x0_3 : List AV) (x1 : Int) : den E 38 [(.agg [(.i .i64 x0_0), (.i .i64 x0_1), (.i .i64 x0_2), (.imm 10 x0_3)]), (.i .i64 x1)] [] =
 bSh .b (den E 99 [(.ip (.agg [(.i .i64 x0_0), (.i .i64 x0_1), (.i .i64 x0_2), (.imm 10 x0_3)]) 0)] []) fun a1 =>
 cond (!a1.toB)
 (some (.i .i64 (0 : Int)))
 (bSh (.i .i64) (den E 100 [(.ip (.agg [(.i .i64 x0_0), (.i .i64 x0_1), (.i .i64 x0_2), (.imm 10 x0_3)]) 0), (.i .i64 x1)] []) fun a2 =>
 some (.i .i64 a2.toI)) := (den_eq ..).trans (by kernel_rfl)
/-! 155: loop.example/g00905/impl.within -/
theorem f155_eq (x0 : Int) (x1 : Int) (x2 : Int) : den E 155 [(.i .i64 x0), (.i .i64 x1), (.i .i64 x2)] [] =
 cond ((decide (x1 ≤ x0)) == true)
 (some (.b (decide (x0 ≤ x2))))
 (some (.b false)) := (den_eq ..).trans (by kernel_rfl)
/-! 167: loop.example/g00905/impl.ValidTable -/
theorem f167_eq (x0_0 : Int) (x0_1 : Int) (x0_2 : Int) (x0_3 : Int) (x0_4 : Int) (x0_5 : ByteArray) (x0_6 : ByteArray) (x0_7 : Int) (x0_8 : Int) (x0_9 : Int) : den E 167 [(.agg [(.i .i64 x0_0), (.i .i64 x0_1), (.i .i64 x0_2), (.i .i64 x0_3), (.i .i64 x0_4), (.s x0_5), (.s x0_6), (.i .i64 x0_7), (.i .i64 x0_8), (.i .i64 x0_9)])] [] =
 bSh .b (den E 155 [(.i .i64 x0_0), (.i .i64 (1 : Int)), (.i .i64 (1000000 : Int))] []) fun a1 =>
 cond (a1.toB == true)
 (bSh .b (den E 155 [(.i .i64 x0_1), (.i .i64 (0 : Int)), (.i .i64 (2 : Int))] []) fun a2 =>
 cond (a2.toB == true)
 (bSh .b (den E 155 [(.i .i64 x0_2), (.i .i64 (0 : Int)), (.i .i64 (11 : Int))] []) fun a3 =>
 cond (a3.toB == true)
 (bSh .b (den E 155 [(.i .i64 x0_3), (.i .i64 (0 : Int)), (.i .i64 (1000 : Int))] []) fun a4 =>
 cond (a4.toB == true)
 (bSh .b (den E 155 [(.i .i64 x0_4), (.i .i64 (1 : Int)), (.i .i64 (100 : Int))] []) fun a5 =>
 cond (a5.toB == true)
 (cond ((decide (((x0_5.size : Nat) : Int) ≤ (9 : Int))) == true)
 (cond ((decide (((x0_6.size : Nat) : Int) ≤ (9 : Int))) == true)
 (cond ((lessS x0_5 x0_6) == true)
 (cond ((decide ((0 : Int) < x0_7)) == true)
 (cond ((decide (x0_7 ≤ x0_8)) == true)
 (cond ((decide (x0_8 ≤ (1000000 : Int))) == true)
 (bSh .b (den E 155 [(.i .i64 x0_9), (.i .i64 (1 : Int)), (.i .i64 (60 : Int))] []) fun a6 =>
 some (.b a6.toB))
 (some (.b false)))
 (some (.b false)))
 (some (.b false)))
 (some (.b false)))
 (some (.b false)))
 (some (.b false)))
 (some (.b false)))
 (some (.b false)))
 (some (.b false)))
 (some (.b false)))
 (some (.b false)) := (den_eq ..).trans (by kernel_rfl)
/-! 205: (loop.example/g00905/impl.Version).tablesOk$1 -/
theorem f205q1_eq (x0_0 : Int) (x0_1 : Int) (x0_2 : Int) (x0_3 : Int) (x0_4 : Int) (x0_5 : ByteArray) (x0_6 : ByteArray) (x0_7 : Int) (x0_8 : Int) (x0_9 : Int) (x1 : AV) : den E 205 [(.agg [(.i .i64 x0_0), (.i .i64 x0_1), (.i .i64 x0_2), (.i .i64 x0_3), (.i .i64 x0_4), (.s x0_5), (.s x0_6), (.i .i64 x0_7), (.i .i64 x0_8), (.i .i64 x0_9)]), (.ip x1 0)] [] =
 if okCells false x1 0 [(.i .i64)] = true then
 some (.b (decide (x0_0 = ((x1.cells.getD 0 .x).toI))))
 else none := (den_eq ..).trans (by kernel_rfl)
/-! 232: slices.IndexFunc[[]loop.example/g00905/impl.TableRef,loop.example/g00905/impl.TableRef] -/
noncomputable def f232q1_l1 (t0 : List AV) (t1_0 : AV) (t7 : Int) (t8 : Int) : Option AV := Lp E fi232 [true, false, true, false] (mkT 19 [(0, (.imm 10 t0)), (1, (.fn 205 [(.ip t1_0 0)])), (7, (.i .i64 t7)), (8, (.i .i64 t8))]) []
theorem f232q1_eq (x0 : List AV) (x1_0 : AV) : den E 232 [(.imm 10 x0), (.fn 205 [(.ip x1_0 0)])] [] =
 f232q1_l1 x0 x1_0 ((x0.length : Nat) : Int) (0 : Int) := (den_eq ..).trans (by kernel_rfl)
theorem f232q1_l1_eq (t0 : List AV) (t1_0 : AV) (t7 : Int) (t8 : Int) : f232q1_l1 t0 t1_0 t7 t8 =
 cond (decide (t8 < t7))
 (if 0 ≤ t8 ∧ t8 < ((t0.length : Nat) : Int) then
 if okCells false (t0.getD t8.toNat .x) 0 [(.i .i64), (.i .i64), (.i .i64), (.i .i64), (.i .i64), .s, .s, (.i .i64), (.i .i64), (.i .i64)] = true then
 bSh .b (den E 205 [(.agg [(.i .i64 (((t0.getD t8.toNat .x).cells.getD 0 .x).toI)), (.i .i64 (((t0.getD t8.toNat .x).cells.getD 1 .x).toI)), (.i .i64 (((t0.getD t8.toNat .x).cells.getD 2 .x).toI)), (.i .i64 (((t0.getD t8.toNat .x).cells.getD 3 .x).toI)), (.i .i64 (((t0.getD t8.toNat .x).cells.getD 4 .x).toI)), (.s (((t0.getD t8.toNat .x).cells.getD 5 .x).toS)), (.s (((t0.getD t8.toNat .x).cells.getD 6 .x).toS)), (.i .i64 (((t0.getD t8.toNat .x).cells.getD 7 .x).toI)), (.i .i64 (((t0.getD t8.toNat .x).cells.getD 8 .x).toI)), (.i .i64 (((t0.getD t8.toNat .x).cells.getD 9 .x).toI))]), (.ip t1_0 0)] []) fun a1 =>
 cond a1.toB
 (some (.i .i64 t8))
 (f232q1_l1 t0 t1_0 t7 (IntKind.i64.wrap (t8 + (1 : Int))))
 else none
 else none)
 (some (.i .i64 (-1 : Int))) := (Lp_eq ..).trans (by kernel_rfl)
/-! 204: slices.ContainsFunc[[]loop.example/g00905/impl.TableRef,loop.example/g00905/impl.TableRef] -/
theorem f204q1_eq (x0 : List AV) (x1_0 : AV) : den E 204 [(.imm 10 x0), (.fn 205 [(.ip x1_0 0)])] [] =
 bSh (.i .i64) (den E 232 [(.imm 10 x0), (.fn 205 [(.ip x1_0 0)])] []) fun a1 =>
 some (.b (decide ((0 : Int) ≤ a1.toI))) := (den_eq ..).trans (by kernel_rfl)
/-! 238: cmp.isNaN[int64] -/
theorem f238_eq (x0 : Int) : den E 238 [(.i .i64 x0)] [] =
 some (.b (!decide (x0 = x0))) := (den_eq ..).trans (by kernel_rfl)
/-! 233: cmp.Compare[int64] -/
theorem f233_eq (x0 : Int) (x1 : Int) : den E 233 [(.i .i64 x0), (.i .i64 x1)] [] =
 bSh .b (den E 238 [(.i .i64 x0)] []) fun a1 =>
 bSh .b (den E 238 [(.i .i64 x1)] []) fun a2 =>
 cond a1.toB
 (cond a2.toB
 (some (.i .i64 (0 : Int)))
 (some (.i .i64 (-1 : Int))))
 (cond a2.toB
 (some (.i .i64 (1 : Int)))
 (cond (decide (x0 < x1))
 (some (.i .i64 (-1 : Int)))
 (cond (decide (x1 < x0))
 (some (.i .i64 (1 : Int)))
 (some (.i .i64 (0 : Int)))))) := (den_eq ..).trans (by kernel_rfl)
/-! 239: internal/bytealg.CompareString -/
theorem f239_eq (x0 x1 : ByteArray) : den E 239 [(.s x0), (.s x1)] [] = some (.i .i64 (cmpB x0 x1)) := (den_eq ..).trans (by kernel_rfl)
/-! 235: strings.Compare -/
theorem f235_eq (x0 : ByteArray) (x1 : ByteArray) : den E 235 [(.s x0), (.s x1)] [] =
 bSh (.i .i64) (den E 239 [(.s x0), (.s x1)] []) fun a1 =>
 some (.i .i64 a1.toI) := (den_eq ..).trans (by kernel_rfl)
/-! 234: cmp.Or[int] -/
noncomputable def f234_l1 (t3 : Int) (t6 : List AV) (t7 : Int) (t8 : Int) : Option AV := Lp E fi234 [true, true, false, true, false] (mkT 18 [(3, (.i .i64 t3)), (6, (.imm 1 t6)), (7, (.i .i64 t7)), (8, (.i .i64 t8))]) []
theorem f234_eq (x0 : List AV) : den E 234 [(.imm 1 x0)] [] =
 f234_l1 (0 : Int) x0 ((x0.length : Nat) : Int) (0 : Int) := (den_eq ..).trans (by kernel_rfl)
theorem f234_l1_eq (t3 : Int) (t6 : List AV) (t7 : Int) (t8 : Int) : f234_l1 t3 t6 t7 t8 =
 cond (decide (t8 < t7))
 (if 0 ≤ t8 ∧ t8 < ((t6.length : Nat) : Int) then
 if okCells false (t6.getD t8.toNat .x) 0 [(.i .i64)] = true then
 cond (!decide ((((t6.getD t8.toNat .x).cells.getD 0 .x).toI) = t3))
 (some (.i .i64 (((t6.getD t8.toNat .x).cells.getD 0 .x).toI)))
 (f234_l1 t3 t6 t7 (IntKind.i64.wrap (t8 + (1 : Int))))
 else none
 else none)
 (some (.i .i64 t3)) := (Lp_eq ..).trans (by kernel_rfl)
/-! 206: loop.example/g00905/impl.compareRefs -/
noncomputable def f206_j1 (r0_0 : Int) (r0_1 : Int) (r0_2 : Int) (r0_3 : Int) (r0_4 : Int) (r0_5 : ByteArray) (r0_6 : ByteArray) (r0_7 : Int) (r0_8 : Int) (r0_9 : Int) (r1_0 : Int) (r1_1 : Int) (r1_2 : Int) (r1_3 : Int) (r1_4 : Int) (r1_5 : ByteArray) (r1_6 : ByteArray) (r1_7 : Int) (r1_8 : Int) (r1_9 : Int) : Option AV := Jn E fi206 [true, true] (mkT 32 [(2, (.pt 0 [] 0 0)), (3, (.pt 1 [] 0 0))]) [(.live false true false 185 [(.agg [(.i .i64 r0_0), (.i .i64 r0_1), (.i .i64 r0_2), (.i .i64 r0_3), (.i .i64 r0_4), (.s r0_5), (.s r0_6), (.i .i64 r0_7), (.i .i64 r0_8), (.i .i64 r0_9)])]), (.live false true false 185 [(.agg [(.i .i64 r1_0), (.i .i64 r1_1), (.i .i64 r1_2), (.i .i64 r1_3), (.i .i64 r1_4), (.s r1_5), (.s r1_6), (.i .i64 r1_7), (.i .i64 r1_8), (.i .i64 r1_9)])])]
theorem f206_eq (x0_0 : Int) (x0_1 : Int) (x0_2 : Int) (x0_3 : Int) (x0_4 : Int) (x0_5 : ByteArray) (x0_6 : ByteArray) (x0_7 : Int) (x0_8 : Int) (x0_9 : Int) (x1_0 : Int) (x1_1 : Int) (x1_2 : Int) (x1_3 : Int) (x1_4 : Int) (x1_5 : ByteArray) (x1_6 : ByteArray) (x1_7 : Int) (x1_8 : Int) (x1_9 : Int) : den E 206 [(.agg [(.i .i64 x0_0), (.i .i64 x0_1), (.i .i64 x0_2), (.i .i64 x0_3), (.i .i64 x0_4), (.s x0_5), (.s x0_6), (.i .i64 x0_7), (.i .i64 x0_8), (.i .i64 x0_9)]), (.agg [(.i .i64 x1_0), (.i .i64 x1_1), (.i .i64 x1_2), (.i .i64 x1_3), (.i .i64 x1_4), (.s x1_5), (.s x1_6), (.i .i64 x1_7), (.i .i64 x1_8), (.i .i64 x1_9)])] [] =
 cond ((decide (x0_1 = x1_1)) == true)
 (cond (decide (x0_1 = (0 : Int)))
 (bSh (.i .i64) (den E 233 [(.i .i64 x1_0), (.i .i64 x0_0)] []) fun a1 =>
 some (.i .i64 a1.toI))
 (f206_j1 x0_0 x0_1 x0_2 x0_3 x0_4 x0_5 x0_6 x0_7 x0_8 x0_9 x1_0 x1_1 x1_2 x1_3 x1_4 x1_5 x1_6 x1_7 x1_8 x1_9))
 (f206_j1 x0_0 x0_1 x0_2 x0_3 x0_4 x0_5 x0_6 x0_7 x0_8 x0_9 x1_0 x1_1 x1_2 x1_3 x1_4 x1_5 x1_6 x1_7 x1_8 x1_9) := (den_eq ..).trans (by kernel_rfl)
theorem f206_j1_eq (r0_0 : Int) (r0_1 : Int) (r0_2 : Int) (r0_3 : Int) (r0_4 : Int) (r0_5 : ByteArray) (r0_6 : ByteArray) (r0_7 : Int) (r0_8 : Int) (r0_9 : Int) (r1_0 : Int) (r1_1 : Int) (r1_2 : Int) (r1_3 : Int) (r1_4 : Int) (r1_5 : ByteArray) (r1_6 : ByteArray) (r1_7 : Int) (r1_8 : Int) (r1_9 : Int) : f206_j1 r0_0 r0_1 r0_2 r0_3 r0_4 r0_5 r0_6 r0_7 r0_8 r0_9 r1_0 r1_1 r1_2 r1_3 r1_4 r1_5 r1_6 r1_7 r1_8 r1_9 =
 bSh (.i .i64) (den E 233 [(.i .i64 r0_1), (.i .i64 r1_1)] []) fun a1 =>
 bSh (.i .i64) (den E 235 [(.s r0_5), (.s r1_5)] []) fun a2 =>
 bSh (.i .i64) (den E 234 [(.imm 1 [(.i .i64 a1.toI), (.i .i64 a2.toI)])] []) fun a3 =>
 some (.i .i64 a3.toI) := by kernel_rfl
/-! 163: (loop.example/g00905/impl.Version).tablesOk -/
noncomputable def f163_l1 (t7 : List AV) (t8 : Int) (t9 : Int) (r0_0 : Int) (r0_1 : Int) (r0_2 : Int) (r0_3 : List AV) : Option AV := Lp E fi163 [true, false, true, false] (mkT 75 [(1, (.pt 0 [] 0 0)), (7, (.imm 10 t7)), (8, (.i .i64 t8)), (9, (.i .i64 t9))]) [(.live false true false 56 [(.agg [(.i .i64 r0_0), (.i .i64 r0_1), (.i .i64 r0_2), (.imm 10 r0_3)])])]
noncomputable def f163_j2 (t7 : List AV) (t8 : Int) (t9 : Int) (r0_0 : Int) (r0_1 : Int) (r0_2 : Int) (r0_3 : List AV) : Option AV := Jn E fi163 [true, false, true, false, false, true, true, true] (mkT 75 [(1, (.pt 0 [] 0 0)), (7, (.imm 10 t7)), (8, (.i .i64 t8)), (9, (.i .i64 t9))]) [(.live false true false 56 [(.agg [(.i .i64 r0_0), (.i .i64 r0_1), (.i .i64 r0_2), (.imm 10 r0_3)])])]
theorem f163_eq (x0_0 : Int) (x0_1 : Int) (x0_2 : Int) (x0_3 : List AV) : den E 163 [(.agg [(.i .i64 x0_0), (.i .i64 x0_1), (.i .i64 x0_2), (.imm 10 x0_3)])] [] =
 f163_l1 x0_3 ((x0_3.length : Nat) : Int) (0 : Int) x0_0 x0_1 x0_2 x0_3 := (den_eq ..).trans (by kernel_rfl)
theorem f163_l1_eq (t7 : List AV) (t8 : Int) (t9 : Int) (r0_0 : Int) (r0_1 : Int) (r0_2 : Int) (r0_3 : List AV) : f163_l1 t7 t8 t9 r0_0 r0_1 r0_2 r0_3 =
 cond (decide (t9 < t8))
 (if 0 ≤ t9 ∧ t9 < ((t7.length : Nat) : Int) then
 if okCells false (t7.getD t9.toNat .x) 0 [(.i .i64), (.i .i64), (.i .i64), (.i .i64), (.i .i64), .s, .s, (.i .i64), (.i .i64), (.i .i64)] = true then
 bSh .b (den E 167 [(.agg [(.i .i64 (((t7.getD t9.toNat .x).cells.getD 0 .x).toI)), (.i .i64 (((t7.getD t9.toNat .x).cells.getD 1 .x).toI)), (.i .i64 (((t7.getD t9.toNat .x).cells.getD 2 .x).toI)), (.i .i64 (((t7.getD t9.toNat .x).cells.getD 3 .x).toI)), (.i .i64 (((t7.getD t9.toNat .x).cells.getD 4 .x).toI)), (.s (((t7.getD t9.toNat .x).cells.getD 5 .x).toS)), (.s (((t7.getD t9.toNat .x).cells.getD 6 .x).toS)), (.i .i64 (((t7.getD t9.toNat .x).cells.getD 7 .x).toI)), (.i .i64 (((t7.getD t9.toNat .x).cells.getD 8 .x).toI)), (.i .i64 (((t7.getD t9.toNat .x).cells.getD 9 .x).toI))])] []) fun a1 =>
 cond ((!a1.toB) == false)
 (cond ((decide (r0_0 ≤ (((t7.getD t9.toNat .x).cells.getD 0 .x).toI))) == false)
 (cond ((decide (r0_2 < (((t7.getD t9.toNat .x).cells.getD 8 .x).toI))) == false)
 (if 0 ≤ (0 : Int) ∧ (0 : Int) ≤ t9 ∧ t9 ≤ ((r0_3.length : Nat) : Int) then
 bSh .b (den E 204 [(.imm 10 (r0_3.take t9.toNat)), (.fn 205 [(.ip (.agg [(.i .i64 (((t7.getD t9.toNat .x).cells.getD 0 .x).toI)), (.i .i64 (((t7.getD t9.toNat .x).cells.getD 1 .x).toI)), (.i .i64 (((t7.getD t9.toNat .x).cells.getD 2 .x).toI)), (.i .i64 (((t7.getD t9.toNat .x).cells.getD 3 .x).toI)), (.i .i64 (((t7.getD t9.toNat .x).cells.getD 4 .x).toI)), (.s (((t7.getD t9.toNat .x).cells.getD 5 .x).toS)), (.s (((t7.getD t9.toNat .x).cells.getD 6 .x).toS)), (.i .i64 (((t7.getD t9.toNat .x).cells.getD 7 .x).toI)), (.i .i64 (((t7.getD t9.toNat .x).cells.getD 8 .x).toI)), (.i .i64 (((t7.getD t9.toNat .x).cells.getD 9 .x).toI))]) 0)])] []) fun a2 =>
 cond a2.toB
 (some (.b false))
 (cond (decide (t9 = (0 : Int)))
 (f163_j2 t7 t8 t9 r0_0 r0_1 r0_2 r0_3)
 (if 0 ≤ (IntKind.i64.wrap (t9 - (1 : Int))) ∧ (IntKind.i64.wrap (t9 - (1 : Int))) < ((r0_3.length : Nat) : Int) then
 if okCells false (r0_3.getD (IntKind.i64.wrap (t9 - (1 : Int))).toNat .x) 0 [(.i .i64), (.i .i64), (.i .i64), (.i .i64), (.i .i64), .s, .s, (.i .i64), (.i .i64), (.i .i64)] = true then
 bSh (.i .i64) (den E 206 [(.agg [(.i .i64 (((r0_3.getD (IntKind.i64.wrap (t9 - (1 : Int))).toNat .x).cells.getD 0 .x).toI)), (.i .i64 (((r0_3.getD (IntKind.i64.wrap (t9 - (1 : Int))).toNat .x).cells.getD 1 .x).toI)), (.i .i64 (((r0_3.getD (IntKind.i64.wrap (t9 - (1 : Int))).toNat .x).cells.getD 2 .x).toI)), (.i .i64 (((r0_3.getD (IntKind.i64.wrap (t9 - (1 : Int))).toNat .x).cells.getD 3 .x).toI)), (.i .i64 (((r0_3.getD (IntKind.i64.wrap (t9 - (1 : Int))).toNat .x).cells.getD 4 .x).toI)), (.s (((r0_3.getD (IntKind.i64.wrap (t9 - (1 : Int))).toNat .x).cells.getD 5 .x).toS)), (.s (((r0_3.getD (IntKind.i64.wrap (t9 - (1 : Int))).toNat .x).cells.getD 6 .x).toS)), (.i .i64 (((r0_3.getD (IntKind.i64.wrap (t9 - (1 : Int))).toNat .x).cells.getD 7 .x).toI)), (.i .i64 (((r0_3.getD (IntKind.i64.wrap (t9 - (1 : Int))).toNat .x).cells.getD 8 .x).toI)), (.i .i64 (((r0_3.getD (IntKind.i64.wrap (t9 - (1 : Int))).toNat .x).cells.getD 9 .x).toI))]), (.agg [(.i .i64 (((t7.getD t9.toNat .x).cells.getD 0 .x).toI)), (.i .i64 (((t7.getD t9.toNat .x).cells.getD 1 .x).toI)), (.i .i64 (((t7.getD t9.toNat .x).cells.getD 2 .x).toI)), (.i .i64 (((t7.getD t9.toNat .x).cells.getD 3 .x).toI)), (.i .i64 (((t7.getD t9.toNat .x).cells.getD 4 .x).toI)), (.s (((t7.getD t9.toNat .x).cells.getD 5 .x).toS)), (.s (((t7.getD t9.toNat .x).cells.getD 6 .x).toS)), (.i .i64 (((t7.getD t9.toNat .x).cells.getD 7 .x).toI)), (.i .i64 (((t7.getD t9.toNat .x).cells.getD 8 .x).toI)), (.i .i64 (((t7.getD t9.toNat .x).cells.getD 9 .x).toI))])] []) fun a3 =>
 cond ((decide ((0 : Int) ≤ a3.toI)) == false)
 (cond ((decide ((0 : Int) < (((t7.getD t9.toNat .x).cells.getD 1 .x).toI))) == true)
 (cond ((decide ((((r0_3.getD (IntKind.i64.wrap (t9 - (1 : Int))).toNat .x).cells.getD 1 .x).toI) = (((t7.getD t9.toNat .x).cells.getD 1 .x).toI))) == true)
 (cond (!(lessS (((r0_3.getD (IntKind.i64.wrap (t9 - (1 : Int))).toNat .x).cells.getD 6 .x).toS) (((t7.getD t9.toNat .x).cells.getD 5 .x).toS) || decide ((((r0_3.getD (IntKind.i64.wrap (t9 - (1 : Int))).toNat .x).cells.getD 6 .x).toS) = (((t7.getD t9.toNat .x).cells.getD 5 .x).toS))))
 (some (.b false))
 (f163_j2 t7 t8 t9 r0_0 r0_1 r0_2 r0_3))
 (f163_j2 t7 t8 t9 r0_0 r0_1 r0_2 r0_3))
 (f163_j2 t7 t8 t9 r0_0 r0_1 r0_2 r0_3))
 (some (.b false))
 else none
 else none))
 else none)
 (some (.b false)))
 (some (.b false)))
 (some (.b false))
 else none
 else none)
 (some (.b (decide (((r0_3.length : Nat) : Int) ≤ (16 : Int))))) := (Lp_eq ..).trans (by kernel_rfl)
theorem f163_j2_eq (t7 : List AV) (t8 : Int) (t9 : Int) (r0_0 : Int) (r0_1 : Int) (r0_2 : Int) (r0_3 : List AV) : f163_j2 t7 t8 t9 r0_0 r0_1 r0_2 r0_3 =
 f163_l1 t7 t8 (IntKind.i64.wrap (t9 + (1 : Int))) r0_0 r0_1 r0_2 r0_3 := by kernel_rfl
/-! 102: loop.example/g00905/impl.ValidVersion -/
theorem f102_eq (x0_0 : Int) (x0_1 : Int) (x0_2 : Int) (x0_3 : List AV) : den E 102 [(.agg [(.i .i64 x0_0), (.i .i64 x0_1), (.i .i64 x0_2), (.imm 10 x0_3)])] [] =
 bSh .b (den E 155 [(.i .i64 x0_0), (.i .i64 (1 : Int)), (.i .i64 (1000000 : Int))] []) fun a1 =>
 cond (a1.toB == true)
 (bSh .b (den E 155 [(.i .i64 x0_1), (.i .i64 (0 : Int)), (.i .i64 (11 : Int))] []) fun a2 =>
 cond (a2.toB == true)
 (bSh .b (den E 155 [(.i .i64 x0_2), (.i .i64 (0 : Int)), (.i .i64 (1000000 : Int))] []) fun a3 =>
 cond (a3.toB == true)
 (bSh .b (den E 163 [(.agg [(.i .i64 x0_0), (.i .i64 x0_1), (.i .i64 x0_2), (.imm 10 x0_3)])] []) fun a4 =>
 some (.b a4.toB))
 (some (.b false)))
 (some (.b false)))
 (some (.b false)) := (den_eq ..).trans (by kernel_rfl)
/-! 208: slices.Clone[[]loop.example/g00905/impl.TableRef,loop.example/g00905/impl.TableRef] -/
theorem f208_eq (x0 : List AV) : dno E 208 [(.imm 10 x0)] [] = if 10 = 10 ∧ x0.length * 96 ≤ room then some (.sl 0 [] none, [.live true false false 185 x0]) else none := (dno_eq ..).trans (by kernel_rfl)
/-! 209: (loop.example/g00905/impl.Version).in$1 -/
theorem f209q1_eq (x0_0 : Int) (x0_1 : Int) (x0_2 : Int) (x0_3 : Int) (x0_4 : Int) (x0_5 : ByteArray) (x0_6 : ByteArray) (x0_7 : Int) (x0_8 : Int) (x0_9 : Int) (x1 : AV) : den E 209 [(.agg [(.i .i64 x0_0), (.i .i64 x0_1), (.i .i64 x0_2), (.i .i64 x0_3), (.i .i64 x0_4), (.s x0_5), (.s x0_6), (.i .i64 x0_7), (.i .i64 x0_8), (.i .i64 x0_9)]), (.ip x1 0)] [] =
 if okCells false x1 0 [(.i .i64)] = true then
 some (.b (!decide (x0_2 = ((x1.cells.getD 0 .x).toI))))
 else none := (den_eq ..).trans (by kernel_rfl)
/-! 232: slices.IndexFunc[[]loop.example/g00905/impl.TableRef,loop.example/g00905/impl.TableRef] -/
noncomputable def f232q2_l1 (t0 : List AV) (t1_0 : AV) (t7 : Int) (t8 : Int) : Option AV := Lp E fi232 [true, false, true, false] (mkT 19 [(0, (.imm 10 t0)), (1, (.fn 209 [(.ip t1_0 0)])), (7, (.i .i64 t7)), (8, (.i .i64 t8))]) []
theorem f232q2_eq (x0 : List AV) (x1_0 : AV) : den E 232 [(.imm 10 x0), (.fn 209 [(.ip x1_0 0)])] [] =
 f232q2_l1 x0 x1_0 ((x0.length : Nat) : Int) (0 : Int) := (den_eq ..).trans (by kernel_rfl)
theorem f232q2_l1_eq (t0 : List AV) (t1_0 : AV) (t7 : Int) (t8 : Int) : f232q2_l1 t0 t1_0 t7 t8 =
 cond (decide (t8 < t7))
 (if 0 ≤ t8 ∧ t8 < ((t0.length : Nat) : Int) then
 if okCells false (t0.getD t8.toNat .x) 0 [(.i .i64), (.i .i64), (.i .i64), (.i .i64), (.i .i64), .s, .s, (.i .i64), (.i .i64), (.i .i64)] = true then
 bSh .b (den E 209 [(.agg [(.i .i64 (((t0.getD t8.toNat .x).cells.getD 0 .x).toI)), (.i .i64 (((t0.getD t8.toNat .x).cells.getD 1 .x).toI)), (.i .i64 (((t0.getD t8.toNat .x).cells.getD 2 .x).toI)), (.i .i64 (((t0.getD t8.toNat .x).cells.getD 3 .x).toI)), (.i .i64 (((t0.getD t8.toNat .x).cells.getD 4 .x).toI)), (.s (((t0.getD t8.toNat .x).cells.getD 5 .x).toS)), (.s (((t0.getD t8.toNat .x).cells.getD 6 .x).toS)), (.i .i64 (((t0.getD t8.toNat .x).cells.getD 7 .x).toI)), (.i .i64 (((t0.getD t8.toNat .x).cells.getD 8 .x).toI)), (.i .i64 (((t0.getD t8.toNat .x).cells.getD 9 .x).toI))]), (.ip t1_0 0)] []) fun a1 =>
 cond a1.toB
 (some (.i .i64 t8))
 (f232q2_l1 t0 t1_0 t7 (IntKind.i64.wrap (t8 + (1 : Int))))
 else none
 else none)
 (some (.i .i64 (-1 : Int))) := (Lp_eq ..).trans (by kernel_rfl)
/-! 207: slices.DeleteFunc[[]loop.example/g00905/impl.TableRef,loop.example/g00905/impl.TableRef] -/
noncomputable def f207o1_l1 (t1_0 : AV) (t5 : Int) (t6 : Int) (r0 : List AV) : Option (AV × List Root) := LpO E fi207 [(5, [0, 1, 5, 6], 1), (6, [0, 1, 5, 6], 1)] 1 (.pr 0) [true, true, true, false, true, false] (mkT 42 [(0, (.sl 0 [] none)), (1, (.fn 209 [(.ip t1_0 0)])), (5, (.i .i64 t5)), (6, (.i .i64 t6))]) [(.live true false false 185 r0)]
noncomputable def f207o1_j2 (t1_0 : AV) (t5 : Int) (t6 : Int) (r0 : List AV) : Option (AV × List Root) := JnO E fi207 [(5, [0, 1, 5, 6], 1), (6, [0, 1, 5, 6], 1)] 1 (.pr 0) [true, true, true, false, true, false, false, true, true] (mkT 42 [(0, (.sl 0 [] none)), (1, (.fn 209 [(.ip t1_0 0)])), (5, (.i .i64 t5)), (6, (.i .i64 t6))]) [(.live true false false 185 r0)]
theorem f207o1_eq (x1_0 : AV) (s0 : List AV) : dno E 207 [(.sl 0 [] none), (.fn 209 [(.ip x1_0 0)])] [(.live true false false 185 s0)] =
 bSh (.i .i64) (den E 232 [(.imm 10 s0), (.fn 209 [(.ip x1_0 0)])] []) fun a1 =>
 cond (decide (a1.toI = (-1 : Int)))
 (some ((.sl 0 [] (some (0, s0.length))), [(.live true false false 185 s0)]))
 (f207o1_l1 x1_0 a1.toI (IntKind.i64.wrap (a1.toI + (1 : Int))) s0) := (dno_eq ..).trans (by kernel_rfl)
theorem f207o1_l1_eq (t1_0 : AV) (t5 : Int) (t6 : Int) (r0 : List AV) : f207o1_l1 t1_0 t5 t6 r0 =
 cond (decide (t6 < ((r0.length : Nat) : Int)))
 (if 0 ≤ t6 ∧ t6 < ((r0.length : Nat) : Int) then
 if okCells false (r0.getD (0 + t6.toNat) .x) 0 [(.i .i64), (.i .i64), (.i .i64), (.i .i64), (.i .i64), .s, .s, (.i .i64), (.i .i64), (.i .i64)] = true then
 bSh .b (den E 209 [(.agg [(.i .i64 (((r0.getD (0 + t6.toNat) .x).cells.getD 0 .x).toI)), (.i .i64 (((r0.getD (0 + t6.toNat) .x).cells.getD 1 .x).toI)), (.i .i64 (((r0.getD (0 + t6.toNat) .x).cells.getD 2 .x).toI)), (.i .i64 (((r0.getD (0 + t6.toNat) .x).cells.getD 3 .x).toI)), (.i .i64 (((r0.getD (0 + t6.toNat) .x).cells.getD 4 .x).toI)), (.s (((r0.getD (0 + t6.toNat) .x).cells.getD 5 .x).toS)), (.s (((r0.getD (0 + t6.toNat) .x).cells.getD 6 .x).toS)), (.i .i64 (((r0.getD (0 + t6.toNat) .x).cells.getD 7 .x).toI)), (.i .i64 (((r0.getD (0 + t6.toNat) .x).cells.getD 8 .x).toI)), (.i .i64 (((r0.getD (0 + t6.toNat) .x).cells.getD 9 .x).toI))]), (.ip t1_0 0)] []) fun a1 =>
 cond (!a1.toB)
 (if 0 ≤ t5 ∧ t5 < ((r0.length : Nat) : Int) then
 f207o1_j2 t1_0 (IntKind.i64.wrap (t5 + (1 : Int))) t6 (r0.set (0 + t5.toNat) ((r0.getD (0 + t5.toNat) .x).putCells 0 [(.i .i64 (((r0.getD (0 + t6.toNat) .x).cells.getD 0 .x).toI)), (.i .i64 (((r0.getD (0 + t6.toNat) .x).cells.getD 1 .x).toI)), (.i .i64 (((r0.getD (0 + t6.toNat) .x).cells.getD 2 .x).toI)), (.i .i64 (((r0.getD (0 + t6.toNat) .x).cells.getD 3 .x).toI)), (.i .i64 (((r0.getD (0 + t6.toNat) .x).cells.getD 4 .x).toI)), (.s (((r0.getD (0 + t6.toNat) .x).cells.getD 5 .x).toS)), (.s (((r0.getD (0 + t6.toNat) .x).cells.getD 6 .x).toS)), (.i .i64 (((r0.getD (0 + t6.toNat) .x).cells.getD 7 .x).toI)), (.i .i64 (((r0.getD (0 + t6.toNat) .x).cells.getD 8 .x).toI)), (.i .i64 (((r0.getD (0 + t6.toNat) .x).cells.getD 9 .x).toI))]))
 else none)
 (f207o1_j2 t1_0 t5 t6 r0)
 else none
 else none)
 (if 0 ≤ t5 ∧ t5 ≤ ((r0.length : Nat) : Int) ∧ ((r0.length : Nat) : Int) ≤ ((r0.length : Nat) : Int) then
 if 0 ≤ (0 : Int) ∧ (0 : Int) ≤ t5 ∧ t5 ≤ (((r0.take t5.toNat ++ List.replicate (((r0.length : Nat) : Int).toNat - t5.toNat) ((.agg [(.i .i64 (0 : Int)), (.i .i64 (0 : Int)), (.i .i64 (0 : Int)), (.i .i64 (0 : Int)), (.i .i64 (0 : Int)), (.s .empty), (.s .empty), (.i .i64 (0 : Int)), (.i .i64 (0 : Int)), (.i .i64 (0 : Int))]) : AV) ++ r0.drop (t5.toNat + (((r0.length : Nat) : Int).toNat - t5.toNat))).length : Nat) : Int) then
 some ((.sl 0 [] (some ((0 : Int).toNat, (t5.toNat - (0 : Int).toNat)))), [(.live true false false 185 (r0.take t5.toNat ++ List.replicate (((r0.length : Nat) : Int).toNat - t5.toNat) ((.agg [(.i .i64 (0 : Int)), (.i .i64 (0 : Int)), (.i .i64 (0 : Int)), (.i .i64 (0 : Int)), (.i .i64 (0 : Int)), (.s .empty), (.s .empty), (.i .i64 (0 : Int)), (.i .i64 (0 : Int)), (.i .i64 (0 : Int))]) : AV) ++ r0.drop (t5.toNat + (((r0.length : Nat) : Int).toNat - t5.toNat))))])
 else none
 else none) := (LpO_eq ..).trans (by kernel_rfl)
theorem f207o1_j2_eq (t1_0 : AV) (t5 : Int) (t6 : Int) (r0 : List AV) : f207o1_j2 t1_0 t5 t6 r0 =
 f207o1_l1 t1_0 t5 (IntKind.i64.wrap (t6 + (1 : Int))) r0 := by kernel_rfl
/-! 164: (loop.example/g00905/impl.Version).in -/
theorem f164_eq (x0_0 : Int) (x0_1 : Int) (x0_2 : Int) (x0_3 : List AV) (x1 : Int) : den E 164 [(.agg [(.i .i64 x0_0), (.i .i64 x0_1), (.i .i64 x0_2), (.imm 10 x0_3)]), (.i .i64 x1)] [] =
 bOwn (.so 0) [(.row true 185)] 0 (dno E 208 [(.imm 10 x0_3)] []) fun a1 =>
 bOwnF (.pr 0) [(.row true 185)] 1 (dno E 207 [(.sl 0 [] none), (.fn 209 [(.ip (.i .i64 x1) 0)])] [(.live true false false 185 ((a1.2.getD 0 .dead).row))]) fun a2 =>
 some (.imm 10 ((((a2.2.getD 0 .dead).row).drop a2.1.off).take a2.1.cnt)) := (den_eq ..).trans (by kernel_rfl)
/-! 103: (loop.example/g00905/impl.Version).livePages -/
noncomputable def f103_l1 (t5 : Int) (t10 : List AV) (t11 : Int) (t12 : Int) : Option AV := Lp E fi103 [true, true, false, true, false] (mkT 22 [(5, (.i .i64 t5)), (10, (.imm 10 t10)), (11, (.i .i64 t11)), (12, (.i .i64 t12))]) []
theorem f103_eq (x0_0 : Int) (x0_1 : Int) (x0_2 : Int) (x0_3 : List AV) (x1 : Int) : den E 103 [(.agg [(.i .i64 x0_0), (.i .i64 x0_1), (.i .i64 x0_2), (.imm 10 x0_3)]), (.i .i64 x1)] [] =
 bSh (.sl 185 10) (den E 164 [(.agg [(.i .i64 x0_0), (.i .i64 x0_1), (.i .i64 x0_2), (.imm 10 x0_3)]), (.i .i64 x1)] []) fun a1 =>
 f103_l1 (0 : Int) a1.toL ((a1.toL.length : Nat) : Int) (0 : Int) := (den_eq ..).trans (by kernel_rfl)
theorem f103_l1_eq (t5 : Int) (t10 : List AV) (t11 : Int) (t12 : Int) : f103_l1 t5 t10 t11 t12 =
 cond (decide (t12 < t11))
 (if 0 ≤ t12 ∧ t12 < ((t10.length : Nat) : Int) then
 if okCells false (t10.getD t12.toNat .x) 0 [(.i .i64), (.i .i64), (.i .i64), (.i .i64), (.i .i64), .s, .s, (.i .i64), (.i .i64), (.i .i64)] = true then
 f103_l1 (IntKind.i64.wrap (t5 + (((t10.getD t12.toNat .x).cells.getD 4 .x).toI))) t10 t11 (IntKind.i64.wrap (t12 + (1 : Int)))
 else none
 else none)
 (some (.i .i64 t5)) := (Lp_eq ..).trans (by kernel_rfl)
/-! 40: loop.example/g00905/impl.LiveInZone -/
theorem f40_eq (x0_0 : Int) (x0_1 : Int) (x0_2 : Int) (x0_3 : List AV) (x1 : Int) : den E 40 [(.agg [(.i .i64 x0_0), (.i .i64 x0_1), (.i .i64 x0_2), (.imm 10 x0_3)]), (.i .i64 x1)] [] =
 bSh .b (den E 102 [(.agg [(.i .i64 x0_0), (.i .i64 x0_1), (.i .i64 x0_2), (.imm 10 x0_3)])] []) fun a1 =>
 cond (!a1.toB)
 (some (.i .i64 (0 : Int)))
 (bSh (.i .i64) (den E 103 [(.agg [(.i .i64 x0_0), (.i .i64 x0_1), (.i .i64 x0_2), (.imm 10 x0_3)]), (.i .i64 x1)] []) fun a2 =>
 some (.i .i64 a2.toI)) := (den_eq ..).trans (by kernel_rfl)
/-! 165: loop.example/g00905/laws.eqTableRef -/
theorem f165_eq (x0_0 : Int) (x0_1 : Int) (x0_2 : Int) (x0_3 : Int) (x0_4 : Int) (x0_5 : ByteArray) (x0_6 : ByteArray) (x0_7 : Int) (x0_8 : Int) (x0_9 : Int) (x1_0 : Int) (x1_1 : Int) (x1_2 : Int) (x1_3 : Int) (x1_4 : Int) (x1_5 : ByteArray) (x1_6 : ByteArray) (x1_7 : Int) (x1_8 : Int) (x1_9 : Int) : den E 165 [(.agg [(.i .i64 x0_0), (.i .i64 x0_1), (.i .i64 x0_2), (.i .i64 x0_3), (.i .i64 x0_4), (.s x0_5), (.s x0_6), (.i .i64 x0_7), (.i .i64 x0_8), (.i .i64 x0_9)]), (.agg [(.i .i64 x1_0), (.i .i64 x1_1), (.i .i64 x1_2), (.i .i64 x1_3), (.i .i64 x1_4), (.s x1_5), (.s x1_6), (.i .i64 x1_7), (.i .i64 x1_8), (.i .i64 x1_9)])] [] =
 cond (!decide (x0_0 = x1_0))
 (some (.b false))
 (cond (!decide (x0_1 = x1_1))
 (some (.b false))
 (cond (!decide (x0_2 = x1_2))
 (some (.b false))
 (cond (!decide (x0_3 = x1_3))
 (some (.b false))
 (cond (!decide (x0_4 = x1_4))
 (some (.b false))
 (cond (!decide (x0_5 = x1_5))
 (some (.b false))
 (cond (!decide (x0_6 = x1_6))
 (some (.b false))
 (cond (!decide (x0_7 = x1_7))
 (some (.b false))
 (cond (!decide (x0_8 = x1_8))
 (some (.b false))
 (cond (!decide (x0_9 = x1_9))
 (some (.b false))
 (some (.b true))))))))))) := (den_eq ..).trans (by kernel_rfl)
/-! 104: loop.example/g00905/laws.eqTableRefS -/
noncomputable def f104_l1 (t0 : List AV) (t1 : List AV) (t5 : Int) : Option AV := Lp E fi104 [true, true, false, true, false] (mkT 27 [(0, (.imm 10 t0)), (1, (.imm 10 t1)), (5, (.i .i64 t5))]) []
theorem f104_eq (x0 : List AV) (x1 : List AV) : den E 104 [(.imm 10 x0), (.imm 10 x1)] [] =
 cond (!decide (((x0.length : Nat) : Int) = ((x1.length : Nat) : Int)))
 (some (.b false))
 (f104_l1 x0 x1 (0 : Int)) := (den_eq ..).trans (by kernel_rfl)
theorem f104_l1_eq (t0 : List AV) (t1 : List AV) (t5 : Int) : f104_l1 t0 t1 t5 =
 cond (decide (t5 < ((t0.length : Nat) : Int)))
 (if 0 ≤ t5 ∧ t5 < ((t0.length : Nat) : Int) then
 if okCells false (t0.getD t5.toNat .x) 0 [(.i .i64), (.i .i64), (.i .i64), (.i .i64), (.i .i64), .s, .s, (.i .i64), (.i .i64), (.i .i64)] = true then
 if 0 ≤ t5 ∧ t5 < ((t1.length : Nat) : Int) then
 if okCells false (t1.getD t5.toNat .x) 0 [(.i .i64), (.i .i64), (.i .i64), (.i .i64), (.i .i64), .s, .s, (.i .i64), (.i .i64), (.i .i64)] = true then
 bSh .b (den E 165 [(.agg [(.i .i64 (((t0.getD t5.toNat .x).cells.getD 0 .x).toI)), (.i .i64 (((t0.getD t5.toNat .x).cells.getD 1 .x).toI)), (.i .i64 (((t0.getD t5.toNat .x).cells.getD 2 .x).toI)), (.i .i64 (((t0.getD t5.toNat .x).cells.getD 3 .x).toI)), (.i .i64 (((t0.getD t5.toNat .x).cells.getD 4 .x).toI)), (.s (((t0.getD t5.toNat .x).cells.getD 5 .x).toS)), (.s (((t0.getD t5.toNat .x).cells.getD 6 .x).toS)), (.i .i64 (((t0.getD t5.toNat .x).cells.getD 7 .x).toI)), (.i .i64 (((t0.getD t5.toNat .x).cells.getD 8 .x).toI)), (.i .i64 (((t0.getD t5.toNat .x).cells.getD 9 .x).toI))]), (.agg [(.i .i64 (((t1.getD t5.toNat .x).cells.getD 0 .x).toI)), (.i .i64 (((t1.getD t5.toNat .x).cells.getD 1 .x).toI)), (.i .i64 (((t1.getD t5.toNat .x).cells.getD 2 .x).toI)), (.i .i64 (((t1.getD t5.toNat .x).cells.getD 3 .x).toI)), (.i .i64 (((t1.getD t5.toNat .x).cells.getD 4 .x).toI)), (.s (((t1.getD t5.toNat .x).cells.getD 5 .x).toS)), (.s (((t1.getD t5.toNat .x).cells.getD 6 .x).toS)), (.i .i64 (((t1.getD t5.toNat .x).cells.getD 7 .x).toI)), (.i .i64 (((t1.getD t5.toNat .x).cells.getD 8 .x).toI)), (.i .i64 (((t1.getD t5.toNat .x).cells.getD 9 .x).toI))])] []) fun a1 =>
 cond (!a1.toB)
 (some (.b false))
 (f104_l1 t0 t1 (IntKind.i64.wrap (t5 + (1 : Int))))
 else none
 else none
 else none
 else none)
 (some (.b true)) := (Lp_eq ..).trans (by kernel_rfl)
/-! 41: loop.example/g00905/laws.eqVersion -/
theorem f41_eq (x0_0 : Int) (x0_1 : Int) (x0_2 : Int) (x0_3 : List AV) (x1_0 : Int) (x1_1 : Int) (x1_2 : Int) (x1_3 : List AV) : den E 41 [(.agg [(.i .i64 x0_0), (.i .i64 x0_1), (.i .i64 x0_2), (.imm 10 x0_3)]), (.agg [(.i .i64 x1_0), (.i .i64 x1_1), (.i .i64 x1_2), (.imm 10 x1_3)])] [] =
 cond (!decide (x0_0 = x1_0))
 (some (.b false))
 (cond (!decide (x0_1 = x1_1))
 (some (.b false))
 (cond (!decide (x0_2 = x1_2))
 (some (.b false))
 (bSh .b (den E 104 [(.imm 10 x0_3), (.imm 10 x1_3)] []) fun a1 =>
 cond (!a1.toB)
 (some (.b false))
 (some (.b true))))) := (den_eq ..).trans (by kernel_rfl)
/-! 7: loop.example/g00905/laws.FnExactLiveInZone -/
theorem f7_eq (x0_0 : Int) (x0_1 : Int) (x0_2 : Int) (x0_3 : List AV) (x1 : Int) : den E 7 [(.agg [(.i .i64 x0_0), (.i .i64 x0_1), (.i .i64 x0_2), (.imm 10 x0_3)]), (.i .i64 x1)] [] =
 bSh (.i .i64) (den E 37 [(.agg [(.i .i64 x0_0), (.i .i64 x0_1), (.i .i64 x0_2), (.imm 10 x0_3)]), (.i .i64 (1048576 : Int))] []) fun a1 =>
 cond (decide (a1.toI < (0 : Int)))
 (some (.b true))
 (bSh (.agg [(.i .i64), (.i .i64), (.i .i64), (.sl 185 10)]) (den E 39 [(.agg [(.i .i64 x0_0), (.i .i64 x0_1), (.i .i64 x0_2), (.imm 10 x0_3)])] []) fun a2 =>
 bSh (.i .i64) (den E 38 [(.agg [(.i .i64 ((a2.nth 0).toI)), (.i .i64 ((a2.nth 1).toI)), (.i .i64 ((a2.nth 2).toI)), (.imm 10 ((a2.nth 3).toL))]), (.i .i64 x1)] []) fun a3 =>
 bSh (.agg [(.i .i64), (.i .i64), (.i .i64), (.sl 185 10)]) (den E 39 [(.agg [(.i .i64 x0_0), (.i .i64 x0_1), (.i .i64 x0_2), (.imm 10 x0_3)])] []) fun a4 =>
 bSh (.i .i64) (den E 40 [(.agg [(.i .i64 ((a4.nth 0).toI)), (.i .i64 ((a4.nth 1).toI)), (.i .i64 ((a4.nth 2).toI)), (.imm 10 ((a4.nth 3).toL))]), (.i .i64 x1)] []) fun a5 =>
 cond (!decide (a5.toI = a3.toI))
 (some (.b false))
 (bSh (.agg [(.i .i64), (.i .i64), (.i .i64), (.sl 185 10)]) (den E 39 [(.agg [(.i .i64 x0_0), (.i .i64 x0_1), (.i .i64 x0_2), (.imm 10 x0_3)])] []) fun a6 =>
 bSh .b (den E 41 [(.agg [(.i .i64 ((a4.nth 0).toI)), (.i .i64 ((a4.nth 1).toI)), (.i .i64 ((a4.nth 2).toI)), (.imm 10 ((a4.nth 3).toL))]), (.agg [(.i .i64 ((a6.nth 0).toI)), (.i .i64 ((a6.nth 1).toI)), (.i .i64 ((a6.nth 2).toI)), (.imm 10 ((a6.nth 3).toL))])] []) fun a7 =>
 cond (!a7.toB)
 (some (.b false))
 (some (.b true)))) := (den_eq ..).trans (by kernel_rfl)
end Go.Proofs.Ythlmjmejnlalaab.ILiveInZone
