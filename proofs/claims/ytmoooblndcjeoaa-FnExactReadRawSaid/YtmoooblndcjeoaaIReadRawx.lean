/- Printed by a program of this work (wip/it/itp.py): what each function comes to. No condition. -/
import Derived.Test.YtmoooblndcjeoaaIReadRawt
namespace Go.Proofs.Ytmoooblndcjeoaa.IReadRaw
open Go Go.Proofs.YtmoooblndcjeoaaIT
set_option linter.unusedVariables false
/-! 35: loop.example/g00905/laws.szStringS -/
noncomputable def f35_l1 (t0 : List AV) (t1 : Int) (t5 : Int) : Option AV := Lp E fi35 [true, true, true, false, true, false] (mkT 28 [(0, (.imm 1 t0)), (1, (.i .i64 t1)), (5, (.i .i64 t5))]) []
theorem f35_eq (x0 : List AV) (x1 : Int) : den E 35 [(.imm 1 x0), (.i .i64 x1)] [] =
 cond (decide ((IntKind.i64.wrap (x1 - ((x0.length : Nat) : Int))) < (0 : Int)))
 (some (.i .i64 (-1 : Int)))
 (f35_l1 x0 (IntKind.i64.wrap (x1 - ((x0.length : Nat) : Int))) (0 : Int)) := (den_eq ..).trans (by kernel_rfl)
theorem f35_l1_eq (t0 : List AV) (t1 : Int) (t5 : Int) : f35_l1 t0 t1 t5 =
 cond (decide (t5 < ((t0.length : Nat) : Int)))
 (if 0 ≤ t5 ∧ t5 < ((t0.length : Nat) : Int) then
 if okCells false (t0.getD t5.toNat .x) 0 [.s] = true then
 cond (decide ((IntKind.i64.wrap (t1 - (((((t0.getD t5.toNat .x).cells.getD 0 .x).toS).size : Nat) : Int))) < (0 : Int)))
 (some (.i .i64 (-1 : Int)))
 (f35_l1 t0 (IntKind.i64.wrap (t1 - (((((t0.getD t5.toNat .x).cells.getD 0 .x).toS).size : Nat) : Int))) (IntKind.i64.wrap (t5 + (1 : Int))))
 else none
 else none)
 (some (.i .i64 t1)) := (Lp_eq ..).trans (by kernel_rfl)
/-! 19: loop.example/g00905/laws.szBlock -/
theorem f19_eq (x0_0 : Int) (x0_1 : Int) (x0_2 : Bool) (x0_3 : List AV) (x1 : Int) : den E 19 [(.agg [(.i .i64 x0_0), (.i .i64 x0_1), (.b x0_2), (.imm 1 x0_3)]), (.i .i64 x1)] [] =
 bSh (.i .i64) (den E 35 [(.imm 1 x0_3), (.i .i64 x1)] []) fun a1 =>
 cond (decide (a1.toI < (0 : Int)))
 (some (.i .i64 (-1 : Int)))
 (some (.i .i64 a1.toI)) := (den_eq ..).trans (by kernel_rfl)
/-! 9: loop.example/g00905/laws.szBlockS -/
noncomputable def f9_l1 (t0 : List AV) (t1 : Int) (t5 : Int) : Option AV := Lp E fi9 [true, true, true, false, true, false] (mkT 27 [(0, (.imm 4 t0)), (1, (.i .i64 t1)), (5, (.i .i64 t5))]) []
theorem f9_eq (x0 : List AV) (x1 : Int) : den E 9 [(.imm 4 x0), (.i .i64 x1)] [] =
 cond (decide ((IntKind.i64.wrap (x1 - ((x0.length : Nat) : Int))) < (0 : Int)))
 (some (.i .i64 (-1 : Int)))
 (f9_l1 x0 (IntKind.i64.wrap (x1 - ((x0.length : Nat) : Int))) (0 : Int)) := (den_eq ..).trans (by kernel_rfl)
theorem f9_l1_eq (t0 : List AV) (t1 : Int) (t5 : Int) : f9_l1 t0 t1 t5 =
 cond (decide (t5 < ((t0.length : Nat) : Int)))
 (if 0 ≤ t5 ∧ t5 < ((t0.length : Nat) : Int) then
 if okCells false (t0.getD t5.toNat .x) 0 [(.i .i64), (.i .i64), .b, (.sl 9 1)] = true then
 bSh (.i .i64) (den E 19 [(.agg [(.i .i64 (((t0.getD t5.toNat .x).cells.getD 0 .x).toI)), (.i .i64 (((t0.getD t5.toNat .x).cells.getD 1 .x).toI)), (.b (((t0.getD t5.toNat .x).cells.getD 2 .x).toB)), (.imm 1 (((t0.getD t5.toNat .x).cells.getD 3 .x).toL))]), (.i .i64 t1)] []) fun a1 =>
 cond (decide (a1.toI < (0 : Int)))
 (some (.i .i64 (-1 : Int)))
 (f9_l1 t0 a1.toI (IntKind.i64.wrap (t5 + (1 : Int))))
 else none
 else none)
 (some (.i .i64 t1)) := (Lp_eq ..).trans (by kernel_rfl)
/-! 4: loop.example/g00905/laws.szFlash -/
theorem f4_eq (x0_0 : Int) (x0_1 : Int) (x0_2 : Int) (x0_3 : List AV) (x0_4 : Int) (x0_5 : Int) (x0_6 : Bool) (x0_7 : Int) (x1 : Int) : den E 4 [(.agg [(.i .i64 x0_0), (.i .i64 x0_1), (.i .i64 x0_2), (.imm 4 x0_3), (.i .i64 x0_4), (.i .i64 x0_5), (.b x0_6), (.i .i64 x0_7)]), (.i .i64 x1)] [] =
 bSh (.i .i64) (den E 9 [(.imm 4 x0_3), (.i .i64 x1)] []) fun a1 =>
 cond (decide (a1.toI < (0 : Int)))
 (some (.i .i64 (-1 : Int)))
 (some (.i .i64 a1.toI)) := (den_eq ..).trans (by kernel_rfl)
/-! 13: loop.example/g00905/laws.toGeometry -/
theorem f13_eq (x0_0 : Int) (x0_1 : Int) (x0_2 : Int) : den E 13 [(.agg [(.i .i64 x0_0), (.i .i64 x0_1), (.i .i64 x0_2)])] [] =
 some (.agg [(.i .i64 x0_0), (.i .i64 x0_1), (.i .i64 x0_2)]) := (den_eq ..).trans (by kernel_rfl)
/-! 37: loop.example/g00905/laws.toStringS -/
noncomputable def f37_l1 (t0 : List AV) (t4 : Int) (r0 : List AV) (r1 : List AV) : Option AV := Lp E fi37 [true, true, false, true, false] (mkT 22 [(0, (.imm 1 t0)), (3, (.sl 1 [] none)), (4, (.i .i64 t4))]) [(.live true false false 9 r0), (.live true false false 9 r1)]
theorem f37_eq (x0 : List AV) : den E 37 [(.imm 1 x0)] [] =
 if 0 ≤ ((x0.length : Nat) : Int) ∧ ((x0.length : Nat) : Int) ≤ ((x0.length : Nat) : Int) ∧ ((x0.length : Nat) : Int) * ((16 : Nat) : Int) ≤ ((room : Nat) : Int) ∧ ((x0.length : Nat) : Int) ≤ 9223372036854775807 then
 f37_l1 x0 (0 : Int) [] (List.replicate ((x0.length : Nat) : Int).toNat (.s .empty))
 else none := (den_eq ..).trans (by kernel_rfl)
theorem f37_l1_eq (t0 : List AV) (t4 : Int) (r0 : List AV) (r1 : List AV) : f37_l1 t0 t4 r0 r1 =
 cond (decide (t4 < ((t0.length : Nat) : Int)))
 (if 0 ≤ t4 ∧ t4 < ((t0.length : Nat) : Int) then
 if okCells false (t0.getD t4.toNat .x) 0 [.s] = true then
 if 0 ≤ t4 ∧ t4 < ((r1.length : Nat) : Int) then
 f37_l1 t0 (IntKind.i64.wrap (t4 + (1 : Int))) r0 (r1.set (0 + t4.toNat) ((r1.getD (0 + t4.toNat) .x).putCells 0 [(.s (((t0.getD t4.toNat .x).cells.getD 0 .x).toS))]))
 else none
 else none
 else none)
 (some (.imm 1 r1)) := (Lp_eq ..).trans (by kernel_rfl)
/-! 25: loop.example/g00905/laws.toBlock -/
theorem f25_eq (x0_0 : Int) (x0_1 : Int) (x0_2 : Bool) (x0_3 : List AV) : den E 25 [(.agg [(.i .i64 x0_0), (.i .i64 x0_1), (.b x0_2), (.imm 1 x0_3)])] [] =
 bSh (.sl 9 1) (den E 37 [(.imm 1 x0_3)] []) fun a1 =>
 some (.agg [(.i .i64 x0_0), (.i .i64 x0_1), (.b x0_2), (.imm 1 a1.toL)]) := (den_eq ..).trans (by kernel_rfl)
/-! 14: loop.example/g00905/laws.toBlockS -/
noncomputable def f14_l1 (t0 : List AV) (t4 : Int) (r0 : List AV) (r1 : List AV) : Option AV := Lp E fi14 [true, true, false, true, false] (mkT 23 [(0, (.imm 4 t0)), (3, (.sl 1 [] none)), (4, (.i .i64 t4))]) [(.live true false false 54 r0), (.live true false false 54 r1)]
theorem f14_eq (x0 : List AV) : den E 14 [(.imm 4 x0)] [] =
 if 0 ≤ ((x0.length : Nat) : Int) ∧ ((x0.length : Nat) : Int) ≤ ((x0.length : Nat) : Int) ∧ ((x0.length : Nat) : Int) * ((48 : Nat) : Int) ≤ ((room : Nat) : Int) ∧ ((x0.length : Nat) : Int) ≤ 9223372036854775807 then
 f14_l1 x0 (0 : Int) [] (List.replicate ((x0.length : Nat) : Int).toNat (.agg [(.i .i64 (0 : Int)), (.i .i64 (0 : Int)), (.b false), (.imm 1 [])]))
 else none := (den_eq ..).trans (by kernel_rfl)
theorem f14_l1_eq (t0 : List AV) (t4 : Int) (r0 : List AV) (r1 : List AV) : f14_l1 t0 t4 r0 r1 =
 cond (decide (t4 < ((t0.length : Nat) : Int)))
 (if 0 ≤ t4 ∧ t4 < ((t0.length : Nat) : Int) then
 if okCells false (t0.getD t4.toNat .x) 0 [(.i .i64), (.i .i64), .b, (.sl 9 1)] = true then
 bSh (.agg [(.i .i64), (.i .i64), .b, (.sl 9 1)]) (den E 25 [(.agg [(.i .i64 (((t0.getD t4.toNat .x).cells.getD 0 .x).toI)), (.i .i64 (((t0.getD t4.toNat .x).cells.getD 1 .x).toI)), (.b (((t0.getD t4.toNat .x).cells.getD 2 .x).toB)), (.imm 1 (((t0.getD t4.toNat .x).cells.getD 3 .x).toL))])] []) fun a1 =>
 if 0 ≤ t4 ∧ t4 < ((r1.length : Nat) : Int) then
 f14_l1 t0 (IntKind.i64.wrap (t4 + (1 : Int))) r0 (r1.set (0 + t4.toNat) ((r1.getD (0 + t4.toNat) .x).putCells 0 [(.i .i64 ((a1.nth 0).toI)), (.i .i64 ((a1.nth 1).toI)), (.b ((a1.nth 2).toB)), (.imm 1 ((a1.nth 3).toL))]))
 else none
 else none
 else none)
 (some (.imm 4 r1)) := (Lp_eq ..).trans (by kernel_rfl)
/-! 6: loop.example/g00905/laws.toFlash -/
theorem f6_eq (x0_0 : Int) (x0_1 : Int) (x0_2 : Int) (x0_3 : List AV) (x0_4 : Int) (x0_5 : Int) (x0_6 : Bool) (x0_7 : Int) : den E 6 [(.agg [(.i .i64 x0_0), (.i .i64 x0_1), (.i .i64 x0_2), (.imm 4 x0_3), (.i .i64 x0_4), (.i .i64 x0_5), (.b x0_6), (.i .i64 x0_7)])] [] =
 bSh (.agg [(.i .i64), (.i .i64), (.i .i64)]) (den E 13 [(.agg [(.i .i64 x0_0), (.i .i64 x0_1), (.i .i64 x0_2)])] []) fun a1 =>
 bSh (.sl 54 4) (den E 14 [(.imm 4 x0_3)] []) fun a2 =>
 some (.agg [(.i .i64 ((a1.nth 0).toI)), (.i .i64 ((a1.nth 1).toI)), (.i .i64 ((a1.nth 2).toI)), (.imm 4 a2.toL), (.i .i64 x0_4), (.i .i64 x0_5), (.b x0_6), (.i .i64 x0_7)]) := (den_eq ..).trans (by kernel_rfl)
/-! 21: loop.example/g00905/spec.l00In -/
theorem f21_eq (x0 : Int) (x1 : Int) (x2 : Int) : den E 21 [(.i .i64 x0), (.i .i64 x1), (.i .i64 x2)] [] =
 cond ((decide (x1 ≤ x0)) == true)
 (some (.b (decide (x0 ≤ x2))))
 (some (.b false)) := (den_eq ..).trans (by kernel_rfl)
/-! 20: loop.example/g00905/spec.ValidGeometry -/
theorem f20_eq (x0_0 : Int) (x0_1 : Int) (x0_2 : Int) : den E 20 [(.agg [(.i .i64 x0_0), (.i .i64 x0_1), (.i .i64 x0_2)])] [] =
 bSh .b (den E 21 [(.i .i64 x0_0), (.i .i64 (2 : Int)), (.i .i64 (3 : Int))] []) fun a1 =>
 cond (a1.toB == true)
 (bSh .b (den E 21 [(.i .i64 x0_1), (.i .i64 (4 : Int)), (.i .i64 (12 : Int))] []) fun a2 =>
 cond (a2.toB == true)
 (cond ((decide (x0_2 = (8 : Int))) == false)
 (some (.b (decide (x0_2 = (16 : Int)))))
 (some (.b true)))
 (some (.b false)))
 (some (.b false)) := (den_eq ..).trans (by kernel_rfl)
/-! 22: loop.example/g00905/spec.l06Block -/
noncomputable def f22_l1 (t1 : Int) (t5 : Int) (r0_0 : Int) (r0_1 : Int) (r0_2 : Bool) (r0_3 : List AV) : Option AV := Lp E fi22 [true, true, false, true, false] (mkT 48 [(1, (.i .i64 t1)), (2, (.pt 0 [] 0 0)), (5, (.i .i64 t5))]) [(.live false true false 54 [(.agg [(.i .i64 r0_0), (.i .i64 r0_1), (.b r0_2), (.imm 1 r0_3)])])]
noncomputable def f22_j2 (t1 : Int) (t5 : Int) (r0_0 : Int) (r0_1 : Int) (r0_2 : Bool) (r0_3 : List AV) : Option AV := Jn E fi22 [true, true, false, true, false, false, true, true] (mkT 48 [(1, (.i .i64 t1)), (2, (.pt 0 [] 0 0)), (5, (.i .i64 t5))]) [(.live false true false 54 [(.agg [(.i .i64 r0_0), (.i .i64 r0_1), (.b r0_2), (.imm 1 r0_3)])])]
theorem f22_eq (x0_0 : Int) (x0_1 : Int) (x0_2 : Bool) (x0_3 : List AV) (x1 : Int) : den E 22 [(.agg [(.i .i64 x0_0), (.i .i64 x0_1), (.b x0_2), (.imm 1 x0_3)]), (.i .i64 x1)] [] =
 bSh .b (den E 21 [(.i .i64 x0_0), (.i .i64 (0 : Int)), (.i .i64 (1000 : Int))] []) fun a1 =>
 cond ((!a1.toB) == false)
 (bSh .b (den E 21 [(.i .i64 x0_1), (.i .i64 (0 : Int)), (.i .i64 x1)] []) fun a2 =>
 cond ((!a2.toB) == false)
 (cond (!decide (((x0_3.length : Nat) : Int) = x1))
 (some (.b false))
 (f22_l1 x1 (0 : Int) x0_0 x0_1 x0_2 x0_3))
 (some (.b false)))
 (some (.b false)) := (den_eq ..).trans (by kernel_rfl)
theorem f22_l1_eq (t1 : Int) (t5 : Int) (r0_0 : Int) (r0_1 : Int) (r0_2 : Bool) (r0_3 : List AV) : f22_l1 t1 t5 r0_0 r0_1 r0_2 r0_3 =
 cond (decide (t5 < t1))
 (if 0 ≤ t5 ∧ t5 < ((r0_3.length : Nat) : Int) then
 if okCells false (r0_3.getD t5.toNat .x) 0 [.s] = true then
 cond ((!decide ((((((r0_3.getD t5.toNat .x).cells.getD 0 .x).toS).size : Nat) : Int) = (0 : Int))) == true)
 (cond ((!decide ((((((r0_3.getD t5.toNat .x).cells.getD 0 .x).toS).size : Nat) : Int) = (91 : Int))) == false)
 (cond (decide (r0_1 ≤ t5))
 (some (.b false))
 (f22_j2 t1 t5 r0_0 r0_1 r0_2 r0_3))
 (some (.b false)))
 (f22_j2 t1 t5 r0_0 r0_1 r0_2 r0_3)
 else none
 else none)
 (some (.b true)) := (Lp_eq ..).trans (by kernel_rfl)
theorem f22_j2_eq (t1 : Int) (t5 : Int) (r0_0 : Int) (r0_1 : Int) (r0_2 : Bool) (r0_3 : List AV) : f22_j2 t1 t5 r0_0 r0_1 r0_2 r0_3 =
 f22_l1 t1 (IntKind.i64.wrap (t5 + (1 : Int))) r0_0 r0_1 r0_2 r0_3 := by kernel_rfl
/-! 10: loop.example/g00905/spec.ValidFlash -/
noncomputable def f10_l1 (t3 : Int) (r0_0 : Int) (r0_1 : Int) (r0_2 : Int) (r0_3 : List AV) (r0_4 : Int) (r0_5 : Int) (r0_6 : Bool) (r0_7 : Int) : Option AV := Lp E fi10 [true, true, false, true, false] (mkT 55 [(1, (.pt 0 [] 0 0)), (3, (.i .i64 t3))]) [(.live false true false 33 [(.agg [(.i .i64 r0_0), (.i .i64 r0_1), (.i .i64 r0_2), (.imm 4 r0_3), (.i .i64 r0_4), (.i .i64 r0_5), (.b r0_6), (.i .i64 r0_7)])])]
theorem f10_eq (x0_0 : Int) (x0_1 : Int) (x0_2 : Int) (x0_3 : List AV) (x0_4 : Int) (x0_5 : Int) (x0_6 : Bool) (x0_7 : Int) : den E 10 [(.agg [(.i .i64 x0_0), (.i .i64 x0_1), (.i .i64 x0_2), (.imm 4 x0_3), (.i .i64 x0_4), (.i .i64 x0_5), (.b x0_6), (.i .i64 x0_7)])] [] =
 bSh .b (den E 20 [(.agg [(.i .i64 x0_0), (.i .i64 x0_1), (.i .i64 x0_2)])] []) fun a1 =>
 cond ((!a1.toB) == false)
 (cond ((!decide (((x0_3.length : Nat) : Int) = (IntKind.i64.wrap (x0_0 * x0_1)))) == false)
 (bSh .b (den E 21 [(.i .i64 x0_4), (.i .i64 (-1 : Int)), (.i .i64 (1000000 : Int))] []) fun a2 =>
 cond ((!a2.toB) == false)
 (bSh .b (den E 21 [(.i .i64 x0_5), (.i .i64 (0 : Int)), (.i .i64 (91 : Int))] []) fun a3 =>
 cond ((!a3.toB) == false)
 (cond (decide (x0_7 < (0 : Int)))
 (some (.b false))
 (f10_l1 (0 : Int) x0_0 x0_1 x0_2 x0_3 x0_4 x0_5 x0_6 x0_7))
 (some (.b false)))
 (some (.b false)))
 (some (.b false)))
 (some (.b false)) := (den_eq ..).trans (by kernel_rfl)
theorem f10_l1_eq (t3 : Int) (r0_0 : Int) (r0_1 : Int) (r0_2 : Int) (r0_3 : List AV) (r0_4 : Int) (r0_5 : Int) (r0_6 : Bool) (r0_7 : Int) : f10_l1 t3 r0_0 r0_1 r0_2 r0_3 r0_4 r0_5 r0_6 r0_7 =
 cond (decide (t3 < ((r0_3.length : Nat) : Int)))
 (if 0 ≤ t3 ∧ t3 < ((r0_3.length : Nat) : Int) then
 if okCells false (r0_3.getD t3.toNat .x) 0 [(.i .i64), (.i .i64), .b, (.sl 9 1)] = true then
 bSh .b (den E 22 [(.agg [(.i .i64 (((r0_3.getD t3.toNat .x).cells.getD 0 .x).toI)), (.i .i64 (((r0_3.getD t3.toNat .x).cells.getD 1 .x).toI)), (.b (((r0_3.getD t3.toNat .x).cells.getD 2 .x).toB)), (.imm 1 (((r0_3.getD t3.toNat .x).cells.getD 3 .x).toL))]), (.i .i64 r0_2)] []) fun a1 =>
 cond (!a1.toB)
 (some (.b false))
 (f10_l1 (IntKind.i64.wrap (t3 + (1 : Int))) r0_0 r0_1 r0_2 r0_3 r0_4 r0_5 r0_6 r0_7)
 else none
 else none)
 (some (.b true)) := (Lp_eq ..).trans (by kernel_rfl)
/-! 23: loop.example/g00905/spec.l06HasBlock -/
theorem f23_eq (x0_0 : Int) (x0_1 : Int) (x0_2 : Int) (x0_3 : List AV) (x0_4 : Int) (x0_5 : Int) (x0_6 : Bool) (x0_7 : Int) (x1 : Int) : den E 23 [(.agg [(.i .i64 x0_0), (.i .i64 x0_1), (.i .i64 x0_2), (.imm 4 x0_3), (.i .i64 x0_4), (.i .i64 x0_5), (.b x0_6), (.i .i64 x0_7)]), (.i .i64 x1)] [] =
 bSh .b (den E 21 [(.i .i64 x1), (.i .i64 (0 : Int)), (.i .i64 (IntKind.i64.wrap (((x0_3.length : Nat) : Int) - (1 : Int))))] []) fun a1 =>
 some (.b a1.toB) := (den_eq ..).trans (by kernel_rfl)
/-! 11: loop.example/g00905/spec.l06HasPage -/
theorem f11_eq (x0_0 : Int) (x0_1 : Int) (x0_2 : Int) (x0_3 : List AV) (x0_4 : Int) (x0_5 : Int) (x0_6 : Bool) (x0_7 : Int) (x1 : Int) (x2 : Int) : den E 11 [(.agg [(.i .i64 x0_0), (.i .i64 x0_1), (.i .i64 x0_2), (.imm 4 x0_3), (.i .i64 x0_4), (.i .i64 x0_5), (.b x0_6), (.i .i64 x0_7)]), (.i .i64 x1), (.i .i64 x2)] [] =
 bSh .b (den E 23 [(.agg [(.i .i64 x0_0), (.i .i64 x0_1), (.i .i64 x0_2), (.imm 4 x0_3), (.i .i64 x0_4), (.i .i64 x0_5), (.b x0_6), (.i .i64 x0_7)]), (.i .i64 x1)] []) fun a1 =>
 cond (a1.toB == true)
 (bSh .b (den E 21 [(.i .i64 x2), (.i .i64 (0 : Int)), (.i .i64 (IntKind.i64.wrap (x0_2 - (1 : Int))))] []) fun a2 =>
 some (.b a2.toB))
 (some (.b false)) := (den_eq ..).trans (by kernel_rfl)
/-! 36: loop.example/g00905/spec.l05Fill -/
noncomputable def f36_l1 (t0 : Int) (t1 : Int) (t6 : Int) (r0 : List AV) : Option AV := Lp E fi36 [true, true, false, true, false] (mkT 19 [(0, (.i .u8 t0)), (1, (.i .i64 t1)), (5, (.sl 0 [] none)), (6, (.i .i64 t6))]) [(.live true false false 5 r0)]
theorem f36_eq (x0 : Int) (x1 : Int) : den E 36 [(.i .u8 x0), (.i .i64 x1)] [] =
 f36_l1 x0 x1 (0 : Int) [] := (den_eq ..).trans (by kernel_rfl)
theorem f36_l1_eq (t0 : Int) (t1 : Int) (t6 : Int) (r0 : List AV) : f36_l1 t0 t1 t6 r0 =
 cond (decide (t6 < t1))
 (if (r0.length + ([(.i .u8 t0)] : List AV).length) * 1 ≤ room then
 f36_l1 t0 t1 (IntKind.i64.wrap (t6 + (1 : Int))) (r0 ++ [(.i .u8 t0)])
 else none)
 (if (r0).all isU8 = true then
 some (.s (bytesOf r0))
 else none) := (Lp_eq ..).trans (by kernel_rfl)
/-! 24: loop.example/g00905/spec.ErasedPage -/
theorem f24_eq : den E 24 [] [] =
 bSh .s (den E 36 [(.i .u8 (255 : Int)), (.i .i64 (91 : Int))] []) fun a1 =>
 some (.s a1.toS) := (den_eq ..).trans (by kernel_rfl)
/-! 12: loop.example/g00905/spec.l06Read -/
theorem f12_eq (x0 : AV) (x1 : Int) (x2 : Int) : den E 12 [(.ip x0 0), (.i .i64 x1), (.i .i64 x2)] [] =
 if okCells false x0 3 [(.sl 54 4)] = true then
 if 0 ≤ x1 ∧ x1 < ((((x0.cells.getD 3 .x).toL).length : Nat) : Int) then
 if okCells false (((x0.cells.getD 3 .x).toL).getD x1.toNat .x) 3 [(.sl 9 1)] = true then
 if 0 ≤ x2 ∧ x2 < (((((((x0.cells.getD 3 .x).toL).getD x1.toNat .x).cells.getD 3 .x).toL).length : Nat) : Int) then
 if okCells false ((((((x0.cells.getD 3 .x).toL).getD x1.toNat .x).cells.getD 3 .x).toL).getD x2.toNat .x) 0 [.s] = true then
 cond (decide (((((((((x0.cells.getD 3 .x).toL).getD x1.toNat .x).cells.getD 3 .x).toL).getD x2.toNat .x).cells.getD 0 .x).toS) = ({ data := #[] } : ByteArray)))
 (bSh .s (den E 24 [] []) fun a1 =>
 some (.s a1.toS))
 (some (.s ((((((((x0.cells.getD 3 .x).toL).getD x1.toNat .x).cells.getD 3 .x).toL).getD x2.toNat .x).cells.getD 0 .x).toS)))
 else none
 else none
 else none
 else none
 else none := (den_eq ..).trans (by kernel_rfl)
/-! 5: loop.example/g00905/spec.ReadRaw -/
theorem f5_eq (x0_0 : Int) (x0_1 : Int) (x0_2 : Int) (x0_3 : List AV) (x0_4 : Int) (x0_5 : Int) (x0_6 : Bool) (x0_7 : Int) (x1 : Int) (x2 : Int) : den E 5 [(.agg [(.i .i64 x0_0), (.i .i64 x0_1), (.i .i64 x0_2), (.imm 4 x0_3), (.i .i64 x0_4), (.i .i64 x0_5), (.b x0_6), (.i .i64 x0_7)]), (.i .i64 x1), (.i .i64 x2)] [] =
 bSh .b (den E 10 [(.agg [(.i .i64 x0_0), (.i .i64 x0_1), (.i .i64 x0_2), (.imm 4 x0_3), (.i .i64 x0_4), (.i .i64 x0_5), (.b x0_6), (.i .i64 x0_7)])] []) fun a1 =>
 cond (!a1.toB)
 (some (.tup [(.s ({ data := #[] } : ByteArray)), (.i .i64 (1 : Int))]))
 (cond x0_6
 (some (.tup [(.s ({ data := #[] } : ByteArray)), (.i .i64 (8 : Int))]))
 (bSh .b (den E 11 [(.agg [(.i .i64 x0_0), (.i .i64 x0_1), (.i .i64 x0_2), (.imm 4 x0_3), (.i .i64 x0_4), (.i .i64 x0_5), (.b x0_6), (.i .i64 x0_7)]), (.i .i64 x1), (.i .i64 x2)] []) fun a2 =>
 cond (!a2.toB)
 (some (.tup [(.s ({ data := #[] } : ByteArray)), (.i .i64 (2 : Int))]))
 (bSh .s (den E 12 [(.ip (.agg [(.i .i64 x0_0), (.i .i64 x0_1), (.i .i64 x0_2), (.imm 4 x0_3), (.i .i64 x0_4), (.i .i64 x0_5), (.b x0_6), (.i .i64 x0_7)]) 0), (.i .i64 x1), (.i .i64 x2)] []) fun a3 =>
 some (.tup [(.s a3.toS), (.i .i64 (0 : Int))])))) := (den_eq ..).trans (by kernel_rfl)
/-! 28: loop.example/g00905/impl.within -/
theorem f28_eq (x0 : Int) (x1 : Int) (x2 : Int) : den E 28 [(.i .i64 x0), (.i .i64 x1), (.i .i64 x2)] [] =
 cond ((decide (x1 ≤ x0)) == true)
 (some (.b (decide (x0 ≤ x2))))
 (some (.b false)) := (den_eq ..).trans (by kernel_rfl)
/-! 26: loop.example/g00905/impl.ValidGeometry -/
theorem f26_eq (x0_0 : Int) (x0_1 : Int) (x0_2 : Int) : den E 26 [(.agg [(.i .i64 x0_0), (.i .i64 x0_1), (.i .i64 x0_2)])] [] =
 bSh .b (den E 28 [(.i .i64 x0_0), (.i .i64 (2 : Int)), (.i .i64 (3 : Int))] []) fun a1 =>
 cond (a1.toB == true)
 (bSh .b (den E 28 [(.i .i64 x0_1), (.i .i64 (4 : Int)), (.i .i64 (12 : Int))] []) fun a2 =>
 cond (a2.toB == true)
 (cond ((decide (x0_2 = (8 : Int))) == false)
 (some (.b (decide (x0_2 = (16 : Int)))))
 (some (.b true)))
 (some (.b false)))
 (some (.b false)) := (den_eq ..).trans (by kernel_rfl)
/-! 27: (loop.example/g00905/impl.Geometry).all -/
theorem f27_eq (x0_0 : Int) (x0_1 : Int) (x0_2 : Int) : den E 27 [(.agg [(.i .i64 x0_0), (.i .i64 x0_1), (.i .i64 x0_2)])] [] =
 some (.i .i64 (IntKind.i64.wrap (x0_0 * x0_1))) := (den_eq ..).trans (by kernel_rfl)
/-! 31: (loop.example/g00905/impl.Geometry).blockOk -/
noncomputable def f31_l1 (t28 : List AV) (t29 : Int) (t30 : Int) (r0_0 : Int) (r0_1 : Int) (r0_2 : Int) (r1_0 : Int) (r1_1 : Int) (r1_2 : Bool) (r1_3 : List AV) : Option AV := Lp E fi31 [true, true, false, true, false] (mkT 49 [(3, (.pt 1 [] 0 0)), (28, (.imm 1 t28)), (29, (.i .i64 t29)), (30, (.i .i64 t30))]) [(.live false true false 30 [(.agg [(.i .i64 r0_0), (.i .i64 r0_1), (.i .i64 r0_2)])]), (.live false true false 54 [(.agg [(.i .i64 r1_0), (.i .i64 r1_1), (.b r1_2), (.imm 1 r1_3)])])]
noncomputable def f31_j2 (t28 : List AV) (t29 : Int) (t30 : Int) (r0_0 : Int) (r0_1 : Int) (r0_2 : Int) (r1_0 : Int) (r1_1 : Int) (r1_2 : Bool) (r1_3 : List AV) : Option AV := Jn E fi31 [true, true, false, true, false, false, true, true, true] (mkT 49 [(3, (.pt 1 [] 0 0)), (28, (.imm 1 t28)), (29, (.i .i64 t29)), (30, (.i .i64 t30))]) [(.live false true false 30 [(.agg [(.i .i64 r0_0), (.i .i64 r0_1), (.i .i64 r0_2)])]), (.live false true false 54 [(.agg [(.i .i64 r1_0), (.i .i64 r1_1), (.b r1_2), (.imm 1 r1_3)])])]
theorem f31_eq (x0_0 : Int) (x0_1 : Int) (x0_2 : Int) (x1_0 : Int) (x1_1 : Int) (x1_2 : Bool) (x1_3 : List AV) : den E 31 [(.agg [(.i .i64 x0_0), (.i .i64 x0_1), (.i .i64 x0_2)]), (.agg [(.i .i64 x1_0), (.i .i64 x1_1), (.b x1_2), (.imm 1 x1_3)])] [] =
 bSh .b (den E 28 [(.i .i64 x1_0), (.i .i64 (0 : Int)), (.i .i64 (1000 : Int))] []) fun a1 =>
 cond ((!a1.toB) == false)
 (bSh .b (den E 28 [(.i .i64 x1_1), (.i .i64 (0 : Int)), (.i .i64 x0_2)] []) fun a2 =>
 cond ((!a2.toB) == false)
 (cond (!decide (((x1_3.length : Nat) : Int) = x0_2))
 (some (.b false))
 (f31_l1 x1_3 ((x1_3.length : Nat) : Int) (0 : Int) x0_0 x0_1 x0_2 x1_0 x1_1 x1_2 x1_3))
 (some (.b false)))
 (some (.b false)) := (den_eq ..).trans (by kernel_rfl)
theorem f31_l1_eq (t28 : List AV) (t29 : Int) (t30 : Int) (r0_0 : Int) (r0_1 : Int) (r0_2 : Int) (r1_0 : Int) (r1_1 : Int) (r1_2 : Bool) (r1_3 : List AV) : f31_l1 t28 t29 t30 r0_0 r0_1 r0_2 r1_0 r1_1 r1_2 r1_3 =
 cond (decide (t30 < t29))
 (if 0 ≤ t30 ∧ t30 < ((t28.length : Nat) : Int) then
 if okCells false (t28.getD t30.toNat .x) 0 [.s] = true then
 cond ((!decide ((((t28.getD t30.toNat .x).cells.getD 0 .x).toS) = ({ data := #[] } : ByteArray))) == true)
 (cond ((!decide ((((((t28.getD t30.toNat .x).cells.getD 0 .x).toS).size : Nat) : Int) = (91 : Int))) == false)
 (cond (decide (r1_1 ≤ t30))
 (some (.b false))
 (f31_j2 t28 t29 t30 r0_0 r0_1 r0_2 r1_0 r1_1 r1_2 r1_3))
 (some (.b false)))
 (f31_j2 t28 t29 t30 r0_0 r0_1 r0_2 r1_0 r1_1 r1_2 r1_3)
 else none
 else none)
 (some (.b true)) := (Lp_eq ..).trans (by kernel_rfl)
theorem f31_j2_eq (t28 : List AV) (t29 : Int) (t30 : Int) (r0_0 : Int) (r0_1 : Int) (r0_2 : Int) (r1_0 : Int) (r1_1 : Int) (r1_2 : Bool) (r1_3 : List AV) : f31_j2 t28 t29 t30 r0_0 r0_1 r0_2 r1_0 r1_1 r1_2 r1_3 =
 f31_l1 t28 t29 (IntKind.i64.wrap (t30 + (1 : Int))) r0_0 r0_1 r0_2 r1_0 r1_1 r1_2 r1_3 := by kernel_rfl
/-! 30: loop.example/g00905/impl.ValidFlash$1 -/
theorem f30q1_eq (x0_0 : Int) (x0_1 : Int) (x0_2 : Bool) (x0_3 : List AV) (x1 : AV) : den E 30 [(.agg [(.i .i64 x0_0), (.i .i64 x0_1), (.b x0_2), (.imm 1 x0_3)]), (.ip x1 0)] [] =
 if okCells false x1 0 [(.i .i64), (.i .i64), (.i .i64)] = true then
 bSh .b (den E 31 [(.agg [(.i .i64 ((x1.cells.getD 0 .x).toI)), (.i .i64 ((x1.cells.getD 1 .x).toI)), (.i .i64 ((x1.cells.getD 2 .x).toI))]), (.agg [(.i .i64 x0_0), (.i .i64 x0_1), (.b x0_2), (.imm 1 x0_3)])] []) fun a1 =>
 some (.b (!a1.toB))
 else none := (den_eq ..).trans (by kernel_rfl)
/-! 38: slices.IndexFunc[[]loop.example/g00905/impl.Block,loop.example/g00905/impl.Block] -/
noncomputable def f38q1_l1 (t0 : List AV) (t1_0 : AV) (t7 : Int) (t8 : Int) : Option AV := Lp E fi38 [true, false, true, false] (mkT 19 [(0, (.imm 4 t0)), (1, (.fn 30 [(.ip t1_0 0)])), (7, (.i .i64 t7)), (8, (.i .i64 t8))]) []
theorem f38q1_eq (x0 : List AV) (x1_0 : AV) : den E 38 [(.imm 4 x0), (.fn 30 [(.ip x1_0 0)])] [] =
 f38q1_l1 x0 x1_0 ((x0.length : Nat) : Int) (0 : Int) := (den_eq ..).trans (by kernel_rfl)
theorem f38q1_l1_eq (t0 : List AV) (t1_0 : AV) (t7 : Int) (t8 : Int) : f38q1_l1 t0 t1_0 t7 t8 =
 cond (decide (t8 < t7))
 (if 0 ≤ t8 ∧ t8 < ((t0.length : Nat) : Int) then
 if okCells false (t0.getD t8.toNat .x) 0 [(.i .i64), (.i .i64), .b, (.sl 9 1)] = true then
 bSh .b (den E 30 [(.agg [(.i .i64 (((t0.getD t8.toNat .x).cells.getD 0 .x).toI)), (.i .i64 (((t0.getD t8.toNat .x).cells.getD 1 .x).toI)), (.b (((t0.getD t8.toNat .x).cells.getD 2 .x).toB)), (.imm 1 (((t0.getD t8.toNat .x).cells.getD 3 .x).toL))]), (.ip t1_0 0)] []) fun a1 =>
 cond a1.toB
 (some (.i .i64 t8))
 (f38q1_l1 t0 t1_0 t7 (IntKind.i64.wrap (t8 + (1 : Int))))
 else none
 else none)
 (some (.i .i64 (-1 : Int))) := (Lp_eq ..).trans (by kernel_rfl)
/-! 29: slices.ContainsFunc[[]loop.example/g00905/impl.Block,loop.example/g00905/impl.Block] -/
theorem f29q1_eq (x0 : List AV) (x1_0 : AV) : den E 29 [(.imm 4 x0), (.fn 30 [(.ip x1_0 0)])] [] =
 bSh (.i .i64) (den E 38 [(.imm 4 x0), (.fn 30 [(.ip x1_0 0)])] []) fun a1 =>
 some (.b (decide ((0 : Int) ≤ a1.toI))) := (den_eq ..).trans (by kernel_rfl)
/-! 15: loop.example/g00905/impl.ValidFlash -/
theorem f15_eq (x0_0 : Int) (x0_1 : Int) (x0_2 : Int) (x0_3 : List AV) (x0_4 : Int) (x0_5 : Int) (x0_6 : Bool) (x0_7 : Int) : den E 15 [(.agg [(.i .i64 x0_0), (.i .i64 x0_1), (.i .i64 x0_2), (.imm 4 x0_3), (.i .i64 x0_4), (.i .i64 x0_5), (.b x0_6), (.i .i64 x0_7)])] [] =
 bSh .b (den E 26 [(.agg [(.i .i64 x0_0), (.i .i64 x0_1), (.i .i64 x0_2)])] []) fun a1 =>
 cond ((!a1.toB) == false)
 (bSh (.i .i64) (den E 27 [(.agg [(.i .i64 x0_0), (.i .i64 x0_1), (.i .i64 x0_2)])] []) fun a2 =>
 cond ((!decide (((x0_3.length : Nat) : Int) = a2.toI)) == false)
 (bSh .b (den E 28 [(.i .i64 x0_4), (.i .i64 (-1 : Int)), (.i .i64 (1000000 : Int))] []) fun a3 =>
 cond ((!a3.toB) == false)
 (bSh .b (den E 28 [(.i .i64 x0_5), (.i .i64 (0 : Int)), (.i .i64 (91 : Int))] []) fun a4 =>
 cond ((!a4.toB) == false)
 (cond (decide (x0_7 < (0 : Int)))
 (some (.b false))
 (bSh .b (den E 29 [(.imm 4 x0_3), (.fn 30 [(.ip (.agg [(.i .i64 x0_0), (.i .i64 x0_1), (.i .i64 x0_2), (.imm 4 x0_3), (.i .i64 x0_4), (.i .i64 x0_5), (.b x0_6), (.i .i64 x0_7)]) 0)])] []) fun a5 =>
 some (.b (!a5.toB))))
 (some (.b false)))
 (some (.b false)))
 (some (.b false)))
 (some (.b false)) := (den_eq ..).trans (by kernel_rfl)
/-! 39: loop.example/g00905/impl.isIndex -/
theorem f39_eq (x0 : Int) (x1 : Int) : den E 39 [(.i .i64 x0), (.i .i64 x1)] [] =
 bSh .b (den E 28 [(.i .i64 x0), (.i .i64 (0 : Int)), (.i .i64 (IntKind.i64.wrap (x1 - (1 : Int))))] []) fun a1 =>
 some (.b a1.toB) := (den_eq ..).trans (by kernel_rfl)
/-! 32: (*loop.example/g00905/impl.Flash).place -/
theorem f32_eq (x0 : AV) (x1 : Int) (x2 : Int) : den E 32 [(.ip x0 0), (.i .i64 x1), (.i .i64 x2)] [] =
 if okCells false x0 3 [(.sl 54 4)] = true then
 bSh .b (den E 39 [(.i .i64 x1), (.i .i64 ((((x0.cells.getD 3 .x).toL).length : Nat) : Int))] []) fun a1 =>
 cond (a1.toB == true)
 (if okCells false x0 2 [(.i .i64)] = true then
 bSh .b (den E 28 [(.i .i64 x2), (.i .i64 (0 : Int)), (.i .i64 (IntKind.i64.wrap (((x0.cells.getD 2 .x).toI) - (1 : Int))))] []) fun a2 =>
 some (.b a2.toB)
 else none)
 (some (.b false))
 else none := (den_eq ..).trans (by kernel_rfl)
/-! 42: strings.Repeat -/
theorem f42_eq (x0 : ByteArray) (x1 : Int) : den E 42 [(.s x0), (.i .i64 x1)] [] = if 0 ≤ x1 then (if x1 ≤ 9223372036854775807 then (if x0.size * x1.toNat ≤ 140737488355328 then some (.s (repS x0 x1.toNat)) else none) else none) else none := (den_eq ..).trans (by kernel_rfl)
/-! 40: loop.example/g00905/impl.ErasedPage -/
theorem f40_eq : den E 40 [] [] =
 bSh .s (den E 42 [(.s ({ data := #[255] } : ByteArray)), (.i .i64 (91 : Int))] []) fun a1 =>
 some (.s a1.toS) := (den_eq ..).trans (by kernel_rfl)
/-! 33: (*loop.example/g00905/impl.Flash).raw -/
theorem f33_eq (x0 : AV) (x1 : Int) (x2 : Int) : den E 33 [(.ip x0 0), (.i .i64 x1), (.i .i64 x2)] [] =
 if okCells false x0 3 [(.sl 54 4)] = true then
 if 0 ≤ x1 ∧ x1 < ((((x0.cells.getD 3 .x).toL).length : Nat) : Int) then
 if okCells false (((x0.cells.getD 3 .x).toL).getD x1.toNat .x) 3 [(.sl 9 1)] = true then
 if 0 ≤ x2 ∧ x2 < (((((((x0.cells.getD 3 .x).toL).getD x1.toNat .x).cells.getD 3 .x).toL).length : Nat) : Int) then
 if okCells false ((((((x0.cells.getD 3 .x).toL).getD x1.toNat .x).cells.getD 3 .x).toL).getD x2.toNat .x) 0 [.s] = true then
 cond (!decide (((((((((x0.cells.getD 3 .x).toL).getD x1.toNat .x).cells.getD 3 .x).toL).getD x2.toNat .x).cells.getD 0 .x).toS) = ({ data := #[] } : ByteArray)))
 (some (.s ((((((((x0.cells.getD 3 .x).toL).getD x1.toNat .x).cells.getD 3 .x).toL).getD x2.toNat .x).cells.getD 0 .x).toS)))
 (bSh .s (den E 40 [] []) fun a1 =>
 some (.s a1.toS))
 else none
 else none
 else none
 else none
 else none := (den_eq ..).trans (by kernel_rfl)
/-! 16: (*loop.example/g00905/impl.Flash).read -/
theorem f16_eq (x0 : AV) (x1 : Int) (x2 : Int) : den E 16 [(.ip x0 0), (.i .i64 x1), (.i .i64 x2)] [] =
 if okCells false x0 6 [.b] = true then
 cond ((x0.cells.getD 6 .x).toB)
 (some (.tup [(.s ({ data := #[] } : ByteArray)), (.i .i64 (8 : Int))]))
 (bSh .b (den E 32 [(.ip x0 0), (.i .i64 x1), (.i .i64 x2)] []) fun a1 =>
 cond (!a1.toB)
 (some (.tup [(.s ({ data := #[] } : ByteArray)), (.i .i64 (2 : Int))]))
 (bSh .s (den E 33 [(.ip x0 0), (.i .i64 x1), (.i .i64 x2)] []) fun a2 =>
 some (.tup [(.s a2.toS), (.i .i64 (0 : Int))])))
 else none := (den_eq ..).trans (by kernel_rfl)
/-! 7: loop.example/g00905/impl.ReadRaw -/
theorem f7_eq (x0_0 : Int) (x0_1 : Int) (x0_2 : Int) (x0_3 : List AV) (x0_4 : Int) (x0_5 : Int) (x0_6 : Bool) (x0_7 : Int) (x1 : Int) (x2 : Int) : den E 7 [(.agg [(.i .i64 x0_0), (.i .i64 x0_1), (.i .i64 x0_2), (.imm 4 x0_3), (.i .i64 x0_4), (.i .i64 x0_5), (.b x0_6), (.i .i64 x0_7)]), (.i .i64 x1), (.i .i64 x2)] [] =
 bSh .b (den E 15 [(.agg [(.i .i64 x0_0), (.i .i64 x0_1), (.i .i64 x0_2), (.imm 4 x0_3), (.i .i64 x0_4), (.i .i64 x0_5), (.b x0_6), (.i .i64 x0_7)])] []) fun a1 =>
 cond (!a1.toB)
 (some (.tup [(.s ({ data := #[] } : ByteArray)), (.i .i64 (1 : Int))]))
 (bSh (.tup [.s, (.i .i64)]) (den E 16 [(.ip (.agg [(.i .i64 x0_0), (.i .i64 x0_1), (.i .i64 x0_2), (.imm 4 x0_3), (.i .i64 x0_4), (.i .i64 x0_5), (.b x0_6), (.i .i64 x0_7)]) 0), (.i .i64 x1), (.i .i64 x2)] []) fun a2 =>
 some (.tup [(.s ((a2.nth 0).toS)), (.i .i64 ((a2.nth 1).toI))])) := (den_eq ..).trans (by kernel_rfl)
/-! 17: loop.example/g00905/laws.eqGeometry -/
theorem f17_eq (x0_0 : Int) (x0_1 : Int) (x0_2 : Int) (x1_0 : Int) (x1_1 : Int) (x1_2 : Int) : den E 17 [(.agg [(.i .i64 x0_0), (.i .i64 x0_1), (.i .i64 x0_2)]), (.agg [(.i .i64 x1_0), (.i .i64 x1_1), (.i .i64 x1_2)])] [] =
 cond (!decide (x0_0 = x1_0))
 (some (.b false))
 (cond (!decide (x0_1 = x1_1))
 (some (.b false))
 (cond (!decide (x0_2 = x1_2))
 (some (.b false))
 (some (.b true)))) := (den_eq ..).trans (by kernel_rfl)
/-! 41: loop.example/g00905/laws.eqStringS -/
noncomputable def f41_l1 (t0 : List AV) (t1 : List AV) (t5 : Int) : Option AV := Lp E fi41 [true, true, false, true, false] (mkT 26 [(0, (.imm 1 t0)), (1, (.imm 1 t1)), (5, (.i .i64 t5))]) []
theorem f41_eq (x0 : List AV) (x1 : List AV) : den E 41 [(.imm 1 x0), (.imm 1 x1)] [] =
 cond (!decide (((x0.length : Nat) : Int) = ((x1.length : Nat) : Int)))
 (some (.b false))
 (f41_l1 x0 x1 (0 : Int)) := (den_eq ..).trans (by kernel_rfl)
theorem f41_l1_eq (t0 : List AV) (t1 : List AV) (t5 : Int) : f41_l1 t0 t1 t5 =
 cond (decide (t5 < ((t0.length : Nat) : Int)))
 (if 0 ≤ t5 ∧ t5 < ((t0.length : Nat) : Int) then
 if okCells false (t0.getD t5.toNat .x) 0 [.s] = true then
 if 0 ≤ t5 ∧ t5 < ((t1.length : Nat) : Int) then
 if okCells false (t1.getD t5.toNat .x) 0 [.s] = true then
 cond (!decide ((((t0.getD t5.toNat .x).cells.getD 0 .x).toS) = (((t1.getD t5.toNat .x).cells.getD 0 .x).toS)))
 (some (.b false))
 (f41_l1 t0 t1 (IntKind.i64.wrap (t5 + (1 : Int))))
 else none
 else none
 else none
 else none)
 (some (.b true)) := (Lp_eq ..).trans (by kernel_rfl)
/-! 34: loop.example/g00905/laws.eqBlock -/
theorem f34_eq (x0_0 : Int) (x0_1 : Int) (x0_2 : Bool) (x0_3 : List AV) (x1_0 : Int) (x1_1 : Int) (x1_2 : Bool) (x1_3 : List AV) : den E 34 [(.agg [(.i .i64 x0_0), (.i .i64 x0_1), (.b x0_2), (.imm 1 x0_3)]), (.agg [(.i .i64 x1_0), (.i .i64 x1_1), (.b x1_2), (.imm 1 x1_3)])] [] =
 cond (!decide (x0_0 = x1_0))
 (some (.b false))
 (cond (!decide (x0_1 = x1_1))
 (some (.b false))
 (cond (!decide (x0_2 = x1_2))
 (some (.b false))
 (bSh .b (den E 41 [(.imm 1 x0_3), (.imm 1 x1_3)] []) fun a1 =>
 cond (!a1.toB)
 (some (.b false))
 (some (.b true))))) := (den_eq ..).trans (by kernel_rfl)
/-! 18: loop.example/g00905/laws.eqBlockS -/
noncomputable def f18_l1 (t0 : List AV) (t1 : List AV) (t5 : Int) : Option AV := Lp E fi18 [true, true, false, true, false] (mkT 27 [(0, (.imm 4 t0)), (1, (.imm 4 t1)), (5, (.i .i64 t5))]) []
theorem f18_eq (x0 : List AV) (x1 : List AV) : den E 18 [(.imm 4 x0), (.imm 4 x1)] [] =
 cond (!decide (((x0.length : Nat) : Int) = ((x1.length : Nat) : Int)))
 (some (.b false))
 (f18_l1 x0 x1 (0 : Int)) := (den_eq ..).trans (by kernel_rfl)
theorem f18_l1_eq (t0 : List AV) (t1 : List AV) (t5 : Int) : f18_l1 t0 t1 t5 =
 cond (decide (t5 < ((t0.length : Nat) : Int)))
 (if 0 ≤ t5 ∧ t5 < ((t0.length : Nat) : Int) then
 if okCells false (t0.getD t5.toNat .x) 0 [(.i .i64), (.i .i64), .b, (.sl 9 1)] = true then
 if 0 ≤ t5 ∧ t5 < ((t1.length : Nat) : Int) then
 if okCells false (t1.getD t5.toNat .x) 0 [(.i .i64), (.i .i64), .b, (.sl 9 1)] = true then
 bSh .b (den E 34 [(.agg [(.i .i64 (((t0.getD t5.toNat .x).cells.getD 0 .x).toI)), (.i .i64 (((t0.getD t5.toNat .x).cells.getD 1 .x).toI)), (.b (((t0.getD t5.toNat .x).cells.getD 2 .x).toB)), (.imm 1 (((t0.getD t5.toNat .x).cells.getD 3 .x).toL))]), (.agg [(.i .i64 (((t1.getD t5.toNat .x).cells.getD 0 .x).toI)), (.i .i64 (((t1.getD t5.toNat .x).cells.getD 1 .x).toI)), (.b (((t1.getD t5.toNat .x).cells.getD 2 .x).toB)), (.imm 1 (((t1.getD t5.toNat .x).cells.getD 3 .x).toL))])] []) fun a1 =>
 cond (!a1.toB)
 (some (.b false))
 (f18_l1 t0 t1 (IntKind.i64.wrap (t5 + (1 : Int))))
 else none
 else none
 else none
 else none)
 (some (.b true)) := (Lp_eq ..).trans (by kernel_rfl)
/-! 8: loop.example/g00905/laws.eqFlash -/
theorem f8_eq (x0_0 : Int) (x0_1 : Int) (x0_2 : Int) (x0_3 : List AV) (x0_4 : Int) (x0_5 : Int) (x0_6 : Bool) (x0_7 : Int) (x1_0 : Int) (x1_1 : Int) (x1_2 : Int) (x1_3 : List AV) (x1_4 : Int) (x1_5 : Int) (x1_6 : Bool) (x1_7 : Int) : den E 8 [(.agg [(.i .i64 x0_0), (.i .i64 x0_1), (.i .i64 x0_2), (.imm 4 x0_3), (.i .i64 x0_4), (.i .i64 x0_5), (.b x0_6), (.i .i64 x0_7)]), (.agg [(.i .i64 x1_0), (.i .i64 x1_1), (.i .i64 x1_2), (.imm 4 x1_3), (.i .i64 x1_4), (.i .i64 x1_5), (.b x1_6), (.i .i64 x1_7)])] [] =
 bSh .b (den E 17 [(.agg [(.i .i64 x0_0), (.i .i64 x0_1), (.i .i64 x0_2)]), (.agg [(.i .i64 x1_0), (.i .i64 x1_1), (.i .i64 x1_2)])] []) fun a1 =>
 cond (!a1.toB)
 (some (.b false))
 (bSh .b (den E 18 [(.imm 4 x0_3), (.imm 4 x1_3)] []) fun a2 =>
 cond (!a2.toB)
 (some (.b false))
 (cond (!decide (x0_4 = x1_4))
 (some (.b false))
 (cond (!decide (x0_5 = x1_5))
 (some (.b false))
 (cond (!decide (x0_6 = x1_6))
 (some (.b false))
 (cond (!decide (x0_7 = x1_7))
 (some (.b false))
 (some (.b true))))))) := (den_eq ..).trans (by kernel_rfl)
/-! 3: loop.example/g00905/laws.FnExactReadRaw -/
theorem f3_eq (x0_0 : Int) (x0_1 : Int) (x0_2 : Int) (x0_3 : List AV) (x0_4 : Int) (x0_5 : Int) (x0_6 : Bool) (x0_7 : Int) (x1 : Int) (x2 : Int) : den E 3 [(.agg [(.i .i64 x0_0), (.i .i64 x0_1), (.i .i64 x0_2), (.imm 4 x0_3), (.i .i64 x0_4), (.i .i64 x0_5), (.b x0_6), (.i .i64 x0_7)]), (.i .i64 x1), (.i .i64 x2)] [] =
 bSh (.i .i64) (den E 4 [(.agg [(.i .i64 x0_0), (.i .i64 x0_1), (.i .i64 x0_2), (.imm 4 x0_3), (.i .i64 x0_4), (.i .i64 x0_5), (.b x0_6), (.i .i64 x0_7)]), (.i .i64 (1048576 : Int))] []) fun a1 =>
 cond (decide (a1.toI < (0 : Int)))
 (some (.b true))
 (bSh (.agg [(.i .i64), (.i .i64), (.i .i64), (.sl 54 4), (.i .i64), (.i .i64), .b, (.i .i64)]) (den E 6 [(.agg [(.i .i64 x0_0), (.i .i64 x0_1), (.i .i64 x0_2), (.imm 4 x0_3), (.i .i64 x0_4), (.i .i64 x0_5), (.b x0_6), (.i .i64 x0_7)])] []) fun a2 =>
 bSh (.tup [.s, (.i .i64)]) (den E 5 [(.agg [(.i .i64 ((a2.nth 0).toI)), (.i .i64 ((a2.nth 1).toI)), (.i .i64 ((a2.nth 2).toI)), (.imm 4 ((a2.nth 3).toL)), (.i .i64 ((a2.nth 4).toI)), (.i .i64 ((a2.nth 5).toI)), (.b ((a2.nth 6).toB)), (.i .i64 ((a2.nth 7).toI))]), (.i .i64 x1), (.i .i64 x2)] []) fun a3 =>
 bSh (.agg [(.i .i64), (.i .i64), (.i .i64), (.sl 54 4), (.i .i64), (.i .i64), .b, (.i .i64)]) (den E 6 [(.agg [(.i .i64 x0_0), (.i .i64 x0_1), (.i .i64 x0_2), (.imm 4 x0_3), (.i .i64 x0_4), (.i .i64 x0_5), (.b x0_6), (.i .i64 x0_7)])] []) fun a4 =>
 bSh (.tup [.s, (.i .i64)]) (den E 7 [(.agg [(.i .i64 ((a4.nth 0).toI)), (.i .i64 ((a4.nth 1).toI)), (.i .i64 ((a4.nth 2).toI)), (.imm 4 ((a4.nth 3).toL)), (.i .i64 ((a4.nth 4).toI)), (.i .i64 ((a4.nth 5).toI)), (.b ((a4.nth 6).toB)), (.i .i64 ((a4.nth 7).toI))]), (.i .i64 x1), (.i .i64 x2)] []) fun a5 =>
 cond ((!decide (((a5.nth 0).toS) = ((a3.nth 0).toS))) == false)
 (cond (!decide (((a5.nth 1).toI) = ((a3.nth 1).toI)))
 (some (.b false))
 (bSh (.agg [(.i .i64), (.i .i64), (.i .i64), (.sl 54 4), (.i .i64), (.i .i64), .b, (.i .i64)]) (den E 6 [(.agg [(.i .i64 x0_0), (.i .i64 x0_1), (.i .i64 x0_2), (.imm 4 x0_3), (.i .i64 x0_4), (.i .i64 x0_5), (.b x0_6), (.i .i64 x0_7)])] []) fun a6 =>
 bSh .b (den E 8 [(.agg [(.i .i64 ((a4.nth 0).toI)), (.i .i64 ((a4.nth 1).toI)), (.i .i64 ((a4.nth 2).toI)), (.imm 4 ((a4.nth 3).toL)), (.i .i64 ((a4.nth 4).toI)), (.i .i64 ((a4.nth 5).toI)), (.b ((a4.nth 6).toB)), (.i .i64 ((a4.nth 7).toI))]), (.agg [(.i .i64 ((a6.nth 0).toI)), (.i .i64 ((a6.nth 1).toI)), (.i .i64 ((a6.nth 2).toI)), (.imm 4 ((a6.nth 3).toL)), (.i .i64 ((a6.nth 4).toI)), (.i .i64 ((a6.nth 5).toI)), (.b ((a6.nth 6).toB)), (.i .i64 ((a6.nth 7).toI))])] []) fun a7 =>
 cond (!a7.toB)
 (some (.b false))
 (some (.b true))))
 (some (.b false))) := (den_eq ..).trans (by kernel_rfl)
end Go.Proofs.Ytmoooblndcjeoaa.IReadRaw
