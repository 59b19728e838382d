/- Printed by a program of this work (wip/it/itp.py): what each function comes to. No condition. -/
import Derived.Test.YtcjfeglalmlkbaaINewFiltert
namespace Go.Proofs.Ytcjfeglalmlkbaa.INewFilter
open Go Go.Proofs.YtcjfeglalmlkbaaIT
set_option linter.unusedVariables false
/-! 77: loop.example/g00905/spec.l00In -/
theorem f77_eq (x0 : Int) (x1 : Int) (x2 : Int) : den E 77 [(.i .i64 x0), (.i .i64 x1), (.i .i64 x2)] [] =
 cond ((decide (x1 ≤ x0)) == true)
 (some (.b (decide (x0 ≤ x2))))
 (some (.b false)) := (den_eq ..).trans (by kernel_rfl)
/-! 69: loop.example/g00905/spec.l21Size -/
theorem f69_eq (x0 : Int) : den E 69 [(.i .i64 x0)] [] =
 bSh .b (den E 77 [(.i .i64 x0), (.i .i64 (1 : Int)), (.i .i64 (80 : Int))] []) fun a1 =>
 some (.b a1.toB) := (den_eq ..).trans (by kernel_rfl)
/-! 14: loop.example/g00905/spec.NewFilter -/
theorem f14_eq (x0 : Int) : den E 14 [(.i .i64 x0)] [] =
 bSh .b (den E 69 [(.i .i64 x0)] []) fun a1 =>
 cond (!a1.toB)
 (some (.tup [(.s ({ data := #[] } : ByteArray)), (.i .i64 (2 : Int))]))
 (if 0 ≤ x0 ∧ x0 ≤ x0 ∧ x0 * ((1 : Nat) : Int) ≤ ((room : Nat) : Int) ∧ x0 ≤ 9223372036854775807 then
 if (List.replicate x0.toNat (.i .u8 (0 : Int))).all isU8 = true then
 some (.tup [(.s (bytesOf (List.replicate x0.toNat (.i .u8 (0 : Int))))), (.i .i64 (0 : Int))])
 else none
 else none) := (den_eq ..).trans (by kernel_rfl)
/-! 70: loop.example/g00905/impl.within -/
theorem f70_eq (x0 : Int) (x1 : Int) (x2 : Int) : den E 70 [(.i .i64 x0), (.i .i64 x1), (.i .i64 x2)] [] =
 cond ((decide (x1 ≤ x0)) == true)
 (some (.b (decide (x0 ≤ x2))))
 (some (.b false)) := (den_eq ..).trans (by kernel_rfl)
/-! 71: strings.Repeat -/
theorem f71_eq (x0 : ByteArray) (x1 : Int) : den E 71 [(.s x0), (.i .i64 x1)] [] = if 0 ≤ x1 then (if x1 ≤ 9223372036854775807 then (if x0.size * x1.toNat ≤ 140737488355328 then some (.s (repS x0 x1.toNat)) else none) else none) else none := (den_eq ..).trans (by kernel_rfl)
/-! 15: loop.example/g00905/impl.NewFilter -/
theorem f15_eq (x0 : Int) : den E 15 [(.i .i64 x0)] [] =
 bSh .b (den E 70 [(.i .i64 x0), (.i .i64 (1 : Int)), (.i .i64 (80 : Int))] []) fun a1 =>
 cond (!a1.toB)
 (some (.tup [(.s ({ data := #[] } : ByteArray)), (.i .i64 (2 : Int))]))
 (bSh .s (den E 71 [(.s ({ data := #[0] } : ByteArray)), (.i .i64 x0)] []) fun a2 =>
 some (.tup [(.s a2.toS), (.i .i64 (0 : Int))])) := (den_eq ..).trans (by kernel_rfl)
/-! 3: loop.example/g00905/laws.FnExactNewFilter -/
theorem f3_eq (x0 : Int) : den E 3 [(.i .i64 x0)] [] =
 bSh (.tup [.s, (.i .i64)]) (den E 14 [(.i .i64 x0)] []) fun a1 =>
 bSh (.tup [.s, (.i .i64)]) (den E 15 [(.i .i64 x0)] []) fun a2 =>
 cond ((!decide (((a2.nth 0).toS) = ((a1.nth 0).toS))) == false)
 (cond (!decide (((a2.nth 1).toI) = ((a1.nth 1).toI)))
 (some (.b false))
 (some (.b true)))
 (some (.b false)) := (den_eq ..).trans (by kernel_rfl)
end Go.Proofs.Ytcjfeglalmlkbaa.INewFilter
