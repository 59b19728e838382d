/- NewFilter: the program's answer is the reference's, for every size. No condition beyond what each theorem states. -/
import Derived.Test.YtcjfeglalmlkbaaINewFilterf
import Derived.Test.YtcjfeglalmlkbaaItMk
namespace Go.Proofs.Ytcjfeglalmlkbaa.INewFilter
open Go Go.Proofs.YtcjfeglalmlkbaaIT
set_option linter.unusedSimpArgs false

theorem in90 (a lo hi : Int) : den E 77 [(.i .i64 a), (.i .i64 lo), (.i .i64 hi)] [] = some (.b (decide (lo ≤ a) && decide (a ≤ hi))) := by
  rw [f77_eq, beq_true, cond_andb]
theorem in72 (a lo hi : Int) : den E 70 [(.i .i64 a), (.i .i64 lo), (.i .i64 hi)] [] = some (.b (decide (lo ≤ a) && decide (a ≤ hi))) := by
  rw [f70_eq, beq_true, cond_andb]


theorem zeros (n : Nat) : bytesOf (List.replicate n (.i .u8 (0 : Int))) = repS ({ data := #[0] } : ByteArray) n := by
  apply bytes_ext
  rw [bytesOf_list, repS_list]
  simp
  exact .inr rfl
theorem pure (q : Int) (_ : W64 q) : den E 3 [(.i .i64 q)] [] = some (.b true) := by
  rw [f3_eq, f14_eq, f15_eq, f69_eq]
  simp only [in90, in72, okC_nil, okC_agg, okC_i, okC_b, okC_s, okC_imm, okL_i, okL_b, okL_s, okL_sl, okS_i, okS_b, okS_s, okS_sl, okS_agg, okS_tup, okS_nil, okS_cons, cells_agg, cells_i, cells_b, cells_s, cells_imm, toI_i, toB_b, toS_s, toL_imm, nth_agg, nth_tup, put_agg, put_i, put_b, put_s, put_imm, setCells, List.getD_cons_zero, List.getD_cons_succ, bSh_b, bSh_i, bSh_s, bSh_sl, bSh_some, cond_true, cond_false, decide_true, decide_false, Int.toNat_natCast, Nat.zero_add, Nat.reduceAdd, beq_self_eq_true, Bool.and_true, Bool.true_and, if_true, Bool.false_eq_true, if_false, List.set_cons_zero, List.set_cons_succ, Bool.not_true, Bool.not_false, Bool.and_self]
  by_cases h : 1 ≤ q ∧ q ≤ 80
  rotate_left
  · have : (decide (1 ≤ q) && decide (q ≤ 80)) = false := by
      rw [Bool.and_eq_false_iff, decide_eq_false_iff_not, decide_eq_false_iff_not]; omega
    simp only [this, okC_nil, okC_agg, okC_i, okC_b, okC_s, okC_imm, okL_i, okL_b, okL_s, okL_sl, okS_i, okS_b, okS_s, okS_sl, okS_agg, okS_tup, okS_nil, okS_cons, cells_agg, cells_i, cells_b, cells_s, cells_imm, toI_i, toB_b, toS_s, toL_imm, nth_agg, nth_tup, put_agg, put_i, put_b, put_s, put_imm, setCells, List.getD_cons_zero, List.getD_cons_succ, bSh_b, bSh_i, bSh_s, bSh_sl, bSh_some, cond_true, cond_false, decide_true, decide_false, Int.toNat_natCast, Nat.zero_add, Nat.reduceAdd, beq_self_eq_true, Bool.and_true, Bool.true_and, if_true, Bool.false_eq_true, if_false, List.set_cons_zero, List.set_cons_succ, Bool.not_true, Bool.not_false, Bool.and_self]
  have : (decide (1 ≤ q) && decide (q ≤ 80)) = true := by
    rw [Bool.and_eq_true, decide_eq_true_eq, decide_eq_true_eq]; exact h
  have hall : (List.replicate q.toNat (.i .u8 (0 : Int)) : List AV).all isU8 = true := by
    rw [List.all_eq_true]
    intro y hy
    rw [(List.mem_replicate.1 hy).2]; rfl
  have hr : den E 71 [(.s ({ data := #[0] } : ByteArray)), (.i .i64 q)] [] = some (.s (repS ({ data := #[0] } : ByteArray) q.toNat)) := by
    have hs : ({ data := #[0] } : ByteArray).size = 1 := rfl
    rw [f71_eq, if_pos (by omega), if_pos (by omega), if_pos (by rw [hs]; omega)]
  rw [if_pos (by simp only [room]; omega), if_pos hall, hr, zeros]
  simp only [this, okC_nil, okC_agg, okC_i, okC_b, okC_s, okC_imm, okL_i, okL_b, okL_s, okL_sl, okS_i, okS_b, okS_s, okS_sl, okS_agg, okS_tup, okS_nil, okS_cons, cells_agg, cells_i, cells_b, cells_s, cells_imm, toI_i, toB_b, toS_s, toL_imm, nth_agg, nth_tup, put_agg, put_i, put_b, put_s, put_imm, setCells, List.getD_cons_zero, List.getD_cons_succ, bSh_b, bSh_i, bSh_s, bSh_sl, bSh_some, cond_true, cond_false, decide_true, decide_false, Int.toNat_natCast, Nat.zero_add, Nat.reduceAdd, beq_self_eq_true, Bool.and_true, Bool.true_and, if_true, Bool.false_eq_true, if_false, List.set_cons_zero, List.set_cons_succ, Bool.not_true, Bool.not_false, Bool.and_self]
end Go.Proofs.Ytcjfeglalmlkbaa.INewFilter
