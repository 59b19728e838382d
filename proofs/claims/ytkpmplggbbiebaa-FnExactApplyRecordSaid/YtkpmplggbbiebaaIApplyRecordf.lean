/- Printed by a program of this work (wip/it/itf.py): typed trees; the families sz, to, eq. No condition beyond what each theorem states. -/
import Derived.Test.YtkpmplggbbiebaaIApplyRecordx
import Derived.Test.YtkpmplggbbiebaaIt2
namespace Go.Proofs.Ytkpmplggbbiebaa.IApplyRecord
open Go Go.Proofs.YtkpmplggbbiebaaIT
set_option linter.unusedVariables false
set_option linter.unusedSimpArgs false
def T103 (B : Nat) (el : AV) : Prop := ∃ (a0 : ByteArray) (a1 : ByteArray), el = AV.agg [(.s a0), (.s a1)] ∧ a0.size ≤ B ∧ a1.size ≤ B ∧ True
theorem T103.eta {B : Nat} {el : AV} (h : T103 B el) : AV.agg [(.s (el.cells.getD 0 .x).toS), (.s (el.cells.getD 1 .x).toS)] = el := by obtain ⟨a0, a1, rfl, _, _, _⟩ := h; rfl
theorem T103.ok {B : Nat} {el : AV} (h : T103 B el) : okCells false el 0 [.s, .s] = true := by obtain ⟨a0, a1, rfl, _, _, _⟩ := h; rfl
theorem T103.ok0 {B : Nat} {el : AV} (h : T103 B el) : okCells false el 0 [.s] = true := by obtain ⟨a0, a1, rfl, _, _, _⟩ := h; rfl
theorem T103.ok1 {B : Nat} {el : AV} (h : T103 B el) : okCells false el 1 [.s] = true := by obtain ⟨a0, a1, rfl, _, _, _⟩ := h; rfl
theorem T103_of {el : AV} (h : El E (.agg [.s, .s]) el) : T103 9223372036854775807 el := by
  obtain ⟨cs, rfl, hs⟩ := h.agg
  obtain ⟨y0, c0, rfl, h0, hs⟩ := hs.out
  obtain ⟨y1, c1, rfl, h1, hs⟩ := hs.out
  obtain rfl := hs.end
  obtain ⟨a0, rfl, w0⟩ := h0.str
  obtain ⟨a1, rfl, w1⟩ := h1.str
  exact ⟨a0, a1, rfl, w0, w1, trivial⟩
def T63 (B : Nat) (el : AV) : Prop := ∃ (a0 : ByteArray) (a1 : Int) (a2 : Int) (a3 : ByteArray) (a4 : ByteArray), el = AV.agg [(.s a0), (.i .i64 a1), (.i .i64 a2), (.s a3), (.s a4)] ∧ a0.size ≤ B ∧ W64 a1 ∧ W64 a2 ∧ a3.size ≤ B ∧ a4.size ≤ B ∧ True
theorem T63.eta {B : Nat} {el : AV} (h : T63 B el) : AV.agg [(.s (el.cells.getD 0 .x).toS), (.i .i64 (el.cells.getD 1 .x).toI), (.i .i64 (el.cells.getD 2 .x).toI), (.s (el.cells.getD 3 .x).toS), (.s (el.cells.getD 4 .x).toS)] = el := by obtain ⟨a0, a1, a2, a3, a4, rfl, _, _, _, _, _, _⟩ := h; rfl
theorem T63.ok {B : Nat} {el : AV} (h : T63 B el) : okCells false el 0 [.s, (.i .i64), (.i .i64), .s, .s] = true := by obtain ⟨a0, a1, a2, a3, a4, rfl, _, _, _, _, _, _⟩ := h; rfl
theorem T63.ok0 {B : Nat} {el : AV} (h : T63 B el) : okCells false el 0 [.s] = true := by obtain ⟨a0, a1, a2, a3, a4, rfl, _, _, _, _, _, _⟩ := h; rfl
theorem T63.ok1 {B : Nat} {el : AV} (h : T63 B el) : okCells false el 1 [(.i .i64)] = true := by obtain ⟨a0, a1, a2, a3, a4, rfl, _, _, _, _, _, _⟩ := h; rfl
theorem T63.ok2 {B : Nat} {el : AV} (h : T63 B el) : okCells false el 2 [(.i .i64)] = true := by obtain ⟨a0, a1, a2, a3, a4, rfl, _, _, _, _, _, _⟩ := h; rfl
theorem T63.ok3 {B : Nat} {el : AV} (h : T63 B el) : okCells false el 3 [.s] = true := by obtain ⟨a0, a1, a2, a3, a4, rfl, _, _, _, _, _, _⟩ := h; rfl
theorem T63.ok4 {B : Nat} {el : AV} (h : T63 B el) : okCells false el 4 [.s] = true := by obtain ⟨a0, a1, a2, a3, a4, rfl, _, _, _, _, _, _⟩ := h; rfl
theorem T63_of {el : AV} (h : El E (.agg [.s, (.i .i64), (.i .i64), .s, .s]) el) : T63 9223372036854775807 el := by
  obtain ⟨cs, rfl, hs⟩ := h.agg
  obtain ⟨y0, c0, rfl, h0, hs⟩ := hs.out
  obtain ⟨y1, c1, rfl, h1, hs⟩ := hs.out
  obtain ⟨y2, c2, rfl, h2, hs⟩ := hs.out
  obtain ⟨y3, c3, rfl, h3, hs⟩ := hs.out
  obtain ⟨y4, c4, rfl, h4, hs⟩ := hs.out
  obtain rfl := hs.end
  obtain ⟨a0, rfl, w0⟩ := h0.str
  obtain ⟨a1, rfl, w1⟩ := h1.int
  obtain ⟨a2, rfl, w2⟩ := h2.int
  obtain ⟨a3, rfl, w3⟩ := h3.str
  obtain ⟨a4, rfl, w4⟩ := h4.str
  exact ⟨a0, a1, a2, a3, a4, rfl, w0, wf_64 w1, wf_64 w2, w3, w4, trivial⟩
theorem sz59 {el : AV} (h : T103 9223372036854775807 el) (left : Int) (h0 : 0 ≤ left) (h1 : left ≤ 1048576) : Sz (den E 59 [el, (.i .i64 left)] []) left (T103 1048576 el) := by
  obtain ⟨a0, a1, rfl, w0, w1, _⟩ := h
  rw [f59_eq]
  rw [w64 (x := left - ((a0.size : Nat) : Int)) (by omega) (by omega)]
  generalize hl1 : left - ((a0.size : Nat) : Int) = l1
  refine Sz.c fun c1 => ?_
  rw [w64 (x := l1 - ((a1.size : Nat) : Int)) (by omega) (by omega)]
  generalize hl2 : l1 - ((a1.size : Nat) : Int) = l2
  refine Sz.c fun c2 => ?_
  exact Sz.done (by omega) (by omega) ⟨a0, a1, rfl, (by omega), (by omega), trivial⟩
theorem sz17 {l : List AV} (h : Rw (T103 9223372036854775807) 9223372036854775807 l) (left : Int) (h0 : 0 ≤ left) (h1 : left ≤ 1048576) : Sz (den E 17 [(.imm 2 l), (.i .i64 left)] []) left (Rw (T103 1048576) 1048576 l) := by
  have hl := h.1
  rw [f17_eq, w64 (by omega) (by omega)]
  refine Sz.c fun c => ?_
  refine ((sz_loop (L := fun left i => f17_l1 l left i) (n := l.length) (Pz := fun i => T103 1048576 (l.getD i .x)) ?_ ?_ l.length 0 _ (by omega) c (by omega)).mono (by omega) fun hq => Rw.mk (by omega) fun i hi => hq i (Nat.zero_le _) hi)
  · intro i left hi h0 h1
    have hT := h.at hi
    refine (sz59 hT left h0 h1).step (K := fun r => f17_l1 l r ((i : Int) + 1)) fun r hr => ?_
    obtain ⟨a0, a1, he, w0, w1, _⟩ := hT
    rw [he] at hr
    try dsimp only
    rw [f17_l1_eq, dT (show (i : Int) < ((l.length : Nat) : Int) by omega), cond_true]
    rw [if_pos (by omega)]
    simp only [Int.toNat_natCast, he]
    rw [if_pos (by rfl), w64 (by omega) (by omega)]
    simp only [okC_nil, okC_agg, okC_i, okC_b, okC_s, okC_imm, okL_i, okL_b, okL_s, okL_sl, okS_i, okS_b, okS_s, okS_sl, okS_agg, okS_tup, okS_nil, okS_cons, cells_agg, cells_i, cells_b, cells_s, cells_imm, toI_i, toB_b, toS_s, toL_imm, nth_agg, nth_tup, put_agg, put_i, put_b, put_s, put_imm, setCells, List.getD_cons_zero, List.getD_cons_succ, bSh_b, bSh_i, bSh_s, bSh_sl, bSh_some, cond_true, cond_false, decide_true, decide_false, Int.toNat_natCast, Nat.zero_add, Nat.reduceAdd, beq_self_eq_true, Bool.and_true, Bool.true_and, if_true, Bool.false_eq_true, if_false, List.set_cons_zero, List.set_cons_succ, Bool.not_true, Bool.not_false, Bool.and_self, hr]
    try rfl
  · intro left
    try dsimp only
    rw [f17_l1_eq, dF (Int.lt_irrefl _), cond_false]
theorem sz18 {el : AV} (h : T63 9223372036854775807 el) (left : Int) (h0 : 0 ≤ left) (h1 : left ≤ 1048576) : Sz (den E 18 [el, (.i .i64 left)] []) left (T63 1048576 el) := by
  obtain ⟨a0, a1, a2, a3, a4, rfl, w0, w1, w2, w3, w4, _⟩ := h
  rw [f18_eq]
  rw [w64 (x := left - ((a0.size : Nat) : Int)) (by omega) (by omega)]
  generalize hl1 : left - ((a0.size : Nat) : Int) = l1
  refine Sz.c fun c1 => ?_
  rw [w64 (x := l1 - ((a3.size : Nat) : Int)) (by omega) (by omega)]
  generalize hl2 : l1 - ((a3.size : Nat) : Int) = l2
  refine Sz.c fun c2 => ?_
  rw [w64 (x := l2 - ((a4.size : Nat) : Int)) (by omega) (by omega)]
  generalize hl3 : l2 - ((a4.size : Nat) : Int) = l3
  refine Sz.c fun c3 => ?_
  exact Sz.done (by omega) (by omega) ⟨a0, a1, a2, a3, a4, rfl, (by omega), w1, w2, (by omega), (by omega), trivial⟩
theorem to63 {el : AV} (h : T103 1048576 el) : den E 63 [el] [] = some el := by
  obtain ⟨a0, a1, rfl, w0, w1, _⟩ := h
  rw [f63_eq]
theorem to21 {el : AV} (h : T63 1048576 el) : den E 21 [el] [] = some el := by
  obtain ⟨a0, a1, a2, a3, a4, rfl, w0, w1, w2, w3, w4, _⟩ := h
  rw [f21_eq]
theorem eq67 {el : AV} (h : T103 1048576 el) : den E 67 [el, el] [] = some (.b true) := by
  obtain ⟨a0, a1, rfl, w0, w1, _⟩ := h
  rw [f67_eq]
  simp only [okC_nil, okC_agg, okC_i, okC_b, okC_s, okC_imm, okL_i, okL_b, okL_s, okL_sl, okS_i, okS_b, okS_s, okS_sl, okS_agg, okS_tup, okS_nil, okS_cons, cells_agg, cells_i, cells_b, cells_s, cells_imm, toI_i, toB_b, toS_s, toL_imm, nth_agg, nth_tup, put_agg, put_i, put_b, put_s, put_imm, setCells, List.getD_cons_zero, List.getD_cons_succ, bSh_b, bSh_i, bSh_s, bSh_sl, bSh_some, cond_true, cond_false, decide_true, decide_false, Int.toNat_natCast, Nat.zero_add, Nat.reduceAdd, beq_self_eq_true, Bool.and_true, Bool.true_and, if_true, Bool.false_eq_true, if_false, List.set_cons_zero, List.set_cons_succ, Bool.not_true, Bool.not_false, Bool.and_self]
theorem eq23 {l : List AV} (h : Rw (T103 1048576) 1048576 l) : den E 23 [(.imm 2 l), (.imm 2 l)] [] = some (.b true) := by
  have hl := h.1
  rw [f23_eq]
  simp only [decide_true, Bool.not_true, cond_false]
  refine eq_loop (L := fun i => f23_l1 l l i) (n := l.length) (fun i hi => ?_) ?_
  · have hT := h.at hi
    obtain ⟨a0, a1, he, w0, w1, _⟩ := h.at hi
    rw [he] at hT
    try dsimp only
    rw [f23_l1_eq, dT (show (i : Int) < ((l.length : Nat) : Int) by omega), cond_true]
    rw [if_pos (by omega)]
    simp only [Int.toNat_natCast, he]
    rw [if_pos (by rfl), if_pos (by omega), if_pos (by rfl), w64 (by omega) (by omega)]
    simp only [okC_nil, okC_agg, okC_i, okC_b, okC_s, okC_imm, okL_i, okL_b, okL_s, okL_sl, okS_i, okS_b, okS_s, okS_sl, okS_agg, okS_tup, okS_nil, okS_cons, cells_agg, cells_i, cells_b, cells_s, cells_imm, toI_i, toB_b, toS_s, toL_imm, nth_agg, nth_tup, put_agg, put_i, put_b, put_s, put_imm, setCells, List.getD_cons_zero, List.getD_cons_succ, bSh_b, bSh_i, bSh_s, bSh_sl, bSh_some, cond_true, cond_false, decide_true, decide_false, Int.toNat_natCast, Nat.zero_add, Nat.reduceAdd, beq_self_eq_true, Bool.and_true, Bool.true_and, if_true, Bool.false_eq_true, if_false, List.set_cons_zero, List.set_cons_succ, Bool.not_true, Bool.not_false, Bool.and_self, eq67 hT]
  · try dsimp only
    rw [f23_l1_eq, dF (Int.lt_irrefl _), cond_false]
end Go.Proofs.Ytkpmplggbbiebaa.IApplyRecord
