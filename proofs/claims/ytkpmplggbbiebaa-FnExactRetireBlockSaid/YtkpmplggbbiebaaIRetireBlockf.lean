/- Printed by a program of this work (wip/it/itf.py): typed trees; the families sz, to, eq. No condition beyond what each theorem states. -/
import Derived.Test.YtkpmplggbbiebaaIRetireBlockx
import Derived.Test.YtkpmplggbbiebaaIt2
namespace Go.Proofs.Ytkpmplggbbiebaa.IRetireBlock
open Go Go.Proofs.YtkpmplggbbiebaaIT
set_option linter.unusedVariables false
set_option linter.unusedSimpArgs false
def T2 (B : Nat) (el : AV) : Prop := ∃ (a0 : Int), el = AV.i .i64 a0 ∧ W64 a0 ∧ True
theorem T2.eta {B : Nat} {el : AV} (h : T2 B el) : AV.i .i64 (el.cells.getD 0 .x).toI = el := by obtain ⟨a0, rfl, _, _⟩ := h; rfl
theorem T2.ok {B : Nat} {el : AV} (h : T2 B el) : okCells false el 0 [(.i .i64)] = true := by obtain ⟨a0, rfl, _, _⟩ := h; rfl
theorem T2_of {el : AV} (h : El E (.i .i64) el) : T2 9223372036854775807 el := by
  have h0 : WL E (.i .i64) el := El.leaf rfl (fun _ => rfl) h
  obtain ⟨a0, rfl, w0⟩ := h0.int
  exact ⟨a0, rfl, wf_64 w0, trivial⟩
def T76 (B : Nat) (el : AV) : Prop := ∃ (a0 : Int) (a1 : Int) (a2 : Int) (a3 : Int) (a4 : List AV) (a5 : List AV), el = AV.agg [(.i .i64 a0), (.i .i64 a1), (.i .i64 a2), (.i .i64 a3), (.imm 1 a4), (.imm 1 a5)] ∧ W64 a0 ∧ W64 a1 ∧ W64 a2 ∧ W64 a3 ∧ Rw (T2 B) B a4 ∧ Rw (T2 B) B a5 ∧ True
theorem T76.eta {B : Nat} {el : AV} (h : T76 B el) : AV.agg [(.i .i64 (el.cells.getD 0 .x).toI), (.i .i64 (el.cells.getD 1 .x).toI), (.i .i64 (el.cells.getD 2 .x).toI), (.i .i64 (el.cells.getD 3 .x).toI), (.imm 1 (el.cells.getD 4 .x).toL), (.imm 1 (el.cells.getD 5 .x).toL)] = el := by obtain ⟨a0, a1, a2, a3, a4, a5, rfl, _, _, _, _, _, _, _⟩ := h; rfl
theorem T76.ok {B : Nat} {el : AV} (h : T76 B el) : okCells false el 0 [(.i .i64), (.i .i64), (.i .i64), (.i .i64), (.sl 2 1), (.sl 2 1)] = true := by obtain ⟨a0, a1, a2, a3, a4, a5, rfl, _, _, _, _, _, _, _⟩ := h; rfl
theorem T76.ok0 {B : Nat} {el : AV} (h : T76 B el) : okCells false el 0 [(.i .i64)] = true := by obtain ⟨a0, a1, a2, a3, a4, a5, rfl, _, _, _, _, _, _, _⟩ := h; rfl
theorem T76.ok1 {B : Nat} {el : AV} (h : T76 B el) : okCells false el 1 [(.i .i64)] = true := by obtain ⟨a0, a1, a2, a3, a4, a5, rfl, _, _, _, _, _, _, _⟩ := h; rfl
theorem T76.ok2 {B : Nat} {el : AV} (h : T76 B el) : okCells false el 2 [(.i .i64)] = true := by obtain ⟨a0, a1, a2, a3, a4, a5, rfl, _, _, _, _, _, _, _⟩ := h; rfl
theorem T76.ok3 {B : Nat} {el : AV} (h : T76 B el) : okCells false el 3 [(.i .i64)] = true := by obtain ⟨a0, a1, a2, a3, a4, a5, rfl, _, _, _, _, _, _, _⟩ := h; rfl
theorem T76.ok4 {B : Nat} {el : AV} (h : T76 B el) : okCells false el 4 [(.sl 2 1)] = true := by obtain ⟨a0, a1, a2, a3, a4, a5, rfl, _, _, _, _, _, _, _⟩ := h; rfl
theorem T76.ok5 {B : Nat} {el : AV} (h : T76 B el) : okCells false el 5 [(.sl 2 1)] = true := by obtain ⟨a0, a1, a2, a3, a4, a5, rfl, _, _, _, _, _, _, _⟩ := h; rfl
theorem T76_of {el : AV} (h : El E (.agg [(.i .i64), (.i .i64), (.i .i64), (.i .i64), (.sl 2 1), (.sl 2 1)]) el) : T76 9223372036854775807 el := by
  obtain ⟨cs, rfl, hs⟩ := h.agg
  obtain ⟨y0, c0, rfl, h0, hs⟩ := hs.out
  obtain ⟨y1, c1, rfl, h1, hs⟩ := hs.out
  obtain ⟨y2, c2, rfl, h2, hs⟩ := hs.out
  obtain ⟨y3, c3, rfl, h3, hs⟩ := hs.out
  obtain ⟨y4, c4, rfl, h4, hs⟩ := hs.out
  obtain ⟨y5, c5, rfl, h5, hs⟩ := hs.out
  obtain rfl := hs.end
  obtain ⟨a0, rfl, w0⟩ := h0.int
  obtain ⟨a1, rfl, w1⟩ := h1.int
  obtain ⟨a2, rfl, w2⟩ := h2.int
  obtain ⟨a3, rfl, w3⟩ := h3.int
  obtain ⟨a4, rfl, w4, r4⟩ := h4.row (te := ⟨(.i .i64), 1, 8, 0, []⟩) rfl
  obtain ⟨a5, rfl, w5, r5⟩ := h5.row (te := ⟨(.i .i64), 1, 8, 0, []⟩) rfl
  exact ⟨a0, a1, a2, a3, a4, a5, rfl, wf_64 w0, wf_64 w1, wf_64 w2, wf_64 w3, ⟨w4, fun el hel => T2_of (r4 el hel)⟩, ⟨w5, fun el hel => T2_of (r5 el hel)⟩, trivial⟩
theorem sz36 {l : List AV} (h : Rw (T2 9223372036854775807) 9223372036854775807 l) (left : Int) (h0 : 0 ≤ left) (h1 : left ≤ 1048576) : Sz (den E 36 [(.imm 1 l), (.i .i64 left)] []) left (Rw (T2 1048576) 1048576 l) := by
  have hl := h.1
  rw [f36_eq, w64 (by omega) (by omega)]
  refine Sz.c fun c => ?_
  exact Sz.done c (by omega) ⟨by omega, fun y hy => by obtain ⟨a0, rfl, w0, _⟩ := h.2 y hy; exact ⟨a0, rfl, w0, trivial⟩⟩
theorem sz26 {el : AV} (h : T76 9223372036854775807 el) (left : Int) (h0 : 0 ≤ left) (h1 : left ≤ 1048576) : Sz (den E 26 [el, (.i .i64 left)] []) left (T76 1048576 el) := by
  obtain ⟨a0, a1, a2, a3, a4, a5, rfl, w0, w1, w2, w3, w4, w5, _⟩ := h
  rw [f26_eq]
  refine Sz.call (sz36 w4 left (by omega) (by omega)) (by omega) (fun l1 c1 d1 q4 => ?_) (fun r hr => Sz.neg hr)
  simp only [AV.toI]
  refine Sz.c fun _ => ?_
  refine Sz.call (sz36 w5 l1 (by omega) (by omega)) (by omega) (fun l2 c2 d2 q5 => ?_) (fun r hr => Sz.neg hr)
  simp only [AV.toI]
  refine Sz.c fun _ => ?_
  exact Sz.done (by omega) (by omega) ⟨a0, a1, a2, a3, a4, a5, rfl, w0, w1, w2, w3, q4, q5, trivial⟩
def T23 (B : Nat) (el : AV) : Prop := ∃ (a0 : Int) (a1 : Int) (a2 : Int), el = AV.agg [(.i .i64 a0), (.i .i64 a1), (.i .i64 a2)] ∧ W64 a0 ∧ W64 a1 ∧ W64 a2 ∧ True
theorem T23.eta {B : Nat} {el : AV} (h : T23 B el) : AV.agg [(.i .i64 (el.cells.getD 0 .x).toI), (.i .i64 (el.cells.getD 1 .x).toI), (.i .i64 (el.cells.getD 2 .x).toI)] = el := by obtain ⟨a0, a1, a2, rfl, _, _, _, _⟩ := h; rfl
theorem T23.ok {B : Nat} {el : AV} (h : T23 B el) : okCells false el 0 [(.i .i64), (.i .i64), (.i .i64)] = true := by obtain ⟨a0, a1, a2, rfl, _, _, _, _⟩ := h; rfl
theorem T23.ok0 {B : Nat} {el : AV} (h : T23 B el) : okCells false el 0 [(.i .i64)] = true := by obtain ⟨a0, a1, a2, rfl, _, _, _, _⟩ := h; rfl
theorem T23.ok1 {B : Nat} {el : AV} (h : T23 B el) : okCells false el 1 [(.i .i64)] = true := by obtain ⟨a0, a1, a2, rfl, _, _, _, _⟩ := h; rfl
theorem T23.ok2 {B : Nat} {el : AV} (h : T23 B el) : okCells false el 2 [(.i .i64)] = true := by obtain ⟨a0, a1, a2, rfl, _, _, _, _⟩ := h; rfl
theorem T23_of {el : AV} (h : El E (.agg [(.i .i64), (.i .i64), (.i .i64)]) el) : T23 9223372036854775807 el := by
  obtain ⟨cs, rfl, hs⟩ := h.agg
  obtain ⟨y0, c0, rfl, h0, hs⟩ := hs.out
  obtain ⟨y1, c1, rfl, h1, hs⟩ := hs.out
  obtain ⟨y2, c2, rfl, h2, hs⟩ := hs.out
  obtain rfl := hs.end
  obtain ⟨a0, rfl, w0⟩ := h0.int
  obtain ⟨a1, rfl, w1⟩ := h1.int
  obtain ⟨a2, rfl, w2⟩ := h2.int
  exact ⟨a0, a1, a2, rfl, wf_64 w0, wf_64 w1, wf_64 w2, trivial⟩
theorem to77 {el : AV} (h : T23 1048576 el) : den E 77 [el] [] = some el := by
  obtain ⟨a0, a1, a2, rfl, w0, w1, w2, _⟩ := h
  rw [f77_eq]
theorem eq82 {el : AV} (h : T23 1048576 el) : den E 82 [el, el] [] = some (.b true) := by
  obtain ⟨a0, a1, a2, rfl, w0, w1, w2, _⟩ := h
  rw [f82_eq]
  simp only [okC_nil, okC_agg, okC_i, okC_b, okC_s, okC_imm, okL_i, okL_b, okL_s, okL_sl, okS_i, okS_b, okS_s, okS_sl, okS_agg, okS_tup, okS_nil, okS_cons, cells_agg, cells_i, cells_b, cells_s, cells_imm, toI_i, toB_b, toS_s, toL_imm, nth_agg, nth_tup, put_agg, put_i, put_b, put_s, put_imm, setCells, List.getD_cons_zero, List.getD_cons_succ, bSh_b, bSh_i, bSh_s, bSh_sl, bSh_some, cond_true, cond_false, decide_true, decide_false, Int.toNat_natCast, Nat.zero_add, Nat.reduceAdd, beq_self_eq_true, Bool.and_true, Bool.true_and, if_true, Bool.false_eq_true, if_false, List.set_cons_zero, List.set_cons_succ, Bool.not_true, Bool.not_false, Bool.and_self]
theorem eq52 {l : List AV} (h : Rw (T2 1048576) 1048576 l) : den E 52 [(.imm 1 l), (.imm 1 l)] [] = some (.b true) := by
  have hl := h.1
  rw [f52_eq]
  simp only [decide_true, Bool.not_true, cond_false]
  refine eq_loop (L := fun i => f52_l1 l l i) (n := l.length) (fun i hi => ?_) ?_
  · have hT := h.at hi
    obtain ⟨a0, he, w0, _⟩ := h.at hi
    rw [he] at hT
    try dsimp only
    rw [f52_l1_eq, dT (show (i : Int) < ((l.length : Nat) : Int) by omega), cond_true]
    rw [if_pos (by omega)]
    simp only [Int.toNat_natCast, he]
    rw [if_pos (by rfl), if_pos (by omega), if_pos (by rfl), w64 (by omega) (by omega)]
    simp only [okC_nil, okC_agg, okC_i, okC_b, okC_s, okC_imm, okL_i, okL_b, okL_s, okL_sl, okS_i, okS_b, okS_s, okS_sl, okS_agg, okS_tup, okS_nil, okS_cons, cells_agg, cells_i, cells_b, cells_s, cells_imm, toI_i, toB_b, toS_s, toL_imm, nth_agg, nth_tup, put_agg, put_i, put_b, put_s, put_imm, setCells, List.getD_cons_zero, List.getD_cons_succ, bSh_b, bSh_i, bSh_s, bSh_sl, bSh_some, cond_true, cond_false, decide_true, decide_false, Int.toNat_natCast, Nat.zero_add, Nat.reduceAdd, beq_self_eq_true, Bool.and_true, Bool.true_and, if_true, Bool.false_eq_true, if_false, List.set_cons_zero, List.set_cons_succ, Bool.not_true, Bool.not_false, Bool.and_self]
  · try dsimp only
    rw [f52_l1_eq, dF (Int.lt_irrefl _), cond_false]
theorem eq30 {el : AV} (h : T76 1048576 el) : den E 30 [el, el] [] = some (.b true) := by
  obtain ⟨a0, a1, a2, a3, a4, a5, rfl, w0, w1, w2, w3, w4, w5, _⟩ := h
  rw [f30_eq]
  simp only [okC_nil, okC_agg, okC_i, okC_b, okC_s, okC_imm, okL_i, okL_b, okL_s, okL_sl, okS_i, okS_b, okS_s, okS_sl, okS_agg, okS_tup, okS_nil, okS_cons, cells_agg, cells_i, cells_b, cells_s, cells_imm, toI_i, toB_b, toS_s, toL_imm, nth_agg, nth_tup, put_agg, put_i, put_b, put_s, put_imm, setCells, List.getD_cons_zero, List.getD_cons_succ, bSh_b, bSh_i, bSh_s, bSh_sl, bSh_some, cond_true, cond_false, decide_true, decide_false, Int.toNat_natCast, Nat.zero_add, Nat.reduceAdd, beq_self_eq_true, Bool.and_true, Bool.true_and, if_true, Bool.false_eq_true, if_false, List.set_cons_zero, List.set_cons_succ, Bool.not_true, Bool.not_false, Bool.and_self, eq52 w4, eq52 w5, eq82 (el := .agg [(.i .i64 a0), (.i .i64 a1), (.i .i64 a2)]) ⟨a0, a1, a2, rfl, w0, w1, w2, trivial⟩]
end Go.Proofs.Ytkpmplggbbiebaa.IRetireBlock
