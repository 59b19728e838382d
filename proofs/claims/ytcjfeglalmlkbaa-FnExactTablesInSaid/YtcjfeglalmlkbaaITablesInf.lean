/- Printed by a program of this work (wip/it/itf.py): typed trees; the families sz, to, eq. No condition beyond what each theorem states. -/
import Derived.Test.YtcjfeglalmlkbaaITablesInx
import Derived.Test.YtcjfeglalmlkbaaIt2
namespace Go.Proofs.Ytcjfeglalmlkbaa.ITablesIn
open Go Go.Proofs.YtcjfeglalmlkbaaIT
set_option linter.unusedVariables false
set_option linter.unusedSimpArgs false
def T193 (B : Nat) (el : AV) : Prop := ∃ (a0 : Int) (a1 : Int) (a2 : Int) (a3 : Int) (a4 : Int) (a5 : ByteArray) (a6 : ByteArray) (a7 : Int) (a8 : Int) (a9 : Int), el = AV.agg [(.i .i64 a0), (.i .i64 a1), (.i .i64 a2), (.i .i64 a3), (.i .i64 a4), (.s a5), (.s a6), (.i .i64 a7), (.i .i64 a8), (.i .i64 a9)] ∧ W64 a0 ∧ W64 a1 ∧ W64 a2 ∧ W64 a3 ∧ W64 a4 ∧ a5.size ≤ B ∧ a6.size ≤ B ∧ W64 a7 ∧ W64 a8 ∧ W64 a9 ∧ True
theorem T193.eta {B : Nat} {el : AV} (h : T193 B el) : AV.agg [(.i .i64 (el.cells.getD 0 .x).toI), (.i .i64 (el.cells.getD 1 .x).toI), (.i .i64 (el.cells.getD 2 .x).toI), (.i .i64 (el.cells.getD 3 .x).toI), (.i .i64 (el.cells.getD 4 .x).toI), (.s (el.cells.getD 5 .x).toS), (.s (el.cells.getD 6 .x).toS), (.i .i64 (el.cells.getD 7 .x).toI), (.i .i64 (el.cells.getD 8 .x).toI), (.i .i64 (el.cells.getD 9 .x).toI)] = el := by obtain ⟨a0, a1, a2, a3, a4, a5, a6, a7, a8, a9, rfl, _, _, _, _, _, _, _, _, _, _, _⟩ := h; rfl
theorem T193.ok {B : Nat} {el : AV} (h : T193 B el) : okCells false el 0 [(.i .i64), (.i .i64), (.i .i64), (.i .i64), (.i .i64), .s, .s, (.i .i64), (.i .i64), (.i .i64)] = true := by obtain ⟨a0, a1, a2, a3, a4, a5, a6, a7, a8, a9, rfl, _, _, _, _, _, _, _, _, _, _, _⟩ := h; rfl
theorem T193.ok0 {B : Nat} {el : AV} (h : T193 B el) : okCells false el 0 [(.i .i64)] = true := by obtain ⟨a0, a1, a2, a3, a4, a5, a6, a7, a8, a9, rfl, _, _, _, _, _, _, _, _, _, _, _⟩ := h; rfl
theorem T193.ok1 {B : Nat} {el : AV} (h : T193 B el) : okCells false el 1 [(.i .i64)] = true := by obtain ⟨a0, a1, a2, a3, a4, a5, a6, a7, a8, a9, rfl, _, _, _, _, _, _, _, _, _, _, _⟩ := h; rfl
theorem T193.ok2 {B : Nat} {el : AV} (h : T193 B el) : okCells false el 2 [(.i .i64)] = true := by obtain ⟨a0, a1, a2, a3, a4, a5, a6, a7, a8, a9, rfl, _, _, _, _, _, _, _, _, _, _, _⟩ := h; rfl
theorem T193.ok3 {B : Nat} {el : AV} (h : T193 B el) : okCells false el 3 [(.i .i64)] = true := by obtain ⟨a0, a1, a2, a3, a4, a5, a6, a7, a8, a9, rfl, _, _, _, _, _, _, _, _, _, _, _⟩ := h; rfl
theorem T193.ok4 {B : Nat} {el : AV} (h : T193 B el) : okCells false el 4 [(.i .i64)] = true := by obtain ⟨a0, a1, a2, a3, a4, a5, a6, a7, a8, a9, rfl, _, _, _, _, _, _, _, _, _, _, _⟩ := h; rfl
theorem T193.ok5 {B : Nat} {el : AV} (h : T193 B el) : okCells false el 5 [.s] = true := by obtain ⟨a0, a1, a2, a3, a4, a5, a6, a7, a8, a9, rfl, _, _, _, _, _, _, _, _, _, _, _⟩ := h; rfl
theorem T193.ok6 {B : Nat} {el : AV} (h : T193 B el) : okCells false el 6 [.s] = true := by obtain ⟨a0, a1, a2, a3, a4, a5, a6, a7, a8, a9, rfl, _, _, _, _, _, _, _, _, _, _, _⟩ := h; rfl
theorem T193.ok7 {B : Nat} {el : AV} (h : T193 B el) : okCells false el 7 [(.i .i64)] = true := by obtain ⟨a0, a1, a2, a3, a4, a5, a6, a7, a8, a9, rfl, _, _, _, _, _, _, _, _, _, _, _⟩ := h; rfl
theorem T193.ok8 {B : Nat} {el : AV} (h : T193 B el) : okCells false el 8 [(.i .i64)] = true := by obtain ⟨a0, a1, a2, a3, a4, a5, a6, a7, a8, a9, rfl, _, _, _, _, _, _, _, _, _, _, _⟩ := h; rfl
theorem T193.ok9 {B : Nat} {el : AV} (h : T193 B el) : okCells false el 9 [(.i .i64)] = true := by obtain ⟨a0, a1, a2, a3, a4, a5, a6, a7, a8, a9, rfl, _, _, _, _, _, _, _, _, _, _, _⟩ := h; rfl
theorem T193_of {el : AV} (h : El E (.agg [(.i .i64), (.i .i64), (.i .i64), (.i .i64), (.i .i64), .s, .s, (.i .i64), (.i .i64), (.i .i64)]) el) : T193 9223372036854775807 el := by
  obtain ⟨cs, rfl, hs⟩ := h.agg
  obtain ⟨y0, c0, rfl, h0, hs⟩ := hs.out
  obtain ⟨y1, c1, rfl, h1, hs⟩ := hs.out
  obtain ⟨y2, c2, rfl, h2, hs⟩ := hs.out
  obtain ⟨y3, c3, rfl, h3, hs⟩ := hs.out
  obtain ⟨y4, c4, rfl, h4, hs⟩ := hs.out
  obtain ⟨y5, c5, rfl, h5, hs⟩ := hs.out
  obtain ⟨y6, c6, rfl, h6, hs⟩ := hs.out
  obtain ⟨y7, c7, rfl, h7, hs⟩ := hs.out
  obtain ⟨y8, c8, rfl, h8, hs⟩ := hs.out
  obtain ⟨y9, c9, rfl, h9, hs⟩ := hs.out
  obtain rfl := hs.end
  obtain ⟨a0, rfl, w0⟩ := h0.int
  obtain ⟨a1, rfl, w1⟩ := h1.int
  obtain ⟨a2, rfl, w2⟩ := h2.int
  obtain ⟨a3, rfl, w3⟩ := h3.int
  obtain ⟨a4, rfl, w4⟩ := h4.int
  obtain ⟨a5, rfl, w5⟩ := h5.str
  obtain ⟨a6, rfl, w6⟩ := h6.str
  obtain ⟨a7, rfl, w7⟩ := h7.int
  obtain ⟨a8, rfl, w8⟩ := h8.int
  obtain ⟨a9, rfl, w9⟩ := h9.int
  exact ⟨a0, a1, a2, a3, a4, a5, a6, a7, a8, a9, rfl, wf_64 w0, wf_64 w1, wf_64 w2, wf_64 w3, wf_64 w4, w5, w6, wf_64 w7, wf_64 w8, wf_64 w9, trivial⟩
def T60 (B : Nat) (el : AV) : Prop := ∃ (a0 : Int) (a1 : Int) (a2 : Int) (a3 : List AV), el = AV.agg [(.i .i64 a0), (.i .i64 a1), (.i .i64 a2), (.imm 10 a3)] ∧ W64 a0 ∧ W64 a1 ∧ W64 a2 ∧ Rw (T193 B) B a3 ∧ True
theorem T60.eta {B : Nat} {el : AV} (h : T60 B el) : AV.agg [(.i .i64 (el.cells.getD 0 .x).toI), (.i .i64 (el.cells.getD 1 .x).toI), (.i .i64 (el.cells.getD 2 .x).toI), (.imm 10 (el.cells.getD 3 .x).toL)] = el := by obtain ⟨a0, a1, a2, a3, rfl, _, _, _, _, _⟩ := h; rfl
theorem T60.ok {B : Nat} {el : AV} (h : T60 B el) : okCells false el 0 [(.i .i64), (.i .i64), (.i .i64), (.sl 193 10)] = true := by obtain ⟨a0, a1, a2, a3, rfl, _, _, _, _, _⟩ := h; rfl
theorem T60.ok0 {B : Nat} {el : AV} (h : T60 B el) : okCells false el 0 [(.i .i64)] = true := by obtain ⟨a0, a1, a2, a3, rfl, _, _, _, _, _⟩ := h; rfl
theorem T60.ok1 {B : Nat} {el : AV} (h : T60 B el) : okCells false el 1 [(.i .i64)] = true := by obtain ⟨a0, a1, a2, a3, rfl, _, _, _, _, _⟩ := h; rfl
theorem T60.ok2 {B : Nat} {el : AV} (h : T60 B el) : okCells false el 2 [(.i .i64)] = true := by obtain ⟨a0, a1, a2, a3, rfl, _, _, _, _, _⟩ := h; rfl
theorem T60.ok3 {B : Nat} {el : AV} (h : T60 B el) : okCells false el 3 [(.sl 193 10)] = true := by obtain ⟨a0, a1, a2, a3, rfl, _, _, _, _, _⟩ := h; rfl
theorem T60_of {el : AV} (h : El E (.agg [(.i .i64), (.i .i64), (.i .i64), (.sl 193 10)]) el) : T60 9223372036854775807 el := by
  obtain ⟨cs, rfl, hs⟩ := h.agg
  obtain ⟨y0, c0, rfl, h0, hs⟩ := hs.out
  obtain ⟨y1, c1, rfl, h1, hs⟩ := hs.out
  obtain ⟨y2, c2, rfl, h2, hs⟩ := hs.out
  obtain ⟨y3, c3, rfl, h3, hs⟩ := hs.out
  obtain rfl := hs.end
  obtain ⟨a0, rfl, w0⟩ := h0.int
  obtain ⟨a1, rfl, w1⟩ := h1.int
  obtain ⟨a2, rfl, w2⟩ := h2.int
  obtain ⟨a3, rfl, w3, r3⟩ := h3.row (te := ⟨(.agg [(.i .i64), (.i .i64), (.i .i64), (.i .i64), (.i .i64), .s, .s, (.i .i64), (.i .i64), (.i .i64)]), 10, 96, 0, [(0, 2), (1, 2), (2, 2), (3, 2), (4, 2), (5, 9), (6, 9), (7, 2), (8, 2), (9, 2)]⟩) rfl
  exact ⟨a0, a1, a2, a3, rfl, wf_64 w0, wf_64 w1, wf_64 w2, ⟨w3, fun el hel => T193_of (r3 el hel)⟩, trivial⟩
theorem sz168 {el : AV} (h : T193 9223372036854775807 el) (left : Int) (h0 : 0 ≤ left) (h1 : left ≤ 1048576) : Sz (den E 168 [el, (.i .i64 left)] []) left (T193 1048576 el) := by
  obtain ⟨a0, a1, a2, a3, a4, a5, a6, a7, a8, a9, rfl, w0, w1, w2, w3, w4, w5, w6, w7, w8, w9, _⟩ := h
  rw [f168_eq]
  rw [w64 (x := left - ((a5.size : Nat) : Int)) (by omega) (by omega)]
  generalize hl1 : left - ((a5.size : Nat) : Int) = l1
  refine Sz.c fun c1 => ?_
  rw [w64 (x := l1 - ((a6.size : Nat) : Int)) (by omega) (by omega)]
  generalize hl2 : l1 - ((a6.size : Nat) : Int) = l2
  refine Sz.c fun c2 => ?_
  exact Sz.done (by omega) (by omega) ⟨a0, a1, a2, a3, a4, a5, a6, a7, a8, a9, rfl, w0, w1, w2, w3, w4, (by omega), (by omega), w7, w8, w9, trivial⟩
theorem sz106 {l : List AV} (h : Rw (T193 9223372036854775807) 9223372036854775807 l) (left : Int) (h0 : 0 ≤ left) (h1 : left ≤ 1048576) : Sz (den E 106 [(.imm 10 l), (.i .i64 left)] []) left (Rw (T193 1048576) 1048576 l) := by
  have hl := h.1
  rw [f106_eq, w64 (by omega) (by omega)]
  refine Sz.c fun c => ?_
  refine ((sz_loop (L := fun left i => f106_l1 l left i) (n := l.length) (Pz := fun i => T193 1048576 (l.getD i .x)) ?_ ?_ l.length 0 _ (by omega) c (by omega)).mono (by omega) fun hq => Rw.mk (by omega) fun i hi => hq i (Nat.zero_le _) hi)
  · intro i left hi h0 h1
    have hT := h.at hi
    refine (sz168 hT left h0 h1).step (K := fun r => f106_l1 l r ((i : Int) + 1)) fun r hr => ?_
    obtain ⟨a0, a1, a2, a3, a4, a5, a6, a7, a8, a9, he, w0, w1, w2, w3, w4, w5, w6, w7, w8, w9, _⟩ := hT
    rw [he] at hr
    try dsimp only
    rw [f106_l1_eq, dT (show (i : Int) < ((l.length : Nat) : Int) by omega), cond_true]
    rw [if_pos (by omega)]
    simp only [Int.toNat_natCast, he]
    rw [if_pos (by rfl), w64 (by omega) (by omega)]
    simp only [okC_nil, okC_agg, okC_i, okC_b, okC_s, okC_imm, okL_i, okL_b, okL_s, okL_sl, okS_i, okS_b, okS_s, okS_sl, okS_agg, okS_tup, okS_nil, okS_cons, cells_agg, cells_i, cells_b, cells_s, cells_imm, toI_i, toB_b, toS_s, toL_imm, nth_agg, nth_tup, put_agg, put_i, put_b, put_s, put_imm, setCells, List.getD_cons_zero, List.getD_cons_succ, bSh_b, bSh_i, bSh_s, bSh_sl, bSh_some, cond_true, cond_false, decide_true, decide_false, Int.toNat_natCast, Nat.zero_add, Nat.reduceAdd, beq_self_eq_true, Bool.and_true, Bool.true_and, if_true, Bool.false_eq_true, if_false, List.set_cons_zero, List.set_cons_succ, Bool.not_true, Bool.not_false, Bool.and_self, hr]
    try rfl
  · intro left
    try dsimp only
    rw [f106_l1_eq, dF (Int.lt_irrefl _), cond_false]
theorem sz38 {el : AV} (h : T60 9223372036854775807 el) (left : Int) (h0 : 0 ≤ left) (h1 : left ≤ 1048576) : Sz (den E 38 [el, (.i .i64 left)] []) left (T60 1048576 el) := by
  obtain ⟨a0, a1, a2, a3, rfl, w0, w1, w2, w3, _⟩ := h
  rw [f38_eq]
  refine Sz.call (sz106 w3 left (by omega) (by omega)) (by omega) (fun l1 c1 d1 q3 => ?_) (fun r hr => Sz.neg hr)
  simp only [AV.toI]
  refine Sz.c fun _ => ?_
  exact Sz.done (by omega) (by omega) ⟨a0, a1, a2, a3, rfl, w0, w1, w2, q3, trivial⟩
theorem to171 {el : AV} (h : T193 1048576 el) : den E 171 [el] [] = some el := by
  obtain ⟨a0, a1, a2, a3, a4, a5, a6, a7, a8, a9, rfl, w0, w1, w2, w3, w4, w5, w6, w7, w8, w9, _⟩ := h
  rw [f171_eq]
theorem eq112 {el : AV} (h : T193 1048576 el) : den E 112 [el, el] [] = some (.b true) := by
  obtain ⟨a0, a1, a2, a3, a4, a5, a6, a7, a8, a9, rfl, w0, w1, w2, w3, w4, w5, w6, w7, w8, w9, _⟩ := h
  rw [f112_eq]
  simp only [okC_nil, okC_agg, okC_i, okC_b, okC_s, okC_imm, okL_i, okL_b, okL_s, okL_sl, okS_i, okS_b, okS_s, okS_sl, okS_agg, okS_tup, okS_nil, okS_cons, cells_agg, cells_i, cells_b, cells_s, cells_imm, toI_i, toB_b, toS_s, toL_imm, nth_agg, nth_tup, put_agg, put_i, put_b, put_s, put_imm, setCells, List.getD_cons_zero, List.getD_cons_succ, bSh_b, bSh_i, bSh_s, bSh_sl, bSh_some, cond_true, cond_false, decide_true, decide_false, Int.toNat_natCast, Nat.zero_add, Nat.reduceAdd, beq_self_eq_true, Bool.and_true, Bool.true_and, if_true, Bool.false_eq_true, if_false, List.set_cons_zero, List.set_cons_succ, Bool.not_true, Bool.not_false, Bool.and_self]
theorem eq42 {l : List AV} (h : Rw (T193 1048576) 1048576 l) : den E 42 [(.imm 10 l), (.imm 10 l)] [] = some (.b true) := by
  have hl := h.1
  rw [f42_eq]
  simp only [decide_true, Bool.not_true, cond_false]
  refine eq_loop (L := fun i => f42_l1 l l i) (n := l.length) (fun i hi => ?_) ?_
  · have hT := h.at hi
    obtain ⟨a0, a1, a2, a3, a4, a5, a6, a7, a8, a9, he, w0, w1, w2, w3, w4, w5, w6, w7, w8, w9, _⟩ := h.at hi
    rw [he] at hT
    try dsimp only
    rw [f42_l1_eq, dT (show (i : Int) < ((l.length : Nat) : Int) by omega), cond_true]
    rw [if_pos (by omega)]
    simp only [Int.toNat_natCast, he]
    rw [if_pos (by rfl), if_pos (by omega), if_pos (by rfl), w64 (by omega) (by omega)]
    simp only [okC_nil, okC_agg, okC_i, okC_b, okC_s, okC_imm, okL_i, okL_b, okL_s, okL_sl, okS_i, okS_b, okS_s, okS_sl, okS_agg, okS_tup, okS_nil, okS_cons, cells_agg, cells_i, cells_b, cells_s, cells_imm, toI_i, toB_b, toS_s, toL_imm, nth_agg, nth_tup, put_agg, put_i, put_b, put_s, put_imm, setCells, List.getD_cons_zero, List.getD_cons_succ, bSh_b, bSh_i, bSh_s, bSh_sl, bSh_some, cond_true, cond_false, decide_true, decide_false, Int.toNat_natCast, Nat.zero_add, Nat.reduceAdd, beq_self_eq_true, Bool.and_true, Bool.true_and, if_true, Bool.false_eq_true, if_false, List.set_cons_zero, List.set_cons_succ, Bool.not_true, Bool.not_false, Bool.and_self, eq112 hT]
  · try dsimp only
    rw [f42_l1_eq, dF (Int.lt_irrefl _), cond_false]
theorem eq43 {el : AV} (h : T60 1048576 el) : den E 43 [el, el] [] = some (.b true) := by
  obtain ⟨a0, a1, a2, a3, rfl, w0, w1, w2, w3, _⟩ := h
  rw [f43_eq]
  simp only [okC_nil, okC_agg, okC_i, okC_b, okC_s, okC_imm, okL_i, okL_b, okL_s, okL_sl, okS_i, okS_b, okS_s, okS_sl, okS_agg, okS_tup, okS_nil, okS_cons, cells_agg, cells_i, cells_b, cells_s, cells_imm, toI_i, toB_b, toS_s, toL_imm, nth_agg, nth_tup, put_agg, put_i, put_b, put_s, put_imm, setCells, List.getD_cons_zero, List.getD_cons_succ, bSh_b, bSh_i, bSh_s, bSh_sl, bSh_some, cond_true, cond_false, decide_true, decide_false, Int.toNat_natCast, Nat.zero_add, Nat.reduceAdd, beq_self_eq_true, Bool.and_true, Bool.true_and, if_true, Bool.false_eq_true, if_false, List.set_cons_zero, List.set_cons_succ, Bool.not_true, Bool.not_false, Bool.and_self, eq42 w3]
end Go.Proofs.Ytcjfeglalmlkbaa.ITablesIn
