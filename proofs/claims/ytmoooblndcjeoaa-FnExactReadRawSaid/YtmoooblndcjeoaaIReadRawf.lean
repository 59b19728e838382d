/- Printed by a program of this work (wip/it/itf.py): typed trees; the families sz, to, eq. No condition beyond what each theorem states. -/
import Derived.Test.YtmoooblndcjeoaaIReadRawx
import Derived.Test.YtmoooblndcjeoaaIt2
namespace Go.Proofs.Ytmoooblndcjeoaa.IReadRaw
open Go Go.Proofs.YtmoooblndcjeoaaIT
set_option linter.unusedVariables false
set_option linter.unusedSimpArgs false
def T9 (B : Nat) (el : AV) : Prop := ∃ (a0 : ByteArray), el = AV.s a0 ∧ a0.size ≤ B ∧ True
theorem T9.eta {B : Nat} {el : AV} (h : T9 B el) : AV.s (el.cells.getD 0 .x).toS = el := by obtain ⟨a0, rfl, _, _⟩ := h; rfl
theorem T9.ok {B : Nat} {el : AV} (h : T9 B el) : okCells false el 0 [.s] = true := by obtain ⟨a0, rfl, _, _⟩ := h; rfl
theorem T9_of {el : AV} (h : El E .s el) : T9 9223372036854775807 el := by
  have h0 : WL E .s el := El.leaf rfl (fun _ => rfl) h
  obtain ⟨a0, rfl, w0⟩ := h0.str
  exact ⟨a0, rfl, w0, trivial⟩
def T50 (B : Nat) (el : AV) : Prop := ∃ (a0 : Int) (a1 : Int) (a2 : Bool) (a3 : List AV), el = AV.agg [(.i .i64 a0), (.i .i64 a1), (.b a2), (.imm 1 a3)] ∧ W64 a0 ∧ W64 a1 ∧ Rw (T9 B) B a3 ∧ True
theorem T50.eta {B : Nat} {el : AV} (h : T50 B el) : AV.agg [(.i .i64 (el.cells.getD 0 .x).toI), (.i .i64 (el.cells.getD 1 .x).toI), (.b (el.cells.getD 2 .x).toB), (.imm 1 (el.cells.getD 3 .x).toL)] = el := by obtain ⟨a0, a1, a2, a3, rfl, _, _, _, _⟩ := h; rfl
theorem T50.ok {B : Nat} {el : AV} (h : T50 B el) : okCells false el 0 [(.i .i64), (.i .i64), .b, (.sl 9 1)] = true := by obtain ⟨a0, a1, a2, a3, rfl, _, _, _, _⟩ := h; rfl
theorem T50.ok0 {B : Nat} {el : AV} (h : T50 B el) : okCells false el 0 [(.i .i64)] = true := by obtain ⟨a0, a1, a2, a3, rfl, _, _, _, _⟩ := h; rfl
theorem T50.ok1 {B : Nat} {el : AV} (h : T50 B el) : okCells false el 1 [(.i .i64)] = true := by obtain ⟨a0, a1, a2, a3, rfl, _, _, _, _⟩ := h; rfl
theorem T50.ok2 {B : Nat} {el : AV} (h : T50 B el) : okCells false el 2 [.b] = true := by obtain ⟨a0, a1, a2, a3, rfl, _, _, _, _⟩ := h; rfl
theorem T50.ok3 {B : Nat} {el : AV} (h : T50 B el) : okCells false el 3 [(.sl 9 1)] = true := by obtain ⟨a0, a1, a2, a3, rfl, _, _, _, _⟩ := h; rfl
theorem T50_of {el : AV} (h : El E (.agg [(.i .i64), (.i .i64), .b, (.sl 9 1)]) el) : T50 9223372036854775807 el := by
  obtain ⟨cs, rfl, hs⟩ := h.agg
  obtain ⟨y0, c0, rfl, h0, hs⟩ := hs.out
  obtain ⟨y1, c1, rfl, h1, hs⟩ := hs.out
  obtain ⟨y2, c2, rfl, h2, hs⟩ := hs.out
  obtain ⟨y3, c3, rfl, h3, hs⟩ := hs.out
  obtain rfl := hs.end
  obtain ⟨a0, rfl, w0⟩ := h0.int
  obtain ⟨a1, rfl, w1⟩ := h1.int
  obtain ⟨a2, rfl⟩ := h2.bool
  obtain ⟨a3, rfl, w3, r3⟩ := h3.row (te := ⟨.s, 1, 16, 0, []⟩) rfl
  exact ⟨a0, a1, a2, a3, rfl, wf_64 w0, wf_64 w1, ⟨w3, fun el hel => T9_of (r3 el hel)⟩, trivial⟩
def T26 (B : Nat) (el : AV) : Prop := ∃ (a0 : Int) (a1 : Int) (a2 : Int) (a3 : List AV) (a4 : Int) (a5 : Int) (a6 : Bool) (a7 : Int), el = AV.agg [(.i .i64 a0), (.i .i64 a1), (.i .i64 a2), (.imm 4 a3), (.i .i64 a4), (.i .i64 a5), (.b a6), (.i .i64 a7)] ∧ W64 a0 ∧ W64 a1 ∧ W64 a2 ∧ Rw (T50 B) B a3 ∧ W64 a4 ∧ W64 a5 ∧ W64 a7 ∧ True
theorem T26.eta {B : Nat} {el : AV} (h : T26 B el) : AV.agg [(.i .i64 (el.cells.getD 0 .x).toI), (.i .i64 (el.cells.getD 1 .x).toI), (.i .i64 (el.cells.getD 2 .x).toI), (.imm 4 (el.cells.getD 3 .x).toL), (.i .i64 (el.cells.getD 4 .x).toI), (.i .i64 (el.cells.getD 5 .x).toI), (.b (el.cells.getD 6 .x).toB), (.i .i64 (el.cells.getD 7 .x).toI)] = el := by obtain ⟨a0, a1, a2, a3, a4, a5, a6, a7, rfl, _, _, _, _, _, _, _, _⟩ := h; rfl
theorem T26.ok {B : Nat} {el : AV} (h : T26 B el) : okCells false el 0 [(.i .i64), (.i .i64), (.i .i64), (.sl 50 4), (.i .i64), (.i .i64), .b, (.i .i64)] = true := by obtain ⟨a0, a1, a2, a3, a4, a5, a6, a7, rfl, _, _, _, _, _, _, _, _⟩ := h; rfl
theorem T26.ok0 {B : Nat} {el : AV} (h : T26 B el) : okCells false el 0 [(.i .i64)] = true := by obtain ⟨a0, a1, a2, a3, a4, a5, a6, a7, rfl, _, _, _, _, _, _, _, _⟩ := h; rfl
theorem T26.ok1 {B : Nat} {el : AV} (h : T26 B el) : okCells false el 1 [(.i .i64)] = true := by obtain ⟨a0, a1, a2, a3, a4, a5, a6, a7, rfl, _, _, _, _, _, _, _, _⟩ := h; rfl
theorem T26.ok2 {B : Nat} {el : AV} (h : T26 B el) : okCells false el 2 [(.i .i64)] = true := by obtain ⟨a0, a1, a2, a3, a4, a5, a6, a7, rfl, _, _, _, _, _, _, _, _⟩ := h; rfl
theorem T26.ok3 {B : Nat} {el : AV} (h : T26 B el) : okCells false el 3 [(.sl 50 4)] = true := by obtain ⟨a0, a1, a2, a3, a4, a5, a6, a7, rfl, _, _, _, _, _, _, _, _⟩ := h; rfl
theorem T26.ok4 {B : Nat} {el : AV} (h : T26 B el) : okCells false el 4 [(.i .i64)] = true := by obtain ⟨a0, a1, a2, a3, a4, a5, a6, a7, rfl, _, _, _, _, _, _, _, _⟩ := h; rfl
theorem T26.ok5 {B : Nat} {el : AV} (h : T26 B el) : okCells false el 5 [(.i .i64)] = true := by obtain ⟨a0, a1, a2, a3, a4, a5, a6, a7, rfl, _, _, _, _, _, _, _, _⟩ := h; rfl
theorem T26.ok6 {B : Nat} {el : AV} (h : T26 B el) : okCells false el 6 [.b] = true := by obtain ⟨a0, a1, a2, a3, a4, a5, a6, a7, rfl, _, _, _, _, _, _, _, _⟩ := h; rfl
theorem T26.ok7 {B : Nat} {el : AV} (h : T26 B el) : okCells false el 7 [(.i .i64)] = true := by obtain ⟨a0, a1, a2, a3, a4, a5, a6, a7, rfl, _, _, _, _, _, _, _, _⟩ := h; rfl
theorem T26_of {el : AV} (h : El E (.agg [(.i .i64), (.i .i64), (.i .i64), (.sl 50 4), (.i .i64), (.i .i64), .b, (.i .i64)]) el) : T26 9223372036854775807 el := by
  obtain ⟨cs, rfl, hs⟩ := h.agg
  obtain ⟨y0, c0, rfl, h0, hs⟩ := hs.out
  obtain ⟨y1, c1, rfl, h1, hs⟩ := hs.out
  obtain ⟨y2, c2, rfl, h2, hs⟩ := hs.out
  obtain ⟨y3, c3, rfl, h3, hs⟩ := hs.out
  obtain ⟨y4, c4, rfl, h4, hs⟩ := hs.out
  obtain ⟨y5, c5, rfl, h5, hs⟩ := hs.out
  obtain ⟨y6, c6, rfl, h6, hs⟩ := hs.out
  obtain ⟨y7, c7, rfl, h7, hs⟩ := hs.out
  obtain rfl := hs.end
  obtain ⟨a0, rfl, w0⟩ := h0.int
  obtain ⟨a1, rfl, w1⟩ := h1.int
  obtain ⟨a2, rfl, w2⟩ := h2.int
  obtain ⟨a3, rfl, w3, r3⟩ := h3.row (te := ⟨(.agg [(.i .i64), (.i .i64), .b, (.sl 9 1)]), 4, 48, 0, [(0, 2), (1, 2), (2, 4), (3, 48)]⟩) rfl
  obtain ⟨a4, rfl, w4⟩ := h4.int
  obtain ⟨a5, rfl, w5⟩ := h5.int
  obtain ⟨a6, rfl⟩ := h6.bool
  obtain ⟨a7, rfl, w7⟩ := h7.int
  exact ⟨a0, a1, a2, a3, a4, a5, a6, a7, rfl, wf_64 w0, wf_64 w1, wf_64 w2, ⟨w3, fun el hel => T50_of (r3 el hel)⟩, wf_64 w4, wf_64 w5, wf_64 w7, trivial⟩
theorem sz35 {l : List AV} (h : Rw (T9 9223372036854775807) 9223372036854775807 l) (left : Int) (h0 : 0 ≤ left) (h1 : left ≤ 1048576) : Sz (den E 35 [(.imm 1 l), (.i .i64 left)] []) left (Rw (T9 1048576) 1048576 l) := by
  have hl := h.1
  rw [f35_eq, w64 (by omega) (by omega)]
  refine Sz.c fun c => ?_
  refine ((sz_loop (L := fun left i => f35_l1 l left i) (n := l.length) (Pz := fun i => T9 1048576 (l.getD i .x)) ?_ ?_ l.length 0 _ (by omega) c (by omega)).mono (by omega) fun hq => Rw.mk (by omega) fun i hi => hq i (Nat.zero_le _) hi)
  · intro i left hi h0 h1
    obtain ⟨a0, he, w0, _⟩ := h.at hi
    try dsimp only
    rw [f35_l1_eq, dT (show (i : Int) < ((l.length : Nat) : Int) by omega), cond_true]
    rw [if_pos (by omega)]
    simp only [Int.toNat_natCast, he]
    rw [if_pos (by rfl), w64 (x := (i : Int) + 1) (by omega) (by omega)]
    simp only [cells_s, List.getD_cons_zero, toS_s]
    rw [w64 (x := left - ((a0.size : Nat) : Int)) (by omega) (by omega)]
    by_cases hc : left - ((a0.size : Nat) : Int) < 0
    · exact .inl ⟨-1, by decide, by simp only [hc, decide_true, cond_true]⟩
    · exact .inr ⟨left - ((a0.size : Nat) : Int), by omega, by omega, ⟨a0, by first | exact he | rfl, by omega, trivial⟩, by simp only [hc, decide_false, cond_false]⟩
  · intro left
    try dsimp only
    rw [f35_l1_eq, dF (Int.lt_irrefl _), cond_false]
theorem sz19 {el : AV} (h : T50 9223372036854775807 el) (left : Int) (h0 : 0 ≤ left) (h1 : left ≤ 1048576) : Sz (den E 19 [el, (.i .i64 left)] []) left (T50 1048576 el) := by
  obtain ⟨a0, a1, a2, a3, rfl, w0, w1, w3, _⟩ := h
  rw [f19_eq]
  refine Sz.call (sz35 w3 left (by omega) (by omega)) (by omega) (fun l1 c1 d1 q3 => ?_) (fun r hr => Sz.neg hr)
  simp only [AV.toI]
  refine Sz.c fun _ => ?_
  exact Sz.done (by omega) (by omega) ⟨a0, a1, a2, a3, rfl, w0, w1, q3, trivial⟩
theorem sz9 {l : List AV} (h : Rw (T50 9223372036854775807) 9223372036854775807 l) (left : Int) (h0 : 0 ≤ left) (h1 : left ≤ 1048576) : Sz (den E 9 [(.imm 4 l), (.i .i64 left)] []) left (Rw (T50 1048576) 1048576 l) := by
  have hl := h.1
  rw [f9_eq, w64 (by omega) (by omega)]
  refine Sz.c fun c => ?_
  refine ((sz_loop (L := fun left i => f9_l1 l left i) (n := l.length) (Pz := fun i => T50 1048576 (l.getD i .x)) ?_ ?_ l.length 0 _ (by omega) c (by omega)).mono (by omega) fun hq => Rw.mk (by omega) fun i hi => hq i (Nat.zero_le _) hi)
  · intro i left hi h0 h1
    have hT := h.at hi
    refine (sz19 hT left h0 h1).step (K := fun r => f9_l1 l r ((i : Int) + 1)) fun r hr => ?_
    obtain ⟨a0, a1, a2, a3, he, w0, w1, w3, _⟩ := hT
    rw [he] at hr
    try dsimp only
    rw [f9_l1_eq, dT (show (i : Int) < ((l.length : Nat) : Int) by omega), cond_true]
    rw [if_pos (by omega)]
    simp only [Int.toNat_natCast, he]
    rw [if_pos (by rfl), w64 (by omega) (by omega)]
    simp only [okC_nil, okC_agg, okC_i, okC_b, okC_s, okC_imm, okL_i, okL_b, okL_s, okL_sl, okS_i, okS_b, okS_s, okS_sl, okS_agg, okS_tup, okS_nil, okS_cons, cells_agg, cells_i, cells_b, cells_s, cells_imm, toI_i, toB_b, toS_s, toL_imm, nth_agg, nth_tup, put_agg, put_i, put_b, put_s, put_imm, setCells, List.getD_cons_zero, List.getD_cons_succ, bSh_b, bSh_i, bSh_s, bSh_sl, bSh_some, cond_true, cond_false, decide_true, decide_false, Int.toNat_natCast, Nat.zero_add, Nat.reduceAdd, beq_self_eq_true, Bool.and_true, Bool.true_and, if_true, Bool.false_eq_true, if_false, List.set_cons_zero, List.set_cons_succ, Bool.not_true, Bool.not_false, Bool.and_self, hr]
    try rfl
  · intro left
    try dsimp only
    rw [f9_l1_eq, dF (Int.lt_irrefl _), cond_false]
theorem sz4 {el : AV} (h : T26 9223372036854775807 el) (left : Int) (h0 : 0 ≤ left) (h1 : left ≤ 1048576) : Sz (den E 4 [el, (.i .i64 left)] []) left (T26 1048576 el) := by
  obtain ⟨a0, a1, a2, a3, a4, a5, a6, a7, rfl, w0, w1, w2, w3, w4, w5, w7, _⟩ := h
  rw [f4_eq]
  refine Sz.call (sz9 w3 left (by omega) (by omega)) (by omega) (fun l1 c1 d1 q3 => ?_) (fun r hr => Sz.neg hr)
  simp only [AV.toI]
  refine Sz.c fun _ => ?_
  exact Sz.done (by omega) (by omega) ⟨a0, a1, a2, a3, a4, a5, a6, a7, rfl, w0, w1, w2, q3, w4, w5, w7, trivial⟩
def T23 (B : Nat) (el : AV) : Prop := ∃ (a0 : Int) (a1 : Int) (a2 : Int), el = AV.agg [(.i .i64 a0), (.i .i64 a1), (.i .i64 a2)] ∧ W64 a0 ∧ W64 a1 ∧ W64 a2 ∧ True
theorem T23.eta {B : Nat} {el : AV} (h : T23 B el) : AV.agg [(.i .i64 (el.cells.getD 0 .x).toI), (.i .i64 (el.cells.getD 1 .x).toI), (.i .i64 (el.cells.getD 2 .x).toI)] = el := by obtain ⟨a0, a1, a2, rfl, _, _, _, _⟩ := h; rfl
theorem T23.ok {B : Nat} {el : AV} (h : T23 B el) : okCells false el 0 [(.i .i64), (.i .i64), (.i .i64)] = true := by obtain ⟨a0, a1, a2, rfl, _, _, _, _⟩ := h; rfl
theorem T23.ok0 {B : Nat} {el : AV} (h : T23 B el) : okCells false el 0 [(.i .i64)] = true := by obtain ⟨a0, a1, a2, rfl, _, _, _, _⟩ := h; rfl
theorem T23.ok1 {B : Nat} {el : AV} (h : T23 B el) : okCells false el 1 [(.i .i64)] = true := by obtain ⟨a0, a1, a2, rfl, _, _, _, _⟩ := h; rfl
theorem T23.ok2 {B : Nat} {el : AV} (h : T23 B el) : okCells false el 2 [(.i .i64)] = true := by obtain ⟨a0, a1, a2, rfl, _, _, _, _⟩ := h; rfl
theorem T23_of {el : AV} (h : El E (.agg [(.i .i64), (.i .i64), (.i .i64)]) el) : T23 9223372036854775807 el := by
  obtain ⟨cs, rfl, hs⟩ := h.agg
  obtain ⟨y0, c0, rfl, h0, hs⟩ := hs.out
  obtain ⟨y1, c1, rfl, h1, hs⟩ := hs.out
  obtain ⟨y2, c2, rfl, h2, hs⟩ := hs.out
  obtain rfl := hs.end
  obtain ⟨a0, rfl, w0⟩ := h0.int
  obtain ⟨a1, rfl, w1⟩ := h1.int
  obtain ⟨a2, rfl, w2⟩ := h2.int
  exact ⟨a0, a1, a2, rfl, wf_64 w0, wf_64 w1, wf_64 w2, trivial⟩
theorem to13 {el : AV} (h : T23 1048576 el) : den E 13 [el] [] = some el := by
  obtain ⟨a0, a1, a2, rfl, w0, w1, w2, _⟩ := h
  rw [f13_eq]
theorem to37 {l : List AV} (h : Rw (T9 1048576) 1048576 l) : den E 37 [(.imm 1 l)] [] = some (.imm 1 l) := by
  have hl := h.1
  rw [f37_eq, if_pos (by simp only [room]; omega), Int.toNat_natCast]
  refine to_loop (L := fun i ys => f37_l1 l i [] ys) (fun i ys hi hy hz => ?_) fun ys hy => ?_
  · have hT := h.at hi
    obtain ⟨a0, he, w0, _⟩ := h.at hi
    rw [he] at hT
    try dsimp only
    rw [f37_l1_eq, dT (show (i : Int) < ((l.length : Nat) : Int) by omega), cond_true]
    rw [if_pos (by omega)]
    simp only [Int.toNat_natCast, Nat.zero_add, he, hz]
    rw [if_pos (by rfl)]
    rw [if_pos (by omega), w64 (by omega) (by omega)]
    try simp only [okC_nil, okC_agg, okC_i, okC_b, okC_s, okC_imm, okL_i, okL_b, okL_s, okL_sl, okS_i, okS_b, okS_s, okS_sl, okS_agg, okS_tup, okS_nil, okS_cons, cells_agg, cells_i, cells_b, cells_s, cells_imm, toI_i, toB_b, toS_s, toL_imm, nth_agg, nth_tup, put_agg, put_i, put_b, put_s, put_imm, setCells, List.getD_cons_zero, List.getD_cons_succ, bSh_b, bSh_i, bSh_s, bSh_sl, bSh_some, cond_true, cond_false, decide_true, decide_false, Int.toNat_natCast, Nat.zero_add, Nat.reduceAdd, beq_self_eq_true, Bool.and_true, Bool.true_and, if_true, Bool.false_eq_true, if_false, List.set_cons_zero, List.set_cons_succ, Bool.not_true, Bool.not_false, Bool.and_self]
    try rfl
  · try dsimp only
    rw [f37_l1_eq, dF (Int.lt_irrefl _), cond_false]
theorem to25 {el : AV} (h : T50 1048576 el) : den E 25 [el] [] = some el := by
  obtain ⟨a0, a1, a2, a3, rfl, w0, w1, w3, _⟩ := h
  rw [f25_eq]
  simp only [okC_nil, okC_agg, okC_i, okC_b, okC_s, okC_imm, okL_i, okL_b, okL_s, okL_sl, okS_i, okS_b, okS_s, okS_sl, okS_agg, okS_tup, okS_nil, okS_cons, cells_agg, cells_i, cells_b, cells_s, cells_imm, toI_i, toB_b, toS_s, toL_imm, nth_agg, nth_tup, put_agg, put_i, put_b, put_s, put_imm, setCells, List.getD_cons_zero, List.getD_cons_succ, bSh_b, bSh_i, bSh_s, bSh_sl, bSh_some, cond_true, cond_false, decide_true, decide_false, Int.toNat_natCast, Nat.zero_add, Nat.reduceAdd, beq_self_eq_true, Bool.and_true, Bool.true_and, if_true, Bool.false_eq_true, if_false, List.set_cons_zero, List.set_cons_succ, Bool.not_true, Bool.not_false, Bool.and_self, to37 w3]
theorem to14 {l : List AV} (h : Rw (T50 1048576) 1048576 l) : den E 14 [(.imm 4 l)] [] = some (.imm 4 l) := by
  have hl := h.1
  rw [f14_eq, if_pos (by simp only [room]; omega), Int.toNat_natCast]
  refine to_loop (L := fun i ys => f14_l1 l i [] ys) (fun i ys hi hy hz => ?_) fun ys hy => ?_
  · have hT := h.at hi
    obtain ⟨a0, a1, a2, a3, he, w0, w1, w3, _⟩ := h.at hi
    rw [he] at hT
    try dsimp only
    rw [f14_l1_eq, dT (show (i : Int) < ((l.length : Nat) : Int) by omega), cond_true]
    rw [if_pos (by omega)]
    simp only [Int.toNat_natCast, Nat.zero_add, he, hz]
    rw [if_pos (by rfl)]
    simp only [okC_nil, okC_agg, okC_i, okC_b, okC_s, okC_imm, okL_i, okL_b, okL_s, okL_sl, okS_i, okS_b, okS_s, okS_sl, okS_agg, okS_tup, okS_nil, okS_cons, cells_agg, cells_i, cells_b, cells_s, cells_imm, toI_i, toB_b, toS_s, toL_imm, nth_agg, nth_tup, put_agg, put_i, put_b, put_s, put_imm, setCells, List.getD_cons_zero, List.getD_cons_succ, bSh_b, bSh_i, bSh_s, bSh_sl, bSh_some, cond_true, cond_false, decide_true, decide_false, Int.toNat_natCast, Nat.zero_add, Nat.reduceAdd, beq_self_eq_true, Bool.and_true, Bool.true_and, if_true, Bool.false_eq_true, if_false, List.set_cons_zero, List.set_cons_succ, Bool.not_true, Bool.not_false, Bool.and_self, to25 hT]
    rw [if_pos (by omega), w64 (by omega) (by omega)]
    try simp only [okC_nil, okC_agg, okC_i, okC_b, okC_s, okC_imm, okL_i, okL_b, okL_s, okL_sl, okS_i, okS_b, okS_s, okS_sl, okS_agg, okS_tup, okS_nil, okS_cons, cells_agg, cells_i, cells_b, cells_s, cells_imm, toI_i, toB_b, toS_s, toL_imm, nth_agg, nth_tup, put_agg, put_i, put_b, put_s, put_imm, setCells, List.getD_cons_zero, List.getD_cons_succ, bSh_b, bSh_i, bSh_s, bSh_sl, bSh_some, cond_true, cond_false, decide_true, decide_false, Int.toNat_natCast, Nat.zero_add, Nat.reduceAdd, beq_self_eq_true, Bool.and_true, Bool.true_and, if_true, Bool.false_eq_true, if_false, List.set_cons_zero, List.set_cons_succ, Bool.not_true, Bool.not_false, Bool.and_self]
    try rfl
  · try dsimp only
    rw [f14_l1_eq, dF (Int.lt_irrefl _), cond_false]
theorem to6 {el : AV} (h : T26 1048576 el) : den E 6 [el] [] = some el := by
  obtain ⟨a0, a1, a2, a3, a4, a5, a6, a7, rfl, w0, w1, w2, w3, w4, w5, w7, _⟩ := h
  rw [f6_eq]
  simp only [okC_nil, okC_agg, okC_i, okC_b, okC_s, okC_imm, okL_i, okL_b, okL_s, okL_sl, okS_i, okS_b, okS_s, okS_sl, okS_agg, okS_tup, okS_nil, okS_cons, cells_agg, cells_i, cells_b, cells_s, cells_imm, toI_i, toB_b, toS_s, toL_imm, nth_agg, nth_tup, put_agg, put_i, put_b, put_s, put_imm, setCells, List.getD_cons_zero, List.getD_cons_succ, bSh_b, bSh_i, bSh_s, bSh_sl, bSh_some, cond_true, cond_false, decide_true, decide_false, Int.toNat_natCast, Nat.zero_add, Nat.reduceAdd, beq_self_eq_true, Bool.and_true, Bool.true_and, if_true, Bool.false_eq_true, if_false, List.set_cons_zero, List.set_cons_succ, Bool.not_true, Bool.not_false, Bool.and_self, to14 w3, to13 (el := .agg [(.i .i64 a0), (.i .i64 a1), (.i .i64 a2)]) ⟨a0, a1, a2, rfl, w0, w1, w2, trivial⟩]
theorem eq17 {el : AV} (h : T23 1048576 el) : den E 17 [el, el] [] = some (.b true) := by
  obtain ⟨a0, a1, a2, rfl, w0, w1, w2, _⟩ := h
  rw [f17_eq]
  simp only [okC_nil, okC_agg, okC_i, okC_b, okC_s, okC_imm, okL_i, okL_b, okL_s, okL_sl, okS_i, okS_b, okS_s, okS_sl, okS_agg, okS_tup, okS_nil, okS_cons, cells_agg, cells_i, cells_b, cells_s, cells_imm, toI_i, toB_b, toS_s, toL_imm, nth_agg, nth_tup, put_agg, put_i, put_b, put_s, put_imm, setCells, List.getD_cons_zero, List.getD_cons_succ, bSh_b, bSh_i, bSh_s, bSh_sl, bSh_some, cond_true, cond_false, decide_true, decide_false, Int.toNat_natCast, Nat.zero_add, Nat.reduceAdd, beq_self_eq_true, Bool.and_true, Bool.true_and, if_true, Bool.false_eq_true, if_false, List.set_cons_zero, List.set_cons_succ, Bool.not_true, Bool.not_false, Bool.and_self]
theorem eq41 {l : List AV} (h : Rw (T9 1048576) 1048576 l) : den E 41 [(.imm 1 l), (.imm 1 l)] [] = some (.b true) := by
  have hl := h.1
  rw [f41_eq]
  simp only [decide_true, Bool.not_true, cond_false]
  refine eq_loop (L := fun i => f41_l1 l l i) (n := l.length) (fun i hi => ?_) ?_
  · have hT := h.at hi
    obtain ⟨a0, he, w0, _⟩ := h.at hi
    rw [he] at hT
    try dsimp only
    rw [f41_l1_eq, dT (show (i : Int) < ((l.length : Nat) : Int) by omega), cond_true]
    rw [if_pos (by omega)]
    simp only [Int.toNat_natCast, he]
    rw [if_pos (by rfl), if_pos (by omega), if_pos (by rfl), w64 (by omega) (by omega)]
    simp only [okC_nil, okC_agg, okC_i, okC_b, okC_s, okC_imm, okL_i, okL_b, okL_s, okL_sl, okS_i, okS_b, okS_s, okS_sl, okS_agg, okS_tup, okS_nil, okS_cons, cells_agg, cells_i, cells_b, cells_s, cells_imm, toI_i, toB_b, toS_s, toL_imm, nth_agg, nth_tup, put_agg, put_i, put_b, put_s, put_imm, setCells, List.getD_cons_zero, List.getD_cons_succ, bSh_b, bSh_i, bSh_s, bSh_sl, bSh_some, cond_true, cond_false, decide_true, decide_false, Int.toNat_natCast, Nat.zero_add, Nat.reduceAdd, beq_self_eq_true, Bool.and_true, Bool.true_and, if_true, Bool.false_eq_true, if_false, List.set_cons_zero, List.set_cons_succ, Bool.not_true, Bool.not_false, Bool.and_self]
  · try dsimp only
    rw [f41_l1_eq, dF (Int.lt_irrefl _), cond_false]
theorem eq34 {el : AV} (h : T50 1048576 el) : den E 34 [el, el] [] = some (.b true) := by
  obtain ⟨a0, a1, a2, a3, rfl, w0, w1, w3, _⟩ := h
  rw [f34_eq]
  simp only [okC_nil, okC_agg, okC_i, okC_b, okC_s, okC_imm, okL_i, okL_b, okL_s, okL_sl, okS_i, okS_b, okS_s, okS_sl, okS_agg, okS_tup, okS_nil, okS_cons, cells_agg, cells_i, cells_b, cells_s, cells_imm, toI_i, toB_b, toS_s, toL_imm, nth_agg, nth_tup, put_agg, put_i, put_b, put_s, put_imm, setCells, List.getD_cons_zero, List.getD_cons_succ, bSh_b, bSh_i, bSh_s, bSh_sl, bSh_some, cond_true, cond_false, decide_true, decide_false, Int.toNat_natCast, Nat.zero_add, Nat.reduceAdd, beq_self_eq_true, Bool.and_true, Bool.true_and, if_true, Bool.false_eq_true, if_false, List.set_cons_zero, List.set_cons_succ, Bool.not_true, Bool.not_false, Bool.and_self, eq41 w3]
theorem eq18 {l : List AV} (h : Rw (T50 1048576) 1048576 l) : den E 18 [(.imm 4 l), (.imm 4 l)] [] = some (.b true) := by
  have hl := h.1
  rw [f18_eq]
  simp only [decide_true, Bool.not_true, cond_false]
  refine eq_loop (L := fun i => f18_l1 l l i) (n := l.length) (fun i hi => ?_) ?_
  · have hT := h.at hi
    obtain ⟨a0, a1, a2, a3, he, w0, w1, w3, _⟩ := h.at hi
    rw [he] at hT
    try dsimp only
    rw [f18_l1_eq, dT (show (i : Int) < ((l.length : Nat) : Int) by omega), cond_true]
    rw [if_pos (by omega)]
    simp only [Int.toNat_natCast, he]
    rw [if_pos (by rfl), if_pos (by omega), if_pos (by rfl), w64 (by omega) (by omega)]
    simp only [okC_nil, okC_agg, okC_i, okC_b, okC_s, okC_imm, okL_i, okL_b, okL_s, okL_sl, okS_i, okS_b, okS_s, okS_sl, okS_agg, okS_tup, okS_nil, okS_cons, cells_agg, cells_i, cells_b, cells_s, cells_imm, toI_i, toB_b, toS_s, toL_imm, nth_agg, nth_tup, put_agg, put_i, put_b, put_s, put_imm, setCells, List.getD_cons_zero, List.getD_cons_succ, bSh_b, bSh_i, bSh_s, bSh_sl, bSh_some, cond_true, cond_false, decide_true, decide_false, Int.toNat_natCast, Nat.zero_add, Nat.reduceAdd, beq_self_eq_true, Bool.and_true, Bool.true_and, if_true, Bool.false_eq_true, if_false, List.set_cons_zero, List.set_cons_succ, Bool.not_true, Bool.not_false, Bool.and_self, eq34 hT]
  · try dsimp only
    rw [f18_l1_eq, dF (Int.lt_irrefl _), cond_false]
theorem eq8 {el : AV} (h : T26 1048576 el) : den E 8 [el, el] [] = some (.b true) := by
  obtain ⟨a0, a1, a2, a3, a4, a5, a6, a7, rfl, w0, w1, w2, w3, w4, w5, w7, _⟩ := h
  rw [f8_eq]
  simp only [okC_nil, okC_agg, okC_i, okC_b, okC_s, okC_imm, okL_i, okL_b, okL_s, okL_sl, okS_i, okS_b, okS_s, okS_sl, okS_agg, okS_tup, okS_nil, okS_cons, cells_agg, cells_i, cells_b, cells_s, cells_imm, toI_i, toB_b, toS_s, toL_imm, nth_agg, nth_tup, put_agg, put_i, put_b, put_s, put_imm, setCells, List.getD_cons_zero, List.getD_cons_succ, bSh_b, bSh_i, bSh_s, bSh_sl, bSh_some, cond_true, cond_false, decide_true, decide_false, Int.toNat_natCast, Nat.zero_add, Nat.reduceAdd, beq_self_eq_true, Bool.and_true, Bool.true_and, if_true, Bool.false_eq_true, if_false, List.set_cons_zero, List.set_cons_succ, Bool.not_true, Bool.not_false, Bool.and_self, eq18 w3, eq17 (el := .agg [(.i .i64 a0), (.i .i64 a1), (.i .i64 a2)]) ⟨a0, a1, a2, rfl, w0, w1, w2, trivial⟩]
end Go.Proofs.Ytmoooblndcjeoaa.IReadRaw
