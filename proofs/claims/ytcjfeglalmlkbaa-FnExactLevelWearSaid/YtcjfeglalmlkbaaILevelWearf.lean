/- Printed by a program of this work (wip/it/itf.py): typed trees; the families sz, to, eq. No condition beyond what each theorem states. -/
import Derived.Test.YtcjfeglalmlkbaaILevelWearx
import Derived.Test.YtcjfeglalmlkbaaIt2
namespace Go.Proofs.Ytcjfeglalmlkbaa.ILevelWear
open Go Go.Proofs.YtcjfeglalmlkbaaIT
set_option linter.unusedVariables false
set_option linter.unusedSimpArgs false
def T2 (B : Nat) (el : AV) : Prop := ∃ (a0 : Int), el = AV.i .i64 a0 ∧ W64 a0 ∧ True
theorem T2.eta {B : Nat} {el : AV} (h : T2 B el) : AV.i .i64 (el.cells.getD 0 .x).toI = el := by obtain ⟨a0, rfl, _, _⟩ := h; rfl
theorem T2.ok {B : Nat} {el : AV} (h : T2 B el) : okCells false el 0 [(.i .i64)] = true := by obtain ⟨a0, rfl, _, _⟩ := h; rfl
theorem T2_of {el : AV} (h : El E (.i .i64) el) : T2 9223372036854775807 el := by
  have h0 : WL E (.i .i64) el := El.leaf rfl (fun _ => rfl) h
  obtain ⟨a0, rfl, w0⟩ := h0.int
  exact ⟨a0, rfl, wf_64 w0, trivial⟩
def T4 (B : Nat) (el : AV) : Prop := ∃ (a0 : Bool), el = AV.b a0 ∧ True
theorem T4.eta {B : Nat} {el : AV} (h : T4 B el) : AV.b (el.cells.getD 0 .x).toB = el := by obtain ⟨a0, rfl, _⟩ := h; rfl
theorem T4.ok {B : Nat} {el : AV} (h : T4 B el) : okCells false el 0 [.b] = true := by obtain ⟨a0, rfl, _⟩ := h; rfl
theorem T4_of {el : AV} (h : El E .b el) : T4 9223372036854775807 el := by
  have h0 : WL E .b el := El.leaf rfl (fun _ => rfl) h
  obtain ⟨a0, rfl⟩ := h0.bool
  exact ⟨a0, rfl, trivial⟩
def T50 (B : Nat) (el : AV) : Prop := ∃ (a0 : List AV) (a1 : List AV) (a2 : List AV) (a3 : Int), el = AV.agg [(.imm 1 a0), (.imm 1 a1), (.imm 1 a2), (.i .i64 a3)] ∧ Rw (T2 B) B a0 ∧ Rw (T4 B) B a1 ∧ Rw (T2 B) B a2 ∧ W64 a3 ∧ True
theorem T50.eta {B : Nat} {el : AV} (h : T50 B el) : AV.agg [(.imm 1 (el.cells.getD 0 .x).toL), (.imm 1 (el.cells.getD 1 .x).toL), (.imm 1 (el.cells.getD 2 .x).toL), (.i .i64 (el.cells.getD 3 .x).toI)] = el := by obtain ⟨a0, a1, a2, a3, rfl, _, _, _, _, _⟩ := h; rfl
theorem T50.ok {B : Nat} {el : AV} (h : T50 B el) : okCells false el 0 [(.sl 2 1), (.sl 4 1), (.sl 2 1), (.i .i64)] = true := by obtain ⟨a0, a1, a2, a3, rfl, _, _, _, _, _⟩ := h; rfl
theorem T50.ok0 {B : Nat} {el : AV} (h : T50 B el) : okCells false el 0 [(.sl 2 1)] = true := by obtain ⟨a0, a1, a2, a3, rfl, _, _, _, _, _⟩ := h; rfl
theorem T50.ok1 {B : Nat} {el : AV} (h : T50 B el) : okCells false el 1 [(.sl 4 1)] = true := by obtain ⟨a0, a1, a2, a3, rfl, _, _, _, _, _⟩ := h; rfl
theorem T50.ok2 {B : Nat} {el : AV} (h : T50 B el) : okCells false el 2 [(.sl 2 1)] = true := by obtain ⟨a0, a1, a2, a3, rfl, _, _, _, _, _⟩ := h; rfl
theorem T50.ok3 {B : Nat} {el : AV} (h : T50 B el) : okCells false el 3 [(.i .i64)] = true := by obtain ⟨a0, a1, a2, a3, rfl, _, _, _, _, _⟩ := h; rfl
theorem T50_of {el : AV} (h : El E (.agg [(.sl 2 1), (.sl 4 1), (.sl 2 1), (.i .i64)]) el) : T50 9223372036854775807 el := by
  obtain ⟨cs, rfl, hs⟩ := h.agg
  obtain ⟨y0, c0, rfl, h0, hs⟩ := hs.out
  obtain ⟨y1, c1, rfl, h1, hs⟩ := hs.out
  obtain ⟨y2, c2, rfl, h2, hs⟩ := hs.out
  obtain ⟨y3, c3, rfl, h3, hs⟩ := hs.out
  obtain rfl := hs.end
  obtain ⟨a0, rfl, w0, r0⟩ := h0.row (te := ⟨(.i .i64), 1, 8, 0, []⟩) rfl
  obtain ⟨a1, rfl, w1, r1⟩ := h1.row (te := ⟨.b, 1, 1, 0, []⟩) rfl
  obtain ⟨a2, rfl, w2, r2⟩ := h2.row (te := ⟨(.i .i64), 1, 8, 0, []⟩) rfl
  obtain ⟨a3, rfl, w3⟩ := h3.int
  exact ⟨a0, a1, a2, a3, rfl, ⟨w0, fun el hel => T2_of (r0 el hel)⟩, ⟨w1, fun el hel => T4_of (r1 el hel)⟩, ⟨w2, fun el hel => T2_of (r2 el hel)⟩, wf_64 w3, trivial⟩
theorem sz85 {l : List AV} (h : Rw (T2 9223372036854775807) 9223372036854775807 l) (left : Int) (h0 : 0 ≤ left) (h1 : left ≤ 1048576) : Sz (den E 85 [(.imm 1 l), (.i .i64 left)] []) left (Rw (T2 1048576) 1048576 l) := by
  have hl := h.1
  rw [f85_eq, w64 (by omega) (by omega)]
  refine Sz.c fun c => ?_
  exact Sz.done c (by omega) ⟨by omega, fun y hy => by obtain ⟨a0, rfl, w0, _⟩ := h.2 y hy; exact ⟨a0, rfl, w0, trivial⟩⟩
theorem sz86 {l : List AV} (h : Rw (T4 9223372036854775807) 9223372036854775807 l) (left : Int) (h0 : 0 ≤ left) (h1 : left ≤ 1048576) : Sz (den E 86 [(.imm 1 l), (.i .i64 left)] []) left (Rw (T4 1048576) 1048576 l) := by
  have hl := h.1
  rw [f86_eq, w64 (by omega) (by omega)]
  refine Sz.c fun c => ?_
  exact Sz.done c (by omega) ⟨by omega, fun y hy => by obtain ⟨a0, rfl, _⟩ := h.2 y hy; exact ⟨a0, rfl, trivial⟩⟩
theorem sz30 {el : AV} (h : T50 9223372036854775807 el) (left : Int) (h0 : 0 ≤ left) (h1 : left ≤ 1048576) : Sz (den E 30 [el, (.i .i64 left)] []) left (T50 1048576 el) := by
  obtain ⟨a0, a1, a2, a3, rfl, w0, w1, w2, w3, _⟩ := h
  rw [f30_eq]
  refine Sz.call (sz85 w0 left (by omega) (by omega)) (by omega) (fun l1 c1 d1 q0 => ?_) (fun r hr => Sz.neg hr)
  simp only [AV.toI]
  refine Sz.c fun _ => ?_
  refine Sz.call (sz86 w1 l1 (by omega) (by omega)) (by omega) (fun l2 c2 d2 q1 => ?_) (fun r hr => Sz.neg hr)
  simp only [AV.toI]
  refine Sz.c fun _ => ?_
  refine Sz.call (sz85 w2 l2 (by omega) (by omega)) (by omega) (fun l3 c3 d3 q2 => ?_) (fun r hr => Sz.neg hr)
  simp only [AV.toI]
  refine Sz.c fun _ => ?_
  exact Sz.done (by omega) (by omega) ⟨a0, a1, a2, a3, rfl, q0, q1, q2, w3, trivial⟩
theorem eq96 {l : List AV} (h : Rw (T2 1048576) 1048576 l) : den E 96 [(.imm 1 l), (.imm 1 l)] [] = some (.b true) := by
  have hl := h.1
  rw [f96_eq]
  simp only [decide_true, Bool.not_true, cond_false]
  refine eq_loop (L := fun i => f96_l1 l l i) (n := l.length) (fun i hi => ?_) ?_
  · have hT := h.at hi
    obtain ⟨a0, he, w0, _⟩ := h.at hi
    rw [he] at hT
    try dsimp only
    rw [f96_l1_eq, dT (show (i : Int) < ((l.length : Nat) : Int) by omega), cond_true]
    rw [if_pos (by omega)]
    simp only [Int.toNat_natCast, he]
    rw [if_pos (by rfl), if_pos (by omega), if_pos (by rfl), w64 (by omega) (by omega)]
    simp only [okC_nil, okC_agg, okC_i, okC_b, okC_s, okC_imm, okL_i, okL_b, okL_s, okL_sl, okS_i, okS_b, okS_s, okS_sl, okS_agg, okS_tup, okS_nil, okS_cons, cells_agg, cells_i, cells_b, cells_s, cells_imm, toI_i, toB_b, toS_s, toL_imm, nth_agg, nth_tup, put_agg, put_i, put_b, put_s, put_imm, setCells, List.getD_cons_zero, List.getD_cons_succ, bSh_b, bSh_i, bSh_s, bSh_sl, bSh_some, cond_true, cond_false, decide_true, decide_false, Int.toNat_natCast, Nat.zero_add, Nat.reduceAdd, beq_self_eq_true, Bool.and_true, Bool.true_and, if_true, Bool.false_eq_true, if_false, List.set_cons_zero, List.set_cons_succ, Bool.not_true, Bool.not_false, Bool.and_self]
  · try dsimp only
    rw [f96_l1_eq, dF (Int.lt_irrefl _), cond_false]
theorem eq97 {l : List AV} (h : Rw (T4 1048576) 1048576 l) : den E 97 [(.imm 1 l), (.imm 1 l)] [] = some (.b true) := by
  have hl := h.1
  rw [f97_eq]
  simp only [decide_true, Bool.not_true, cond_false]
  refine eq_loop (L := fun i => f97_l1 l l i) (n := l.length) (fun i hi => ?_) ?_
  · have hT := h.at hi
    obtain ⟨a0, he, _⟩ := h.at hi
    rw [he] at hT
    try dsimp only
    rw [f97_l1_eq, dT (show (i : Int) < ((l.length : Nat) : Int) by omega), cond_true]
    rw [if_pos (by omega)]
    simp only [Int.toNat_natCast, he]
    rw [if_pos (by rfl), if_pos (by omega), if_pos (by rfl), w64 (by omega) (by omega)]
    simp only [okC_nil, okC_agg, okC_i, okC_b, okC_s, okC_imm, okL_i, okL_b, okL_s, okL_sl, okS_i, okS_b, okS_s, okS_sl, okS_agg, okS_tup, okS_nil, okS_cons, cells_agg, cells_i, cells_b, cells_s, cells_imm, toI_i, toB_b, toS_s, toL_imm, nth_agg, nth_tup, put_agg, put_i, put_b, put_s, put_imm, setCells, List.getD_cons_zero, List.getD_cons_succ, bSh_b, bSh_i, bSh_s, bSh_sl, bSh_some, cond_true, cond_false, decide_true, decide_false, Int.toNat_natCast, Nat.zero_add, Nat.reduceAdd, beq_self_eq_true, Bool.and_true, Bool.true_and, if_true, Bool.false_eq_true, if_false, List.set_cons_zero, List.set_cons_succ, Bool.not_true, Bool.not_false, Bool.and_self]
  · try dsimp only
    rw [f97_l1_eq, dF (Int.lt_irrefl _), cond_false]
theorem eq34 {el : AV} (h : T50 1048576 el) : den E 34 [el, el] [] = some (.b true) := by
  obtain ⟨a0, a1, a2, a3, rfl, w0, w1, w2, w3, _⟩ := h
  rw [f34_eq]
  simp only [okC_nil, okC_agg, okC_i, okC_b, okC_s, okC_imm, okL_i, okL_b, okL_s, okL_sl, okS_i, okS_b, okS_s, okS_sl, okS_agg, okS_tup, okS_nil, okS_cons, cells_agg, cells_i, cells_b, cells_s, cells_imm, toI_i, toB_b, toS_s, toL_imm, nth_agg, nth_tup, put_agg, put_i, put_b, put_s, put_imm, setCells, List.getD_cons_zero, List.getD_cons_succ, bSh_b, bSh_i, bSh_s, bSh_sl, bSh_some, cond_true, cond_false, decide_true, decide_false, Int.toNat_natCast, Nat.zero_add, Nat.reduceAdd, beq_self_eq_true, Bool.and_true, Bool.true_and, if_true, Bool.false_eq_true, if_false, List.set_cons_zero, List.set_cons_succ, Bool.not_true, Bool.not_false, Bool.and_self, eq96 w0, eq97 w1, eq96 w2]
end Go.Proofs.Ytcjfeglalmlkbaa.ILevelWear
