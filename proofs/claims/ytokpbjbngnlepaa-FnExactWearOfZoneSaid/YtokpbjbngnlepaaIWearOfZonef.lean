/- Printed by a program of this work (wip/it/itf.py): typed trees; the families sz, to, eq. No condition beyond what each theorem states. -/
import Derived.Test.YtokpbjbngnlepaaIWearOfZonex
import Derived.Test.YtokpbjbngnlepaaIt2
namespace Go.Proofs.Ytokpbjbngnlepaa.IWearOfZone
open Go Go.Proofs.YtokpbjbngnlepaaIT
set_option linter.unusedVariables false
set_option linter.unusedSimpArgs false
def T9 (B : Nat) (el : AV) : Prop := ∃ (a0 : ByteArray), el = AV.s a0 ∧ a0.size ≤ B ∧ True
theorem T9.eta {B : Nat} {el : AV} (h : T9 B el) : AV.s (el.cells.getD 0 .x).toS = el := by obtain ⟨a0, rfl, _, _⟩ := h; rfl
theorem T9.ok {B : Nat} {el : AV} (h : T9 B el) : okCells false el 0 [.s] = true := by obtain ⟨a0, rfl, _, _⟩ := h; rfl
theorem T9_of {el : AV} (h : El E .s el) : T9 9223372036854775807 el := by
  have h0 : WL E .s el := El.leaf rfl (fun _ => rfl) h
  obtain ⟨a0, rfl, w0⟩ := h0.str
  exact ⟨a0, rfl, w0, trivial⟩
def T159 (B : Nat) (el : AV) : Prop := ∃ (a0 : Int) (a1 : Int) (a2 : Bool) (a3 : List AV), el = AV.agg [(.i .i64 a0), (.i .i64 a1), (.b a2), (.imm 1 a3)] ∧ W64 a0 ∧ W64 a1 ∧ Rw (T9 B) B a3 ∧ True
theorem T159.eta {B : Nat} {el : AV} (h : T159 B el) : AV.agg [(.i .i64 (el.cells.getD 0 .x).toI), (.i .i64 (el.cells.getD 1 .x).toI), (.b (el.cells.getD 2 .x).toB), (.imm 1 (el.cells.getD 3 .x).toL)] = el := by obtain ⟨a0, a1, a2, a3, rfl, _, _, _, _⟩ := h; rfl
theorem T159.ok {B : Nat} {el : AV} (h : T159 B el) : okCells false el 0 [(.i .i64), (.i .i64), .b, (.sl 9 1)] = true := by obtain ⟨a0, a1, a2, a3, rfl, _, _, _, _⟩ := h; rfl
theorem T159.ok0 {B : Nat} {el : AV} (h : T159 B el) : okCells false el 0 [(.i .i64)] = true := by obtain ⟨a0, a1, a2, a3, rfl, _, _, _, _⟩ := h; rfl
theorem T159.ok1 {B : Nat} {el : AV} (h : T159 B el) : okCells false el 1 [(.i .i64)] = true := by obtain ⟨a0, a1, a2, a3, rfl, _, _, _, _⟩ := h; rfl
theorem T159.ok2 {B : Nat} {el : AV} (h : T159 B el) : okCells false el 2 [.b] = true := by obtain ⟨a0, a1, a2, a3, rfl, _, _, _, _⟩ := h; rfl
theorem T159.ok3 {B : Nat} {el : AV} (h : T159 B el) : okCells false el 3 [(.sl 9 1)] = true := by obtain ⟨a0, a1, a2, a3, rfl, _, _, _, _⟩ := h; rfl
theorem T159_of {el : AV} (h : El E (.agg [(.i .i64), (.i .i64), .b, (.sl 9 1)]) el) : T159 9223372036854775807 el := by
  obtain ⟨cs, rfl, hs⟩ := h.agg
  obtain ⟨y0, c0, rfl, h0, hs⟩ := hs.out
  obtain ⟨y1, c1, rfl, h1, hs⟩ := hs.out
  obtain ⟨y2, c2, rfl, h2, hs⟩ := hs.out
  obtain ⟨y3, c3, rfl, h3, hs⟩ := hs.out
  obtain rfl := hs.end
  obtain ⟨a0, rfl, w0⟩ := h0.int
  obtain ⟨a1, rfl, w1⟩ := h1.int
  obtain ⟨a2, rfl⟩ := h2.bool
  obtain ⟨a3, rfl, w3, r3⟩ := h3.row (te := ⟨.s, 1, 16, 0, []⟩) rfl
  exact ⟨a0, a1, a2, a3, rfl, wf_64 w0, wf_64 w1, ⟨w3, fun el hel => T9_of (r3 el hel)⟩, trivial⟩
def T2 (B : Nat) (el : AV) : Prop := ∃ (a0 : Int), el = AV.i .i64 a0 ∧ W64 a0 ∧ True
theorem T2.eta {B : Nat} {el : AV} (h : T2 B el) : AV.i .i64 (el.cells.getD 0 .x).toI = el := by obtain ⟨a0, rfl, _, _⟩ := h; rfl
theorem T2.ok {B : Nat} {el : AV} (h : T2 B el) : okCells false el 0 [(.i .i64)] = true := by obtain ⟨a0, rfl, _, _⟩ := h; rfl
theorem T2_of {el : AV} (h : El E (.i .i64) el) : T2 9223372036854775807 el := by
  have h0 : WL E (.i .i64) el := El.leaf rfl (fun _ => rfl) h
  obtain ⟨a0, rfl, w0⟩ := h0.int
  exact ⟨a0, rfl, wf_64 w0, trivial⟩
def T121 (B : Nat) (el : AV) : Prop := ∃ (a0 : Int) (a1 : List AV) (a2 : Int) (a3 : Int) (a4 : List AV) (a5 : List AV), el = AV.agg [(.i .i64 a0), (.imm 1 a1), (.i .i64 a2), (.i .i64 a3), (.imm 1 a4), (.imm 1 a5)] ∧ W64 a0 ∧ Rw (T2 B) B a1 ∧ W64 a2 ∧ W64 a3 ∧ Rw (T2 B) B a4 ∧ Rw (T9 B) B a5 ∧ True
theorem T121.eta {B : Nat} {el : AV} (h : T121 B el) : AV.agg [(.i .i64 (el.cells.getD 0 .x).toI), (.imm 1 (el.cells.getD 1 .x).toL), (.i .i64 (el.cells.getD 2 .x).toI), (.i .i64 (el.cells.getD 3 .x).toI), (.imm 1 (el.cells.getD 4 .x).toL), (.imm 1 (el.cells.getD 5 .x).toL)] = el := by obtain ⟨a0, a1, a2, a3, a4, a5, rfl, _, _, _, _, _, _, _⟩ := h; rfl
theorem T121.ok {B : Nat} {el : AV} (h : T121 B el) : okCells false el 0 [(.i .i64), (.sl 2 1), (.i .i64), (.i .i64), (.sl 2 1), (.sl 9 1)] = true := by obtain ⟨a0, a1, a2, a3, a4, a5, rfl, _, _, _, _, _, _, _⟩ := h; rfl
theorem T121.ok0 {B : Nat} {el : AV} (h : T121 B el) : okCells false el 0 [(.i .i64)] = true := by obtain ⟨a0, a1, a2, a3, a4, a5, rfl, _, _, _, _, _, _, _⟩ := h; rfl
theorem T121.ok1 {B : Nat} {el : AV} (h : T121 B el) : okCells false el 1 [(.sl 2 1)] = true := by obtain ⟨a0, a1, a2, a3, a4, a5, rfl, _, _, _, _, _, _, _⟩ := h; rfl
theorem T121.ok2 {B : Nat} {el : AV} (h : T121 B el) : okCells false el 2 [(.i .i64)] = true := by obtain ⟨a0, a1, a2, a3, a4, a5, rfl, _, _, _, _, _, _, _⟩ := h; rfl
theorem T121.ok3 {B : Nat} {el : AV} (h : T121 B el) : okCells false el 3 [(.i .i64)] = true := by obtain ⟨a0, a1, a2, a3, a4, a5, rfl, _, _, _, _, _, _, _⟩ := h; rfl
theorem T121.ok4 {B : Nat} {el : AV} (h : T121 B el) : okCells false el 4 [(.sl 2 1)] = true := by obtain ⟨a0, a1, a2, a3, a4, a5, rfl, _, _, _, _, _, _, _⟩ := h; rfl
theorem T121.ok5 {B : Nat} {el : AV} (h : T121 B el) : okCells false el 5 [(.sl 9 1)] = true := by obtain ⟨a0, a1, a2, a3, a4, a5, rfl, _, _, _, _, _, _, _⟩ := h; rfl
theorem T121_of {el : AV} (h : El E (.agg [(.i .i64), (.sl 2 1), (.i .i64), (.i .i64), (.sl 2 1), (.sl 9 1)]) el) : T121 9223372036854775807 el := by
  obtain ⟨cs, rfl, hs⟩ := h.agg
  obtain ⟨y0, c0, rfl, h0, hs⟩ := hs.out
  obtain ⟨y1, c1, rfl, h1, hs⟩ := hs.out
  obtain ⟨y2, c2, rfl, h2, hs⟩ := hs.out
  obtain ⟨y3, c3, rfl, h3, hs⟩ := hs.out
  obtain ⟨y4, c4, rfl, h4, hs⟩ := hs.out
  obtain ⟨y5, c5, rfl, h5, hs⟩ := hs.out
  obtain rfl := hs.end
  obtain ⟨a0, rfl, w0⟩ := h0.int
  obtain ⟨a1, rfl, w1, r1⟩ := h1.row (te := ⟨(.i .i64), 1, 8, 0, []⟩) rfl
  obtain ⟨a2, rfl, w2⟩ := h2.int
  obtain ⟨a3, rfl, w3⟩ := h3.int
  obtain ⟨a4, rfl, w4, r4⟩ := h4.row (te := ⟨(.i .i64), 1, 8, 0, []⟩) rfl
  obtain ⟨a5, rfl, w5, r5⟩ := h5.row (te := ⟨.s, 1, 16, 0, []⟩) rfl
  exact ⟨a0, a1, a2, a3, a4, a5, rfl, wf_64 w0, ⟨w1, fun el hel => T2_of (r1 el hel)⟩, wf_64 w2, wf_64 w3, ⟨w4, fun el hel => T2_of (r4 el hel)⟩, ⟨w5, fun el hel => T9_of (r5 el hel)⟩, trivial⟩
def T29 (B : Nat) (el : AV) : Prop := ∃ (a0 : Int) (a1 : Int) (a2 : Int) (a3 : List AV) (a4 : Int) (a5 : Int) (a6 : Bool) (a7 : Int) (a8 : List AV), el = AV.agg [(.i .i64 a0), (.i .i64 a1), (.i .i64 a2), (.imm 4 a3), (.i .i64 a4), (.i .i64 a5), (.b a6), (.i .i64 a7), (.imm 6 a8)] ∧ W64 a0 ∧ W64 a1 ∧ W64 a2 ∧ Rw (T159 B) B a3 ∧ W64 a4 ∧ W64 a5 ∧ W64 a7 ∧ Rw (T121 B) B a8 ∧ True
theorem T29.eta {B : Nat} {el : AV} (h : T29 B el) : AV.agg [(.i .i64 (el.cells.getD 0 .x).toI), (.i .i64 (el.cells.getD 1 .x).toI), (.i .i64 (el.cells.getD 2 .x).toI), (.imm 4 (el.cells.getD 3 .x).toL), (.i .i64 (el.cells.getD 4 .x).toI), (.i .i64 (el.cells.getD 5 .x).toI), (.b (el.cells.getD 6 .x).toB), (.i .i64 (el.cells.getD 7 .x).toI), (.imm 6 (el.cells.getD 8 .x).toL)] = el := by obtain ⟨a0, a1, a2, a3, a4, a5, a6, a7, a8, rfl, _, _, _, _, _, _, _, _, _⟩ := h; rfl
theorem T29.ok {B : Nat} {el : AV} (h : T29 B el) : okCells false el 0 [(.i .i64), (.i .i64), (.i .i64), (.sl 159 4), (.i .i64), (.i .i64), .b, (.i .i64), (.sl 121 6)] = true := by obtain ⟨a0, a1, a2, a3, a4, a5, a6, a7, a8, rfl, _, _, _, _, _, _, _, _, _⟩ := h; rfl
theorem T29.ok0 {B : Nat} {el : AV} (h : T29 B el) : okCells false el 0 [(.i .i64)] = true := by obtain ⟨a0, a1, a2, a3, a4, a5, a6, a7, a8, rfl, _, _, _, _, _, _, _, _, _⟩ := h; rfl
theorem T29.ok1 {B : Nat} {el : AV} (h : T29 B el) : okCells false el 1 [(.i .i64)] = true := by obtain ⟨a0, a1, a2, a3, a4, a5, a6, a7, a8, rfl, _, _, _, _, _, _, _, _, _⟩ := h; rfl
theorem T29.ok2 {B : Nat} {el : AV} (h : T29 B el) : okCells false el 2 [(.i .i64)] = true := by obtain ⟨a0, a1, a2, a3, a4, a5, a6, a7, a8, rfl, _, _, _, _, _, _, _, _, _⟩ := h; rfl
theorem T29.ok3 {B : Nat} {el : AV} (h : T29 B el) : okCells false el 3 [(.sl 159 4)] = true := by obtain ⟨a0, a1, a2, a3, a4, a5, a6, a7, a8, rfl, _, _, _, _, _, _, _, _, _⟩ := h; rfl
theorem T29.ok4 {B : Nat} {el : AV} (h : T29 B el) : okCells false el 4 [(.i .i64)] = true := by obtain ⟨a0, a1, a2, a3, a4, a5, a6, a7, a8, rfl, _, _, _, _, _, _, _, _, _⟩ := h; rfl
theorem T29.ok5 {B : Nat} {el : AV} (h : T29 B el) : okCells false el 5 [(.i .i64)] = true := by obtain ⟨a0, a1, a2, a3, a4, a5, a6, a7, a8, rfl, _, _, _, _, _, _, _, _, _⟩ := h; rfl
theorem T29.ok6 {B : Nat} {el : AV} (h : T29 B el) : okCells false el 6 [.b] = true := by obtain ⟨a0, a1, a2, a3, a4, a5, a6, a7, a8, rfl, _, _, _, _, _, _, _, _, _⟩ := h; rfl
theorem T29.ok7 {B : Nat} {el : AV} (h : T29 B el) : okCells false el 7 [(.i .i64)] = true := by obtain ⟨a0, a1, a2, a3, a4, a5, a6, a7, a8, rfl, _, _, _, _, _, _, _, _, _⟩ := h; rfl
theorem T29.ok8 {B : Nat} {el : AV} (h : T29 B el) : okCells false el 8 [(.sl 121 6)] = true := by obtain ⟨a0, a1, a2, a3, a4, a5, a6, a7, a8, rfl, _, _, _, _, _, _, _, _, _⟩ := h; rfl
theorem T29_of {el : AV} (h : El E (.agg [(.i .i64), (.i .i64), (.i .i64), (.sl 159 4), (.i .i64), (.i .i64), .b, (.i .i64), (.sl 121 6)]) el) : T29 9223372036854775807 el := by
  obtain ⟨cs, rfl, hs⟩ := h.agg
  obtain ⟨y0, c0, rfl, h0, hs⟩ := hs.out
  obtain ⟨y1, c1, rfl, h1, hs⟩ := hs.out
  obtain ⟨y2, c2, rfl, h2, hs⟩ := hs.out
  obtain ⟨y3, c3, rfl, h3, hs⟩ := hs.out
  obtain ⟨y4, c4, rfl, h4, hs⟩ := hs.out
  obtain ⟨y5, c5, rfl, h5, hs⟩ := hs.out
  obtain ⟨y6, c6, rfl, h6, hs⟩ := hs.out
  obtain ⟨y7, c7, rfl, h7, hs⟩ := hs.out
  obtain ⟨y8, c8, rfl, h8, hs⟩ := hs.out
  obtain rfl := hs.end
  obtain ⟨a0, rfl, w0⟩ := h0.int
  obtain ⟨a1, rfl, w1⟩ := h1.int
  obtain ⟨a2, rfl, w2⟩ := h2.int
  obtain ⟨a3, rfl, w3, r3⟩ := h3.row (te := ⟨(.agg [(.i .i64), (.i .i64), .b, (.sl 9 1)]), 4, 48, 0, [(0, 2), (1, 2), (2, 4), (3, 119)]⟩) rfl
  obtain ⟨a4, rfl, w4⟩ := h4.int
  obtain ⟨a5, rfl, w5⟩ := h5.int
  obtain ⟨a6, rfl⟩ := h6.bool
  obtain ⟨a7, rfl, w7⟩ := h7.int
  obtain ⟨a8, rfl, w8, r8⟩ := h8.row (te := ⟨(.agg [(.i .i64), (.sl 2 1), (.i .i64), (.i .i64), (.sl 2 1), (.sl 9 1)]), 6, 96, 0, [(0, 2), (1, 55), (2, 2), (3, 2), (4, 55), (5, 119)]⟩) rfl
  exact ⟨a0, a1, a2, a3, a4, a5, a6, a7, a8, rfl, wf_64 w0, wf_64 w1, wf_64 w2, ⟨w3, fun el hel => T159_of (r3 el hel)⟩, wf_64 w4, wf_64 w5, wf_64 w7, ⟨w8, fun el hel => T121_of (r8 el hel)⟩, trivial⟩
theorem sz143 {l : List AV} (h : Rw (T9 9223372036854775807) 9223372036854775807 l) (left : Int) (h0 : 0 ≤ left) (h1 : left ≤ 1048576) : Sz (den E 143 [(.imm 1 l), (.i .i64 left)] []) left (Rw (T9 1048576) 1048576 l) := by
  have hl := h.1
  rw [f143_eq, w64 (by omega) (by omega)]
  refine Sz.c fun c => ?_
  refine ((sz_loop (L := fun left i => f143_l1 l left i) (n := l.length) (Pz := fun i => T9 1048576 (l.getD i .x)) ?_ ?_ l.length 0 _ (by omega) c (by omega)).mono (by omega) fun hq => Rw.mk (by omega) fun i hi => hq i (Nat.zero_le _) hi)
  · intro i left hi h0 h1
    obtain ⟨a0, he, w0, _⟩ := h.at hi
    try dsimp only
    rw [f143_l1_eq, dT (show (i : Int) < ((l.length : Nat) : Int) by omega), cond_true]
    rw [if_pos (by omega)]
    simp only [Int.toNat_natCast, he]
    rw [if_pos (by rfl), w64 (x := (i : Int) + 1) (by omega) (by omega)]
    simp only [cells_s, List.getD_cons_zero, toS_s]
    rw [w64 (x := left - ((a0.size : Nat) : Int)) (by omega) (by omega)]
    by_cases hc : left - ((a0.size : Nat) : Int) < 0
    · exact .inl ⟨-1, by decide, by simp only [hc, decide_true, cond_true]⟩
    · exact .inr ⟨left - ((a0.size : Nat) : Int), by omega, by omega, ⟨a0, by first | exact he | rfl, by omega, trivial⟩, by simp only [hc, decide_false, cond_false]⟩
  · intro left
    try dsimp only
    rw [f143_l1_eq, dF (Int.lt_irrefl _), cond_false]
theorem sz142 {el : AV} (h : T159 9223372036854775807 el) (left : Int) (h0 : 0 ≤ left) (h1 : left ≤ 1048576) : Sz (den E 142 [el, (.i .i64 left)] []) left (T159 1048576 el) := by
  obtain ⟨a0, a1, a2, a3, rfl, w0, w1, w3, _⟩ := h
  rw [f142_eq]
  refine Sz.call (sz143 w3 left (by omega) (by omega)) (by omega) (fun l1 c1 d1 q3 => ?_) (fun r hr => Sz.neg hr)
  simp only [AV.toI]
  refine Sz.c fun _ => ?_
  exact Sz.done (by omega) (by omega) ⟨a0, a1, a2, a3, rfl, w0, w1, q3, trivial⟩
theorem sz89 {l : List AV} (h : Rw (T159 9223372036854775807) 9223372036854775807 l) (left : Int) (h0 : 0 ≤ left) (h1 : left ≤ 1048576) : Sz (den E 89 [(.imm 4 l), (.i .i64 left)] []) left (Rw (T159 1048576) 1048576 l) := by
  have hl := h.1
  rw [f89_eq, w64 (by omega) (by omega)]
  refine Sz.c fun c => ?_
  refine ((sz_loop (L := fun left i => f89_l1 l left i) (n := l.length) (Pz := fun i => T159 1048576 (l.getD i .x)) ?_ ?_ l.length 0 _ (by omega) c (by omega)).mono (by omega) fun hq => Rw.mk (by omega) fun i hi => hq i (Nat.zero_le _) hi)
  · intro i left hi h0 h1
    have hT := h.at hi
    refine (sz142 hT left h0 h1).step (K := fun r => f89_l1 l r ((i : Int) + 1)) fun r hr => ?_
    obtain ⟨a0, a1, a2, a3, he, w0, w1, w3, _⟩ := hT
    rw [he] at hr
    try dsimp only
    rw [f89_l1_eq, dT (show (i : Int) < ((l.length : Nat) : Int) by omega), cond_true]
    rw [if_pos (by omega)]
    simp only [Int.toNat_natCast, he]
    rw [if_pos (by rfl), w64 (by omega) (by omega)]
    simp only [okC_nil, okC_agg, okC_i, okC_b, okC_s, okC_imm, okL_i, okL_b, okL_s, okL_sl, okS_i, okS_b, okS_s, okS_sl, okS_agg, okS_tup, okS_nil, okS_cons, cells_agg, cells_i, cells_b, cells_s, cells_imm, toI_i, toB_b, toS_s, toL_imm, nth_agg, nth_tup, put_agg, put_i, put_b, put_s, put_imm, setCells, List.getD_cons_zero, List.getD_cons_succ, bSh_b, bSh_i, bSh_s, bSh_sl, bSh_some, cond_true, cond_false, decide_true, decide_false, Int.toNat_natCast, Nat.zero_add, Nat.reduceAdd, beq_self_eq_true, Bool.and_true, Bool.true_and, if_true, Bool.false_eq_true, if_false, List.set_cons_zero, List.set_cons_succ, Bool.not_true, Bool.not_false, Bool.and_self, hr]
    try rfl
  · intro left
    try dsimp only
    rw [f89_l1_eq, dF (Int.lt_irrefl _), cond_false]
def T26 (B : Nat) (el : AV) : Prop := ∃ (a0 : Int) (a1 : Int) (a2 : Int) (a3 : List AV) (a4 : Int) (a5 : Int) (a6 : Bool) (a7 : Int), el = AV.agg [(.i .i64 a0), (.i .i64 a1), (.i .i64 a2), (.imm 4 a3), (.i .i64 a4), (.i .i64 a5), (.b a6), (.i .i64 a7)] ∧ W64 a0 ∧ W64 a1 ∧ W64 a2 ∧ Rw (T159 B) B a3 ∧ W64 a4 ∧ W64 a5 ∧ W64 a7 ∧ True
theorem T26.eta {B : Nat} {el : AV} (h : T26 B el) : AV.agg [(.i .i64 (el.cells.getD 0 .x).toI), (.i .i64 (el.cells.getD 1 .x).toI), (.i .i64 (el.cells.getD 2 .x).toI), (.imm 4 (el.cells.getD 3 .x).toL), (.i .i64 (el.cells.getD 4 .x).toI), (.i .i64 (el.cells.getD 5 .x).toI), (.b (el.cells.getD 6 .x).toB), (.i .i64 (el.cells.getD 7 .x).toI)] = el := by obtain ⟨a0, a1, a2, a3, a4, a5, a6, a7, rfl, _, _, _, _, _, _, _, _⟩ := h; rfl
theorem T26.ok {B : Nat} {el : AV} (h : T26 B el) : okCells false el 0 [(.i .i64), (.i .i64), (.i .i64), (.sl 159 4), (.i .i64), (.i .i64), .b, (.i .i64)] = true := by obtain ⟨a0, a1, a2, a3, a4, a5, a6, a7, rfl, _, _, _, _, _, _, _, _⟩ := h; rfl
theorem T26.ok0 {B : Nat} {el : AV} (h : T26 B el) : okCells false el 0 [(.i .i64)] = true := by obtain ⟨a0, a1, a2, a3, a4, a5, a6, a7, rfl, _, _, _, _, _, _, _, _⟩ := h; rfl
theorem T26.ok1 {B : Nat} {el : AV} (h : T26 B el) : okCells false el 1 [(.i .i64)] = true := by obtain ⟨a0, a1, a2, a3, a4, a5, a6, a7, rfl, _, _, _, _, _, _, _, _⟩ := h; rfl
theorem T26.ok2 {B : Nat} {el : AV} (h : T26 B el) : okCells false el 2 [(.i .i64)] = true := by obtain ⟨a0, a1, a2, a3, a4, a5, a6, a7, rfl, _, _, _, _, _, _, _, _⟩ := h; rfl
theorem T26.ok3 {B : Nat} {el : AV} (h : T26 B el) : okCells false el 3 [(.sl 159 4)] = true := by obtain ⟨a0, a1, a2, a3, a4, a5, a6, a7, rfl, _, _, _, _, _, _, _, _⟩ := h; rfl
theorem T26.ok4 {B : Nat} {el : AV} (h : T26 B el) : okCells false el 4 [(.i .i64)] = true := by obtain ⟨a0, a1, a2, a3, a4, a5, a6, a7, rfl, _, _, _, _, _, _, _, _⟩ := h; rfl
theorem T26.ok5 {B : Nat} {el : AV} (h : T26 B el) : okCells false el 5 [(.i .i64)] = true := by obtain ⟨a0, a1, a2, a3, a4, a5, a6, a7, rfl, _, _, _, _, _, _, _, _⟩ := h; rfl
theorem T26.ok6 {B : Nat} {el : AV} (h : T26 B el) : okCells false el 6 [.b] = true := by obtain ⟨a0, a1, a2, a3, a4, a5, a6, a7, rfl, _, _, _, _, _, _, _, _⟩ := h; rfl
theorem T26.ok7 {B : Nat} {el : AV} (h : T26 B el) : okCells false el 7 [(.i .i64)] = true := by obtain ⟨a0, a1, a2, a3, a4, a5, a6, a7, rfl, _, _, _, _, _, _, _, _⟩ := h; rfl
theorem T26_of {el : AV} (h : El E (.agg [(.i .i64), (.i .i64), (.i .i64), (.sl 159 4), (.i .i64), (.i .i64), .b, (.i .i64)]) el) : T26 9223372036854775807 el := by
  obtain ⟨cs, rfl, hs⟩ := h.agg
  obtain ⟨y0, c0, rfl, h0, hs⟩ := hs.out
  obtain ⟨y1, c1, rfl, h1, hs⟩ := hs.out
  obtain ⟨y2, c2, rfl, h2, hs⟩ := hs.out
  obtain ⟨y3, c3, rfl, h3, hs⟩ := hs.out
  obtain ⟨y4, c4, rfl, h4, hs⟩ := hs.out
  obtain ⟨y5, c5, rfl, h5, hs⟩ := hs.out
  obtain ⟨y6, c6, rfl, h6, hs⟩ := hs.out
  obtain ⟨y7, c7, rfl, h7, hs⟩ := hs.out
  obtain rfl := hs.end
  obtain ⟨a0, rfl, w0⟩ := h0.int
  obtain ⟨a1, rfl, w1⟩ := h1.int
  obtain ⟨a2, rfl, w2⟩ := h2.int
  obtain ⟨a3, rfl, w3, r3⟩ := h3.row (te := ⟨(.agg [(.i .i64), (.i .i64), .b, (.sl 9 1)]), 4, 48, 0, [(0, 2), (1, 2), (2, 4), (3, 119)]⟩) rfl
  obtain ⟨a4, rfl, w4⟩ := h4.int
  obtain ⟨a5, rfl, w5⟩ := h5.int
  obtain ⟨a6, rfl⟩ := h6.bool
  obtain ⟨a7, rfl, w7⟩ := h7.int
  exact ⟨a0, a1, a2, a3, a4, a5, a6, a7, rfl, wf_64 w0, wf_64 w1, wf_64 w2, ⟨w3, fun el hel => T159_of (r3 el hel)⟩, wf_64 w4, wf_64 w5, wf_64 w7, trivial⟩
theorem sz47 {el : AV} (h : T26 9223372036854775807 el) (left : Int) (h0 : 0 ≤ left) (h1 : left ≤ 1048576) : Sz (den E 47 [el, (.i .i64 left)] []) left (T26 1048576 el) := by
  obtain ⟨a0, a1, a2, a3, a4, a5, a6, a7, rfl, w0, w1, w2, w3, w4, w5, w7, _⟩ := h
  rw [f47_eq]
  refine Sz.call (sz89 w3 left (by omega) (by omega)) (by omega) (fun l1 c1 d1 q3 => ?_) (fun r hr => Sz.neg hr)
  simp only [AV.toI]
  refine Sz.c fun _ => ?_
  exact Sz.done (by omega) (by omega) ⟨a0, a1, a2, a3, a4, a5, a6, a7, rfl, w0, w1, w2, q3, w4, w5, w7, trivial⟩
theorem sz139 {l : List AV} (h : Rw (T2 9223372036854775807) 9223372036854775807 l) (left : Int) (h0 : 0 ≤ left) (h1 : left ≤ 1048576) : Sz (den E 139 [(.imm 1 l), (.i .i64 left)] []) left (Rw (T2 1048576) 1048576 l) := by
  have hl := h.1
  rw [f139_eq, w64 (by omega) (by omega)]
  refine Sz.c fun c => ?_
  exact Sz.done c (by omega) ⟨by omega, fun y hy => by obtain ⟨a0, rfl, w0, _⟩ := h.2 y hy; exact ⟨a0, rfl, w0, trivial⟩⟩
theorem sz90 {el : AV} (h : T121 9223372036854775807 el) (left : Int) (h0 : 0 ≤ left) (h1 : left ≤ 1048576) : Sz (den E 90 [el, (.i .i64 left)] []) left (T121 1048576 el) := by
  obtain ⟨a0, a1, a2, a3, a4, a5, rfl, w0, w1, w2, w3, w4, w5, _⟩ := h
  rw [f90_eq]
  refine Sz.call (sz139 w1 left (by omega) (by omega)) (by omega) (fun l1 c1 d1 q1 => ?_) (fun r hr => Sz.neg hr)
  simp only [AV.toI]
  refine Sz.c fun _ => ?_
  refine Sz.call (sz139 w4 l1 (by omega) (by omega)) (by omega) (fun l2 c2 d2 q4 => ?_) (fun r hr => Sz.neg hr)
  simp only [AV.toI]
  refine Sz.c fun _ => ?_
  refine Sz.call (sz143 w5 l2 (by omega) (by omega)) (by omega) (fun l3 c3 d3 q5 => ?_) (fun r hr => Sz.neg hr)
  simp only [AV.toI]
  refine Sz.c fun _ => ?_
  exact Sz.done (by omega) (by omega) ⟨a0, a1, a2, a3, a4, a5, rfl, w0, q1, w2, w3, q4, q5, trivial⟩
theorem sz48 {l : List AV} (h : Rw (T121 9223372036854775807) 9223372036854775807 l) (left : Int) (h0 : 0 ≤ left) (h1 : left ≤ 1048576) : Sz (den E 48 [(.imm 6 l), (.i .i64 left)] []) left (Rw (T121 1048576) 1048576 l) := by
  have hl := h.1
  rw [f48_eq, w64 (by omega) (by omega)]
  refine Sz.c fun c => ?_
  refine ((sz_loop (L := fun left i => f48_l1 l left i) (n := l.length) (Pz := fun i => T121 1048576 (l.getD i .x)) ?_ ?_ l.length 0 _ (by omega) c (by omega)).mono (by omega) fun hq => Rw.mk (by omega) fun i hi => hq i (Nat.zero_le _) hi)
  · intro i left hi h0 h1
    have hT := h.at hi
    refine (sz90 hT left h0 h1).step (K := fun r => f48_l1 l r ((i : Int) + 1)) fun r hr => ?_
    obtain ⟨a0, a1, a2, a3, a4, a5, he, w0, w1, w2, w3, w4, w5, _⟩ := hT
    rw [he] at hr
    try dsimp only
    rw [f48_l1_eq, dT (show (i : Int) < ((l.length : Nat) : Int) by omega), cond_true]
    rw [if_pos (by omega)]
    simp only [Int.toNat_natCast, he]
    rw [if_pos (by rfl), w64 (by omega) (by omega)]
    simp only [okC_nil, okC_agg, okC_i, okC_b, okC_s, okC_imm, okL_i, okL_b, okL_s, okL_sl, okS_i, okS_b, okS_s, okS_sl, okS_agg, okS_tup, okS_nil, okS_cons, cells_agg, cells_i, cells_b, cells_s, cells_imm, toI_i, toB_b, toS_s, toL_imm, nth_agg, nth_tup, put_agg, put_i, put_b, put_s, put_imm, setCells, List.getD_cons_zero, List.getD_cons_succ, bSh_b, bSh_i, bSh_s, bSh_sl, bSh_some, cond_true, cond_false, decide_true, decide_false, Int.toNat_natCast, Nat.zero_add, Nat.reduceAdd, beq_self_eq_true, Bool.and_true, Bool.true_and, if_true, Bool.false_eq_true, if_false, List.set_cons_zero, List.set_cons_succ, Bool.not_true, Bool.not_false, Bool.and_self, hr]
    try rfl
  · intro left
    try dsimp only
    rw [f48_l1_eq, dF (Int.lt_irrefl _), cond_false]
theorem sz10 {el : AV} (h : T29 9223372036854775807 el) (left : Int) (h0 : 0 ≤ left) (h1 : left ≤ 1048576) : Sz (den E 10 [el, (.i .i64 left)] []) left (T29 1048576 el) := by
  obtain ⟨a0, a1, a2, a3, a4, a5, a6, a7, a8, rfl, w0, w1, w2, w3, w4, w5, w7, w8, _⟩ := h
  rw [f10_eq]
  refine Sz.call (sz47 (el := (.agg [(.i .i64 a0), (.i .i64 a1), (.i .i64 a2), (.imm 4 a3), (.i .i64 a4), (.i .i64 a5), (.b a6), (.i .i64 a7)])) ⟨a0, a1, a2, a3, a4, a5, a6, a7, rfl, w0, w1, w2, w3, w4, w5, w7, trivial⟩ left (by omega) (by omega)) (by omega) (fun l1 c1 d1 qq => ?_) (fun r hr => Sz.neg hr)
  simp only [AV.toI]
  refine Sz.c fun _ => ?_
  obtain ⟨b0, b1, b2, b3, b4, b5, b6, b7, hb, q0, q1, q2, q3, q4, q5, q7, _⟩ := qq
  cases hb
  refine Sz.call (sz48 w8 l1 (by omega) (by omega)) (by omega) (fun l2 c2 d2 q8 => ?_) (fun r hr => Sz.neg hr)
  simp only [AV.toI]
  refine Sz.c fun _ => ?_
  exact Sz.done (by omega) (by omega) ⟨a0, a1, a2, a3, a4, a5, a6, a7, a8, rfl, w0, w1, w2, q3, w4, w5, w7, q8, trivial⟩
def T23 (B : Nat) (el : AV) : Prop := ∃ (a0 : Int) (a1 : Int) (a2 : Int), el = AV.agg [(.i .i64 a0), (.i .i64 a1), (.i .i64 a2)] ∧ W64 a0 ∧ W64 a1 ∧ W64 a2 ∧ True
theorem T23.eta {B : Nat} {el : AV} (h : T23 B el) : AV.agg [(.i .i64 (el.cells.getD 0 .x).toI), (.i .i64 (el.cells.getD 1 .x).toI), (.i .i64 (el.cells.getD 2 .x).toI)] = el := by obtain ⟨a0, a1, a2, rfl, _, _, _, _⟩ := h; rfl
theorem T23.ok {B : Nat} {el : AV} (h : T23 B el) : okCells false el 0 [(.i .i64), (.i .i64), (.i .i64)] = true := by obtain ⟨a0, a1, a2, rfl, _, _, _, _⟩ := h; rfl
theorem T23.ok0 {B : Nat} {el : AV} (h : T23 B el) : okCells false el 0 [(.i .i64)] = true := by obtain ⟨a0, a1, a2, rfl, _, _, _, _⟩ := h; rfl
theorem T23.ok1 {B : Nat} {el : AV} (h : T23 B el) : okCells false el 1 [(.i .i64)] = true := by obtain ⟨a0, a1, a2, rfl, _, _, _, _⟩ := h; rfl
theorem T23.ok2 {B : Nat} {el : AV} (h : T23 B el) : okCells false el 2 [(.i .i64)] = true := by obtain ⟨a0, a1, a2, rfl, _, _, _, _⟩ := h; rfl
theorem T23_of {el : AV} (h : El E (.agg [(.i .i64), (.i .i64), (.i .i64)]) el) : T23 9223372036854775807 el := by
  obtain ⟨cs, rfl, hs⟩ := h.agg
  obtain ⟨y0, c0, rfl, h0, hs⟩ := hs.out
  obtain ⟨y1, c1, rfl, h1, hs⟩ := hs.out
  obtain ⟨y2, c2, rfl, h2, hs⟩ := hs.out
  obtain rfl := hs.end
  obtain ⟨a0, rfl, w0⟩ := h0.int
  obtain ⟨a1, rfl, w1⟩ := h1.int
  obtain ⟨a2, rfl, w2⟩ := h2.int
  exact ⟨a0, a1, a2, rfl, wf_64 w0, wf_64 w1, wf_64 w2, trivial⟩
theorem to98 {el : AV} (h : T23 1048576 el) : den E 98 [el] [] = some el := by
  obtain ⟨a0, a1, a2, rfl, w0, w1, w2, _⟩ := h
  rw [f98_eq]
theorem to148 {l : List AV} (h : Rw (T9 1048576) 1048576 l) : den E 148 [(.imm 1 l)] [] = some (.imm 1 l) := by
  have hl := h.1
  rw [f148_eq, if_pos (by simp only [room]; omega), Int.toNat_natCast]
  refine to_loop (L := fun i ys => f148_l1 l i [] ys) (fun i ys hi hy hz => ?_) fun ys hy => ?_
  · have hT := h.at hi
    obtain ⟨a0, he, w0, _⟩ := h.at hi
    rw [he] at hT
    try dsimp only
    rw [f148_l1_eq, dT (show (i : Int) < ((l.length : Nat) : Int) by omega), cond_true]
    rw [if_pos (by omega)]
    simp only [Int.toNat_natCast, Nat.zero_add, he, hz]
    rw [if_pos (by rfl)]
    rw [if_pos (by omega), w64 (by omega) (by omega)]
    try simp only [okC_nil, okC_agg, okC_i, okC_b, okC_s, okC_imm, okL_i, okL_b, okL_s, okL_sl, okS_i, okS_b, okS_s, okS_sl, okS_agg, okS_tup, okS_nil, okS_cons, cells_agg, cells_i, cells_b, cells_s, cells_imm, toI_i, toB_b, toS_s, toL_imm, nth_agg, nth_tup, put_agg, put_i, put_b, put_s, put_imm, setCells, List.getD_cons_zero, List.getD_cons_succ, bSh_b, bSh_i, bSh_s, bSh_sl, bSh_some, cond_true, cond_false, decide_true, decide_false, Int.toNat_natCast, Nat.zero_add, Nat.reduceAdd, beq_self_eq_true, Bool.and_true, Bool.true_and, if_true, Bool.false_eq_true, if_false, List.set_cons_zero, List.set_cons_succ, Bool.not_true, Bool.not_false, Bool.and_self]
    try rfl
  · try dsimp only
    rw [f148_l1_eq, dF (Int.lt_irrefl _), cond_false]
theorem to147 {el : AV} (h : T159 1048576 el) : den E 147 [el] [] = some el := by
  obtain ⟨a0, a1, a2, a3, rfl, w0, w1, w3, _⟩ := h
  rw [f147_eq]
  simp only [okC_nil, okC_agg, okC_i, okC_b, okC_s, okC_imm, okL_i, okL_b, okL_s, okL_sl, okS_i, okS_b, okS_s, okS_sl, okS_agg, okS_tup, okS_nil, okS_cons, cells_agg, cells_i, cells_b, cells_s, cells_imm, toI_i, toB_b, toS_s, toL_imm, nth_agg, nth_tup, put_agg, put_i, put_b, put_s, put_imm, setCells, List.getD_cons_zero, List.getD_cons_succ, bSh_b, bSh_i, bSh_s, bSh_sl, bSh_some, cond_true, cond_false, decide_true, decide_false, Int.toNat_natCast, Nat.zero_add, Nat.reduceAdd, beq_self_eq_true, Bool.and_true, Bool.true_and, if_true, Bool.false_eq_true, if_false, List.set_cons_zero, List.set_cons_succ, Bool.not_true, Bool.not_false, Bool.and_self, to148 w3]
theorem to99 {l : List AV} (h : Rw (T159 1048576) 1048576 l) : den E 99 [(.imm 4 l)] [] = some (.imm 4 l) := by
  have hl := h.1
  rw [f99_eq, if_pos (by simp only [room]; omega), Int.toNat_natCast]
  refine to_loop (L := fun i ys => f99_l1 l i [] ys) (fun i ys hi hy hz => ?_) fun ys hy => ?_
  · have hT := h.at hi
    obtain ⟨a0, a1, a2, a3, he, w0, w1, w3, _⟩ := h.at hi
    rw [he] at hT
    try dsimp only
    rw [f99_l1_eq, dT (show (i : Int) < ((l.length : Nat) : Int) by omega), cond_true]
    rw [if_pos (by omega)]
    simp only [Int.toNat_natCast, Nat.zero_add, he, hz]
    rw [if_pos (by rfl)]
    simp only [okC_nil, okC_agg, okC_i, okC_b, okC_s, okC_imm, okL_i, okL_b, okL_s, okL_sl, okS_i, okS_b, okS_s, okS_sl, okS_agg, okS_tup, okS_nil, okS_cons, cells_agg, cells_i, cells_b, cells_s, cells_imm, toI_i, toB_b, toS_s, toL_imm, nth_agg, nth_tup, put_agg, put_i, put_b, put_s, put_imm, setCells, List.getD_cons_zero, List.getD_cons_succ, bSh_b, bSh_i, bSh_s, bSh_sl, bSh_some, cond_true, cond_false, decide_true, decide_false, Int.toNat_natCast, Nat.zero_add, Nat.reduceAdd, beq_self_eq_true, Bool.and_true, Bool.true_and, if_true, Bool.false_eq_true, if_false, List.set_cons_zero, List.set_cons_succ, Bool.not_true, Bool.not_false, Bool.and_self, to147 hT]
    rw [if_pos (by omega), w64 (by omega) (by omega)]
    try simp only [okC_nil, okC_agg, okC_i, okC_b, okC_s, okC_imm, okL_i, okL_b, okL_s, okL_sl, okS_i, okS_b, okS_s, okS_sl, okS_agg, okS_tup, okS_nil, okS_cons, cells_agg, cells_i, cells_b, cells_s, cells_imm, toI_i, toB_b, toS_s, toL_imm, nth_agg, nth_tup, put_agg, put_i, put_b, put_s, put_imm, setCells, List.getD_cons_zero, List.getD_cons_succ, bSh_b, bSh_i, bSh_s, bSh_sl, bSh_some, cond_true, cond_false, decide_true, decide_false, Int.toNat_natCast, Nat.zero_add, Nat.reduceAdd, beq_self_eq_true, Bool.and_true, Bool.true_and, if_true, Bool.false_eq_true, if_false, List.set_cons_zero, List.set_cons_succ, Bool.not_true, Bool.not_false, Bool.and_self]
    try rfl
  · try dsimp only
    rw [f99_l1_eq, dF (Int.lt_irrefl _), cond_false]
theorem to52 {el : AV} (h : T26 1048576 el) : den E 52 [el] [] = some el := by
  obtain ⟨a0, a1, a2, a3, a4, a5, a6, a7, rfl, w0, w1, w2, w3, w4, w5, w7, _⟩ := h
  rw [f52_eq]
  simp only [okC_nil, okC_agg, okC_i, okC_b, okC_s, okC_imm, okL_i, okL_b, okL_s, okL_sl, okS_i, okS_b, okS_s, okS_sl, okS_agg, okS_tup, okS_nil, okS_cons, cells_agg, cells_i, cells_b, cells_s, cells_imm, toI_i, toB_b, toS_s, toL_imm, nth_agg, nth_tup, put_agg, put_i, put_b, put_s, put_imm, setCells, List.getD_cons_zero, List.getD_cons_succ, bSh_b, bSh_i, bSh_s, bSh_sl, bSh_some, cond_true, cond_false, decide_true, decide_false, Int.toNat_natCast, Nat.zero_add, Nat.reduceAdd, beq_self_eq_true, Bool.and_true, Bool.true_and, if_true, Bool.false_eq_true, if_false, List.set_cons_zero, List.set_cons_succ, Bool.not_true, Bool.not_false, Bool.and_self, to99 w3, to98 (el := .agg [(.i .i64 a0), (.i .i64 a1), (.i .i64 a2)]) ⟨a0, a1, a2, rfl, w0, w1, w2, trivial⟩]
theorem to27 {l : List AV} (h : Rw (T2 1048576) 1048576 l) : den E 27 [(.imm 1 l)] [] = some (.imm 1 l) := by
  have hl := h.1
  rw [f27_eq, if_pos (by simp only [room]; omega), Int.toNat_natCast]
  refine to_loop (L := fun i ys => f27_l1 l i [] ys) (fun i ys hi hy hz => ?_) fun ys hy => ?_
  · have hT := h.at hi
    obtain ⟨a0, he, w0, _⟩ := h.at hi
    rw [he] at hT
    try dsimp only
    rw [f27_l1_eq, dT (show (i : Int) < ((l.length : Nat) : Int) by omega), cond_true]
    rw [if_pos (by omega)]
    simp only [Int.toNat_natCast, Nat.zero_add, he, hz]
    rw [if_pos (by rfl)]
    rw [if_pos (by omega), w64 (by omega) (by omega)]
    try simp only [okC_nil, okC_agg, okC_i, okC_b, okC_s, okC_imm, okL_i, okL_b, okL_s, okL_sl, okS_i, okS_b, okS_s, okS_sl, okS_agg, okS_tup, okS_nil, okS_cons, cells_agg, cells_i, cells_b, cells_s, cells_imm, toI_i, toB_b, toS_s, toL_imm, nth_agg, nth_tup, put_agg, put_i, put_b, put_s, put_imm, setCells, List.getD_cons_zero, List.getD_cons_succ, bSh_b, bSh_i, bSh_s, bSh_sl, bSh_some, cond_true, cond_false, decide_true, decide_false, Int.toNat_natCast, Nat.zero_add, Nat.reduceAdd, beq_self_eq_true, Bool.and_true, Bool.true_and, if_true, Bool.false_eq_true, if_false, List.set_cons_zero, List.set_cons_succ, Bool.not_true, Bool.not_false, Bool.and_self]
    try rfl
  · try dsimp only
    rw [f27_l1_eq, dF (Int.lt_irrefl _), cond_false]
theorem to100 {el : AV} (h : T121 1048576 el) : den E 100 [el] [] = some el := by
  obtain ⟨a0, a1, a2, a3, a4, a5, rfl, w0, w1, w2, w3, w4, w5, _⟩ := h
  rw [f100_eq]
  simp only [okC_nil, okC_agg, okC_i, okC_b, okC_s, okC_imm, okL_i, okL_b, okL_s, okL_sl, okS_i, okS_b, okS_s, okS_sl, okS_agg, okS_tup, okS_nil, okS_cons, cells_agg, cells_i, cells_b, cells_s, cells_imm, toI_i, toB_b, toS_s, toL_imm, nth_agg, nth_tup, put_agg, put_i, put_b, put_s, put_imm, setCells, List.getD_cons_zero, List.getD_cons_succ, bSh_b, bSh_i, bSh_s, bSh_sl, bSh_some, cond_true, cond_false, decide_true, decide_false, Int.toNat_natCast, Nat.zero_add, Nat.reduceAdd, beq_self_eq_true, Bool.and_true, Bool.true_and, if_true, Bool.false_eq_true, if_false, List.set_cons_zero, List.set_cons_succ, Bool.not_true, Bool.not_false, Bool.and_self, to27 w1, to27 w4, to148 w5]
theorem to53 {l : List AV} (h : Rw (T121 1048576) 1048576 l) : den E 53 [(.imm 6 l)] [] = some (.imm 6 l) := by
  have hl := h.1
  rw [f53_eq, if_pos (by simp only [room]; omega), Int.toNat_natCast]
  refine to_loop (L := fun i ys => f53_l1 l i [] ys) (fun i ys hi hy hz => ?_) fun ys hy => ?_
  · have hT := h.at hi
    obtain ⟨a0, a1, a2, a3, a4, a5, he, w0, w1, w2, w3, w4, w5, _⟩ := h.at hi
    rw [he] at hT
    try dsimp only
    rw [f53_l1_eq, dT (show (i : Int) < ((l.length : Nat) : Int) by omega), cond_true]
    rw [if_pos (by omega)]
    simp only [Int.toNat_natCast, Nat.zero_add, he, hz]
    rw [if_pos (by rfl)]
    simp only [okC_nil, okC_agg, okC_i, okC_b, okC_s, okC_imm, okL_i, okL_b, okL_s, okL_sl, okS_i, okS_b, okS_s, okS_sl, okS_agg, okS_tup, okS_nil, okS_cons, cells_agg, cells_i, cells_b, cells_s, cells_imm, toI_i, toB_b, toS_s, toL_imm, nth_agg, nth_tup, put_agg, put_i, put_b, put_s, put_imm, setCells, List.getD_cons_zero, List.getD_cons_succ, bSh_b, bSh_i, bSh_s, bSh_sl, bSh_some, cond_true, cond_false, decide_true, decide_false, Int.toNat_natCast, Nat.zero_add, Nat.reduceAdd, beq_self_eq_true, Bool.and_true, Bool.true_and, if_true, Bool.false_eq_true, if_false, List.set_cons_zero, List.set_cons_succ, Bool.not_true, Bool.not_false, Bool.and_self, to100 hT]
    rw [if_pos (by omega), w64 (by omega) (by omega)]
    try simp only [okC_nil, okC_agg, okC_i, okC_b, okC_s, okC_imm, okL_i, okL_b, okL_s, okL_sl, okS_i, okS_b, okS_s, okS_sl, okS_agg, okS_tup, okS_nil, okS_cons, cells_agg, cells_i, cells_b, cells_s, cells_imm, toI_i, toB_b, toS_s, toL_imm, nth_agg, nth_tup, put_agg, put_i, put_b, put_s, put_imm, setCells, List.getD_cons_zero, List.getD_cons_succ, bSh_b, bSh_i, bSh_s, bSh_sl, bSh_some, cond_true, cond_false, decide_true, decide_false, Int.toNat_natCast, Nat.zero_add, Nat.reduceAdd, beq_self_eq_true, Bool.and_true, Bool.true_and, if_true, Bool.false_eq_true, if_false, List.set_cons_zero, List.set_cons_succ, Bool.not_true, Bool.not_false, Bool.and_self]
    try rfl
  · try dsimp only
    rw [f53_l1_eq, dF (Int.lt_irrefl _), cond_false]
theorem to12 {el : AV} (h : T29 1048576 el) : den E 12 [el] [] = some el := by
  obtain ⟨a0, a1, a2, a3, a4, a5, a6, a7, a8, rfl, w0, w1, w2, w3, w4, w5, w7, w8, _⟩ := h
  rw [f12_eq]
  simp only [okC_nil, okC_agg, okC_i, okC_b, okC_s, okC_imm, okL_i, okL_b, okL_s, okL_sl, okS_i, okS_b, okS_s, okS_sl, okS_agg, okS_tup, okS_nil, okS_cons, cells_agg, cells_i, cells_b, cells_s, cells_imm, toI_i, toB_b, toS_s, toL_imm, nth_agg, nth_tup, put_agg, put_i, put_b, put_s, put_imm, setCells, List.getD_cons_zero, List.getD_cons_succ, bSh_b, bSh_i, bSh_s, bSh_sl, bSh_some, cond_true, cond_false, decide_true, decide_false, Int.toNat_natCast, Nat.zero_add, Nat.reduceAdd, beq_self_eq_true, Bool.and_true, Bool.true_and, if_true, Bool.false_eq_true, if_false, List.set_cons_zero, List.set_cons_succ, Bool.not_true, Bool.not_false, Bool.and_self, to53 w8, to52 (el := .agg [(.i .i64 a0), (.i .i64 a1), (.i .i64 a2), (.imm 4 a3), (.i .i64 a4), (.i .i64 a5), (.b a6), (.i .i64 a7)]) ⟨a0, a1, a2, a3, a4, a5, a6, a7, rfl, w0, w1, w2, w3, w4, w5, w7, trivial⟩]
theorem eq106 {el : AV} (h : T23 1048576 el) : den E 106 [el, el] [] = some (.b true) := by
  obtain ⟨a0, a1, a2, rfl, w0, w1, w2, _⟩ := h
  rw [f106_eq]
  simp only [okC_nil, okC_agg, okC_i, okC_b, okC_s, okC_imm, okL_i, okL_b, okL_s, okL_sl, okS_i, okS_b, okS_s, okS_sl, okS_agg, okS_tup, okS_nil, okS_cons, cells_agg, cells_i, cells_b, cells_s, cells_imm, toI_i, toB_b, toS_s, toL_imm, nth_agg, nth_tup, put_agg, put_i, put_b, put_s, put_imm, setCells, List.getD_cons_zero, List.getD_cons_succ, bSh_b, bSh_i, bSh_s, bSh_sl, bSh_some, cond_true, cond_false, decide_true, decide_false, Int.toNat_natCast, Nat.zero_add, Nat.reduceAdd, beq_self_eq_true, Bool.and_true, Bool.true_and, if_true, Bool.false_eq_true, if_false, List.set_cons_zero, List.set_cons_succ, Bool.not_true, Bool.not_false, Bool.and_self]
theorem eq160 {l : List AV} (h : Rw (T9 1048576) 1048576 l) : den E 160 [(.imm 1 l), (.imm 1 l)] [] = some (.b true) := by
  have hl := h.1
  rw [f160_eq]
  simp only [decide_true, Bool.not_true, cond_false]
  refine eq_loop (L := fun i => f160_l1 l l i) (n := l.length) (fun i hi => ?_) ?_
  · have hT := h.at hi
    obtain ⟨a0, he, w0, _⟩ := h.at hi
    rw [he] at hT
    try dsimp only
    rw [f160_l1_eq, dT (show (i : Int) < ((l.length : Nat) : Int) by omega), cond_true]
    rw [if_pos (by omega)]
    simp only [Int.toNat_natCast, he]
    rw [if_pos (by rfl), if_pos (by omega), if_pos (by rfl), w64 (by omega) (by omega)]
    simp only [okC_nil, okC_agg, okC_i, okC_b, okC_s, okC_imm, okL_i, okL_b, okL_s, okL_sl, okS_i, okS_b, okS_s, okS_sl, okS_agg, okS_tup, okS_nil, okS_cons, cells_agg, cells_i, cells_b, cells_s, cells_imm, toI_i, toB_b, toS_s, toL_imm, nth_agg, nth_tup, put_agg, put_i, put_b, put_s, put_imm, setCells, List.getD_cons_zero, List.getD_cons_succ, bSh_b, bSh_i, bSh_s, bSh_sl, bSh_some, cond_true, cond_false, decide_true, decide_false, Int.toNat_natCast, Nat.zero_add, Nat.reduceAdd, beq_self_eq_true, Bool.and_true, Bool.true_and, if_true, Bool.false_eq_true, if_false, List.set_cons_zero, List.set_cons_succ, Bool.not_true, Bool.not_false, Bool.and_self]
  · try dsimp only
    rw [f160_l1_eq, dF (Int.lt_irrefl _), cond_false]
theorem eq159 {el : AV} (h : T159 1048576 el) : den E 159 [el, el] [] = some (.b true) := by
  obtain ⟨a0, a1, a2, a3, rfl, w0, w1, w3, _⟩ := h
  rw [f159_eq]
  simp only [okC_nil, okC_agg, okC_i, okC_b, okC_s, okC_imm, okL_i, okL_b, okL_s, okL_sl, okS_i, okS_b, okS_s, okS_sl, okS_agg, okS_tup, okS_nil, okS_cons, cells_agg, cells_i, cells_b, cells_s, cells_imm, toI_i, toB_b, toS_s, toL_imm, nth_agg, nth_tup, put_agg, put_i, put_b, put_s, put_imm, setCells, List.getD_cons_zero, List.getD_cons_succ, bSh_b, bSh_i, bSh_s, bSh_sl, bSh_some, cond_true, cond_false, decide_true, decide_false, Int.toNat_natCast, Nat.zero_add, Nat.reduceAdd, beq_self_eq_true, Bool.and_true, Bool.true_and, if_true, Bool.false_eq_true, if_false, List.set_cons_zero, List.set_cons_succ, Bool.not_true, Bool.not_false, Bool.and_self, eq160 w3]
theorem eq107 {l : List AV} (h : Rw (T159 1048576) 1048576 l) : den E 107 [(.imm 4 l), (.imm 4 l)] [] = some (.b true) := by
  have hl := h.1
  rw [f107_eq]
  simp only [decide_true, Bool.not_true, cond_false]
  refine eq_loop (L := fun i => f107_l1 l l i) (n := l.length) (fun i hi => ?_) ?_
  · have hT := h.at hi
    obtain ⟨a0, a1, a2, a3, he, w0, w1, w3, _⟩ := h.at hi
    rw [he] at hT
    try dsimp only
    rw [f107_l1_eq, dT (show (i : Int) < ((l.length : Nat) : Int) by omega), cond_true]
    rw [if_pos (by omega)]
    simp only [Int.toNat_natCast, he]
    rw [if_pos (by rfl), if_pos (by omega), if_pos (by rfl), w64 (by omega) (by omega)]
    simp only [okC_nil, okC_agg, okC_i, okC_b, okC_s, okC_imm, okL_i, okL_b, okL_s, okL_sl, okS_i, okS_b, okS_s, okS_sl, okS_agg, okS_tup, okS_nil, okS_cons, cells_agg, cells_i, cells_b, cells_s, cells_imm, toI_i, toB_b, toS_s, toL_imm, nth_agg, nth_tup, put_agg, put_i, put_b, put_s, put_imm, setCells, List.getD_cons_zero, List.getD_cons_succ, bSh_b, bSh_i, bSh_s, bSh_sl, bSh_some, cond_true, cond_false, decide_true, decide_false, Int.toNat_natCast, Nat.zero_add, Nat.reduceAdd, beq_self_eq_true, Bool.and_true, Bool.true_and, if_true, Bool.false_eq_true, if_false, List.set_cons_zero, List.set_cons_succ, Bool.not_true, Bool.not_false, Bool.and_self, eq159 hT]
  · try dsimp only
    rw [f107_l1_eq, dF (Int.lt_irrefl _), cond_false]
theorem eq57 {el : AV} (h : T26 1048576 el) : den E 57 [el, el] [] = some (.b true) := by
  obtain ⟨a0, a1, a2, a3, a4, a5, a6, a7, rfl, w0, w1, w2, w3, w4, w5, w7, _⟩ := h
  rw [f57_eq]
  simp only [okC_nil, okC_agg, okC_i, okC_b, okC_s, okC_imm, okL_i, okL_b, okL_s, okL_sl, okS_i, okS_b, okS_s, okS_sl, okS_agg, okS_tup, okS_nil, okS_cons, cells_agg, cells_i, cells_b, cells_s, cells_imm, toI_i, toB_b, toS_s, toL_imm, nth_agg, nth_tup, put_agg, put_i, put_b, put_s, put_imm, setCells, List.getD_cons_zero, List.getD_cons_succ, bSh_b, bSh_i, bSh_s, bSh_sl, bSh_some, cond_true, cond_false, decide_true, decide_false, Int.toNat_natCast, Nat.zero_add, Nat.reduceAdd, beq_self_eq_true, Bool.and_true, Bool.true_and, if_true, Bool.false_eq_true, if_false, List.set_cons_zero, List.set_cons_succ, Bool.not_true, Bool.not_false, Bool.and_self, eq107 w3, eq106 (el := .agg [(.i .i64 a0), (.i .i64 a1), (.i .i64 a2)]) ⟨a0, a1, a2, rfl, w0, w1, w2, trivial⟩]
theorem eq29 {l : List AV} (h : Rw (T2 1048576) 1048576 l) : den E 29 [(.imm 1 l), (.imm 1 l)] [] = some (.b true) := by
  have hl := h.1
  rw [f29_eq]
  simp only [decide_true, Bool.not_true, cond_false]
  refine eq_loop (L := fun i => f29_l1 l l i) (n := l.length) (fun i hi => ?_) ?_
  · have hT := h.at hi
    obtain ⟨a0, he, w0, _⟩ := h.at hi
    rw [he] at hT
    try dsimp only
    rw [f29_l1_eq, dT (show (i : Int) < ((l.length : Nat) : Int) by omega), cond_true]
    rw [if_pos (by omega)]
    simp only [Int.toNat_natCast, he]
    rw [if_pos (by rfl), if_pos (by omega), if_pos (by rfl), w64 (by omega) (by omega)]
    simp only [okC_nil, okC_agg, okC_i, okC_b, okC_s, okC_imm, okL_i, okL_b, okL_s, okL_sl, okS_i, okS_b, okS_s, okS_sl, okS_agg, okS_tup, okS_nil, okS_cons, cells_agg, cells_i, cells_b, cells_s, cells_imm, toI_i, toB_b, toS_s, toL_imm, nth_agg, nth_tup, put_agg, put_i, put_b, put_s, put_imm, setCells, List.getD_cons_zero, List.getD_cons_succ, bSh_b, bSh_i, bSh_s, bSh_sl, bSh_some, cond_true, cond_false, decide_true, decide_false, Int.toNat_natCast, Nat.zero_add, Nat.reduceAdd, beq_self_eq_true, Bool.and_true, Bool.true_and, if_true, Bool.false_eq_true, if_false, List.set_cons_zero, List.set_cons_succ, Bool.not_true, Bool.not_false, Bool.and_self]
  · try dsimp only
    rw [f29_l1_eq, dF (Int.lt_irrefl _), cond_false]
theorem eq108 {el : AV} (h : T121 1048576 el) : den E 108 [el, el] [] = some (.b true) := by
  obtain ⟨a0, a1, a2, a3, a4, a5, rfl, w0, w1, w2, w3, w4, w5, _⟩ := h
  rw [f108_eq]
  simp only [okC_nil, okC_agg, okC_i, okC_b, okC_s, okC_imm, okL_i, okL_b, okL_s, okL_sl, okS_i, okS_b, okS_s, okS_sl, okS_agg, okS_tup, okS_nil, okS_cons, cells_agg, cells_i, cells_b, cells_s, cells_imm, toI_i, toB_b, toS_s, toL_imm, nth_agg, nth_tup, put_agg, put_i, put_b, put_s, put_imm, setCells, List.getD_cons_zero, List.getD_cons_succ, bSh_b, bSh_i, bSh_s, bSh_sl, bSh_some, cond_true, cond_false, decide_true, decide_false, Int.toNat_natCast, Nat.zero_add, Nat.reduceAdd, beq_self_eq_true, Bool.and_true, Bool.true_and, if_true, Bool.false_eq_true, if_false, List.set_cons_zero, List.set_cons_succ, Bool.not_true, Bool.not_false, Bool.and_self, eq29 w1, eq29 w4, eq160 w5]
theorem eq58 {l : List AV} (h : Rw (T121 1048576) 1048576 l) : den E 58 [(.imm 6 l), (.imm 6 l)] [] = some (.b true) := by
  have hl := h.1
  rw [f58_eq]
  simp only [decide_true, Bool.not_true, cond_false]
  refine eq_loop (L := fun i => f58_l1 l l i) (n := l.length) (fun i hi => ?_) ?_
  · have hT := h.at hi
    obtain ⟨a0, a1, a2, a3, a4, a5, he, w0, w1, w2, w3, w4, w5, _⟩ := h.at hi
    rw [he] at hT
    try dsimp only
    rw [f58_l1_eq, dT (show (i : Int) < ((l.length : Nat) : Int) by omega), cond_true]
    rw [if_pos (by omega)]
    simp only [Int.toNat_natCast, he]
    rw [if_pos (by rfl), if_pos (by omega), if_pos (by rfl), w64 (by omega) (by omega)]
    simp only [okC_nil, okC_agg, okC_i, okC_b, okC_s, okC_imm, okL_i, okL_b, okL_s, okL_sl, okS_i, okS_b, okS_s, okS_sl, okS_agg, okS_tup, okS_nil, okS_cons, cells_agg, cells_i, cells_b, cells_s, cells_imm, toI_i, toB_b, toS_s, toL_imm, nth_agg, nth_tup, put_agg, put_i, put_b, put_s, put_imm, setCells, List.getD_cons_zero, List.getD_cons_succ, bSh_b, bSh_i, bSh_s, bSh_sl, bSh_some, cond_true, cond_false, decide_true, decide_false, Int.toNat_natCast, Nat.zero_add, Nat.reduceAdd, beq_self_eq_true, Bool.and_true, Bool.true_and, if_true, Bool.false_eq_true, if_false, List.set_cons_zero, List.set_cons_succ, Bool.not_true, Bool.not_false, Bool.and_self, eq108 hT]
  · try dsimp only
    rw [f58_l1_eq, dF (Int.lt_irrefl _), cond_false]
theorem eq14 {el : AV} (h : T29 1048576 el) : den E 14 [el, el] [] = some (.b true) := by
  obtain ⟨a0, a1, a2, a3, a4, a5, a6, a7, a8, rfl, w0, w1, w2, w3, w4, w5, w7, w8, _⟩ := h
  rw [f14_eq]
  simp only [okC_nil, okC_agg, okC_i, okC_b, okC_s, okC_imm, okL_i, okL_b, okL_s, okL_sl, okS_i, okS_b, okS_s, okS_sl, okS_agg, okS_tup, okS_nil, okS_cons, cells_agg, cells_i, cells_b, cells_s, cells_imm, toI_i, toB_b, toS_s, toL_imm, nth_agg, nth_tup, put_agg, put_i, put_b, put_s, put_imm, setCells, List.getD_cons_zero, List.getD_cons_succ, bSh_b, bSh_i, bSh_s, bSh_sl, bSh_some, cond_true, cond_false, decide_true, decide_false, Int.toNat_natCast, Nat.zero_add, Nat.reduceAdd, beq_self_eq_true, Bool.and_true, Bool.true_and, if_true, Bool.false_eq_true, if_false, List.set_cons_zero, List.set_cons_succ, Bool.not_true, Bool.not_false, Bool.and_self, eq58 w8, eq57 (el := .agg [(.i .i64 a0), (.i .i64 a1), (.i .i64 a2), (.imm 4 a3), (.i .i64 a4), (.i .i64 a5), (.b a6), (.i .i64 a7)]) ⟨a0, a1, a2, a3, a4, a5, a6, a7, rfl, w0, w1, w2, w3, w4, w5, w7, trivial⟩]
end Go.Proofs.Ytokpbjbngnlepaa.IWearOfZone
