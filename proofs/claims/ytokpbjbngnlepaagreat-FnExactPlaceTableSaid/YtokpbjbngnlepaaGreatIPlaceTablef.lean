/- Printed by a program of this work (wip/it/itf.py): typed trees; the families sz, to, eq. No condition beyond what each theorem states. -/
import Derived.Test.YtokpbjbngnlepaaGreatIPlaceTablex
import Derived.Test.YtokpbjbngnlepaaGreatIt2
namespace Go.Proofs.YtokpbjbngnlepaaGreat.IPlaceTable
open Go Go.Proofs.YtokpbjbngnlepaaGreatIT
set_option linter.unusedVariables false
set_option linter.unusedSimpArgs false
def T9 (B : Nat) (el : AV) : Prop := ∃ (a0 : ByteArray), el = AV.s a0 ∧ a0.size ≤ B ∧ True
theorem T9.eta {B : Nat} {el : AV} (h : T9 B el) : AV.s (el.cells.getD 0 .x).toS = el := by obtain ⟨a0, rfl, _, _⟩ := h; rfl
theorem T9.ok {B : Nat} {el : AV} (h : T9 B el) : okCells false el 0 [.s] = true := by obtain ⟨a0, rfl, _, _⟩ := h; rfl
theorem T9_of {el : AV} (h : El E .s el) : T9 9223372036854775807 el := by
  have h0 : WL E .s el := El.leaf rfl (fun _ => rfl) h
  obtain ⟨a0, rfl, w0⟩ := h0.str
  exact ⟨a0, rfl, w0, trivial⟩
def T135 (B : Nat) (el : AV) : Prop := ∃ (a0 : Int) (a1 : Int) (a2 : Bool) (a3 : List AV), el = AV.agg [(.i .i64 a0), (.i .i64 a1), (.b a2), (.imm 1 a3)] ∧ W64 a0 ∧ W64 a1 ∧ Rw (T9 B) B a3 ∧ True
theorem T135.eta {B : Nat} {el : AV} (h : T135 B el) : AV.agg [(.i .i64 (el.cells.getD 0 .x).toI), (.i .i64 (el.cells.getD 1 .x).toI), (.b (el.cells.getD 2 .x).toB), (.imm 1 (el.cells.getD 3 .x).toL)] = el := by obtain ⟨a0, a1, a2, a3, rfl, _, _, _, _⟩ := h; rfl
theorem T135.ok {B : Nat} {el : AV} (h : T135 B el) : okCells false el 0 [(.i .i64), (.i .i64), .b, (.sl 9 1)] = true := by obtain ⟨a0, a1, a2, a3, rfl, _, _, _, _⟩ := h; rfl
theorem T135.ok0 {B : Nat} {el : AV} (h : T135 B el) : okCells false el 0 [(.i .i64)] = true := by obtain ⟨a0, a1, a2, a3, rfl, _, _, _, _⟩ := h; rfl
theorem T135.ok1 {B : Nat} {el : AV} (h : T135 B el) : okCells false el 1 [(.i .i64)] = true := by obtain ⟨a0, a1, a2, a3, rfl, _, _, _, _⟩ := h; rfl
theorem T135.ok2 {B : Nat} {el : AV} (h : T135 B el) : okCells false el 2 [.b] = true := by obtain ⟨a0, a1, a2, a3, rfl, _, _, _, _⟩ := h; rfl
theorem T135.ok3 {B : Nat} {el : AV} (h : T135 B el) : okCells false el 3 [(.sl 9 1)] = true := by obtain ⟨a0, a1, a2, a3, rfl, _, _, _, _⟩ := h; rfl
theorem T135_of {el : AV} (h : El E (.agg [(.i .i64), (.i .i64), .b, (.sl 9 1)]) el) : T135 9223372036854775807 el := by
  obtain ⟨cs, rfl, hs⟩ := h.agg
  obtain ⟨y0, c0, rfl, h0, hs⟩ := hs.out
  obtain ⟨y1, c1, rfl, h1, hs⟩ := hs.out
  obtain ⟨y2, c2, rfl, h2, hs⟩ := hs.out
  obtain ⟨y3, c3, rfl, h3, hs⟩ := hs.out
  obtain rfl := hs.end
  obtain ⟨a0, rfl, w0⟩ := h0.int
  obtain ⟨a1, rfl, w1⟩ := h1.int
  obtain ⟨a2, rfl⟩ := h2.bool
  obtain ⟨a3, rfl, w3, r3⟩ := h3.row (te := ⟨.s, 1, 16, 0, []⟩) rfl
  exact ⟨a0, a1, a2, a3, rfl, wf_64 w0, wf_64 w1, ⟨w3, fun el hel => T9_of (r3 el hel)⟩, trivial⟩
def T2 (B : Nat) (el : AV) : Prop := ∃ (a0 : Int), el = AV.i .i64 a0 ∧ W64 a0 ∧ True
theorem T2.eta {B : Nat} {el : AV} (h : T2 B el) : AV.i .i64 (el.cells.getD 0 .x).toI = el := by obtain ⟨a0, rfl, _, _⟩ := h; rfl
theorem T2.ok {B : Nat} {el : AV} (h : T2 B el) : okCells false el 0 [(.i .i64)] = true := by obtain ⟨a0, rfl, _, _⟩ := h; rfl
theorem T2_of {el : AV} (h : El E (.i .i64) el) : T2 9223372036854775807 el := by
  have h0 : WL E (.i .i64) el := El.leaf rfl (fun _ => rfl) h
  obtain ⟨a0, rfl, w0⟩ := h0.int
  exact ⟨a0, rfl, wf_64 w0, trivial⟩
def T95 (B : Nat) (el : AV) : Prop := ∃ (a0 : Int) (a1 : List AV) (a2 : Int) (a3 : Int) (a4 : List AV) (a5 : List AV), el = AV.agg [(.i .i64 a0), (.imm 1 a1), (.i .i64 a2), (.i .i64 a3), (.imm 1 a4), (.imm 1 a5)] ∧ W64 a0 ∧ Rw (T2 B) B a1 ∧ W64 a2 ∧ W64 a3 ∧ Rw (T2 B) B a4 ∧ Rw (T9 B) B a5 ∧ True
theorem T95.eta {B : Nat} {el : AV} (h : T95 B el) : AV.agg [(.i .i64 (el.cells.getD 0 .x).toI), (.imm 1 (el.cells.getD 1 .x).toL), (.i .i64 (el.cells.getD 2 .x).toI), (.i .i64 (el.cells.getD 3 .x).toI), (.imm 1 (el.cells.getD 4 .x).toL), (.imm 1 (el.cells.getD 5 .x).toL)] = el := by obtain ⟨a0, a1, a2, a3, a4, a5, rfl, _, _, _, _, _, _, _⟩ := h; rfl
theorem T95.ok {B : Nat} {el : AV} (h : T95 B el) : okCells false el 0 [(.i .i64), (.sl 2 1), (.i .i64), (.i .i64), (.sl 2 1), (.sl 9 1)] = true := by obtain ⟨a0, a1, a2, a3, a4, a5, rfl, _, _, _, _, _, _, _⟩ := h; rfl
theorem T95.ok0 {B : Nat} {el : AV} (h : T95 B el) : okCells false el 0 [(.i .i64)] = true := by obtain ⟨a0, a1, a2, a3, a4, a5, rfl, _, _, _, _, _, _, _⟩ := h; rfl
theorem T95.ok1 {B : Nat} {el : AV} (h : T95 B el) : okCells false el 1 [(.sl 2 1)] = true := by obtain ⟨a0, a1, a2, a3, a4, a5, rfl, _, _, _, _, _, _, _⟩ := h; rfl
theorem T95.ok2 {B : Nat} {el : AV} (h : T95 B el) : okCells false el 2 [(.i .i64)] = true := by obtain ⟨a0, a1, a2, a3, a4, a5, rfl, _, _, _, _, _, _, _⟩ := h; rfl
theorem T95.ok3 {B : Nat} {el : AV} (h : T95 B el) : okCells false el 3 [(.i .i64)] = true := by obtain ⟨a0, a1, a2, a3, a4, a5, rfl, _, _, _, _, _, _, _⟩ := h; rfl
theorem T95.ok4 {B : Nat} {el : AV} (h : T95 B el) : okCells false el 4 [(.sl 2 1)] = true := by obtain ⟨a0, a1, a2, a3, a4, a5, rfl, _, _, _, _, _, _, _⟩ := h; rfl
theorem T95.ok5 {B : Nat} {el : AV} (h : T95 B el) : okCells false el 5 [(.sl 9 1)] = true := by obtain ⟨a0, a1, a2, a3, a4, a5, rfl, _, _, _, _, _, _, _⟩ := h; rfl
theorem T95_of {el : AV} (h : El E (.agg [(.i .i64), (.sl 2 1), (.i .i64), (.i .i64), (.sl 2 1), (.sl 9 1)]) el) : T95 9223372036854775807 el := by
  obtain ⟨cs, rfl, hs⟩ := h.agg
  obtain ⟨y0, c0, rfl, h0, hs⟩ := hs.out
  obtain ⟨y1, c1, rfl, h1, hs⟩ := hs.out
  obtain ⟨y2, c2, rfl, h2, hs⟩ := hs.out
  obtain ⟨y3, c3, rfl, h3, hs⟩ := hs.out
  obtain ⟨y4, c4, rfl, h4, hs⟩ := hs.out
  obtain ⟨y5, c5, rfl, h5, hs⟩ := hs.out
  obtain rfl := hs.end
  obtain ⟨a0, rfl, w0⟩ := h0.int
  obtain ⟨a1, rfl, w1, r1⟩ := h1.row (te := ⟨(.i .i64), 1, 8, 0, []⟩) rfl
  obtain ⟨a2, rfl, w2⟩ := h2.int
  obtain ⟨a3, rfl, w3⟩ := h3.int
  obtain ⟨a4, rfl, w4, r4⟩ := h4.row (te := ⟨(.i .i64), 1, 8, 0, []⟩) rfl
  obtain ⟨a5, rfl, w5, r5⟩ := h5.row (te := ⟨.s, 1, 16, 0, []⟩) rfl
  exact ⟨a0, a1, a2, a3, a4, a5, rfl, wf_64 w0, ⟨w1, fun el hel => T2_of (r1 el hel)⟩, wf_64 w2, wf_64 w3, ⟨w4, fun el hel => T2_of (r4 el hel)⟩, ⟨w5, fun el hel => T9_of (r5 el hel)⟩, trivial⟩
def T29 (B : Nat) (el : AV) : Prop := ∃ (a0 : Int) (a1 : Int) (a2 : Int) (a3 : List AV) (a4 : Int) (a5 : Int) (a6 : Bool) (a7 : Int) (a8 : List AV), el = AV.agg [(.i .i64 a0), (.i .i64 a1), (.i .i64 a2), (.imm 4 a3), (.i .i64 a4), (.i .i64 a5), (.b a6), (.i .i64 a7), (.imm 6 a8)] ∧ W64 a0 ∧ W64 a1 ∧ W64 a2 ∧ Rw (T135 B) B a3 ∧ W64 a4 ∧ W64 a5 ∧ W64 a7 ∧ Rw (T95 B) B a8 ∧ True
theorem T29.eta {B : Nat} {el : AV} (h : T29 B el) : AV.agg [(.i .i64 (el.cells.getD 0 .x).toI), (.i .i64 (el.cells.getD 1 .x).toI), (.i .i64 (el.cells.getD 2 .x).toI), (.imm 4 (el.cells.getD 3 .x).toL), (.i .i64 (el.cells.getD 4 .x).toI), (.i .i64 (el.cells.getD 5 .x).toI), (.b (el.cells.getD 6 .x).toB), (.i .i64 (el.cells.getD 7 .x).toI), (.imm 6 (el.cells.getD 8 .x).toL)] = el := by obtain ⟨a0, a1, a2, a3, a4, a5, a6, a7, a8, rfl, _, _, _, _, _, _, _, _, _⟩ := h; rfl
theorem T29.ok {B : Nat} {el : AV} (h : T29 B el) : okCells false el 0 [(.i .i64), (.i .i64), (.i .i64), (.sl 135 4), (.i .i64), (.i .i64), .b, (.i .i64), (.sl 95 6)] = true := by obtain ⟨a0, a1, a2, a3, a4, a5, a6, a7, a8, rfl, _, _, _, _, _, _, _, _, _⟩ := h; rfl
theorem T29.ok0 {B : Nat} {el : AV} (h : T29 B el) : okCells false el 0 [(.i .i64)] = true := by obtain ⟨a0, a1, a2, a3, a4, a5, a6, a7, a8, rfl, _, _, _, _, _, _, _, _, _⟩ := h; rfl
theorem T29.ok1 {B : Nat} {el : AV} (h : T29 B el) : okCells false el 1 [(.i .i64)] = true := by obtain ⟨a0, a1, a2, a3, a4, a5, a6, a7, a8, rfl, _, _, _, _, _, _, _, _, _⟩ := h; rfl
theorem T29.ok2 {B : Nat} {el : AV} (h : T29 B el) : okCells false el 2 [(.i .i64)] = true := by obtain ⟨a0, a1, a2, a3, a4, a5, a6, a7, a8, rfl, _, _, _, _, _, _, _, _, _⟩ := h; rfl
theorem T29.ok3 {B : Nat} {el : AV} (h : T29 B el) : okCells false el 3 [(.sl 135 4)] = true := by obtain ⟨a0, a1, a2, a3, a4, a5, a6, a7, a8, rfl, _, _, _, _, _, _, _, _, _⟩ := h; rfl
theorem T29.ok4 {B : Nat} {el : AV} (h : T29 B el) : okCells false el 4 [(.i .i64)] = true := by obtain ⟨a0, a1, a2, a3, a4, a5, a6, a7, a8, rfl, _, _, _, _, _, _, _, _, _⟩ := h; rfl
theorem T29.ok5 {B : Nat} {el : AV} (h : T29 B el) : okCells false el 5 [(.i .i64)] = true := by obtain ⟨a0, a1, a2, a3, a4, a5, a6, a7, a8, rfl, _, _, _, _, _, _, _, _, _⟩ := h; rfl
theorem T29.ok6 {B : Nat} {el : AV} (h : T29 B el) : okCells false el 6 [.b] = true := by obtain ⟨a0, a1, a2, a3, a4, a5, a6, a7, a8, rfl, _, _, _, _, _, _, _, _, _⟩ := h; rfl
theorem T29.ok7 {B : Nat} {el : AV} (h : T29 B el) : okCells false el 7 [(.i .i64)] = true := by obtain ⟨a0, a1, a2, a3, a4, a5, a6, a7, a8, rfl, _, _, _, _, _, _, _, _, _⟩ := h; rfl
theorem T29.ok8 {B : Nat} {el : AV} (h : T29 B el) : okCells false el 8 [(.sl 95 6)] = true := by obtain ⟨a0, a1, a2, a3, a4, a5, a6, a7, a8, rfl, _, _, _, _, _, _, _, _, _⟩ := h; rfl
theorem T29_of {el : AV} (h : El E (.agg [(.i .i64), (.i .i64), (.i .i64), (.sl 135 4), (.i .i64), (.i .i64), .b, (.i .i64), (.sl 95 6)]) el) : T29 9223372036854775807 el := by
  obtain ⟨cs, rfl, hs⟩ := h.agg
  obtain ⟨y0, c0, rfl, h0, hs⟩ := hs.out
  obtain ⟨y1, c1, rfl, h1, hs⟩ := hs.out
  obtain ⟨y2, c2, rfl, h2, hs⟩ := hs.out
  obtain ⟨y3, c3, rfl, h3, hs⟩ := hs.out
  obtain ⟨y4, c4, rfl, h4, hs⟩ := hs.out
  obtain ⟨y5, c5, rfl, h5, hs⟩ := hs.out
  obtain ⟨y6, c6, rfl, h6, hs⟩ := hs.out
  obtain ⟨y7, c7, rfl, h7, hs⟩ := hs.out
  obtain ⟨y8, c8, rfl, h8, hs⟩ := hs.out
  obtain rfl := hs.end
  obtain ⟨a0, rfl, w0⟩ := h0.int
  obtain ⟨a1, rfl, w1⟩ := h1.int
  obtain ⟨a2, rfl, w2⟩ := h2.int
  obtain ⟨a3, rfl, w3, r3⟩ := h3.row (te := ⟨(.agg [(.i .i64), (.i .i64), .b, (.sl 9 1)]), 4, 48, 0, [(0, 2), (1, 2), (2, 4), (3, 93)]⟩) rfl
  obtain ⟨a4, rfl, w4⟩ := h4.int
  obtain ⟨a5, rfl, w5⟩ := h5.int
  obtain ⟨a6, rfl⟩ := h6.bool
  obtain ⟨a7, rfl, w7⟩ := h7.int
  obtain ⟨a8, rfl, w8, r8⟩ := h8.row (te := ⟨(.agg [(.i .i64), (.sl 2 1), (.i .i64), (.i .i64), (.sl 2 1), (.sl 9 1)]), 6, 96, 0, [(0, 2), (1, 54), (2, 2), (3, 2), (4, 54), (5, 93)]⟩) rfl
  exact ⟨a0, a1, a2, a3, a4, a5, a6, a7, a8, rfl, wf_64 w0, wf_64 w1, wf_64 w2, ⟨w3, fun el hel => T135_of (r3 el hel)⟩, wf_64 w4, wf_64 w5, wf_64 w7, ⟨w8, fun el hel => T95_of (r8 el hel)⟩, trivial⟩
def T98 (B : Nat) (el : AV) : Prop := ∃ (a0 : Int) (a1 : Int) (a2 : Int) (a3 : Int) (a4 : Int) (a5 : ByteArray) (a6 : ByteArray) (a7 : Int) (a8 : Int) (a9 : Int), el = AV.agg [(.i .i64 a0), (.i .i64 a1), (.i .i64 a2), (.i .i64 a3), (.i .i64 a4), (.s a5), (.s a6), (.i .i64 a7), (.i .i64 a8), (.i .i64 a9)] ∧ W64 a0 ∧ W64 a1 ∧ W64 a2 ∧ W64 a3 ∧ W64 a4 ∧ a5.size ≤ B ∧ a6.size ≤ B ∧ W64 a7 ∧ W64 a8 ∧ W64 a9 ∧ True
theorem T98.eta {B : Nat} {el : AV} (h : T98 B el) : AV.agg [(.i .i64 (el.cells.getD 0 .x).toI), (.i .i64 (el.cells.getD 1 .x).toI), (.i .i64 (el.cells.getD 2 .x).toI), (.i .i64 (el.cells.getD 3 .x).toI), (.i .i64 (el.cells.getD 4 .x).toI), (.s (el.cells.getD 5 .x).toS), (.s (el.cells.getD 6 .x).toS), (.i .i64 (el.cells.getD 7 .x).toI), (.i .i64 (el.cells.getD 8 .x).toI), (.i .i64 (el.cells.getD 9 .x).toI)] = el := by obtain ⟨a0, a1, a2, a3, a4, a5, a6, a7, a8, a9, rfl, _, _, _, _, _, _, _, _, _, _, _⟩ := h; rfl
theorem T98.ok {B : Nat} {el : AV} (h : T98 B el) : okCells false el 0 [(.i .i64), (.i .i64), (.i .i64), (.i .i64), (.i .i64), .s, .s, (.i .i64), (.i .i64), (.i .i64)] = true := by obtain ⟨a0, a1, a2, a3, a4, a5, a6, a7, a8, a9, rfl, _, _, _, _, _, _, _, _, _, _, _⟩ := h; rfl
theorem T98.ok0 {B : Nat} {el : AV} (h : T98 B el) : okCells false el 0 [(.i .i64)] = true := by obtain ⟨a0, a1, a2, a3, a4, a5, a6, a7, a8, a9, rfl, _, _, _, _, _, _, _, _, _, _, _⟩ := h; rfl
theorem T98.ok1 {B : Nat} {el : AV} (h : T98 B el) : okCells false el 1 [(.i .i64)] = true := by obtain ⟨a0, a1, a2, a3, a4, a5, a6, a7, a8, a9, rfl, _, _, _, _, _, _, _, _, _, _, _⟩ := h; rfl
theorem T98.ok2 {B : Nat} {el : AV} (h : T98 B el) : okCells false el 2 [(.i .i64)] = true := by obtain ⟨a0, a1, a2, a3, a4, a5, a6, a7, a8, a9, rfl, _, _, _, _, _, _, _, _, _, _, _⟩ := h; rfl
theorem T98.ok3 {B : Nat} {el : AV} (h : T98 B el) : okCells false el 3 [(.i .i64)] = true := by obtain ⟨a0, a1, a2, a3, a4, a5, a6, a7, a8, a9, rfl, _, _, _, _, _, _, _, _, _, _, _⟩ := h; rfl
theorem T98.ok4 {B : Nat} {el : AV} (h : T98 B el) : okCells false el 4 [(.i .i64)] = true := by obtain ⟨a0, a1, a2, a3, a4, a5, a6, a7, a8, a9, rfl, _, _, _, _, _, _, _, _, _, _, _⟩ := h; rfl
theorem T98.ok5 {B : Nat} {el : AV} (h : T98 B el) : okCells false el 5 [.s] = true := by obtain ⟨a0, a1, a2, a3, a4, a5, a6, a7, a8, a9, rfl, _, _, _, _, _, _, _, _, _, _, _⟩ := h; rfl
theorem T98.ok6 {B : Nat} {el : AV} (h : T98 B el) : okCells false el 6 [.s] = true := by obtain ⟨a0, a1, a2, a3, a4, a5, a6, a7, a8, a9, rfl, _, _, _, _, _, _, _, _, _, _, _⟩ := h; rfl
theorem T98.ok7 {B : Nat} {el : AV} (h : T98 B el) : okCells false el 7 [(.i .i64)] = true := by obtain ⟨a0, a1, a2, a3, a4, a5, a6, a7, a8, a9, rfl, _, _, _, _, _, _, _, _, _, _, _⟩ := h; rfl
theorem T98.ok8 {B : Nat} {el : AV} (h : T98 B el) : okCells false el 8 [(.i .i64)] = true := by obtain ⟨a0, a1, a2, a3, a4, a5, a6, a7, a8, a9, rfl, _, _, _, _, _, _, _, _, _, _, _⟩ := h; rfl
theorem T98.ok9 {B : Nat} {el : AV} (h : T98 B el) : okCells false el 9 [(.i .i64)] = true := by obtain ⟨a0, a1, a2, a3, a4, a5, a6, a7, a8, a9, rfl, _, _, _, _, _, _, _, _, _, _, _⟩ := h; rfl
theorem T98_of {el : AV} (h : El E (.agg [(.i .i64), (.i .i64), (.i .i64), (.i .i64), (.i .i64), .s, .s, (.i .i64), (.i .i64), (.i .i64)]) el) : T98 9223372036854775807 el := by
  obtain ⟨cs, rfl, hs⟩ := h.agg
  obtain ⟨y0, c0, rfl, h0, hs⟩ := hs.out
  obtain ⟨y1, c1, rfl, h1, hs⟩ := hs.out
  obtain ⟨y2, c2, rfl, h2, hs⟩ := hs.out
  obtain ⟨y3, c3, rfl, h3, hs⟩ := hs.out
  obtain ⟨y4, c4, rfl, h4, hs⟩ := hs.out
  obtain ⟨y5, c5, rfl, h5, hs⟩ := hs.out
  obtain ⟨y6, c6, rfl, h6, hs⟩ := hs.out
  obtain ⟨y7, c7, rfl, h7, hs⟩ := hs.out
  obtain ⟨y8, c8, rfl, h8, hs⟩ := hs.out
  obtain ⟨y9, c9, rfl, h9, hs⟩ := hs.out
  obtain rfl := hs.end
  obtain ⟨a0, rfl, w0⟩ := h0.int
  obtain ⟨a1, rfl, w1⟩ := h1.int
  obtain ⟨a2, rfl, w2⟩ := h2.int
  obtain ⟨a3, rfl, w3⟩ := h3.int
  obtain ⟨a4, rfl, w4⟩ := h4.int
  obtain ⟨a5, rfl, w5⟩ := h5.str
  obtain ⟨a6, rfl, w6⟩ := h6.str
  obtain ⟨a7, rfl, w7⟩ := h7.int
  obtain ⟨a8, rfl, w8⟩ := h8.int
  obtain ⟨a9, rfl, w9⟩ := h9.int
  exact ⟨a0, a1, a2, a3, a4, a5, a6, a7, a8, a9, rfl, wf_64 w0, wf_64 w1, wf_64 w2, wf_64 w3, wf_64 w4, w5, w6, wf_64 w7, wf_64 w8, wf_64 w9, trivial⟩
def T32 (B : Nat) (el : AV) : Prop := ∃ (a0 : Int) (a1 : Int) (a2 : Int) (a3 : List AV), el = AV.agg [(.i .i64 a0), (.i .i64 a1), (.i .i64 a2), (.imm 10 a3)] ∧ W64 a0 ∧ W64 a1 ∧ W64 a2 ∧ Rw (T98 B) B a3 ∧ True
theorem T32.eta {B : Nat} {el : AV} (h : T32 B el) : AV.agg [(.i .i64 (el.cells.getD 0 .x).toI), (.i .i64 (el.cells.getD 1 .x).toI), (.i .i64 (el.cells.getD 2 .x).toI), (.imm 10 (el.cells.getD 3 .x).toL)] = el := by obtain ⟨a0, a1, a2, a3, rfl, _, _, _, _, _⟩ := h; rfl
theorem T32.ok {B : Nat} {el : AV} (h : T32 B el) : okCells false el 0 [(.i .i64), (.i .i64), (.i .i64), (.sl 98 10)] = true := by obtain ⟨a0, a1, a2, a3, rfl, _, _, _, _, _⟩ := h; rfl
theorem T32.ok0 {B : Nat} {el : AV} (h : T32 B el) : okCells false el 0 [(.i .i64)] = true := by obtain ⟨a0, a1, a2, a3, rfl, _, _, _, _, _⟩ := h; rfl
theorem T32.ok1 {B : Nat} {el : AV} (h : T32 B el) : okCells false el 1 [(.i .i64)] = true := by obtain ⟨a0, a1, a2, a3, rfl, _, _, _, _, _⟩ := h; rfl
theorem T32.ok2 {B : Nat} {el : AV} (h : T32 B el) : okCells false el 2 [(.i .i64)] = true := by obtain ⟨a0, a1, a2, a3, rfl, _, _, _, _, _⟩ := h; rfl
theorem T32.ok3 {B : Nat} {el : AV} (h : T32 B el) : okCells false el 3 [(.sl 98 10)] = true := by obtain ⟨a0, a1, a2, a3, rfl, _, _, _, _, _⟩ := h; rfl
theorem T32_of {el : AV} (h : El E (.agg [(.i .i64), (.i .i64), (.i .i64), (.sl 98 10)]) el) : T32 9223372036854775807 el := by
  obtain ⟨cs, rfl, hs⟩ := h.agg
  obtain ⟨y0, c0, rfl, h0, hs⟩ := hs.out
  obtain ⟨y1, c1, rfl, h1, hs⟩ := hs.out
  obtain ⟨y2, c2, rfl, h2, hs⟩ := hs.out
  obtain ⟨y3, c3, rfl, h3, hs⟩ := hs.out
  obtain rfl := hs.end
  obtain ⟨a0, rfl, w0⟩ := h0.int
  obtain ⟨a1, rfl, w1⟩ := h1.int
  obtain ⟨a2, rfl, w2⟩ := h2.int
  obtain ⟨a3, rfl, w3, r3⟩ := h3.row (te := ⟨(.agg [(.i .i64), (.i .i64), (.i .i64), (.i .i64), (.i .i64), .s, .s, (.i .i64), (.i .i64), (.i .i64)]), 10, 96, 0, [(0, 2), (1, 2), (2, 2), (3, 2), (4, 2), (5, 9), (6, 9), (7, 2), (8, 2), (9, 2)]⟩) rfl
  exact ⟨a0, a1, a2, a3, rfl, wf_64 w0, wf_64 w1, wf_64 w2, ⟨w3, fun el hel => T98_of (r3 el hel)⟩, trivial⟩
theorem sz99 {l : List AV} (h : Rw (T9 9223372036854775807) 9223372036854775807 l) (left : Int) (h0 : 0 ≤ left) (h1 : left ≤ 1048576) : Sz (den E 99 [(.imm 1 l), (.i .i64 left)] []) left (Rw (T9 1048576) 1048576 l) := by
  have hl := h.1
  rw [f99_eq, w64 (by omega) (by omega)]
  refine Sz.c fun c => ?_
  refine ((sz_loop (L := fun left i => f99_l1 l left i) (n := l.length) (Pz := fun i => T9 1048576 (l.getD i .x)) ?_ ?_ l.length 0 _ (by omega) c (by omega)).mono (by omega) fun hq => Rw.mk (by omega) fun i hi => hq i (Nat.zero_le _) hi)
  · intro i left hi h0 h1
    obtain ⟨a0, he, w0, _⟩ := h.at hi
    try dsimp only
    rw [f99_l1_eq, dT (show (i : Int) < ((l.length : Nat) : Int) by omega), cond_true]
    rw [if_pos (by omega)]
    simp only [Int.toNat_natCast, he]
    rw [if_pos (by rfl), w64 (x := (i : Int) + 1) (by omega) (by omega)]
    simp only [cells_s, List.getD_cons_zero, toS_s]
    rw [w64 (x := left - ((a0.size : Nat) : Int)) (by omega) (by omega)]
    by_cases hc : left - ((a0.size : Nat) : Int) < 0
    · exact .inl ⟨-1, by decide, by simp only [hc, decide_true, cond_true]⟩
    · exact .inr ⟨left - ((a0.size : Nat) : Int), by omega, by omega, ⟨a0, by first | exact he | rfl, by omega, trivial⟩, by simp only [hc, decide_false, cond_false]⟩
  · intro left
    try dsimp only
    rw [f99_l1_eq, dF (Int.lt_irrefl _), cond_false]
theorem sz97 {el : AV} (h : T135 9223372036854775807 el) (left : Int) (h0 : 0 ≤ left) (h1 : left ≤ 1048576) : Sz (den E 97 [el, (.i .i64 left)] []) left (T135 1048576 el) := by
  obtain ⟨a0, a1, a2, a3, rfl, w0, w1, w3, _⟩ := h
  rw [f97_eq]
  refine Sz.call (sz99 w3 left (by omega) (by omega)) (by omega) (fun l1 c1 d1 q3 => ?_) (fun r hr => Sz.neg hr)
  simp only [AV.toI]
  refine Sz.c fun _ => ?_
  exact Sz.done (by omega) (by omega) ⟨a0, a1, a2, a3, rfl, w0, w1, q3, trivial⟩
theorem sz58 {l : List AV} (h : Rw (T135 9223372036854775807) 9223372036854775807 l) (left : Int) (h0 : 0 ≤ left) (h1 : left ≤ 1048576) : Sz (den E 58 [(.imm 4 l), (.i .i64 left)] []) left (Rw (T135 1048576) 1048576 l) := by
  have hl := h.1
  rw [f58_eq, w64 (by omega) (by omega)]
  refine Sz.c fun c => ?_
  refine ((sz_loop (L := fun left i => f58_l1 l left i) (n := l.length) (Pz := fun i => T135 1048576 (l.getD i .x)) ?_ ?_ l.length 0 _ (by omega) c (by omega)).mono (by omega) fun hq => Rw.mk (by omega) fun i hi => hq i (Nat.zero_le _) hi)
  · intro i left hi h0 h1
    have hT := h.at hi
    refine (sz97 hT left h0 h1).step (K := fun r => f58_l1 l r ((i : Int) + 1)) fun r hr => ?_
    obtain ⟨a0, a1, a2, a3, he, w0, w1, w3, _⟩ := hT
    rw [he] at hr
    try dsimp only
    rw [f58_l1_eq, dT (show (i : Int) < ((l.length : Nat) : Int) by omega), cond_true]
    rw [if_pos (by omega)]
    simp only [Int.toNat_natCast, he]
    rw [if_pos (by rfl), w64 (by omega) (by omega)]
    simp only [okC_nil, okC_agg, okC_i, okC_b, okC_s, okC_imm, okL_i, okL_b, okL_s, okL_sl, okS_i, okS_b, okS_s, okS_sl, okS_agg, okS_tup, okS_nil, okS_cons, cells_agg, cells_i, cells_b, cells_s, cells_imm, toI_i, toB_b, toS_s, toL_imm, nth_agg, nth_tup, put_agg, put_i, put_b, put_s, put_imm, setCells, List.getD_cons_zero, List.getD_cons_succ, bSh_b, bSh_i, bSh_s, bSh_sl, bSh_some, cond_true, cond_false, decide_true, decide_false, Int.toNat_natCast, Nat.zero_add, Nat.reduceAdd, beq_self_eq_true, Bool.and_true, Bool.true_and, if_true, Bool.false_eq_true, if_false, List.set_cons_zero, List.set_cons_succ, Bool.not_true, Bool.not_false, Bool.and_self, hr]
    try rfl
  · intro left
    try dsimp only
    rw [f58_l1_eq, dF (Int.lt_irrefl _), cond_false]
def T26 (B : Nat) (el : AV) : Prop := ∃ (a0 : Int) (a1 : Int) (a2 : Int) (a3 : List AV) (a4 : Int) (a5 : Int) (a6 : Bool) (a7 : Int), el = AV.agg [(.i .i64 a0), (.i .i64 a1), (.i .i64 a2), (.imm 4 a3), (.i .i64 a4), (.i .i64 a5), (.b a6), (.i .i64 a7)] ∧ W64 a0 ∧ W64 a1 ∧ W64 a2 ∧ Rw (T135 B) B a3 ∧ W64 a4 ∧ W64 a5 ∧ W64 a7 ∧ True
theorem T26.eta {B : Nat} {el : AV} (h : T26 B el) : AV.agg [(.i .i64 (el.cells.getD 0 .x).toI), (.i .i64 (el.cells.getD 1 .x).toI), (.i .i64 (el.cells.getD 2 .x).toI), (.imm 4 (el.cells.getD 3 .x).toL), (.i .i64 (el.cells.getD 4 .x).toI), (.i .i64 (el.cells.getD 5 .x).toI), (.b (el.cells.getD 6 .x).toB), (.i .i64 (el.cells.getD 7 .x).toI)] = el := by obtain ⟨a0, a1, a2, a3, a4, a5, a6, a7, rfl, _, _, _, _, _, _, _, _⟩ := h; rfl
theorem T26.ok {B : Nat} {el : AV} (h : T26 B el) : okCells false el 0 [(.i .i64), (.i .i64), (.i .i64), (.sl 135 4), (.i .i64), (.i .i64), .b, (.i .i64)] = true := by obtain ⟨a0, a1, a2, a3, a4, a5, a6, a7, rfl, _, _, _, _, _, _, _, _⟩ := h; rfl
theorem T26.ok0 {B : Nat} {el : AV} (h : T26 B el) : okCells false el 0 [(.i .i64)] = true := by obtain ⟨a0, a1, a2, a3, a4, a5, a6, a7, rfl, _, _, _, _, _, _, _, _⟩ := h; rfl
theorem T26.ok1 {B : Nat} {el : AV} (h : T26 B el) : okCells false el 1 [(.i .i64)] = true := by obtain ⟨a0, a1, a2, a3, a4, a5, a6, a7, rfl, _, _, _, _, _, _, _, _⟩ := h; rfl
theorem T26.ok2 {B : Nat} {el : AV} (h : T26 B el) : okCells false el 2 [(.i .i64)] = true := by obtain ⟨a0, a1, a2, a3, a4, a5, a6, a7, rfl, _, _, _, _, _, _, _, _⟩ := h; rfl
theorem T26.ok3 {B : Nat} {el : AV} (h : T26 B el) : okCells false el 3 [(.sl 135 4)] = true := by obtain ⟨a0, a1, a2, a3, a4, a5, a6, a7, rfl, _, _, _, _, _, _, _, _⟩ := h; rfl
theorem T26.ok4 {B : Nat} {el : AV} (h : T26 B el) : okCells false el 4 [(.i .i64)] = true := by obtain ⟨a0, a1, a2, a3, a4, a5, a6, a7, rfl, _, _, _, _, _, _, _, _⟩ := h; rfl
theorem T26.ok5 {B : Nat} {el : AV} (h : T26 B el) : okCells false el 5 [(.i .i64)] = true := by obtain ⟨a0, a1, a2, a3, a4, a5, a6, a7, rfl, _, _, _, _, _, _, _, _⟩ := h; rfl
theorem T26.ok6 {B : Nat} {el : AV} (h : T26 B el) : okCells false el 6 [.b] = true := by obtain ⟨a0, a1, a2, a3, a4, a5, a6, a7, rfl, _, _, _, _, _, _, _, _⟩ := h; rfl
theorem T26.ok7 {B : Nat} {el : AV} (h : T26 B el) : okCells false el 7 [(.i .i64)] = true := by obtain ⟨a0, a1, a2, a3, a4, a5, a6, a7, rfl, _, _, _, _, _, _, _, _⟩ := h; rfl
theorem T26_of {el : AV} (h : El E (.agg [(.i .i64), (.i .i64), (.i .i64), (.sl 135 4), (.i .i64), (.i .i64), .b, (.i .i64)]) el) : T26 9223372036854775807 el := by
  obtain ⟨cs, rfl, hs⟩ := h.agg
  obtain ⟨y0, c0, rfl, h0, hs⟩ := hs.out
  obtain ⟨y1, c1, rfl, h1, hs⟩ := hs.out
  obtain ⟨y2, c2, rfl, h2, hs⟩ := hs.out
  obtain ⟨y3, c3, rfl, h3, hs⟩ := hs.out
  obtain ⟨y4, c4, rfl, h4, hs⟩ := hs.out
  obtain ⟨y5, c5, rfl, h5, hs⟩ := hs.out
  obtain ⟨y6, c6, rfl, h6, hs⟩ := hs.out
  obtain ⟨y7, c7, rfl, h7, hs⟩ := hs.out
  obtain rfl := hs.end
  obtain ⟨a0, rfl, w0⟩ := h0.int
  obtain ⟨a1, rfl, w1⟩ := h1.int
  obtain ⟨a2, rfl, w2⟩ := h2.int
  obtain ⟨a3, rfl, w3, r3⟩ := h3.row (te := ⟨(.agg [(.i .i64), (.i .i64), .b, (.sl 9 1)]), 4, 48, 0, [(0, 2), (1, 2), (2, 4), (3, 93)]⟩) rfl
  obtain ⟨a4, rfl, w4⟩ := h4.int
  obtain ⟨a5, rfl, w5⟩ := h5.int
  obtain ⟨a6, rfl⟩ := h6.bool
  obtain ⟨a7, rfl, w7⟩ := h7.int
  exact ⟨a0, a1, a2, a3, a4, a5, a6, a7, rfl, wf_64 w0, wf_64 w1, wf_64 w2, ⟨w3, fun el hel => T135_of (r3 el hel)⟩, wf_64 w4, wf_64 w5, wf_64 w7, trivial⟩
theorem sz29 {el : AV} (h : T26 9223372036854775807 el) (left : Int) (h0 : 0 ≤ left) (h1 : left ≤ 1048576) : Sz (den E 29 [el, (.i .i64 left)] []) left (T26 1048576 el) := by
  obtain ⟨a0, a1, a2, a3, a4, a5, a6, a7, rfl, w0, w1, w2, w3, w4, w5, w7, _⟩ := h
  rw [f29_eq]
  refine Sz.call (sz58 w3 left (by omega) (by omega)) (by omega) (fun l1 c1 d1 q3 => ?_) (fun r hr => Sz.neg hr)
  simp only [AV.toI]
  refine Sz.c fun _ => ?_
  exact Sz.done (by omega) (by omega) ⟨a0, a1, a2, a3, a4, a5, a6, a7, rfl, w0, w1, w2, q3, w4, w5, w7, trivial⟩
theorem sz98 {l : List AV} (h : Rw (T2 9223372036854775807) 9223372036854775807 l) (left : Int) (h0 : 0 ≤ left) (h1 : left ≤ 1048576) : Sz (den E 98 [(.imm 1 l), (.i .i64 left)] []) left (Rw (T2 1048576) 1048576 l) := by
  have hl := h.1
  rw [f98_eq, w64 (by omega) (by omega)]
  refine Sz.c fun c => ?_
  exact Sz.done c (by omega) ⟨by omega, fun y hy => by obtain ⟨a0, rfl, w0, _⟩ := h.2 y hy; exact ⟨a0, rfl, w0, trivial⟩⟩
theorem sz59 {el : AV} (h : T95 9223372036854775807 el) (left : Int) (h0 : 0 ≤ left) (h1 : left ≤ 1048576) : Sz (den E 59 [el, (.i .i64 left)] []) left (T95 1048576 el) := by
  obtain ⟨a0, a1, a2, a3, a4, a5, rfl, w0, w1, w2, w3, w4, w5, _⟩ := h
  rw [f59_eq]
  refine Sz.call (sz98 w1 left (by omega) (by omega)) (by omega) (fun l1 c1 d1 q1 => ?_) (fun r hr => Sz.neg hr)
  simp only [AV.toI]
  refine Sz.c fun _ => ?_
  refine Sz.call (sz98 w4 l1 (by omega) (by omega)) (by omega) (fun l2 c2 d2 q4 => ?_) (fun r hr => Sz.neg hr)
  simp only [AV.toI]
  refine Sz.c fun _ => ?_
  refine Sz.call (sz99 w5 l2 (by omega) (by omega)) (by omega) (fun l3 c3 d3 q5 => ?_) (fun r hr => Sz.neg hr)
  simp only [AV.toI]
  refine Sz.c fun _ => ?_
  exact Sz.done (by omega) (by omega) ⟨a0, a1, a2, a3, a4, a5, rfl, w0, q1, w2, w3, q4, q5, trivial⟩
theorem sz30 {l : List AV} (h : Rw (T95 9223372036854775807) 9223372036854775807 l) (left : Int) (h0 : 0 ≤ left) (h1 : left ≤ 1048576) : Sz (den E 30 [(.imm 6 l), (.i .i64 left)] []) left (Rw (T95 1048576) 1048576 l) := by
  have hl := h.1
  rw [f30_eq, w64 (by omega) (by omega)]
  refine Sz.c fun c => ?_
  refine ((sz_loop (L := fun left i => f30_l1 l left i) (n := l.length) (Pz := fun i => T95 1048576 (l.getD i .x)) ?_ ?_ l.length 0 _ (by omega) c (by omega)).mono (by omega) fun hq => Rw.mk (by omega) fun i hi => hq i (Nat.zero_le _) hi)
  · intro i left hi h0 h1
    have hT := h.at hi
    refine (sz59 hT left h0 h1).step (K := fun r => f30_l1 l r ((i : Int) + 1)) fun r hr => ?_
    obtain ⟨a0, a1, a2, a3, a4, a5, he, w0, w1, w2, w3, w4, w5, _⟩ := hT
    rw [he] at hr
    try dsimp only
    rw [f30_l1_eq, dT (show (i : Int) < ((l.length : Nat) : Int) by omega), cond_true]
    rw [if_pos (by omega)]
    simp only [Int.toNat_natCast, he]
    rw [if_pos (by rfl), w64 (by omega) (by omega)]
    simp only [okC_nil, okC_agg, okC_i, okC_b, okC_s, okC_imm, okL_i, okL_b, okL_s, okL_sl, okS_i, okS_b, okS_s, okS_sl, okS_agg, okS_tup, okS_nil, okS_cons, cells_agg, cells_i, cells_b, cells_s, cells_imm, toI_i, toB_b, toS_s, toL_imm, nth_agg, nth_tup, put_agg, put_i, put_b, put_s, put_imm, setCells, List.getD_cons_zero, List.getD_cons_succ, bSh_b, bSh_i, bSh_s, bSh_sl, bSh_some, cond_true, cond_false, decide_true, decide_false, Int.toNat_natCast, Nat.zero_add, Nat.reduceAdd, beq_self_eq_true, Bool.and_true, Bool.true_and, if_true, Bool.false_eq_true, if_false, List.set_cons_zero, List.set_cons_succ, Bool.not_true, Bool.not_false, Bool.and_self, hr]
    try rfl
  · intro left
    try dsimp only
    rw [f30_l1_eq, dF (Int.lt_irrefl _), cond_false]
theorem sz8 {el : AV} (h : T29 9223372036854775807 el) (left : Int) (h0 : 0 ≤ left) (h1 : left ≤ 1048576) : Sz (den E 8 [el, (.i .i64 left)] []) left (T29 1048576 el) := by
  obtain ⟨a0, a1, a2, a3, a4, a5, a6, a7, a8, rfl, w0, w1, w2, w3, w4, w5, w7, w8, _⟩ := h
  rw [f8_eq]
  refine Sz.call (sz29 (el := (.agg [(.i .i64 a0), (.i .i64 a1), (.i .i64 a2), (.imm 4 a3), (.i .i64 a4), (.i .i64 a5), (.b a6), (.i .i64 a7)])) ⟨a0, a1, a2, a3, a4, a5, a6, a7, rfl, w0, w1, w2, w3, w4, w5, w7, trivial⟩ left (by omega) (by omega)) (by omega) (fun l1 c1 d1 qq => ?_) (fun r hr => Sz.neg hr)
  simp only [AV.toI]
  refine Sz.c fun _ => ?_
  obtain ⟨b0, b1, b2, b3, b4, b5, b6, b7, hb, q0, q1, q2, q3, q4, q5, q7, _⟩ := qq
  cases hb
  refine Sz.call (sz30 w8 l1 (by omega) (by omega)) (by omega) (fun l2 c2 d2 q8 => ?_) (fun r hr => Sz.neg hr)
  simp only [AV.toI]
  refine Sz.c fun _ => ?_
  exact Sz.done (by omega) (by omega) ⟨a0, a1, a2, a3, a4, a5, a6, a7, a8, rfl, w0, w1, w2, q3, w4, w5, w7, q8, trivial⟩
theorem sz60 {el : AV} (h : T98 9223372036854775807 el) (left : Int) (h0 : 0 ≤ left) (h1 : left ≤ 1048576) : Sz (den E 60 [el, (.i .i64 left)] []) left (T98 1048576 el) := by
  obtain ⟨a0, a1, a2, a3, a4, a5, a6, a7, a8, a9, rfl, w0, w1, w2, w3, w4, w5, w6, w7, w8, w9, _⟩ := h
  rw [f60_eq]
  rw [w64 (x := left - ((a5.size : Nat) : Int)) (by omega) (by omega)]
  generalize hl1 : left - ((a5.size : Nat) : Int) = l1
  refine Sz.c fun c1 => ?_
  rw [w64 (x := l1 - ((a6.size : Nat) : Int)) (by omega) (by omega)]
  generalize hl2 : l1 - ((a6.size : Nat) : Int) = l2
  refine Sz.c fun c2 => ?_
  exact Sz.done (by omega) (by omega) ⟨a0, a1, a2, a3, a4, a5, a6, a7, a8, a9, rfl, w0, w1, w2, w3, w4, (by omega), (by omega), w7, w8, w9, trivial⟩
theorem sz31 {l : List AV} (h : Rw (T98 9223372036854775807) 9223372036854775807 l) (left : Int) (h0 : 0 ≤ left) (h1 : left ≤ 1048576) : Sz (den E 31 [(.imm 10 l), (.i .i64 left)] []) left (Rw (T98 1048576) 1048576 l) := by
  have hl := h.1
  rw [f31_eq, w64 (by omega) (by omega)]
  refine Sz.c fun c => ?_
  refine ((sz_loop (L := fun left i => f31_l1 l left i) (n := l.length) (Pz := fun i => T98 1048576 (l.getD i .x)) ?_ ?_ l.length 0 _ (by omega) c (by omega)).mono (by omega) fun hq => Rw.mk (by omega) fun i hi => hq i (Nat.zero_le _) hi)
  · intro i left hi h0 h1
    have hT := h.at hi
    refine (sz60 hT left h0 h1).step (K := fun r => f31_l1 l r ((i : Int) + 1)) fun r hr => ?_
    obtain ⟨a0, a1, a2, a3, a4, a5, a6, a7, a8, a9, he, w0, w1, w2, w3, w4, w5, w6, w7, w8, w9, _⟩ := hT
    rw [he] at hr
    try dsimp only
    rw [f31_l1_eq, dT (show (i : Int) < ((l.length : Nat) : Int) by omega), cond_true]
    rw [if_pos (by omega)]
    simp only [Int.toNat_natCast, he]
    rw [if_pos (by rfl), w64 (by omega) (by omega)]
    simp only [okC_nil, okC_agg, okC_i, okC_b, okC_s, okC_imm, okL_i, okL_b, okL_s, okL_sl, okS_i, okS_b, okS_s, okS_sl, okS_agg, okS_tup, okS_nil, okS_cons, cells_agg, cells_i, cells_b, cells_s, cells_imm, toI_i, toB_b, toS_s, toL_imm, nth_agg, nth_tup, put_agg, put_i, put_b, put_s, put_imm, setCells, List.getD_cons_zero, List.getD_cons_succ, bSh_b, bSh_i, bSh_s, bSh_sl, bSh_some, cond_true, cond_false, decide_true, decide_false, Int.toNat_natCast, Nat.zero_add, Nat.reduceAdd, beq_self_eq_true, Bool.and_true, Bool.true_and, if_true, Bool.false_eq_true, if_false, List.set_cons_zero, List.set_cons_succ, Bool.not_true, Bool.not_false, Bool.and_self, hr]
    try rfl
  · intro left
    try dsimp only
    rw [f31_l1_eq, dF (Int.lt_irrefl _), cond_false]
theorem sz9 {el : AV} (h : T32 9223372036854775807 el) (left : Int) (h0 : 0 ≤ left) (h1 : left ≤ 1048576) : Sz (den E 9 [el, (.i .i64 left)] []) left (T32 1048576 el) := by
  obtain ⟨a0, a1, a2, a3, rfl, w0, w1, w2, w3, _⟩ := h
  rw [f9_eq]
  refine Sz.call (sz31 w3 left (by omega) (by omega)) (by omega) (fun l1 c1 d1 q3 => ?_) (fun r hr => Sz.neg hr)
  simp only [AV.toI]
  refine Sz.c fun _ => ?_
  exact Sz.done (by omega) (by omega) ⟨a0, a1, a2, a3, rfl, w0, w1, w2, q3, trivial⟩
def T23 (B : Nat) (el : AV) : Prop := ∃ (a0 : Int) (a1 : Int) (a2 : Int), el = AV.agg [(.i .i64 a0), (.i .i64 a1), (.i .i64 a2)] ∧ W64 a0 ∧ W64 a1 ∧ W64 a2 ∧ True
theorem T23.eta {B : Nat} {el : AV} (h : T23 B el) : AV.agg [(.i .i64 (el.cells.getD 0 .x).toI), (.i .i64 (el.cells.getD 1 .x).toI), (.i .i64 (el.cells.getD 2 .x).toI)] = el := by obtain ⟨a0, a1, a2, rfl, _, _, _, _⟩ := h; rfl
theorem T23.ok {B : Nat} {el : AV} (h : T23 B el) : okCells false el 0 [(.i .i64), (.i .i64), (.i .i64)] = true := by obtain ⟨a0, a1, a2, rfl, _, _, _, _⟩ := h; rfl
theorem T23.ok0 {B : Nat} {el : AV} (h : T23 B el) : okCells false el 0 [(.i .i64)] = true := by obtain ⟨a0, a1, a2, rfl, _, _, _, _⟩ := h; rfl
theorem T23.ok1 {B : Nat} {el : AV} (h : T23 B el) : okCells false el 1 [(.i .i64)] = true := by obtain ⟨a0, a1, a2, rfl, _, _, _, _⟩ := h; rfl
theorem T23.ok2 {B : Nat} {el : AV} (h : T23 B el) : okCells false el 2 [(.i .i64)] = true := by obtain ⟨a0, a1, a2, rfl, _, _, _, _⟩ := h; rfl
theorem T23_of {el : AV} (h : El E (.agg [(.i .i64), (.i .i64), (.i .i64)]) el) : T23 9223372036854775807 el := by
  obtain ⟨cs, rfl, hs⟩ := h.agg
  obtain ⟨y0, c0, rfl, h0, hs⟩ := hs.out
  obtain ⟨y1, c1, rfl, h1, hs⟩ := hs.out
  obtain ⟨y2, c2, rfl, h2, hs⟩ := hs.out
  obtain rfl := hs.end
  obtain ⟨a0, rfl, w0⟩ := h0.int
  obtain ⟨a1, rfl, w1⟩ := h1.int
  obtain ⟨a2, rfl, w2⟩ := h2.int
  exact ⟨a0, a1, a2, rfl, wf_64 w0, wf_64 w1, wf_64 w2, trivial⟩
theorem to70 {el : AV} (h : T23 1048576 el) : den E 70 [el] [] = some el := by
  obtain ⟨a0, a1, a2, rfl, w0, w1, w2, _⟩ := h
  rw [f70_eq]
theorem to105 {l : List AV} (h : Rw (T9 1048576) 1048576 l) : den E 105 [(.imm 1 l)] [] = some (.imm 1 l) := by
  have hl := h.1
  rw [f105_eq, if_pos (by simp only [room]; omega), Int.toNat_natCast]
  refine to_loop (L := fun i ys => f105_l1 l i [] ys) (fun i ys hi hy hz => ?_) fun ys hy => ?_
  · have hT := h.at hi
    obtain ⟨a0, he, w0, _⟩ := h.at hi
    rw [he] at hT
    try dsimp only
    rw [f105_l1_eq, dT (show (i : Int) < ((l.length : Nat) : Int) by omega), cond_true]
    rw [if_pos (by omega)]
    simp only [Int.toNat_natCast, Nat.zero_add, he, hz]
    rw [if_pos (by rfl)]
    rw [if_pos (by omega), w64 (by omega) (by omega)]
    try simp only [okC_nil, okC_agg, okC_i, okC_b, okC_s, okC_imm, okL_i, okL_b, okL_s, okL_sl, okS_i, okS_b, okS_s, okS_sl, okS_agg, okS_tup, okS_nil, okS_cons, cells_agg, cells_i, cells_b, cells_s, cells_imm, toI_i, toB_b, toS_s, toL_imm, nth_agg, nth_tup, put_agg, put_i, put_b, put_s, put_imm, setCells, List.getD_cons_zero, List.getD_cons_succ, bSh_b, bSh_i, bSh_s, bSh_sl, bSh_some, cond_true, cond_false, decide_true, decide_false, Int.toNat_natCast, Nat.zero_add, Nat.reduceAdd, beq_self_eq_true, Bool.and_true, Bool.true_and, if_true, Bool.false_eq_true, if_false, List.set_cons_zero, List.set_cons_succ, Bool.not_true, Bool.not_false, Bool.and_self]
    try rfl
  · try dsimp only
    rw [f105_l1_eq, dF (Int.lt_irrefl _), cond_false]
theorem to103 {el : AV} (h : T135 1048576 el) : den E 103 [el] [] = some el := by
  obtain ⟨a0, a1, a2, a3, rfl, w0, w1, w3, _⟩ := h
  rw [f103_eq]
  simp only [okC_nil, okC_agg, okC_i, okC_b, okC_s, okC_imm, okL_i, okL_b, okL_s, okL_sl, okS_i, okS_b, okS_s, okS_sl, okS_agg, okS_tup, okS_nil, okS_cons, cells_agg, cells_i, cells_b, cells_s, cells_imm, toI_i, toB_b, toS_s, toL_imm, nth_agg, nth_tup, put_agg, put_i, put_b, put_s, put_imm, setCells, List.getD_cons_zero, List.getD_cons_succ, bSh_b, bSh_i, bSh_s, bSh_sl, bSh_some, cond_true, cond_false, decide_true, decide_false, Int.toNat_natCast, Nat.zero_add, Nat.reduceAdd, beq_self_eq_true, Bool.and_true, Bool.true_and, if_true, Bool.false_eq_true, if_false, List.set_cons_zero, List.set_cons_succ, Bool.not_true, Bool.not_false, Bool.and_self, to105 w3]
theorem to71 {l : List AV} (h : Rw (T135 1048576) 1048576 l) : den E 71 [(.imm 4 l)] [] = some (.imm 4 l) := by
  have hl := h.1
  rw [f71_eq, if_pos (by simp only [room]; omega), Int.toNat_natCast]
  refine to_loop (L := fun i ys => f71_l1 l i [] ys) (fun i ys hi hy hz => ?_) fun ys hy => ?_
  · have hT := h.at hi
    obtain ⟨a0, a1, a2, a3, he, w0, w1, w3, _⟩ := h.at hi
    rw [he] at hT
    try dsimp only
    rw [f71_l1_eq, dT (show (i : Int) < ((l.length : Nat) : Int) by omega), cond_true]
    rw [if_pos (by omega)]
    simp only [Int.toNat_natCast, Nat.zero_add, he, hz]
    rw [if_pos (by rfl)]
    simp only [okC_nil, okC_agg, okC_i, okC_b, okC_s, okC_imm, okL_i, okL_b, okL_s, okL_sl, okS_i, okS_b, okS_s, okS_sl, okS_agg, okS_tup, okS_nil, okS_cons, cells_agg, cells_i, cells_b, cells_s, cells_imm, toI_i, toB_b, toS_s, toL_imm, nth_agg, nth_tup, put_agg, put_i, put_b, put_s, put_imm, setCells, List.getD_cons_zero, List.getD_cons_succ, bSh_b, bSh_i, bSh_s, bSh_sl, bSh_some, cond_true, cond_false, decide_true, decide_false, Int.toNat_natCast, Nat.zero_add, Nat.reduceAdd, beq_self_eq_true, Bool.and_true, Bool.true_and, if_true, Bool.false_eq_true, if_false, List.set_cons_zero, List.set_cons_succ, Bool.not_true, Bool.not_false, Bool.and_self, to103 hT]
    rw [if_pos (by omega), w64 (by omega) (by omega)]
    try simp only [okC_nil, okC_agg, okC_i, okC_b, okC_s, okC_imm, okL_i, okL_b, okL_s, okL_sl, okS_i, okS_b, okS_s, okS_sl, okS_agg, okS_tup, okS_nil, okS_cons, cells_agg, cells_i, cells_b, cells_s, cells_imm, toI_i, toB_b, toS_s, toL_imm, nth_agg, nth_tup, put_agg, put_i, put_b, put_s, put_imm, setCells, List.getD_cons_zero, List.getD_cons_succ, bSh_b, bSh_i, bSh_s, bSh_sl, bSh_some, cond_true, cond_false, decide_true, decide_false, Int.toNat_natCast, Nat.zero_add, Nat.reduceAdd, beq_self_eq_true, Bool.and_true, Bool.true_and, if_true, Bool.false_eq_true, if_false, List.set_cons_zero, List.set_cons_succ, Bool.not_true, Bool.not_false, Bool.and_self]
    try rfl
  · try dsimp only
    rw [f71_l1_eq, dF (Int.lt_irrefl _), cond_false]
theorem to36 {el : AV} (h : T26 1048576 el) : den E 36 [el] [] = some el := by
  obtain ⟨a0, a1, a2, a3, a4, a5, a6, a7, rfl, w0, w1, w2, w3, w4, w5, w7, _⟩ := h
  rw [f36_eq]
  simp only [okC_nil, okC_agg, okC_i, okC_b, okC_s, okC_imm, okL_i, okL_b, okL_s, okL_sl, okS_i, okS_b, okS_s, okS_sl, okS_agg, okS_tup, okS_nil, okS_cons, cells_agg, cells_i, cells_b, cells_s, cells_imm, toI_i, toB_b, toS_s, toL_imm, nth_agg, nth_tup, put_agg, put_i, put_b, put_s, put_imm, setCells, List.getD_cons_zero, List.getD_cons_succ, bSh_b, bSh_i, bSh_s, bSh_sl, bSh_some, cond_true, cond_false, decide_true, decide_false, Int.toNat_natCast, Nat.zero_add, Nat.reduceAdd, beq_self_eq_true, Bool.and_true, Bool.true_and, if_true, Bool.false_eq_true, if_false, List.set_cons_zero, List.set_cons_succ, Bool.not_true, Bool.not_false, Bool.and_self, to71 w3, to70 (el := .agg [(.i .i64 a0), (.i .i64 a1), (.i .i64 a2)]) ⟨a0, a1, a2, rfl, w0, w1, w2, trivial⟩]
theorem to104 {l : List AV} (h : Rw (T2 1048576) 1048576 l) : den E 104 [(.imm 1 l)] [] = some (.imm 1 l) := by
  have hl := h.1
  rw [f104_eq, if_pos (by simp only [room]; omega), Int.toNat_natCast]
  refine to_loop (L := fun i ys => f104_l1 l i [] ys) (fun i ys hi hy hz => ?_) fun ys hy => ?_
  · have hT := h.at hi
    obtain ⟨a0, he, w0, _⟩ := h.at hi
    rw [he] at hT
    try dsimp only
    rw [f104_l1_eq, dT (show (i : Int) < ((l.length : Nat) : Int) by omega), cond_true]
    rw [if_pos (by omega)]
    simp only [Int.toNat_natCast, Nat.zero_add, he, hz]
    rw [if_pos (by rfl)]
    rw [if_pos (by omega), w64 (by omega) (by omega)]
    try simp only [okC_nil, okC_agg, okC_i, okC_b, okC_s, okC_imm, okL_i, okL_b, okL_s, okL_sl, okS_i, okS_b, okS_s, okS_sl, okS_agg, okS_tup, okS_nil, okS_cons, cells_agg, cells_i, cells_b, cells_s, cells_imm, toI_i, toB_b, toS_s, toL_imm, nth_agg, nth_tup, put_agg, put_i, put_b, put_s, put_imm, setCells, List.getD_cons_zero, List.getD_cons_succ, bSh_b, bSh_i, bSh_s, bSh_sl, bSh_some, cond_true, cond_false, decide_true, decide_false, Int.toNat_natCast, Nat.zero_add, Nat.reduceAdd, beq_self_eq_true, Bool.and_true, Bool.true_and, if_true, Bool.false_eq_true, if_false, List.set_cons_zero, List.set_cons_succ, Bool.not_true, Bool.not_false, Bool.and_self]
    try rfl
  · try dsimp only
    rw [f104_l1_eq, dF (Int.lt_irrefl _), cond_false]
theorem to72 {el : AV} (h : T95 1048576 el) : den E 72 [el] [] = some el := by
  obtain ⟨a0, a1, a2, a3, a4, a5, rfl, w0, w1, w2, w3, w4, w5, _⟩ := h
  rw [f72_eq]
  simp only [okC_nil, okC_agg, okC_i, okC_b, okC_s, okC_imm, okL_i, okL_b, okL_s, okL_sl, okS_i, okS_b, okS_s, okS_sl, okS_agg, okS_tup, okS_nil, okS_cons, cells_agg, cells_i, cells_b, cells_s, cells_imm, toI_i, toB_b, toS_s, toL_imm, nth_agg, nth_tup, put_agg, put_i, put_b, put_s, put_imm, setCells, List.getD_cons_zero, List.getD_cons_succ, bSh_b, bSh_i, bSh_s, bSh_sl, bSh_some, cond_true, cond_false, decide_true, decide_false, Int.toNat_natCast, Nat.zero_add, Nat.reduceAdd, beq_self_eq_true, Bool.and_true, Bool.true_and, if_true, Bool.false_eq_true, if_false, List.set_cons_zero, List.set_cons_succ, Bool.not_true, Bool.not_false, Bool.and_self, to104 w1, to104 w4, to105 w5]
theorem to37 {l : List AV} (h : Rw (T95 1048576) 1048576 l) : den E 37 [(.imm 6 l)] [] = some (.imm 6 l) := by
  have hl := h.1
  rw [f37_eq, if_pos (by simp only [room]; omega), Int.toNat_natCast]
  refine to_loop (L := fun i ys => f37_l1 l i [] ys) (fun i ys hi hy hz => ?_) fun ys hy => ?_
  · have hT := h.at hi
    obtain ⟨a0, a1, a2, a3, a4, a5, he, w0, w1, w2, w3, w4, w5, _⟩ := h.at hi
    rw [he] at hT
    try dsimp only
    rw [f37_l1_eq, dT (show (i : Int) < ((l.length : Nat) : Int) by omega), cond_true]
    rw [if_pos (by omega)]
    simp only [Int.toNat_natCast, Nat.zero_add, he, hz]
    rw [if_pos (by rfl)]
    simp only [okC_nil, okC_agg, okC_i, okC_b, okC_s, okC_imm, okL_i, okL_b, okL_s, okL_sl, okS_i, okS_b, okS_s, okS_sl, okS_agg, okS_tup, okS_nil, okS_cons, cells_agg, cells_i, cells_b, cells_s, cells_imm, toI_i, toB_b, toS_s, toL_imm, nth_agg, nth_tup, put_agg, put_i, put_b, put_s, put_imm, setCells, List.getD_cons_zero, List.getD_cons_succ, bSh_b, bSh_i, bSh_s, bSh_sl, bSh_some, cond_true, cond_false, decide_true, decide_false, Int.toNat_natCast, Nat.zero_add, Nat.reduceAdd, beq_self_eq_true, Bool.and_true, Bool.true_and, if_true, Bool.false_eq_true, if_false, List.set_cons_zero, List.set_cons_succ, Bool.not_true, Bool.not_false, Bool.and_self, to72 hT]
    rw [if_pos (by omega), w64 (by omega) (by omega)]
    try simp only [okC_nil, okC_agg, okC_i, okC_b, okC_s, okC_imm, okL_i, okL_b, okL_s, okL_sl, okS_i, okS_b, okS_s, okS_sl, okS_agg, okS_tup, okS_nil, okS_cons, cells_agg, cells_i, cells_b, cells_s, cells_imm, toI_i, toB_b, toS_s, toL_imm, nth_agg, nth_tup, put_agg, put_i, put_b, put_s, put_imm, setCells, List.getD_cons_zero, List.getD_cons_succ, bSh_b, bSh_i, bSh_s, bSh_sl, bSh_some, cond_true, cond_false, decide_true, decide_false, Int.toNat_natCast, Nat.zero_add, Nat.reduceAdd, beq_self_eq_true, Bool.and_true, Bool.true_and, if_true, Bool.false_eq_true, if_false, List.set_cons_zero, List.set_cons_succ, Bool.not_true, Bool.not_false, Bool.and_self]
    try rfl
  · try dsimp only
    rw [f37_l1_eq, dF (Int.lt_irrefl _), cond_false]
theorem to11 {el : AV} (h : T29 1048576 el) : den E 11 [el] [] = some el := by
  obtain ⟨a0, a1, a2, a3, a4, a5, a6, a7, a8, rfl, w0, w1, w2, w3, w4, w5, w7, w8, _⟩ := h
  rw [f11_eq]
  simp only [okC_nil, okC_agg, okC_i, okC_b, okC_s, okC_imm, okL_i, okL_b, okL_s, okL_sl, okS_i, okS_b, okS_s, okS_sl, okS_agg, okS_tup, okS_nil, okS_cons, cells_agg, cells_i, cells_b, cells_s, cells_imm, toI_i, toB_b, toS_s, toL_imm, nth_agg, nth_tup, put_agg, put_i, put_b, put_s, put_imm, setCells, List.getD_cons_zero, List.getD_cons_succ, bSh_b, bSh_i, bSh_s, bSh_sl, bSh_some, cond_true, cond_false, decide_true, decide_false, Int.toNat_natCast, Nat.zero_add, Nat.reduceAdd, beq_self_eq_true, Bool.and_true, Bool.true_and, if_true, Bool.false_eq_true, if_false, List.set_cons_zero, List.set_cons_succ, Bool.not_true, Bool.not_false, Bool.and_self, to37 w8, to36 (el := .agg [(.i .i64 a0), (.i .i64 a1), (.i .i64 a2), (.imm 4 a3), (.i .i64 a4), (.i .i64 a5), (.b a6), (.i .i64 a7)]) ⟨a0, a1, a2, a3, a4, a5, a6, a7, rfl, w0, w1, w2, w3, w4, w5, w7, trivial⟩]
theorem to73 {el : AV} (h : T98 1048576 el) : den E 73 [el] [] = some el := by
  obtain ⟨a0, a1, a2, a3, a4, a5, a6, a7, a8, a9, rfl, w0, w1, w2, w3, w4, w5, w6, w7, w8, w9, _⟩ := h
  rw [f73_eq]
theorem to38 {l : List AV} (h : Rw (T98 1048576) 1048576 l) : den E 38 [(.imm 10 l)] [] = some (.imm 10 l) := by
  have hl := h.1
  rw [f38_eq, if_pos (by simp only [room]; omega), Int.toNat_natCast]
  refine to_loop (L := fun i ys => f38_l1 l i [] ys) (fun i ys hi hy hz => ?_) fun ys hy => ?_
  · have hT := h.at hi
    obtain ⟨a0, a1, a2, a3, a4, a5, a6, a7, a8, a9, he, w0, w1, w2, w3, w4, w5, w6, w7, w8, w9, _⟩ := h.at hi
    rw [he] at hT
    try dsimp only
    rw [f38_l1_eq, dT (show (i : Int) < ((l.length : Nat) : Int) by omega), cond_true]
    rw [if_pos (by omega)]
    simp only [Int.toNat_natCast, Nat.zero_add, he, hz]
    rw [if_pos (by rfl)]
    simp only [okC_nil, okC_agg, okC_i, okC_b, okC_s, okC_imm, okL_i, okL_b, okL_s, okL_sl, okS_i, okS_b, okS_s, okS_sl, okS_agg, okS_tup, okS_nil, okS_cons, cells_agg, cells_i, cells_b, cells_s, cells_imm, toI_i, toB_b, toS_s, toL_imm, nth_agg, nth_tup, put_agg, put_i, put_b, put_s, put_imm, setCells, List.getD_cons_zero, List.getD_cons_succ, bSh_b, bSh_i, bSh_s, bSh_sl, bSh_some, cond_true, cond_false, decide_true, decide_false, Int.toNat_natCast, Nat.zero_add, Nat.reduceAdd, beq_self_eq_true, Bool.and_true, Bool.true_and, if_true, Bool.false_eq_true, if_false, List.set_cons_zero, List.set_cons_succ, Bool.not_true, Bool.not_false, Bool.and_self, to73 hT]
    rw [if_pos (by omega), w64 (by omega) (by omega)]
    try simp only [okC_nil, okC_agg, okC_i, okC_b, okC_s, okC_imm, okL_i, okL_b, okL_s, okL_sl, okS_i, okS_b, okS_s, okS_sl, okS_agg, okS_tup, okS_nil, okS_cons, cells_agg, cells_i, cells_b, cells_s, cells_imm, toI_i, toB_b, toS_s, toL_imm, nth_agg, nth_tup, put_agg, put_i, put_b, put_s, put_imm, setCells, List.getD_cons_zero, List.getD_cons_succ, bSh_b, bSh_i, bSh_s, bSh_sl, bSh_some, cond_true, cond_false, decide_true, decide_false, Int.toNat_natCast, Nat.zero_add, Nat.reduceAdd, beq_self_eq_true, Bool.and_true, Bool.true_and, if_true, Bool.false_eq_true, if_false, List.set_cons_zero, List.set_cons_succ, Bool.not_true, Bool.not_false, Bool.and_self]
    try rfl
  · try dsimp only
    rw [f38_l1_eq, dF (Int.lt_irrefl _), cond_false]
theorem to12 {el : AV} (h : T32 1048576 el) : den E 12 [el] [] = some el := by
  obtain ⟨a0, a1, a2, a3, rfl, w0, w1, w2, w3, _⟩ := h
  rw [f12_eq]
  simp only [okC_nil, okC_agg, okC_i, okC_b, okC_s, okC_imm, okL_i, okL_b, okL_s, okL_sl, okS_i, okS_b, okS_s, okS_sl, okS_agg, okS_tup, okS_nil, okS_cons, cells_agg, cells_i, cells_b, cells_s, cells_imm, toI_i, toB_b, toS_s, toL_imm, nth_agg, nth_tup, put_agg, put_i, put_b, put_s, put_imm, setCells, List.getD_cons_zero, List.getD_cons_succ, bSh_b, bSh_i, bSh_s, bSh_sl, bSh_some, cond_true, cond_false, decide_true, decide_false, Int.toNat_natCast, Nat.zero_add, Nat.reduceAdd, beq_self_eq_true, Bool.and_true, Bool.true_and, if_true, Bool.false_eq_true, if_false, List.set_cons_zero, List.set_cons_succ, Bool.not_true, Bool.not_false, Bool.and_self, to38 w3]
theorem eq77 {el : AV} (h : T23 1048576 el) : den E 77 [el, el] [] = some (.b true) := by
  obtain ⟨a0, a1, a2, rfl, w0, w1, w2, _⟩ := h
  rw [f77_eq]
  simp only [okC_nil, okC_agg, okC_i, okC_b, okC_s, okC_imm, okL_i, okL_b, okL_s, okL_sl, okS_i, okS_b, okS_s, okS_sl, okS_agg, okS_tup, okS_nil, okS_cons, cells_agg, cells_i, cells_b, cells_s, cells_imm, toI_i, toB_b, toS_s, toL_imm, nth_agg, nth_tup, put_agg, put_i, put_b, put_s, put_imm, setCells, List.getD_cons_zero, List.getD_cons_succ, bSh_b, bSh_i, bSh_s, bSh_sl, bSh_some, cond_true, cond_false, decide_true, decide_false, Int.toNat_natCast, Nat.zero_add, Nat.reduceAdd, beq_self_eq_true, Bool.and_true, Bool.true_and, if_true, Bool.false_eq_true, if_false, List.set_cons_zero, List.set_cons_succ, Bool.not_true, Bool.not_false, Bool.and_self]
theorem eq115 {l : List AV} (h : Rw (T9 1048576) 1048576 l) : den E 115 [(.imm 1 l), (.imm 1 l)] [] = some (.b true) := by
  have hl := h.1
  rw [f115_eq]
  simp only [decide_true, Bool.not_true, cond_false]
  refine eq_loop (L := fun i => f115_l1 l l i) (n := l.length) (fun i hi => ?_) ?_
  · have hT := h.at hi
    obtain ⟨a0, he, w0, _⟩ := h.at hi
    rw [he] at hT
    try dsimp only
    rw [f115_l1_eq, dT (show (i : Int) < ((l.length : Nat) : Int) by omega), cond_true]
    rw [if_pos (by omega)]
    simp only [Int.toNat_natCast, he]
    rw [if_pos (by rfl), if_pos (by omega), if_pos (by rfl), w64 (by omega) (by omega)]
    simp only [okC_nil, okC_agg, okC_i, okC_b, okC_s, okC_imm, okL_i, okL_b, okL_s, okL_sl, okS_i, okS_b, okS_s, okS_sl, okS_agg, okS_tup, okS_nil, okS_cons, cells_agg, cells_i, cells_b, cells_s, cells_imm, toI_i, toB_b, toS_s, toL_imm, nth_agg, nth_tup, put_agg, put_i, put_b, put_s, put_imm, setCells, List.getD_cons_zero, List.getD_cons_succ, bSh_b, bSh_i, bSh_s, bSh_sl, bSh_some, cond_true, cond_false, decide_true, decide_false, Int.toNat_natCast, Nat.zero_add, Nat.reduceAdd, beq_self_eq_true, Bool.and_true, Bool.true_and, if_true, Bool.false_eq_true, if_false, List.set_cons_zero, List.set_cons_succ, Bool.not_true, Bool.not_false, Bool.and_self]
  · try dsimp only
    rw [f115_l1_eq, dF (Int.lt_irrefl _), cond_false]
theorem eq114 {el : AV} (h : T135 1048576 el) : den E 114 [el, el] [] = some (.b true) := by
  obtain ⟨a0, a1, a2, a3, rfl, w0, w1, w3, _⟩ := h
  rw [f114_eq]
  simp only [okC_nil, okC_agg, okC_i, okC_b, okC_s, okC_imm, okL_i, okL_b, okL_s, okL_sl, okS_i, okS_b, okS_s, okS_sl, okS_agg, okS_tup, okS_nil, okS_cons, cells_agg, cells_i, cells_b, cells_s, cells_imm, toI_i, toB_b, toS_s, toL_imm, nth_agg, nth_tup, put_agg, put_i, put_b, put_s, put_imm, setCells, List.getD_cons_zero, List.getD_cons_succ, bSh_b, bSh_i, bSh_s, bSh_sl, bSh_some, cond_true, cond_false, decide_true, decide_false, Int.toNat_natCast, Nat.zero_add, Nat.reduceAdd, beq_self_eq_true, Bool.and_true, Bool.true_and, if_true, Bool.false_eq_true, if_false, List.set_cons_zero, List.set_cons_succ, Bool.not_true, Bool.not_false, Bool.and_self, eq115 w3]
theorem eq78 {l : List AV} (h : Rw (T135 1048576) 1048576 l) : den E 78 [(.imm 4 l), (.imm 4 l)] [] = some (.b true) := by
  have hl := h.1
  rw [f78_eq]
  simp only [decide_true, Bool.not_true, cond_false]
  refine eq_loop (L := fun i => f78_l1 l l i) (n := l.length) (fun i hi => ?_) ?_
  · have hT := h.at hi
    obtain ⟨a0, a1, a2, a3, he, w0, w1, w3, _⟩ := h.at hi
    rw [he] at hT
    try dsimp only
    rw [f78_l1_eq, dT (show (i : Int) < ((l.length : Nat) : Int) by omega), cond_true]
    rw [if_pos (by omega)]
    simp only [Int.toNat_natCast, he]
    rw [if_pos (by rfl), if_pos (by omega), if_pos (by rfl), w64 (by omega) (by omega)]
    simp only [okC_nil, okC_agg, okC_i, okC_b, okC_s, okC_imm, okL_i, okL_b, okL_s, okL_sl, okS_i, okS_b, okS_s, okS_sl, okS_agg, okS_tup, okS_nil, okS_cons, cells_agg, cells_i, cells_b, cells_s, cells_imm, toI_i, toB_b, toS_s, toL_imm, nth_agg, nth_tup, put_agg, put_i, put_b, put_s, put_imm, setCells, List.getD_cons_zero, List.getD_cons_succ, bSh_b, bSh_i, bSh_s, bSh_sl, bSh_some, cond_true, cond_false, decide_true, decide_false, Int.toNat_natCast, Nat.zero_add, Nat.reduceAdd, beq_self_eq_true, Bool.and_true, Bool.true_and, if_true, Bool.false_eq_true, if_false, List.set_cons_zero, List.set_cons_succ, Bool.not_true, Bool.not_false, Bool.and_self, eq114 hT]
  · try dsimp only
    rw [f78_l1_eq, dF (Int.lt_irrefl _), cond_false]
theorem eq42 {el : AV} (h : T26 1048576 el) : den E 42 [el, el] [] = some (.b true) := by
  obtain ⟨a0, a1, a2, a3, a4, a5, a6, a7, rfl, w0, w1, w2, w3, w4, w5, w7, _⟩ := h
  rw [f42_eq]
  simp only [okC_nil, okC_agg, okC_i, okC_b, okC_s, okC_imm, okL_i, okL_b, okL_s, okL_sl, okS_i, okS_b, okS_s, okS_sl, okS_agg, okS_tup, okS_nil, okS_cons, cells_agg, cells_i, cells_b, cells_s, cells_imm, toI_i, toB_b, toS_s, toL_imm, nth_agg, nth_tup, put_agg, put_i, put_b, put_s, put_imm, setCells, List.getD_cons_zero, List.getD_cons_succ, bSh_b, bSh_i, bSh_s, bSh_sl, bSh_some, cond_true, cond_false, decide_true, decide_false, Int.toNat_natCast, Nat.zero_add, Nat.reduceAdd, beq_self_eq_true, Bool.and_true, Bool.true_and, if_true, Bool.false_eq_true, if_false, List.set_cons_zero, List.set_cons_succ, Bool.not_true, Bool.not_false, Bool.and_self, eq78 w3, eq77 (el := .agg [(.i .i64 a0), (.i .i64 a1), (.i .i64 a2)]) ⟨a0, a1, a2, rfl, w0, w1, w2, trivial⟩]
theorem eq22 {l : List AV} (h : Rw (T2 1048576) 1048576 l) : den E 22 [(.imm 1 l), (.imm 1 l)] [] = some (.b true) := by
  have hl := h.1
  rw [f22_eq]
  simp only [decide_true, Bool.not_true, cond_false]
  refine eq_loop (L := fun i => f22_l1 l l i) (n := l.length) (fun i hi => ?_) ?_
  · have hT := h.at hi
    obtain ⟨a0, he, w0, _⟩ := h.at hi
    rw [he] at hT
    try dsimp only
    rw [f22_l1_eq, dT (show (i : Int) < ((l.length : Nat) : Int) by omega), cond_true]
    rw [if_pos (by omega)]
    simp only [Int.toNat_natCast, he]
    rw [if_pos (by rfl), if_pos (by omega), if_pos (by rfl), w64 (by omega) (by omega)]
    simp only [okC_nil, okC_agg, okC_i, okC_b, okC_s, okC_imm, okL_i, okL_b, okL_s, okL_sl, okS_i, okS_b, okS_s, okS_sl, okS_agg, okS_tup, okS_nil, okS_cons, cells_agg, cells_i, cells_b, cells_s, cells_imm, toI_i, toB_b, toS_s, toL_imm, nth_agg, nth_tup, put_agg, put_i, put_b, put_s, put_imm, setCells, List.getD_cons_zero, List.getD_cons_succ, bSh_b, bSh_i, bSh_s, bSh_sl, bSh_some, cond_true, cond_false, decide_true, decide_false, Int.toNat_natCast, Nat.zero_add, Nat.reduceAdd, beq_self_eq_true, Bool.and_true, Bool.true_and, if_true, Bool.false_eq_true, if_false, List.set_cons_zero, List.set_cons_succ, Bool.not_true, Bool.not_false, Bool.and_self]
  · try dsimp only
    rw [f22_l1_eq, dF (Int.lt_irrefl _), cond_false]
theorem eq79 {el : AV} (h : T95 1048576 el) : den E 79 [el, el] [] = some (.b true) := by
  obtain ⟨a0, a1, a2, a3, a4, a5, rfl, w0, w1, w2, w3, w4, w5, _⟩ := h
  rw [f79_eq]
  simp only [okC_nil, okC_agg, okC_i, okC_b, okC_s, okC_imm, okL_i, okL_b, okL_s, okL_sl, okS_i, okS_b, okS_s, okS_sl, okS_agg, okS_tup, okS_nil, okS_cons, cells_agg, cells_i, cells_b, cells_s, cells_imm, toI_i, toB_b, toS_s, toL_imm, nth_agg, nth_tup, put_agg, put_i, put_b, put_s, put_imm, setCells, List.getD_cons_zero, List.getD_cons_succ, bSh_b, bSh_i, bSh_s, bSh_sl, bSh_some, cond_true, cond_false, decide_true, decide_false, Int.toNat_natCast, Nat.zero_add, Nat.reduceAdd, beq_self_eq_true, Bool.and_true, Bool.true_and, if_true, Bool.false_eq_true, if_false, List.set_cons_zero, List.set_cons_succ, Bool.not_true, Bool.not_false, Bool.and_self, eq22 w1, eq22 w4, eq115 w5]
theorem eq43 {l : List AV} (h : Rw (T95 1048576) 1048576 l) : den E 43 [(.imm 6 l), (.imm 6 l)] [] = some (.b true) := by
  have hl := h.1
  rw [f43_eq]
  simp only [decide_true, Bool.not_true, cond_false]
  refine eq_loop (L := fun i => f43_l1 l l i) (n := l.length) (fun i hi => ?_) ?_
  · have hT := h.at hi
    obtain ⟨a0, a1, a2, a3, a4, a5, he, w0, w1, w2, w3, w4, w5, _⟩ := h.at hi
    rw [he] at hT
    try dsimp only
    rw [f43_l1_eq, dT (show (i : Int) < ((l.length : Nat) : Int) by omega), cond_true]
    rw [if_pos (by omega)]
    simp only [Int.toNat_natCast, he]
    rw [if_pos (by rfl), if_pos (by omega), if_pos (by rfl), w64 (by omega) (by omega)]
    simp only [okC_nil, okC_agg, okC_i, okC_b, okC_s, okC_imm, okL_i, okL_b, okL_s, okL_sl, okS_i, okS_b, okS_s, okS_sl, okS_agg, okS_tup, okS_nil, okS_cons, cells_agg, cells_i, cells_b, cells_s, cells_imm, toI_i, toB_b, toS_s, toL_imm, nth_agg, nth_tup, put_agg, put_i, put_b, put_s, put_imm, setCells, List.getD_cons_zero, List.getD_cons_succ, bSh_b, bSh_i, bSh_s, bSh_sl, bSh_some, cond_true, cond_false, decide_true, decide_false, Int.toNat_natCast, Nat.zero_add, Nat.reduceAdd, beq_self_eq_true, Bool.and_true, Bool.true_and, if_true, Bool.false_eq_true, if_false, List.set_cons_zero, List.set_cons_succ, Bool.not_true, Bool.not_false, Bool.and_self, eq79 hT]
  · try dsimp only
    rw [f43_l1_eq, dF (Int.lt_irrefl _), cond_false]
theorem eq14 {el : AV} (h : T29 1048576 el) : den E 14 [el, el] [] = some (.b true) := by
  obtain ⟨a0, a1, a2, a3, a4, a5, a6, a7, a8, rfl, w0, w1, w2, w3, w4, w5, w7, w8, _⟩ := h
  rw [f14_eq]
  simp only [okC_nil, okC_agg, okC_i, okC_b, okC_s, okC_imm, okL_i, okL_b, okL_s, okL_sl, okS_i, okS_b, okS_s, okS_sl, okS_agg, okS_tup, okS_nil, okS_cons, cells_agg, cells_i, cells_b, cells_s, cells_imm, toI_i, toB_b, toS_s, toL_imm, nth_agg, nth_tup, put_agg, put_i, put_b, put_s, put_imm, setCells, List.getD_cons_zero, List.getD_cons_succ, bSh_b, bSh_i, bSh_s, bSh_sl, bSh_some, cond_true, cond_false, decide_true, decide_false, Int.toNat_natCast, Nat.zero_add, Nat.reduceAdd, beq_self_eq_true, Bool.and_true, Bool.true_and, if_true, Bool.false_eq_true, if_false, List.set_cons_zero, List.set_cons_succ, Bool.not_true, Bool.not_false, Bool.and_self, eq43 w8, eq42 (el := .agg [(.i .i64 a0), (.i .i64 a1), (.i .i64 a2), (.imm 4 a3), (.i .i64 a4), (.i .i64 a5), (.b a6), (.i .i64 a7)]) ⟨a0, a1, a2, a3, a4, a5, a6, a7, rfl, w0, w1, w2, w3, w4, w5, w7, trivial⟩]
theorem eq80 {el : AV} (h : T98 1048576 el) : den E 80 [el, el] [] = some (.b true) := by
  obtain ⟨a0, a1, a2, a3, a4, a5, a6, a7, a8, a9, rfl, w0, w1, w2, w3, w4, w5, w6, w7, w8, w9, _⟩ := h
  rw [f80_eq]
  simp only [okC_nil, okC_agg, okC_i, okC_b, okC_s, okC_imm, okL_i, okL_b, okL_s, okL_sl, okS_i, okS_b, okS_s, okS_sl, okS_agg, okS_tup, okS_nil, okS_cons, cells_agg, cells_i, cells_b, cells_s, cells_imm, toI_i, toB_b, toS_s, toL_imm, nth_agg, nth_tup, put_agg, put_i, put_b, put_s, put_imm, setCells, List.getD_cons_zero, List.getD_cons_succ, bSh_b, bSh_i, bSh_s, bSh_sl, bSh_some, cond_true, cond_false, decide_true, decide_false, Int.toNat_natCast, Nat.zero_add, Nat.reduceAdd, beq_self_eq_true, Bool.and_true, Bool.true_and, if_true, Bool.false_eq_true, if_false, List.set_cons_zero, List.set_cons_succ, Bool.not_true, Bool.not_false, Bool.and_self]
theorem eq44 {l : List AV} (h : Rw (T98 1048576) 1048576 l) : den E 44 [(.imm 10 l), (.imm 10 l)] [] = some (.b true) := by
  have hl := h.1
  rw [f44_eq]
  simp only [decide_true, Bool.not_true, cond_false]
  refine eq_loop (L := fun i => f44_l1 l l i) (n := l.length) (fun i hi => ?_) ?_
  · have hT := h.at hi
    obtain ⟨a0, a1, a2, a3, a4, a5, a6, a7, a8, a9, he, w0, w1, w2, w3, w4, w5, w6, w7, w8, w9, _⟩ := h.at hi
    rw [he] at hT
    try dsimp only
    rw [f44_l1_eq, dT (show (i : Int) < ((l.length : Nat) : Int) by omega), cond_true]
    rw [if_pos (by omega)]
    simp only [Int.toNat_natCast, he]
    rw [if_pos (by rfl), if_pos (by omega), if_pos (by rfl), w64 (by omega) (by omega)]
    simp only [okC_nil, okC_agg, okC_i, okC_b, okC_s, okC_imm, okL_i, okL_b, okL_s, okL_sl, okS_i, okS_b, okS_s, okS_sl, okS_agg, okS_tup, okS_nil, okS_cons, cells_agg, cells_i, cells_b, cells_s, cells_imm, toI_i, toB_b, toS_s, toL_imm, nth_agg, nth_tup, put_agg, put_i, put_b, put_s, put_imm, setCells, List.getD_cons_zero, List.getD_cons_succ, bSh_b, bSh_i, bSh_s, bSh_sl, bSh_some, cond_true, cond_false, decide_true, decide_false, Int.toNat_natCast, Nat.zero_add, Nat.reduceAdd, beq_self_eq_true, Bool.and_true, Bool.true_and, if_true, Bool.false_eq_true, if_false, List.set_cons_zero, List.set_cons_succ, Bool.not_true, Bool.not_false, Bool.and_self, eq80 hT]
  · try dsimp only
    rw [f44_l1_eq, dF (Int.lt_irrefl _), cond_false]
theorem eq15 {el : AV} (h : T32 1048576 el) : den E 15 [el, el] [] = some (.b true) := by
  obtain ⟨a0, a1, a2, a3, rfl, w0, w1, w2, w3, _⟩ := h
  rw [f15_eq]
  simp only [okC_nil, okC_agg, okC_i, okC_b, okC_s, okC_imm, okL_i, okL_b, okL_s, okL_sl, okS_i, okS_b, okS_s, okS_sl, okS_agg, okS_tup, okS_nil, okS_cons, cells_agg, cells_i, cells_b, cells_s, cells_imm, toI_i, toB_b, toS_s, toL_imm, nth_agg, nth_tup, put_agg, put_i, put_b, put_s, put_imm, setCells, List.getD_cons_zero, List.getD_cons_succ, bSh_b, bSh_i, bSh_s, bSh_sl, bSh_some, cond_true, cond_false, decide_true, decide_false, Int.toNat_natCast, Nat.zero_add, Nat.reduceAdd, beq_self_eq_true, Bool.and_true, Bool.true_and, if_true, Bool.false_eq_true, if_false, List.set_cons_zero, List.set_cons_succ, Bool.not_true, Bool.not_false, Bool.and_self, eq44 w3]
end Go.Proofs.YtokpbjbngnlepaaGreat.IPlaceTable
