/- Printed by a program of this work (wip/it/itf.py): typed trees; the families sz, to, eq. No condition beyond what each theorem states. -/
import Derived.Test.YtkpmplggbbiebaaISameDBx
import Derived.Test.YtkpmplggbbiebaaIt2
namespace Go.Proofs.Ytkpmplggbbiebaa.ISameDB
open Go Go.Proofs.YtkpmplggbbiebaaIT
set_option linter.unusedVariables false
set_option linter.unusedSimpArgs false
def T9 (B : Nat) (el : AV) : Prop := ∃ (a0 : ByteArray), el = AV.s a0 ∧ a0.size ≤ B ∧ True
theorem T9.eta {B : Nat} {el : AV} (h : T9 B el) : AV.s (el.cells.getD 0 .x).toS = el := by obtain ⟨a0, rfl, _, _⟩ := h; rfl
theorem T9.ok {B : Nat} {el : AV} (h : T9 B el) : okCells false el 0 [.s] = true := by obtain ⟨a0, rfl, _, _⟩ := h; rfl
theorem T9_of {el : AV} (h : El E .s el) : T9 9223372036854775807 el := by
  have h0 : WL E .s el := El.leaf rfl (fun _ => rfl) h
  obtain ⟨a0, rfl, w0⟩ := h0.str
  exact ⟨a0, rfl, w0, trivial⟩
def T202 (B : Nat) (el : AV) : Prop := ∃ (a0 : Int) (a1 : Int) (a2 : Bool) (a3 : List AV), el = AV.agg [(.i .i64 a0), (.i .i64 a1), (.b a2), (.imm 1 a3)] ∧ W64 a0 ∧ W64 a1 ∧ Rw (T9 B) B a3 ∧ True
theorem T202.eta {B : Nat} {el : AV} (h : T202 B el) : AV.agg [(.i .i64 (el.cells.getD 0 .x).toI), (.i .i64 (el.cells.getD 1 .x).toI), (.b (el.cells.getD 2 .x).toB), (.imm 1 (el.cells.getD 3 .x).toL)] = el := by obtain ⟨a0, a1, a2, a3, rfl, _, _, _, _⟩ := h; rfl
theorem T202.ok {B : Nat} {el : AV} (h : T202 B el) : okCells false el 0 [(.i .i64), (.i .i64), .b, (.sl 9 1)] = true := by obtain ⟨a0, a1, a2, a3, rfl, _, _, _, _⟩ := h; rfl
theorem T202.ok0 {B : Nat} {el : AV} (h : T202 B el) : okCells false el 0 [(.i .i64)] = true := by obtain ⟨a0, a1, a2, a3, rfl, _, _, _, _⟩ := h; rfl
theorem T202.ok1 {B : Nat} {el : AV} (h : T202 B el) : okCells false el 1 [(.i .i64)] = true := by obtain ⟨a0, a1, a2, a3, rfl, _, _, _, _⟩ := h; rfl
theorem T202.ok2 {B : Nat} {el : AV} (h : T202 B el) : okCells false el 2 [.b] = true := by obtain ⟨a0, a1, a2, a3, rfl, _, _, _, _⟩ := h; rfl
theorem T202.ok3 {B : Nat} {el : AV} (h : T202 B el) : okCells false el 3 [(.sl 9 1)] = true := by obtain ⟨a0, a1, a2, a3, rfl, _, _, _, _⟩ := h; rfl
theorem T202_of {el : AV} (h : El E (.agg [(.i .i64), (.i .i64), .b, (.sl 9 1)]) el) : T202 9223372036854775807 el := by
  obtain ⟨cs, rfl, hs⟩ := h.agg
  obtain ⟨y0, c0, rfl, h0, hs⟩ := hs.out
  obtain ⟨y1, c1, rfl, h1, hs⟩ := hs.out
  obtain ⟨y2, c2, rfl, h2, hs⟩ := hs.out
  obtain ⟨y3, c3, rfl, h3, hs⟩ := hs.out
  obtain rfl := hs.end
  obtain ⟨a0, rfl, w0⟩ := h0.int
  obtain ⟨a1, rfl, w1⟩ := h1.int
  obtain ⟨a2, rfl⟩ := h2.bool
  obtain ⟨a3, rfl, w3, r3⟩ := h3.row (te := ⟨.s, 1, 16, 0, []⟩) rfl
  exact ⟨a0, a1, a2, a3, rfl, wf_64 w0, wf_64 w1, ⟨w3, fun el hel => T9_of (r3 el hel)⟩, trivial⟩
def T2 (B : Nat) (el : AV) : Prop := ∃ (a0 : Int), el = AV.i .i64 a0 ∧ W64 a0 ∧ True
theorem T2.eta {B : Nat} {el : AV} (h : T2 B el) : AV.i .i64 (el.cells.getD 0 .x).toI = el := by obtain ⟨a0, rfl, _, _⟩ := h; rfl
theorem T2.ok {B : Nat} {el : AV} (h : T2 B el) : okCells false el 0 [(.i .i64)] = true := by obtain ⟨a0, rfl, _, _⟩ := h; rfl
theorem T2_of {el : AV} (h : El E (.i .i64) el) : T2 9223372036854775807 el := by
  have h0 : WL E (.i .i64) el := El.leaf rfl (fun _ => rfl) h
  obtain ⟨a0, rfl, w0⟩ := h0.int
  exact ⟨a0, rfl, wf_64 w0, trivial⟩
def T167 (B : Nat) (el : AV) : Prop := ∃ (a0 : Int) (a1 : List AV) (a2 : Int) (a3 : Int) (a4 : List AV) (a5 : List AV), el = AV.agg [(.i .i64 a0), (.imm 1 a1), (.i .i64 a2), (.i .i64 a3), (.imm 1 a4), (.imm 1 a5)] ∧ W64 a0 ∧ Rw (T2 B) B a1 ∧ W64 a2 ∧ W64 a3 ∧ Rw (T2 B) B a4 ∧ Rw (T9 B) B a5 ∧ True
theorem T167.eta {B : Nat} {el : AV} (h : T167 B el) : AV.agg [(.i .i64 (el.cells.getD 0 .x).toI), (.imm 1 (el.cells.getD 1 .x).toL), (.i .i64 (el.cells.getD 2 .x).toI), (.i .i64 (el.cells.getD 3 .x).toI), (.imm 1 (el.cells.getD 4 .x).toL), (.imm 1 (el.cells.getD 5 .x).toL)] = el := by obtain ⟨a0, a1, a2, a3, a4, a5, rfl, _, _, _, _, _, _, _⟩ := h; rfl
theorem T167.ok {B : Nat} {el : AV} (h : T167 B el) : okCells false el 0 [(.i .i64), (.sl 2 1), (.i .i64), (.i .i64), (.sl 2 1), (.sl 9 1)] = true := by obtain ⟨a0, a1, a2, a3, a4, a5, rfl, _, _, _, _, _, _, _⟩ := h; rfl
theorem T167.ok0 {B : Nat} {el : AV} (h : T167 B el) : okCells false el 0 [(.i .i64)] = true := by obtain ⟨a0, a1, a2, a3, a4, a5, rfl, _, _, _, _, _, _, _⟩ := h; rfl
theorem T167.ok1 {B : Nat} {el : AV} (h : T167 B el) : okCells false el 1 [(.sl 2 1)] = true := by obtain ⟨a0, a1, a2, a3, a4, a5, rfl, _, _, _, _, _, _, _⟩ := h; rfl
theorem T167.ok2 {B : Nat} {el : AV} (h : T167 B el) : okCells false el 2 [(.i .i64)] = true := by obtain ⟨a0, a1, a2, a3, a4, a5, rfl, _, _, _, _, _, _, _⟩ := h; rfl
theorem T167.ok3 {B : Nat} {el : AV} (h : T167 B el) : okCells false el 3 [(.i .i64)] = true := by obtain ⟨a0, a1, a2, a3, a4, a5, rfl, _, _, _, _, _, _, _⟩ := h; rfl
theorem T167.ok4 {B : Nat} {el : AV} (h : T167 B el) : okCells false el 4 [(.sl 2 1)] = true := by obtain ⟨a0, a1, a2, a3, a4, a5, rfl, _, _, _, _, _, _, _⟩ := h; rfl
theorem T167.ok5 {B : Nat} {el : AV} (h : T167 B el) : okCells false el 5 [(.sl 9 1)] = true := by obtain ⟨a0, a1, a2, a3, a4, a5, rfl, _, _, _, _, _, _, _⟩ := h; rfl
theorem T167_of {el : AV} (h : El E (.agg [(.i .i64), (.sl 2 1), (.i .i64), (.i .i64), (.sl 2 1), (.sl 9 1)]) el) : T167 9223372036854775807 el := by
  obtain ⟨cs, rfl, hs⟩ := h.agg
  obtain ⟨y0, c0, rfl, h0, hs⟩ := hs.out
  obtain ⟨y1, c1, rfl, h1, hs⟩ := hs.out
  obtain ⟨y2, c2, rfl, h2, hs⟩ := hs.out
  obtain ⟨y3, c3, rfl, h3, hs⟩ := hs.out
  obtain ⟨y4, c4, rfl, h4, hs⟩ := hs.out
  obtain ⟨y5, c5, rfl, h5, hs⟩ := hs.out
  obtain rfl := hs.end
  obtain ⟨a0, rfl, w0⟩ := h0.int
  obtain ⟨a1, rfl, w1, r1⟩ := h1.row (te := ⟨(.i .i64), 1, 8, 0, []⟩) rfl
  obtain ⟨a2, rfl, w2⟩ := h2.int
  obtain ⟨a3, rfl, w3⟩ := h3.int
  obtain ⟨a4, rfl, w4, r4⟩ := h4.row (te := ⟨(.i .i64), 1, 8, 0, []⟩) rfl
  obtain ⟨a5, rfl, w5, r5⟩ := h5.row (te := ⟨.s, 1, 16, 0, []⟩) rfl
  exact ⟨a0, a1, a2, a3, a4, a5, rfl, wf_64 w0, ⟨w1, fun el hel => T2_of (r1 el hel)⟩, wf_64 w2, wf_64 w3, ⟨w4, fun el hel => T2_of (r4 el hel)⟩, ⟨w5, fun el hel => T9_of (r5 el hel)⟩, trivial⟩
def T169 (B : Nat) (el : AV) : Prop := ∃ (a0 : Int) (a1 : Int) (a2 : Int) (a3 : Int) (a4 : Int) (a5 : ByteArray) (a6 : ByteArray) (a7 : Int) (a8 : Int) (a9 : Int), el = AV.agg [(.i .i64 a0), (.i .i64 a1), (.i .i64 a2), (.i .i64 a3), (.i .i64 a4), (.s a5), (.s a6), (.i .i64 a7), (.i .i64 a8), (.i .i64 a9)] ∧ W64 a0 ∧ W64 a1 ∧ W64 a2 ∧ W64 a3 ∧ W64 a4 ∧ a5.size ≤ B ∧ a6.size ≤ B ∧ W64 a7 ∧ W64 a8 ∧ W64 a9 ∧ True
theorem T169.eta {B : Nat} {el : AV} (h : T169 B el) : AV.agg [(.i .i64 (el.cells.getD 0 .x).toI), (.i .i64 (el.cells.getD 1 .x).toI), (.i .i64 (el.cells.getD 2 .x).toI), (.i .i64 (el.cells.getD 3 .x).toI), (.i .i64 (el.cells.getD 4 .x).toI), (.s (el.cells.getD 5 .x).toS), (.s (el.cells.getD 6 .x).toS), (.i .i64 (el.cells.getD 7 .x).toI), (.i .i64 (el.cells.getD 8 .x).toI), (.i .i64 (el.cells.getD 9 .x).toI)] = el := by obtain ⟨a0, a1, a2, a3, a4, a5, a6, a7, a8, a9, rfl, _, _, _, _, _, _, _, _, _, _, _⟩ := h; rfl
theorem T169.ok {B : Nat} {el : AV} (h : T169 B el) : okCells false el 0 [(.i .i64), (.i .i64), (.i .i64), (.i .i64), (.i .i64), .s, .s, (.i .i64), (.i .i64), (.i .i64)] = true := by obtain ⟨a0, a1, a2, a3, a4, a5, a6, a7, a8, a9, rfl, _, _, _, _, _, _, _, _, _, _, _⟩ := h; rfl
theorem T169.ok0 {B : Nat} {el : AV} (h : T169 B el) : okCells false el 0 [(.i .i64)] = true := by obtain ⟨a0, a1, a2, a3, a4, a5, a6, a7, a8, a9, rfl, _, _, _, _, _, _, _, _, _, _, _⟩ := h; rfl
theorem T169.ok1 {B : Nat} {el : AV} (h : T169 B el) : okCells false el 1 [(.i .i64)] = true := by obtain ⟨a0, a1, a2, a3, a4, a5, a6, a7, a8, a9, rfl, _, _, _, _, _, _, _, _, _, _, _⟩ := h; rfl
theorem T169.ok2 {B : Nat} {el : AV} (h : T169 B el) : okCells false el 2 [(.i .i64)] = true := by obtain ⟨a0, a1, a2, a3, a4, a5, a6, a7, a8, a9, rfl, _, _, _, _, _, _, _, _, _, _, _⟩ := h; rfl
theorem T169.ok3 {B : Nat} {el : AV} (h : T169 B el) : okCells false el 3 [(.i .i64)] = true := by obtain ⟨a0, a1, a2, a3, a4, a5, a6, a7, a8, a9, rfl, _, _, _, _, _, _, _, _, _, _, _⟩ := h; rfl
theorem T169.ok4 {B : Nat} {el : AV} (h : T169 B el) : okCells false el 4 [(.i .i64)] = true := by obtain ⟨a0, a1, a2, a3, a4, a5, a6, a7, a8, a9, rfl, _, _, _, _, _, _, _, _, _, _, _⟩ := h; rfl
theorem T169.ok5 {B : Nat} {el : AV} (h : T169 B el) : okCells false el 5 [.s] = true := by obtain ⟨a0, a1, a2, a3, a4, a5, a6, a7, a8, a9, rfl, _, _, _, _, _, _, _, _, _, _, _⟩ := h; rfl
theorem T169.ok6 {B : Nat} {el : AV} (h : T169 B el) : okCells false el 6 [.s] = true := by obtain ⟨a0, a1, a2, a3, a4, a5, a6, a7, a8, a9, rfl, _, _, _, _, _, _, _, _, _, _, _⟩ := h; rfl
theorem T169.ok7 {B : Nat} {el : AV} (h : T169 B el) : okCells false el 7 [(.i .i64)] = true := by obtain ⟨a0, a1, a2, a3, a4, a5, a6, a7, a8, a9, rfl, _, _, _, _, _, _, _, _, _, _, _⟩ := h; rfl
theorem T169.ok8 {B : Nat} {el : AV} (h : T169 B el) : okCells false el 8 [(.i .i64)] = true := by obtain ⟨a0, a1, a2, a3, a4, a5, a6, a7, a8, a9, rfl, _, _, _, _, _, _, _, _, _, _, _⟩ := h; rfl
theorem T169.ok9 {B : Nat} {el : AV} (h : T169 B el) : okCells false el 9 [(.i .i64)] = true := by obtain ⟨a0, a1, a2, a3, a4, a5, a6, a7, a8, a9, rfl, _, _, _, _, _, _, _, _, _, _, _⟩ := h; rfl
theorem T169_of {el : AV} (h : El E (.agg [(.i .i64), (.i .i64), (.i .i64), (.i .i64), (.i .i64), .s, .s, (.i .i64), (.i .i64), (.i .i64)]) el) : T169 9223372036854775807 el := by
  obtain ⟨cs, rfl, hs⟩ := h.agg
  obtain ⟨y0, c0, rfl, h0, hs⟩ := hs.out
  obtain ⟨y1, c1, rfl, h1, hs⟩ := hs.out
  obtain ⟨y2, c2, rfl, h2, hs⟩ := hs.out
  obtain ⟨y3, c3, rfl, h3, hs⟩ := hs.out
  obtain ⟨y4, c4, rfl, h4, hs⟩ := hs.out
  obtain ⟨y5, c5, rfl, h5, hs⟩ := hs.out
  obtain ⟨y6, c6, rfl, h6, hs⟩ := hs.out
  obtain ⟨y7, c7, rfl, h7, hs⟩ := hs.out
  obtain ⟨y8, c8, rfl, h8, hs⟩ := hs.out
  obtain ⟨y9, c9, rfl, h9, hs⟩ := hs.out
  obtain rfl := hs.end
  obtain ⟨a0, rfl, w0⟩ := h0.int
  obtain ⟨a1, rfl, w1⟩ := h1.int
  obtain ⟨a2, rfl, w2⟩ := h2.int
  obtain ⟨a3, rfl, w3⟩ := h3.int
  obtain ⟨a4, rfl, w4⟩ := h4.int
  obtain ⟨a5, rfl, w5⟩ := h5.str
  obtain ⟨a6, rfl, w6⟩ := h6.str
  obtain ⟨a7, rfl, w7⟩ := h7.int
  obtain ⟨a8, rfl, w8⟩ := h8.int
  obtain ⟨a9, rfl, w9⟩ := h9.int
  exact ⟨a0, a1, a2, a3, a4, a5, a6, a7, a8, a9, rfl, wf_64 w0, wf_64 w1, wf_64 w2, wf_64 w3, wf_64 w4, w5, w6, wf_64 w7, wf_64 w8, wf_64 w9, trivial⟩
def T63 (B : Nat) (el : AV) : Prop := ∃ (a0 : ByteArray) (a1 : Int) (a2 : Int) (a3 : ByteArray) (a4 : ByteArray), el = AV.agg [(.s a0), (.i .i64 a1), (.i .i64 a2), (.s a3), (.s a4)] ∧ a0.size ≤ B ∧ W64 a1 ∧ W64 a2 ∧ a3.size ≤ B ∧ a4.size ≤ B ∧ True
theorem T63.eta {B : Nat} {el : AV} (h : T63 B el) : AV.agg [(.s (el.cells.getD 0 .x).toS), (.i .i64 (el.cells.getD 1 .x).toI), (.i .i64 (el.cells.getD 2 .x).toI), (.s (el.cells.getD 3 .x).toS), (.s (el.cells.getD 4 .x).toS)] = el := by obtain ⟨a0, a1, a2, a3, a4, rfl, _, _, _, _, _, _⟩ := h; rfl
theorem T63.ok {B : Nat} {el : AV} (h : T63 B el) : okCells false el 0 [.s, (.i .i64), (.i .i64), .s, .s] = true := by obtain ⟨a0, a1, a2, a3, a4, rfl, _, _, _, _, _, _⟩ := h; rfl
theorem T63.ok0 {B : Nat} {el : AV} (h : T63 B el) : okCells false el 0 [.s] = true := by obtain ⟨a0, a1, a2, a3, a4, rfl, _, _, _, _, _, _⟩ := h; rfl
theorem T63.ok1 {B : Nat} {el : AV} (h : T63 B el) : okCells false el 1 [(.i .i64)] = true := by obtain ⟨a0, a1, a2, a3, a4, rfl, _, _, _, _, _, _⟩ := h; rfl
theorem T63.ok2 {B : Nat} {el : AV} (h : T63 B el) : okCells false el 2 [(.i .i64)] = true := by obtain ⟨a0, a1, a2, a3, a4, rfl, _, _, _, _, _, _⟩ := h; rfl
theorem T63.ok3 {B : Nat} {el : AV} (h : T63 B el) : okCells false el 3 [.s] = true := by obtain ⟨a0, a1, a2, a3, a4, rfl, _, _, _, _, _, _⟩ := h; rfl
theorem T63.ok4 {B : Nat} {el : AV} (h : T63 B el) : okCells false el 4 [.s] = true := by obtain ⟨a0, a1, a2, a3, a4, rfl, _, _, _, _, _, _⟩ := h; rfl
theorem T63_of {el : AV} (h : El E (.agg [.s, (.i .i64), (.i .i64), .s, .s]) el) : T63 9223372036854775807 el := by
  obtain ⟨cs, rfl, hs⟩ := h.agg
  obtain ⟨y0, c0, rfl, h0, hs⟩ := hs.out
  obtain ⟨y1, c1, rfl, h1, hs⟩ := hs.out
  obtain ⟨y2, c2, rfl, h2, hs⟩ := hs.out
  obtain ⟨y3, c3, rfl, h3, hs⟩ := hs.out
  obtain ⟨y4, c4, rfl, h4, hs⟩ := hs.out
  obtain rfl := hs.end
  obtain ⟨a0, rfl, w0⟩ := h0.str
  obtain ⟨a1, rfl, w1⟩ := h1.int
  obtain ⟨a2, rfl, w2⟩ := h2.int
  obtain ⟨a3, rfl, w3⟩ := h3.str
  obtain ⟨a4, rfl, w4⟩ := h4.str
  exact ⟨a0, a1, a2, a3, a4, rfl, w0, wf_64 w1, wf_64 w2, w3, w4, trivial⟩
def T36 (B : Nat) (el : AV) : Prop := ∃ (a0 : Int) (a1 : Int) (a2 : Int) (a3 : List AV) (a4 : Int) (a5 : Int) (a6 : Bool) (a7 : Int) (a8 : List AV) (a9 : Int) (a10 : Int) (a11 : Int) (a12 : List AV) (a13 : Int) (a14 : Int) (a15 : List AV) (a16 : Int) (a17 : Int) (a18 : List AV), el = AV.agg [(.i .i64 a0), (.i .i64 a1), (.i .i64 a2), (.imm 4 a3), (.i .i64 a4), (.i .i64 a5), (.b a6), (.i .i64 a7), (.imm 6 a8), (.i .i64 a9), (.i .i64 a10), (.i .i64 a11), (.imm 10 a12), (.i .i64 a13), (.i .i64 a14), (.imm 5 a15), (.i .i64 a16), (.i .i64 a17), (.imm 1 a18)] ∧ W64 a0 ∧ W64 a1 ∧ W64 a2 ∧ Rw (T202 B) B a3 ∧ W64 a4 ∧ W64 a5 ∧ W64 a7 ∧ Rw (T167 B) B a8 ∧ W64 a9 ∧ W64 a10 ∧ W64 a11 ∧ Rw (T169 B) B a12 ∧ W64 a13 ∧ W64 a14 ∧ Rw (T63 B) B a15 ∧ W64 a16 ∧ W64 a17 ∧ Rw (T2 B) B a18 ∧ True
theorem T36.eta {B : Nat} {el : AV} (h : T36 B el) : AV.agg [(.i .i64 (el.cells.getD 0 .x).toI), (.i .i64 (el.cells.getD 1 .x).toI), (.i .i64 (el.cells.getD 2 .x).toI), (.imm 4 (el.cells.getD 3 .x).toL), (.i .i64 (el.cells.getD 4 .x).toI), (.i .i64 (el.cells.getD 5 .x).toI), (.b (el.cells.getD 6 .x).toB), (.i .i64 (el.cells.getD 7 .x).toI), (.imm 6 (el.cells.getD 8 .x).toL), (.i .i64 (el.cells.getD 9 .x).toI), (.i .i64 (el.cells.getD 10 .x).toI), (.i .i64 (el.cells.getD 11 .x).toI), (.imm 10 (el.cells.getD 12 .x).toL), (.i .i64 (el.cells.getD 13 .x).toI), (.i .i64 (el.cells.getD 14 .x).toI), (.imm 5 (el.cells.getD 15 .x).toL), (.i .i64 (el.cells.getD 16 .x).toI), (.i .i64 (el.cells.getD 17 .x).toI), (.imm 1 (el.cells.getD 18 .x).toL)] = el := by obtain ⟨a0, a1, a2, a3, a4, a5, a6, a7, a8, a9, a10, a11, a12, a13, a14, a15, a16, a17, a18, rfl, _, _, _, _, _, _, _, _, _, _, _, _, _, _, _, _, _, _, _⟩ := h; rfl
theorem T36.ok {B : Nat} {el : AV} (h : T36 B el) : okCells false el 0 [(.i .i64), (.i .i64), (.i .i64), (.sl 202 4), (.i .i64), (.i .i64), .b, (.i .i64), (.sl 167 6), (.i .i64), (.i .i64), (.i .i64), (.sl 169 10), (.i .i64), (.i .i64), (.sl 63 5), (.i .i64), (.i .i64), (.sl 2 1)] = true := by obtain ⟨a0, a1, a2, a3, a4, a5, a6, a7, a8, a9, a10, a11, a12, a13, a14, a15, a16, a17, a18, rfl, _, _, _, _, _, _, _, _, _, _, _, _, _, _, _, _, _, _, _⟩ := h; rfl
theorem T36.ok0 {B : Nat} {el : AV} (h : T36 B el) : okCells false el 0 [(.i .i64)] = true := by obtain ⟨a0, a1, a2, a3, a4, a5, a6, a7, a8, a9, a10, a11, a12, a13, a14, a15, a16, a17, a18, rfl, _, _, _, _, _, _, _, _, _, _, _, _, _, _, _, _, _, _, _⟩ := h; rfl
theorem T36.ok1 {B : Nat} {el : AV} (h : T36 B el) : okCells false el 1 [(.i .i64)] = true := by obtain ⟨a0, a1, a2, a3, a4, a5, a6, a7, a8, a9, a10, a11, a12, a13, a14, a15, a16, a17, a18, rfl, _, _, _, _, _, _, _, _, _, _, _, _, _, _, _, _, _, _, _⟩ := h; rfl
theorem T36.ok2 {B : Nat} {el : AV} (h : T36 B el) : okCells false el 2 [(.i .i64)] = true := by obtain ⟨a0, a1, a2, a3, a4, a5, a6, a7, a8, a9, a10, a11, a12, a13, a14, a15, a16, a17, a18, rfl, _, _, _, _, _, _, _, _, _, _, _, _, _, _, _, _, _, _, _⟩ := h; rfl
theorem T36.ok3 {B : Nat} {el : AV} (h : T36 B el) : okCells false el 3 [(.sl 202 4)] = true := by obtain ⟨a0, a1, a2, a3, a4, a5, a6, a7, a8, a9, a10, a11, a12, a13, a14, a15, a16, a17, a18, rfl, _, _, _, _, _, _, _, _, _, _, _, _, _, _, _, _, _, _, _⟩ := h; rfl
theorem T36.ok4 {B : Nat} {el : AV} (h : T36 B el) : okCells false el 4 [(.i .i64)] = true := by obtain ⟨a0, a1, a2, a3, a4, a5, a6, a7, a8, a9, a10, a11, a12, a13, a14, a15, a16, a17, a18, rfl, _, _, _, _, _, _, _, _, _, _, _, _, _, _, _, _, _, _, _⟩ := h; rfl
theorem T36.ok5 {B : Nat} {el : AV} (h : T36 B el) : okCells false el 5 [(.i .i64)] = true := by obtain ⟨a0, a1, a2, a3, a4, a5, a6, a7, a8, a9, a10, a11, a12, a13, a14, a15, a16, a17, a18, rfl, _, _, _, _, _, _, _, _, _, _, _, _, _, _, _, _, _, _, _⟩ := h; rfl
theorem T36.ok6 {B : Nat} {el : AV} (h : T36 B el) : okCells false el 6 [.b] = true := by obtain ⟨a0, a1, a2, a3, a4, a5, a6, a7, a8, a9, a10, a11, a12, a13, a14, a15, a16, a17, a18, rfl, _, _, _, _, _, _, _, _, _, _, _, _, _, _, _, _, _, _, _⟩ := h; rfl
theorem T36.ok7 {B : Nat} {el : AV} (h : T36 B el) : okCells false el 7 [(.i .i64)] = true := by obtain ⟨a0, a1, a2, a3, a4, a5, a6, a7, a8, a9, a10, a11, a12, a13, a14, a15, a16, a17, a18, rfl, _, _, _, _, _, _, _, _, _, _, _, _, _, _, _, _, _, _, _⟩ := h; rfl
theorem T36.ok8 {B : Nat} {el : AV} (h : T36 B el) : okCells false el 8 [(.sl 167 6)] = true := by obtain ⟨a0, a1, a2, a3, a4, a5, a6, a7, a8, a9, a10, a11, a12, a13, a14, a15, a16, a17, a18, rfl, _, _, _, _, _, _, _, _, _, _, _, _, _, _, _, _, _, _, _⟩ := h; rfl
theorem T36.ok9 {B : Nat} {el : AV} (h : T36 B el) : okCells false el 9 [(.i .i64)] = true := by obtain ⟨a0, a1, a2, a3, a4, a5, a6, a7, a8, a9, a10, a11, a12, a13, a14, a15, a16, a17, a18, rfl, _, _, _, _, _, _, _, _, _, _, _, _, _, _, _, _, _, _, _⟩ := h; rfl
theorem T36.ok10 {B : Nat} {el : AV} (h : T36 B el) : okCells false el 10 [(.i .i64)] = true := by obtain ⟨a0, a1, a2, a3, a4, a5, a6, a7, a8, a9, a10, a11, a12, a13, a14, a15, a16, a17, a18, rfl, _, _, _, _, _, _, _, _, _, _, _, _, _, _, _, _, _, _, _⟩ := h; rfl
theorem T36.ok11 {B : Nat} {el : AV} (h : T36 B el) : okCells false el 11 [(.i .i64)] = true := by obtain ⟨a0, a1, a2, a3, a4, a5, a6, a7, a8, a9, a10, a11, a12, a13, a14, a15, a16, a17, a18, rfl, _, _, _, _, _, _, _, _, _, _, _, _, _, _, _, _, _, _, _⟩ := h; rfl
theorem T36.ok12 {B : Nat} {el : AV} (h : T36 B el) : okCells false el 12 [(.sl 169 10)] = true := by obtain ⟨a0, a1, a2, a3, a4, a5, a6, a7, a8, a9, a10, a11, a12, a13, a14, a15, a16, a17, a18, rfl, _, _, _, _, _, _, _, _, _, _, _, _, _, _, _, _, _, _, _⟩ := h; rfl
theorem T36.ok13 {B : Nat} {el : AV} (h : T36 B el) : okCells false el 13 [(.i .i64)] = true := by obtain ⟨a0, a1, a2, a3, a4, a5, a6, a7, a8, a9, a10, a11, a12, a13, a14, a15, a16, a17, a18, rfl, _, _, _, _, _, _, _, _, _, _, _, _, _, _, _, _, _, _, _⟩ := h; rfl
theorem T36.ok14 {B : Nat} {el : AV} (h : T36 B el) : okCells false el 14 [(.i .i64)] = true := by obtain ⟨a0, a1, a2, a3, a4, a5, a6, a7, a8, a9, a10, a11, a12, a13, a14, a15, a16, a17, a18, rfl, _, _, _, _, _, _, _, _, _, _, _, _, _, _, _, _, _, _, _⟩ := h; rfl
theorem T36.ok15 {B : Nat} {el : AV} (h : T36 B el) : okCells false el 15 [(.sl 63 5)] = true := by obtain ⟨a0, a1, a2, a3, a4, a5, a6, a7, a8, a9, a10, a11, a12, a13, a14, a15, a16, a17, a18, rfl, _, _, _, _, _, _, _, _, _, _, _, _, _, _, _, _, _, _, _⟩ := h; rfl
theorem T36.ok16 {B : Nat} {el : AV} (h : T36 B el) : okCells false el 16 [(.i .i64)] = true := by obtain ⟨a0, a1, a2, a3, a4, a5, a6, a7, a8, a9, a10, a11, a12, a13, a14, a15, a16, a17, a18, rfl, _, _, _, _, _, _, _, _, _, _, _, _, _, _, _, _, _, _, _⟩ := h; rfl
theorem T36.ok17 {B : Nat} {el : AV} (h : T36 B el) : okCells false el 17 [(.i .i64)] = true := by obtain ⟨a0, a1, a2, a3, a4, a5, a6, a7, a8, a9, a10, a11, a12, a13, a14, a15, a16, a17, a18, rfl, _, _, _, _, _, _, _, _, _, _, _, _, _, _, _, _, _, _, _⟩ := h; rfl
theorem T36.ok18 {B : Nat} {el : AV} (h : T36 B el) : okCells false el 18 [(.sl 2 1)] = true := by obtain ⟨a0, a1, a2, a3, a4, a5, a6, a7, a8, a9, a10, a11, a12, a13, a14, a15, a16, a17, a18, rfl, _, _, _, _, _, _, _, _, _, _, _, _, _, _, _, _, _, _, _⟩ := h; rfl
theorem T36_of {el : AV} (h : El E (.agg [(.i .i64), (.i .i64), (.i .i64), (.sl 202 4), (.i .i64), (.i .i64), .b, (.i .i64), (.sl 167 6), (.i .i64), (.i .i64), (.i .i64), (.sl 169 10), (.i .i64), (.i .i64), (.sl 63 5), (.i .i64), (.i .i64), (.sl 2 1)]) el) : T36 9223372036854775807 el := by
  obtain ⟨cs, rfl, hs⟩ := h.agg
  obtain ⟨y0, c0, rfl, h0, hs⟩ := hs.out
  obtain ⟨y1, c1, rfl, h1, hs⟩ := hs.out
  obtain ⟨y2, c2, rfl, h2, hs⟩ := hs.out
  obtain ⟨y3, c3, rfl, h3, hs⟩ := hs.out
  obtain ⟨y4, c4, rfl, h4, hs⟩ := hs.out
  obtain ⟨y5, c5, rfl, h5, hs⟩ := hs.out
  obtain ⟨y6, c6, rfl, h6, hs⟩ := hs.out
  obtain ⟨y7, c7, rfl, h7, hs⟩ := hs.out
  obtain ⟨y8, c8, rfl, h8, hs⟩ := hs.out
  obtain ⟨y9, c9, rfl, h9, hs⟩ := hs.out
  obtain ⟨y10, c10, rfl, h10, hs⟩ := hs.out
  obtain ⟨y11, c11, rfl, h11, hs⟩ := hs.out
  obtain ⟨y12, c12, rfl, h12, hs⟩ := hs.out
  obtain ⟨y13, c13, rfl, h13, hs⟩ := hs.out
  obtain ⟨y14, c14, rfl, h14, hs⟩ := hs.out
  obtain ⟨y15, c15, rfl, h15, hs⟩ := hs.out
  obtain ⟨y16, c16, rfl, h16, hs⟩ := hs.out
  obtain ⟨y17, c17, rfl, h17, hs⟩ := hs.out
  obtain ⟨y18, c18, rfl, h18, hs⟩ := hs.out
  obtain rfl := hs.end
  obtain ⟨a0, rfl, w0⟩ := h0.int
  obtain ⟨a1, rfl, w1⟩ := h1.int
  obtain ⟨a2, rfl, w2⟩ := h2.int
  obtain ⟨a3, rfl, w3, r3⟩ := h3.row (te := ⟨(.agg [(.i .i64), (.i .i64), .b, (.sl 9 1)]), 4, 48, 0, [(0, 2), (1, 2), (2, 4), (3, 54)]⟩) rfl
  obtain ⟨a4, rfl, w4⟩ := h4.int
  obtain ⟨a5, rfl, w5⟩ := h5.int
  obtain ⟨a6, rfl⟩ := h6.bool
  obtain ⟨a7, rfl, w7⟩ := h7.int
  obtain ⟨a8, rfl, w8, r8⟩ := h8.row (te := ⟨(.agg [(.i .i64), (.sl 2 1), (.i .i64), (.i .i64), (.sl 2 1), (.sl 9 1)]), 6, 96, 0, [(0, 2), (1, 34), (2, 2), (3, 2), (4, 34), (5, 54)]⟩) rfl
  obtain ⟨a9, rfl, w9⟩ := h9.int
  obtain ⟨a10, rfl, w10⟩ := h10.int
  obtain ⟨a11, rfl, w11⟩ := h11.int
  obtain ⟨a12, rfl, w12, r12⟩ := h12.row (te := ⟨(.agg [(.i .i64), (.i .i64), (.i .i64), (.i .i64), (.i .i64), .s, .s, (.i .i64), (.i .i64), (.i .i64)]), 10, 96, 0, [(0, 2), (1, 2), (2, 2), (3, 2), (4, 2), (5, 9), (6, 9), (7, 2), (8, 2), (9, 2)]⟩) rfl
  obtain ⟨a13, rfl, w13⟩ := h13.int
  obtain ⟨a14, rfl, w14⟩ := h14.int
  obtain ⟨a15, rfl, w15, r15⟩ := h15.row (te := ⟨(.agg [.s, (.i .i64), (.i .i64), .s, .s]), 5, 64, 0, [(0, 9), (1, 2), (2, 2), (3, 9), (4, 9)]⟩) rfl
  obtain ⟨a16, rfl, w16⟩ := h16.int
  obtain ⟨a17, rfl, w17⟩ := h17.int
  obtain ⟨a18, rfl, w18, r18⟩ := h18.row (te := ⟨(.i .i64), 1, 8, 0, []⟩) rfl
  exact ⟨a0, a1, a2, a3, a4, a5, a6, a7, a8, a9, a10, a11, a12, a13, a14, a15, a16, a17, a18, rfl, wf_64 w0, wf_64 w1, wf_64 w2, ⟨w3, fun el hel => T202_of (r3 el hel)⟩, wf_64 w4, wf_64 w5, wf_64 w7, ⟨w8, fun el hel => T167_of (r8 el hel)⟩, wf_64 w9, wf_64 w10, wf_64 w11, ⟨w12, fun el hel => T169_of (r12 el hel)⟩, wf_64 w13, wf_64 w14, ⟨w15, fun el hel => T63_of (r15 el hel)⟩, wf_64 w16, wf_64 w17, ⟨w18, fun el hel => T2_of (r18 el hel)⟩, trivial⟩
theorem sz12 {l : List AV} (h : Rw (T9 9223372036854775807) 9223372036854775807 l) (left : Int) (h0 : 0 ≤ left) (h1 : left ≤ 1048576) : Sz (den E 12 [(.imm 1 l), (.i .i64 left)] []) left (Rw (T9 1048576) 1048576 l) := by
  have hl := h.1
  rw [f12_eq, w64 (by omega) (by omega)]
  refine Sz.c fun c => ?_
  refine ((sz_loop (L := fun left i => f12_l1 l left i) (n := l.length) (Pz := fun i => T9 1048576 (l.getD i .x)) ?_ ?_ l.length 0 _ (by omega) c (by omega)).mono (by omega) fun hq => Rw.mk (by omega) fun i hi => hq i (Nat.zero_le _) hi)
  · intro i left hi h0 h1
    obtain ⟨a0, he, w0, _⟩ := h.at hi
    try dsimp only
    rw [f12_l1_eq, dT (show (i : Int) < ((l.length : Nat) : Int) by omega), cond_true]
    rw [if_pos (by omega)]
    simp only [Int.toNat_natCast, he]
    rw [if_pos (by rfl), w64 (x := (i : Int) + 1) (by omega) (by omega)]
    simp only [cells_s, List.getD_cons_zero, toS_s]
    rw [w64 (x := left - ((a0.size : Nat) : Int)) (by omega) (by omega)]
    by_cases hc : left - ((a0.size : Nat) : Int) < 0
    · exact .inl ⟨-1, by decide, by simp only [hc, decide_true, cond_true]⟩
    · exact .inr ⟨left - ((a0.size : Nat) : Int), by omega, by omega, ⟨a0, by first | exact he | rfl, by omega, trivial⟩, by simp only [hc, decide_false, cond_false]⟩
  · intro left
    try dsimp only
    rw [f12_l1_eq, dF (Int.lt_irrefl _), cond_false]
theorem sz170 {el : AV} (h : T202 9223372036854775807 el) (left : Int) (h0 : 0 ≤ left) (h1 : left ≤ 1048576) : Sz (den E 170 [el, (.i .i64 left)] []) left (T202 1048576 el) := by
  obtain ⟨a0, a1, a2, a3, rfl, w0, w1, w3, _⟩ := h
  rw [f170_eq]
  refine Sz.call (sz12 w3 left (by omega) (by omega)) (by omega) (fun l1 c1 d1 q3 => ?_) (fun r hr => Sz.neg hr)
  simp only [AV.toI]
  refine Sz.c fun _ => ?_
  exact Sz.done (by omega) (by omega) ⟨a0, a1, a2, a3, rfl, w0, w1, q3, trivial⟩
theorem sz131 {l : List AV} (h : Rw (T202 9223372036854775807) 9223372036854775807 l) (left : Int) (h0 : 0 ≤ left) (h1 : left ≤ 1048576) : Sz (den E 131 [(.imm 4 l), (.i .i64 left)] []) left (Rw (T202 1048576) 1048576 l) := by
  have hl := h.1
  rw [f131_eq, w64 (by omega) (by omega)]
  refine Sz.c fun c => ?_
  refine ((sz_loop (L := fun left i => f131_l1 l left i) (n := l.length) (Pz := fun i => T202 1048576 (l.getD i .x)) ?_ ?_ l.length 0 _ (by omega) c (by omega)).mono (by omega) fun hq => Rw.mk (by omega) fun i hi => hq i (Nat.zero_le _) hi)
  · intro i left hi h0 h1
    have hT := h.at hi
    refine (sz170 hT left h0 h1).step (K := fun r => f131_l1 l r ((i : Int) + 1)) fun r hr => ?_
    obtain ⟨a0, a1, a2, a3, he, w0, w1, w3, _⟩ := hT
    rw [he] at hr
    try dsimp only
    rw [f131_l1_eq, dT (show (i : Int) < ((l.length : Nat) : Int) by omega), cond_true]
    rw [if_pos (by omega)]
    simp only [Int.toNat_natCast, he]
    rw [if_pos (by rfl), w64 (by omega) (by omega)]
    simp only [okC_nil, okC_agg, okC_i, okC_b, okC_s, okC_imm, okL_i, okL_b, okL_s, okL_sl, okS_i, okS_b, okS_s, okS_sl, okS_agg, okS_tup, okS_nil, okS_cons, cells_agg, cells_i, cells_b, cells_s, cells_imm, toI_i, toB_b, toS_s, toL_imm, nth_agg, nth_tup, put_agg, put_i, put_b, put_s, put_imm, setCells, List.getD_cons_zero, List.getD_cons_succ, bSh_b, bSh_i, bSh_s, bSh_sl, bSh_some, cond_true, cond_false, decide_true, decide_false, Int.toNat_natCast, Nat.zero_add, Nat.reduceAdd, beq_self_eq_true, Bool.and_true, Bool.true_and, if_true, Bool.false_eq_true, if_false, List.set_cons_zero, List.set_cons_succ, Bool.not_true, Bool.not_false, Bool.and_self, hr]
    try rfl
  · intro left
    try dsimp only
    rw [f131_l1_eq, dF (Int.lt_irrefl _), cond_false]
def T26 (B : Nat) (el : AV) : Prop := ∃ (a0 : Int) (a1 : Int) (a2 : Int) (a3 : List AV) (a4 : Int) (a5 : Int) (a6 : Bool) (a7 : Int), el = AV.agg [(.i .i64 a0), (.i .i64 a1), (.i .i64 a2), (.imm 4 a3), (.i .i64 a4), (.i .i64 a5), (.b a6), (.i .i64 a7)] ∧ W64 a0 ∧ W64 a1 ∧ W64 a2 ∧ Rw (T202 B) B a3 ∧ W64 a4 ∧ W64 a5 ∧ W64 a7 ∧ True
theorem T26.eta {B : Nat} {el : AV} (h : T26 B el) : AV.agg [(.i .i64 (el.cells.getD 0 .x).toI), (.i .i64 (el.cells.getD 1 .x).toI), (.i .i64 (el.cells.getD 2 .x).toI), (.imm 4 (el.cells.getD 3 .x).toL), (.i .i64 (el.cells.getD 4 .x).toI), (.i .i64 (el.cells.getD 5 .x).toI), (.b (el.cells.getD 6 .x).toB), (.i .i64 (el.cells.getD 7 .x).toI)] = el := by obtain ⟨a0, a1, a2, a3, a4, a5, a6, a7, rfl, _, _, _, _, _, _, _, _⟩ := h; rfl
theorem T26.ok {B : Nat} {el : AV} (h : T26 B el) : okCells false el 0 [(.i .i64), (.i .i64), (.i .i64), (.sl 202 4), (.i .i64), (.i .i64), .b, (.i .i64)] = true := by obtain ⟨a0, a1, a2, a3, a4, a5, a6, a7, rfl, _, _, _, _, _, _, _, _⟩ := h; rfl
theorem T26.ok0 {B : Nat} {el : AV} (h : T26 B el) : okCells false el 0 [(.i .i64)] = true := by obtain ⟨a0, a1, a2, a3, a4, a5, a6, a7, rfl, _, _, _, _, _, _, _, _⟩ := h; rfl
theorem T26.ok1 {B : Nat} {el : AV} (h : T26 B el) : okCells false el 1 [(.i .i64)] = true := by obtain ⟨a0, a1, a2, a3, a4, a5, a6, a7, rfl, _, _, _, _, _, _, _, _⟩ := h; rfl
theorem T26.ok2 {B : Nat} {el : AV} (h : T26 B el) : okCells false el 2 [(.i .i64)] = true := by obtain ⟨a0, a1, a2, a3, a4, a5, a6, a7, rfl, _, _, _, _, _, _, _, _⟩ := h; rfl
theorem T26.ok3 {B : Nat} {el : AV} (h : T26 B el) : okCells false el 3 [(.sl 202 4)] = true := by obtain ⟨a0, a1, a2, a3, a4, a5, a6, a7, rfl, _, _, _, _, _, _, _, _⟩ := h; rfl
theorem T26.ok4 {B : Nat} {el : AV} (h : T26 B el) : okCells false el 4 [(.i .i64)] = true := by obtain ⟨a0, a1, a2, a3, a4, a5, a6, a7, rfl, _, _, _, _, _, _, _, _⟩ := h; rfl
theorem T26.ok5 {B : Nat} {el : AV} (h : T26 B el) : okCells false el 5 [(.i .i64)] = true := by obtain ⟨a0, a1, a2, a3, a4, a5, a6, a7, rfl, _, _, _, _, _, _, _, _⟩ := h; rfl
theorem T26.ok6 {B : Nat} {el : AV} (h : T26 B el) : okCells false el 6 [.b] = true := by obtain ⟨a0, a1, a2, a3, a4, a5, a6, a7, rfl, _, _, _, _, _, _, _, _⟩ := h; rfl
theorem T26.ok7 {B : Nat} {el : AV} (h : T26 B el) : okCells false el 7 [(.i .i64)] = true := by obtain ⟨a0, a1, a2, a3, a4, a5, a6, a7, rfl, _, _, _, _, _, _, _, _⟩ := h; rfl
theorem T26_of {el : AV} (h : El E (.agg [(.i .i64), (.i .i64), (.i .i64), (.sl 202 4), (.i .i64), (.i .i64), .b, (.i .i64)]) el) : T26 9223372036854775807 el := by
  obtain ⟨cs, rfl, hs⟩ := h.agg
  obtain ⟨y0, c0, rfl, h0, hs⟩ := hs.out
  obtain ⟨y1, c1, rfl, h1, hs⟩ := hs.out
  obtain ⟨y2, c2, rfl, h2, hs⟩ := hs.out
  obtain ⟨y3, c3, rfl, h3, hs⟩ := hs.out
  obtain ⟨y4, c4, rfl, h4, hs⟩ := hs.out
  obtain ⟨y5, c5, rfl, h5, hs⟩ := hs.out
  obtain ⟨y6, c6, rfl, h6, hs⟩ := hs.out
  obtain ⟨y7, c7, rfl, h7, hs⟩ := hs.out
  obtain rfl := hs.end
  obtain ⟨a0, rfl, w0⟩ := h0.int
  obtain ⟨a1, rfl, w1⟩ := h1.int
  obtain ⟨a2, rfl, w2⟩ := h2.int
  obtain ⟨a3, rfl, w3, r3⟩ := h3.row (te := ⟨(.agg [(.i .i64), (.i .i64), .b, (.sl 9 1)]), 4, 48, 0, [(0, 2), (1, 2), (2, 4), (3, 54)]⟩) rfl
  obtain ⟨a4, rfl, w4⟩ := h4.int
  obtain ⟨a5, rfl, w5⟩ := h5.int
  obtain ⟨a6, rfl⟩ := h6.bool
  obtain ⟨a7, rfl, w7⟩ := h7.int
  exact ⟨a0, a1, a2, a3, a4, a5, a6, a7, rfl, wf_64 w0, wf_64 w1, wf_64 w2, ⟨w3, fun el hel => T202_of (r3 el hel)⟩, wf_64 w4, wf_64 w5, wf_64 w7, trivial⟩
theorem sz85 {el : AV} (h : T26 9223372036854775807 el) (left : Int) (h0 : 0 ≤ left) (h1 : left ≤ 1048576) : Sz (den E 85 [el, (.i .i64 left)] []) left (T26 1048576 el) := by
  obtain ⟨a0, a1, a2, a3, a4, a5, a6, a7, rfl, w0, w1, w2, w3, w4, w5, w7, _⟩ := h
  rw [f85_eq]
  refine Sz.call (sz131 w3 left (by omega) (by omega)) (by omega) (fun l1 c1 d1 q3 => ?_) (fun r hr => Sz.neg hr)
  simp only [AV.toI]
  refine Sz.c fun _ => ?_
  exact Sz.done (by omega) (by omega) ⟨a0, a1, a2, a3, a4, a5, a6, a7, rfl, w0, w1, w2, q3, w4, w5, w7, trivial⟩
theorem sz36 {l : List AV} (h : Rw (T2 9223372036854775807) 9223372036854775807 l) (left : Int) (h0 : 0 ≤ left) (h1 : left ≤ 1048576) : Sz (den E 36 [(.imm 1 l), (.i .i64 left)] []) left (Rw (T2 1048576) 1048576 l) := by
  have hl := h.1
  rw [f36_eq, w64 (by omega) (by omega)]
  refine Sz.c fun c => ?_
  exact Sz.done c (by omega) ⟨by omega, fun y hy => by obtain ⟨a0, rfl, w0, _⟩ := h.2 y hy; exact ⟨a0, rfl, w0, trivial⟩⟩
theorem sz132 {el : AV} (h : T167 9223372036854775807 el) (left : Int) (h0 : 0 ≤ left) (h1 : left ≤ 1048576) : Sz (den E 132 [el, (.i .i64 left)] []) left (T167 1048576 el) := by
  obtain ⟨a0, a1, a2, a3, a4, a5, rfl, w0, w1, w2, w3, w4, w5, _⟩ := h
  rw [f132_eq]
  refine Sz.call (sz36 w1 left (by omega) (by omega)) (by omega) (fun l1 c1 d1 q1 => ?_) (fun r hr => Sz.neg hr)
  simp only [AV.toI]
  refine Sz.c fun _ => ?_
  refine Sz.call (sz36 w4 l1 (by omega) (by omega)) (by omega) (fun l2 c2 d2 q4 => ?_) (fun r hr => Sz.neg hr)
  simp only [AV.toI]
  refine Sz.c fun _ => ?_
  refine Sz.call (sz12 w5 l2 (by omega) (by omega)) (by omega) (fun l3 c3 d3 q5 => ?_) (fun r hr => Sz.neg hr)
  simp only [AV.toI]
  refine Sz.c fun _ => ?_
  exact Sz.done (by omega) (by omega) ⟨a0, a1, a2, a3, a4, a5, rfl, w0, q1, w2, w3, q4, q5, trivial⟩
theorem sz86 {l : List AV} (h : Rw (T167 9223372036854775807) 9223372036854775807 l) (left : Int) (h0 : 0 ≤ left) (h1 : left ≤ 1048576) : Sz (den E 86 [(.imm 6 l), (.i .i64 left)] []) left (Rw (T167 1048576) 1048576 l) := by
  have hl := h.1
  rw [f86_eq, w64 (by omega) (by omega)]
  refine Sz.c fun c => ?_
  refine ((sz_loop (L := fun left i => f86_l1 l left i) (n := l.length) (Pz := fun i => T167 1048576 (l.getD i .x)) ?_ ?_ l.length 0 _ (by omega) c (by omega)).mono (by omega) fun hq => Rw.mk (by omega) fun i hi => hq i (Nat.zero_le _) hi)
  · intro i left hi h0 h1
    have hT := h.at hi
    refine (sz132 hT left h0 h1).step (K := fun r => f86_l1 l r ((i : Int) + 1)) fun r hr => ?_
    obtain ⟨a0, a1, a2, a3, a4, a5, he, w0, w1, w2, w3, w4, w5, _⟩ := hT
    rw [he] at hr
    try dsimp only
    rw [f86_l1_eq, dT (show (i : Int) < ((l.length : Nat) : Int) by omega), cond_true]
    rw [if_pos (by omega)]
    simp only [Int.toNat_natCast, he]
    rw [if_pos (by rfl), w64 (by omega) (by omega)]
    simp only [okC_nil, okC_agg, okC_i, okC_b, okC_s, okC_imm, okL_i, okL_b, okL_s, okL_sl, okS_i, okS_b, okS_s, okS_sl, okS_agg, okS_tup, okS_nil, okS_cons, cells_agg, cells_i, cells_b, cells_s, cells_imm, toI_i, toB_b, toS_s, toL_imm, nth_agg, nth_tup, put_agg, put_i, put_b, put_s, put_imm, setCells, List.getD_cons_zero, List.getD_cons_succ, bSh_b, bSh_i, bSh_s, bSh_sl, bSh_some, cond_true, cond_false, decide_true, decide_false, Int.toNat_natCast, Nat.zero_add, Nat.reduceAdd, beq_self_eq_true, Bool.and_true, Bool.true_and, if_true, Bool.false_eq_true, if_false, List.set_cons_zero, List.set_cons_succ, Bool.not_true, Bool.not_false, Bool.and_self, hr]
    try rfl
  · intro left
    try dsimp only
    rw [f86_l1_eq, dF (Int.lt_irrefl _), cond_false]
def T29 (B : Nat) (el : AV) : Prop := ∃ (a0 : Int) (a1 : Int) (a2 : Int) (a3 : List AV) (a4 : Int) (a5 : Int) (a6 : Bool) (a7 : Int) (a8 : List AV), el = AV.agg [(.i .i64 a0), (.i .i64 a1), (.i .i64 a2), (.imm 4 a3), (.i .i64 a4), (.i .i64 a5), (.b a6), (.i .i64 a7), (.imm 6 a8)] ∧ W64 a0 ∧ W64 a1 ∧ W64 a2 ∧ Rw (T202 B) B a3 ∧ W64 a4 ∧ W64 a5 ∧ W64 a7 ∧ Rw (T167 B) B a8 ∧ True
theorem T29.eta {B : Nat} {el : AV} (h : T29 B el) : AV.agg [(.i .i64 (el.cells.getD 0 .x).toI), (.i .i64 (el.cells.getD 1 .x).toI), (.i .i64 (el.cells.getD 2 .x).toI), (.imm 4 (el.cells.getD 3 .x).toL), (.i .i64 (el.cells.getD 4 .x).toI), (.i .i64 (el.cells.getD 5 .x).toI), (.b (el.cells.getD 6 .x).toB), (.i .i64 (el.cells.getD 7 .x).toI), (.imm 6 (el.cells.getD 8 .x).toL)] = el := by obtain ⟨a0, a1, a2, a3, a4, a5, a6, a7, a8, rfl, _, _, _, _, _, _, _, _, _⟩ := h; rfl
theorem T29.ok {B : Nat} {el : AV} (h : T29 B el) : okCells false el 0 [(.i .i64), (.i .i64), (.i .i64), (.sl 202 4), (.i .i64), (.i .i64), .b, (.i .i64), (.sl 167 6)] = true := by obtain ⟨a0, a1, a2, a3, a4, a5, a6, a7, a8, rfl, _, _, _, _, _, _, _, _, _⟩ := h; rfl
theorem T29.ok0 {B : Nat} {el : AV} (h : T29 B el) : okCells false el 0 [(.i .i64)] = true := by obtain ⟨a0, a1, a2, a3, a4, a5, a6, a7, a8, rfl, _, _, _, _, _, _, _, _, _⟩ := h; rfl
theorem T29.ok1 {B : Nat} {el : AV} (h : T29 B el) : okCells false el 1 [(.i .i64)] = true := by obtain ⟨a0, a1, a2, a3, a4, a5, a6, a7, a8, rfl, _, _, _, _, _, _, _, _, _⟩ := h; rfl
theorem T29.ok2 {B : Nat} {el : AV} (h : T29 B el) : okCells false el 2 [(.i .i64)] = true := by obtain ⟨a0, a1, a2, a3, a4, a5, a6, a7, a8, rfl, _, _, _, _, _, _, _, _, _⟩ := h; rfl
theorem T29.ok3 {B : Nat} {el : AV} (h : T29 B el) : okCells false el 3 [(.sl 202 4)] = true := by obtain ⟨a0, a1, a2, a3, a4, a5, a6, a7, a8, rfl, _, _, _, _, _, _, _, _, _⟩ := h; rfl
theorem T29.ok4 {B : Nat} {el : AV} (h : T29 B el) : okCells false el 4 [(.i .i64)] = true := by obtain ⟨a0, a1, a2, a3, a4, a5, a6, a7, a8, rfl, _, _, _, _, _, _, _, _, _⟩ := h; rfl
theorem T29.ok5 {B : Nat} {el : AV} (h : T29 B el) : okCells false el 5 [(.i .i64)] = true := by obtain ⟨a0, a1, a2, a3, a4, a5, a6, a7, a8, rfl, _, _, _, _, _, _, _, _, _⟩ := h; rfl
theorem T29.ok6 {B : Nat} {el : AV} (h : T29 B el) : okCells false el 6 [.b] = true := by obtain ⟨a0, a1, a2, a3, a4, a5, a6, a7, a8, rfl, _, _, _, _, _, _, _, _, _⟩ := h; rfl
theorem T29.ok7 {B : Nat} {el : AV} (h : T29 B el) : okCells false el 7 [(.i .i64)] = true := by obtain ⟨a0, a1, a2, a3, a4, a5, a6, a7, a8, rfl, _, _, _, _, _, _, _, _, _⟩ := h; rfl
theorem T29.ok8 {B : Nat} {el : AV} (h : T29 B el) : okCells false el 8 [(.sl 167 6)] = true := by obtain ⟨a0, a1, a2, a3, a4, a5, a6, a7, a8, rfl, _, _, _, _, _, _, _, _, _⟩ := h; rfl
theorem T29_of {el : AV} (h : El E (.agg [(.i .i64), (.i .i64), (.i .i64), (.sl 202 4), (.i .i64), (.i .i64), .b, (.i .i64), (.sl 167 6)]) el) : T29 9223372036854775807 el := by
  obtain ⟨cs, rfl, hs⟩ := h.agg
  obtain ⟨y0, c0, rfl, h0, hs⟩ := hs.out
  obtain ⟨y1, c1, rfl, h1, hs⟩ := hs.out
  obtain ⟨y2, c2, rfl, h2, hs⟩ := hs.out
  obtain ⟨y3, c3, rfl, h3, hs⟩ := hs.out
  obtain ⟨y4, c4, rfl, h4, hs⟩ := hs.out
  obtain ⟨y5, c5, rfl, h5, hs⟩ := hs.out
  obtain ⟨y6, c6, rfl, h6, hs⟩ := hs.out
  obtain ⟨y7, c7, rfl, h7, hs⟩ := hs.out
  obtain ⟨y8, c8, rfl, h8, hs⟩ := hs.out
  obtain rfl := hs.end
  obtain ⟨a0, rfl, w0⟩ := h0.int
  obtain ⟨a1, rfl, w1⟩ := h1.int
  obtain ⟨a2, rfl, w2⟩ := h2.int
  obtain ⟨a3, rfl, w3, r3⟩ := h3.row (te := ⟨(.agg [(.i .i64), (.i .i64), .b, (.sl 9 1)]), 4, 48, 0, [(0, 2), (1, 2), (2, 4), (3, 54)]⟩) rfl
  obtain ⟨a4, rfl, w4⟩ := h4.int
  obtain ⟨a5, rfl, w5⟩ := h5.int
  obtain ⟨a6, rfl⟩ := h6.bool
  obtain ⟨a7, rfl, w7⟩ := h7.int
  obtain ⟨a8, rfl, w8, r8⟩ := h8.row (te := ⟨(.agg [(.i .i64), (.sl 2 1), (.i .i64), (.i .i64), (.sl 2 1), (.sl 9 1)]), 6, 96, 0, [(0, 2), (1, 34), (2, 2), (3, 2), (4, 34), (5, 54)]⟩) rfl
  exact ⟨a0, a1, a2, a3, a4, a5, a6, a7, a8, rfl, wf_64 w0, wf_64 w1, wf_64 w2, ⟨w3, fun el hel => T202_of (r3 el hel)⟩, wf_64 w4, wf_64 w5, wf_64 w7, ⟨w8, fun el hel => T167_of (r8 el hel)⟩, trivial⟩
theorem sz33 {el : AV} (h : T29 9223372036854775807 el) (left : Int) (h0 : 0 ≤ left) (h1 : left ≤ 1048576) : Sz (den E 33 [el, (.i .i64 left)] []) left (T29 1048576 el) := by
  obtain ⟨a0, a1, a2, a3, a4, a5, a6, a7, a8, rfl, w0, w1, w2, w3, w4, w5, w7, w8, _⟩ := h
  rw [f33_eq]
  refine Sz.call (sz85 (el := (.agg [(.i .i64 a0), (.i .i64 a1), (.i .i64 a2), (.imm 4 a3), (.i .i64 a4), (.i .i64 a5), (.b a6), (.i .i64 a7)])) ⟨a0, a1, a2, a3, a4, a5, a6, a7, rfl, w0, w1, w2, w3, w4, w5, w7, trivial⟩ left (by omega) (by omega)) (by omega) (fun l1 c1 d1 qq => ?_) (fun r hr => Sz.neg hr)
  simp only [AV.toI]
  refine Sz.c fun _ => ?_
  obtain ⟨b0, b1, b2, b3, b4, b5, b6, b7, hb, q0, q1, q2, q3, q4, q5, q7, _⟩ := qq
  cases hb
  refine Sz.call (sz86 w8 l1 (by omega) (by omega)) (by omega) (fun l2 c2 d2 q8 => ?_) (fun r hr => Sz.neg hr)
  simp only [AV.toI]
  refine Sz.c fun _ => ?_
  exact Sz.done (by omega) (by omega) ⟨a0, a1, a2, a3, a4, a5, a6, a7, a8, rfl, w0, w1, w2, q3, w4, w5, w7, q8, trivial⟩
theorem sz133 {el : AV} (h : T169 9223372036854775807 el) (left : Int) (h0 : 0 ≤ left) (h1 : left ≤ 1048576) : Sz (den E 133 [el, (.i .i64 left)] []) left (T169 1048576 el) := by
  obtain ⟨a0, a1, a2, a3, a4, a5, a6, a7, a8, a9, rfl, w0, w1, w2, w3, w4, w5, w6, w7, w8, w9, _⟩ := h
  rw [f133_eq]
  rw [w64 (x := left - ((a5.size : Nat) : Int)) (by omega) (by omega)]
  generalize hl1 : left - ((a5.size : Nat) : Int) = l1
  refine Sz.c fun c1 => ?_
  rw [w64 (x := l1 - ((a6.size : Nat) : Int)) (by omega) (by omega)]
  generalize hl2 : l1 - ((a6.size : Nat) : Int) = l2
  refine Sz.c fun c2 => ?_
  exact Sz.done (by omega) (by omega) ⟨a0, a1, a2, a3, a4, a5, a6, a7, a8, a9, rfl, w0, w1, w2, w3, w4, (by omega), (by omega), w7, w8, w9, trivial⟩
theorem sz87 {l : List AV} (h : Rw (T169 9223372036854775807) 9223372036854775807 l) (left : Int) (h0 : 0 ≤ left) (h1 : left ≤ 1048576) : Sz (den E 87 [(.imm 10 l), (.i .i64 left)] []) left (Rw (T169 1048576) 1048576 l) := by
  have hl := h.1
  rw [f87_eq, w64 (by omega) (by omega)]
  refine Sz.c fun c => ?_
  refine ((sz_loop (L := fun left i => f87_l1 l left i) (n := l.length) (Pz := fun i => T169 1048576 (l.getD i .x)) ?_ ?_ l.length 0 _ (by omega) c (by omega)).mono (by omega) fun hq => Rw.mk (by omega) fun i hi => hq i (Nat.zero_le _) hi)
  · intro i left hi h0 h1
    have hT := h.at hi
    refine (sz133 hT left h0 h1).step (K := fun r => f87_l1 l r ((i : Int) + 1)) fun r hr => ?_
    obtain ⟨a0, a1, a2, a3, a4, a5, a6, a7, a8, a9, he, w0, w1, w2, w3, w4, w5, w6, w7, w8, w9, _⟩ := hT
    rw [he] at hr
    try dsimp only
    rw [f87_l1_eq, dT (show (i : Int) < ((l.length : Nat) : Int) by omega), cond_true]
    rw [if_pos (by omega)]
    simp only [Int.toNat_natCast, he]
    rw [if_pos (by rfl), w64 (by omega) (by omega)]
    simp only [okC_nil, okC_agg, okC_i, okC_b, okC_s, okC_imm, okL_i, okL_b, okL_s, okL_sl, okS_i, okS_b, okS_s, okS_sl, okS_agg, okS_tup, okS_nil, okS_cons, cells_agg, cells_i, cells_b, cells_s, cells_imm, toI_i, toB_b, toS_s, toL_imm, nth_agg, nth_tup, put_agg, put_i, put_b, put_s, put_imm, setCells, List.getD_cons_zero, List.getD_cons_succ, bSh_b, bSh_i, bSh_s, bSh_sl, bSh_some, cond_true, cond_false, decide_true, decide_false, Int.toNat_natCast, Nat.zero_add, Nat.reduceAdd, beq_self_eq_true, Bool.and_true, Bool.true_and, if_true, Bool.false_eq_true, if_false, List.set_cons_zero, List.set_cons_succ, Bool.not_true, Bool.not_false, Bool.and_self, hr]
    try rfl
  · intro left
    try dsimp only
    rw [f87_l1_eq, dF (Int.lt_irrefl _), cond_false]
def T32 (B : Nat) (el : AV) : Prop := ∃ (a0 : Int) (a1 : Int) (a2 : Int) (a3 : List AV), el = AV.agg [(.i .i64 a0), (.i .i64 a1), (.i .i64 a2), (.imm 10 a3)] ∧ W64 a0 ∧ W64 a1 ∧ W64 a2 ∧ Rw (T169 B) B a3 ∧ True
theorem T32.eta {B : Nat} {el : AV} (h : T32 B el) : AV.agg [(.i .i64 (el.cells.getD 0 .x).toI), (.i .i64 (el.cells.getD 1 .x).toI), (.i .i64 (el.cells.getD 2 .x).toI), (.imm 10 (el.cells.getD 3 .x).toL)] = el := by obtain ⟨a0, a1, a2, a3, rfl, _, _, _, _, _⟩ := h; rfl
theorem T32.ok {B : Nat} {el : AV} (h : T32 B el) : okCells false el 0 [(.i .i64), (.i .i64), (.i .i64), (.sl 169 10)] = true := by obtain ⟨a0, a1, a2, a3, rfl, _, _, _, _, _⟩ := h; rfl
theorem T32.ok0 {B : Nat} {el : AV} (h : T32 B el) : okCells false el 0 [(.i .i64)] = true := by obtain ⟨a0, a1, a2, a3, rfl, _, _, _, _, _⟩ := h; rfl
theorem T32.ok1 {B : Nat} {el : AV} (h : T32 B el) : okCells false el 1 [(.i .i64)] = true := by obtain ⟨a0, a1, a2, a3, rfl, _, _, _, _, _⟩ := h; rfl
theorem T32.ok2 {B : Nat} {el : AV} (h : T32 B el) : okCells false el 2 [(.i .i64)] = true := by obtain ⟨a0, a1, a2, a3, rfl, _, _, _, _, _⟩ := h; rfl
theorem T32.ok3 {B : Nat} {el : AV} (h : T32 B el) : okCells false el 3 [(.sl 169 10)] = true := by obtain ⟨a0, a1, a2, a3, rfl, _, _, _, _, _⟩ := h; rfl
theorem T32_of {el : AV} (h : El E (.agg [(.i .i64), (.i .i64), (.i .i64), (.sl 169 10)]) el) : T32 9223372036854775807 el := by
  obtain ⟨cs, rfl, hs⟩ := h.agg
  obtain ⟨y0, c0, rfl, h0, hs⟩ := hs.out
  obtain ⟨y1, c1, rfl, h1, hs⟩ := hs.out
  obtain ⟨y2, c2, rfl, h2, hs⟩ := hs.out
  obtain ⟨y3, c3, rfl, h3, hs⟩ := hs.out
  obtain rfl := hs.end
  obtain ⟨a0, rfl, w0⟩ := h0.int
  obtain ⟨a1, rfl, w1⟩ := h1.int
  obtain ⟨a2, rfl, w2⟩ := h2.int
  obtain ⟨a3, rfl, w3, r3⟩ := h3.row (te := ⟨(.agg [(.i .i64), (.i .i64), (.i .i64), (.i .i64), (.i .i64), .s, .s, (.i .i64), (.i .i64), (.i .i64)]), 10, 96, 0, [(0, 2), (1, 2), (2, 2), (3, 2), (4, 2), (5, 9), (6, 9), (7, 2), (8, 2), (9, 2)]⟩) rfl
  exact ⟨a0, a1, a2, a3, rfl, wf_64 w0, wf_64 w1, wf_64 w2, ⟨w3, fun el hel => T169_of (r3 el hel)⟩, trivial⟩
theorem sz34 {el : AV} (h : T32 9223372036854775807 el) (left : Int) (h0 : 0 ≤ left) (h1 : left ≤ 1048576) : Sz (den E 34 [el, (.i .i64 left)] []) left (T32 1048576 el) := by
  obtain ⟨a0, a1, a2, a3, rfl, w0, w1, w2, w3, _⟩ := h
  rw [f34_eq]
  refine Sz.call (sz87 w3 left (by omega) (by omega)) (by omega) (fun l1 c1 d1 q3 => ?_) (fun r hr => Sz.neg hr)
  simp only [AV.toI]
  refine Sz.c fun _ => ?_
  exact Sz.done (by omega) (by omega) ⟨a0, a1, a2, a3, rfl, w0, w1, w2, q3, trivial⟩
theorem sz18 {el : AV} (h : T63 9223372036854775807 el) (left : Int) (h0 : 0 ≤ left) (h1 : left ≤ 1048576) : Sz (den E 18 [el, (.i .i64 left)] []) left (T63 1048576 el) := by
  obtain ⟨a0, a1, a2, a3, a4, rfl, w0, w1, w2, w3, w4, _⟩ := h
  rw [f18_eq]
  rw [w64 (x := left - ((a0.size : Nat) : Int)) (by omega) (by omega)]
  generalize hl1 : left - ((a0.size : Nat) : Int) = l1
  refine Sz.c fun c1 => ?_
  rw [w64 (x := l1 - ((a3.size : Nat) : Int)) (by omega) (by omega)]
  generalize hl2 : l1 - ((a3.size : Nat) : Int) = l2
  refine Sz.c fun c2 => ?_
  rw [w64 (x := l2 - ((a4.size : Nat) : Int)) (by omega) (by omega)]
  generalize hl3 : l2 - ((a4.size : Nat) : Int) = l3
  refine Sz.c fun c3 => ?_
  exact Sz.done (by omega) (by omega) ⟨a0, a1, a2, a3, a4, rfl, (by omega), w1, w2, (by omega), (by omega), trivial⟩
theorem sz35 {l : List AV} (h : Rw (T63 9223372036854775807) 9223372036854775807 l) (left : Int) (h0 : 0 ≤ left) (h1 : left ≤ 1048576) : Sz (den E 35 [(.imm 5 l), (.i .i64 left)] []) left (Rw (T63 1048576) 1048576 l) := by
  have hl := h.1
  rw [f35_eq, w64 (by omega) (by omega)]
  refine Sz.c fun c => ?_
  refine ((sz_loop (L := fun left i => f35_l1 l left i) (n := l.length) (Pz := fun i => T63 1048576 (l.getD i .x)) ?_ ?_ l.length 0 _ (by omega) c (by omega)).mono (by omega) fun hq => Rw.mk (by omega) fun i hi => hq i (Nat.zero_le _) hi)
  · intro i left hi h0 h1
    have hT := h.at hi
    refine (sz18 hT left h0 h1).step (K := fun r => f35_l1 l r ((i : Int) + 1)) fun r hr => ?_
    obtain ⟨a0, a1, a2, a3, a4, he, w0, w1, w2, w3, w4, _⟩ := hT
    rw [he] at hr
    try dsimp only
    rw [f35_l1_eq, dT (show (i : Int) < ((l.length : Nat) : Int) by omega), cond_true]
    rw [if_pos (by omega)]
    simp only [Int.toNat_natCast, he]
    rw [if_pos (by rfl), w64 (by omega) (by omega)]
    simp only [okC_nil, okC_agg, okC_i, okC_b, okC_s, okC_imm, okL_i, okL_b, okL_s, okL_sl, okS_i, okS_b, okS_s, okS_sl, okS_agg, okS_tup, okS_nil, okS_cons, cells_agg, cells_i, cells_b, cells_s, cells_imm, toI_i, toB_b, toS_s, toL_imm, nth_agg, nth_tup, put_agg, put_i, put_b, put_s, put_imm, setCells, List.getD_cons_zero, List.getD_cons_succ, bSh_b, bSh_i, bSh_s, bSh_sl, bSh_some, cond_true, cond_false, decide_true, decide_false, Int.toNat_natCast, Nat.zero_add, Nat.reduceAdd, beq_self_eq_true, Bool.and_true, Bool.true_and, if_true, Bool.false_eq_true, if_false, List.set_cons_zero, List.set_cons_succ, Bool.not_true, Bool.not_false, Bool.and_self, hr]
    try rfl
  · intro left
    try dsimp only
    rw [f35_l1_eq, dF (Int.lt_irrefl _), cond_false]
theorem sz7 {el : AV} (h : T36 9223372036854775807 el) (left : Int) (h0 : 0 ≤ left) (h1 : left ≤ 1048576) : Sz (den E 7 [el, (.i .i64 left)] []) left (T36 1048576 el) := by
  obtain ⟨a0, a1, a2, a3, a4, a5, a6, a7, a8, a9, a10, a11, a12, a13, a14, a15, a16, a17, a18, rfl, w0, w1, w2, w3, w4, w5, w7, w8, w9, w10, w11, w12, w13, w14, w15, w16, w17, w18, _⟩ := h
  rw [f7_eq]
  refine Sz.call (sz33 (el := (.agg [(.i .i64 a0), (.i .i64 a1), (.i .i64 a2), (.imm 4 a3), (.i .i64 a4), (.i .i64 a5), (.b a6), (.i .i64 a7), (.imm 6 a8)])) ⟨a0, a1, a2, a3, a4, a5, a6, a7, a8, rfl, w0, w1, w2, w3, w4, w5, w7, w8, trivial⟩ left (by omega) (by omega)) (by omega) (fun l1 c1 d1 qq => ?_) (fun r hr => Sz.neg hr)
  simp only [AV.toI]
  refine Sz.c fun _ => ?_
  obtain ⟨b0, b1, b2, b3, b4, b5, b6, b7, b8, hb, q0, q1, q2, q3, q4, q5, q7, q8, _⟩ := qq
  cases hb
  refine Sz.call (sz34 (el := (.agg [(.i .i64 a9), (.i .i64 a10), (.i .i64 a11), (.imm 10 a12)])) ⟨a9, a10, a11, a12, rfl, w9, w10, w11, w12, trivial⟩ l1 (by omega) (by omega)) (by omega) (fun l2 c2 d2 qq => ?_) (fun r hr => Sz.neg hr)
  simp only [AV.toI]
  refine Sz.c fun _ => ?_
  obtain ⟨b9, b10, b11, b12, hb, q9, q10, q11, q12, _⟩ := qq
  cases hb
  refine Sz.call (sz35 w15 l2 (by omega) (by omega)) (by omega) (fun l3 c3 d3 q15 => ?_) (fun r hr => Sz.neg hr)
  simp only [AV.toI]
  refine Sz.c fun _ => ?_
  refine Sz.call (sz36 w18 l3 (by omega) (by omega)) (by omega) (fun l4 c4 d4 q18 => ?_) (fun r hr => Sz.neg hr)
  simp only [AV.toI]
  refine Sz.c fun _ => ?_
  exact Sz.done (by omega) (by omega) ⟨a0, a1, a2, a3, a4, a5, a6, a7, a8, a9, a10, a11, a12, a13, a14, a15, a16, a17, a18, rfl, w0, w1, w2, q3, w4, w5, w7, q8, w9, w10, w11, q12, w13, w14, q15, w16, w17, q18, trivial⟩
def T23 (B : Nat) (el : AV) : Prop := ∃ (a0 : Int) (a1 : Int) (a2 : Int), el = AV.agg [(.i .i64 a0), (.i .i64 a1), (.i .i64 a2)] ∧ W64 a0 ∧ W64 a1 ∧ W64 a2 ∧ True
theorem T23.eta {B : Nat} {el : AV} (h : T23 B el) : AV.agg [(.i .i64 (el.cells.getD 0 .x).toI), (.i .i64 (el.cells.getD 1 .x).toI), (.i .i64 (el.cells.getD 2 .x).toI)] = el := by obtain ⟨a0, a1, a2, rfl, _, _, _, _⟩ := h; rfl
theorem T23.ok {B : Nat} {el : AV} (h : T23 B el) : okCells false el 0 [(.i .i64), (.i .i64), (.i .i64)] = true := by obtain ⟨a0, a1, a2, rfl, _, _, _, _⟩ := h; rfl
theorem T23.ok0 {B : Nat} {el : AV} (h : T23 B el) : okCells false el 0 [(.i .i64)] = true := by obtain ⟨a0, a1, a2, rfl, _, _, _, _⟩ := h; rfl
theorem T23.ok1 {B : Nat} {el : AV} (h : T23 B el) : okCells false el 1 [(.i .i64)] = true := by obtain ⟨a0, a1, a2, rfl, _, _, _, _⟩ := h; rfl
theorem T23.ok2 {B : Nat} {el : AV} (h : T23 B el) : okCells false el 2 [(.i .i64)] = true := by obtain ⟨a0, a1, a2, rfl, _, _, _, _⟩ := h; rfl
theorem T23_of {el : AV} (h : El E (.agg [(.i .i64), (.i .i64), (.i .i64)]) el) : T23 9223372036854775807 el := by
  obtain ⟨cs, rfl, hs⟩ := h.agg
  obtain ⟨y0, c0, rfl, h0, hs⟩ := hs.out
  obtain ⟨y1, c1, rfl, h1, hs⟩ := hs.out
  obtain ⟨y2, c2, rfl, h2, hs⟩ := hs.out
  obtain rfl := hs.end
  obtain ⟨a0, rfl, w0⟩ := h0.int
  obtain ⟨a1, rfl, w1⟩ := h1.int
  obtain ⟨a2, rfl, w2⟩ := h2.int
  exact ⟨a0, a1, a2, rfl, wf_64 w0, wf_64 w1, wf_64 w2, trivial⟩
theorem to77 {el : AV} (h : T23 1048576 el) : den E 77 [el] [] = some el := by
  obtain ⟨a0, a1, a2, rfl, w0, w1, w2, _⟩ := h
  rw [f77_eq]
theorem to14 {l : List AV} (h : Rw (T9 1048576) 1048576 l) : den E 14 [(.imm 1 l)] [] = some (.imm 1 l) := by
  have hl := h.1
  rw [f14_eq, if_pos (by simp only [room]; omega), Int.toNat_natCast]
  refine to_loop (L := fun i ys => f14_l1 l i [] ys) (fun i ys hi hy hz => ?_) fun ys hy => ?_
  · have hT := h.at hi
    obtain ⟨a0, he, w0, _⟩ := h.at hi
    rw [he] at hT
    try dsimp only
    rw [f14_l1_eq, dT (show (i : Int) < ((l.length : Nat) : Int) by omega), cond_true]
    rw [if_pos (by omega)]
    simp only [Int.toNat_natCast, Nat.zero_add, he, hz]
    rw [if_pos (by rfl)]
    rw [if_pos (by omega), w64 (by omega) (by omega)]
    try simp only [okC_nil, okC_agg, okC_i, okC_b, okC_s, okC_imm, okL_i, okL_b, okL_s, okL_sl, okS_i, okS_b, okS_s, okS_sl, okS_agg, okS_tup, okS_nil, okS_cons, cells_agg, cells_i, cells_b, cells_s, cells_imm, toI_i, toB_b, toS_s, toL_imm, nth_agg, nth_tup, put_agg, put_i, put_b, put_s, put_imm, setCells, List.getD_cons_zero, List.getD_cons_succ, bSh_b, bSh_i, bSh_s, bSh_sl, bSh_some, cond_true, cond_false, decide_true, decide_false, Int.toNat_natCast, Nat.zero_add, Nat.reduceAdd, beq_self_eq_true, Bool.and_true, Bool.true_and, if_true, Bool.false_eq_true, if_false, List.set_cons_zero, List.set_cons_succ, Bool.not_true, Bool.not_false, Bool.and_self]
    try rfl
  · try dsimp only
    rw [f14_l1_eq, dF (Int.lt_irrefl _), cond_false]
theorem to171 {el : AV} (h : T202 1048576 el) : den E 171 [el] [] = some el := by
  obtain ⟨a0, a1, a2, a3, rfl, w0, w1, w3, _⟩ := h
  rw [f171_eq]
  simp only [okC_nil, okC_agg, okC_i, okC_b, okC_s, okC_imm, okL_i, okL_b, okL_s, okL_sl, okS_i, okS_b, okS_s, okS_sl, okS_agg, okS_tup, okS_nil, okS_cons, cells_agg, cells_i, cells_b, cells_s, cells_imm, toI_i, toB_b, toS_s, toL_imm, nth_agg, nth_tup, put_agg, put_i, put_b, put_s, put_imm, setCells, List.getD_cons_zero, List.getD_cons_succ, bSh_b, bSh_i, bSh_s, bSh_sl, bSh_some, cond_true, cond_false, decide_true, decide_false, Int.toNat_natCast, Nat.zero_add, Nat.reduceAdd, beq_self_eq_true, Bool.and_true, Bool.true_and, if_true, Bool.false_eq_true, if_false, List.set_cons_zero, List.set_cons_succ, Bool.not_true, Bool.not_false, Bool.and_self, to14 w3]
theorem to135 {l : List AV} (h : Rw (T202 1048576) 1048576 l) : den E 135 [(.imm 4 l)] [] = some (.imm 4 l) := by
  have hl := h.1
  rw [f135_eq, if_pos (by simp only [room]; omega), Int.toNat_natCast]
  refine to_loop (L := fun i ys => f135_l1 l i [] ys) (fun i ys hi hy hz => ?_) fun ys hy => ?_
  · have hT := h.at hi
    obtain ⟨a0, a1, a2, a3, he, w0, w1, w3, _⟩ := h.at hi
    rw [he] at hT
    try dsimp only
    rw [f135_l1_eq, dT (show (i : Int) < ((l.length : Nat) : Int) by omega), cond_true]
    rw [if_pos (by omega)]
    simp only [Int.toNat_natCast, Nat.zero_add, he, hz]
    rw [if_pos (by rfl)]
    simp only [okC_nil, okC_agg, okC_i, okC_b, okC_s, okC_imm, okL_i, okL_b, okL_s, okL_sl, okS_i, okS_b, okS_s, okS_sl, okS_agg, okS_tup, okS_nil, okS_cons, cells_agg, cells_i, cells_b, cells_s, cells_imm, toI_i, toB_b, toS_s, toL_imm, nth_agg, nth_tup, put_agg, put_i, put_b, put_s, put_imm, setCells, List.getD_cons_zero, List.getD_cons_succ, bSh_b, bSh_i, bSh_s, bSh_sl, bSh_some, cond_true, cond_false, decide_true, decide_false, Int.toNat_natCast, Nat.zero_add, Nat.reduceAdd, beq_self_eq_true, Bool.and_true, Bool.true_and, if_true, Bool.false_eq_true, if_false, List.set_cons_zero, List.set_cons_succ, Bool.not_true, Bool.not_false, Bool.and_self, to171 hT]
    rw [if_pos (by omega), w64 (by omega) (by omega)]
    try simp only [okC_nil, okC_agg, okC_i, okC_b, okC_s, okC_imm, okL_i, okL_b, okL_s, okL_sl, okS_i, okS_b, okS_s, okS_sl, okS_agg, okS_tup, okS_nil, okS_cons, cells_agg, cells_i, cells_b, cells_s, cells_imm, toI_i, toB_b, toS_s, toL_imm, nth_agg, nth_tup, put_agg, put_i, put_b, put_s, put_imm, setCells, List.getD_cons_zero, List.getD_cons_succ, bSh_b, bSh_i, bSh_s, bSh_sl, bSh_some, cond_true, cond_false, decide_true, decide_false, Int.toNat_natCast, Nat.zero_add, Nat.reduceAdd, beq_self_eq_true, Bool.and_true, Bool.true_and, if_true, Bool.false_eq_true, if_false, List.set_cons_zero, List.set_cons_succ, Bool.not_true, Bool.not_false, Bool.and_self]
    try rfl
  · try dsimp only
    rw [f135_l1_eq, dF (Int.lt_irrefl _), cond_false]
theorem to91 {el : AV} (h : T26 1048576 el) : den E 91 [el] [] = some el := by
  obtain ⟨a0, a1, a2, a3, a4, a5, a6, a7, rfl, w0, w1, w2, w3, w4, w5, w7, _⟩ := h
  rw [f91_eq]
  simp only [okC_nil, okC_agg, okC_i, okC_b, okC_s, okC_imm, okL_i, okL_b, okL_s, okL_sl, okS_i, okS_b, okS_s, okS_sl, okS_agg, okS_tup, okS_nil, okS_cons, cells_agg, cells_i, cells_b, cells_s, cells_imm, toI_i, toB_b, toS_s, toL_imm, nth_agg, nth_tup, put_agg, put_i, put_b, put_s, put_imm, setCells, List.getD_cons_zero, List.getD_cons_succ, bSh_b, bSh_i, bSh_s, bSh_sl, bSh_some, cond_true, cond_false, decide_true, decide_false, Int.toNat_natCast, Nat.zero_add, Nat.reduceAdd, beq_self_eq_true, Bool.and_true, Bool.true_and, if_true, Bool.false_eq_true, if_false, List.set_cons_zero, List.set_cons_succ, Bool.not_true, Bool.not_false, Bool.and_self, to135 w3, to77 (el := .agg [(.i .i64 a0), (.i .i64 a1), (.i .i64 a2)]) ⟨a0, a1, a2, rfl, w0, w1, w2, trivial⟩]
theorem to44 {l : List AV} (h : Rw (T2 1048576) 1048576 l) : den E 44 [(.imm 1 l)] [] = some (.imm 1 l) := by
  have hl := h.1
  rw [f44_eq, if_pos (by simp only [room]; omega), Int.toNat_natCast]
  refine to_loop (L := fun i ys => f44_l1 l i [] ys) (fun i ys hi hy hz => ?_) fun ys hy => ?_
  · have hT := h.at hi
    obtain ⟨a0, he, w0, _⟩ := h.at hi
    rw [he] at hT
    try dsimp only
    rw [f44_l1_eq, dT (show (i : Int) < ((l.length : Nat) : Int) by omega), cond_true]
    rw [if_pos (by omega)]
    simp only [Int.toNat_natCast, Nat.zero_add, he, hz]
    rw [if_pos (by rfl)]
    rw [if_pos (by omega), w64 (by omega) (by omega)]
    try simp only [okC_nil, okC_agg, okC_i, okC_b, okC_s, okC_imm, okL_i, okL_b, okL_s, okL_sl, okS_i, okS_b, okS_s, okS_sl, okS_agg, okS_tup, okS_nil, okS_cons, cells_agg, cells_i, cells_b, cells_s, cells_imm, toI_i, toB_b, toS_s, toL_imm, nth_agg, nth_tup, put_agg, put_i, put_b, put_s, put_imm, setCells, List.getD_cons_zero, List.getD_cons_succ, bSh_b, bSh_i, bSh_s, bSh_sl, bSh_some, cond_true, cond_false, decide_true, decide_false, Int.toNat_natCast, Nat.zero_add, Nat.reduceAdd, beq_self_eq_true, Bool.and_true, Bool.true_and, if_true, Bool.false_eq_true, if_false, List.set_cons_zero, List.set_cons_succ, Bool.not_true, Bool.not_false, Bool.and_self]
    try rfl
  · try dsimp only
    rw [f44_l1_eq, dF (Int.lt_irrefl _), cond_false]
theorem to136 {el : AV} (h : T167 1048576 el) : den E 136 [el] [] = some el := by
  obtain ⟨a0, a1, a2, a3, a4, a5, rfl, w0, w1, w2, w3, w4, w5, _⟩ := h
  rw [f136_eq]
  simp only [okC_nil, okC_agg, okC_i, okC_b, okC_s, okC_imm, okL_i, okL_b, okL_s, okL_sl, okS_i, okS_b, okS_s, okS_sl, okS_agg, okS_tup, okS_nil, okS_cons, cells_agg, cells_i, cells_b, cells_s, cells_imm, toI_i, toB_b, toS_s, toL_imm, nth_agg, nth_tup, put_agg, put_i, put_b, put_s, put_imm, setCells, List.getD_cons_zero, List.getD_cons_succ, bSh_b, bSh_i, bSh_s, bSh_sl, bSh_some, cond_true, cond_false, decide_true, decide_false, Int.toNat_natCast, Nat.zero_add, Nat.reduceAdd, beq_self_eq_true, Bool.and_true, Bool.true_and, if_true, Bool.false_eq_true, if_false, List.set_cons_zero, List.set_cons_succ, Bool.not_true, Bool.not_false, Bool.and_self, to44 w1, to44 w4, to14 w5]
theorem to92 {l : List AV} (h : Rw (T167 1048576) 1048576 l) : den E 92 [(.imm 6 l)] [] = some (.imm 6 l) := by
  have hl := h.1
  rw [f92_eq, if_pos (by simp only [room]; omega), Int.toNat_natCast]
  refine to_loop (L := fun i ys => f92_l1 l i [] ys) (fun i ys hi hy hz => ?_) fun ys hy => ?_
  · have hT := h.at hi
    obtain ⟨a0, a1, a2, a3, a4, a5, he, w0, w1, w2, w3, w4, w5, _⟩ := h.at hi
    rw [he] at hT
    try dsimp only
    rw [f92_l1_eq, dT (show (i : Int) < ((l.length : Nat) : Int) by omega), cond_true]
    rw [if_pos (by omega)]
    simp only [Int.toNat_natCast, Nat.zero_add, he, hz]
    rw [if_pos (by rfl)]
    simp only [okC_nil, okC_agg, okC_i, okC_b, okC_s, okC_imm, okL_i, okL_b, okL_s, okL_sl, okS_i, okS_b, okS_s, okS_sl, okS_agg, okS_tup, okS_nil, okS_cons, cells_agg, cells_i, cells_b, cells_s, cells_imm, toI_i, toB_b, toS_s, toL_imm, nth_agg, nth_tup, put_agg, put_i, put_b, put_s, put_imm, setCells, List.getD_cons_zero, List.getD_cons_succ, bSh_b, bSh_i, bSh_s, bSh_sl, bSh_some, cond_true, cond_false, decide_true, decide_false, Int.toNat_natCast, Nat.zero_add, Nat.reduceAdd, beq_self_eq_true, Bool.and_true, Bool.true_and, if_true, Bool.false_eq_true, if_false, List.set_cons_zero, List.set_cons_succ, Bool.not_true, Bool.not_false, Bool.and_self, to136 hT]
    rw [if_pos (by omega), w64 (by omega) (by omega)]
    try simp only [okC_nil, okC_agg, okC_i, okC_b, okC_s, okC_imm, okL_i, okL_b, okL_s, okL_sl, okS_i, okS_b, okS_s, okS_sl, okS_agg, okS_tup, okS_nil, okS_cons, cells_agg, cells_i, cells_b, cells_s, cells_imm, toI_i, toB_b, toS_s, toL_imm, nth_agg, nth_tup, put_agg, put_i, put_b, put_s, put_imm, setCells, List.getD_cons_zero, List.getD_cons_succ, bSh_b, bSh_i, bSh_s, bSh_sl, bSh_some, cond_true, cond_false, decide_true, decide_false, Int.toNat_natCast, Nat.zero_add, Nat.reduceAdd, beq_self_eq_true, Bool.and_true, Bool.true_and, if_true, Bool.false_eq_true, if_false, List.set_cons_zero, List.set_cons_succ, Bool.not_true, Bool.not_false, Bool.and_self]
    try rfl
  · try dsimp only
    rw [f92_l1_eq, dF (Int.lt_irrefl _), cond_false]
theorem to41 {el : AV} (h : T29 1048576 el) : den E 41 [el] [] = some el := by
  obtain ⟨a0, a1, a2, a3, a4, a5, a6, a7, a8, rfl, w0, w1, w2, w3, w4, w5, w7, w8, _⟩ := h
  rw [f41_eq]
  simp only [okC_nil, okC_agg, okC_i, okC_b, okC_s, okC_imm, okL_i, okL_b, okL_s, okL_sl, okS_i, okS_b, okS_s, okS_sl, okS_agg, okS_tup, okS_nil, okS_cons, cells_agg, cells_i, cells_b, cells_s, cells_imm, toI_i, toB_b, toS_s, toL_imm, nth_agg, nth_tup, put_agg, put_i, put_b, put_s, put_imm, setCells, List.getD_cons_zero, List.getD_cons_succ, bSh_b, bSh_i, bSh_s, bSh_sl, bSh_some, cond_true, cond_false, decide_true, decide_false, Int.toNat_natCast, Nat.zero_add, Nat.reduceAdd, beq_self_eq_true, Bool.and_true, Bool.true_and, if_true, Bool.false_eq_true, if_false, List.set_cons_zero, List.set_cons_succ, Bool.not_true, Bool.not_false, Bool.and_self, to92 w8, to91 (el := .agg [(.i .i64 a0), (.i .i64 a1), (.i .i64 a2), (.imm 4 a3), (.i .i64 a4), (.i .i64 a5), (.b a6), (.i .i64 a7)]) ⟨a0, a1, a2, a3, a4, a5, a6, a7, rfl, w0, w1, w2, w3, w4, w5, w7, trivial⟩]
theorem to137 {el : AV} (h : T169 1048576 el) : den E 137 [el] [] = some el := by
  obtain ⟨a0, a1, a2, a3, a4, a5, a6, a7, a8, a9, rfl, w0, w1, w2, w3, w4, w5, w6, w7, w8, w9, _⟩ := h
  rw [f137_eq]
theorem to93 {l : List AV} (h : Rw (T169 1048576) 1048576 l) : den E 93 [(.imm 10 l)] [] = some (.imm 10 l) := by
  have hl := h.1
  rw [f93_eq, if_pos (by simp only [room]; omega), Int.toNat_natCast]
  refine to_loop (L := fun i ys => f93_l1 l i [] ys) (fun i ys hi hy hz => ?_) fun ys hy => ?_
  · have hT := h.at hi
    obtain ⟨a0, a1, a2, a3, a4, a5, a6, a7, a8, a9, he, w0, w1, w2, w3, w4, w5, w6, w7, w8, w9, _⟩ := h.at hi
    rw [he] at hT
    try dsimp only
    rw [f93_l1_eq, dT (show (i : Int) < ((l.length : Nat) : Int) by omega), cond_true]
    rw [if_pos (by omega)]
    simp only [Int.toNat_natCast, Nat.zero_add, he, hz]
    rw [if_pos (by rfl)]
    simp only [okC_nil, okC_agg, okC_i, okC_b, okC_s, okC_imm, okL_i, okL_b, okL_s, okL_sl, okS_i, okS_b, okS_s, okS_sl, okS_agg, okS_tup, okS_nil, okS_cons, cells_agg, cells_i, cells_b, cells_s, cells_imm, toI_i, toB_b, toS_s, toL_imm, nth_agg, nth_tup, put_agg, put_i, put_b, put_s, put_imm, setCells, List.getD_cons_zero, List.getD_cons_succ, bSh_b, bSh_i, bSh_s, bSh_sl, bSh_some, cond_true, cond_false, decide_true, decide_false, Int.toNat_natCast, Nat.zero_add, Nat.reduceAdd, beq_self_eq_true, Bool.and_true, Bool.true_and, if_true, Bool.false_eq_true, if_false, List.set_cons_zero, List.set_cons_succ, Bool.not_true, Bool.not_false, Bool.and_self, to137 hT]
    rw [if_pos (by omega), w64 (by omega) (by omega)]
    try simp only [okC_nil, okC_agg, okC_i, okC_b, okC_s, okC_imm, okL_i, okL_b, okL_s, okL_sl, okS_i, okS_b, okS_s, okS_sl, okS_agg, okS_tup, okS_nil, okS_cons, cells_agg, cells_i, cells_b, cells_s, cells_imm, toI_i, toB_b, toS_s, toL_imm, nth_agg, nth_tup, put_agg, put_i, put_b, put_s, put_imm, setCells, List.getD_cons_zero, List.getD_cons_succ, bSh_b, bSh_i, bSh_s, bSh_sl, bSh_some, cond_true, cond_false, decide_true, decide_false, Int.toNat_natCast, Nat.zero_add, Nat.reduceAdd, beq_self_eq_true, Bool.and_true, Bool.true_and, if_true, Bool.false_eq_true, if_false, List.set_cons_zero, List.set_cons_succ, Bool.not_true, Bool.not_false, Bool.and_self]
    try rfl
  · try dsimp only
    rw [f93_l1_eq, dF (Int.lt_irrefl _), cond_false]
theorem to42 {el : AV} (h : T32 1048576 el) : den E 42 [el] [] = some el := by
  obtain ⟨a0, a1, a2, a3, rfl, w0, w1, w2, w3, _⟩ := h
  rw [f42_eq]
  simp only [okC_nil, okC_agg, okC_i, okC_b, okC_s, okC_imm, okL_i, okL_b, okL_s, okL_sl, okS_i, okS_b, okS_s, okS_sl, okS_agg, okS_tup, okS_nil, okS_cons, cells_agg, cells_i, cells_b, cells_s, cells_imm, toI_i, toB_b, toS_s, toL_imm, nth_agg, nth_tup, put_agg, put_i, put_b, put_s, put_imm, setCells, List.getD_cons_zero, List.getD_cons_succ, bSh_b, bSh_i, bSh_s, bSh_sl, bSh_some, cond_true, cond_false, decide_true, decide_false, Int.toNat_natCast, Nat.zero_add, Nat.reduceAdd, beq_self_eq_true, Bool.and_true, Bool.true_and, if_true, Bool.false_eq_true, if_false, List.set_cons_zero, List.set_cons_succ, Bool.not_true, Bool.not_false, Bool.and_self, to93 w3]
theorem to21 {el : AV} (h : T63 1048576 el) : den E 21 [el] [] = some el := by
  obtain ⟨a0, a1, a2, a3, a4, rfl, w0, w1, w2, w3, w4, _⟩ := h
  rw [f21_eq]
theorem to43 {l : List AV} (h : Rw (T63 1048576) 1048576 l) : den E 43 [(.imm 5 l)] [] = some (.imm 5 l) := by
  have hl := h.1
  rw [f43_eq, if_pos (by simp only [room]; omega), Int.toNat_natCast]
  refine to_loop (L := fun i ys => f43_l1 l i [] ys) (fun i ys hi hy hz => ?_) fun ys hy => ?_
  · have hT := h.at hi
    obtain ⟨a0, a1, a2, a3, a4, he, w0, w1, w2, w3, w4, _⟩ := h.at hi
    rw [he] at hT
    try dsimp only
    rw [f43_l1_eq, dT (show (i : Int) < ((l.length : Nat) : Int) by omega), cond_true]
    rw [if_pos (by omega)]
    simp only [Int.toNat_natCast, Nat.zero_add, he, hz]
    rw [if_pos (by rfl)]
    simp only [okC_nil, okC_agg, okC_i, okC_b, okC_s, okC_imm, okL_i, okL_b, okL_s, okL_sl, okS_i, okS_b, okS_s, okS_sl, okS_agg, okS_tup, okS_nil, okS_cons, cells_agg, cells_i, cells_b, cells_s, cells_imm, toI_i, toB_b, toS_s, toL_imm, nth_agg, nth_tup, put_agg, put_i, put_b, put_s, put_imm, setCells, List.getD_cons_zero, List.getD_cons_succ, bSh_b, bSh_i, bSh_s, bSh_sl, bSh_some, cond_true, cond_false, decide_true, decide_false, Int.toNat_natCast, Nat.zero_add, Nat.reduceAdd, beq_self_eq_true, Bool.and_true, Bool.true_and, if_true, Bool.false_eq_true, if_false, List.set_cons_zero, List.set_cons_succ, Bool.not_true, Bool.not_false, Bool.and_self, to21 hT]
    rw [if_pos (by omega), w64 (by omega) (by omega)]
    try simp only [okC_nil, okC_agg, okC_i, okC_b, okC_s, okC_imm, okL_i, okL_b, okL_s, okL_sl, okS_i, okS_b, okS_s, okS_sl, okS_agg, okS_tup, okS_nil, okS_cons, cells_agg, cells_i, cells_b, cells_s, cells_imm, toI_i, toB_b, toS_s, toL_imm, nth_agg, nth_tup, put_agg, put_i, put_b, put_s, put_imm, setCells, List.getD_cons_zero, List.getD_cons_succ, bSh_b, bSh_i, bSh_s, bSh_sl, bSh_some, cond_true, cond_false, decide_true, decide_false, Int.toNat_natCast, Nat.zero_add, Nat.reduceAdd, beq_self_eq_true, Bool.and_true, Bool.true_and, if_true, Bool.false_eq_true, if_false, List.set_cons_zero, List.set_cons_succ, Bool.not_true, Bool.not_false, Bool.and_self]
    try rfl
  · try dsimp only
    rw [f43_l1_eq, dF (Int.lt_irrefl _), cond_false]
theorem to9 {el : AV} (h : T36 1048576 el) : den E 9 [el] [] = some el := by
  obtain ⟨a0, a1, a2, a3, a4, a5, a6, a7, a8, a9, a10, a11, a12, a13, a14, a15, a16, a17, a18, rfl, w0, w1, w2, w3, w4, w5, w7, w8, w9, w10, w11, w12, w13, w14, w15, w16, w17, w18, _⟩ := h
  rw [f9_eq]
  simp only [okC_nil, okC_agg, okC_i, okC_b, okC_s, okC_imm, okL_i, okL_b, okL_s, okL_sl, okS_i, okS_b, okS_s, okS_sl, okS_agg, okS_tup, okS_nil, okS_cons, cells_agg, cells_i, cells_b, cells_s, cells_imm, toI_i, toB_b, toS_s, toL_imm, nth_agg, nth_tup, put_agg, put_i, put_b, put_s, put_imm, setCells, List.getD_cons_zero, List.getD_cons_succ, bSh_b, bSh_i, bSh_s, bSh_sl, bSh_some, cond_true, cond_false, decide_true, decide_false, Int.toNat_natCast, Nat.zero_add, Nat.reduceAdd, beq_self_eq_true, Bool.and_true, Bool.true_and, if_true, Bool.false_eq_true, if_false, List.set_cons_zero, List.set_cons_succ, Bool.not_true, Bool.not_false, Bool.and_self, to43 w15, to44 w18, to41 (el := .agg [(.i .i64 a0), (.i .i64 a1), (.i .i64 a2), (.imm 4 a3), (.i .i64 a4), (.i .i64 a5), (.b a6), (.i .i64 a7), (.imm 6 a8)]) ⟨a0, a1, a2, a3, a4, a5, a6, a7, a8, rfl, w0, w1, w2, w3, w4, w5, w7, w8, trivial⟩, to42 (el := .agg [(.i .i64 a9), (.i .i64 a10), (.i .i64 a11), (.imm 10 a12)]) ⟨a9, a10, a11, a12, rfl, w9, w10, w11, w12, trivial⟩]
theorem eq82 {el : AV} (h : T23 1048576 el) : den E 82 [el, el] [] = some (.b true) := by
  obtain ⟨a0, a1, a2, rfl, w0, w1, w2, _⟩ := h
  rw [f82_eq]
  simp only [okC_nil, okC_agg, okC_i, okC_b, okC_s, okC_imm, okL_i, okL_b, okL_s, okL_sl, okS_i, okS_b, okS_s, okS_sl, okS_agg, okS_tup, okS_nil, okS_cons, cells_agg, cells_i, cells_b, cells_s, cells_imm, toI_i, toB_b, toS_s, toL_imm, nth_agg, nth_tup, put_agg, put_i, put_b, put_s, put_imm, setCells, List.getD_cons_zero, List.getD_cons_succ, bSh_b, bSh_i, bSh_s, bSh_sl, bSh_some, cond_true, cond_false, decide_true, decide_false, Int.toNat_natCast, Nat.zero_add, Nat.reduceAdd, beq_self_eq_true, Bool.and_true, Bool.true_and, if_true, Bool.false_eq_true, if_false, List.set_cons_zero, List.set_cons_succ, Bool.not_true, Bool.not_false, Bool.and_self]
theorem eq16 {l : List AV} (h : Rw (T9 1048576) 1048576 l) : den E 16 [(.imm 1 l), (.imm 1 l)] [] = some (.b true) := by
  have hl := h.1
  rw [f16_eq]
  simp only [decide_true, Bool.not_true, cond_false]
  refine eq_loop (L := fun i => f16_l1 l l i) (n := l.length) (fun i hi => ?_) ?_
  · have hT := h.at hi
    obtain ⟨a0, he, w0, _⟩ := h.at hi
    rw [he] at hT
    try dsimp only
    rw [f16_l1_eq, dT (show (i : Int) < ((l.length : Nat) : Int) by omega), cond_true]
    rw [if_pos (by omega)]
    simp only [Int.toNat_natCast, he]
    rw [if_pos (by rfl), if_pos (by omega), if_pos (by rfl), w64 (by omega) (by omega)]
    simp only [okC_nil, okC_agg, okC_i, okC_b, okC_s, okC_imm, okL_i, okL_b, okL_s, okL_sl, okS_i, okS_b, okS_s, okS_sl, okS_agg, okS_tup, okS_nil, okS_cons, cells_agg, cells_i, cells_b, cells_s, cells_imm, toI_i, toB_b, toS_s, toL_imm, nth_agg, nth_tup, put_agg, put_i, put_b, put_s, put_imm, setCells, List.getD_cons_zero, List.getD_cons_succ, bSh_b, bSh_i, bSh_s, bSh_sl, bSh_some, cond_true, cond_false, decide_true, decide_false, Int.toNat_natCast, Nat.zero_add, Nat.reduceAdd, beq_self_eq_true, Bool.and_true, Bool.true_and, if_true, Bool.false_eq_true, if_false, List.set_cons_zero, List.set_cons_succ, Bool.not_true, Bool.not_false, Bool.and_self]
  · try dsimp only
    rw [f16_l1_eq, dF (Int.lt_irrefl _), cond_false]
theorem eq172 {el : AV} (h : T202 1048576 el) : den E 172 [el, el] [] = some (.b true) := by
  obtain ⟨a0, a1, a2, a3, rfl, w0, w1, w3, _⟩ := h
  rw [f172_eq]
  simp only [okC_nil, okC_agg, okC_i, okC_b, okC_s, okC_imm, okL_i, okL_b, okL_s, okL_sl, okS_i, okS_b, okS_s, okS_sl, okS_agg, okS_tup, okS_nil, okS_cons, cells_agg, cells_i, cells_b, cells_s, cells_imm, toI_i, toB_b, toS_s, toL_imm, nth_agg, nth_tup, put_agg, put_i, put_b, put_s, put_imm, setCells, List.getD_cons_zero, List.getD_cons_succ, bSh_b, bSh_i, bSh_s, bSh_sl, bSh_some, cond_true, cond_false, decide_true, decide_false, Int.toNat_natCast, Nat.zero_add, Nat.reduceAdd, beq_self_eq_true, Bool.and_true, Bool.true_and, if_true, Bool.false_eq_true, if_false, List.set_cons_zero, List.set_cons_succ, Bool.not_true, Bool.not_false, Bool.and_self, eq16 w3]
theorem eq141 {l : List AV} (h : Rw (T202 1048576) 1048576 l) : den E 141 [(.imm 4 l), (.imm 4 l)] [] = some (.b true) := by
  have hl := h.1
  rw [f141_eq]
  simp only [decide_true, Bool.not_true, cond_false]
  refine eq_loop (L := fun i => f141_l1 l l i) (n := l.length) (fun i hi => ?_) ?_
  · have hT := h.at hi
    obtain ⟨a0, a1, a2, a3, he, w0, w1, w3, _⟩ := h.at hi
    rw [he] at hT
    try dsimp only
    rw [f141_l1_eq, dT (show (i : Int) < ((l.length : Nat) : Int) by omega), cond_true]
    rw [if_pos (by omega)]
    simp only [Int.toNat_natCast, he]
    rw [if_pos (by rfl), if_pos (by omega), if_pos (by rfl), w64 (by omega) (by omega)]
    simp only [okC_nil, okC_agg, okC_i, okC_b, okC_s, okC_imm, okL_i, okL_b, okL_s, okL_sl, okS_i, okS_b, okS_s, okS_sl, okS_agg, okS_tup, okS_nil, okS_cons, cells_agg, cells_i, cells_b, cells_s, cells_imm, toI_i, toB_b, toS_s, toL_imm, nth_agg, nth_tup, put_agg, put_i, put_b, put_s, put_imm, setCells, List.getD_cons_zero, List.getD_cons_succ, bSh_b, bSh_i, bSh_s, bSh_sl, bSh_some, cond_true, cond_false, decide_true, decide_false, Int.toNat_natCast, Nat.zero_add, Nat.reduceAdd, beq_self_eq_true, Bool.and_true, Bool.true_and, if_true, Bool.false_eq_true, if_false, List.set_cons_zero, List.set_cons_succ, Bool.not_true, Bool.not_false, Bool.and_self, eq172 hT]
  · try dsimp only
    rw [f141_l1_eq, dF (Int.lt_irrefl _), cond_false]
theorem eq98 {el : AV} (h : T26 1048576 el) : den E 98 [el, el] [] = some (.b true) := by
  obtain ⟨a0, a1, a2, a3, a4, a5, a6, a7, rfl, w0, w1, w2, w3, w4, w5, w7, _⟩ := h
  rw [f98_eq]
  simp only [okC_nil, okC_agg, okC_i, okC_b, okC_s, okC_imm, okL_i, okL_b, okL_s, okL_sl, okS_i, okS_b, okS_s, okS_sl, okS_agg, okS_tup, okS_nil, okS_cons, cells_agg, cells_i, cells_b, cells_s, cells_imm, toI_i, toB_b, toS_s, toL_imm, nth_agg, nth_tup, put_agg, put_i, put_b, put_s, put_imm, setCells, List.getD_cons_zero, List.getD_cons_succ, bSh_b, bSh_i, bSh_s, bSh_sl, bSh_some, cond_true, cond_false, decide_true, decide_false, Int.toNat_natCast, Nat.zero_add, Nat.reduceAdd, beq_self_eq_true, Bool.and_true, Bool.true_and, if_true, Bool.false_eq_true, if_false, List.set_cons_zero, List.set_cons_succ, Bool.not_true, Bool.not_false, Bool.and_self, eq141 w3, eq82 (el := .agg [(.i .i64 a0), (.i .i64 a1), (.i .i64 a2)]) ⟨a0, a1, a2, rfl, w0, w1, w2, trivial⟩]
theorem eq52 {l : List AV} (h : Rw (T2 1048576) 1048576 l) : den E 52 [(.imm 1 l), (.imm 1 l)] [] = some (.b true) := by
  have hl := h.1
  rw [f52_eq]
  simp only [decide_true, Bool.not_true, cond_false]
  refine eq_loop (L := fun i => f52_l1 l l i) (n := l.length) (fun i hi => ?_) ?_
  · have hT := h.at hi
    obtain ⟨a0, he, w0, _⟩ := h.at hi
    rw [he] at hT
    try dsimp only
    rw [f52_l1_eq, dT (show (i : Int) < ((l.length : Nat) : Int) by omega), cond_true]
    rw [if_pos (by omega)]
    simp only [Int.toNat_natCast, he]
    rw [if_pos (by rfl), if_pos (by omega), if_pos (by rfl), w64 (by omega) (by omega)]
    simp only [okC_nil, okC_agg, okC_i, okC_b, okC_s, okC_imm, okL_i, okL_b, okL_s, okL_sl, okS_i, okS_b, okS_s, okS_sl, okS_agg, okS_tup, okS_nil, okS_cons, cells_agg, cells_i, cells_b, cells_s, cells_imm, toI_i, toB_b, toS_s, toL_imm, nth_agg, nth_tup, put_agg, put_i, put_b, put_s, put_imm, setCells, List.getD_cons_zero, List.getD_cons_succ, bSh_b, bSh_i, bSh_s, bSh_sl, bSh_some, cond_true, cond_false, decide_true, decide_false, Int.toNat_natCast, Nat.zero_add, Nat.reduceAdd, beq_self_eq_true, Bool.and_true, Bool.true_and, if_true, Bool.false_eq_true, if_false, List.set_cons_zero, List.set_cons_succ, Bool.not_true, Bool.not_false, Bool.and_self]
  · try dsimp only
    rw [f52_l1_eq, dF (Int.lt_irrefl _), cond_false]
theorem eq142 {el : AV} (h : T167 1048576 el) : den E 142 [el, el] [] = some (.b true) := by
  obtain ⟨a0, a1, a2, a3, a4, a5, rfl, w0, w1, w2, w3, w4, w5, _⟩ := h
  rw [f142_eq]
  simp only [okC_nil, okC_agg, okC_i, okC_b, okC_s, okC_imm, okL_i, okL_b, okL_s, okL_sl, okS_i, okS_b, okS_s, okS_sl, okS_agg, okS_tup, okS_nil, okS_cons, cells_agg, cells_i, cells_b, cells_s, cells_imm, toI_i, toB_b, toS_s, toL_imm, nth_agg, nth_tup, put_agg, put_i, put_b, put_s, put_imm, setCells, List.getD_cons_zero, List.getD_cons_succ, bSh_b, bSh_i, bSh_s, bSh_sl, bSh_some, cond_true, cond_false, decide_true, decide_false, Int.toNat_natCast, Nat.zero_add, Nat.reduceAdd, beq_self_eq_true, Bool.and_true, Bool.true_and, if_true, Bool.false_eq_true, if_false, List.set_cons_zero, List.set_cons_succ, Bool.not_true, Bool.not_false, Bool.and_self, eq52 w1, eq52 w4, eq16 w5]
theorem eq99 {l : List AV} (h : Rw (T167 1048576) 1048576 l) : den E 99 [(.imm 6 l), (.imm 6 l)] [] = some (.b true) := by
  have hl := h.1
  rw [f99_eq]
  simp only [decide_true, Bool.not_true, cond_false]
  refine eq_loop (L := fun i => f99_l1 l l i) (n := l.length) (fun i hi => ?_) ?_
  · have hT := h.at hi
    obtain ⟨a0, a1, a2, a3, a4, a5, he, w0, w1, w2, w3, w4, w5, _⟩ := h.at hi
    rw [he] at hT
    try dsimp only
    rw [f99_l1_eq, dT (show (i : Int) < ((l.length : Nat) : Int) by omega), cond_true]
    rw [if_pos (by omega)]
    simp only [Int.toNat_natCast, he]
    rw [if_pos (by rfl), if_pos (by omega), if_pos (by rfl), w64 (by omega) (by omega)]
    simp only [okC_nil, okC_agg, okC_i, okC_b, okC_s, okC_imm, okL_i, okL_b, okL_s, okL_sl, okS_i, okS_b, okS_s, okS_sl, okS_agg, okS_tup, okS_nil, okS_cons, cells_agg, cells_i, cells_b, cells_s, cells_imm, toI_i, toB_b, toS_s, toL_imm, nth_agg, nth_tup, put_agg, put_i, put_b, put_s, put_imm, setCells, List.getD_cons_zero, List.getD_cons_succ, bSh_b, bSh_i, bSh_s, bSh_sl, bSh_some, cond_true, cond_false, decide_true, decide_false, Int.toNat_natCast, Nat.zero_add, Nat.reduceAdd, beq_self_eq_true, Bool.and_true, Bool.true_and, if_true, Bool.false_eq_true, if_false, List.set_cons_zero, List.set_cons_succ, Bool.not_true, Bool.not_false, Bool.and_self, eq142 hT]
  · try dsimp only
    rw [f99_l1_eq, dF (Int.lt_irrefl _), cond_false]
theorem eq49 {el : AV} (h : T29 1048576 el) : den E 49 [el, el] [] = some (.b true) := by
  obtain ⟨a0, a1, a2, a3, a4, a5, a6, a7, a8, rfl, w0, w1, w2, w3, w4, w5, w7, w8, _⟩ := h
  rw [f49_eq]
  simp only [okC_nil, okC_agg, okC_i, okC_b, okC_s, okC_imm, okL_i, okL_b, okL_s, okL_sl, okS_i, okS_b, okS_s, okS_sl, okS_agg, okS_tup, okS_nil, okS_cons, cells_agg, cells_i, cells_b, cells_s, cells_imm, toI_i, toB_b, toS_s, toL_imm, nth_agg, nth_tup, put_agg, put_i, put_b, put_s, put_imm, setCells, List.getD_cons_zero, List.getD_cons_succ, bSh_b, bSh_i, bSh_s, bSh_sl, bSh_some, cond_true, cond_false, decide_true, decide_false, Int.toNat_natCast, Nat.zero_add, Nat.reduceAdd, beq_self_eq_true, Bool.and_true, Bool.true_and, if_true, Bool.false_eq_true, if_false, List.set_cons_zero, List.set_cons_succ, Bool.not_true, Bool.not_false, Bool.and_self, eq99 w8, eq98 (el := .agg [(.i .i64 a0), (.i .i64 a1), (.i .i64 a2), (.imm 4 a3), (.i .i64 a4), (.i .i64 a5), (.b a6), (.i .i64 a7)]) ⟨a0, a1, a2, a3, a4, a5, a6, a7, rfl, w0, w1, w2, w3, w4, w5, w7, trivial⟩]
theorem eq143 {el : AV} (h : T169 1048576 el) : den E 143 [el, el] [] = some (.b true) := by
  obtain ⟨a0, a1, a2, a3, a4, a5, a6, a7, a8, a9, rfl, w0, w1, w2, w3, w4, w5, w6, w7, w8, w9, _⟩ := h
  rw [f143_eq]
  simp only [okC_nil, okC_agg, okC_i, okC_b, okC_s, okC_imm, okL_i, okL_b, okL_s, okL_sl, okS_i, okS_b, okS_s, okS_sl, okS_agg, okS_tup, okS_nil, okS_cons, cells_agg, cells_i, cells_b, cells_s, cells_imm, toI_i, toB_b, toS_s, toL_imm, nth_agg, nth_tup, put_agg, put_i, put_b, put_s, put_imm, setCells, List.getD_cons_zero, List.getD_cons_succ, bSh_b, bSh_i, bSh_s, bSh_sl, bSh_some, cond_true, cond_false, decide_true, decide_false, Int.toNat_natCast, Nat.zero_add, Nat.reduceAdd, beq_self_eq_true, Bool.and_true, Bool.true_and, if_true, Bool.false_eq_true, if_false, List.set_cons_zero, List.set_cons_succ, Bool.not_true, Bool.not_false, Bool.and_self]
theorem eq100 {l : List AV} (h : Rw (T169 1048576) 1048576 l) : den E 100 [(.imm 10 l), (.imm 10 l)] [] = some (.b true) := by
  have hl := h.1
  rw [f100_eq]
  simp only [decide_true, Bool.not_true, cond_false]
  refine eq_loop (L := fun i => f100_l1 l l i) (n := l.length) (fun i hi => ?_) ?_
  · have hT := h.at hi
    obtain ⟨a0, a1, a2, a3, a4, a5, a6, a7, a8, a9, he, w0, w1, w2, w3, w4, w5, w6, w7, w8, w9, _⟩ := h.at hi
    rw [he] at hT
    try dsimp only
    rw [f100_l1_eq, dT (show (i : Int) < ((l.length : Nat) : Int) by omega), cond_true]
    rw [if_pos (by omega)]
    simp only [Int.toNat_natCast, he]
    rw [if_pos (by rfl), if_pos (by omega), if_pos (by rfl), w64 (by omega) (by omega)]
    simp only [okC_nil, okC_agg, okC_i, okC_b, okC_s, okC_imm, okL_i, okL_b, okL_s, okL_sl, okS_i, okS_b, okS_s, okS_sl, okS_agg, okS_tup, okS_nil, okS_cons, cells_agg, cells_i, cells_b, cells_s, cells_imm, toI_i, toB_b, toS_s, toL_imm, nth_agg, nth_tup, put_agg, put_i, put_b, put_s, put_imm, setCells, List.getD_cons_zero, List.getD_cons_succ, bSh_b, bSh_i, bSh_s, bSh_sl, bSh_some, cond_true, cond_false, decide_true, decide_false, Int.toNat_natCast, Nat.zero_add, Nat.reduceAdd, beq_self_eq_true, Bool.and_true, Bool.true_and, if_true, Bool.false_eq_true, if_false, List.set_cons_zero, List.set_cons_succ, Bool.not_true, Bool.not_false, Bool.and_self, eq143 hT]
  · try dsimp only
    rw [f100_l1_eq, dF (Int.lt_irrefl _), cond_false]
theorem eq50 {el : AV} (h : T32 1048576 el) : den E 50 [el, el] [] = some (.b true) := by
  obtain ⟨a0, a1, a2, a3, rfl, w0, w1, w2, w3, _⟩ := h
  rw [f50_eq]
  simp only [okC_nil, okC_agg, okC_i, okC_b, okC_s, okC_imm, okL_i, okL_b, okL_s, okL_sl, okS_i, okS_b, okS_s, okS_sl, okS_agg, okS_tup, okS_nil, okS_cons, cells_agg, cells_i, cells_b, cells_s, cells_imm, toI_i, toB_b, toS_s, toL_imm, nth_agg, nth_tup, put_agg, put_i, put_b, put_s, put_imm, setCells, List.getD_cons_zero, List.getD_cons_succ, bSh_b, bSh_i, bSh_s, bSh_sl, bSh_some, cond_true, cond_false, decide_true, decide_false, Int.toNat_natCast, Nat.zero_add, Nat.reduceAdd, beq_self_eq_true, Bool.and_true, Bool.true_and, if_true, Bool.false_eq_true, if_false, List.set_cons_zero, List.set_cons_succ, Bool.not_true, Bool.not_false, Bool.and_self, eq100 w3]
theorem eq101 {el : AV} (h : T63 1048576 el) : den E 101 [el, el] [] = some (.b true) := by
  obtain ⟨a0, a1, a2, a3, a4, rfl, w0, w1, w2, w3, w4, _⟩ := h
  rw [f101_eq]
  simp only [okC_nil, okC_agg, okC_i, okC_b, okC_s, okC_imm, okL_i, okL_b, okL_s, okL_sl, okS_i, okS_b, okS_s, okS_sl, okS_agg, okS_tup, okS_nil, okS_cons, cells_agg, cells_i, cells_b, cells_s, cells_imm, toI_i, toB_b, toS_s, toL_imm, nth_agg, nth_tup, put_agg, put_i, put_b, put_s, put_imm, setCells, List.getD_cons_zero, List.getD_cons_succ, bSh_b, bSh_i, bSh_s, bSh_sl, bSh_some, cond_true, cond_false, decide_true, decide_false, Int.toNat_natCast, Nat.zero_add, Nat.reduceAdd, beq_self_eq_true, Bool.and_true, Bool.true_and, if_true, Bool.false_eq_true, if_false, List.set_cons_zero, List.set_cons_succ, Bool.not_true, Bool.not_false, Bool.and_self]
theorem eq51 {l : List AV} (h : Rw (T63 1048576) 1048576 l) : den E 51 [(.imm 5 l), (.imm 5 l)] [] = some (.b true) := by
  have hl := h.1
  rw [f51_eq]
  simp only [decide_true, Bool.not_true, cond_false]
  refine eq_loop (L := fun i => f51_l1 l l i) (n := l.length) (fun i hi => ?_) ?_
  · have hT := h.at hi
    obtain ⟨a0, a1, a2, a3, a4, he, w0, w1, w2, w3, w4, _⟩ := h.at hi
    rw [he] at hT
    try dsimp only
    rw [f51_l1_eq, dT (show (i : Int) < ((l.length : Nat) : Int) by omega), cond_true]
    rw [if_pos (by omega)]
    simp only [Int.toNat_natCast, he]
    rw [if_pos (by rfl), if_pos (by omega), if_pos (by rfl), w64 (by omega) (by omega)]
    simp only [okC_nil, okC_agg, okC_i, okC_b, okC_s, okC_imm, okL_i, okL_b, okL_s, okL_sl, okS_i, okS_b, okS_s, okS_sl, okS_agg, okS_tup, okS_nil, okS_cons, cells_agg, cells_i, cells_b, cells_s, cells_imm, toI_i, toB_b, toS_s, toL_imm, nth_agg, nth_tup, put_agg, put_i, put_b, put_s, put_imm, setCells, List.getD_cons_zero, List.getD_cons_succ, bSh_b, bSh_i, bSh_s, bSh_sl, bSh_some, cond_true, cond_false, decide_true, decide_false, Int.toNat_natCast, Nat.zero_add, Nat.reduceAdd, beq_self_eq_true, Bool.and_true, Bool.true_and, if_true, Bool.false_eq_true, if_false, List.set_cons_zero, List.set_cons_succ, Bool.not_true, Bool.not_false, Bool.and_self, eq101 hT]
  · try dsimp only
    rw [f51_l1_eq, dF (Int.lt_irrefl _), cond_false]
theorem eq11 {el : AV} (h : T36 1048576 el) : den E 11 [el, el] [] = some (.b true) := by
  obtain ⟨a0, a1, a2, a3, a4, a5, a6, a7, a8, a9, a10, a11, a12, a13, a14, a15, a16, a17, a18, rfl, w0, w1, w2, w3, w4, w5, w7, w8, w9, w10, w11, w12, w13, w14, w15, w16, w17, w18, _⟩ := h
  rw [f11_eq]
  simp only [okC_nil, okC_agg, okC_i, okC_b, okC_s, okC_imm, okL_i, okL_b, okL_s, okL_sl, okS_i, okS_b, okS_s, okS_sl, okS_agg, okS_tup, okS_nil, okS_cons, cells_agg, cells_i, cells_b, cells_s, cells_imm, toI_i, toB_b, toS_s, toL_imm, nth_agg, nth_tup, put_agg, put_i, put_b, put_s, put_imm, setCells, List.getD_cons_zero, List.getD_cons_succ, bSh_b, bSh_i, bSh_s, bSh_sl, bSh_some, cond_true, cond_false, decide_true, decide_false, Int.toNat_natCast, Nat.zero_add, Nat.reduceAdd, beq_self_eq_true, Bool.and_true, Bool.true_and, if_true, Bool.false_eq_true, if_false, List.set_cons_zero, List.set_cons_succ, Bool.not_true, Bool.not_false, Bool.and_self, eq51 w15, eq52 w18, eq49 (el := .agg [(.i .i64 a0), (.i .i64 a1), (.i .i64 a2), (.imm 4 a3), (.i .i64 a4), (.i .i64 a5), (.b a6), (.i .i64 a7), (.imm 6 a8)]) ⟨a0, a1, a2, a3, a4, a5, a6, a7, a8, rfl, w0, w1, w2, w3, w4, w5, w7, w8, trivial⟩, eq50 (el := .agg [(.i .i64 a9), (.i .i64 a10), (.i .i64 a11), (.imm 10 a12)]) ⟨a9, a10, a11, a12, rfl, w9, w10, w11, w12, trivial⟩]
end Go.Proofs.Ytkpmplggbbiebaa.ISameDB
