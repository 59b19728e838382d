/- Printed by a program of this work (wip/it/itf.py): typed trees; the families sz, to, eq. No condition beyond what each theorem states. -/
import Derived.Test.YtkicholhkoahhaaIBadBlocksx
import Derived.Test.YtkicholhkoahhaaIt2
namespace Go.Proofs.Ytkicholhkoahhaa.IBadBlocks
open Go Go.Proofs.YtkicholhkoahhaaIT
set_option linter.unusedVariables false
set_option linter.unusedSimpArgs false
def T5 (B : Nat) (el : AV) : Prop := ∃ (a0 : Int), el = AV.i .u8 a0 ∧ (Lit.int .u8 a0).wf = true ∧ True
theorem T5.eta {B : Nat} {el : AV} (h : T5 B el) : AV.i .u8 (el.cells.getD 0 .x).toI = el := by obtain ⟨a0, rfl, _, _⟩ := h; rfl
theorem T5.ok {B : Nat} {el : AV} (h : T5 B el) : okCells false el 0 [(.i .u8)] = true := by obtain ⟨a0, rfl, _, _⟩ := h; rfl
theorem T5_of {el : AV} (h : El E (.i .u8) el) : T5 9223372036854775807 el := by
  have h0 : WL E (.i .u8) el := El.leaf rfl (fun _ => rfl) h
  obtain ⟨a0, rfl, w0⟩ := h0.int
  exact ⟨a0, rfl, w0, trivial⟩
def T42 (B : Nat) (el : AV) : Prop := ∃ (a0 : Int) (a1 : Int) (a2 : Int), el = AV.agg [(.i .i64 a0), (.i .i64 a1), (.i .i64 a2)] ∧ W64 a0 ∧ W64 a1 ∧ W64 a2 ∧ True
theorem T42.eta {B : Nat} {el : AV} (h : T42 B el) : AV.agg [(.i .i64 (el.cells.getD 0 .x).toI), (.i .i64 (el.cells.getD 1 .x).toI), (.i .i64 (el.cells.getD 2 .x).toI)] = el := by obtain ⟨a0, a1, a2, rfl, _, _, _, _⟩ := h; rfl
theorem T42.ok {B : Nat} {el : AV} (h : T42 B el) : okCells false el 0 [(.i .i64), (.i .i64), (.i .i64)] = true := by obtain ⟨a0, a1, a2, rfl, _, _, _, _⟩ := h; rfl
theorem T42.ok0 {B : Nat} {el : AV} (h : T42 B el) : okCells false el 0 [(.i .i64)] = true := by obtain ⟨a0, a1, a2, rfl, _, _, _, _⟩ := h; rfl
theorem T42.ok1 {B : Nat} {el : AV} (h : T42 B el) : okCells false el 1 [(.i .i64)] = true := by obtain ⟨a0, a1, a2, rfl, _, _, _, _⟩ := h; rfl
theorem T42.ok2 {B : Nat} {el : AV} (h : T42 B el) : okCells false el 2 [(.i .i64)] = true := by obtain ⟨a0, a1, a2, rfl, _, _, _, _⟩ := h; rfl
theorem T42_of {el : AV} (h : El E (.agg [(.i .i64), (.i .i64), (.i .i64)]) el) : T42 9223372036854775807 el := by
  obtain ⟨cs, rfl, hs⟩ := h.agg
  obtain ⟨y0, c0, rfl, h0, hs⟩ := hs.out
  obtain ⟨y1, c1, rfl, h1, hs⟩ := hs.out
  obtain ⟨y2, c2, rfl, h2, hs⟩ := hs.out
  obtain rfl := hs.end
  obtain ⟨a0, rfl, w0⟩ := h0.int
  obtain ⟨a1, rfl, w1⟩ := h1.int
  obtain ⟨a2, rfl, w2⟩ := h2.int
  exact ⟨a0, a1, a2, rfl, wf_64 w0, wf_64 w1, wf_64 w2, trivial⟩
def T2 (B : Nat) (el : AV) : Prop := ∃ (a0 : Int), el = AV.i .i64 a0 ∧ W64 a0 ∧ True
theorem T2.eta {B : Nat} {el : AV} (h : T2 B el) : AV.i .i64 (el.cells.getD 0 .x).toI = el := by obtain ⟨a0, rfl, _, _⟩ := h; rfl
theorem T2.ok {B : Nat} {el : AV} (h : T2 B el) : okCells false el 0 [(.i .i64)] = true := by obtain ⟨a0, rfl, _, _⟩ := h; rfl
theorem T2_of {el : AV} (h : El E (.i .i64) el) : T2 9223372036854775807 el := by
  have h0 : WL E (.i .i64) el := El.leaf rfl (fun _ => rfl) h
  obtain ⟨a0, rfl, w0⟩ := h0.int
  exact ⟨a0, rfl, wf_64 w0, trivial⟩
def T45 (B : Nat) (el : AV) : Prop := ∃ (a0 : Int) (a1 : Int) (a2 : Int) (a3 : Int) (a4 : List AV) (a5 : List AV), el = AV.agg [(.i .i64 a0), (.i .i64 a1), (.i .i64 a2), (.i .i64 a3), (.imm 1 a4), (.imm 1 a5)] ∧ W64 a0 ∧ W64 a1 ∧ W64 a2 ∧ W64 a3 ∧ Rw (T2 B) B a4 ∧ Rw (T2 B) B a5 ∧ True
theorem T45.eta {B : Nat} {el : AV} (h : T45 B el) : AV.agg [(.i .i64 (el.cells.getD 0 .x).toI), (.i .i64 (el.cells.getD 1 .x).toI), (.i .i64 (el.cells.getD 2 .x).toI), (.i .i64 (el.cells.getD 3 .x).toI), (.imm 1 (el.cells.getD 4 .x).toL), (.imm 1 (el.cells.getD 5 .x).toL)] = el := by obtain ⟨a0, a1, a2, a3, a4, a5, rfl, _, _, _, _, _, _, _⟩ := h; rfl
theorem T45.ok {B : Nat} {el : AV} (h : T45 B el) : okCells false el 0 [(.i .i64), (.i .i64), (.i .i64), (.i .i64), (.sl 2 1), (.sl 2 1)] = true := by obtain ⟨a0, a1, a2, a3, a4, a5, rfl, _, _, _, _, _, _, _⟩ := h; rfl
theorem T45.ok0 {B : Nat} {el : AV} (h : T45 B el) : okCells false el 0 [(.i .i64)] = true := by obtain ⟨a0, a1, a2, a3, a4, a5, rfl, _, _, _, _, _, _, _⟩ := h; rfl
theorem T45.ok1 {B : Nat} {el : AV} (h : T45 B el) : okCells false el 1 [(.i .i64)] = true := by obtain ⟨a0, a1, a2, a3, a4, a5, rfl, _, _, _, _, _, _, _⟩ := h; rfl
theorem T45.ok2 {B : Nat} {el : AV} (h : T45 B el) : okCells false el 2 [(.i .i64)] = true := by obtain ⟨a0, a1, a2, a3, a4, a5, rfl, _, _, _, _, _, _, _⟩ := h; rfl
theorem T45.ok3 {B : Nat} {el : AV} (h : T45 B el) : okCells false el 3 [(.i .i64)] = true := by obtain ⟨a0, a1, a2, a3, a4, a5, rfl, _, _, _, _, _, _, _⟩ := h; rfl
theorem T45.ok4 {B : Nat} {el : AV} (h : T45 B el) : okCells false el 4 [(.sl 2 1)] = true := by obtain ⟨a0, a1, a2, a3, a4, a5, rfl, _, _, _, _, _, _, _⟩ := h; rfl
theorem T45.ok5 {B : Nat} {el : AV} (h : T45 B el) : okCells false el 5 [(.sl 2 1)] = true := by obtain ⟨a0, a1, a2, a3, a4, a5, rfl, _, _, _, _, _, _, _⟩ := h; rfl
theorem T45_of {el : AV} (h : El E (.agg [(.i .i64), (.i .i64), (.i .i64), (.i .i64), (.sl 2 1), (.sl 2 1)]) el) : T45 9223372036854775807 el := by
  obtain ⟨cs, rfl, hs⟩ := h.agg
  obtain ⟨y0, c0, rfl, h0, hs⟩ := hs.out
  obtain ⟨y1, c1, rfl, h1, hs⟩ := hs.out
  obtain ⟨y2, c2, rfl, h2, hs⟩ := hs.out
  obtain ⟨y3, c3, rfl, h3, hs⟩ := hs.out
  obtain ⟨y4, c4, rfl, h4, hs⟩ := hs.out
  obtain ⟨y5, c5, rfl, h5, hs⟩ := hs.out
  obtain rfl := hs.end
  obtain ⟨a0, rfl, w0⟩ := h0.int
  obtain ⟨a1, rfl, w1⟩ := h1.int
  obtain ⟨a2, rfl, w2⟩ := h2.int
  obtain ⟨a3, rfl, w3⟩ := h3.int
  obtain ⟨a4, rfl, w4, r4⟩ := h4.row (te := ⟨(.i .i64), 1, 8, 0, []⟩) rfl
  obtain ⟨a5, rfl, w5, r5⟩ := h5.row (te := ⟨(.i .i64), 1, 8, 0, []⟩) rfl
  exact ⟨a0, a1, a2, a3, a4, a5, rfl, wf_64 w0, wf_64 w1, wf_64 w2, wf_64 w3, ⟨w4, fun el hel => T2_of (r4 el hel)⟩, ⟨w5, fun el hel => T2_of (r5 el hel)⟩, trivial⟩
end Go.Proofs.Ytkicholhkoahhaa.IBadBlocks
