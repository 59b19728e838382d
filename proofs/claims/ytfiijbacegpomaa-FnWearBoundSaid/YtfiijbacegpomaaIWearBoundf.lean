/- Printed by a program of this work (wip/it/itf.py): typed trees; the families sz, to, eq. No condition beyond what each theorem states. -/
import Derived.Test.YtfiijbacegpomaaIWearBoundx
import Derived.Test.YtfiijbacegpomaaIt2
namespace Go.Proofs.Ytfiijbacegpomaa.IWearBound
open Go Go.Proofs.YtfiijbacegpomaaIT
set_option linter.unusedVariables false
set_option linter.unusedSimpArgs false
def T5 (B : Nat) (el : AV) : Prop := ∃ (a0 : Int), el = AV.i .u8 a0 ∧ (Lit.int .u8 a0).wf = true ∧ True
theorem T5.eta {B : Nat} {el : AV} (h : T5 B el) : AV.i .u8 (el.cells.getD 0 .x).toI = el := by obtain ⟨a0, rfl, _, _⟩ := h; rfl
theorem T5.ok {B : Nat} {el : AV} (h : T5 B el) : okCells false el 0 [(.i .u8)] = true := by obtain ⟨a0, rfl, _, _⟩ := h; rfl
theorem T5_of {el : AV} (h : El E (.i .u8) el) : T5 9223372036854775807 el := by
  have h0 : WL E (.i .u8) el := El.leaf rfl (fun _ => rfl) h
  obtain ⟨a0, rfl, w0⟩ := h0.int
  exact ⟨a0, rfl, w0, trivial⟩
def T2 (B : Nat) (el : AV) : Prop := ∃ (a0 : Int), el = AV.i .i64 a0 ∧ W64 a0 ∧ True
theorem T2.eta {B : Nat} {el : AV} (h : T2 B el) : AV.i .i64 (el.cells.getD 0 .x).toI = el := by obtain ⟨a0, rfl, _, _⟩ := h; rfl
theorem T2.ok {B : Nat} {el : AV} (h : T2 B el) : okCells false el 0 [(.i .i64)] = true := by obtain ⟨a0, rfl, _, _⟩ := h; rfl
theorem T2_of {el : AV} (h : El E (.i .i64) el) : T2 9223372036854775807 el := by
  have h0 : WL E (.i .i64) el := El.leaf rfl (fun _ => rfl) h
  obtain ⟨a0, rfl, w0⟩ := h0.int
  exact ⟨a0, rfl, wf_64 w0, trivial⟩
def T4 (B : Nat) (el : AV) : Prop := ∃ (a0 : Bool), el = AV.b a0 ∧ True
theorem T4.eta {B : Nat} {el : AV} (h : T4 B el) : AV.b (el.cells.getD 0 .x).toB = el := by obtain ⟨a0, rfl, _⟩ := h; rfl
theorem T4.ok {B : Nat} {el : AV} (h : T4 B el) : okCells false el 0 [.b] = true := by obtain ⟨a0, rfl, _⟩ := h; rfl
theorem T4_of {el : AV} (h : El E .b el) : T4 9223372036854775807 el := by
  have h0 : WL E .b el := El.leaf rfl (fun _ => rfl) h
  obtain ⟨a0, rfl⟩ := h0.bool
  exact ⟨a0, rfl, trivial⟩
def T30 (B : Nat) (el : AV) : Prop := ∃ (a0 : List AV) (a1 : List AV) (a2 : List AV) (a3 : Int), el = AV.agg [(.imm 1 a0), (.imm 1 a1), (.imm 1 a2), (.i .i64 a3)] ∧ Rw (T2 B) B a0 ∧ Rw (T4 B) B a1 ∧ Rw (T2 B) B a2 ∧ W64 a3 ∧ True
theorem T30.eta {B : Nat} {el : AV} (h : T30 B el) : AV.agg [(.imm 1 (el.cells.getD 0 .x).toL), (.imm 1 (el.cells.getD 1 .x).toL), (.imm 1 (el.cells.getD 2 .x).toL), (.i .i64 (el.cells.getD 3 .x).toI)] = el := by obtain ⟨a0, a1, a2, a3, rfl, _, _, _, _, _⟩ := h; rfl
theorem T30.ok {B : Nat} {el : AV} (h : T30 B el) : okCells false el 0 [(.sl 2 1), (.sl 4 1), (.sl 2 1), (.i .i64)] = true := by obtain ⟨a0, a1, a2, a3, rfl, _, _, _, _, _⟩ := h; rfl
theorem T30.ok0 {B : Nat} {el : AV} (h : T30 B el) : okCells false el 0 [(.sl 2 1)] = true := by obtain ⟨a0, a1, a2, a3, rfl, _, _, _, _, _⟩ := h; rfl
theorem T30.ok1 {B : Nat} {el : AV} (h : T30 B el) : okCells false el 1 [(.sl 4 1)] = true := by obtain ⟨a0, a1, a2, a3, rfl, _, _, _, _, _⟩ := h; rfl
theorem T30.ok2 {B : Nat} {el : AV} (h : T30 B el) : okCells false el 2 [(.sl 2 1)] = true := by obtain ⟨a0, a1, a2, a3, rfl, _, _, _, _, _⟩ := h; rfl
theorem T30.ok3 {B : Nat} {el : AV} (h : T30 B el) : okCells false el 3 [(.i .i64)] = true := by obtain ⟨a0, a1, a2, a3, rfl, _, _, _, _, _⟩ := h; rfl
theorem T30_of {el : AV} (h : El E (.agg [(.sl 2 1), (.sl 4 1), (.sl 2 1), (.i .i64)]) el) : T30 9223372036854775807 el := by
  obtain ⟨cs, rfl, hs⟩ := h.agg
  obtain ⟨y0, c0, rfl, h0, hs⟩ := hs.out
  obtain ⟨y1, c1, rfl, h1, hs⟩ := hs.out
  obtain ⟨y2, c2, rfl, h2, hs⟩ := hs.out
  obtain ⟨y3, c3, rfl, h3, hs⟩ := hs.out
  obtain rfl := hs.end
  obtain ⟨a0, rfl, w0, r0⟩ := h0.row (te := ⟨(.i .i64), 1, 8, 0, []⟩) rfl
  obtain ⟨a1, rfl, w1, r1⟩ := h1.row (te := ⟨.b, 1, 1, 0, []⟩) rfl
  obtain ⟨a2, rfl, w2, r2⟩ := h2.row (te := ⟨(.i .i64), 1, 8, 0, []⟩) rfl
  obtain ⟨a3, rfl, w3⟩ := h3.int
  exact ⟨a0, a1, a2, a3, rfl, ⟨w0, fun el hel => T2_of (r0 el hel)⟩, ⟨w1, fun el hel => T4_of (r1 el hel)⟩, ⟨w2, fun el hel => T2_of (r2 el hel)⟩, wf_64 w3, trivial⟩
end Go.Proofs.Ytfiijbacegpomaa.IWearBound
