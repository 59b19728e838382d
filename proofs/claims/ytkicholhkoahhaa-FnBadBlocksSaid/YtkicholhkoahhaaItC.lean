/- When a machine's values and memory are those that the trees tell; what is kept where memory grows. No condition beyond what each theorem states. -/
import Derived.Test.YtkicholhkoahhaaItB
import Derived.Maps.AppendAt
import Derived.DataElems
import Derived.Below
import Derived.Deep.MidRow
namespace Go.Proofs.YtkicholhkoahhaaIT
open Go

/-- The trees' memory beside the machine's: which block a node lies in; which roots are there. -/
structure Cx where
  σ : List Root
  j : Nat → List (Nat × Nat) → Option Nat
  w : World
  D : Nat → Prop
  F : Nat → Prop

/-- The blocks that are the call's own. -/
def Cx.O (c : Cx) (b : Nat) : Prop := ∃ r p n, c.D r ∧ nodeAt c.σ r p = some n ∧ c.j r p = some b
/-- The blocks that others may write (F: those of the callers). -/
def Cx.N (c : Cx) (b : Nat) : Prop := c.F b ∨ c.O b

/-- A value that holds no memory of the call's own. -/
inductive VI (N : Nat → Prop) (w : World) : AV → Value → Prop
  | i (k : IntKind) (n : Int) : VI N w (.i k n) (.int k n)
  | b (y : Bool) : VI N w (.b y) (.bool y)
  | s (y : ByteArray) : VI N w (.s y) (.string y)
  | imm0 (z : Nat) (A : Option Addr) (cap : Nat) : VI N w (.imm z []) (.slice A 0 cap)
  | imm (es : List AV) (a : Addr) (cap sz : Nat) (f : Nat → Nat → Value) : es.length ≤ cap → ¬ N a.block → a.block < w.heap.size → (∀ (m : Nat) (el : AV), es[m]? = some el → el.cells.length = sz) →
      (∀ (m : Nat) (el : AV) (t : Nat) (y : AV), es[m]? = some el → el.cells[t]? = some y → w.cell? (a.add (m * sz + t)) = some (f m t) ∧ (f m t).oneCell' = true) →
      (∀ (m : Nat) (el : AV) (t : Nat) (y : AV), es[m]? = some el → el.cells[t]? = some y → VI N w y (f m t)) → VI N w (.imm sz es) (.slice (some a) es.length cap)
  | nils (A : Option Addr) : VI N w .nils (.slice A 0 0)
  | ip (el : AV) (k : Nat) (a : Addr) (f : Nat → Value) : ¬ N a.block → a.block < w.heap.size → (∀ (t : Nat) (y : AV), el.cells[t]? = some y → w.cell? (a.add t) = some (f t) ∧ (f t).oneCell' = true) →
      (∀ (t : Nat) (y : AV), el.cells[t]? = some y → VI N w y (f t)) → VI N w (.ip el k) (.pointer (some (a.add k)))
  | agg (cs : List AV) (vs : List Value) : cs.length = vs.length → (∀ (t : Nat) (y : AV) (v : Value), cs[t]? = some y → vs[t]? = some v → VI N w y v) → VI N w (.agg cs) (.agg vs.toArray)
  | tup (cs : List AV) (vs : List Value) : cs.length = vs.length → (∀ (t : Nat) (y : AV) (v : Value), cs[t]? = some y → vs[t]? = some v → VI N w y v) → VI N w (.tup cs) (.tuple vs.toArray)
  | fn (g : Nat) (cs : List AV) (vs : List Value) : cs.length = vs.length → (∀ (t : Nat) (y : AV) (v : Value), cs[t]? = some y → vs[t]? = some v → VI N w y v) → VI N w (.fn g cs) (.func (.func g) #[] vs.toArray)
  | nilp : VI N w .nilp (.pointer none)
  | u : VI N w .u undef
  | x (v : Value) : VI N w .x v

variable (P : Program)

/-- A slice's head over a node's block. -/
def SlR (w : World) (jb : Option Nat) (te n : Nat) (win : Option (Nat × Nat)) (v : Value) : Prop :=
  match jb with
  | none => n = 0 ∧ (∀ q, win = some q → q.1 = 0 ∧ q.2 = 0) ∧ ∃ A, v = .slice A 0 0
  | some b => ∃ cap cs, w.heap[b]? = some (.cells cs te (0, 0)) ∧ cs.size = cap * P.cellsOf te ∧ n ≤ cap ∧ cap ≤ maxLen ∧
    (match win with
    | none => v = .slice (some ⟨b, 0, none⟩) n cap
    | some q => q.1 + q.2 ≤ n ∧ ∃ A, v = .slice A q.2 (cap - q.1) ∧ (cap = q.1 ∧ q.1 ≠ 0 ∨ A = some ⟨b, q.1 * P.cellsOf te, none⟩))

inductive V (c : Cx) : AV → Value → Prop
  | vi {a : AV} {v : Value} : VI c.N c.w a v → V c a v
  | sl (r : Nat) (p : List (Nat × Nat)) (win : Option (Nat × Nat)) (v : Value) : r < c.σ.length → c.D r → (∀ te es, nodeAt c.σ r p = some (te, es) → SlR P c.w (c.j r p) te es.length win v) → V c (.sl r p win) v
  | pt (r : Nat) (p : List (Nat × Nat)) (m k : Nat) (v : Value) : r < c.σ.length → c.D r →
      (∀ te es, nodeAt c.σ r p = some (te, es) → ∃ b, c.j r p = some b ∧ m < es.length ∧ v = .pointer (some ⟨b, m * P.cellsOf te + k, none⟩) ∧ te ≠ mapT) →
      (∀ te es, p = [(0, 0)] → nodeAt c.σ r [] = some (te, es) → te = mapT ∧ ∃ b, c.j r [] = some b ∧ v = .map (some b)) → V c (.pt r p m k) v
  | agg (cs : List AV) (vs : List Value) : cs.length = vs.length → (∀ (t : Nat) (y : AV) (v : Value), cs[t]? = some y → vs[t]? = some v → V c y v) → V c (.agg cs) (.agg vs.toArray)
  | tup (cs : List AV) (vs : List Value) : cs.length = vs.length → (∀ (t : Nat) (y : AV) (v : Value), cs[t]? = some y → vs[t]? = some v → V c y v) → V c (.tup cs) (.tuple vs.toArray)
  | fn (g : Nat) (cs : List AV) (vs : List Value) : cs.length = vs.length → (∀ (t : Nat) (y : AV) (v : Value), cs[t]? = some y → vs[t]? = some v → V c y v) → V c (.fn g cs) (.func (.func g) #[] vs.toArray)

/-- Is the node a variable's own cells? There references may lie. -/
def litAt (σ : List Root) (r : Nat) (p : List (Nat × Nat)) : Bool :=
  match σ.getD r .dead with
  | .live _ rf _ _ _ => rf && p.isEmpty
  | .dead => false

def CellR (c : Cx) (r : Nat) (p : List (Nat × Nat)) (m t : Nat) (y : AV) (v : Value) : Prop :=
  match y with
  | .nw te es => SlR P c.w (c.j r (p ++ [(m, t)])) te es.length none v
  | y => if litAt c.σ r p then V P c y v else VI c.N c.w y v

/-- A map's entries: what they hold. -/
def MapOk (ents : Array MapEntry) (ks : List AV) : Prop :=
  (∀ (i : Nat) (e : MapEntry), ents[i]? = some e → e.val = .bool true ∧ ∃ n, e.key = .int .i64 n) ∧ ∀ n, (∃ (i : Nat) (e : MapEntry), ents[i]? = some e ∧ e.key = .int .i64 n) ↔ hasI ks n = true
def MapB (w : World) (jb : Option Nat) (es : List AV) : Prop := ∃ b ents clock ks, jb = some b ∧ w.heap[b]? = some (.map ents clock) ∧ es = [.fn 0 ks] ∧ MapOk ents ks

def NodeB (c : Cx) (r : Nat) (p : List (Nat × Nat)) (te : Nat) (es : List AV) : Prop :=
  ∃ b cs cap, c.j r p = some b ∧ c.w.heap[b]? = some (.cells cs te (0, 0)) ∧ cs.size = cap * P.cellsOf te ∧ es.length ≤ cap ∧ cap ≤ maxLen ∧
    ∀ (m : Nat) (el : AV), es[m]? = some el → el.cells.length = P.cellsOf te ∧ ∀ (t : Nat) (y : AV), el.cells[t]? = some y → ∃ v, cs[m * P.cellsOf te + t]? = some v ∧ v.oneCell' = true ∧ CellR P c r p m t y v
def NodeC (c : Cx) (r : Nat) (p : List (Nat × Nat)) (te : Nat) (es : List AV) : Prop := (es = [] ∧ c.j r p = none) ∨ NodeB P c r p te es
def NodeR (c : Cx) (r : Nat) (p : List (Nat × Nat)) (te : Nat) (es : List AV) : Prop := (es = [] ∧ c.j r p = none) ∨ (te ≠ mapT ∧ NodeB P c r p te es) ∨
  (te = mapT ∧ p = [] ∧ litAt c.σ r p = false ∧ MapB c.w (c.j r p) es)

/-- No row inside a row. -/
def Flat (es : List AV) : Prop := ∀ (m : Nat) (el : AV) (t te' : Nat) (es' : List AV), es[m]? = some el → el.cells[t]? = some (.nw te' es') → False

structure Mem (c : Cx) : Prop where
  flat : ∀ r mv rf te es, c.σ.getD r .dead = .live mv rf false te es → Flat es
  node : ∀ r p te es, c.D r → nodeAt c.σ r p = some (te, es) → NodeR P c r p te es
  inj : ∀ r p r' p' n n' b, c.D r → c.D r' → nodeAt c.σ r p = some n → nodeAt c.σ r' p' = some n' → c.j r p = some b → c.j r' p' = some b → r = r' ∧ p = p'
  out : ∀ b, c.F b → b < c.w.heap.size ∧ ¬ c.O b

/-- What every step leaves as it was. -/
structure Gr (c c' : Cx) : Prop where
  os : c'.w.os = c.w.os
  tape : c'.w.tape = c.w.tape
  output : c'.w.output = c.w.output
  size : c.w.heap.size ≤ c'.w.heap.size
  heap : ∀ b, b < c.w.heap.size → ¬ c.O b → c'.w.heap[b]? = c.w.heap[b]?
  O : ∀ b, c'.O b → c.O b ∨ c.w.heap.size ≤ b
  F : c'.F = c.F
theorem Gr.N {c c' : Cx} (g : Gr c c') (b : Nat) (h : c'.N b) : c.N b ∨ c.w.heap.size ≤ b := by
  rcases h with h | h
  · exact .inl (.inl (g.F ▸ h))
  · exact (g.O b h).imp .inr id

theorem Gr.refl (c : Cx) : Gr c c := ⟨rfl, rfl, rfl, Nat.le_refl _, fun _ _ _ => rfl, fun _ h => .inl h, rfl⟩
theorem Gr.trans {a b c : Cx} (h : Gr a b) (k : Gr b c) : Gr a c := by
  refine ⟨k.os.trans h.os, k.tape.trans h.tape, k.output.trans h.output, Nat.le_trans h.size k.size, fun i hi hn => ?_, fun i hi => ?_, k.F.trans h.F⟩
  · have hnb : ¬ b.O i := fun hb => by
      rcases h.O i hb with h1 | h1
      · exact hn h1
      · omega
    exact (k.heap i (Nat.lt_of_lt_of_le hi h.size) hnb).trans (h.heap i hi hn)
  · rcases k.O i hi with h1 | h1
    · exact h.O i h1
    · exact .inr (Nat.le_trans h.size h1)

theorem World.cell?_lt {w : World} {a : Addr} {v : Value} (h : w.cell? a = some v) : a.block < w.heap.size := World.block_lt_of_cell? w a h

theorem add_block (a : Addr) (n : Nat) : (a.add n).block = a.block := by unfold Addr.add; split <;> rfl

theorem cell_same {w w' : World} {a : Addr} (h : w'.heap[a.block]? = w.heap[a.block]?) : w'.cell? a = w.cell? a := by unfold World.cell?; rw [h]

/-- What is only read reads on. -/
theorem VI.gen {N N' : Nat → Prop} {w w' : World} (hs : w.heap.size ≤ w'.heap.size) (hw : ∀ b, b < w.heap.size → ¬ N b → w'.heap[b]? = w.heap[b]?) (hN : ∀ b, b < w.heap.size → ¬ N b → ¬ N' b)
    {a : AV} {v : Value} (h : VI N w a v) : VI N' w' a v := by
  induction h with
  | i k n => exact .i k n
  | b y => exact .b y
  | s y => exact .s y
  | imm0 z A cap => exact .imm0 z A cap
  | imm es a cap sz f hl hn hlt hz hc _ ih =>
    refine .imm _ a cap sz f hl (hN _ hlt hn) (Nat.lt_of_lt_of_le hlt hs) hz (fun m el t y h1 h2 => ?_) ih
    obtain ⟨h3, h4⟩ := hc m el t y h1 h2
    refine ⟨?_, h4⟩
    exact (cell_same (w := w) (w' := w') (by rw [add_block]; exact hw _ hlt hn)).trans h3
  | nils A => exact .nils A
  | ip el k a f hn hlt hc _ ih =>
    refine .ip _ k a f (hN _ hlt hn) (Nat.lt_of_lt_of_le hlt hs) (fun t y h2 => ?_) ih
    obtain ⟨h3, h4⟩ := hc t y h2
    refine ⟨?_, h4⟩
    exact (cell_same (w := w) (w' := w') (by rw [add_block]; exact hw _ hlt hn)).trans h3
  | agg cs vs hl _ ih => exact .agg cs vs hl ih
  | tup cs vs hl _ ih => exact .tup cs vs hl ih
  | fn g cs vs hl _ ih => exact .fn g cs vs hl ih
  | nilp => exact .nilp
  | u => exact .u
  | x v => exact .x v
theorem VI.gr {c c' : Cx} (g : Gr c c') {a : AV} {v : Value} (h : VI c.N c.w a v) : VI c'.N c'.w a v :=
  h.gen g.size (fun b hb hn => g.heap b hb fun h => hn (.inr h)) fun b hb hn h' => (g.N b h').elim hn (by omega)

/-- What a step keeps of references. -/
structure Kp (c c' : Cx) : Prop extends Gr c c' where
  len : c.σ.length ≤ c'.σ.length
  D : ∀ r, r < c.σ.length → c.D r → c'.D r
  nd : ∀ r p te es', r < c.σ.length → c.D r → nodeAt c'.σ r p = some (te, es') → ∃ es, nodeAt c.σ r p = some (te, es) ∧ es.length = es'.length ∧ c'.j r p = c.j r p
  blk : ∀ r p te es b cs el n', r < c.σ.length → c.D r → nodeAt c.σ r p = some (te, es) → nodeAt c'.σ r p = some n' → c.j r p = some b → c.w.heap[b]? = some (.cells cs el (0, 0)) →
    ∃ cs', c'.w.heap[b]? = some (.cells cs' el (0, 0)) ∧ cs'.size = cs.size
  rf : ∀ r mv f nest e es, r < c.σ.length → c'.σ.getD r .dead = .live mv f nest e es → ∃ mv' nest' e' es', c.σ.getD r .dead = .live mv' f nest' e' es'
theorem Kp.refl (c : Cx) : Kp c c := ⟨Gr.refl c, Nat.le_refl _, fun _ _ h => h, fun _ _ _ es' _ _ h => ⟨es', h, rfl, rfl⟩, fun _ _ _ _ _ cs _ _ _ _ _ _ _ h => ⟨cs, h, rfl⟩, fun _ mv _ nest e es _ h => ⟨mv, nest, e, es, h⟩⟩
theorem nodeAt_lt {σ : List Root} {r : Nat} {p : List (Nat × Nat)} {n : Nat × List AV} (h : nodeAt σ r p = some n) : r < σ.length := by
  rcases Nat.lt_or_ge r σ.length with h1 | h1
  · exact h1
  · unfold nodeAt at h
    rw [List.getD_eq_getElem?_getD, List.getElem?_eq_none h1] at h
    cases h
theorem Kp.trans {a b c : Cx} (h : Kp a b) (k : Kp b c) : Kp a c := by
  refine ⟨h.toGr.trans k.toGr, Nat.le_trans h.len k.len, fun r hr hd => k.D r (Nat.lt_of_lt_of_le hr h.len) (h.D r hr hd), ?_, ?_, fun r mv f nest e es hr hc => ?_⟩
  · intro r p te es' hr hd hn
    obtain ⟨es1, h1, h2, h3⟩ := k.nd r p te es' (Nat.lt_of_lt_of_le hr h.len) (h.D r hr hd) hn
    obtain ⟨es, h4, h5, h6⟩ := h.nd r p te es1 hr hd h1
    exact ⟨es, h4, h5.trans h2, h3.trans h6⟩
  · intro r p te es b0 cs el n' hr hd hn hn' hj hh
    obtain ⟨te', es'⟩ := n'
    obtain ⟨es1, h1, _, h3⟩ := k.nd r p te' es' (Nat.lt_of_lt_of_le hr h.len) (h.D r hr hd) hn'
    obtain ⟨es0, h4, _, h6⟩ := h.nd r p te' es1 hr hd h1
    obtain ⟨cs1, h7, h8⟩ := h.blk r p te es b0 cs el _ hr hd hn h1 hj hh
    obtain ⟨cs2, h9, h10⟩ := k.blk r p te' es1 b0 cs1 el _ (Nat.lt_of_lt_of_le hr h.len) (h.D r hr hd) h1 hn' (h6.trans hj) h7
    exact ⟨cs2, h9, h10.trans h8⟩
  · obtain ⟨mv1, nest1, e1, es1, h1⟩ := k.rf r mv f nest e es (Nat.lt_of_lt_of_le hr h.len) hc
    exact h.rf r mv1 f nest1 e1 es1 hr h1
theorem SlR.kp {c c' : Cx} (k : Kp c c') {r : Nat} {p : List (Nat × Nat)} {te : Nat} {es : List AV} {win : Option (Nat × Nat)} {v : Value} {n' : Nat × List AV} (hr : r < c.σ.length) (hd : c.D r) (hn : nodeAt c.σ r p = some (te, es)) (hn' : nodeAt c'.σ r p = some n')
    (h : SlR P c.w (c.j r p) te es.length win v) : SlR P c'.w (c.j r p) te es.length win v := by
  cases hj : c.j r p with
  | none => rw [hj] at h; exact h
  | some b =>
    rw [hj] at h
    obtain ⟨cap, cs, h1, h2, h3⟩ := h
    obtain ⟨cs', h4, h5⟩ := k.blk r p te es b cs te n' hr hd hn hn' hj h1
    exact ⟨cap, cs', h4, h5.trans h2, h3⟩
theorem V.kp {c c' : Cx} (k : Kp c c') {a : AV} {v : Value} (h : V P c a v) : V P c' a v := by
  induction h with
  | vi h => exact .vi (h.gr k.toGr)
  | sl r p win v hr hd h =>
    refine .sl r p win v (Nat.lt_of_lt_of_le hr k.len) (k.D r hr hd) fun te es' hn => ?_
    obtain ⟨es, h1, h2, h3⟩ := k.nd r p te es' hr hd hn
    rw [h3, ← h2]
    exact SlR.kp P k hr hd h1 hn (h te es h1)
  | pt r p m k' v hr hd h h' =>
    refine .pt r p m k' v (Nat.lt_of_lt_of_le hr k.len) (k.D r hr hd) (fun te es' hn => ?_) fun te es' hp hn => ?_
    · obtain ⟨es, h1, h2, h3⟩ := k.nd r p te es' hr hd hn
      rw [h3, ← h2]
      exact h te es h1
    · obtain ⟨es, h1, _, h3⟩ := k.nd r [] te es' hr hd hn
      rw [h3]
      exact h' te es hp h1
  | agg cs vs hl _ ih => exact .agg cs vs hl ih
  | tup cs vs hl _ ih => exact .tup cs vs hl ih
  | fn g cs vs hl _ ih => exact .fn g cs vs hl ih

/-! The relation of temporaries. -/
def Tm (c : Cx) (t : List AV) (tmps : Array Value) : Prop := t.length ≤ tmps.size ∧ ∀ i a, t[i]? = some a → V P c a (tmps.getD i undef)
theorem Tm.kp {c c' : Cx} (k : Kp c c') {t : List AV} {tmps : Array Value} (h : Tm P c t tmps) : Tm P c' t tmps := ⟨h.1, fun i a ha => (h.2 i a ha).kp P k⟩
theorem Tm.set {c : Cx} {t : List AV} {tmps : Array Value} (h : Tm P c t tmps) (d : Nat) {a : AV} {v : Value} (hv : V P c a v) : Tm P c (t.set d a) (tmps.setIfInBounds d v) := by
  refine ⟨by simpa using h.1, fun i a' ha => ?_⟩
  rw [List.getElem?_set] at ha
  by_cases hid : d = i
  · subst hid
    by_cases hlt : d < t.length
    · rw [if_pos rfl, if_pos hlt] at ha
      cases ha
      have : d < tmps.size := Nat.lt_of_lt_of_le hlt h.1
      simpa [Array.getElem?_setIfInBounds_self_of_lt, this] using hv
    · rw [if_pos rfl, if_neg hlt] at ha
      cases ha
  · rw [if_neg hid] at ha
    have := h.2 i a' ha
    simpa [Array.getElem?_setIfInBounds_ne hid] using this
theorem Tm.put {c : Cx} {st : St} {a : Act} (h : Tm P c st.t a.tmps) (d : Option Tmp) {xv : AV} {v : Value} (hv : V P c xv v) : Tm P c (st.put d xv).t (a.put d v).tmps := by
  cases d with
  | none => exact h
  | some d => exact h.set P d hv
theorem Tm.at_ {c : Cx} {t : List AV} {tmps : Array Value} (h : Tm P c t tmps) (i : Nat) : V P c (t.getD i .x) (tmps.getD i undef) := by
  rw [List.getD_eq_getElem?_getD]
  cases hi : t[i]? with
  | none => exact .vi (.x _)
  | some a => exact h.2 i a hi
theorem ofV_ok (N : Nat → Prop) (w : World) (v : Value) : VI N w (ofV v) v := by
  unfold ofV
  split
  · exact .i _ _
  · exact .b _
  · exact .s _
  · exact .nils none
  · exact .nilp
  · exact .x _
theorem Tm.ev {c : Cx} {st : St} {a : Act} (h : Tm P c st.t a.tmps) (x : Operand) : V P c (st.ev x) (a.eval x) := by
  cases x with
  | tmp t => exact h.at_ P t
  | const v => exact .vi (ofV_ok _ _ v)
  | global g => exact .vi (.x _)
  | func f => exact .vi (.fn f [] [] rfl fun _ _ _ h => by simp at h)
end Go.Proofs.YtkicholhkoahhaaIT
