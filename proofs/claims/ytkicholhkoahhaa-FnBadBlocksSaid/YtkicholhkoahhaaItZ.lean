/- From what a row reads of its arguments to trees; from a call's answer to what a row asks. No condition beyond what each theorem states. -/
import Derived.Test.YtkicholhkoahhaaIt0
import Derived.ChangeArms
import Derived.DataReads
import Derived.WideShapes
import Derived.Deep.Slices
import Derived.Below
namespace Go.Proofs.YtkicholhkoahhaaIT
open Go Go.WideShapes Go.ChangeShapes Go.Deep Go.RowKit
variable {P : Program} {E : Env}

def leafEq : Sh → Sh → Bool
  | .i k, .i k' => decide (k = k')
  | .b, .b => true
  | .s, .s => true
  | .sl e z, .sl e' z' => decide (e = e') && decide (z = z')
  | _, _ => false
theorem leafEq_spec {a' b' : Sh} (h : leafEq a' b' = true) : a' = b' := by
  cases a' <;> cases b' <;> simp_all [leafEq]
def leavesEq : List Sh → List Sh → Bool
  | [], [] => true
  | x :: as, y :: bs => leafEq x y && leavesEq as bs
  | _, _ => false
theorem leavesEq_spec : ∀ {a b : List Sh}, leavesEq a b = true → a = b
  | [], [], _ => rfl
  | [], _ :: _, h => by cases h
  | _ :: _, [], h => by cases h
  | x :: as, y :: bs, h => by
    simp only [leavesEq, Bool.and_eq_true] at h
    rw [leafEq_spec h.1, leavesEq_spec h.2]

def argFlds (E : Env) (A : Nat → Bool) : Nat → List (Nat × Nat) → List Sh → Bool
  | _, [], l => l.isEmpty
  | off, d :: fs, l => match E.Γ d.2 with
    | some tf => decide (d.1 = off) && A d.2 && leavesEq (l.take tf.size) tf.sh.leaves && argFlds E A (off + tf.size) fs (l.drop tf.size)
    | none => false
/-- Types of arguments: whole numbers, bools, strings, structs and slices of them. -/
def argOk (E : Env) : Nat → Nat → Bool
  | 0, _ => false
  | d + 1, t => match E.Γ t with
    | some ti => match ti.sh with
      | .i _ | .b | .s => decide (ti.size = 1)
      | .sl e _ => decide (ti.size = 1) && argOk E d e && (E.Γ e).isSome
      | .agg l => argFlds E (argOk E d) 0 ti.flds l
      | _ => false
    | none => false

/-- What a cell of a leaf's shape may be. -/
inductive WL (E : Env) : Sh → AV → Prop
  | i (k : IntKind) (n : Int) : (Lit.int k n).wf = true → WL E (.i k) (.i k n)
  | b (y : Bool) : WL E .b (.b y)
  | s (y : ByteArray) : y.size ≤ 9223372036854775807 → WL E .s (.s y)
  | sl (e z : Nat) (es : List AV) (te : TI) : E.Γ e = some te → es.length ≤ 9223372036854775807 → (∀ el, el ∈ es → el = ofCells te.sh el.cells) → (∀ el, el ∈ es → el.cells.length = te.sh.leaves.length) →
      (∀ (el : AV) (k : Nat) (h : Sh) (c : AV), el ∈ es → te.sh.leaves[k]? = some h → el.cells[k]? = some c → WL E h c) → WL E (.sl e z) (.imm z es)
theorem WL.cells {h : Sh} {y : AV} (w : WL E h y) : y.cells = [y] := by cases w <;> rfl

/-- What the row reads of a value's cells. -/
def Opn (E : Env) (w : World) (l : List Sh) (cs : List Value) (ys : List AV) : Prop :=
  ys.length = l.length ∧ cs.length = l.length ∧ ∀ (k : Nat) (h : Sh) (y : AV) (v : Value), l[k]? = some h → ys[k]? = some y → cs[k]? = some v → WL E h y ∧ VI (fun _ => False) w y v ∧ v.oneCell' = true

theorem opn_one {w : World} {h : Sh} {y : AV} {v : Value} (h1 : WL E h y) (h2 : VI (fun _ => False) w y v) (h3 : v.oneCell' = true) : Opn E w [h] [v] [y] := by
  refine ⟨rfl, rfl, fun k h' y' v' g1 g2 g3 => ?_⟩
  cases k with
  | zero =>
    simp only [List.getElem?_cons_zero, Option.some.injEq] at g1 g2 g3
    subst g1 g2 g3
    exact ⟨h1, h2, h3⟩
  | succ k => simp at g1
theorem opn_append {w : World} {l l' : List Sh} {cs cs' : List Value} {ys ys' : List AV} (h : Opn E w l cs ys) (h' : Opn E w l' cs' ys') : Opn E w (l ++ l') (cs ++ cs') (ys ++ ys') := by
  obtain ⟨a1, a2, a3⟩ := h
  obtain ⟨b1, b2, b3⟩ := h'
  refine ⟨by simp [a1, b1], by simp [a2, b2], fun k h y v g1 g2 g3 => ?_⟩
  by_cases hk : k < l.length
  · rw [List.getElem?_append_left hk] at g1
    rw [List.getElem?_append_left (by omega)] at g2 g3
    exact a3 k h y v g1 g2 g3
  · rw [List.getElem?_append_right (by omega)] at g1 g2 g3
    rw [a1] at g2
    rw [a2] at g3
    exact b3 _ h y v g1 g2 g3

theorem opn_flds {H : Type} {enc : TypeId × Value → H} {w : World} {base : Nat} {sp : Nat → Bool} {held : Bool} {n : Nat} (hE : EnvOk P E) {A : Nat → Bool} {cs : List Value}
    (ih : ∀ (t : Nat) (ti : TI), A t = true → E.Γ t = some ti → ∀ (cs : List Value) (x : DataW H × List MemPlace), DataW.trod enc P w base sp held n t cs = some x → ∃ ys, Opn E w ti.sh.leaves cs ys) :
    ∀ (ds : List (Nat × Nat)) (off : Nat) (l : List Sh), argFlds E A off ds l = true → (∀ d, d ∈ ds → ∃ y : DataW H × List MemPlace, DataW.trod enc P w base sp held n d.2 ((cs.drop d.1).take (P.cellsOf d.2)) = some y) →
      ∃ ys, Opn E w l ((cs.drop off).take l.length) ys
  | [], off, l, h, _ => by
    have : l = [] := by simpa [argFlds] using h
    subst this
    exact ⟨[], rfl, by simp, fun k h y v g1 => by simp at g1⟩
  | d :: ds, off, l, h, hd => by
    simp only [argFlds] at h
    cases ht : E.Γ d.2 with
    | none => rw [ht] at h; cases h
    | some tf =>
      rw [ht] at h
      simp only [Bool.and_eq_true, decide_eq_true_eq] at h
      obtain ⟨⟨⟨h1, h2⟩, h3⟩, h4⟩ := h
      have h3 := leavesEq_spec h3
      obtain ⟨y, hy⟩ := hd d (by simp)
      obtain ⟨ys, hys⟩ := ih d.2 tf h2 ht _ _ hy
      obtain ⟨zs, hzs⟩ := opn_flds hE ih ds (off + tf.size) (l.drop tf.size) h4 fun d hd' => hd d (List.mem_cons_of_mem _ hd')
      refine ⟨ys ++ zs, ?_⟩
      have := opn_append hys hzs
      rw [← h3, List.take_append_drop] at this
      have hc := (hE.tyo ht).cells
      rw [hc, h1] at this
      have hlen : ((cs.drop off).take tf.size).length = tf.sh.leaves.length := by have := hys.2.1; rw [hc, h1] at this; exact this
      have hl : tf.sh.leaves.length = min tf.size l.length := by rw [← h3, List.length_take]
      have hsz : (cs.drop off).take l.length = (cs.drop off).take tf.size ++ (cs.drop (off + tf.size)).take (l.drop tf.size).length := by
        rw [← List.drop_drop, List.length_drop, ← List.take_add]
        by_cases hle : tf.size ≤ l.length
        · rw [Nat.add_sub_cancel' hle]
        · have h5 : l.length - tf.size = 0 := by omega
          rw [h5, Nat.add_zero]
          have h6 : (cs.drop off).length ≤ l.length := by
            rw [List.length_take] at hlen; omega
          rw [List.take_of_length_le h6, List.take_of_length_le (by omega)]
      rw [hsz]
      exact this

theorem open_ok (hE : EnvOk P E) {H : Type} {enc : TypeId × Value → H} {w : World} {base : Nat} {sp : Nat → Bool} {held : Bool} : ∀ (d t : Nat) (ti : TI), argOk E d t = true → E.Γ t = some ti →
    ∀ (fuel : Nat) (cs : List Value) (x : DataW H × List MemPlace), DataW.trod enc P w base sp held fuel t cs = some x → ∃ ys, Opn E w ti.sh.leaves cs ys
  | 0, t, ti, h, _ => by simp [argOk] at h
  | d + 1, t, ti, h, ht => by
    intro fuel cs x hx
    have hty := hE.tyo ht
    simp only [argOk, ht] at h
    obtain ⟨sh, sz, by_, el, fl⟩ := ti
    cases sh with
    | i k =>
      obtain ⟨n, rfl, _, hw⟩ := DataW.trod_int hty.und_i hx
      exact ⟨_, opn_one (.i k n hw) (.i k n) rfl⟩
    | b =>
      obtain ⟨b, rfl, _⟩ := DataW.trod_bool hty.und_b hx
      exact ⟨_, opn_one (.b b) (.b b) rfl⟩
    | s =>
      obtain ⟨s, rfl, _, hs⟩ := DataW.trod_string hty.und_s hx
      exact ⟨_, opn_one (.s s hs) (.s s) rfl⟩
    | sl e z =>
      simp only [Bool.and_eq_true, decide_eq_true_eq] at h
      obtain ⟨⟨h1, h2⟩, h3⟩ := h
      obtain ⟨te, hte⟩ := Option.isSome_iff_exists.1 h3
      obtain ⟨u1, _, u3⟩ := hty.und_sl
      rcases open_slice u1 hx with ⟨rfl, _⟩ | ⟨a, len, cap, m, n, D, Pl, rfl, hb, hl, hm, hmm, _, hx⟩
      · exact ⟨_, opn_one (.sl e z [] te hte (by simp) (by simp) (by simp) (by simp)) (.imm0 z none 0) rfl⟩
      · have hle : len ≤ m := by rw [hmm]; split <;> omega
        have hmax : cap ≤ 9223372036854775807 := hm
        have hcz : te.size = z := by rw [← (hE.tyo hte).cells]; exact u3
        have each : ∀ i : Fin len, ∃ ys cs', w.cells? base (a.add (i.1 * P.cellsOf e)) (P.cellsOf e) = some cs' ∧ Opn E w te.sh.leaves cs' ys := fun i => by
          obtain ⟨cs', h1, h4⟩ := hx i.1 (Nat.lt_of_lt_of_le i.2 hle)
          obtain ⟨ys, hys⟩ := open_ok hE d e te h2 hte n cs' _ h4
          exact ⟨ys, cs', h1, hys⟩
        obtain ⟨f, hf⟩ := Classical.axiomOfChoice each
        have hcells : ∀ i, (ofCells te.sh (f i)).cells = f i ∧ (ofCells te.sh (f i)).cells.length = te.sh.leaves.length := by
          intro i
          obtain ⟨cs', _, o1, o2, o3⟩ := hf i
          have : (ofCells te.sh (f i)).cells = f i := by
            cases hsh : te.sh with
            | agg l => rfl
            | _ =>
              rw [hsh] at o1 o2 o3
              simp only [Sh.leaves, List.length_cons, List.length_nil] at o1 o2 o3
              match hfi : f i, o1 with
              | [y], _ =>
                match cs', o2 with
                | [v], _ =>
                  have := (o3 0 _ y v rfl (by rw [hfi]; rfl) rfl).1
                  simp only [ofCells, List.headD_cons]
                  exact this.cells
          exact ⟨this, by rw [this]; exact o1⟩
        have hlen : (List.ofFn fun i => ofCells te.sh (f i)).length = len := List.length_ofFn
        have hget : ∀ (m : Nat) (el : AV), (List.ofFn fun i => ofCells te.sh (f i))[m]? = some el → ∃ h : m < len, el = ofCells te.sh (f ⟨m, h⟩) := by
          intro m el hm
          obtain ⟨g1, g2⟩ := List.getElem?_eq_some_iff.1 hm
          rw [List.getElem_ofFn] at g2
          exact ⟨by rwa [hlen] at g1, g2.symm⟩
        have hVI : VI (fun _ => False) w (.imm z (List.ofFn fun i => ofCells te.sh (f i))) (.slice (some a) len cap) := by
          have key : ∀ (m : Nat) (el : AV) (t : Nat) (y : AV), (List.ofFn fun i => ofCells te.sh (f i))[m]? = some el → el.cells[t]? = some y →
              ∃ v, w.cell? (a.add (m * z + t)) = some v ∧ v.oneCell' = true ∧ VI (fun _ => False) w y v := by
            intro m el t y hm hy
            obtain ⟨hml, rfl⟩ := hget m el hm
            obtain ⟨cs', k1, o1, o2, o3⟩ := hf ⟨m, hml⟩
            rw [(hcells _).1] at hy
            have htl : t < te.sh.leaves.length := by rw [← o1]; exact (List.getElem?_eq_some_iff.1 hy).1
            obtain ⟨_, c1, c2⟩ := World.cells?_some k1
            have hts : t < P.cellsOf e := by rw [← c1, o2]; exact htl
            have htc : t < cs'.length := by rw [o2]; exact htl
            obtain ⟨_, p2, p3⟩ := o3 t _ y _ (List.getElem?_eq_getElem htl) hy (List.getElem?_eq_getElem htc)
            refine ⟨_, ?_, p3, p2⟩
            rw [← u3, ← Deep.add_add, c2 t hts, List.getElem?_eq_getElem htc]
          by_cases hz : len = 0
          · subst hz
            have : (List.ofFn fun i : Fin 0 => ofCells te.sh (f i)) = [] := by simp
            rw [this]
            exact .imm0 z _ cap
          have hva := fun (m : Nat) (t : Nat) => (w.cell? (a.add (m * z + t))).getD undef
          have hblk : a.block < w.heap.size := by
            obtain ⟨cs', k1, o1, o2, o3⟩ := hf ⟨0, by omega⟩
            obtain ⟨_, c1, c2⟩ := World.cells?_some k1
            have hpos : 0 < P.cellsOf e := by
              obtain ⟨i, _, g1, g2, _, _, g3, _⟩ := (hE.tyo hte).info
              simp [Program.cellsOf, g1, g3]
            have hc0 := c2 0 hpos
            have hcl : 0 < cs'.length := by rw [c1]; exact hpos
            rw [List.getElem?_eq_getElem hcl] at hc0
            have := World.cell?_lt hc0
            rwa [add_block, add_block] at this
          have hcut : (List.ofFn fun i => ofCells te.sh (f i)).length = len := hlen
          have : VI (fun _ => False) w (.imm z (List.ofFn fun i => ofCells te.sh (f i))) (.slice (some a) (List.ofFn fun i => ofCells te.sh (f i)).length cap) := by
            refine .imm _ a cap z (fun m t => (w.cell? (a.add (m * z + t))).getD undef) (by rw [hlen]; exact hl) id hblk (fun m el hm => ?_) (fun m el t y hm hy => ?_) fun m el t y hm hy => ?_
            · obtain ⟨hml, rfl⟩ := hget m el hm
              rw [(hcells _).2]
              obtain ⟨cs', k1, o1, o2, o3⟩ := hf ⟨m, hml⟩
              obtain ⟨_, c1, _⟩ := World.cells?_some k1
              rw [← o2, c1, u3]
            · obtain ⟨v, g1, g2, _⟩ := key m el t y hm hy
              simp only [g1, Option.getD_some]
              exact ⟨trivial, g2⟩
            · obtain ⟨v, g1, _, g3⟩ := key m el t y hm hy
              simp only [g1, Option.getD_some]
              exact g3
          rw [hlen] at this
          exact this
        refine ⟨_, opn_one (.sl e z (List.ofFn fun i => ofCells te.sh (f i)) te hte (by rw [hlen]; omega) (fun el hel => ?_) (fun el hel => ?_) fun el k h c hel hk hc => ?_) hVI rfl⟩
        · obtain ⟨i, rfl⟩ := List.mem_ofFn.1 hel
          rw [(hcells i).1]
        · obtain ⟨i, rfl⟩ := List.mem_ofFn.1 hel
          exact (hcells i).2
        · obtain ⟨i, rfl⟩ := List.mem_ofFn.1 hel
          rw [(hcells i).1] at hc
          obtain ⟨cs', k1, o1, o2, o3⟩ := hf i
          have hkl := (List.getElem?_eq_some_iff.1 hk).1
          exact (o3 k h c _ hk hc (List.getElem?_eq_getElem (by rw [o2]; exact hkl))).1
    | agg l =>
      obtain ⟨fs, u1, u2, u3⟩ := hty.und_agg
      obtain ⟨xs, n, _, _, hlen, hxl, hx⟩ := DataW.trod_struct u1 hx
      obtain ⟨ys, hys⟩ := opn_flds (n := n) hE (fun t ti h1 h2 => open_ok hE d t ti h1 h2 n) fl 0 l h fun q hq => by
        obtain ⟨i, hi⟩ := List.getElem?_of_mem hq
        obtain ⟨f, g1, g2, g3⟩ := fldOk_get u3 hi
        have hi' : fs[i]? = some f := by rw [← Array.getElem?_toList]; exact g1
        have h1 := hx i f hi'
        have hlt : i < xs.length := by
          have := (Array.getElem?_eq_some_iff.1 hi').1
          omega
        rw [g2, g3] at h1
        exact ⟨xs[i], by rw [h1, List.getElem?_eq_getElem hlt]⟩
      refine ⟨ys, ?_⟩
      have hcl : cs.length = l.length := by rw [hlen, hty.cells, u2]
      rw [List.drop_zero, List.take_of_length_le (by omega)] at hys
      exact hys
    | _ => simp at h

/-! Arguments. -/
theorem arg_slice (hE : EnvOk P E) {d t e z sz by_ el : Nat} {fl : List (Nat × Nat)} (ha : argOk E d t = true) (ht : E.Γ t = some ⟨.sl e z, sz, by_, el, fl⟩) {H : Type} {enc : TypeId × Value → H} {w : World} {r : Reach} {b0 base : Nat} {sp : Nat → Bool} {held : Bool} {v : Value} {dd : DataW H} {ps : List MemPlace}
    (hv : Value.okWide P w r b0 t v) (h : DataW.Trod enc P w base sp held t v dd ps) : ∃ es, WL E (.sl e z) (.imm z es) ∧ VI (fun _ => False) w (.imm z es) v := by
  obtain ⟨a, len, cap, rfl⟩ := okWide_slice (hE.tyo ht).und_sl.1 hv
  obtain ⟨fuel, hf⟩ := h
  obtain ⟨ys, o1, o2, o3⟩ := open_ok hE d t _ ha ht fuel _ _ hf
  match ys, o1 with
  | [y], _ =>
    obtain ⟨g1, g2, _⟩ := o3 0 (.sl e z) y _ rfl rfl rfl
    cases g1 with
    | sl e z es te q1 q2 q3 q4 q5 => exact ⟨es, .sl e z es te q1 q2 q3 q4 q5, g2⟩
theorem arg_struct (hE : EnvOk P E) {d t sz by_ el : Nat} {l : List Sh} {fl : List (Nat × Nat)} (ha : argOk E d t = true) (ht : E.Γ t = some ⟨.agg l, sz, by_, el, fl⟩) {H : Type} {enc : TypeId × Value → H} {w : World} {r : Reach} {b0 base : Nat} {sp : Nat → Bool} {held : Bool} {v : Value} {dd : DataW H} {ps : List MemPlace}
    (hv : Value.okWide P w r b0 t v) (h : DataW.Trod enc P w base sp held t v dd ps) : ∃ ys, ys.length = l.length ∧ (∀ (k : Nat) (h : Sh) (y : AV), l[k]? = some h → ys[k]? = some y → WL E h y) ∧ VI (fun _ => False) w (.agg ys) v := by
  obtain ⟨fs, u1, _⟩ := (hE.tyo ht).und_agg
  obtain ⟨cs, rfl, _⟩ := okWide_struct u1 hv
  obtain ⟨fuel, hf⟩ := h
  obtain ⟨ys, o1, o2, o3⟩ := open_ok hE d t _ ha ht fuel _ _ hf
  simp only [Sh.leaves] at o1 o2 o3
  have hc : (Value.agg cs).cells.toList = cs.toList := by simp [Value.cells]
  rw [hc] at o2 o3
  refine ⟨ys, o1, fun k h y hk hy => ?_, ?_⟩
  · have hkl := (List.getElem?_eq_some_iff.1 hk).1
    exact (o3 k h y _ hk hy (List.getElem?_eq_getElem (by rw [o2]; exact hkl))).1
  · have : VI (fun _ => False) w (.agg ys) (.agg cs.toList.toArray) := .agg ys cs.toList (by rw [o1, o2]) fun k y v hy hv => by
      have hkl : k < l.length := by rw [← o1]; exact (List.getElem?_eq_some_iff.1 hy).1
      exact (o3 k _ y v (List.getElem?_eq_getElem hkl) hy hv).2.1
    simpa using this

/-- Values beside trees. -/
inductive VIs (w : World) : List AV → List Value → Prop
  | nil : VIs w [] []
  | cons {y : AV} {v : Value} {ys : List AV} {vs : List Value} : VI (fun _ => False) w y v → VIs w ys vs → VIs w (y :: ys) (v :: vs)
theorem VIs.spec {w : World} {ys : List AV} {vs : List Value} (h : VIs w ys vs) : ys.length = vs.length ∧ ∀ (t : Nat) (y : AV) (v : Value), ys[t]? = some y → vs[t]? = some v → VI (fun _ => False) w y v := by
  induction h with
  | nil => exact ⟨rfl, fun t y v h => by simp at h⟩
  | cons h1 _ ih =>
    refine ⟨by simp [ih.1], fun t y v h h' => ?_⟩
    cases t with
    | zero => simp only [List.getElem?_cons_zero, Option.some.injEq] at h h'; subst h h'; exact h1
    | succ t => exact ih.2 t y v (by simpa using h) (by simpa using h')

theorem row_ok (hE : EnvOk P E) {g : Nat} {fi : FI} (hfi : E.Φ g = some fi) {args : List AV} {vs : List Value} {W : World} (hd : den E g args [] = some (.b true)) (hv : VIs W args vs) :
    Calls P g vs.toArray W fun e W' => e = .returned (.bool true) ∧ Below W.heap.size W W' := by
  refine ((den_cal hE).p g args _ hd fi hfi (fun _ => False) W vs (fun _ h => h.elim) hv.spec.1 hv.spec.2).mono ?_
  rintro e W' ⟨z, rfl, hs, hz⟩
  cases hz
  exact ⟨rfl, hs.os, hs.tape, hs.output, hs.size, fun b hb => hs.heap b hb⟩
end Go.Proofs.YtkicholhkoahhaaIT
