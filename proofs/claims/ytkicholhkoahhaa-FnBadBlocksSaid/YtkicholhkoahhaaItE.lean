/- Memory behind an append: a root grows, what referred to it is struck. No condition beyond what each theorem states. -/
import Derived.Test.YtkicholhkoahhaaItD
namespace Go.Proofs.YtkicholhkoahhaaIT
open Go
variable (P : Program)

theorem killL_get (r : Nat) (l : List AV) (i : Nat) : (killL r l)[i]? = (l[i]?).map (kill r) := by
  induction l generalizing i with
  | nil => simp [killL]
  | cons a l ih => cases i <;> simp [killL, ih]
theorem killL_length (r : Nat) (l : List AV) : (killL r l).length = l.length := by
  induction l with
  | nil => rfl
  | cons a l ih => simp [killL, ih]
theorem kill_cells (r : Nat) (a : AV) : (kill r a).cells = killL r a.cells := by
  cases a with
  | sl r' p w => by_cases h : r' = r <;> simp [kill, AV.cells, killL, h]
  | pt r' p m k => by_cases h : r' = r <;> simp [kill, AV.cells, killL, h]
  | _ => rfl
theorem kill_nw (r : Nat) (a : AV) (te : Nat) (es : List AV) : kill r a = .nw te es ↔ a = .nw te es := by
  cases a <;> simp only [kill, reduceCtorEq] <;> split <;> simp

theorem VI.kill_eq {N : Nat → Prop} {w : World} {a : AV} {v : Value} (r : Nat) (h : VI N w a v) : kill r a = a := by
  have lst : ∀ (cs : List AV) (vs : List Value), cs.length = vs.length → (∀ (t : Nat) (y : AV) (v : Value), cs[t]? = some y → vs[t]? = some v → kill r y = y) → killL r cs = cs := by
    intro cs vs hl hk
    apply List.ext_getElem?
    intro i
    rw [killL_get]
    cases hc : cs[i]? with
    | none => rfl
    | some y =>
      have hi : i < vs.length := by rw [← hl]; exact (List.getElem?_eq_some_iff.1 hc).1
      simp [hk i y _ hc (List.getElem?_eq_getElem hi)]
  induction h with
  | agg cs vs hl _ ih => simp only [kill, lst cs vs hl ih]
  | tup cs vs hl _ ih => simp only [kill, lst cs vs hl ih]
  | fn g cs vs hl _ ih => simp only [kill, lst cs vs hl ih]
  | _ => rfl

/-- What is told of a row that may grow. -/
def RwOk (c c' : Cx) (r te : Nat) (es' : List AV) : Prop := ∃ mv nest es, c.σ.getD r .dead = .live mv false nest te es ∧ es.length ≤ es'.length ∧
  (es.length = es'.length → c'.j r [] = c.j r [] ∧ ∀ b cs el, c.j r [] = some b → c.w.heap[b]? = some (.cells cs el (0, 0)) → ∃ cs', c'.w.heap[b]? = some (.cells cs' el (0, 0)) ∧ cs'.size = cs.size)
/-- As Kp, but for one root. -/
structure Kx (r0 : Nat) (c c' : Cx) : Prop extends Gr c c' where
  len : c.σ.length ≤ c'.σ.length
  D : ∀ r, r < c.σ.length → c.D r → c'.D r
  nd : ∀ r p te es', r ≠ r0 → r < c.σ.length → c.D r → nodeAt c'.σ r p = some (te, es') → ∃ es, nodeAt c.σ r p = some (te, es) ∧ es.length = es'.length ∧ c'.j r p = c.j r p
  blk : ∀ r p te es b cs el n', r ≠ r0 → r < c.σ.length → c.D r → nodeAt c.σ r p = some (te, es) → nodeAt c'.σ r p = some n' → c.j r p = some b → c.w.heap[b]? = some (.cells cs el (0, 0)) →
    ∃ cs', c'.w.heap[b]? = some (.cells cs' el (0, 0)) ∧ cs'.size = cs.size
  rf : ∀ r mv f nest e es, r < c.σ.length → c'.σ.getD r .dead = .live mv f nest e es → ∃ mv' nest' e' es', c.σ.getD r .dead = .live mv' f nest' e' es'
  row : ∀ mv f nest e es, c.σ.getD r0 .dead = .live mv f nest e es → f = false
  grow : ∀ mv nest te es', c.D r0 → c'.σ.getD r0 .dead = .live mv false nest te es' → RwOk c c' r0 te es'
theorem SlR.kx {r0 : Nat} {c c' : Cx} (k : Kx r0 c c') {r : Nat} {p : List (Nat × Nat)} {te : Nat} {es : List AV} {win : Option (Nat × Nat)} {v : Value} {n' : Nat × List AV} (h0 : r ≠ r0) (hr : r < c.σ.length) (hd : c.D r) (hn : nodeAt c.σ r p = some (te, es)) (hn' : nodeAt c'.σ r p = some n')
    (h : SlR P c.w (c.j r p) te es.length win v) : SlR P c'.w (c.j r p) te es.length win v := by
  cases hj : c.j r p with
  | none => rw [hj] at h; exact h
  | some b =>
    rw [hj] at h
    obtain ⟨cap, cs, h1, h2, h3⟩ := h
    obtain ⟨cs', h4, h5⟩ := k.blk r p te es b cs te n' h0 hr hd hn hn' hj h1
    exact ⟨cap, cs', h4, h5.trans h2, h3⟩
theorem V.strike {r0 : Nat} {c c' : Cx} (k : Kx r0 c c') {a : AV} {v : Value} (h : V P c a v) : V P c' (kill r0 a) v := by
  have lst : ∀ (cs : List AV) (vs : List Value), (∀ (t : Nat) (y : AV) (v : Value), cs[t]? = some y → vs[t]? = some v → V P c' (kill r0 y) v) → ∀ (t : Nat) (y : AV) (v : Value), (killL r0 cs)[t]? = some y → vs[t]? = some v → V P c' y v := by
    intro cs vs ih t y v h1 h2
    rw [killL_get] at h1
    obtain ⟨y0, h3, rfl⟩ := Option.map_eq_some_iff.1 h1
    exact ih t y0 v h3 h2
  induction h with
  | vi h => rw [VI.kill_eq r0 h]; exact .vi (h.gr k.toGr)
  | sl r p win v hr hd h =>
    by_cases h0 : r = r0
    · simp only [kill, if_pos h0]; exact .vi (.x _)
    · simp only [kill, if_neg h0]
      refine .sl r p win v (Nat.lt_of_lt_of_le hr k.len) (k.D r hr hd) fun te es' hn => ?_
      obtain ⟨es, h1, h2, h3⟩ := k.nd r p te es' h0 hr hd hn
      rw [h3, ← h2]
      exact SlR.kx P k h0 hr hd h1 hn (h te es h1)
  | pt r p m k' v hr hd h h' =>
    by_cases h0 : r = r0
    · simp only [kill, if_pos h0]; exact .vi (.x _)
    · simp only [kill, if_neg h0]
      refine .pt r p m k' v (Nat.lt_of_lt_of_le hr k.len) (k.D r hr hd) (fun te es' hn => ?_) fun te es' hp hn => ?_
      · obtain ⟨es, h1, h2, h3⟩ := k.nd r p te es' h0 hr hd hn
        rw [h3, ← h2]
        exact h te es h1
      · obtain ⟨es, h1, _, h3⟩ := k.nd r [] te es' h0 hr hd hn
        rw [h3]
        exact h' te es hp h1
  | agg cs vs hl _ ih => exact .agg _ vs (by rw [killL_length]; exact hl) (lst cs vs ih)
  | tup cs vs hl _ ih => exact .tup _ vs (by rw [killL_length]; exact hl) (lst cs vs ih)
  | fn g cs vs hl _ ih => exact .fn g _ vs (by rw [killL_length]; exact hl) (lst cs vs ih)
theorem Tm.strike {r0 : Nat} {c c' : Cx} (k : Kx r0 c c') {t : List AV} {tmps : Array Value} (h : Tm P c t tmps) : Tm P c' (killL r0 t) tmps := by
  refine ⟨by rw [killL_length]; exact h.1, fun i a ha => ?_⟩
  rw [killL_get] at ha
  obtain ⟨a0, h1, rfl⟩ := Option.map_eq_some_iff.1 ha
  exact (h.2 i a0 h1).strike P k

def Cx.app (c : Cx) (r : Nat) (ro : Root) (jb : Option Nat) (w' : World) : Cx :=
  ⟨(c.σ.set r ro).map (killRoot r), fun r' p => if r' = r ∧ p = [] then jb else c.j r' p, w', c.D, c.F⟩

theorem getD_map_kill (σ : List Root) (r r' : Nat) : (σ.map (killRoot r)).getD r' .dead = killRoot r (σ.getD r' .dead) := by
  simp only [List.getD_eq_getElem?_getD, List.getElem?_map]
  cases σ[r']? <;> rfl
theorem nodeOf_killL (r e : Nat) (es : List AV) (m k : Nat) (p : List (Nat × Nat)) : nodeOf e (killL r es) ((m, k) :: p) = nodeOf e es ((m, k) :: p) := by
  simp only [nodeOf, killL_get]
  cases es[m]? with
  | none => rfl
  | some el =>
    simp only [Option.map_some]
    rw [kill_cells, killL_get]
    cases hc : el.cells[k]? with
    | none => rfl
    | some c =>
      simp only [Option.map_some]
      cases c with
      | sl r' p' w => by_cases h : r' = r <;> simp [kill, h]
      | pt r' p' m' k' => by_cases h : r' = r <;> simp [kill, h]
      | _ => rfl
/-- What a node of another root is behind the strike. -/
theorem nodeAt_app {σ : List Root} {r r' : Nat} {ro : Root} {p : List (Nat × Nat)} {te : Nat} {es' : List AV} (hne : r' ≠ r) (h : nodeAt ((σ.set r ro).map (killRoot r)) r' p = some (te, es')) :
    ∃ es, nodeAt σ r' p = some (te, es) ∧ es' = if litAt σ r' p then killL r es else es := by
  unfold nodeAt at h ⊢
  rw [getD_map_kill, getD_set_ne _ _ _ _ _ (Ne.symm hne)] at h
  unfold litAt
  cases hr : σ.getD r' .dead with
  | dead => rw [hr] at h; cases h
  | live mv rf nest e es =>
    rw [hr] at h
    cases rf with
    | false => simp only [killRoot, Root.node] at h ⊢; exact ⟨es', h, by simp⟩
    | true =>
      simp only [killRoot, Root.node] at h ⊢
      cases p with
      | nil =>
        simp only [nodeOf, Option.some.injEq, Prod.mk.injEq] at h ⊢
        obtain ⟨rfl, rfl⟩ := h
        exact ⟨es, ⟨rfl, rfl⟩, by simp⟩
      | cons mk p =>
        obtain ⟨m, k⟩ := mk
        rw [nodeOf_killL] at h
        exact ⟨es', h, by simp⟩

theorem kx_app {c : Cx} {r : Nat} {mv nest : Bool} {te : Nat} {es : List AV} (hm : Mem P c) (hr : c.σ.getD r .dead = .live mv false nest te es) (hd : c.D r) (mv' : Bool) (te' : Nat) (es' : List AV) (hf : Flat es') (jb : Option Nat) (w' : World)
    (hw : But c.w w' (c.j r [])) (hjb : jb = c.j r [] ∨ ∀ b, jb = some b → c.w.heap.size ≤ b) (hgw : te' = te ∧ es.length ≤ es'.length ∧ (es.length = es'.length → jb = c.j r [] ∧ w' = c.w)) : Kx r c (c.app r (.live mv' false nest te' es') jb w') := by
  have hrl := lt_of_live hr
  have hn0 := nodeAt_live hr
  have hnew : ∀ p n, nodeAt ((c.σ.set r (.live mv' false nest te' es')).map (killRoot r)) r p = some n → p = [] ∧ n = (te', es') := fun p n h => by
    unfold nodeAt at h; rw [getD_map_kill, getD_set_eq _ _ _ _ hrl] at h; exact hf.node h
  refine ⟨⟨hw.os, hw.tape, hw.output, hw.size, fun b hb hn => hw.heap b hb fun h => hn ⟨r, [], _, hd, hn0, h⟩, ?_, rfl⟩, by simp [Cx.app], fun _ _ h => h, ?_, ?_, fun r1 mv1 f1 nest1 e1 es1 hr1 h1 => ?_, fun mv1 f1 nest1 e1 es1 h1 => by rw [hr] at h1; cases h1; rfl, fun mv1 nest1 te1 es1 _ h1 => ?_⟩
  rotate_left 4
  · simp only [Cx.app] at h1
    rw [getD_map_kill, getD_set_eq _ _ _ _ hrl] at h1
    simp only [killRoot] at h1
    cases h1
    obtain ⟨rfl, g1, g2⟩ := hgw
    refine ⟨_, _, _, hr, g1, fun g3 => ?_⟩
    obtain ⟨g4, g5⟩ := g2 g3
    refine ⟨?_, fun b cs el _ h => ⟨cs, ?_, rfl⟩⟩
    · simp only [Cx.app, and_self, if_true]
      exact g4
    · simp only [Cx.app]
      rw [g5]; exact h
  · rintro b ⟨r', p, n, hd', hn, hj⟩
    simp only [Cx.app] at hd' hn hj
    by_cases h : r' = r
    · subst h
      obtain ⟨rfl, _⟩ := hnew p n hn
      rw [if_pos ⟨rfl, rfl⟩] at hj
      rcases hjb with h1 | h1
      · exact .inl ⟨r', [], _, hd, hn0, h1.symm.trans hj⟩
      · exact .inr (h1 b hj)
    · rw [if_neg fun h1 => h h1.1] at hj
      obtain ⟨es0, h1, _⟩ := nodeAt_app h hn
      exact .inl ⟨r', p, _, hd', h1, hj⟩
  · intro r' p te1 es1 h _ hd' hn
    obtain ⟨es0, h1, h2⟩ := nodeAt_app h hn
    refine ⟨es0, h1, ?_, by simp only [Cx.app]; rw [if_neg fun h1 => h h1.1]⟩
    rw [h2]
    split
    · rw [killL_length]
    · rfl
  · intro r' p te1 es1 b cs el n' h _ hd' hn hn' hj hh
    refine ⟨cs, ?_, rfl⟩
    simp only [Cx.app]
    rw [hw.heap b (Cx.O_lt P hm ⟨r', p, _, hd', hn, hj⟩) fun h1 => h (hm.inj r' p r [] _ _ b hd' hd hn hn0 hj h1).1]
    exact hh
  · simp only [Cx.app] at h1
    rw [getD_map_kill] at h1
    by_cases h2 : r = r1
    · subst h2
      rw [getD_set_eq _ _ _ _ hrl] at h1
      simp only [killRoot] at h1
      cases h1
      exact ⟨_, _, _, _, hr⟩
    · rw [getD_set_ne _ _ _ _ _ h2] at h1
      cases h3 : c.σ.getD r1 .dead with
      | dead => rw [h3] at h1; simp [killRoot] at h1
      | live mv2 f2 nest2 e2 es2 =>
        rw [h3] at h1
        cases f2 <;> simp only [killRoot] at h1 <;> cases h1 <;> exact ⟨_, _, _, _, rfl⟩

theorem mem_app {c : Cx} {r : Nat} {mv nest : Bool} {te : Nat} {es : List AV} (hm : Mem P c) (hr : c.σ.getD r .dead = .live mv false nest te es) (hd : c.D r) (mv' : Bool) (te' : Nat) (es' : List AV) (hf : Flat es') (jb : Option Nat) (w' : World)
    (hw : But c.w w' (c.j r [])) (hjb : jb = c.j r [] ∨ ∀ b, jb = some b → c.w.heap.size ≤ b) (hgw : te' = te ∧ es.length ≤ es'.length ∧ (es.length = es'.length → jb = c.j r [] ∧ w' = c.w))
    (hnode : NodeR P (c.app r (.live mv' false nest te' es') jb w') r [] te' es') : Mem P (c.app r (.live mv' false nest te' es') jb w') := by
  have k := kx_app P hm hr hd mv' te' es' hf jb w' hw hjb hgw
  have hrl := lt_of_live hr
  have hn0 := nodeAt_live hr
  have hnew : ∀ p n, nodeAt ((c.σ.set r (.live mv' false nest te' es')).map (killRoot r)) r p = some n → p = [] ∧ n = (te', es') := fun p n h => by
    unfold nodeAt at h; rw [getD_map_kill, getD_set_eq _ _ _ _ hrl] at h; exact hf.node h
  have hlit : ∀ r' p, r' ≠ r → litAt ((c.σ.set r (.live mv' false nest te' es')).map (killRoot r)) r' p = litAt c.σ r' p := fun r' p h => by
    unfold litAt
    rw [getD_map_kill, getD_set_ne _ _ _ _ _ (Ne.symm h)]
    cases c.σ.getD r' .dead with
    | dead => rfl
    | live mv rf nest e es => cases rf <;> rfl
  refine ⟨?_, ?_, ?_, out_gr hm.out k.toGr⟩
  · intro r' mv1 rf1 te1 es1 h
    simp only [Cx.app] at h
    rw [getD_map_kill] at h
    by_cases h1 : r = r'
    · subst h1; rw [getD_set_eq _ _ _ _ hrl] at h; simp only [killRoot] at h; cases h; exact hf
    · rw [getD_set_ne _ _ _ _ _ h1] at h
      cases hr' : c.σ.getD r' .dead with
      | dead => rw [hr'] at h; cases h
      | live mv2 rf2 nest2 te2 es2 =>
        rw [hr'] at h
        cases rf2 with
        | false => simp only [killRoot] at h; cases h; exact hm.flat r' _ _ _ _ hr'
        | true =>
          simp only [killRoot] at h
          cases h
          intro m el t te' es' h3 h4
          rw [killL_get] at h3
          obtain ⟨el0, h5, rfl⟩ := Option.map_eq_some_iff.1 h3
          rw [kill_cells, killL_get] at h4
          obtain ⟨y0, h6, h7⟩ := Option.map_eq_some_iff.1 h4
          exact hm.flat r' _ _ _ _ hr' m el0 t te' es' h5 (by rw [h6, (kill_nw r y0 te' es').1 h7])
  · intro r' p te1 es1 hd' hn
    by_cases h : r' = r
    · subst h
      obtain ⟨rfl, h2⟩ := hnew p _ hn
      cases h2
      exact hnode
    · have hlt' : r' < c.σ.length := by have := nodeAt_lt hn; simpa [Cx.app] using this
      obtain ⟨es0, h1, h2⟩ := nodeAt_app h hn
      have hj : (c.app r (.live mv' false nest te' es') jb w').j r' p = c.j r' p := by simp only [Cx.app]; rw [if_neg fun h1 => h h1.1]
      rcases hm.node r' p te1 es0 hd' h1 with ⟨h3, h4⟩ | ⟨hne, b, cs, cap, h3, h4, h5, h6, h7, h8⟩ | ⟨h3, h4, h5, b, ents, clock, ks, h6, h7, h8⟩
      · refine .inl ⟨?_, hj.trans h4⟩
        rw [h2, h3]; split <;> rfl
      rotate_left
      · have hb : (c.app r (.live mv' false nest te' es') jb w').w.heap[b]? = c.w.heap[b]? :=
          hw.heap b (Cx.O_lt P hm ⟨r', p, _, hd', h1, h6⟩) fun h9 => h (hm.inj r' p r [] _ _ b hd' hd h1 hn0 h6 h9).1
        refine .inr (.inr ⟨h3, h4, (hlit r' p h).trans h5, b, ents, clock, ks, hj.trans h6, hb.trans h7, ?_⟩)
        rw [h2, h5]
        simpa using h8
      · have hb : (c.app r (.live mv' false nest te' es') jb w').w.heap[b]? = c.w.heap[b]? :=
          hw.heap b (Cx.O_lt P hm ⟨r', p, _, hd', h1, h3⟩) fun h9 => h (hm.inj r' p r [] _ _ b hd' hd h1 hn0 h3 h9).1
        have hlen : es1.length = es0.length := by rw [h2]; split <;> simp [killL_length]
        refine .inr (.inl ⟨hne, b, cs, cap, hj.trans h3, hb.trans h4, h5, by rw [hlen]; exact h6, h7, fun m el hel => ?_⟩)
        -- the element as it was
        have hel0 : ∃ el0, es0[m]? = some el0 ∧ el = if litAt c.σ r' p then kill r el0 else el0 := by
          rw [h2] at hel
          split at hel
          · rename_i hl
            rw [killL_get] at hel
            obtain ⟨el0, h9, rfl⟩ := Option.map_eq_some_iff.1 hel
            exact ⟨el0, h9, by rw [if_pos hl]⟩
          · rename_i hl
            exact ⟨el, hel, by rw [if_neg hl]⟩
        obtain ⟨el0, h9, h10⟩ := hel0
        obtain ⟨h11, h12⟩ := h8 m el0 h9
        refine ⟨?_, fun t y hy => ?_⟩
        · rw [h10]; split
          · rw [kill_cells, killL_length]; exact h11
          · exact h11
        · have hy0 : ∃ y0, el0.cells[t]? = some y0 ∧ y = if litAt c.σ r' p then kill r y0 else y0 := by
            rw [h10] at hy
            split at hy
            · rename_i hl
              rw [kill_cells, killL_get] at hy
              obtain ⟨y0, h13, rfl⟩ := Option.map_eq_some_iff.1 hy
              exact ⟨y0, h13, by rw [if_pos hl]⟩
            · rename_i hl
              exact ⟨y, hy, by rw [if_neg hl]⟩
          obtain ⟨y0, h13, h14⟩ := hy0
          obtain ⟨v, h15, h16, h17⟩ := h12 t y0 h13
          refine ⟨v, h15, h16, ?_⟩
          unfold CellR at h17 ⊢
          have hlt : litAt (c.app r (.live mv' false nest te' es') jb w').σ r' p = litAt c.σ r' p := hlit r' p h
          by_cases hnw : ∃ te2 es2, y0 = .nw te2 es2
          · obtain ⟨te2, es2, rfl⟩ := hnw
            have hy2 : y = .nw te2 es2 := by rw [h14]; split <;> rfl
            subst hy2
            simp only at h17 ⊢
            have hn2 := nodeAt_nested h1 h9 h13
            have hn3 : nodeAt (c.app r (.live mv' false nest te' es') jb w').σ r' (p ++ [(m, t)]) = some (te2, es2) := nodeAt_nested hn hel hy
            obtain ⟨_, _, _, h18⟩ := k.nd r' _ te2 es2 h hlt' hd' hn3
            rw [h18]
            exact SlR.kx P k h hlt' hd' hn2 hn3 h17
          · have hnw' : ∀ te2 es2, y ≠ .nw te2 es2 := by
              intro te2 es2 he
              rw [h14] at he
              split at he
              · exact hnw ⟨te2, es2, (kill_nw r y0 te2 es2).1 he⟩
              · exact hnw ⟨te2, es2, he⟩
            have g17 : if litAt c.σ r' p then V P c y0 v else VI c.N c.w y0 v := by
              cases y0 <;> first | exact h17 | exact (hnw ⟨_, _, rfl⟩).elim
            have goal : if litAt (c.app r (.live mv' false nest te' es') jb w').σ r' p then V P (c.app r (.live mv' false nest te' es') jb w') y v else VI (c.app r (.live mv' false nest te' es') jb w').N (c.app r (.live mv' false nest te' es') jb w').w y v := by
              rw [hlt]
              split
              · rename_i hl; rw [if_pos hl] at g17 h14; rw [h14]; exact g17.strike P k
              · rename_i hl; rw [if_neg hl] at g17 h14; rw [h14]; exact g17.gr k.toGr
            cases y <;> first | exact goal | exact (hnw' _ _ rfl).elim
  · intro r1 p1 r2 p2 n1 n2 b hd1 hd2 hn1 hn2 hj1 hj2
    simp only [Cx.app] at hd1 hd2 hn1 hn2 hj1 hj2
    by_cases h1 : r1 = r <;> by_cases h2 : r2 = r
    · subst h1; subst h2
      exact ⟨rfl, (hnew p1 _ hn1).1.trans (hnew p2 _ hn2).1.symm⟩
    · subst h1
      obtain ⟨rfl, _⟩ := hnew p1 _ hn1
      rw [if_pos ⟨rfl, rfl⟩] at hj1
      rw [if_neg fun h => h2 h.1] at hj2
      obtain ⟨es0, h3, _⟩ := nodeAt_app h2 (te := n2.1) (es' := n2.2) hn2
      rcases hjb with h4 | h4
      · exact hm.inj _ _ _ _ _ _ b hd hd2 hn0 h3 (h4.symm.trans hj1) hj2
      · have := h4 b hj1
        have := Cx.O_lt P hm ⟨r2, p2, _, hd2, h3, hj2⟩
        omega
    · subst h2
      obtain ⟨rfl, _⟩ := hnew p2 _ hn2
      rw [if_pos ⟨rfl, rfl⟩] at hj2
      rw [if_neg fun h => h1 h.1] at hj1
      obtain ⟨es0, h3, _⟩ := nodeAt_app h1 (te := n1.1) (es' := n1.2) hn1
      rcases hjb with h4 | h4
      · exact hm.inj _ _ _ _ _ _ b hd1 hd h3 hn0 hj1 (h4.symm.trans hj2)
      · have := h4 b hj2
        have := Cx.O_lt P hm ⟨r1, p1, _, hd1, h3, hj1⟩
        omega
    · rw [if_neg fun h => h1 h.1] at hj1
      rw [if_neg fun h => h2 h.1] at hj2
      obtain ⟨e1, h3, _⟩ := nodeAt_app h1 (te := n1.1) (es' := n1.2) hn1
      obtain ⟨e2, h4, _⟩ := nodeAt_app h2 (te := n2.1) (es' := n2.2) hn2
      exact hm.inj _ _ _ _ _ _ b hd1 hd2 h3 h4 hj1 hj2

/-- What a call leaves of variables that it is handed; what is gone stays gone. -/
structure KV (c c' : Cx) : Prop where
  len : c.σ.length ≤ c'.σ.length
  D : ∀ r, r < c.σ.length → c.D r → c'.D r
  nd : ∀ r p te es', r < c.σ.length → isVar (c.σ.getD r .dead) = true → c.D r → nodeAt c'.σ r p = some (te, es') → ∃ es, nodeAt c.σ r p = some (te, es) ∧ es.length = es'.length ∧ c'.j r p = c.j r p
  blk : ∀ r p te es b cs el n', r < c.σ.length → isVar (c.σ.getD r .dead) = true → c.D r → nodeAt c.σ r p = some (te, es) → nodeAt c'.σ r p = some n' → c.j r p = some b → c.w.heap[b]? = some (.cells cs el (0, 0)) →
    ∃ cs', c'.w.heap[b]? = some (.cells cs' el (0, 0)) ∧ cs'.size = cs.size
  rf : ∀ r mv f nest e es, r < c.σ.length → c'.σ.getD r .dead = .live mv f nest e es → ∃ mv' nest' e' es', c.σ.getD r .dead = .live mv' f nest' e' es'
  rw : ∀ r mv nest te es', r < c.σ.length → c.D r → c'.σ.getD r .dead = .live mv false nest te es' → RwOk c c' r te es'
theorem KV.refl (c : Cx) : KV c c := ⟨Nat.le_refl _, fun _ _ h => h, fun _ _ _ es' _ _ _ h => ⟨es', h, rfl, rfl⟩, fun _ _ _ _ _ cs _ _ _ _ _ _ _ _ h => ⟨cs, h, rfl⟩, fun _ mv _ nest e es _ h => ⟨mv, nest, e, es, h⟩, fun _ mv nest _ es' _ _ h => ⟨mv, nest, es', h, Nat.le_refl _, fun _ => ⟨rfl, fun _ cs _ _ h => ⟨cs, h, rfl⟩⟩⟩⟩
theorem rw_of {c c' : Cx} {r : Nat} {mv nest : Bool} {te : Nat} {es' : List AV} (nd : ∀ te es', nodeAt c'.σ r [] = some (te, es') → ∃ es, nodeAt c.σ r [] = some (te, es) ∧ es.length = es'.length ∧ c'.j r [] = c.j r [])
    (blk : ∀ te es b cs el n', nodeAt c.σ r [] = some (te, es) → nodeAt c'.σ r [] = some n' → c.j r [] = some b → c.w.heap[b]? = some (.cells cs el (0, 0)) → ∃ cs', c'.w.heap[b]? = some (.cells cs' el (0, 0)) ∧ cs'.size = cs.size)
    (rf : ∀ mv f nest e es, c'.σ.getD r .dead = .live mv f nest e es → ∃ mv' nest' e' es', c.σ.getD r .dead = .live mv' f nest' e' es')
    (h : c'.σ.getD r .dead = .live mv false nest te es') : RwOk c c' r te es' := by
  obtain ⟨mv1, nest1, e1, es1, h1⟩ := rf _ _ _ _ _ h
  have hn' := nodeAt_live h
  obtain ⟨es, h2, h3, h4⟩ := nd _ _ hn'
  rw [nodeAt_live h1] at h2
  cases h2
  exact ⟨_, _, _, h1, Nat.le_of_eq h3, fun _ => ⟨h4, fun b cs el hj hh => blk _ _ b cs el _ (nodeAt_live h1) hn' hj hh⟩⟩
theorem Kp.kv {c c' : Cx} (k : Kp c c') : KV c c' := ⟨k.len, k.D, fun r p te es' h _ hd => k.nd r p te es' h hd, fun r p te es b cs el n' h _ hd => k.blk r p te es b cs el n' h hd, k.rf, fun r _ _ _ _ hr hd h => rw_of (fun te es' => k.nd r [] te es' hr hd) (fun te es b cs el n' => k.blk r [] te es b cs el n' hr hd) (fun mv f nest e es => k.rf r mv f nest e es hr) h⟩
theorem Kx.kv {r0 : Nat} {c c' : Cx} (k : Kx r0 c c') : KV c c' := by
  have hne : ∀ r, isVar (c.σ.getD r .dead) = true → r ≠ r0 := by
    rintro r h rfl
    cases hr : c.σ.getD r .dead with
    | dead => rw [hr] at h; cases h
    | live mv f nest e es =>
      rw [k.row _ _ _ _ _ hr] at hr
      rw [hr] at h; cases h
  refine ⟨k.len, k.D, fun r p te es' h hv hd => k.nd r p te es' (hne r hv) h hd, fun r p te es b cs el n' h hv hd => k.blk r p te es b cs el n' (hne r hv) h hd, k.rf, fun r mv nest te es' hr hd h => ?_⟩
  by_cases h0 : r = r0
  · subst h0; exact k.grow mv nest te es' hd h
  · exact rw_of (fun te es' => k.nd r [] te es' h0 hr hd) (fun te es b cs el n' => k.blk r [] te es b cs el n' h0 hr hd) (fun mv f nest e es => k.rf r mv f nest e es hr) h
theorem nodeAt_isLive {σ : List Root} {r : Nat} {p : List (Nat × Nat)} {n : Nat × List AV} (h : nodeAt σ r p = some n) : ∃ mv f nest e es, σ.getD r .dead = .live mv f nest e es := by
  unfold nodeAt at h
  cases hr : σ.getD r .dead with
  | dead => rw [hr] at h; cases h
  | live mv f nest e es => exact ⟨_, _, _, _, _, rfl⟩
theorem KV.var {c c' : Cx} (k : KV c c') {r : Nat} (hr : r < c.σ.length) (hv : isVar (c.σ.getD r .dead) = true) {mv f nest : Bool} {e : Nat} {es : List AV} (h : c'.σ.getD r .dead = .live mv f nest e es) : isVar (c'.σ.getD r .dead) = true := by
  obtain ⟨mv', nest', e', es', h1⟩ := k.rf r mv f nest e es hr h
  rw [h1] at hv
  cases f with
  | true => rw [h]; rfl
  | false => cases hv
theorem KV.trans {a b c : Cx} (h : KV a b) (k : KV b c) : KV a c := by
  have live : ∀ r p n, r < a.σ.length → isVar (a.σ.getD r .dead) = true → nodeAt c.σ r p = some n → isVar (b.σ.getD r .dead) = true := by
    intro r p n hr hv hn
    obtain ⟨mv, f, nest, e, es, h1⟩ := nodeAt_isLive hn
    obtain ⟨mv1, nest1, e1, es1, h2⟩ := k.rf r mv f nest e es (Nat.lt_of_lt_of_le hr h.len) h1
    exact h.var hr hv h2
  refine ⟨Nat.le_trans h.len k.len, fun r hr hd => k.D r (Nat.lt_of_lt_of_le hr h.len) (h.D r hr hd), ?_, ?_, ?_, ?_⟩
  rotate_left 3
  · intro r mv nest te es' hr hd hc
    obtain ⟨mv1, nest1, es1, h1, h2, h3⟩ := k.rw r mv nest te es' (Nat.lt_of_lt_of_le hr h.len) (h.D r hr hd) hc
    obtain ⟨mv0, nest0, es0, h4, h5, h6⟩ := h.rw r mv1 nest1 te es1 hr hd h1
    refine ⟨mv0, nest0, es0, h4, Nat.le_trans h5 h2, fun he => ?_⟩
    obtain ⟨g1, g2⟩ := h3 (by omega)
    obtain ⟨g3, g4⟩ := h6 (by omega)
    refine ⟨g1.trans g3, fun b cs el hj hh => ?_⟩
    obtain ⟨cs1, g5, g6⟩ := g4 b cs el hj hh
    obtain ⟨cs2, g7, g8⟩ := g2 b cs1 el (g3.trans hj) g5
    exact ⟨cs2, g7, g8.trans g6⟩
  · intro r p te es' hr hv hd hn
    have hvb := live r p _ hr hv hn
    obtain ⟨es1, h1, h2, h3⟩ := k.nd r p te es' (Nat.lt_of_lt_of_le hr h.len) hvb (h.D r hr hd) hn
    obtain ⟨es, h4, h5, h6⟩ := h.nd r p te es1 hr hv hd h1
    exact ⟨es, h4, h5.trans h2, h3.trans h6⟩
  · intro r p te es b0 cs el n' hr hv hd hn hn' hj hh
    have hvb := live r p _ hr hv hn'
    obtain ⟨te', es'⟩ := n'
    obtain ⟨es1, h1, _, h3⟩ := k.nd r p te' es' (Nat.lt_of_lt_of_le hr h.len) hvb (h.D r hr hd) hn'
    obtain ⟨es0, h4, _, h6⟩ := h.nd r p te' es1 hr hv hd h1
    obtain ⟨cs1, h7, h8⟩ := h.blk r p te es b0 cs el _ hr hv hd hn h1 hj hh
    obtain ⟨cs2, h9, h10⟩ := k.blk r p te' es1 b0 cs1 el _ (Nat.lt_of_lt_of_le hr h.len) hvb (h.D r hr hd) h1 hn' (h6.trans hj) h7
    exact ⟨cs2, h9, h10.trans h8⟩
  · intro r mv f nest e es hr hc
    obtain ⟨mv1, nest1, e1, es1, h1⟩ := k.rf r mv f nest e es (Nat.lt_of_lt_of_le hr h.len) hc
    exact h.rf r mv1 f nest1 e1 es1 hr h1

/-- How what a context tells is told in another, by new numbers. -/
structure Kf (z : Bool) (f : Nat → Option Nat) (c c' : Cx) : Prop where
  vi : ∀ (y : AV) (v : Value), (z = true → flatV y = true) → VI c.N c.w y v → VI c'.N c'.w y v
  D : ∀ r i, r < c.σ.length → c.D r → f r = some i → i < c'.σ.length ∧ c'.D i
  nd : ∀ r i p te es', r < c.σ.length → c.D r → f r = some i → nodeAt c'.σ i p = some (te, es') → ∃ es, nodeAt c.σ r p = some (te, es) ∧ es.length = es'.length ∧ c'.j i p = c.j r p
  blk : ∀ r i p te es b cs el n', r < c.σ.length → c.D r → f r = some i → nodeAt c.σ r p = some (te, es) → nodeAt c'.σ i p = some n' → c.j r p = some b → c.w.heap[b]? = some (.cells cs el (0, 0)) →
    ∃ cs', c'.w.heap[b]? = some (.cells cs' el (0, 0)) ∧ cs'.size = cs.size
end Go.Proofs.YtkicholhkoahhaaIT
