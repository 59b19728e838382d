/- What memory is behind a new root, a root that is given up, a store into a root. No condition beyond what each theorem states. -/
import Derived.Test.YtkicholhkoahhaaItC
namespace Go.Proofs.YtkicholhkoahhaaIT
open Go
variable (P : Program)

theorem nodeOf_append (e : Nat) (es : List AV) (p : List (Nat × Nat)) (q : List (Nat × Nat)) {e' : Nat} {es' : List AV} (h : nodeOf e es p = some (e', es')) : nodeOf e es (p ++ q) = nodeOf e' es' q := by
  induction p generalizing e es with
  | nil => simp only [nodeOf, Option.some.injEq, Prod.mk.injEq] at h; obtain ⟨rfl, rfl⟩ := h; rfl
  | cons mk p ih =>
    obtain ⟨m, k⟩ := mk
    simp only [nodeOf, List.cons_append] at h ⊢
    cases he : es[m]? with
    | none => rw [he] at h; cases h
    | some el =>
      rw [he] at h
      simp only at h ⊢
      cases hc : el.cells[k]? with
      | none => rw [hc] at h; cases h
      | some c =>
        rw [hc] at h
        cases c <;> simp only at h ⊢ <;> first | cases h | exact ih _ _ h
theorem nodeAt_append {σ : List Root} {r : Nat} {p : List (Nat × Nat)} {e' : Nat} {es' : List AV} (h : nodeAt σ r p = some (e', es')) (q : List (Nat × Nat)) : nodeAt σ r (p ++ q) = nodeOf e' es' q := by
  unfold nodeAt Root.node at h ⊢
  cases hr : σ.getD r .dead with
  | dead => rw [hr] at h; cases h
  | live mv rf nest e es => rw [hr] at h; exact nodeOf_append _ _ _ _ h
theorem nodeAt_nested {σ : List Root} {r : Nat} {p : List (Nat × Nat)} {e : Nat} {es : List AV} {m t : Nat} {el : AV} {te : Nat} {es' : List AV} (h : nodeAt σ r p = some (e, es)) (hm : es[m]? = some el) (ht : el.cells[t]? = some (.nw te es')) :
    nodeAt σ r (p ++ [(m, t)]) = some (te, es') := by
  rw [nodeAt_append h]
  simp only [nodeOf, hm, ht]

theorem CellR.kp {c c' : Cx} (k : Kp c c') {r : Nat} {p : List (Nat × Nat)} {m t : Nat} {y : AV} {v : Value} {te : Nat} {es : List AV} {el : AV} (hr : r < c.σ.length) (hd : c.D r)
    (hn : nodeAt c.σ r p = some (te, es)) (hn' : nodeAt c'.σ r p = some (te, es)) (hl : litAt c'.σ r p = litAt c.σ r p) (hm : es[m]? = some el) (ht : el.cells[t]? = some y) (h : CellR P c r p m t y v) : CellR P c' r p m t y v := by
  have other : (if litAt c.σ r p then V P c y v else VI c.N c.w y v) → (if litAt c'.σ r p then V P c' y v else VI c'.N c'.w y v) := by
    rw [hl]
    split
    · exact fun h => h.kp P k
    · exact fun h => h.gr k.toGr
  unfold CellR at h ⊢
  cases y with
  | nw te' es' =>
    have h1 := nodeAt_nested hn hm ht
    have h2 := nodeAt_nested hn' hm ht
    obtain ⟨_, _, _, h3⟩ := k.nd r _ te' es' hr hd h2
    simp only at h ⊢
    rw [h3]
    exact SlR.kp P k hr hd h1 h2 h
  | _ => exact other h

theorem NodeR.kp {c c' : Cx} (k : Kp c c') {r : Nat} {p : List (Nat × Nat)} {te : Nat} {es : List AV} (hd : c.D r) (hn : nodeAt c.σ r p = some (te, es)) (hn' : nodeAt c'.σ r p = some (te, es)) (hl : litAt c'.σ r p = litAt c.σ r p)
    (hb : ∀ b, c.j r p = some b → c'.w.heap[b]? = c.w.heap[b]?) (h : NodeR P c r p te es) : NodeR P c' r p te es := by
  have hr := nodeAt_lt hn
  obtain ⟨es0, _, _, hj⟩ := k.nd r p te es hr hd hn'
  rcases h with ⟨h1, h2⟩ | ⟨hne, b, cs, cap, h1, h2, h3, h4, h5, h6⟩ | ⟨h1, h2, h3, b, ents, clock, ks, h4, h5, h6⟩
  · exact .inl ⟨h1, hj.trans h2⟩
  · refine .inr (.inl ⟨hne, b, cs, cap, hj.trans h1, (hb b h1).trans h2, h3, h4, h5, fun m el hm => ⟨(h6 m el hm).1, fun t y ht => ?_⟩⟩)
    obtain ⟨v, hv, h7, h8⟩ := (h6 m el hm).2 t y ht
    exact ⟨v, hv, h7, CellR.kp P k hr hd hn hn' hl hm ht h8⟩
  · exact .inr (.inr ⟨h1, h2, hl.trans h3, b, ents, clock, ks, hj.trans h4, (hb b h4).trans h5, h6⟩)

/-! A new root. -/
theorem getD_append_left {α : Type} (l l' : List α) (i : Nat) (d : α) (h : i < l.length) : (l ++ l').getD i d = l.getD i d := by
  rw [List.getD_eq_getElem?_getD, List.getD_eq_getElem?_getD, List.getElem?_append_left h]
theorem getD_append_new {α : Type} (l : List α) (a d : α) : (l ++ [a]).getD l.length d = a := by
  simp [List.getD_eq_getElem?_getD]

def Cx.push (c : Cx) (ro : Root) (jb : Option Nat) (w' : World) : Cx :=
  ⟨c.σ ++ [ro], fun r p => if r = c.σ.length then (if p = [] then jb else none) else c.j r p, w', fun r => c.D r ∨ r = c.σ.length, c.F⟩

/-- Nothing of what was there has changed. -/
structure Same (w w' : World) : Prop where
  os : w'.os = w.os
  tape : w'.tape = w.tape
  output : w'.output = w.output
  size : w.heap.size ≤ w'.heap.size
  heap : ∀ b, b < w.heap.size → w'.heap[b]? = w.heap[b]?
theorem Same.refl (w : World) : Same w w := ⟨rfl, rfl, rfl, Nat.le_refl _, fun _ _ => rfl⟩
theorem Same.alloc (w : World) (o : Obj) : Same w (w.alloc o) := ⟨rfl, rfl, rfl, by simp, fun b hb => heap_alloc_old w o b hb⟩
theorem Same.trans {a b c : World} (h : Same a b) (k : Same b c) : Same a c :=
  ⟨k.os.trans h.os, k.tape.trans h.tape, k.output.trans h.output, Nat.le_trans h.size k.size, fun i hi => (k.heap i (Nat.lt_of_lt_of_le hi h.size)).trans (h.heap i hi)⟩

theorem out_gr {c c' : Cx} (h : ∀ b, c.F b → b < c.w.heap.size ∧ ¬ c.O b) (g : Gr c c') : ∀ b, c'.F b → b < c'.w.heap.size ∧ ¬ c'.O b := by
  intro b hb
  obtain ⟨h1, h2⟩ := h b (g.F ▸ hb)
  refine ⟨Nat.lt_of_lt_of_le h1 g.size, fun h3 => ?_⟩
  rcases g.O b h3 with h4 | h4
  · exact h2 h4
  · omega
theorem Cx.O_lt {c : Cx} (hm : Mem P c) {b : Nat} (h : c.O b) : b < c.w.heap.size := by
  obtain ⟨r, p, n, hd, hn, hj⟩ := h
  rcases hm.node r p n.1 n.2 hd hn with ⟨_, h2⟩ | ⟨_, b', cs, cap, h1, h2, _⟩ | ⟨_, _, _, b', _, _, _, h1, h2, _⟩
  · rw [hj] at h2; cases h2
  · rw [hj] at h1
    cases h1
    exact (Array.getElem?_eq_some_iff.1 h2).1
  · rw [hj] at h1
    cases h1
    exact (Array.getElem?_eq_some_iff.1 h2).1

theorem Cx.N_lt {c : Cx} (hm : Mem P c) {b : Nat} (h : c.N b) : b < c.w.heap.size := h.elim (fun h => (hm.out b h).1) (Cx.O_lt P hm)

theorem kp_push (c : Cx) (ro : Root) (jb : Option Nat) (w' : World) (hs : Same c.w w') (hjb : ∀ b, jb = some b → c.w.heap.size ≤ b) (hb : ∀ b, c.O b → b < c.w.heap.size) : Kp c (c.push ro jb w') := by
  have hnd : ∀ r p, r < c.σ.length → nodeAt (c.σ ++ [ro]) r p = nodeAt c.σ r p := fun r p hr => by unfold nodeAt; rw [getD_append_left _ _ _ _ hr]
  refine ⟨⟨hs.os, hs.tape, hs.output, hs.size, fun b hb _ => hs.heap b hb, ?_, rfl⟩, by simp [Cx.push], fun r _ hd => .inl hd, ?_, ?_, fun r mv f nest e es hr h => ⟨mv, nest, e, es, by simp only [Cx.push] at h; rwa [getD_append_left _ _ _ _ hr] at h⟩⟩
  · rintro b ⟨r, p, n, hd, hn, hj⟩
    simp only [Cx.push] at hd hn hj
    by_cases hr : r = c.σ.length
    · rw [if_pos hr] at hj
      split at hj
      · exact .inr (hjb b hj)
      · cases hj
    · rw [if_neg hr] at hj
      have hlt : r < c.σ.length := by have := nodeAt_lt hn; simp at this; omega
      rw [hnd r p hlt] at hn
      exact .inl ⟨r, p, n, hd.resolve_right hr, hn, hj⟩
  · intro r p te es' hr hd hn
    simp only [Cx.push] at hn ⊢
    rw [hnd r p hr] at hn
    exact ⟨es', hn, rfl, by rw [if_neg (by omega)]⟩
  · intro r p te es b cs el n' hr hd hn hn' hj hh
    exact ⟨cs, by simp only [Cx.push]; rw [hs.heap b (hb b ⟨r, p, _, hd, hn, hj⟩)]; exact hh, rfl⟩

theorem mem_push {c : Cx} (hm : Mem P c) (mv rf nest : Bool) (te : Nat) (es : List AV) (jb : Option Nat) (w' : World) (hs : Same c.w w') (hjb : ∀ b, jb = some b → c.w.heap.size ≤ b)
    (hflat : ∀ (m : Nat) (el : AV) (t te' : Nat) (es' : List AV), es[m]? = some el → el.cells[t]? = some (.nw te' es') → False)
    (hnode : NodeR P (c.push (.live mv rf nest te es) jb w') c.σ.length [] te es) : Mem P (c.push (.live mv rf nest te es) jb w') ∧ Kp c (c.push (.live mv rf nest te es) jb w') := by
  have hlt := fun b (h : c.O b) => Cx.O_lt P hm h
  have k := kp_push c (.live mv rf nest te es) jb w' hs hjb hlt
  have hnd : ∀ r p, r < c.σ.length → nodeAt (c.σ ++ [.live mv rf nest te es]) r p = nodeAt c.σ r p := fun r p hr => by unfold nodeAt; rw [getD_append_left _ _ _ _ hr]
  have hnew : ∀ p n, nodeAt (c.σ ++ [.live mv rf nest te es]) c.σ.length p = some n → p = [] ∧ n = (te, es) := by
    intro p n hn
    unfold nodeAt at hn
    rw [getD_append_new] at hn
    cases p with
    | nil => simp only [Root.node, nodeOf, Option.some.injEq] at hn; exact ⟨rfl, hn.symm⟩
    | cons mk p =>
      obtain ⟨m, t⟩ := mk
      simp only [Root.node, nodeOf] at hn
      cases he : es[m]? with
      | none => rw [he] at hn; cases hn
      | some el =>
        rw [he] at hn
        simp only at hn
        cases hc : el.cells[t]? with
        | none => rw [hc] at hn; cases hn
        | some y =>
          rw [hc] at hn
          cases y <;> simp only at hn <;> first | cases hn | exact absurd (hflat m el t _ _ he hc) id
  refine ⟨⟨?_, ?_, ?_, out_gr hm.out k.toGr⟩, k⟩
  · intro r mv' rf' te' es' h
    by_cases hr : r < c.σ.length
    · simp only [Cx.push] at h; rw [getD_append_left _ _ _ _ hr] at h; exact hm.flat r _ _ _ _ h
    · by_cases hr2 : r = c.σ.length
      · subst hr2; simp only [Cx.push] at h; rw [getD_append_new] at h; cases h; exact hflat
      · simp only [Cx.push] at h; rw [List.getD_eq_getElem?_getD, List.getElem?_eq_none (by simp; omega)] at h; cases h
  · intro r p te' es' hd hn
    by_cases hr : r = c.σ.length
    · subst hr
      obtain ⟨rfl, h2⟩ := hnew p _ hn
      cases h2
      exact hnode
    · have hlt' : r < c.σ.length := by have := nodeAt_lt hn; simp [Cx.push] at this; omega
      have hd' : c.D r := hd.resolve_right hr
      have hn0 : nodeAt c.σ r p = some (te', es') := by rw [← hnd r p hlt']; exact hn
      refine NodeR.kp P k hd' hn0 hn ?_ (fun b hb => hs.heap b (hlt b ⟨r, p, _, hd', hn0, hb⟩)) (hm.node r p te' es' hd' hn0)
      unfold litAt Cx.push
      simp only
      rw [getD_append_left _ _ _ _ hlt']
  · intro r p r' p' n n' b hd hd' hn hn' hj hj'
    simp only [Cx.push] at hd hd' hn hn' hj hj'
    by_cases hr : r = c.σ.length <;> by_cases hr' : r' = c.σ.length
    · subst hr; subst hr'
      exact ⟨rfl, (hnew p _ hn).1.trans (hnew p' _ hn').1.symm⟩
    · rw [if_pos hr] at hj
      rw [if_neg hr'] at hj'
      have hlt' : r' < c.σ.length := by have := nodeAt_lt hn'; simp at this; omega
      rw [hnd r' p' hlt'] at hn'
      have h1 := hlt b ⟨r', p', n', hd'.resolve_right hr', hn', hj'⟩
      split at hj
      · have := hjb b hj; omega
      · cases hj
    · rw [if_neg hr] at hj
      rw [if_pos hr'] at hj'
      have hlt' : r < c.σ.length := by have := nodeAt_lt hn; simp at this; omega
      rw [hnd r p hlt'] at hn
      have h1 := hlt b ⟨r, p, n, hd.resolve_right hr, hn, hj⟩
      split at hj'
      · have := hjb b hj'; omega
      · cases hj'
    · rw [if_neg hr] at hj
      rw [if_neg hr'] at hj'
      have hlt1 : r < c.σ.length := by have := nodeAt_lt hn; simp at this; omega
      have hlt2 : r' < c.σ.length := by have := nodeAt_lt hn'; simp at this; omega
      rw [hnd r p hlt1] at hn
      rw [hnd r' p' hlt2] at hn'
      exact hm.inj r p r' p' n n' b (hd.resolve_right hr) (hd'.resolve_right hr') hn hn' hj hj'

/-! A root is given another content, or given up. -/
theorem Flat.node {e : Nat} {es : List AV} (h : Flat es) {p : List (Nat × Nat)} {n : Nat × List AV} (hn : nodeOf e es p = some n) : p = [] ∧ n = (e, es) := by
  cases p with
  | nil => simp only [nodeOf, Option.some.injEq] at hn; exact ⟨rfl, hn.symm⟩
  | cons mk p =>
    obtain ⟨m, t⟩ := mk
    simp only [nodeOf] at hn
    cases he : es[m]? with
    | none => rw [he] at hn; cases hn
    | some el =>
      rw [he] at hn
      simp only at hn
      cases hc : el.cells[t]? with
      | none => rw [hc] at hn; cases hn
      | some y =>
        rw [hc] at hn
        cases y <;> simp only at hn <;> first | cases hn | exact (h m el t _ _ he hc).elim

def Cx.set (c : Cx) (r : Nat) (ro : Root) (w' : World) : Cx := ⟨c.σ.set r ro, c.j, w', c.D, c.F⟩

theorem getD_set_ne {α : Type} (l : List α) (i j : Nat) (a d : α) (h : i ≠ j) : (l.set i a).getD j d = l.getD j d := by
  simp [List.getD_eq_getElem?_getD, List.getElem?_set_ne h]
theorem getD_set_eq {α : Type} (l : List α) (i : Nat) (a d : α) (h : i < l.length) : (l.set i a).getD i d = a := by
  simp [List.getD_eq_getElem?_getD, h]
theorem lt_of_live {σ : List Root} {r : Nat} {mv rf nest : Bool} {te : Nat} {es : List AV} (h : σ.getD r .dead = .live mv rf nest te es) : r < σ.length := by
  rcases Nat.lt_or_ge r σ.length with h1 | h1
  · exact h1
  · rw [List.getD_eq_getElem?_getD, List.getElem?_eq_none h1] at h; cases h
theorem nodeAt_live {σ : List Root} {r : Nat} {mv rf nest : Bool} {te : Nat} {es : List AV} (h : σ.getD r .dead = .live mv rf nest te es) : nodeAt σ r [] = some (te, es) := by
  unfold nodeAt; rw [h]; rfl

/-- What lies in no other block has not changed. -/
structure But (w w' : World) (b : Option Nat) : Prop where
  os : w'.os = w.os
  tape : w'.tape = w.tape
  output : w'.output = w.output
  size : w.heap.size ≤ w'.heap.size
  heap : ∀ k, k < w.heap.size → b ≠ some k → w'.heap[k]? = w.heap[k]?

theorem kp_set {c : Cx} {r : Nat} {mv rf nest : Bool} {te : Nat} {es : List AV} (hm : Mem P c) (hr : c.σ.getD r .dead = .live mv rf nest te es) (hd : c.D r) (es' : List AV) (hl : es.length = es'.length) (hf : Flat es') (w' : World)
    (hw : But c.w w' (c.j r [])) (hblk : ∀ b cs el, c.j r [] = some b → c.w.heap[b]? = some (.cells cs el (0, 0)) → ∃ cs', w'.heap[b]? = some (.cells cs' el (0, 0)) ∧ cs'.size = cs.size) :
    Kp c (c.set r (.live mv rf nest te es') w') := by
  have hrl := lt_of_live hr
  have hn0 := nodeAt_live hr
  have hne : ∀ r' p, r' ≠ r → nodeAt (c.σ.set r (.live mv rf nest te es')) r' p = nodeAt c.σ r' p := fun r' p h => by unfold nodeAt; rw [getD_set_ne _ _ _ _ _ (Ne.symm h)]
  have hnew : ∀ p n, nodeAt (c.σ.set r (.live mv rf nest te es')) r p = some n → p = [] ∧ n = (te, es') := fun p n h => by
    unfold nodeAt at h; rw [getD_set_eq _ _ _ _ hrl] at h; exact hf.node h
  refine ⟨⟨hw.os, hw.tape, hw.output, hw.size, fun b hb hn => hw.heap b hb fun h => hn ⟨r, [], _, hd, hn0, h⟩, ?_, rfl⟩, by simp [Cx.set], fun _ _ h => h, ?_, ?_, fun r1 mv1 f1 nest1 e1 es1 hr1 h1 => ?_⟩
  · rintro b ⟨r', p, n, hd', hn, hj⟩
    by_cases h : r' = r
    · subst h
      obtain ⟨rfl, _⟩ := hnew p n hn
      exact .inl ⟨r', [], _, hd, hn0, hj⟩
    · rw [Cx.set, hne r' p h] at hn
      exact .inl ⟨r', p, n, hd', hn, hj⟩
  · intro r' p te' es1 _ hd' hn
    by_cases h : r' = r
    · subst h
      obtain ⟨rfl, h2⟩ := hnew p _ hn
      cases h2
      exact ⟨es, hn0, hl, rfl⟩
    · rw [Cx.set, hne r' p h] at hn
      exact ⟨es1, hn, rfl, rfl⟩
  · intro r' p te' es1 b cs el n' _ hd' hn hn' hj hh
    by_cases h : r' = r
    · subst h
      obtain ⟨rfl, _⟩ := hnew p _ hn'
      exact hblk b cs el hj hh
    · refine ⟨cs, ?_, rfl⟩
      rw [Cx.set]
      simp only
      rw [hw.heap b (Cx.O_lt P hm ⟨r', p, _, hd', hn, hj⟩) fun h1 => h (hm.inj r' p r [] _ _ b hd' hd hn hn0 hj h1).1]
      exact hh
  · simp only [Cx.set] at h1
    by_cases h2 : r = r1
    · subst h2
      rw [getD_set_eq _ _ _ _ hrl] at h1
      cases h1
      exact ⟨_, _, _, _, hr⟩
    · rw [getD_set_ne _ _ _ _ _ h2] at h1
      exact ⟨_, _, _, _, h1⟩

theorem mem_set {c : Cx} {r : Nat} {mv rf nest : Bool} {te : Nat} {es : List AV} (hm : Mem P c) (hr : c.σ.getD r .dead = .live mv rf nest te es) (hd : c.D r) (es' : List AV) (hl : es.length = es'.length) (hf : Flat es') (w' : World)
    (hw : But c.w w' (c.j r [])) (hblk : ∀ b cs el, c.j r [] = some b → c.w.heap[b]? = some (.cells cs el (0, 0)) → ∃ cs', w'.heap[b]? = some (.cells cs' el (0, 0)) ∧ cs'.size = cs.size)
    (hnode : NodeR P (c.set r (.live mv rf nest te es') w') r [] te es') : Mem P (c.set r (.live mv rf nest te es') w') := by
  have k := kp_set P hm hr hd es' hl hf w' hw hblk
  have hrl := lt_of_live hr
  have hn0 := nodeAt_live hr
  have hne : ∀ r' p, r' ≠ r → nodeAt (c.σ.set r (.live mv rf nest te es')) r' p = nodeAt c.σ r' p := fun r' p h => by unfold nodeAt; rw [getD_set_ne _ _ _ _ _ (Ne.symm h)]
  have hnew : ∀ p n, nodeAt (c.σ.set r (.live mv rf nest te es')) r p = some n → p = [] ∧ n = (te, es') := fun p n h => by
    unfold nodeAt at h; rw [getD_set_eq _ _ _ _ hrl] at h; exact hf.node h
  have back : ∀ r' p n, c.D r' → nodeAt (c.σ.set r (.live mv rf nest te es')) r' p = some n → ∃ n0, nodeAt c.σ r' p = some n0 := by
    intro r' p n hd' hn
    by_cases h : r' = r
    · subst h; obtain ⟨rfl, _⟩ := hnew p _ hn; exact ⟨_, hn0⟩
    · rw [hne r' p h] at hn; exact ⟨_, hn⟩
  refine ⟨?_, ?_, ?_, out_gr hm.out k.toGr⟩
  · intro r' mv' rf' te' es1 h
    by_cases h1 : r = r'
    · subst h1; simp only [Cx.set] at h; rw [getD_set_eq _ _ _ _ hrl] at h; cases h; exact hf
    · simp only [Cx.set] at h; rw [getD_set_ne _ _ _ _ _ h1] at h; exact hm.flat r' _ _ _ _ h
  · intro r' p te' es1 hd' hn
    by_cases h : r' = r
    · subst h
      obtain ⟨rfl, h2⟩ := hnew p _ hn
      cases h2
      exact hnode
    · have hn1 : nodeAt c.σ r' p = some (te', es1) := by rw [← hne r' p h]; exact hn
      refine NodeR.kp P k hd' hn1 hn ?_ (fun b hb => hw.heap b (Cx.O_lt P hm ⟨r', p, _, hd', hn1, hb⟩) fun h1 => h (hm.inj r' p r [] _ _ b hd' hd hn1 hn0 hb h1).1) (hm.node r' p te' es1 hd' hn1)
      unfold litAt Cx.set
      simp only
      rw [getD_set_ne _ _ _ _ _ (Ne.symm h)]
  · intro r1 p1 r2 p2 n1 n2 b hd1 hd2 hn1 hn2 hj1 hj2
    obtain ⟨m1, h1⟩ := back r1 p1 n1 hd1 hn1
    obtain ⟨m2, h2⟩ := back r2 p2 n2 hd2 hn2
    exact hm.inj r1 p1 r2 p2 m1 m2 b hd1 hd2 h1 h2 hj1 hj2

theorem nodeAt_dead {σ : List Root} {r r' : Nat} {p : List (Nat × Nat)} {n : Nat × List AV} (hn : nodeAt (σ.set r .dead) r' p = some n) : r' ≠ r ∧ nodeAt σ r' p = some n := by
  have hlt := nodeAt_lt hn
  unfold nodeAt at hn ⊢
  by_cases h : r' = r
  · subst h
    rw [getD_set_eq _ _ _ _ (by simpa using hlt)] at hn
    cases hn
  · rw [getD_set_ne _ _ _ _ _ (Ne.symm h)] at hn
    exact ⟨h, hn⟩
theorem mem_dead {c : Cx} (hm : Mem P c) (r : Nat) : Mem P (c.set r .dead c.w) ∧ Kp c (c.set r .dead c.w) := by
  have hne : ∀ r' p n, nodeAt (c.σ.set r .dead) r' p = some n → r' ≠ r ∧ nodeAt c.σ r' p = some n := by
    intro r' p n hn
    have hlt := nodeAt_lt hn
    unfold nodeAt at hn ⊢
    by_cases h : r' = r
    · subst h
      rw [getD_set_eq _ _ _ _ (by simpa using hlt)] at hn
      cases hn
    · rw [getD_set_ne _ _ _ _ _ (Ne.symm h)] at hn
      exact ⟨h, hn⟩
  have k : Kp c (c.set r .dead c.w) := by
    refine ⟨⟨rfl, rfl, rfl, Nat.le_refl _, fun _ _ _ => rfl, ?_, rfl⟩, by simp [Cx.set], fun _ _ h => h, ?_, fun _ _ _ _ _ cs _ _ _ _ _ _ _ h => ⟨cs, h, rfl⟩, fun r1 mv1 f1 nest1 e1 es1 hr1 h1 => ?_⟩
    rotate_left 2
    · simp only [Cx.set] at h1
      by_cases h2 : r = r1
      · subst h2
        rw [getD_set_eq _ _ _ _ hr1] at h1
        cases h1
      · rw [getD_set_ne _ _ _ _ _ h2] at h1
        exact ⟨_, _, _, _, h1⟩
    · rintro b ⟨r', p, n, hd, hn, hj⟩
      exact .inl ⟨r', p, n, hd, (hne r' p n hn).2, hj⟩
    · intro r' p te es' _ _ hn
      exact ⟨es', (hne r' p _ hn).2, rfl, rfl⟩
  refine ⟨⟨?_, ?_, ?_, out_gr hm.out k.toGr⟩, k⟩
  · intro r' mv' rf' te' es1 h
    by_cases h1 : r = r'
    · subst h1
      simp only [Cx.set] at h
      by_cases hlt : r < c.σ.length
      · rw [getD_set_eq _ _ _ _ hlt] at h; cases h
      · rw [List.getD_eq_getElem?_getD, List.getElem?_eq_none (by simp; omega)] at h; cases h
    · simp only [Cx.set] at h; rw [getD_set_ne _ _ _ _ _ h1] at h; exact hm.flat r' _ _ _ _ h
  · intro r' p te es hd hn
    obtain ⟨h1, h2⟩ := hne r' p _ hn
    refine NodeR.kp P k hd h2 hn ?_ (fun _ _ => rfl) (hm.node r' p te es hd h2)
    unfold litAt Cx.set
    simp only
    rw [getD_set_ne _ _ _ _ _ (Ne.symm h1)]
  · intro r1 p1 r2 p2 n1 n2 b hd1 hd2 hn1 hn2 hj1 hj2
    exact hm.inj r1 p1 r2 p2 n1 n2 b hd1 hd2 (hne _ _ _ hn1).2 (hne _ _ _ hn2).2 hj1 hj2
end Go.Proofs.YtkicholhkoahhaaIT
