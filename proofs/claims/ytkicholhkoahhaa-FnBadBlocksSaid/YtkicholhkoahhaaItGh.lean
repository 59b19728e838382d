/- A variable that the machine lays out before the trees do: its block is kept by itself until then. No condition beyond what each theorem states. -/
import Derived.Test.YtkicholhkoahhaaItS
namespace Go.Proofs.YtkicholhkoahhaaIT
open Go
variable {P : Program} {E : Env}

/-- The old roots as they were; the world may have grown. -/
structure Ext (c c' : Cx) : Prop where
  len : c.σ.length ≤ c'.σ.length
  σ : ∀ r, r < c.σ.length → c'.σ.getD r .dead = c.σ.getD r .dead
  j : ∀ r p, r < c.σ.length → c'.j r p = c.j r p
  D : ∀ r, c.D r → c'.D r
  hh : ∀ b, c.O b → c'.w.heap[b]? = c.w.heap[b]?
  vi : ∀ y v, VI c.N c.w y v → VI c'.N c'.w y v
theorem Ext.node {c c' : Cx} (h : Ext c c') {r : Nat} (hr : r < c.σ.length) (p : List (Nat × Nat)) : nodeAt c'.σ r p = nodeAt c.σ r p := by unfold nodeAt; rw [h.σ r hr]
theorem Ext.sl {c c' : Cx} (h : Ext c c') {r te n : Nat} {p : List (Nat × Nat)} {es : List AV} {win : Option (Nat × Nat)} {v : Value} (hr : r < c.σ.length) (hd : c.D r) (hn : nodeAt c.σ r p = some (te, es))
    (hs : SlR P c.w (c.j r p) te n win v) : SlR P c'.w (c'.j r p) te n win v := by
  rw [h.j r p hr]
  cases hj : c.j r p with
  | none => rw [hj] at hs; exact hs
  | some b =>
    rw [hj] at hs
    obtain ⟨cap, cs, h1, h2⟩ := hs
    exact ⟨cap, cs, (h.hh b ⟨r, p, _, hd, hn, hj⟩).trans h1, h2⟩
theorem Ext.V {c c' : Cx} (h : Ext c c') {y : AV} {v : Value} (hv : V P c y v) : V P c' y v := by
  induction hv with
  | vi h1 => exact .vi (h.vi _ _ h1)
  | sl r p win v hr hd hs =>
    refine .sl r p win v (Nat.lt_of_lt_of_le hr h.len) (h.D r hd) fun te es hn => ?_
    rw [h.node hr] at hn
    exact h.sl hr hd hn (hs te es hn)
  | pt r p m k v hr hd h1 h2 =>
    refine .pt r p m k v (Nat.lt_of_lt_of_le hr h.len) (h.D r hd) (fun te es hn => ?_) fun te es hp hn => ?_
    · rw [h.node hr] at hn
      rw [h.j r p hr]
      exact h1 te es hn
    · rw [h.node hr] at hn
      rw [h.j r [] hr]
      exact h2 te es hp hn
  | agg cs vs hl _ ih => exact .agg cs vs hl ih
  | tup cs vs hl _ ih => exact .tup cs vs hl ih
  | fn g cs vs hl _ ih => exact .fn g cs vs hl ih
theorem Ext.cell {c c' : Cx} (h : Ext c c') {r : Nat} {p : List (Nat × Nat)} {m t : Nat} {y : AV} {v : Value} {te : Nat} {es : List AV} {el : AV} (hr : r < c.σ.length) (hd : c.D r) (hn : nodeAt c.σ r p = some (te, es))
    (hm : es[m]? = some el) (ht : el.cells[t]? = some y) (hc : CellR P c r p m t y v) : CellR P c' r p m t y v := by
  have hl : litAt c'.σ r p = litAt c.σ r p := by unfold litAt; rw [h.σ r hr]
  have other : (if litAt c.σ r p then Go.Proofs.YtkicholhkoahhaaIT.V P c y v else VI c.N c.w y v) → (if litAt c'.σ r p then Go.Proofs.YtkicholhkoahhaaIT.V P c' y v else VI c'.N c'.w y v) := by
    rw [hl]
    split
    · exact fun h1 => h.V h1
    · exact fun h1 => h.vi _ _ h1
  unfold CellR at hc ⊢
  cases y with
  | nw te' es' =>
    simp only at hc ⊢
    exact h.sl hr hd (nodeAt_nested hn hm ht) hc
  | _ => exact other hc
theorem Ext.nodeR {c c' : Cx} (h : Ext c c') {r : Nat} {p : List (Nat × Nat)} {te : Nat} {es : List AV} (hd : c.D r) (hn : nodeAt c.σ r p = some (te, es)) (hr : NodeR P c r p te es) : NodeR P c' r p te es := by
  have hl := nodeAt_lt hn
  have hlit : litAt c'.σ r p = litAt c.σ r p := by unfold litAt; rw [h.σ r hl]
  have hb : ∀ b, c.j r p = some b → c'.w.heap[b]? = c.w.heap[b]? := fun b hj => h.hh b ⟨r, p, _, hd, hn, hj⟩
  rcases hr with ⟨h1, h2⟩ | ⟨hne, b, cs, cap, h1, h2, h3, h4, h5, h6⟩ | ⟨h1, h2, h3, b, ents, clock, ks, h4, h5, h6⟩
  · exact .inl ⟨h1, (h.j r p hl).trans h2⟩
  · refine .inr (.inl ⟨hne, b, cs, cap, (h.j r p hl).trans h1, (hb b h1).trans h2, h3, h4, h5, fun m el hm => ⟨(h6 m el hm).1, fun t y ht => ?_⟩⟩)
    obtain ⟨v, hv, h7, h8⟩ := (h6 m el hm).2 t y ht
    exact ⟨v, hv, h7, h.cell hl hd hn hm ht h8⟩
  · exact .inr (.inr ⟨h1, h2, hlit.trans h3, b, ents, clock, ks, (h.j r p hl).trans h4, (hb b h4).trans h5, h6⟩)
theorem Ext.kv {c c' : Cx} (h : Ext c c') : KV c c' := by
  have nd : ∀ r p te es', r < c.σ.length → nodeAt c'.σ r p = some (te, es') → ∃ es, nodeAt c.σ r p = some (te, es) ∧ es.length = es'.length ∧ c'.j r p = c.j r p := fun r p te es' hr hn => by
    rw [h.node hr] at hn
    exact ⟨es', hn, rfl, h.j r p hr⟩
  have blk : ∀ r p te es b cs el n', r < c.σ.length → c.D r → nodeAt c.σ r p = some (te, es) → nodeAt c'.σ r p = some n' → c.j r p = some b → c.w.heap[b]? = some (.cells cs el (0, 0)) → ∃ cs', c'.w.heap[b]? = some (.cells cs' el (0, 0)) ∧ cs'.size = cs.size :=
    fun r p te es b cs el n' _ hd hn _ hj hh => ⟨cs, (h.hh b ⟨r, p, _, hd, hn, hj⟩).trans hh, rfl⟩
  have rf : ∀ r mv f nest e es, r < c.σ.length → c'.σ.getD r .dead = .live mv f nest e es → ∃ mv' nest' e' es', c.σ.getD r .dead = .live mv' f nest' e' es' := fun r mv f nest e es hr hc => by
    rw [h.σ r hr] at hc
    exact ⟨mv, nest, e, es, hc⟩
  exact ⟨h.len, fun r _ hd => h.D r hd, fun r p te es' hr _ _ hn => nd r p te es' hr hn, fun r p te es b cs el n' hr _ hd => blk r p te es b cs el n' hr hd, rf,
    fun r mv nest te es' hr hd hro => rw_of (fun te es' hn => nd r [] te es' hr hn) (fun te es b cs el n' hn hn' hj hh => blk r [] te es b cs el n' hr hd hn hn' hj hh) (fun mv f nest e es => rf r mv f nest e es hr) hro⟩

/-- The world grows by blocks that are no root's yet. -/
def Cx.ghost (c : Cx) (w' : World) : Cx := ⟨c.σ, c.j, w', c.D, fun b => c.F b ∨ b = c.w.heap.size⟩
theorem ghost_ok {c : Cx} (hm : Mem P c) {w' : World} (hs : Same c.w w') (hlt : c.w.heap.size < w'.heap.size) : Mem P (c.ghost w') ∧ Ext c (c.ghost w') := by
  have hO : ∀ b, (c.ghost w').O b ↔ c.O b := fun b => Iff.rfl
  have hol : ∀ b, c.O b → b < c.w.heap.size := fun b h => Cx.O_lt P hm h
  have e : Ext c (c.ghost w') := ⟨Nat.le_refl _, fun _ _ => rfl, fun _ _ _ => rfl, fun _ h => h, fun b hb => hs.heap b (hol b hb), fun y v h => h.gen hs.size (fun b hb _ => hs.heap b hb) fun b hb hn h' => by
    rcases h' with (h' | h') | h'
    · exact hn (.inl h')
    · omega
    · exact hn (.inr h')⟩
  refine ⟨⟨hm.flat, fun r p te es hd hn => e.nodeR hd hn (hm.node r p te es hd hn), hm.inj, fun b hb => ?_⟩, e⟩
  rcases hb with hb | rfl
  · exact ⟨Nat.lt_of_lt_of_le (hm.out b hb).1 hs.size, (hm.out b hb).2⟩
  · exact ⟨hlt, fun h => by have := hol _ h; omega⟩

/-- A block that was kept by itself becomes a root's. -/
def Cx.adopt (c : Cx) (ro : Root) (b : Nat) : Cx := ⟨c.σ ++ [ro], fun r p => if r = c.σ.length then (if p = [] then some b else none) else c.j r p, c.w, fun r => c.D r ∨ r = c.σ.length, fun x => c.F x ∧ x ≠ b⟩
theorem adopt_O (c : Cx) (te : Nat) (es : List AV) (b : Nat) {x : Nat} (h : (c.adopt (.live false true false te es) b).O x) : c.O x ∨ x = b := by
  obtain ⟨r, p, n, hd, hn, hj⟩ := h
  simp only [Cx.adopt] at hd hn hj
  by_cases hr : r = c.σ.length
  · rw [if_pos hr] at hj
    split at hj
    · cases hj; exact .inr rfl
    · cases hj
  · rw [if_neg hr] at hj
    have hlt : r < c.σ.length := by have := nodeAt_lt hn; simp at this; omega
    unfold nodeAt at hn
    rw [getD_append_left _ _ _ _ hlt] at hn
    exact .inl ⟨r, p, n, hd.resolve_right hr, hn, hj⟩
theorem adopt_ok {c : Cx} (hm : Mem P c) (te : Nat) (hne : te ≠ mapT) (es : List AV) (cells : Array Value) (cap b : Nat) (hF : c.F b) (hb : c.w.heap[b]? = some (.cells cells te (0, 0)))
    (hsz : cells.size = cap * P.cellsOf te) (hle : es.length ≤ cap) (hmax : cap ≤ maxLen)
    (hel : ∀ (m : Nat) (el : AV), es[m]? = some el → el.cells.length = P.cellsOf te ∧ ∀ (t : Nat) (y : AV), el.cells[t]? = some y → Plain y ∧ ∃ v, cells[m * P.cellsOf te + t]? = some v ∧ v.oneCell' = true ∧ V P c y v) :
    Mem P (c.adopt (.live false true false te es) b) ∧ Ext c (c.adopt (.live false true false te es) b) ∧ (0 < es.length → V P (c.adopt (.live false true false te es) b) (.pt c.σ.length [] 0 0) (.pointer (some ⟨b, 0, none⟩))) := by
  have hf : Flat es := fun m el t te' es' h1 h2 => ((hel m el h1).2 t _ h2).1.1 _ _ rfl
  have hN : ∀ x, (c.adopt (.live false true false te es) b).N x → c.N x := fun x h => by
    rcases h with h | h
    · exact .inl h.1
    · rcases adopt_O c te es b h with h | rfl
      · exact .inr h
      · exact .inl hF
  have e : Ext c (c.adopt (.live false true false te es) b) := ⟨by simp [Cx.adopt], fun r hr => getD_append_left _ _ _ _ hr, fun r p hr => by simp only [Cx.adopt]; rw [if_neg (by omega)], fun r h => .inl h, fun _ _ => rfl,
    fun y v h => h.gen (Nat.le_refl _) (fun _ _ _ => rfl) fun x _ hn h' => hn (hN x h')⟩
  have hnew : ∀ p n, nodeAt (c.σ ++ [.live false true false te es]) c.σ.length p = some n → p = [] ∧ n = (te, es) := by
    intro p n hn
    unfold nodeAt at hn
    rw [getD_append_new] at hn
    exact hf.node hn
  have hj0 : (c.adopt (.live false true false te es) b).j c.σ.length [] = some b := by simp [Cx.adopt]
  have hlit : litAt (c.adopt (.live false true false te es) b).σ c.σ.length [] = true := by unfold litAt Cx.adopt; simp only; rw [getD_append_new]; simp
  have hnb : ¬ c.O b := (hm.out b hF).2
  refine ⟨⟨?_, ?_, ?_, ?_⟩, e, fun h0 => .pt _ _ _ _ _ (by simp [Cx.adopt]) (.inr rfl) (fun te' es' h => ?_) fun _ _ hp => by cases hp⟩
  · intro r mv' rf' te' es' h
    simp only [Cx.adopt] at h
    by_cases hr : r < c.σ.length
    · rw [getD_append_left _ _ _ _ hr] at h; exact hm.flat r _ _ _ _ h
    · by_cases hr2 : r = c.σ.length
      · subst hr2; rw [getD_append_new] at h; cases h; exact hf
      · rw [List.getD_eq_getElem?_getD, List.getElem?_eq_none (by simp; omega)] at h; cases h
  · intro r p te' es' hd hn
    by_cases hr : r = c.σ.length
    · subst hr
      obtain ⟨rfl, h2⟩ := hnew p _ hn
      cases h2
      refine .inr (.inl ⟨hne, b, cells, cap, hj0, hb, hsz, hle, hmax, fun m el h1 => ⟨(hel m el h1).1, fun t y h2 => ?_⟩⟩)
      obtain ⟨h3, v, h4, h5, h6⟩ := (hel m el h1).2 t y h2
      refine ⟨v, h4, h5, ?_⟩
      have goal : if litAt (c.adopt (.live false true false te es) b).σ c.σ.length [] then V P (c.adopt (.live false true false te es) b) y v else VI (c.adopt (.live false true false te es) b).N (c.adopt (.live false true false te es) b).w y v := by
        rw [hlit]
        exact e.V h6
      unfold CellR
      cases y <;> first | exact goal | exact (h3.1 _ _ rfl).elim
    · have hlt' : r < c.σ.length := by have := nodeAt_lt hn; simp [Cx.adopt] at this; omega
      have hd' : c.D r := hd.resolve_right hr
      rw [e.node hlt'] at hn
      exact e.nodeR hd' hn (hm.node r p te' es' hd' hn)
  · intro r p r' p' n n' x hd hd' hn hn' hj hj'
    simp only [Cx.adopt] at hd hd' hn hn' hj hj'
    have hold : ∀ r p n, nodeAt (c.σ ++ [.live false true false te es]) r p = some n → r ≠ c.σ.length → r < c.σ.length ∧ nodeAt c.σ r p = some n := fun r p n hn hr => by
      have hlt : r < c.σ.length := by have := nodeAt_lt hn; simp at this; omega
      unfold nodeAt at hn ⊢
      rw [getD_append_left _ _ _ _ hlt] at hn
      exact ⟨hlt, hn⟩
    by_cases hr : r = c.σ.length <;> by_cases hr' : r' = c.σ.length
    · subst hr; subst hr'
      exact ⟨rfl, (hnew p _ hn).1.trans (hnew p' _ hn').1.symm⟩
    · rw [if_pos hr] at hj
      rw [if_neg hr'] at hj'
      split at hj
      · cases hj
        exact absurd ⟨r', p', n', hd'.resolve_right hr', (hold _ _ _ hn' hr').2, hj'⟩ hnb
      · cases hj
    · rw [if_neg hr] at hj
      rw [if_pos hr'] at hj'
      split at hj'
      · cases hj'
        exact absurd ⟨r, p, n, hd.resolve_right hr, (hold _ _ _ hn hr).2, hj⟩ hnb
      · cases hj'
    · rw [if_neg hr] at hj
      rw [if_neg hr'] at hj'
      exact hm.inj r p r' p' n n' x (hd.resolve_right hr) (hd'.resolve_right hr') (hold _ _ _ hn hr).2 (hold _ _ _ hn' hr').2 hj hj'
  · intro x hx
    refine ⟨(hm.out x hx.1).1, fun h => ?_⟩
    rcases adopt_O c te es b h with h | h
    · exact (hm.out x hx.1).2 h
    · exact hx.2 h
  · obtain ⟨_, h2⟩ := hnew [] _ h
    cases h2
    exact ⟨b, hj0, h0, by simp, hne⟩

/-- A block that holds a type's zero. -/
def GhB (P : Program) (w : World) (t b : Nat) : Prop := ∃ i z, P.info? t = some i ∧ i.zero = some z ∧ w.heap[b]? = some (.cells z.cells t (0, 0))
theorem ghost_alloc {o : Oper} {t : TypeId} {ti : TI} {a : Act} {c : Cx} (hE : EnvOk P E) (ho : o.op = .alloc t) (hti : E.Γ t = some ti) : ∃ w', Same c.w w' ∧ c.w.heap.size < w'.heap.size ∧ GhB P w' t c.w.heap.size ∧
    (execOp a.eval o).run P c.w = .ok (.value (.pointer (some ⟨c.w.heap.size, 0, none⟩))) w' := by
  obtain ⟨i, z, h1, h2, h3, h4, h5, h6, h7⟩ := (hE.tyo hti).info
  exact ⟨c.w.alloc (.cells z.cells t), Same.alloc _ _, by simp, ⟨i, z, h1, h6, alloc_heap _ _⟩, by simp [execOp, ho, run_alloc h1 h6]⟩
/-- What the trees do where they come to it. -/
theorem ghost_step {C : Cal} {o : Oper} {t : TypeId} {c : Cx} {st s1 : St} {v : AV} {b : Nat} (hE : EnvOk P E) (ho : o.op = .alloc t) (hσ : c.σ = st.σ) (hm : Mem P c) (hF : c.F b) (hg : GhB P c.w t b)
    (h : evOp E C o st (fun v s => some (v, s)) = some (v, s1)) :
    ∃ c', c'.σ = s1.σ ∧ s1.t = st.t ∧ Mem P c' ∧ c'.w = c.w ∧ (c'.F = fun x => c.F x ∧ x ≠ b) ∧ KV c c' ∧ (∀ x, c'.O x → c.O x ∨ x = b) ∧ (∀ y u, V P c y u → V P c' y u) ∧ V P c' v (.pointer (some ⟨b, 0, none⟩)) := by
  unfold evOp at h
  rw [ho] at h
  simp only at h
  split at h <;> try (cases h; done)
  rename_i ti hti
  have ht := hE.tyo hti
  obtain ⟨i, z, h1, h2, h3, h4, h5, h6, h7⟩ := ht.info
  obtain ⟨i', z', g1, g2, g3⟩ := hg
  rw [h1] at g1; cases g1
  rw [h6] at g2; cases g2
  obtain ⟨hz1, hz2⟩ := ht.zeros h7 c.N c.w false
  split at h
  · obtain ⟨c1, k1, k2, k3, k4, k5, k6, k7⟩ := nilN_ok ti.sh.leaves (zero false ti.sh).cells z.cells.toList c hm (fun t y hy => by
      obtain ⟨g1, v, g2, g3, g4⟩ := hz2 t y hy
      exact ⟨v, by simpa using g2, .vi g4⟩)
    have k7 : ∀ (t : Nat) (y : AV), (nilN ti.sh.leaves (zero false ti.sh).cells c.σ).1[t]? = some y → Plain y ∧ ∃ v, z.cells.toList[t]? = some v ∧ V P c1 y v := fun t y hy => by
      obtain ⟨g1, g2⟩ := k7 t y hy
      exact ⟨g1.elim (fun h => (hz2 t y h).1) id, g2⟩
    rw [hσ] at k1 k6 k7
    cases h
    have hofc : (ofCells ti.sh (nilN ti.sh.leaves (zero false ti.sh).cells st.σ).1).cells = (nilN ti.sh.leaves (zero false ti.sh).cells st.σ).1 := by
      refine ofCells_cells ht ?_ fun y hy => (k7 0 y hy).1.2
      rw [k6]; exact hz1
    have hone : ∀ (t : Nat) (y : AV), (nilN ti.sh.leaves (zero false ti.sh).cells st.σ).1[t]? = some y → ∃ v, z.cells.toList[t]? = some v ∧ v.oneCell' = true := by
      intro t y hy
      have hlt : t < (zero false ti.sh).cells.length := by rw [← k6]; exact (List.getElem?_eq_some_iff.1 hy).1
      obtain ⟨g1, v, g2, g3, g4⟩ := hz2 t _ (List.getElem?_eq_getElem hlt)
      exact ⟨v, by simpa using g2, g3⟩
    have hF1 : c1.F b := by rw [k4.F]; exact hF
    obtain ⟨n1, n2, n3⟩ := adopt_ok k3 t ht.ne [ofCells ti.sh (nilN ti.sh.leaves (zero false ti.sh).cells st.σ).1] z.cells 1 b hF1 (by rw [k2]; exact g3) (by rw [ht.zsize h7, ht.cells, Nat.one_mul]) (Nat.le_refl _) (by decide) (by
      intro m el hm'
      cases m with
      | succ m => simp at hm'
      | zero =>
        simp only [List.getElem?_cons_zero, Option.some.injEq] at hm'
        subst hm'
        refine ⟨by rw [hofc, k6, hz1, ht.cells], fun t' y hy => ?_⟩
        rw [hofc] at hy
        obtain ⟨g1, v, g2, g3⟩ := k7 t' y hy
        obtain ⟨v', g4, g5⟩ := hone t' y hy
        rw [g2] at g4; cases g4
        exact ⟨g1, v, by simpa using g2, g5, g3⟩)
    refine ⟨_, by simp [Cx.adopt, k1], rfl, n1, k2, by simp only [Cx.adopt]; rw [k4.F], k4.kv.trans n2.kv, fun x hx => ?_, fun y u hv => n2.V (hv.kp P k4), by rw [← k1]; exact n3 (by simp)⟩
    rcases adopt_O c1 _ _ b hx with hx | hx
    · obtain ⟨r, p, n, hd, hn, hj⟩ := hx
      by_cases hr : r < c.σ.length
      · obtain ⟨l, hl⟩ := k5.σ
        have : nodeAt c.σ r p = some n := by
          unfold nodeAt at hn ⊢
          rw [hl, getD_append_left _ _ _ _ hr] at hn
          exact hn
        rw [k5.j r p hr] at hj
        exact .inl ⟨r, p, n, ((k5.D r).1 hd).resolve_right (by omega), this, hj⟩
      · have h8 := k5.fresh r p x (by omega) (nodeAt_lt hn) hj
        have h9 := Cx.O_lt P k3 ⟨r, p, n, hd, hn, hj⟩
        rw [k2] at h9
        omega
    · exact .inr hx
  · cases h
    obtain ⟨n1, n2, n3⟩ := adopt_ok hm t ht.ne [zero false ti.sh] z.cells 1 b hF g3 (by rw [ht.zsize h7, ht.cells, Nat.one_mul]) (Nat.le_refl _) (by decide) (by
      intro m el hm'
      cases m with
      | succ m => simp at hm'
      | zero =>
        simp only [List.getElem?_cons_zero, Option.some.injEq] at hm'
        subst hm'
        refine ⟨by rw [hz1, ht.cells], fun t' y hy => ?_⟩
        obtain ⟨k1, v, k2, k3, k4⟩ := hz2 t' y hy
        exact ⟨k1, v, by simpa using k2, k3, .vi k4⟩)
    exact ⟨_, by simp [Cx.adopt, St.push, hσ], rfl, n1, rfl, rfl, n2.kv, fun x hx => adopt_O c _ _ b hx, fun y u hv => n2.V hv, by rw [← hσ]; exact n3 (by simp)⟩
end Go.Proofs.YtkicholhkoahhaaIT
