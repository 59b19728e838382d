/- Memory that is handed on: renaming. No condition beyond what each theorem states. -/
import Derived.Test.YtkicholhkoahhaaItR
namespace Go.Proofs.YtkicholhkoahhaaIT
open Go
variable {P : Program} {E : Env}

/-! Renaming of trees. -/
theorem renL_get (f : Nat → Option Nat) : ∀ (l : List AV) (i : Nat), (renL f l)[i]? = (l[i]?).map (ren f)
  | [], i => by simp [renL]
  | a :: l, 0 => by simp [renL]
  | a :: l, i + 1 => by simpa [renL] using renL_get f l i
theorem renL_length (f : Nat → Option Nat) : ∀ l : List AV, (renL f l).length = l.length
  | [] => rfl
  | a :: l => by simp [renL, renL_length f l]
theorem renL_map (f : Nat → Option Nat) (l : List AV) : renL f l = l.map (ren f) := by
  apply List.ext_getElem?
  intro i
  rw [renL_get, List.getElem?_map]
theorem ren_cells (f : Nat → Option Nat) (a : AV) : (ren f a).cells = renL f a.cells := by
  cases a with
  | sl r p w => simp only [ren, AV.cells]; cases h : f r <;> simp [renL, ren, h]
  | pt r p m k => simp only [ren, AV.cells]; cases h : f r <;> simp [renL, ren, h]
  | _ => rfl
theorem ren_nw (f : Nat → Option Nat) (a : AV) (te : Nat) (es : List AV) : ren f a = .nw te es ↔ a = .nw te es := by
  cases a <;> simp only [ren] <;> (try split) <;> simp
theorem VI.ren_eq {N : Nat → Prop} {w : World} {a : AV} {v : Value} (f : Nat → Option Nat) (h : VI N w a v) : ren f a = a := by
  have lst : ∀ (cs : List AV) (vs : List Value), cs.length = vs.length → (∀ (t : Nat) (y : AV) (v : Value), cs[t]? = some y → vs[t]? = some v → ren f y = y) → renL f cs = cs := by
    intro cs vs hl ih
    apply List.ext_getElem?
    intro i
    rw [renL_get]
    cases hc : cs[i]? with
    | none => rfl
    | some y =>
      have hi : i < vs.length := by rw [← hl]; exact (List.getElem?_eq_some_iff.1 hc).1
      simp only [Option.map_some]
      rw [ih i y _ hc (List.getElem?_eq_getElem hi)]
  induction h with
  | agg cs vs hl _ ih => simp only [ren]; rw [lst cs vs hl ih]
  | tup cs vs hl _ ih => simp only [ren]; rw [lst cs vs hl ih]
  | fn g cs vs hl _ ih => simp only [ren]; rw [lst cs vs hl ih]
  | _ => rfl

theorem nodeOf_renL (f : Nat → Option Nat) (e : Nat) (es : List AV) (m k : Nat) (p : List (Nat × Nat)) : nodeOf e (renL f es) ((m, k) :: p) = nodeOf e es ((m, k) :: p) := by
  simp only [nodeOf]
  rw [renL_get]
  cases hm : es[m]? with
  | none => rfl
  | some el =>
    simp only [Option.map_some]
    rw [ren_cells, renL_get]
    cases hk : el.cells[k]? with
    | none => rfl
    | some y =>
      simp only [Option.map_some]
      by_cases hy : ∃ te es', y = .nw te es'
      · obtain ⟨te, es', rfl⟩ := hy
        simp only [ren]
      · have h1 : ∀ te es', ren f y ≠ .nw te es' := fun te es' h => hy ⟨te, es', (ren_nw f y te es').1 h⟩
        have h2 : ∀ te es', y ≠ .nw te es' := fun te es' h => hy ⟨te, es', h⟩
        generalize ren f y = q at h1 ⊢
        cases q <;> first | (cases y <;> first | rfl | exact absurd rfl (h2 _ _)) | exact absurd rfl (h1 _ _)

/-- A node of a renamed root. -/
theorem node_renRoot {f : Nat → Option Nat} {ro : Root} {p : List (Nat × Nat)} {te : Nat} {es' : List AV} (h : (renRoot f ro).node p = some (te, es')) :
    ∃ es, ro.node p = some (te, es) ∧ es' = if isVar ro && p.isEmpty then renL f es else es := by
  cases ro with
  | dead => simp [renRoot, Root.node] at h
  | live mv rf nest e es =>
    cases rf with
    | false => exact ⟨es', h, by simp [isVar]⟩
    | true =>
      simp only [renRoot, Root.node] at h ⊢
      cases p with
      | nil =>
        simp only [nodeOf, Option.some.injEq, Prod.mk.injEq] at h ⊢
        obtain ⟨rfl, rfl⟩ := h
        exact ⟨es, ⟨rfl, rfl⟩, by simp [isVar]⟩
      | cons q p =>
        obtain ⟨m, k⟩ := q
        rw [nodeOf_renL] at h
        exact ⟨es', h, by simp⟩
theorem renRoot_var (f : Nat → Option Nat) (ro : Root) : isVar (renRoot f ro) = isVar ro := by
  cases ro with
  | dead => rfl
  | live mv rf nest e es => cases rf <;> rfl

theorem SlR.kf {zz : Bool} {f : Nat → Option Nat} {c c' : Cx} (k : Kf zz f c c') {r i : Nat} {p : List (Nat × Nat)} {te : Nat} {es : List AV} {win : Option (Nat × Nat)} {v : Value} {n' : Nat × List AV} (hr : r < c.σ.length) (hd : c.D r) (hf : f r = some i) (hn : nodeAt c.σ r p = some (te, es)) (hn' : nodeAt c'.σ i p = some n')
    (h : SlR P c.w (c.j r p) te es.length win v) : SlR P c'.w (c.j r p) te es.length win v := by
  cases hj : c.j r p with
  | none => rw [hj] at h; exact h
  | some b =>
    rw [hj] at h
    obtain ⟨cap, cs, h1, h2, h3⟩ := h
    obtain ⟨cs', h4, h5⟩ := k.blk r i p te es b cs te n' hr hd hf hn hn' hj h1
    exact ⟨cap, cs', h4, h5.trans h2, h3⟩
theorem flatVL_get : ∀ {l : List AV} {t : Nat} {y : AV}, flatVL l = true → l[t]? = some y → flatV y = true
  | [], _, _, _, h => by simp at h
  | a :: l, t, y, h, ht => by
    simp only [flatVL, Bool.and_eq_true] at h
    cases t with
    | zero => simp only [List.getElem?_cons_zero, Option.some.injEq] at ht; subst ht; exact h.1
    | succ t => exact flatVL_get h.2 (by simpa using ht)
theorem flat_cells {el : AV} {t : Nat} {y : AV} (h : flatV el = true) (ht : el.cells[t]? = some y) : flatV y = true := by
  cases el with
  | agg cs => exact flatVL_get (by simpa [flatV] using h) (by simpa [AV.cells] using ht)
  | _ =>
    cases t with
    | zero => simp only [AV.cells, List.getElem?_cons_zero, Option.some.injEq] at ht; subst ht; exact h
    | succ t => simp [AV.cells] at ht
theorem VI.flat {N N' : Nat → Prop} {w w' : World} {y : AV} {v : Value} (h : VI N w y v) (hf : flatV y = true) : VI N' w' y v := by
  induction h with
  | i k n => exact .i k n
  | b y => exact .b y
  | s y => exact .s y
  | imm0 => cases hf
  | imm => cases hf
  | nils A => exact .nils A
  | ip => cases hf
  | agg cs vs hl _ ih => exact .agg cs vs hl fun t y v h1 h2 => ih t y v h1 h2 (flatVL_get (by simpa [flatV] using hf) h1)
  | tup cs vs hl _ ih => exact .tup cs vs hl fun t y v h1 h2 => ih t y v h1 h2 (flatVL_get (by simpa [flatV] using hf) h1)
  | fn g cs vs hl _ ih => exact .fn g cs vs hl fun t y v h1 h2 => ih t y v h1 h2 (flatVL_get (by simpa [flatV] using hf) h1)
  | nilp => exact .nilp
  | u => exact .u
  | x v => exact .x v
theorem V.ren {zz : Bool} {f : Nat → Option Nat} {c c' : Cx} (k : Kf zz f c c') {a : AV} {v : Value} (h : V P c a v) (hz : zz = true → flatV a = true) : V P c' (YtkicholhkoahhaaIT.ren f a) v := by
  have lst : ∀ (cs : List AV) (vs : List Value), (∀ (t : Nat) (y : AV) (v : Value), cs[t]? = some y → vs[t]? = some v → (zz = true → flatV y = true) → V P c' (YtkicholhkoahhaaIT.ren f y) v) → (zz = true → flatVL cs = true) →
      ∀ (t : Nat) (y : AV) (v : Value), (renL f cs)[t]? = some y → vs[t]? = some v → V P c' y v := by
    intro cs vs ih hz t y v h1 h2
    rw [renL_get] at h1
    obtain ⟨y0, h3, rfl⟩ := Option.map_eq_some_iff.1 h1
    exact ih t y0 v h3 h2 fun hq => flatVL_get (hz hq) h3
  induction h with
  | vi h => rw [h.ren_eq f]; exact .vi (k.vi _ _ hz h)
  | sl r p win v hr hd h =>
    simp only [YtkicholhkoahhaaIT.ren]
    cases hf : f r with
    | none => exact .vi (.x _)
    | some i =>
      obtain ⟨hi, hdi⟩ := k.D r i hr hd hf
      refine .sl i p win v hi hdi fun te es' hn => ?_
      obtain ⟨es, h1, h2, h3⟩ := k.nd r i p te es' hr hd hf hn
      rw [h3, ← h2]
      exact SlR.kf k hr hd hf h1 hn (h te es h1)
  | pt r p m k' v hr hd h h' =>
    simp only [YtkicholhkoahhaaIT.ren]
    cases hf : f r with
    | none => exact .vi (.x _)
    | some i =>
      obtain ⟨hi, hdi⟩ := k.D r i hr hd hf
      refine .pt i p m k' v hi hdi (fun te es' hn => ?_) fun te es' hp hn => ?_
      · obtain ⟨es, h1, h2, h3⟩ := k.nd r i p te es' hr hd hf hn
        rw [h3, ← h2]
        exact h te es h1
      · obtain ⟨es, h1, _, h3⟩ := k.nd r i [] te es' hr hd hf hn
        rw [h3]
        exact h' te es hp h1
  | agg cs vs hl _ ih => simp only [YtkicholhkoahhaaIT.ren]; exact .agg _ vs (by rw [renL_length]; exact hl) (lst cs vs ih fun h => by simpa [flatV] using hz h)
  | tup cs vs hl _ ih => simp only [YtkicholhkoahhaaIT.ren]; exact .tup _ vs (by rw [renL_length]; exact hl) (lst cs vs ih fun h => by simpa [flatV] using hz h)
  | fn g cs vs hl _ ih => simp only [YtkicholhkoahhaaIT.ren]; exact .fn g _ vs (by rw [renL_length]; exact hl) (lst cs vs ih fun h => by simpa [flatV] using hz h)

theorem nest0_spec {σ : List Root} (h : σ.all nest0 = true) {r : Nat} {mv rf nest : Bool} {e : Nat} {es : List AV} (hr : σ.getD r .dead = .live mv rf nest e es) : nest = false := by
  have hlt := lt_of_live hr
  have h1 := List.all_eq_true.1 h _ (List.getElem_mem hlt)
  rw [List.getD_eq_getElem?_getD, List.getElem?_eq_getElem hlt] at hr
  simp only [Option.getD_some] at hr
  rw [hr] at h1
  simpa [nest0] using h1
theorem flat_at {c : Cx} (hm : Mem P c) (h0 : c.σ.all nest0 = true) {r : Nat} {p : List (Nat × Nat)} {te : Nat} {es : List AV} (h : nodeAt c.σ r p = some (te, es)) : p = [] ∧ ∃ mv rf, c.σ.getD r .dead = .live mv rf false te es := by
  obtain ⟨mv, rf, nest, e, es0, hr⟩ := nodeAt_isLive h
  obtain rfl := nest0_spec h0 hr
  unfold nodeAt at h
  rw [hr] at h
  obtain ⟨h1, h2⟩ := (hm.flat _ _ _ _ _ hr).node h
  cases h2
  exact ⟨h1, mv, rf, hr⟩
theorem flat_ren {f : Nat → Option Nat} {es : List AV} (h : Flat es) : Flat (renL f es) := by
  intro m el t te' es' h1 h2
  rw [renL_get] at h1
  obtain ⟨e0, h3, rfl⟩ := Option.map_eq_some_iff.1 h1
  rw [ren_cells, renL_get] at h2
  obtain ⟨y, h4, h5⟩ := Option.map_eq_some_iff.1 h2
  exact h m e0 t te' es' h3 (((ren_nw f y te' es').1 h5) ▸ h4)

/-- Where a root of a context comes from. -/
structure From (P : Program) (c' : Cx) (i : Nat) (c0 : Cx) (f : Nat → Option Nat) (r : Nat) : Prop where
  k : ∃ z, Kf z f c0 c' ∧ (z = true → flatRoot (c0.σ.getD r .dead) = true)
  mem : Mem P c0
  n0 : c0.σ.all nest0 = true
  D : c'.D i → c0.D r
  fr : f r = some i
  ro : c'.σ.getD i .dead = renRoot f (c0.σ.getD r .dead)
  hb : c'.D i → ∀ b, c0.j r [] = some b → c'.w.heap[b]? = c0.w.heap[b]?

theorem From.live {c' c0 : Cx} {i r : Nat} {f : Nat → Option Nat} (h : From P c' i c0 f r) {mv rf nest : Bool} {e : Nat} {es : List AV} (hr : c'.σ.getD i .dead = .live mv rf nest e es) :
    ∃ es0, c0.σ.getD r .dead = .live mv rf false e es0 ∧ nest = false ∧ es = if rf then renL f es0 else es0 := by
  have h1 := h.ro
  rw [hr] at h1
  cases h2 : c0.σ.getD r .dead with
  | dead => rw [h2] at h1; cases h1
  | live mv0 rf0 nest0 e0 es0 =>
    obtain rfl := nest0_spec h.n0 h2
    rw [h2] at h1
    cases rf0 with
    | false => simp only [renRoot] at h1; cases h1; exact ⟨_, rfl, rfl, rfl⟩
    | true => simp only [renRoot] at h1; cases h1; exact ⟨_, rfl, rfl, rfl⟩

theorem From.node {c' c0 : Cx} {i r : Nat} {f : Nat → Option Nat} (h : From P c' i c0 f r) (hd : c'.D i) {mv rf nest : Bool} {e : Nat} {es : List AV} (hr : c'.σ.getD i .dead = .live mv rf nest e es) : NodeR P c' i [] e es ∧ c'.j i [] = c0.j r [] := by
  obtain ⟨es0, h1, rfl, h3⟩ := h.live hr
  obtain ⟨zz, hk, hzz⟩ := h.k
  have hfl : ∀ (m : Nat) (el : AV) (t : Nat) (y : AV), es0[m]? = some el → el.cells[t]? = some y → zz = true → flatV y = true := by
    intro m el t y g1 g2 g3
    have := hzz g3
    rw [h1] at this
    exact flat_cells (flatVL_get (by simpa [flatRoot] using this) g1) g2
  have hlt := lt_of_live h1
  have hd0 := h.D hd
  obtain ⟨es1, h4, h5, h6⟩ := hk.nd r i [] e es hlt hd0 h.fr (nodeAt_live hr)
  rw [nodeAt_live h1] at h4
  cases h4
  refine ⟨?_, h6⟩
  have hflat := h.mem.flat _ _ _ _ _ h1
  have hlit : litAt c0.σ r [] = rf := by unfold litAt; rw [h1]; simp
  have hlit' : litAt c'.σ i [] = rf := by unfold litAt; rw [hr]; simp
  rcases h.mem.node r [] e es0 hd0 (nodeAt_live h1) with ⟨g1, g2⟩ | ⟨hne, b, cs, cap, g1, g2, g3, g4, g5, g6⟩ | ⟨g1, g2, g3, b, ents, clock, ks, g4, g5, g6⟩
  · subst g1
    refine .inl ⟨?_, h6.trans g2⟩
    rw [h3]; split <;> rfl
  rotate_left
  · rw [hlit] at g3
    refine .inr (.inr ⟨g1, g2, hlit'.trans g3, b, ents, clock, ks, h6.trans g4, (h.hb hd b g4).trans g5, ?_⟩)
    rw [h3, g3]
    simpa using g6
  · refine .inr (.inl ⟨hne, b, cs, cap, h6.trans g1, (h.hb hd b g1).trans g2, g3, by rw [← h5]; exact g4, g5, fun m el hel => ?_⟩)
    have key : ∃ el0, es0[m]? = some el0 ∧ el = if rf then YtkicholhkoahhaaIT.ren f el0 else el0 := by
      rw [h3] at hel
      cases rf with
      | false => exact ⟨el, hel, rfl⟩
      | true =>
        simp only [if_true] at hel
        rw [renL_get] at hel
        obtain ⟨el0, k1, k2⟩ := Option.map_eq_some_iff.1 hel
        exact ⟨el0, k1, k2.symm⟩
    obtain ⟨el0, k1, k2⟩ := key
    obtain ⟨k3, k4⟩ := g6 m el0 k1
    have kc : el.cells = if rf then renL f el0.cells else el0.cells := by
      rw [k2]; cases rf with
      | false => rfl
      | true => exact ren_cells f el0
    refine ⟨by rw [kc]; cases rf <;> simp [renL_length, k3], fun t y hy => ?_⟩
    rw [kc] at hy
    have key2 : ∃ y0, el0.cells[t]? = some y0 ∧ y = if rf then YtkicholhkoahhaaIT.ren f y0 else y0 := by
      cases rf with
      | false => exact ⟨y, hy, rfl⟩
      | true =>
        simp only [if_true] at hy
        rw [renL_get] at hy
        obtain ⟨y0, q1, q2⟩ := Option.map_eq_some_iff.1 hy
        exact ⟨y0, q1, q2.symm⟩
    obtain ⟨y0, q1, q2⟩ := key2
    obtain ⟨v, q3, q4, q5⟩ := k4 t y0 q1
    refine ⟨v, q3, q4, ?_⟩
    have hnw : ∀ te es, y0 ≠ .nw te es := by rintro te es rfl; exact hflat m el0 t te es k1 q1
    have q6 : if rf then V P c0 y0 v else VI c0.N c0.w y0 v := by
      unfold CellR at q5
      rw [hlit] at q5
      split at q5
      · rename_i te es; exact absurd rfl (hnw te es)
      · exact q5
    have hnw' : ∀ te es, y ≠ .nw te es := by
      rintro te es rfl
      cases rf with
      | false => exact hnw te es q2.symm
      | true => exact hnw te es ((ren_nw f y0 te es).1 q2.symm)
    have q7 : if rf then V P c' y v else VI c'.N c'.w y v := by
      rw [q2]
      cases rf with
      | false => exact hk.vi _ _ (hfl m el0 t y0 k1 q1) q6
      | true => exact V.ren hk q6 (hfl m el0 t y0 k1 q1)
    unfold CellR
    rw [hlit']
    split
    · rename_i te es; exact absurd rfl (hnw' te es)
    · exact q7

theorem mem_from {c' : Cx} (ho : ∀ i mv rf nest e es, c'.σ.getD i .dead = .live mv rf nest e es → ∃ c0 f r, From P c' i c0 f r)
    (hinj : ∀ i i' b, c'.D i → c'.D i' → (∃ n, nodeAt c'.σ i [] = some n) → (∃ n, nodeAt c'.σ i' [] = some n) → c'.j i [] = some b → c'.j i' [] = some b → i = i')
    (hout : ∀ b, c'.F b → b < c'.w.heap.size ∧ ¬ c'.O b) : Mem P c' := by
  have flat : ∀ i mv rf nest e es, c'.σ.getD i .dead = .live mv rf nest e es → nest = false ∧ Flat es := by
    intro i mv rf nest e es hr
    obtain ⟨c0, f, r, h⟩ := ho i mv rf nest e es hr
    obtain ⟨es0, h1, h2, h3⟩ := h.live hr
    have := h.mem.flat _ _ _ _ _ h1
    refine ⟨h2, ?_⟩
    rw [h3]
    cases rf with
    | false => exact this
    | true => exact flat_ren this
  have pnil : ∀ i p n, nodeAt c'.σ i p = some n → p = [] := by
    intro i p n hn
    obtain ⟨mv, rf, nest, e, es, hr⟩ := nodeAt_isLive hn
    unfold nodeAt at hn
    rw [hr] at hn
    exact ((flat i _ _ _ _ _ hr).2.node hn).1
  refine ⟨fun r mv rf te es hr => (flat r _ _ _ _ _ hr).2, fun i p te es hd hn => ?_, fun i p i' p' n n' b hd hd' hn hn' hj hj' => ?_, hout⟩
  · obtain rfl := pnil i p _ hn
    obtain ⟨mv, rf, nest, e, es0, hr⟩ := nodeAt_isLive hn
    rw [nodeAt_live hr] at hn
    cases hn
    obtain ⟨c0, f, r, h⟩ := ho i mv rf nest _ _ hr
    exact (h.node hd hr).1
  · obtain rfl := pnil i p _ hn
    obtain rfl := pnil i' p' _ hn'
    exact ⟨hinj i i' b hd hd' ⟨_, hn⟩ ⟨_, hn'⟩ hj hj', rfl⟩

mutual
theorem ren_some_id : ∀ a : AV, ren some a = a
  | .sl _ _ _ => rfl
  | .pt _ _ _ _ => rfl
  | .agg cs => by simp only [ren, renL_some_id cs]
  | .tup cs => by simp only [ren, renL_some_id cs]
  | .fn _ cs => by simp only [ren, renL_some_id cs]
  | .i _ _ | .b _ | .s _ | .imm _ _ | .nw _ _ | .nils | .ip _ _ | .nilp | .u | .x => rfl
theorem renL_some_id : ∀ l : List AV, renL some l = l
  | [] => rfl
  | a :: l => by simp only [renL, ren_some_id a, renL_some_id l]
end

/-! New numbers. -/
theorem ixOf_some : ∀ {rs : List Nat} {r i : Nat}, ixOf rs r = some i → rs[i]? = some r
  | [], _, _, h => by cases h
  | q :: rs, r, i, h => by
    simp only [ixOf] at h
    by_cases hq : q = r
    · rw [if_pos hq] at h; cases h; simp [hq]
    · rw [if_neg hq] at h
      obtain ⟨k, h1, rfl⟩ := Option.map_eq_some_iff.1 h
      simpa using ixOf_some h1
theorem ixOf_get : ∀ {rs : List Nat} {r i : Nat}, nodupB rs = true → rs[i]? = some r → ixOf rs r = some i
  | [], _, _, _, h => by simp at h
  | q :: rs, r, i, hn, h => by
    simp only [nodupB, Bool.and_eq_true, Bool.not_eq_true'] at hn
    cases i with
    | zero => simp only [List.getElem?_cons_zero, Option.some.injEq] at h; simp [ixOf, h]
    | succ i =>
      simp only [List.getElem?_cons_succ] at h
      have hne : q ≠ r := by
        rintro rfl
        have := List.mem_of_getElem? h
        have h2 : rs.contains q = true := by simpa using this
        rw [hn.1] at h2; cases h2
      simp only [ixOf, if_neg hne, ixOf_get hn.2 h, Option.map_some]
end Go.Proofs.YtkicholhkoahhaaIT
