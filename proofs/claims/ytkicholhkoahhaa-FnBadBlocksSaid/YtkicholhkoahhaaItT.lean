/- Cuts; operations in order. No condition beyond what each theorem states. -/
import Derived.Test.YtkicholhkoahhaaItS
import Derived.Deep.LoopGhost
namespace Go.Proofs.YtkicholhkoahhaaIT
open Go
variable {P : Program} {E : Env}

/-- Only the first m roots are kept. -/
def Cx.cut (c : Cx) (m : Nat) : Cx := ⟨c.σ.take m, c.j, c.w, fun r => c.D r ∧ r < m, c.F⟩

theorem getD_take {α : Type} (l : List α) (m r : Nat) (d : α) : (l.take m).getD r d = if r < m then l.getD r d else d := by
  rw [List.getD_eq_getElem?_getD, List.getD_eq_getElem?_getD, List.getElem?_take]
  split <;> rfl
theorem nodeAt_take {σ : List Root} {m r : Nat} {p : List (Nat × Nat)} {n : Nat × List AV} (h : nodeAt (σ.take m) r p = some n) : r < m ∧ nodeAt σ r p = some n := by
  unfold nodeAt at h ⊢
  rw [getD_take] at h
  by_cases hr : r < m
  · rw [if_pos hr] at h; exact ⟨hr, h⟩
  · rw [if_neg hr] at h; cases h
theorem gr_cut (c : Cx) (m : Nat) : Gr c (c.cut m) := by
  refine ⟨rfl, rfl, rfl, Nat.le_refl _, fun _ _ _ => rfl, ?_, rfl⟩
  rintro b ⟨r, p, n, hd, hn, hj⟩
  exact .inl ⟨r, p, n, hd.1, (nodeAt_take hn).2, hj⟩
theorem refsLtL_get {m : Nat} {y : AV} : ∀ {l : List AV} {t : Nat}, refsLtL m l = true → l[t]? = some y → refsLt m y = true := by
  intro l
  induction l with
  | nil => intro t _ h; simp at h
  | cons q l ih =>
    intro t h5 h6
    simp only [refsLtL, Bool.and_eq_true] at h5
    cases t with
    | zero => simp only [List.getElem?_cons_zero, Option.some.injEq] at h6; subst h6; exact h5.1
    | succ t => exact ih (t := t) h5.2 (by simpa using h6)
theorem refsLt_cells {m : Nat} {el y : AV} {t : Nat} (h : refsLt m el = true) (ht : el.cells[t]? = some y) : refsLt m y = true := by
  cases el with
  | agg cs => exact refsLtL_get (l := cs) (by simpa [refsLt] using h) (by simpa [AV.cells] using ht)
  | _ =>
    cases t with
    | zero => simp only [AV.cells, List.getElem?_cons_zero, Option.some.injEq] at ht; subst ht; exact h
    | succ t => simp [AV.cells] at ht
theorem V.cut {c : Cx} {m : Nat} {y : AV} {v : Value} (h : V P c y v) (hm : refsLt m y = true) : V P (c.cut m) y v := by
  induction h with
  | vi h => exact .vi (h.gr (gr_cut c m))
  | sl r p win v hr hd h =>
    have hrm : r < m := by simpa [refsLt] using hm
    exact .sl r p win v (by simp only [Cx.cut, List.length_take]; omega) ⟨hd, hrm⟩ fun te es hn => h te es (nodeAt_take hn).2
  | pt r p k k' v hr hd h h' =>
    have hrm : r < m := by simpa [refsLt] using hm
    exact .pt r p k k' v (by simp only [Cx.cut, List.length_take]; omega) ⟨hd, hrm⟩ (fun te es hn => h te es (nodeAt_take hn).2) fun te es hp hn => h' te es hp (nodeAt_take hn).2
  | agg cs vs hl _ ih => exact .agg cs vs hl fun t y v h1 h2 => ih t y v h1 h2 (refsLtL_get (by simpa [refsLt] using hm) h1)
  | tup cs vs hl _ ih => exact .tup cs vs hl fun t y v h1 h2 => ih t y v h1 h2 (refsLtL_get (by simpa [refsLt] using hm) h1)
  | fn g cs vs hl _ ih => exact .fn g cs vs hl fun t y v h1 h2 => ih t y v h1 h2 (refsLtL_get (by simpa [refsLt] using hm) h1)

theorem mem_cut {c : Cx} (hm : Mem P c) (m : Nat) (hr : ∀ r mv nest e es, r < m → c.σ.getD r .dead = .live mv true nest e es → refsLtL m es = true) : Mem P (c.cut m) := by
  refine ⟨?_, ?_, ?_, out_gr hm.out (gr_cut c m)⟩
  · intro r mv rf te es h
    simp only [Cx.cut] at h
    rw [getD_take] at h
    by_cases h1 : r < m
    · rw [if_pos h1] at h; exact hm.flat _ _ _ _ _ h
    · rw [if_neg h1] at h; cases h
  · intro r p te es hd hn
    obtain ⟨hrm, hn0⟩ := nodeAt_take hn
    have hlit : litAt (c.cut m).σ r p = litAt c.σ r p := by unfold litAt Cx.cut; simp only; rw [getD_take, if_pos hrm]
    rcases hm.node r p te es hd.1 hn0 with h | ⟨hne, b, cs, cap, h1, h2, h3, h4, h5, h6⟩ | ⟨h1, h2, h3, h4⟩
    · exact .inl h
    rotate_left
    · exact .inr (.inr ⟨h1, h2, hlit.trans h3, h4⟩)
    refine .inr (.inl ⟨hne, b, cs, cap, h1, h2, h3, h4, h5, fun k el hel => ⟨(h6 k el hel).1, fun t y hy => ?_⟩⟩)
    obtain ⟨v, g1, g2, g3⟩ := (h6 k el hel).2 t y hy
    refine ⟨v, g1, g2, ?_⟩
    have other : (if litAt c.σ r p then V P c y v else VI c.N c.w y v) → (if litAt (c.cut m).σ r p then V P (c.cut m) y v else VI (c.cut m).N (c.cut m).w y v) := by
      rw [hlit]
      split
      · rename_i hl
        intro hv
        refine hv.cut ?_
        unfold litAt at hl
        cases hroot : c.σ.getD r .dead with
        | dead => rw [hroot] at hl; cases hl
        | live mv rf nest e es' =>
          rw [hroot] at hl
          simp only [Bool.and_eq_true, List.isEmpty_iff] at hl
          obtain ⟨hl1, hl2⟩ := hl
          subst hl2
          rw [hl1] at hroot
          rw [nodeAt_live hroot] at hn0
          cases hn0
          exact refsLt_cells (refsLtL_get (hr r mv nest _ es hrm hroot) hel) hy
      · exact fun hv => hv.gr (gr_cut c m)
    unfold CellR at g3 ⊢
    cases y with
    | nw te' es' => exact g3
    | _ => exact other g3
  · intro r p r' p' n n' b hd hd' hn hn' hj hj'
    exact hm.inj r p r' p' n n' b hd.1 hd'.1 (nodeAt_take hn).2 (nodeAt_take hn').2 hj hj'

/-- Where a walk stands. -/
structure Rel (P : Program) (c0 c : Cx) (st : St) (a : Act) : Prop where
  σ : c.σ = st.σ
  mem : Mem P c
  tm : Tm P c st.t a.tmps
  gr : Gr c0 c
  df : a.defers = []
  kv : KV c0 c

theorem Tm.ren {f : Nat → Option Nat} {c c' : Cx} (k : Kf false f c c') {t : List AV} {tmps : Array Value} (h : Tm P c t tmps) : Tm P c' (renL f t) tmps := by
  refine ⟨by rw [renL_length]; exact h.1, fun i a ha => ?_⟩
  rw [renL_get] at ha
  obtain ⟨y, h1, rfl⟩ := Option.map_eq_some_iff.1 ha
  exact V.ren k (h.2 i y h1) (fun h => by cases h)
theorem Stp.kv {c c' : Cx} {t t' : List AV} (h : Stp c c' t t') : KV c c' := by
  rcases h with ⟨_, k⟩ | ⟨r, _, k⟩ | ⟨f, _, _, _, k⟩
  · exact k.kv
  · exact k.kv
  · exact k
theorem Stp.gr' {c c' : Cx} {t t' : List AV} (h : Stp c c' t t') : Gr c c' := by
  rcases h with ⟨_, k⟩ | ⟨r, _, k⟩ | ⟨f, _, _, k, _⟩
  · exact k.toGr
  · exact k.toGr
  · exact k
theorem Rel.step {c0 c c' : Cx} {st st' : St} {a : Act} {d : Option Tmp} {v : AV} {y : Value} (h : Rel P c0 c st a) (hσ : c'.σ = st'.σ) (hm : Mem P c') (hv : V P c' v y) (hs : Stp c c' st.t st'.t) : Rel P c0 c' (st'.put d v) (a.put d y) := by
  have ht : Tm P c' st'.t a.tmps := by
    rcases hs with ⟨h1, k⟩ | ⟨r, h1, k⟩ | ⟨f, h1, k, _, _⟩
    · rw [h1]; exact h.tm.kp P k
    · rw [h1]; exact h.tm.strike P k
    · rw [h1]; exact Tm.ren k h.tm
  refine ⟨?_, hm, ht.put P d hv, h.gr.trans hs.gr', ?_, h.kv.trans hs.kv⟩
  · rw [hσ]; cases d <;> rfl
  · cases d <;> exact h.df

theorem kv_cut {c0 c : Cx} {m : Nat} (h : KV c0 c) (hl : c0.σ.length ≤ m) : KV c0 (c.cut m) := by
  refine ⟨by simp only [Cx.cut, List.length_take]; have := h.len; omega, fun r hr hd => ⟨h.D r hr hd, by omega⟩, fun r p te es' hr hv hd hn => h.nd r p te es' hr hv hd (nodeAt_take hn).2, fun r p te es b cs el n' hr hv hd hn hn' hj hh => h.blk r p te es b cs el n' hr hv hd hn (nodeAt_take hn').2 hj hh, fun r mv f nest e es hr hro => ?_, fun r mv nest te es' hr hd hro => ?_⟩
  · simp only [Cx.cut] at hro
    rw [getD_take] at hro
    by_cases h1 : r < m
    · rw [if_pos h1] at hro; exact h.rf r mv f nest e es hr hro
    · rw [if_neg h1] at hro; cases hro
  · simp only [Cx.cut] at hro
    rw [getD_take] at hro
    by_cases h1 : r < m
    · rw [if_pos h1] at hro; exact h.rw r mv nest te es' hr hd hro
    · rw [if_neg h1] at hro; cases hro

theorem keepL_get (l : List Nat) : ∀ (n : Nat) (t : List AV) (i : Nat) (a : AV), (keepL l n t)[i]? = some a → ∃ b, t[i]? = some b ∧ (a = b ∨ a = .x)
  | _, [], i, a, h => by simp [keepL] at h
  | n, b :: t, 0, a, h => by
    simp only [keepL, List.getElem?_cons_zero, Option.some.injEq] at h
    refine ⟨b, rfl, ?_⟩
    split at h
    · exact .inl h.symm
    · exact .inr h.symm
  | n, b :: t, i + 1, a, h => by
    simp only [keepL, List.getElem?_cons_succ] at h ⊢
    exact keepL_get l (n + 1) t i a h
theorem keepL_length (l : List Nat) : ∀ (n : Nat) (t : List AV), (keepL l n t).length = t.length
  | _, [] => rfl
  | n, _ :: t => by simp [keepL, keepL_length l (n + 1) t]

theorem take_range {rs : List Nat} {k : Nat} (h : rs.take k = List.range k) {r : Nat} (hr : r < k) : rs[r]? = some r := by
  have h1 := congrArg (fun l => l[r]?) h
  simp only [List.getElem?_take, if_pos hr, List.getElem?_range hr] at h1
  exact h1
theorem kv_ent {c0 c : Cx} {rs : List Nat} {k : Nat} (kv : KV c0 c) (hl : c0.σ.length ≤ k) (hk : rs.take k = List.range k) : KV c0 (c.ent rs true) := by
  have hg : ∀ {r}, r < c0.σ.length → rs[r]? = some r := fun h => take_range hk (by omega)
  have hgd : ∀ {r}, r < c0.σ.length → rs.getD r 0 = r := fun h => getD_get (hg h)
  have hsrc : ∀ {r}, r < c0.σ.length → (c.ent rs true).σ.getD r .dead = renRoot (ixOf rs) (c.σ.getD r .dead) := fun h => getD_map_get _ (hg h)
  have node : ∀ {r p te es'}, r < c0.σ.length → nodeAt (c.ent rs true).σ r p = some (te, es') → ∃ es, nodeAt c.σ r p = some (te, es) ∧ es.length = es'.length := by
    intro r p te es' hr hn
    unfold nodeAt at hn
    rw [hsrc hr] at hn
    obtain ⟨es, h1, h2⟩ := node_renRoot hn
    refine ⟨es, h1, ?_⟩
    rw [h2, apply_ite List.length, renL_length, ite_self]
  have hlen : c0.σ.length ≤ (c.ent rs true).σ.length := by
    have h1 := congrArg List.length hk
    simp only [List.length_take, List.length_range] at h1
    simp only [Cx.ent, List.length_map]
    omega
  refine ⟨hlen, fun r hr hd => ?_, fun r p te es' hr hv hd hn => ?_, fun r p te es b cs el n' hr hv hd hn hn' hj hh => ?_, fun r mv f nest e es hr h => ?_, fun r mv nest te es' hr hd h => ?_⟩
  · simp only [Cx.ent]; rw [hgd hr]; exact kv.D r hr hd
  · obtain ⟨es1, h1, h2⟩ := node hr hn
    obtain ⟨es, h3, h4, h5⟩ := kv.nd r p te es1 hr hv hd h1
    exact ⟨es, h3, h4.trans h2, by simp only [Cx.ent]; rw [hgd hr]; exact h5⟩
  · obtain ⟨te', es'⟩ := n'
    obtain ⟨es1, h1, _⟩ := node hr hn'
    exact kv.blk r p te es b cs el _ hr hv hd hn h1 hj hh
  · rw [hsrc hr] at h
    have flip : ∀ {h : Nat → Option Nat} {ro : Root} {mv f nest : Bool} {e : Nat} {es : List AV}, renRoot h ro = .live mv f nest e es → ∃ mv' nest' e' es', ro = .live mv' f nest' e' es' := by
      intro h ro mv f nest e es hq
      cases ro with
      | dead => cases hq
      | live a b c d e' => cases b <;> (simp only [renRoot] at hq; cases hq; exact ⟨_, _, _, _, rfl⟩)
    obtain ⟨mv1, nest1, e1, es1, h1⟩ := flip h
    exact kv.rf r _ _ _ _ _ hr h1
  · rw [hsrc hr] at h
    have h1 : c.σ.getD r .dead = .live mv false nest te es' := by
      cases hro : c.σ.getD r .dead with
      | dead => rw [hro] at h; cases h
      | live a b c d e' =>
        rw [hro] at h
        cases b with
        | true => simp [renRoot] at h
        | false => simpa [renRoot] using h
    obtain ⟨mv0, nest0, es, h2, h3, h4⟩ := kv.rw r mv nest te es' hr hd h1
    refine ⟨_, _, _, h2, h3, fun he => ?_⟩
    obtain ⟨h5, h6⟩ := h4 he
    exact ⟨by simp only [Cx.ent]; rw [hgd hr]; exact h5, h6⟩
theorem gr_ent (c : Cx) (rs : List Nat) : Gr c (c.ent rs true) := by
  refine ⟨rfl, rfl, rfl, Nat.le_refl _, fun _ _ _ => rfl, fun b h => .inl (Pb_O (ent_O h)), ?_⟩
  funext b
  simp [Cx.ent]

theorem Rel.cut {c0 c : Cx} {st : St} {a : Act} {q : Option (List Nat × Nat)} {R : Type} {K : St → Option R} {r : R} (h : Rel P c0 c st a) (hq : ∀ l m, q = some (l, m) → c0.σ.length ≤ cutK m) (hk : st.cut q K = some r) : ∃ st' c', c'.w = c.w ∧ K st' = some r ∧ Rel P c0 c' st' a := by
  unfold St.cut at hk
  cases q with
  | none => exact ⟨st, c, rfl, hk, h⟩
  | some q =>
    obtain ⟨l, m⟩ := q
    simp only at hk
    have hqm := hq l m rfl
    have htk : Tm P c (keepL l 0 st.t) a.tmps := by
      refine ⟨by rw [keepL_length]; exact h.tm.1, fun i b hb => ?_⟩
      obtain ⟨b0, h3, h4⟩ := keepL_get l 0 st.t i b hb
      rcases h4 with rfl | rfl
      · exact h.tm.2 i b h3
      · exact .vi (.x _)
    unfold cutK at hqm
    split at hk
    rotate_left
    · rename_i hm
      rw [if_neg hm] at hqm
      split at hk <;> try (cases hk; done)
      rename_i hok
      simp only [Bool.and_eq_true, beq_iff_eq] at hok
      obtain ⟨⟨⟨h1, h2⟩, h3⟩, h4⟩ := hok
      obtain ⟨ke, me⟩ := ent_ok (fz := true) h.mem (by rw [h.σ]; exact h4) h1
      exact ⟨_, c.ent (ordOf st.σ (m - 1000000) (keepL l 0 st.t)) true, rfl, hk, by simp only [Cx.ent]; rw [h.σ], me, Tm.ren ke htk, h.gr.trans (gr_ent c _), h.df, kv_ent h.kv hqm h3⟩
    rename_i hm
    rw [if_pos hm] at hqm
    split at hk <;> try (cases hk; done)
    rename_i hok
    simp only [Bool.and_eq_true] at hok
    obtain ⟨h1, h2⟩ := hok
    refine ⟨_, c.cut m, rfl, hk, by simp [Cx.cut, h.σ], mem_cut h.mem m ?_, ⟨by rw [keepL_length]; exact h.tm.1, ?_⟩, h.gr.trans (gr_cut c m), h.df, kv_cut h.kv hqm⟩
    · intro r mv nest e es hrm hr
      have hlt := lt_of_live hr
      have hget : (st.σ.take m)[r]? = some (.live mv true nest e es) := by
        rw [List.getElem?_take, if_pos hrm, ← h.σ]
        rw [List.getD_eq_getElem?_getD, List.getElem?_eq_getElem hlt] at hr
        rw [List.getElem?_eq_getElem hlt]
        exact congrArg some hr
      exact (List.all_eq_true.1 h2) _ (List.mem_of_getElem? hget)
    · intro i b hb
      obtain ⟨b0, h3, h4⟩ := keepL_get l 0 st.t i b hb
      rcases h4 with rfl | rfl
      · exact (h.tm.2 i b h3).cut (refsLtL_get h1 hb)
      · exact .vi (.x _)

theorem List.set_same {α : Type} {l : List α} {i : Nat} {a d : α} (h : l.getD i d = a) : l.set i a = l := by
  apply List.ext_getElem?
  intro j
  rw [List.getElem?_set]
  by_cases hj : i = j
  · subst hj
    rw [if_pos rfl]
    by_cases hl : i < l.length
    · rw [if_pos hl]
      rw [List.getD_eq_getElem?_getD] at h
      rw [List.getElem?_eq_getElem hl] at h ⊢
      exact congrArg some h.symm
    · rw [if_neg hl, List.getElem?_eq_none (by omega)]
  · rw [if_neg hj]

theorem V.inv_u {c : Cx} {v : Value} (h : V P c .u v) : v = undef := by cases h with | vi h => cases h; rfl

theorem yielded_of {ops : Array Oper} {j d : Nat} {tmps : Array Value} {y : Bool} (h1 : (ops.toList[j]?).bind (·.dst) = some d) (h2 : tmps.getD d undef = .bool y) : yielded ops tmps j = some y := by
  have hd : d < tmps.size := by
    rcases Nat.lt_or_ge d tmps.size with h | h
    · exact h
    · simp [h, undef] at h2
  have h3 : (ops[j]?).bind (·.dst) = some d := by rw [← Array.getElem?_toList]; exact h1
  unfold yielded
  rw [h3]
  simp only [Option.bind_some]
  have h4 : tmps[d]? = some (.bool y) := by
    rw [Array.getElem?_eq_getElem hd]
    simp [hd] at h2
    exact congrArg some h2
  rw [h4]
theorem yielded_none {ops : Array Oper} {j d : Nat} {tmps : Array Value} (h1 : (ops.toList[j]?).bind (·.dst) = some d) (h2 : tmps.getD d undef = undef) : yielded ops tmps j = none := by
  have h3 : (ops[j]?).bind (·.dst) = some d := by rw [← Array.getElem?_toList]; exact h1
  unfold yielded
  rw [h3]
  simp only [Option.bind_some]
  cases hd : tmps[d]? with
  | none => rfl
  | some v =>
    have : v = undef := by rw [← h2, Array.getD_eq_getD_getElem?, hd]; rfl
    rw [this]
    rfl

theorem ops_ok {ops : Array Oper} {C : Cal} {c0 : Cx} {R : Type} {K : St → Option R} {r : R} {Q : Exit → Act → World → Prop} (hE : EnvOk P E) (hC : CalOk P E C)
    (hQ : ∀ st' c' a', K st' = some r → Rel P c0 c' st' a' → Q .normal a' c'.w) : ∀ (l : List Oper) (st : St) (c : Cx) (a : Act), Rel P c0 c st a → evOps E C ops.toList l st K = some r → wpList P ops Q l a c.w
  | [], st, c, a, h, hk => hQ st c a hk h
  | o :: rest, st, c, a, h, hk => by
    have one : ∀ {st : St}, Rel P c0 c st a → (evOp E C o st fun v st' => evOps E C ops.toList rest (st'.put o.dst v) K) = some r → o.wp P a c.w (wpList P ops Q rest) Q := by
      intro st h hk
      obtain ⟨v, st', h1, h2⟩ := op_ok (a := a) (c := c) hE hC h.σ h.mem (fun x _ => h.tm.ev P x) hk
      exact h2 _ _ fun c' y g1 g2 g3 g4 _ _ => ops_ok hE hC hQ rest _ c' _ (h.step g1 g2 g3 g4) h1
    have skip : ∀ {st : St}, Rel P c0 c st a → evOps E C ops.toList rest (st.put o.dst .u) K = some r → wpList P ops Q rest (a.put o.dst undef) c.w :=
      fun h hk => ops_ok hE hC hQ rest _ c _ (h.step h.σ h.mem (.vi .u) (.inl ⟨rfl, Kp.refl c⟩)) hk
    unfold wpList
    unfold evOps at hk
    cases hg : o.guard with
    | none =>
      rw [hg] at hk
      simp only at hk
      rw [if_pos (by simp [Region.wanted, hg])]
      exact .inl (one h hk)
    | some g =>
      obtain ⟨j, want⟩ := g
      rw [hg] at hk
      simp only at hk
      split at hk <;> try (cases hk; done)
      rename_i d hd
      have htd := h.tm.at_ P d
      split at hk <;> try (cases hk; done)
      · rename_i y hy
        rw [hy] at htd
        have hyl := yielded_of hd htd.inv_b
        by_cases hw : y = want
        · subst hw
          rw [if_pos (by simp [Region.wanted, hg, hyl])]
          simp only [beq_self_eq_true, cond_true] at hk
          rw [List.set_same hy] at hk
          exact .inl (one h hk)
        · rw [if_neg (by simp [Region.wanted, hg, hyl]; exact hw)]
          have hne : (y == want) = false := by simpa using hw
          rw [hne, cond_false] at hk
          have hy2 : y = !want := by cases y <;> cases want <;> simp_all
          rw [← hy2, List.set_same hy] at hk
          exact skip h hk
      · rename_i hy
        rw [hy] at htd
        have hu : a.tmps.getD d undef = undef := htd.inv_u
        have hyl := yielded_none hd hu
        rw [if_neg (by simp [Region.wanted, hg, hyl])]
        exact skip h hk
end Go.Proofs.YtkicholhkoahhaaIT
