/- Regions whose order is open. No condition beyond what each theorem states. -/
import Derived.Test.YtkicholhkoahhaaItX
import Derived.Orders
namespace Go.Proofs.YtkicholhkoahhaaIT
open Go
variable {P : Program} {E : Env}

theorem allIx_spec {α : Type} {p : Nat → α → Bool} : ∀ {l : List α} {n : Nat}, allIx p n l = true → ∀ {k : Nat} {a : α}, l[k]? = some a → p (n + k) a = true
  | [], _, _, _, _, h => by simp at h
  | b :: l, n, h, k, a, hk => by
    simp only [allIx, Bool.and_eq_true] at h
    cases k with
    | zero => simp only [List.getElem?_cons_zero, Option.some.injEq] at hk; subst hk; exact h.1
    | succ k =>
      have := allIx_spec (l := l) h.2 (k := k) (a := a) (by simpa using hk)
      rw [show n + (k + 1) = n + 1 + k by omega]; exact this

def Deps (listed : Nat → Prop) (o : Oper) : Prop := ∀ e ∈ o.after, Region.binds .any e = true → listed e.on

theorem befOf_bit {acc : List Nat} {o : Oper} {i : Nat} (h : (befOf acc o).testBit i = true) : ∃ e ∈ o.after, Region.binds .any e = true ∧ (e.on = i ∨ (acc.getD e.on 0).testBit i = true) := by
  have key : ∀ (l : List Edge) (s : Nat), (l.foldl (fun s e => if Region.binds .any e then s ||| 2 ^ e.on ||| acc.getD e.on 0 else s) s).testBit i = true →
      s.testBit i = true ∨ ∃ e ∈ l, Region.binds .any e = true ∧ (e.on = i ∨ (acc.getD e.on 0).testBit i = true) := by
    intro l
    induction l with
    | nil => intro s h; exact .inl h
    | cons e l ih =>
      intro s h
      rw [List.foldl_cons] at h
      rcases ih _ h with h1 | ⟨e', h1, h2⟩
      · by_cases hb : Region.binds .any e = true
        · rw [if_pos hb] at h1
          simp only [Nat.testBit_or, Nat.testBit_two_pow, Bool.or_eq_true, decide_eq_true_eq] at h1
          rcases h1 with (h1 | h1) | h1
          · exact .inl h1
          · exact .inr ⟨e, by simp, hb, .inl h1⟩
          · exact .inr ⟨e, by simp, hb, .inr h1⟩
        · rw [if_neg hb] at h1; exact .inl h1
      · exact .inr ⟨e', by simp [h1], h2⟩
  rcases key _ _ h with h | ⟨e, h1, h2⟩
  · simp at h
  · exact ⟨e, Array.mem_toList_iff.1 h1, h2⟩

theorem bef_spec {all : List Oper} {listed : Nat → Prop} (hb : ∀ k o, all[k]? = some o → ∀ e ∈ o.after, Region.binds .any e = true → e.on < k)
    (hc : ∀ k o, listed k → all[k]? = some o → Deps listed o) :
    ∀ k o, all[k]? = some o → Deps listed o → ∀ i, ((befL all []).getD k 0).testBit i = true → i < k ∧ listed i := by
  let Good : List Nat → Prop := fun acc => ∀ k o, k < acc.length → all[k]? = some o → Deps listed o → ∀ i, (acc.getD k 0).testBit i = true → i < k ∧ listed i
  have key : ∀ (os pre : List Oper) (acc : List Nat), all = pre ++ os → acc.length = pre.length → Good acc → Good (befL os acc) ∧ (befL os acc).length = all.length := by
    intro os
    induction os with
    | nil => intro pre acc h1 h2 h3; exact ⟨h3, by simp [befL, h1, h2]⟩
    | cons o os ih =>
      intro pre acc h1 h2 h3
      refine ih (pre ++ [o]) (acc ++ [befOf acc o]) (by simp [h1]) (by simp [h2]) ?_
      intro k o' hk ho hd i hi
      by_cases hka : k < acc.length
      · rw [getD_append_left _ _ _ _ hka] at hi
        exact h3 k o' hka ho hd i hi
      · have hke : k = acc.length := by simp at hk; omega
        subst hke
        rw [getD_append_new] at hi
        have hoo : o' = o := by rw [h1, h2] at ho; simpa using ho.symm
        subst hoo
        obtain ⟨e, he, hbd, h4⟩ := befOf_bit hi
        have hlt := hb _ _ ho e he hbd
        have hl := hd e he hbd
        rcases h4 with rfl | h4
        · exact ⟨hlt, hl⟩
        · have hlen : e.on < all.length := Nat.lt_trans hlt (List.getElem?_eq_some_iff.1 ho).1
          obtain ⟨g1, g2⟩ := h3 e.on _ hlt (List.getElem?_eq_getElem hlen) (hc _ _ hl (List.getElem?_eq_getElem hlen)) i h4
          exact ⟨by omega, g2⟩
  intro k o hk hd i hi
  obtain ⟨h1, h2⟩ := key all [] [] rfl rfl (by intro k o hk; simp at hk)
  exact h1 k o (by rw [h2]; exact (List.getElem?_eq_some_iff.1 hk).1) hk hd i hi

/-! The trace of an evaluation in order. -/
def StepAt (E : Env) (C : Cal) (ops : List Oper) (o : Oper) (s s' : St) : Prop :=
  (∃ v s1, evOp E C o s (fun v s => some (v, s)) = some (v, s1) ∧ s' = s1.put o.dst v ∧ (o.guard = none ∨ ∃ j want d, o.guard = some (j, want) ∧ (ops[j]?).bind (·.dst) = some d ∧ s.t.getD d .x = .b want)) ∨
  (s' = s.put o.dst .u ∧ ∃ j want d, o.guard = some (j, want) ∧ (ops[j]?).bind (·.dst) = some d ∧ (s.t.getD d .x = .b (!want) ∨ s.t.getD d .x = .u))

theorem evOp_pair {C : Cal} {o : Oper} {st : St} {R : Type} {K : AV → St → Option R} {r : R} (h : evOp E C o st K = some r) : ∃ v s, K v s = some r ∧ evOp E C o st (fun v s => some (v, s)) = some (v, s) := by
  obtain ⟨v, s, h1, N, h2⟩ := evOp_out (Cn := fun _ => C) (.const _) h
  exact ⟨v, s, h1, h2 N (Nat.le_refl _) _⟩

theorem evOps_trace {C : Cal} {ops : List Oper} {R : Type} {K : St → Option R} {r : R} : ∀ {l : List Oper} {st : St}, evOps E C ops l st K = some r →
    ∃ tr : Nat → St, tr 0 = st ∧ K (tr l.length) = some r ∧ ∀ (i : Nat) (o : Oper), l[i]? = some o → StepAt E C ops o (tr i) (tr (i + 1))
  | [], st, h => ⟨fun _ => st, rfl, h, fun i o h => by simp at h⟩
  | o :: rest, st, h => by
    have fin : ∀ s', StepAt E C ops o st s' → evOps E C ops rest s' K = some r → ∃ tr : Nat → St, tr 0 = st ∧ K (tr (o :: rest).length) = some r ∧ ∀ (i : Nat) (q : Oper), (o :: rest)[i]? = some q → StepAt E C ops q (tr i) (tr (i + 1)) := by
      intro s' hs hk
      obtain ⟨tr, h1, h2, h3⟩ := evOps_trace hk
      refine ⟨fun n => match n with | 0 => st | n + 1 => tr n, rfl, h2, fun i q hq => ?_⟩
      cases i with
      | zero => simp only [List.getElem?_cons_zero, Option.some.injEq] at hq; subst hq; simp only; rw [h1]; exact hs
      | succ i => exact h3 i q (by simpa using hq)
    unfold evOps at h
    cases hg : o.guard with
    | none =>
      rw [hg] at h
      simp only at h
      obtain ⟨v, s1, h1, h2⟩ := evOp_pair h
      exact fin _ (.inl ⟨v, s1, h2, rfl, .inl hg⟩) h1
    | some q =>
      obtain ⟨j, want⟩ := q
      rw [hg] at h
      simp only at h
      split at h <;> try (cases h; done)
      rename_i d hd
      split at h <;> try (cases h; done)
      · rename_i y hy
        by_cases hw : y = want
        · subst hw
          simp only [beq_self_eq_true, cond_true] at h
          rw [List.set_same hy] at h
          obtain ⟨v, s1, h1, h2⟩ := evOp_pair h
          exact fin _ (.inl ⟨v, s1, h2, rfl, .inr ⟨j, y, d, hg, hd, hy⟩⟩) h1
        · have hne : (y == want) = false := by simpa using hw
          rw [hne, cond_false] at h
          have hy2 : y = !want := by cases y <;> cases want <;> simp_all
          rw [← hy2, List.set_same hy] at h
          exact fin _ (.inr ⟨rfl, j, want, d, hg, hd, .inl (by rw [hy, hy2])⟩) h
      · rename_i hy
        exact fin _ (.inr ⟨rfl, j, want, d, hg, hd, .inr hy⟩) h

theorem still_quiet {o : Op} (h : stillOp E o = true) : quietOp E o = true := by
  cases o <;> simp only [stillOp, quietOp] at h ⊢ <;> first | rfl | exact h | (simp [h]; done) | (cases h; done)

theorem evOp_still {C : Cal} {o : Oper} {s s1 : St} {v : AV} (hs : stillOp E o.op = true) (h : evOp E C o s (fun v s => some (v, s)) = some (v, s1)) : s1 = s := by
  have lift : ∀ {xv : AV}, some (xv, s) = some (v, s1) → s1 = s := fun h => by cases h; rfl
  unfold evOp at h
  split at h
  all_goals rename_i ho
  all_goals try (rw [ho] at hs; cases hs; done)
  · exact lift h
  all_goals (repeat' (split at h))
  all_goals first
    | (cases h; done)
    | exact lift h
    | (unfold cond at h; split at h <;> exact lift h)
    | (obtain ⟨_, h, _⟩ := evLoad_out h; exact lift h)
    | (obtain ⟨_, h, _⟩ := evLk_out h; exact lift h)
    | (obtain ⟨_, h, _⟩ := evBinA_out h; exact lift h)
    | (obtain ⟨_, h, _⟩ := evUn_out h; exact lift h)
    | (obtain ⟨_, h, _⟩ := evSlice_out h; exact lift h)
    | (obtain ⟨_, h, _⟩ := evIndexAddr_out h; exact lift h)
    | (obtain ⟨_, _, _, h⟩ := bSh_out h; exact lift h)
    | (rename_i hcl _; rw [ho] at hs; simp only [stillOp, hcl] at hs; cases hs; done)
    | (rw [ho] at hs; simp only [stillOp] at hs; contradiction)
    | (have hcl := ‹_ = Callee.builtin Builtin.clear›; rw [ho] at hs; simp only [stillOp, hcl] at hs; cases hs; done)
    | (rename_i g caps _ fi hfi _ o1 os hown _ f hcl he; simp only [St.ev, AV.fn.injEq] at he; obtain ⟨rfl, _⟩ := he; rw [ho] at hs; simp only [stillOp, hcl, hfi, hown, List.isEmpty_cons] at hs; cases hs)

theorem kp_of_qt {c c' : Cx} (q : Qt c c') (hσ : c'.σ = c.σ) (hF : c'.F = c.F) : Kp c c' := by
  have hD : ∀ r, c'.D r ↔ c.D r := fun r => by
    rw [q.D r, hσ]
    exact ⟨fun h => h.elim id fun h => by omega, .inl⟩
  refine ⟨⟨q.same.os, q.same.tape, q.same.output, q.same.size, fun b hb _ => q.same.heap b hb, ?_, hF⟩, by rw [hσ]; exact Nat.le_refl _, fun r _ h => (hD r).2 h, ?_, ?_, fun r mv f nest e es _ h => ⟨mv, nest, e, es, by rw [← hσ]; exact h⟩⟩
  · rintro b ⟨r, p, n, h1, h2, h3⟩
    rw [hσ] at h2
    exact .inl ⟨r, p, n, (hD r).1 h1, h2, by rw [← q.j r p (nodeAt_lt h2)]; exact h3⟩
  · intro r p te es' hr _ hn
    rw [hσ] at hn
    exact ⟨es', hn, rfl, q.j r p hr⟩
  · intro r p te es b cs el n' _ _ _ _ _ hh
    refine ⟨cs, ?_, rfl⟩
    rw [q.same.heap b (Array.getElem?_eq_some_iff.1 hh).1]
    exact hh

structure DI (P : Program) (E : Env) (c0 : Cx) (ops : List Oper) (tr : Nat → St) (M : Nat) (ls : Array Bool) (c : Cx) (a : Act) : Prop where
  size : ls.size = ops.length
  closed : ∀ k o, ls.getD k false = true → ops[k]? = some o → Deps (fun i => ls.getD i false = true) o
  le : M ≤ ops.length
  up : ∀ k, M ≤ k → ls.getD k false = false
  low : ∀ k o, k < M → ops[k]? = some o → stillOp E o.op = false → ls.getD k false = true
  bar : ∀ o, ops[M]? = some o → stillOp E o.op = false
  σ : c.σ = (tr M).σ
  mem : Mem P c
  gr : Gr c0 c
  kv : KV c0 c
  df : a.defers = []
  len : (tr M).t.length ≤ a.tmps.size
  tm : ∀ d, (∀ k o, k < M → ops[k]? = some o → o.dst = some d → ls.getD k false = true) → V P c ((tr M).t.getD d .x) (a.tmps.getD d undef)
  tm2 : ∀ k o d, k < M → ops[k]? = some o → o.dst = some d → ls.getD k false = false → V P c ((tr k).t.getD d .x) (a.tmps.getD d undef)

structure DO (E : Env) (ops : List Oper) : Prop where
  back : ∀ (k : Nat) o, ops[k]? = some o → ∀ e ∈ o.after, Region.binds .any e = true → e.on < k
  dst : ∀ (i : Nat) o (j : Nat) q d, ops[i]? = some o → ops[j]? = some q → o.dst = some d → q.dst = some d → j = i
  look : ∀ (i : Nat) o (j : Nat) q d, ops[i]? = some o → ops[j]? = some q → o.dst = some d → d ∈ q.looksAt ops.toArray → j = i ∨ ((befL ops []).getD j 0).testBit i = true ∨ ((befL ops []).getD i 0).testBit j = true
  cmp : ∀ (i : Nat) o (j : Nat) q, ops[i]? = some o → ops[j]? = some q → stillOp E o.op = false → j ≠ i → ((befL ops []).getD i 0).testBit j = true ∨ ((befL ops []).getD j 0).testBit i = true

theorem drawOk_spec {ops : List Oper} (h : drawOk E ops = true) : DO E ops := by
  unfold drawOk at h
  simp only at h
  have h2 : ∀ (i : Nat) o (j : Nat) q, ops[i]? = some o → ops[j]? = some q → _ := fun i o j q hi hj =>
    allIx_spec (by have := allIx_spec h hi; rw [Bool.and_eq_true] at this; exact this.2) hj
  refine ⟨fun k o hk e he hb => ?_, fun i o j q d hi hj ho hq => ?_, fun i o j q d hi hj ho hd => ?_, fun i o j q hi hj hs hne => ?_⟩
  · have := allIx_spec h hk
    rw [Bool.and_eq_true] at this
    have h1 := List.all_eq_true.1 this.1 e (Array.mem_toList_iff.2 he)
    rw [hb] at h1
    simpa using h1
  · have := h2 i o j q hi hj
    simp only [ho, hq, Nat.zero_add, Bool.and_eq_true, Bool.or_eq_true, beq_iff_eq, bne_iff_ne, ne_eq, not_true_eq_false, or_false] at this
    exact this.1.1
  · have := h2 i o j q hi hj
    simp only [ho, Nat.zero_add, Bool.and_eq_true, Bool.or_eq_true, Bool.not_eq_true', beq_iff_eq] at this
    rcases this.1.2 with ((h3 | h3) | h3) | h3
    · simp [hd] at h3
    · exact .inl h3
    · exact .inr (.inl h3)
    · exact .inr (.inr h3)
  · have := h2 i o j q hi hj
    simp only [hs, Nat.zero_add, Bool.and_eq_true, Bool.or_eq_true, beq_iff_eq, Bool.false_eq_true, false_or] at this
    rcases this.2 with (h3 | h3) | h3
    · exact absurd h3 hne
    · exact .inl h3
    · exact .inr h3

theorem put_none_t (s : St) (xv : AV) : s.put none xv = s := rfl
theorem put_len (s : St) (d : Option Tmp) (xv : AV) : (s.put d xv).t.length = s.t.length := by cases d <;> simp [St.put]
theorem put_σ (s : St) (d : Option Tmp) (xv : AV) : (s.put d xv).σ = s.σ := by cases d <;> rfl
theorem put_ne (s : St) {dd : Option Tmp} (xv : AV) {d : Nat} (h : dd ≠ some d) : (s.put dd xv).t.getD d .x = s.t.getD d .x := by
  cases dd with
  | none => rfl
  | some e => exact getD_set_ne _ _ _ _ _ fun he => h (by rw [he])

theorem still_put {C : Cal} {ops : List Oper} {o : Oper} {s s' : St} (hs : stillOp E o.op = true) (h : StepAt E C ops o s s') : ∃ xv, s' = s.put o.dst xv := by
  rcases h with ⟨v, s1, h1, h2, _⟩ | ⟨h1, _⟩
  · rw [evOp_still hs h1] at h2; exact ⟨v, h2⟩
  · exact ⟨_, h1⟩

theorem tr_frame {C : Cal} {ops : List Oper} {tr : Nat → St} (htr : ∀ (i : Nat) (o : Oper), ops[i]? = some o → StepAt E C ops o (tr i) (tr (i + 1))) {i : Nat} : ∀ {M : Nat}, i ≤ M → M ≤ ops.length →
    (∀ (k : Nat) o, i ≤ k → k < M → ops[k]? = some o → stillOp E o.op = true) →
    (tr M).σ = (tr i).σ ∧ (tr M).t.length = (tr i).t.length ∧ ∀ d, (∀ (k : Nat) o, i ≤ k → k < M → ops[k]? = some o → o.dst ≠ some d) → (tr M).t.getD d .x = (tr i).t.getD d .x := by
  intro M
  induction M with
  | zero =>
    intro h _ _
    have : i = 0 := by omega
    subst this
    exact ⟨rfl, rfl, fun _ _ => rfl⟩
  | succ M ih =>
    intro h hl hs
    by_cases hi : i = M + 1
    · subst hi; exact ⟨rfl, rfl, fun _ _ => rfl⟩
    · have hlt : M < ops.length := by omega
      have hg := List.getElem?_eq_getElem hlt
      obtain ⟨h1, h2, h3⟩ := ih (by omega) (by omega) fun k o g1 g2 => hs k o g1 (by omega)
      obtain ⟨xv, hx⟩ := still_put (hs M _ (by omega) (by omega) hg) (htr M _ hg)
      refine ⟨by rw [hx, put_σ, h1], by rw [hx, put_len, h2], fun d hd => ?_⟩
      rw [hx, put_ne _ _ (hd M _ (by omega) (by omega) hg)]
      exact h3 d fun k o g1 g2 => hd k o g1 (by omega)

theorem next_bar (E : Env) (ops : List Oper) (M : Nat) (hM : M ≤ ops.length) : ∃ M', M ≤ M' ∧ M' ≤ ops.length ∧ (∀ (k : Nat) o, M ≤ k → k < M' → ops[k]? = some o → stillOp E o.op = true) ∧ (∀ o, ops[M']? = some o → stillOp E o.op = false) := by
  by_cases h : ∃ o, ops[M]? = some o ∧ stillOp E o.op = true
  · obtain ⟨o, h1, h2⟩ := h
    have hlt := (List.getElem?_eq_some_iff.1 h1).1
    obtain ⟨M', g1, g2, g3, g4⟩  := next_bar E ops (M + 1) (by omega)
    refine ⟨M', by omega, g2, fun k o' k1 k2 k3 => ?_, g4⟩
    by_cases hk : k = M
    · subst hk; rw [h1] at k3; cases k3; exact h2
    · exact g3 k o' (by omega) k2 k3
  · refine ⟨M, Nat.le_refl _, hM, fun k o k1 k2 => by omega, fun o ho => ?_⟩
    cases hs : stillOp E o.op with
    | true => exact absurd ⟨o, ho, hs⟩ h
    | false => rfl
termination_by ops.length - M

theorem cnt_set : ∀ (l : List Bool) (i : Nat), l[i]? = some false → (l.set i true).count false < l.count false
  | [], i, h => by simp at h
  | b :: l, 0, h => by simp only [List.getElem?_cons_zero, Option.some.injEq] at h; subst h; simp
  | b :: l, i + 1, h => by
    have := cnt_set l i (by simpa using h)
    simp only [List.set_cons_succ, List.count_cons]
    omega
theorem getD_setB (ls : Array Bool) (i k : Nat) : (ls.setIfInBounds i true).getD k false = true ↔ ls.getD k false = true ∨ (k = i ∧ i < ls.size) := by
  by_cases hk : i = k
  · subst hk
    by_cases hi : i < ls.size
    · simp [hi]
    · simp [hi]
  · rw [Array.getD_eq_getD_getElem?, Array.getElem?_setIfInBounds_ne hk, ← Array.getD_eq_getD_getElem?]
    exact ⟨.inl, fun h => h.elim id fun h => absurd h.1.symm hk⟩

theorem getD_false {ls : Array Bool} {k : Nat} (h : ls.getD k true = false) : k < ls.size ∧ ls.getD k false = false := by
  rcases Nat.lt_or_ge k ls.size with h1 | h1
  · simp [h1] at h ⊢; exact h
  · simp [Nat.not_lt.2 h1] at h
theorem getD_true' {ls : Array Bool} {k : Nat} (h1 : k < ls.size) (h : ls.getD k false = false) : ls.getD k true = false := by
  simp [h1] at h ⊢; exact h
theorem put_getD (a : Act) {dd : Option Tmp} (y : Value) {d : Nat} (h : dd ≠ some d) : (a.put dd y).tmps.getD d undef = a.tmps.getD d undef := by
  cases dd with
  | none => rfl
  | some e =>
    have : e ≠ d := fun he => h (by rw [he])
    simp [Act.put, Array.getD_eq_getD_getElem?, Array.getElem?_setIfInBounds_ne this]
theorem put_size (a : Act) (dd : Option Tmp) (y : Value) : (a.put dd y).tmps.size = a.tmps.size := by cases dd <;> simp [Act.put]
theorem put_df (a : Act) (dd : Option Tmp) (y : Value) : (a.put dd y).defers = a.defers := by cases dd <;> rfl

theorem V.put_eq {c : Cx} {s : St} {a : Act} {d : Nat} {xv : AV} {y : Value} (hv : V P c xv y) (hl : s.t.length ≤ a.tmps.size) : V P c ((s.put (some d) xv).t.getD d .x) ((a.put (some d) y).tmps.getD d undef) := by
  by_cases hd : d < s.t.length
  · have h1 : (s.put (some d) xv).t.getD d .x = xv := getD_set_eq _ _ _ _ hd
    have h2 : (a.put (some d) y).tmps.getD d undef = y := by
      have : d < a.tmps.size := by omega
      simp [Act.put, this]
    rw [h1, h2]; exact hv
  · have h1 : (s.put (some d) xv).t.getD d .x = .x := by
      rw [List.getD_eq_getElem?_getD, List.getElem?_eq_none (by rw [put_len]; omega)]; rfl
    rw [h1]; exact .vi (.x _)

theorem any_ok {ops : Array Oper} {C : Cal} {c0 : Cx} {R : Type} {K : St → Option R} {r : R} {Q : Exit → Act → World → Prop} (hE : EnvOk P E) (hC : CalOk P E C) (hD : DO E ops.toList) {tr : Nat → St}
    (htr : ∀ (i : Nat) (o : Oper), ops.toList[i]? = some o → StepAt E C ops.toList o (tr i) (tr (i + 1))) (hK : K (tr ops.toList.length) = some r)
    (hQ : ∀ st' c' a', K st' = some r → Rel P c0 c' st' a' → Q .normal a' c'.w) :
    ∀ (fuel M : Nat) (ls : Array Bool) (c : Cx) (a : Act), ls.toList.count false ≤ fuel → DI P E c0 ops.toList tr M ls c a → wpAny P .any ops Q fuel ls a c.w := by
  -- where nothing more is ready
  have fin : ∀ (M : Nat) (ls : Array Bool) (c : Cx) (a : Act), DI P E c0 ops.toList tr M ls c a → Region.ready .any ops ls = [] → Q .normal a c.w := by
    intro M ls c a h hr
    have all : ∀ k, k < ops.toList.length → ls.getD k false = true := by
      intro k
      induction k using Nat.strongRecOn with
      | _ k ih =>
        intro hk
        cases hl : ls.getD k false with
        | true => rfl
        | false =>
          have : k ∈ Region.ready .any ops ls := mem_ready.2 ⟨getD_true' (by rw [h.size]; exact hk) hl, _, by rw [← Array.getElem?_toList]; exact List.getElem?_eq_getElem hk, fun e he hb =>
            ih e.on (hD.back k _ (List.getElem?_eq_getElem hk) e he hb) (Nat.lt_trans (hD.back k _ (List.getElem?_eq_getElem hk) e he hb) hk)⟩
          rw [hr] at this; cases this
    have hM : M = ops.toList.length := by
      rcases Nat.lt_or_ge M ops.toList.length with h1 | h1
      · have := h.up M (Nat.le_refl _); rw [all M h1] at this; cases this
      · exact Nat.le_antisymm h.le h1
    subst hM
    exact hQ _ c a hK ⟨h.σ, h.mem, ⟨h.len, fun d y hy => by
      have := h.tm d fun k o hk _ _ => all k hk
      rw [List.getD_eq_getElem?_getD, hy] at this; exact this⟩, h.gr, h.df, h.kv⟩
  -- one more step
  have step : ∀ (fuel M : Nat) (ls : Array Bool) (c : Cx) (a : Act), (∀ (M : Nat) (ls : Array Bool) (c : Cx) (a : Act), ls.toList.count false ≤ fuel → DI P E c0 ops.toList tr M ls c a → wpAny P .any ops Q fuel ls a c.w) →
      ls.toList.count false ≤ fuel + 1 → DI P E c0 ops.toList tr M ls c a → ∀ i ∈ Region.ready .any ops ls, wpOp P ops Q i (wpAny P .any ops Q fuel (ls.setIfInBounds i true)) a c.w := by
    intro fuel M ls c a ih hcnt h i hi
    obtain ⟨hun, o, ho, hdep⟩ := mem_ready.1 hi
    obtain ⟨hisz, hun'⟩ := getD_false hun
    have hoL : ops.toList[i]? = some o := by rw [Array.getElem?_toList]; exact ho
    have hilt : i < ops.toList.length := (List.getElem?_eq_some_iff.1 hoL).1
    have hB := bef_spec hD.back h.closed i o hoL hdep
    have hB0 : ∀ k q, ops.toList[k]? = some q → ∀ j, ((befL ops.toList []).getD k 0).testBit j = true → j < k := fun k q hq j hj => (bef_spec (listed := fun _ => True) hD.back (fun _ _ _ _ _ _ _ => trivial) k q hq (fun _ _ _ => trivial) j hj).1
    have hset : ls.toList[i]? = some false := by
      rw [Array.getElem?_toList, Array.getElem?_eq_getElem hisz]
      simp [hisz] at hun; rw [hun]
    have hcnt' : (ls.setIfInBounds i true).toList.count false ≤ fuel := by
      have := cnt_set _ _ hset
      rw [Array.toList_setIfInBounds]; omega
    have hiM : i ≤ M := by
      rcases Nat.lt_or_ge M i with h1 | h1
      · exfalso
        obtain ⟨q, hq⟩ : ∃ q, ops.toList[M]? = some q := ⟨_, List.getElem?_eq_getElem (by omega)⟩
        rcases hD.cmp M q i o hq hoL (h.bar q hq) (by omega) with h2 | h2
        · have := hB0 M q hq i h2; omega
        · have := (hB M h2).2; rw [h.up M (Nat.le_refl _)] at this; cases this
      · exact h1
    have hstill : ∀ (k : Nat) q, i ≤ k → k < M → ops.toList[k]? = some q → stillOp E q.op = true := by
      intro k q h1 h2 hq
      cases hs : stillOp E q.op with
      | true => rfl
      | false =>
        exfalso
        have hk := h.low k q h2 hq hs
        by_cases hki : k = i
        · subst hki; rw [hun'] at hk; cases hk
        rcases hD.cmp k q i o hq hoL hs (by omega) with h3 | h3
        · have := (bef_spec hD.back h.closed k q hq (h.closed k q hk hq) i h3).2
          rw [hun'] at this; cases this
        · have := (hB k h3).1; omega
    obtain ⟨f1, f2, f3⟩ := tr_frame htr hiM h.le hstill
    have hσi : c.σ = (tr i).σ := h.σ.trans f1
    have hV : ∀ d, d ∈ o.looksAt ops → V P c ((tr i).t.getD d .x) (a.tmps.getD d undef) := by
      intro d hd
      by_cases hw : ∃ (k : Nat) (q : Oper), k < M ∧ ops.toList[k]? = some q ∧ q.dst = some d ∧ ls.getD k false = false
      · obtain ⟨k, q, hkM, hq, hqd, hkl⟩ := hw
        have hik : i ≤ k := by
          rcases hD.look k q i o d hq hoL hqd hd with h1 | h1 | h1
          · omega
          · have := (hB k h1).2; rw [hkl] at this; cases this
          · have := hB0 k q hq i h1; omega
        obtain ⟨_, _, e3⟩ := tr_frame htr hik (by have := (List.getElem?_eq_some_iff.1 hq).1; omega) fun k' q' g1 g2 g3 => hstill k' q' g1 (by omega) g3
        rw [← e3 d fun k' q' g1 g2 g3 g4 => by have := hD.dst k q k' q' d hq g3 hqd g4; omega]
        exact h.tm2 k q d hkM hq hqd hkl
      · have hall : ∀ (k : Nat) q, k < M → ops.toList[k]? = some q → q.dst = some d → ls.getD k false = true := fun k q g1 g2 g3 => by
          cases hl : ls.getD k false with
          | true => rfl
          | false => exact absurd ⟨k, q, g1, g2, g3, hl⟩ hw
        rw [← f3 d fun k q g1 g2 g3 g4 => by
          have hk := hall k q g2 g3 g4
          rcases hD.look k q i o d g3 hoL g4 hd with h1 | h1 | h1
          · subst h1; rw [hun'] at hk; cases hk
          · have := (hB k h1).1; omega
          · have := (bef_spec hD.back h.closed k q g3 (h.closed k q hk g3) i h1).2; rw [hun'] at this; cases this]
        exact h.tm d hall
    have hEv : ∀ x ∈ o.op.operands, V P c ((tr i).ev x) (a.eval x) := by
      intro x hx
      cases x with
      | tmp t => exact hV t (List.mem_append_left _ (List.mem_filterMap.2 ⟨.tmp t, by simpa using hx, rfl⟩))
      | const v => exact .vi (ofV_ok _ _ v)
      | global g => exact .vi (.x _)
      | func f => exact .vi (.fn f [] [] rfl fun _ _ _ h => by simp at h)
    have hlen : (tr i).t.length ≤ a.tmps.size := by rw [← f2]; exact h.len
    have after : ∀ (s1 : St) (xv : AV) (c' : Cx) (y : Value), tr (i + 1) = s1.put o.dst xv → (stillOp E o.op = true → s1 = tr i) → c'.σ = s1.σ → Mem P c' → V P c' xv y → Stp c c' (tr i).t s1.t → (quietOp E o.op = true → Qt c c') →
        wpAny P .any ops Q fuel (ls.setIfInBounds i true) (a.put o.dst y) c'.w := by
      intro s1 xv c' y htr1 hs1 hσ' hm' hv' hst hqt
      have hclosed : ∀ k q, (ls.setIfInBounds i true).getD k false = true → ops.toList[k]? = some q → Deps (fun i' => (ls.setIfInBounds i true).getD i' false = true) q := by
        intro k q hk hq e he hb
        refine (getD_setB _ _ _).2 (.inl ?_)
        rcases (getD_setB _ _ _).1 hk with h1 | ⟨h1, _⟩
        · exact h.closed k q h1 hq e he hb
        · subst h1; rw [hoL] at hq; cases hq; exact hdep e he hb
      have hsz : (ls.setIfInBounds i true).size = ops.toList.length := by rw [Array.size_setIfInBounds]; exact h.size
      have hup : ∀ k, ls.getD k false = false → k ≠ i → (ls.setIfInBounds i true).getD k false = false := by
        intro k hk hne
        cases hq : (ls.setIfInBounds i true).getD k false with
        | false => rfl
        | true =>
          rcases (getD_setB _ _ _).1 hq with h1 | ⟨h1, _⟩
          · rw [hk] at h1; cases h1
          · exact absurd h1 hne
      rcases Nat.lt_or_ge i M with hlt | hge
      · have hs := hstill i o (Nat.le_refl _) hlt hoL
        have hs1' := hs1 hs
        subst hs1'
        have hkp : Kp c c' := kp_of_qt (hqt (still_quiet hs)) (hσ'.trans hσi.symm) hst.gr'.F
        obtain ⟨e1, e2, e3⟩ := tr_frame htr (i := i + 1) (M := M) (by omega) h.le fun k q g1 g2 g3 => hstill k q (by omega) g2 g3
        refine ih M _ c' _ hcnt' ⟨hsz, hclosed, h.le, fun k hk => hup k (h.up k hk) (by omega), fun k q g1 g2 g3 => (getD_setB _ _ _).2 (.inl (h.low k q g1 g2 g3)), h.bar, hσ'.trans f1.symm, hm', h.gr.trans hkp.toGr, h.kv.trans hkp.kv, (put_df _ _ _).trans h.df, ?_, fun d hd => ?_, fun k q d g1 g2 g3 g4 => ?_⟩
        · rw [put_size]; exact h.len
        · by_cases hdd : o.dst = some d
          · rw [e3 d fun k q g1 g2 g3 g4 => by have := hD.dst i o k q d hoL g3 hdd g4; omega, htr1, hdd]
            exact hv'.put_eq hlen
          · rw [put_getD _ _ hdd]
            refine (h.tm d fun k q g1 g2 g3 => ?_).kp P hkp
            rcases (getD_setB _ _ _).1 (hd k q g1 g2 g3) with h1 | ⟨h1, _⟩
            · exact h1
            · subst h1; rw [hoL] at g2; cases g2; exact absurd g3 hdd
        · have hk0 : ls.getD k false = false := by
            cases hl : ls.getD k false with
            | false => rfl
            | true => rw [(getD_setB _ _ _).2 (.inl hl)] at g4; cases g4
          have hki : k ≠ i := fun e => by rw [(getD_setB _ _ _).2 (.inr ⟨e, hisz⟩)] at g4; cases g4
          rw [put_getD _ _ fun hdd => hki (hD.dst i o k q d hoL g2 hdd g3)]
          exact (h.tm2 k q d g1 g2 g3 hk0).kp P hkp
      · have hieq : i = M := by omega
        subst hieq
        have hall : ∀ k q, k < i → ops.toList[k]? = some q → ls.getD k false = true := by
          intro k q hk hq
          cases hs : stillOp E q.op with
          | false => exact h.low k q hk hq hs
          | true =>
            rcases hD.cmp i o k q hoL hq (h.bar o hoL) (by omega) with h1 | h1
            · exact (hB k h1).2
            · have := hB0 k q hq i h1; omega
        have hrel : Rel P c0 c (tr i) a := ⟨h.σ, h.mem, ⟨h.len, fun d y hy => by
          have := h.tm d fun k q g1 g2 _ => hall k q g1 g2
          rw [List.getD_eq_getElem?_getD, hy] at this; exact this⟩, h.gr, h.df, h.kv⟩
        have hrel' : Rel P c0 c' (tr (i + 1)) (a.put o.dst y) := by rw [htr1]; exact hrel.step hσ' hm' hv' hst
        obtain ⟨M', g1, g2, g3, g4⟩   := next_bar E ops.toList (i + 1) (by omega)
        obtain ⟨e1, e2, e3⟩ := tr_frame htr g1 g2 g3
        refine ih M' _ c' _ hcnt' ⟨hsz, hclosed, g2, fun k hk => hup k (h.up k (by omega)) (by omega), fun k q k1 k2 k3 => (getD_setB _ _ _).2 ?_, g4, hrel'.σ.trans e1.symm, hm', hrel'.gr, hrel'.kv, hrel'.df, (by rw [e2]; exact hrel'.tm.1), fun d hd => ?_, fun k q d k1 k2 k3 k4 => ?_⟩
        · rcases Nat.lt_trichotomy k i with k4 | k4 | k4
          · exact .inl (hall k q k4 k2)
          · exact .inr ⟨k4, hisz⟩
          · have := g3 k q (by omega) k1 k2; rw [k3] at this; cases this
        · rw [e3 d fun k q k1 k2 k3 k4 => by
            have := hup k (h.up k (by omega)) (by omega)
            rw [hd k q k2 k3 k4] at this; cases this]
          exact hrel'.tm.at_ P d
        · have hki : i + 1 ≤ k := by
            rcases Nat.lt_trichotomy k i with k5 | k5 | k5
            · rw [(getD_setB _ _ _).2 (.inl (hall k q k5 k2))] at k4; cases k4
            · rw [(getD_setB _ _ _).2 (.inr ⟨k5, hisz⟩)] at k4; cases k4
            · exact k5
          obtain ⟨_, _, u3⟩ := tr_frame htr hki (by have := (List.getElem?_eq_some_iff.1 k2).1; omega) fun k' q' g1 g2 g3' => g3 k' q' g1 (by omega) g3'
          rw [u3 d fun k' q' g1 g2 g3' g4' => by have := hD.dst k q k' q' d k2 g3' k3 g4'; omega]
          exact hrel'.tm.at_ P d
    have hsome : ∀ {d j : Nat} {w : Bool}, o.guard = some (j, w) → (ops.toList[j]?).bind (·.dst) = some d → d ∈ o.looksAt ops := by
      intro d j w hg hd
      refine List.mem_append_right _ ?_
      rw [hg]
      simp only
      have h3 : (ops[j]?).bind (·.dst) = some d := by rw [← Array.getElem?_toList]; exact hd
      rw [h3]; simp
    unfold wpOp
    rw [ho]
    simp only
    rcases htr i o hoL with ⟨v, s1, h1, h2, h3⟩ | ⟨h2, j, want, d, hg, hd, h3⟩
    · have hw : Region.wanted o (yielded ops a.tmps) = true := by
        rcases h3 with hg | ⟨j, want, d, hg, hd, h4⟩
        · simp [Region.wanted, hg]
        · have htd := hV d (hsome hg hd)
          rw [h4] at htd
          simp [Region.wanted, hg, yielded_of hd htd.inv_b]
      rw [if_pos hw]
      left
      obtain ⟨v', s', g1, g2⟩ := op_ok (a := a) (c := c) hE hC hσi h.mem hEv h1
      cases g1
      exact g2 _ _ fun c' y k1 k2 k3 k4 k5 _ => after s1 v c' y h2 (fun hs => evOp_still hs h1) k1 k2 k3 k4 fun hq => (k5 hq).1
    · have htd := hV d (hsome hg hd)
      have hw : Region.wanted o (yielded ops a.tmps) = false := by
        rcases h3 with h4 | h4
        · rw [h4] at htd
          simp [Region.wanted, hg, yielded_of hd htd.inv_b]
        · rw [h4] at htd
          simp [Region.wanted, hg, yielded_none hd htd.inv_u]
      rw [if_neg (by rw [hw]; simp)]
      exact after (tr i) .u c undef h2 (fun _ => rfl) hσi h.mem (.vi .u) (.inl ⟨rfl, Kp.refl c⟩) fun _ => Qt.refl c
  intro fuel
  induction fuel with
  | zero =>
    intro M ls c a hcnt h
    have hr : Region.ready .any ops ls = [] := by
      cases hr : Region.ready .any ops ls with
      | nil => rfl
      | cons i rest =>
        exfalso
        have hi : i ∈ Region.ready .any ops ls := by rw [hr]; simp
        obtain ⟨hun, _⟩ := mem_ready.1 hi
        obtain ⟨hisz, hun'⟩ := getD_false hun
        have : ls.toList[i]? = some false := by
          rw [Array.getElem?_toList, Array.getElem?_eq_getElem hisz]
          simp [hisz] at hun; rw [hun]
        have := cnt_set _ _ this
        omega
    exact ⟨hr, fin M ls c a h hr⟩
  | succ fuel ih =>
    intro M ls c a hcnt h
    exact ⟨fin M ls c a h, step fuel M ls c a ih hcnt h⟩

theorem draw_rule1 (hE : EnvOk P E) {C : Cal} (hC : CalOk P E C) (ops : Array Oper) (id : Nat) (c0 c : Cx) (st : St) (a : Act) {R : Type} (K : St → Option R) (r : R) (Q : Exit → Act → World → Prop) (hd : drawOk E ops.toList = true) (h : Rel P c0 c st a)
    (hk : evOps E C ops.toList ops.toList st K = some r) (hQ : ∀ st' c' a', K st' = some r → Rel P c0 c' st' a' → Q .normal a' c'.w) : (Code.region id ops true).wp P Q a c.w := by
  have hs : Same c.w { c.w with drawn := c.w.drawn + 1 } := ⟨rfl, rfl, rfl, Nat.le_refl _, fun _ _ => rfl⟩
  obtain ⟨m1, m2, _⟩ := mem_same h.mem hs
  refine wp_region_any hE.mixed ?_
  obtain ⟨tr, t1, t2, t3⟩ := evOps_trace hk
  subst t1
  obtain ⟨M, g1, g2, g3, g4⟩   := next_bar E ops.toList 0 (Nat.zero_le _)
  obtain ⟨e1, e2, e3⟩ := tr_frame t3 g1 g2 g3
  have hz : ∀ k, (Array.replicate ops.size false).getD k false = false := fun k => by
    rw [Array.getD_eq_getD_getElem?, Array.getElem?_replicate]; split <;> rfl
  refine any_ok hE hC (drawOk_spec hd) t3 t2 hQ ops.size M _ (c.at { c.w with drawn := c.w.drawn + 1 }) a (by simp) ⟨by simp, fun k o hk => (by rw [hz k] at hk; cases hk), g2, fun k _ => hz k, fun k o k1 k2 k3 => (by rw [g3 k o (Nat.zero_le _) k1 k2] at k3; cases k3), g4, h.σ.trans e1.symm, m1, h.gr.trans m2.toGr, h.kv.trans m2.kv, h.df, (by rw [e2]; exact h.tm.1), fun d hd => ?_, fun k o d k1 k2 k3 k4 => ?_⟩
  · rw [e3 d fun k o k1 k2 k3 k4 => by have := hd k o k2 k3 k4; rw [hz k] at this; cases this]
    exact (h.tm.kp P m2).at_ P d
  · obtain ⟨_, _, u3⟩ := tr_frame t3 (Nat.zero_le k) (by have := (List.getElem?_eq_some_iff.1 k2).1; omega) fun k' q' g1' g2' g3' => g3 k' q' g1' (by omega) g3'
    rw [u3 d fun k' q' g1' g2' g3' g4' => by have := (drawOk_spec hd).dst k o k' q' d k2 g3' k3 g4'; omega]
    exact (h.tm.kp P m2).at_ P d
end Go.Proofs.YtkicholhkoahhaaIT
