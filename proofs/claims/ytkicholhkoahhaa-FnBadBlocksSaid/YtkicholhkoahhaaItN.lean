/- Indices, cuts, fields, composites. No condition beyond what each theorem states. -/
import Derived.Test.YtkicholhkoahhaaItM
namespace Go.Proofs.YtkicholhkoahhaaIT
open Go
variable {P : Program} {E : Env}

theorem imm_index {N : Nat → Prop} {w : World} {z : Nat} {es : List AV} {x : Value} (h : VI N w (.imm z es) x) {i : Nat} (hi : i < es.length) :
    ∃ a cap, x = .slice (some a) es.length cap ∧ VI N w (.ip (es.getD i .x) 0) (.pointer (some (a.add (i * z)))) := by
  cases h with
  | imm0 => simp at hi
  | imm _ a cap _ f hl hn hlt hz hc hv =>
    have hel : es[i]? = some (es.getD i .x) := by simp [List.getD_eq_getElem?_getD, hi]
    refine ⟨a, cap, rfl, ?_⟩
    have := VI.ip (N := N) (w := w) (es.getD i .x) 0 (a.add (i * z)) (f i) (by rw [add_block]; exact hn) (by rw [add_block]; exact hlt) (fun t y ht => ⟨by rw [Addr.add_add]; exact (hc i _ t y hel ht).1, (hc i _ t y hel ht).2⟩) (fun t y ht => hv i _ t y hel ht)
    rw [Addr.add_zero'] at this
    exact this

theorem imm_win {N : Nat → Prop} {w : World} {z : Nat} {es : List AV} {A : Option Addr} {n cap : Nat} (h : VI N w (.imm z es) (.slice A n cap)) {off cnt cap' : Nat} (hle : off + cnt ≤ es.length) (hc' : cnt ≤ cap') {A' : Option Addr}
    (hA : cnt = 0 ∨ A' = A.map (·.add (off * z))) : VI N w (.imm z ((es.drop off).take cnt)) (.slice A' cnt cap') := by
  by_cases h0 : cnt = 0
  · subst h0
    rw [List.take_zero]
    exact .imm0 _ _ _
  · obtain rfl := hA.resolve_left h0
    cases h with
    | imm0 => simp at hle; omega
    | imm _ a _ _ f hl hn hlt hz hc hv =>
      have hlen : ((es.drop off).take cnt).length = cnt := by simp; omega
      have hel : ∀ (m : Nat) (el : AV), ((es.drop off).take cnt)[m]? = some el → es[off + m]? = some el := by
        intro m el hm
        rw [List.getElem?_take] at hm
        split at hm
        · rwa [List.getElem?_drop] at hm
        · cases hm
      have := VI.imm (N := N) (w := w) ((es.drop off).take cnt) (a.add (off * z)) cap' z (fun m t => f (off + m) t) (by rw [hlen]; exact hc') (by rw [add_block]; exact hn) (by rw [add_block]; exact hlt) (fun m el hm => hz _ _ (hel m el hm))
        (fun m el t y hm hy => by
          obtain ⟨h1, h2⟩ := hc _ el t y (hel m el hm) hy
          refine ⟨?_, h2⟩
          rw [Addr.add_add, show off * z + (m * z + t) = (off + m) * z + t by rw [Nat.add_mul]; omega]
          exact h1) (fun m el t y hm hy => hv _ el t y (hel m el hm) hy)
      rw [hlen] at this
      exact this

theorem lenA_ok {c : Cx} (hm : Mem P c) {A : AV} {x : Value} {l : Nat} (hv : V P c A x) (hs : ∀ y, A ≠ .s y) (h : lenA c.σ A = some l) : ∃ B cap, x = .slice B l cap ∧ l ≤ cap := by
  unfold lenA at h
  split at h
  · cases h
    obtain ⟨B, cap, h1, h2, _⟩ := imm_row (hv.vi_of trivial)
    exact ⟨B, cap, h1, h2⟩
  · cases h
    obtain ⟨A0, rfl⟩ := hv.inv_nils
    exact ⟨_, _, rfl, Nat.le_refl _⟩
  · exact absurd rfl (hs _)
  · split at h
    · rename_i hr
      obtain ⟨B, m, cap, h1, h2, h3, h4, _⟩ := own_row hm hr (hm.flat _ _ _ _ _ hr) hv
      refine ⟨B, cap, ?_, ?_⟩
      · rw [h1, h3]
        split at h <;> cases h <;> rfl
      · rw [h3] at h2
        split at h <;> cases h <;> exact h2
    · cases h
  · cases h

theorem run_indexAddr {t e : TypeId} {A : Option Addr} {len cap : Nat} {k : IntKind} {i : Int} {sz : Nat} {a : Addr} (w : World) (hu : P.underlying t = some (.slice e)) (hs : ∀ w, (sizeOf e).run P w = .ok sz w) (h0 : 0 ≤ i) (h1 : i < len) (hA : A = some a) :
    (Instr.indexAt t (.slice A len cap) (.int k i)).run P w = .ok (.pointer (some (a.add (i.toNat * sz)))) w := by
  subst hA
  simp [Instr.indexAt, asIntOf, run_underlying hu, hs, h0, h1]

theorem evIndexAddr_ok {t e z0 s0 b0 : Nat} {fl : List (Nat × Nat)} {te : TI} {A I : AV} {c : Cx} {st : St} {R : Type} {K : AV → Option R} {r : R} {x y : Value} (hE : EnvOk P E) (hm : Mem P c) (hσ : c.σ = st.σ) (hti : E.Γ t = some ⟨.sl e z0, s0, b0, e, fl⟩) (hte : E.Γ e = some te)
    (hx : V P c A x) (hy : V P c I y) (h : evIndexAddr e te.size A I st K = some r) : ∃ v z, K v = some r ∧ (Instr.indexAt t x y).run P c.w = .ok z c.w ∧ V P c v z := by
  unfold evIndexAddr at h
  split at h <;> try (cases h; done)
  rename_i k n
  obtain rfl := hy.inv_i
  obtain ⟨hund, _, _⟩ := (hE.tyo hti).und_sl
  have hte' := hE.tyo hte
  split at h <;> try (cases h; done)
  rename_i l hl
  rw [← hσ] at hl
  split at h <;> try (cases h; done)
  rename_i hn
  obtain ⟨h0, h1⟩ := hn
  split at h
  · rename_i z es
    split at h <;> try (cases h; done)
    rename_i hz
    subst hz
    simp only [lenA, Option.some.injEq] at hl
    subst hl
    obtain ⟨a, cap, rfl, h2⟩ := imm_index (hx.vi_of trivial) (i := n.toNat) (by omega)
    exact ⟨_, _, h, run_indexAddr c.w hund hte'.sizeOf h0 h1 rfl, .vi h2⟩
  · rename_i r0 w
    split at h <;> try (cases h; done)
    rename_i mv rf nest e' es hr
    split at h <;> try (cases h; done)
    rename_i hee
    subst hee
    rw [← hσ] at hr
    obtain ⟨B, cap, rfl, hle⟩ := lenA_ok hm hx (by simp) hl
    obtain ⟨hd, hs, hnode⟩ := V.inv_sl hm hx hr
    cases hj : c.j r0 [] with
    | none =>
      rw [hj] at hs
      obtain ⟨_, _, A0, h3⟩ := hs
      cases h3
      omega
    | some b =>
      rw [hj] at hs
      obtain ⟨cap', cs, h3, h4, h5, h6, h7⟩ := hs
      have hpos : n.toNat < l := by omega
      have hlt := lt_of_live hr
      have key : ∀ off, off + n.toNat < es.length → B = some ⟨b, off * P.cellsOf e', none⟩ → K (.pt r0 [] (off + n.toNat) 0) = some r → ∃ v z, K v = some r ∧ (Instr.indexAt t (.slice B l cap) (.int k n)).run P c.w = .ok z c.w ∧ V P c v z := by
        intro off ho hB hK
        refine ⟨_, _, hK, run_indexAddr c.w hund hte'.sizeOf h0 h1 hB, .pt _ _ _ _ _ hlt hd (fun te2 es2 hn2 => ?_) fun _ _ hp => by cases hp⟩
        rw [nodeAt_live hr] at hn2
        cases hn2
        refine ⟨b, hj, ho, ?_, hte'.ne⟩
        rw [Addr.add_mid, ← hte'.cells, Nat.add_zero, Nat.add_mul]
      cases w with
      | none =>
        simp only at h7 h
        cases h7
        exact key 0 (by omega) (by simp) h
      | some q =>
        obtain ⟨h8, A, h9, hA⟩ := h7
        cases h9
        rcases hA with ⟨hA, _⟩ | rfl
        · omega
        · exact key q.1 (by omega) rfl h
  · cases h

/-! Cuts. -/
theorem run_cut {t e : TypeId} {A : Option Addr} {len cap : Nat} {k k' : IntKind} {lo hi : Option Value} {x y : Int} {sz : Nat} (w : World) (hu : P.underlying t = some (.slice e)) (hs : ∀ w, (sizeOf e).run P w = .ok sz w)
    (hlo : lo = none ∧ x = 0 ∨ lo = some (.int k x)) (hhi : hi = none ∧ y = len ∨ hi = some (.int k' y)) (h0 : 0 ≤ x) (h1 : x ≤ y) (h2 : y ≤ cap) :
    (Instr.sliceAt t (.slice A len cap) lo hi none).run P w = .ok (.slice (if cap = x.toNat then A else A.map (·.add (x.toNat * sz))) (y.toNat - x.toNat) (cap - x.toNat)) w := by
  have hy0 : 0 ≤ y := by omega
  have hmx : max y 0 = y := by omega
  have hlt : ¬ y < x := by omega
  rcases hlo with ⟨rfl, rfl⟩ | rfl <;> rcases hhi with ⟨rfl, rfl⟩ | rfl <;>
    simp [Instr.sliceAt, run_underlying hu, Instr.slice, Instr.sliceBounds, Instr.sliceBound, asIntOf, hs, h0, h1, h2, hy0, hmx]

theorem bound_ok {c : Cx} {st : St} {a : Act} {o : Option Operand} {d n : Int} (hv : ∀ x, o = some x → V P c (st.ev x) (a.eval x)) (h : bound st o d = some n) : (o.map a.eval = none ∧ n = d) ∨ ∃ k, o.map a.eval = some (.int k n) := by
  unfold bound at h
  cases o with
  | none => left; cases h; exact ⟨rfl, rfl⟩
  | some x =>
    simp only at h
    split at h
    · rename_i k n' he
      cases h
      right
      have := hv x rfl
      rw [he] at this
      exact ⟨k, by simp [this.inv_i]⟩
    · cases h

theorem evSlice_ok {t e z0 s0 b0 : Nat} {fl : List (Nat × Nat)} {te : TI} {A : AV} {c : Cx} {st : St} {R : Type} {K : AV → Option R} {r : R} {x : Value} {a : Act} {lo hi mx : Option Operand} (hE : EnvOk P E) (hm : Mem P c) (hσ : c.σ = st.σ) (hti : E.Γ t = some ⟨.sl e z0, s0, b0, e, fl⟩) (hte : E.Γ e = some te)
    (hx : V P c A x) (hs : ∀ y, A ≠ .s y) (hlo : ∀ y, lo = some y → V P c (st.ev y) (a.eval y)) (hhi : ∀ y, hi = some y → V P c (st.ev y) (a.eval y)) (h : evSlice e te.size A lo hi mx st K = some r) :
    ∃ v z, K v = some r ∧ (Instr.sliceAt t x (lo.map a.eval) (hi.map a.eval) (mx.map a.eval)).run P c.w = .ok z c.w ∧ V P c v z := by
  unfold evSlice at h
  split at h <;> try (cases h; done)
  rename_i l hl
  rw [← hσ] at hl
  obtain ⟨hund, _, _⟩ := (hE.tyo hti).und_sl
  have hte' := hE.tyo hte
  obtain ⟨B, cap, rfl, hle⟩ := lenA_ok hm hx hs hl
  split at h
  · split at h <;> cases h
  split at h <;> try (cases h; done)
  rename_i lx hy hblo hbhi
  split at h <;> try (cases h; done)
  rename_i hc
  obtain ⟨h0, h1, h2⟩ := hc
  have e1 := bound_ok hlo hblo
  have e2 := bound_ok hhi hbhi
  have hrun : (Instr.sliceAt t (.slice B l cap) (lo.map a.eval) (hi.map a.eval) none).run P c.w = .ok (.slice (if cap = lx.toNat then B else B.map (·.add (lx.toNat * te.size))) (hy.toNat - lx.toNat) (cap - lx.toNat)) c.w := by
    rcases e1 with ⟨f1, f2⟩ | ⟨k1, f1⟩ <;> rcases e2 with ⟨g1, g2⟩ | ⟨k2, g1⟩
    · exact run_cut (k := .i64) (k' := .i64) c.w hund hte'.sizeOf (.inl ⟨f1, f2⟩) (.inl ⟨g1, g2⟩) h0 h1 (by omega)
    · exact run_cut (k := .i64) (k' := k2) c.w hund hte'.sizeOf (.inl ⟨f1, f2⟩) (.inr g1) h0 h1 (by omega)
    · exact run_cut (k := k1) (k' := .i64) c.w hund hte'.sizeOf (.inr f1) (.inl ⟨g1, g2⟩) h0 h1 (by omega)
    · exact run_cut (k := k1) (k' := k2) c.w hund hte'.sizeOf (.inr f1) (.inr g1) h0 h1 (by omega)
  have hd0 : lo = none → lx = 0 := fun h => by subst h; simpa [bound] using hblo.symm
  have hdl : hi = none → hy = l := fun h => by subst h; simpa [bound] using hbhi.symm
  split at h
  · exact absurd rfl (hs _)
  · rename_i z es
    split at h <;> try (cases h; done)
    rename_i hz
    subst hz
    simp only [lenA, Option.some.injEq] at hl
    subst hl
    have hv := hx.vi_of trivial
    have fin := imm_win hv (off := lx.toNat) (cnt := hy.toNat - lx.toNat) (cap' := cap - lx.toNat) (by omega) (by omega) (A' := if cap = lx.toNat then B else B.map (·.add (lx.toNat * te.size))) (by
      by_cases h3 : cap = lx.toNat
      · left; omega
      · right; rw [if_neg h3])
    split at h
    · have := hd0 rfl; have := hdl rfl; subst lx; subst hy
      refine ⟨_, _, h, hrun, .vi ?_⟩
      simpa using fin
    · have := hd0 rfl; subst lx
      refine ⟨_, _, h, hrun, .vi ?_⟩
      simpa using fin
    · have := hdl rfl; subst hy
      refine ⟨_, _, h, hrun, .vi ?_⟩
      rw [List.take_of_length_le (by first | (simp; done) | (simp; omega))] at fin
      exact fin
    · exact ⟨_, _, h, hrun, .vi fin⟩
  · simp only [lenA, Option.some.injEq] at hl
    subst hl
    obtain ⟨A0, this⟩ := hx.inv_nils
    cases this
    refine ⟨_, _, h, hrun, ?_⟩
    have : lx = 0 := by omega
    subst this
    have : hy = 0 := by omega
    subst this
    exact .vi (by simpa using VI.nils _)
  · rename_i r0 w
    split at h <;> try (cases h; done)
    rename_i mv rf nest e' es hr
    split at h <;> try (cases h; done)
    rename_i hee
    subst hee
    rw [← hσ] at hr
    obtain ⟨hd, hsl, hnode⟩ := V.inv_sl hm hx hr
    have hlt := lt_of_live hr
    have fin : ∀ off, (∀ b, c.j r0 [] = some b → ∃ cs cap', c.w.heap[b]? = some (.cells cs e' (0, 0)) ∧ cs.size = cap' * P.cellsOf e' ∧ es.length ≤ cap' ∧ cap' ≤ maxLen ∧ cap = cap' - off ∧ off ≤ cap' ∧ off + l ≤ es.length ∧ (cap' = off ∧ off ≠ 0 ∨ B = some ⟨b, off * P.cellsOf e', none⟩)) →
        (c.j r0 [] = none → es.length = 0 ∧ off = 0 ∧ l = 0 ∧ cap = 0) → V P c (.sl r0 [] (some (off + lx.toNat, hy.toNat - lx.toNat))) (.slice (if cap = lx.toNat then B else B.map (·.add (lx.toNat * te.size))) (hy.toNat - lx.toNat) (cap - lx.toNat)) := by
      intro off hsome hnone
      refine .sl _ _ _ _ hlt hd fun te2 es2 hn2 => ?_
      rw [nodeAt_live hr] at hn2
      cases hn2
      cases hj : c.j r0 [] with
      | none =>
        obtain ⟨k1, k2, k3, k4⟩ := hnone hj
        have : lx = 0 := by omega
        subst this
        have : hy = 0 := by omega
        subst this
        subst k4; subst k2
        exact ⟨k1, by simp, _, rfl⟩
      | some b =>
        obtain ⟨cs, cap', k1, k2, k3, k4, k5, k6, k7, k8⟩ := hsome b hj
        refine ⟨cap', cs, k1, k2, k3, k4, by simp only; omega, (if cap = lx.toNat then B else B.map (·.add (lx.toNat * te.size))), ?_, ?_⟩
        · rw [k5]; simp only; congr 1; omega
        · simp only
          by_cases h3 : cap = lx.toNat
          · rw [if_pos h3]
            by_cases h4 : off + lx.toNat = 0
            · right
              rcases k8 with ⟨_, k8⟩ | k8
              · omega
              · rw [k8, show off = 0 by omega, show lx.toNat = 0 by omega]
            · left; omega
          · rw [if_neg h3]
            right
            rcases k8 with ⟨k8, _⟩ | k8
            · omega
            · rw [k8, Option.map_some, Addr.add_mid, hte'.cells, Nat.add_mul]
    split at h
    · refine ⟨_, _, h, hrun, ?_⟩
      have := fin 0 ?_ ?_
      · simpa using this
      · intro b hj
        rw [hj] at hsl
        obtain ⟨cap', cs, k1, k2, k3, k4, k5⟩ := hsl
        cases k5
        exact ⟨cs, cap, k1, k2, k3, k4, by omega, by omega, by omega, .inr (by simp)⟩
      · intro hj
        rw [hj] at hsl
        obtain ⟨k1, _, A0, k3⟩ := hsl
        cases k3
        exact ⟨k1, rfl, rfl, rfl⟩
    · rename_i w
      refine ⟨_, _, h, hrun, fin w.1 ?_ ?_⟩
      · intro b hj
        rw [hj] at hsl
        obtain ⟨cap', cs, k1, k2, k3, k4, k5, A2, k6, k7⟩ := hsl
        cases k6
        exact ⟨cs, cap', k1, k2, k3, k4, rfl, by omega, k5, k7⟩
      · intro hj
        rw [hj] at hsl
        obtain ⟨k1, k2, A0, k3⟩ := hsl
        cases k3
        obtain ⟨k4, k5⟩ := k2 _ rfl
        exact ⟨k1, k4, rfl, rfl⟩
  · cases h
end Go.Proofs.YtkicholhkoahhaaIT
