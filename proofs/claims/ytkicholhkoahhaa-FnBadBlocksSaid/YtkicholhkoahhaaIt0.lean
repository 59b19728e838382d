/- Regions whose order is open: operations that add memory, or write to a place of their own, beside those that read elsewhere. No condition beyond what each theorem states. -/
import Derived.Test.YtkicholhkoahhaaItY
import Derived.Test.YtkicholhkoahhaaItGh
namespace Go.Proofs.YtkicholhkoahhaaIT
open Go
variable {P : Program} {E : Env}

/-! What a soft operation leaves. -/
structure Sft (T : List Nat) (s s1 : St) : Prop where
  t : s1.t = s.t
  len : s.σ.length ≤ s1.σ.length
  σ : ∀ r, r < s.σ.length → r ∉ T → s1.σ.getD r .dead = s.σ.getD r .dead
theorem Sft.refl (T : List Nat) (s : St) : Sft T s s := ⟨rfl, Nat.le_refl _, fun _ _ _ => rfl⟩
theorem Sft.app (T : List Nat) (s : St) (l : List Root) : Sft T s ⟨s.t, s.σ ++ l⟩ := ⟨rfl, by simp, fun r hr _ => getD_append_left _ _ _ _ hr⟩

theorem mvIn_same (allow : Bool) : ∀ (hs : List Sh) (cs : List AV) (σ : List Root) (cs' : List AV) (σ1 : List Root), (allow = true ∨ hs.all (fun h => !h.deep) = true) → mvIn allow hs cs σ = some (cs', σ1) → σ1 = σ
  | [], [], σ, cs', σ1, _, h => by simp only [mvIn, Option.some.injEq, Prod.mk.injEq] at h; exact h.2.symm
  | _ :: _, [], σ, cs', σ1, _, h => by simp only [mvIn, Option.some.injEq, Prod.mk.injEq] at h; exact h.2.symm
  | [], _ :: _, σ, cs', σ1, _, h => by simp [mvIn] at h
  | h0 :: hs, c :: cs, σ, cs', σ1, hq, h => by
    have ih : ∀ q, mvIn allow hs cs σ = some q → q.2 = σ := fun q hh => mvIn_same allow hs cs σ q.1 q.2 (hq.imp id fun hh => by simp only [List.all_cons, Bool.and_eq_true] at hh; exact hh.2) hh
    have lift : ∀ {f : List AV → List AV}, (mvIn allow hs cs σ).map (fun q => (f q.1, q.2)) = some (cs', σ1) → σ1 = σ := fun hh => by
      obtain ⟨q, h1, h2⟩ := Option.map_eq_some_iff.1 hh
      cases h2
      exact ih q h1
    unfold mvIn at h
    repeat' split at h
    all_goals first
      | (cases h; done)
      | exact lift (f := fun l => _ :: l) h
      | (exfalso; rcases hq with hq | hq
         · contradiction
         · simp [Sh.deep] at hq)
/-- What is laid into memory leaves the roots that it doesn't refer to. -/
theorem mvIn_frame (allow : Bool) : ∀ (hs : List Sh) (cs : List AV) (σ : List Root) (cs' : List AV) (σ1 : List Root), mvIn allow hs cs σ = some (cs', σ1) → σ1.length = σ.length ∧ ∀ r, r ∉ refsOfL cs → σ1.getD r .dead = σ.getD r .dead
  | [], [], σ, cs', σ1, h => by
    simp only [mvIn, Option.some.injEq, Prod.mk.injEq] at h
    rw [← h.2]; exact ⟨rfl, fun _ _ => rfl⟩
  | _ :: _, [], σ, cs', σ1, h => by
    simp only [mvIn, Option.some.injEq, Prod.mk.injEq] at h
    rw [← h.2]; exact ⟨rfl, fun _ _ => rfl⟩
  | [], _ :: _, σ, cs', σ1, h => by simp [mvIn] at h
  | h0 :: hs, c :: cs, σ, cs', σ1, h => by
    have lift : ∀ {σ0 : List Root} {f : List AV → List AV}, σ0.length = σ.length → (∀ r, r ∉ refsOf c → σ0.getD r .dead = σ.getD r .dead) → (mvIn allow hs cs σ0).map (fun q => (f q.1, q.2)) = some (cs', σ1) → σ1.length = σ.length ∧ ∀ r, r ∉ refsOfL (c :: cs) → σ1.getD r .dead = σ.getD r .dead := fun {σ0} {f} hl0 h0 hh => by
      obtain ⟨q, h1, h2⟩ := Option.map_eq_some_iff.1 hh
      cases h2
      obtain ⟨g1, g2⟩ := mvIn_frame allow hs cs σ0 q.1 q.2 h1
      refine ⟨g1.trans hl0, fun r hr => ?_⟩
      simp only [refsOfL, List.mem_append, not_or] at hr
      rw [g2 r hr.2, h0 r hr.1]
    unfold mvIn at h
    repeat' split at h
    all_goals first
      | (cases h; done)
      | exact lift (f := fun l => _ :: l) rfl (fun _ _ => rfl) h
      | exact lift (f := fun l => _ :: l) (by simp) (fun r hr => by
          simp only [refsOf, List.mem_singleton] at hr
          exact getD_set_ne _ _ _ _ _ fun e => hr e.symm) h
theorem mvElems_same {sh : Sh} (hf : sh.leaves.all (fun h => !h.deep) = true) : ∀ (vs : List AV) (σ : List Root) (es : List AV) (σ1 : List Root), mvElems sh vs σ = some (es, σ1) → σ1 = σ
  | [], σ, es, σ1, h => by simp only [mvElems, Option.some.injEq, Prod.mk.injEq] at h; exact h.2.symm
  | v :: vs, σ, es, σ1, h => by
    unfold mvElems at h
    split at h <;> try (cases h; done)
    rename_i cs σ2 h2
    obtain rfl := mvIn_same false _ _ _ _ _ (.inr hf) h2
    obtain ⟨q, h3, h4⟩ := Option.map_eq_some_iff.1 h
    cases h4
    exact mvElems_same hf vs _ q.1 q.2 h3

theorem renRoot_some (ro : Root) : renRoot some ro = ro := by
  have hl : ∀ l : List AV, renL some l = l := fun l => by
    induction l with
    | nil => rfl
    | cons a l ih => simp only [renL, ren_some_id, ih]
  cases ro with
  | dead => rfl
  | live mv rf nest e es => cases rf <;> simp [renRoot, hl]
theorem mergeR_nil (ks : List Bool) (σ outs : List Root) : mergeR [] ks σ outs = σ ++ (outs.drop 0).map (renRoot (bkOf [] σ.length)) := by
  unfold mergeR
  have h1 : ∀ r, (match ixOf [] r with
    | some i => renRoot (bkOf [] σ.length) (outs.getD i .dead)
    | none => renRoot (keepF [] ks σ) (σ.getD r .dead)) = σ.getD r .dead := fun r => renRoot_some _
  congr 1
  refine (List.map_congr_left fun r _ => h1 r).trans ?_
  apply List.ext_getElem?
  intro i
  rw [List.getElem?_map]
  by_cases hi : i < σ.length
  · simp [hi]
  · simp [hi]
theorem renL_some (l : List AV) : renL some l = l := by
  induction l with
  | nil => rfl
  | cons a l ih => simp only [renL, ren_some_id, ih]

theorem nilN_app : ∀ (hs : List Sh) (cs : List AV) (σ : List Root), ∃ l, (nilN hs cs σ).2 = σ ++ l
  | [], cs, σ => ⟨[], by simp [nilN]⟩
  | _ :: _, [], σ => ⟨[], by simp [nilN]⟩
  | h :: hs, y :: cs, σ => by
    have other : (nilN (h :: hs) (y :: cs) σ).2 = (nilN hs cs σ).2 → ∃ l, (nilN (h :: hs) (y :: cs) σ).2 = σ ++ l := fun e => by
      obtain ⟨l, hl⟩ := nilN_app hs cs σ
      exact ⟨l, e.trans hl⟩
    cases h with
    | sl e z =>
      cases y with
      | nils =>
        obtain ⟨l, hl⟩ := nilN_app hs cs (σ ++ [.live true false false e []])
        exact ⟨[.live true false false e []] ++ l, by simpa [nilN] using hl⟩
      | _ => exact other rfl
    | _ => exact other rfl

theorem nilN_refs : ∀ (hs : List Sh) (cs : List AV) (σ : List Root) (r : Nat), r ∈ refsOfL (nilN hs cs σ).1 → r ∈ refsOfL cs ∨ σ.length ≤ r
  | [], cs, σ, r, h => .inl (by simpa [nilN] using h)
  | _ :: _, [], σ, r, h => .inl (by simpa [nilN] using h)
  | h :: hs, y :: cs, σ, r, hr => by
    have other : (nilN (h :: hs) (y :: cs) σ).1 = y :: (nilN hs cs σ).1 → r ∈ refsOfL (y :: cs) ∨ σ.length ≤ r := fun e => by
      rw [e] at hr
      simp only [refsOfL, List.mem_append] at hr ⊢
      rcases hr with hr | hr
      · exact .inl (.inl hr)
      · exact (nilN_refs hs cs σ r hr).imp .inr id
    cases h with
    | sl e z =>
      cases y with
      | nils =>
        simp only [nilN, refsOfL, List.mem_append, refsOf, List.mem_singleton] at hr
        rcases hr with rfl | hr
        · exact .inr (Nat.le_refl _)
        · rcases nilN_refs hs cs _ r hr with h1 | h1
          · exact .inl (by simp only [refsOfL, List.mem_append]; exact .inr h1)
          · right
            simp only [List.length_append, List.length_cons, List.length_nil] at h1
            omega
      | _ => exact other rfl
    | _ => exact other rfl
theorem soft_op {C : Cal} {o : Oper} {s s1 : St} {v : AV} (hs : softAt E o.op s = true) (h : evOp E C o s (fun v s => some (v, s)) = some (v, s1)) : Sft (touchF E o.op s) s s1 := by
  simp only [softAt, Bool.and_eq_true] at hs
  obtain ⟨hs, ha⟩ := hs
  unfold evOp at h
  split at h
  all_goals try (cases h; done)
  all_goals rename_i ho
  all_goals rw [ho] at hs ha ⊢
  all_goals try (cases hs; done)
  · split at h
    · split at h <;> cases h
      exact Sft.app _ s [_]
    · cases h; exact Sft.refl _ s
  · split at h <;> try (cases h; done)
    rename_i ti _
    split at h
    · cases h
      obtain ⟨l, hl⟩ := nilN_app ti.sh.leaves (zero false ti.sh).cells s.σ
      rw [hl, List.append_assoc]
      exact Sft.app _ s _
    · cases h
      exact Sft.app _ s [_]
  · unfold evBox at h
    split at h <;> try (cases h; done)
    split at h <;> try (cases h; done)
    split at h <;> try (cases h; done)
    rename_i cs σ1 hmv
    obtain rfl := mvIn_same true _ _ _ _ _ (.inl rfl) hmv
    cases h
    exact Sft.app _ s [_]
  · split at h <;> try (cases h; done)
    rename_i hti
    split at h <;> try (cases h; done)
    rename_i te hte
    split at h
    · cases h; exact Sft.refl _ s
    split at h <;> try (cases h; done)
    split at h <;> try (cases h; done)
    rename_i es σ1 hmv
    simp only [soft, hti, hte] at hs
    obtain rfl := mvElems_same hs _ _ _ _ hmv
    cases h
    exact Sft.app _ s [_]
  · rename_i t0 x0 y0
    have fin : ∀ (st0 : St) (v0 : AV), st0.t = s.t → (∃ l, st0.σ = s.σ ++ l) → (∀ r ∈ refsOfL v0.cells, r ∈ refsOfL (s.ev y0).cells ∨ s.σ.length ≤ r) → evStore E t0 (s.ev x0) v0 st0 (fun s => some (AV.u, s)) = some (v, s1) → Sft (touchF E (.store t0 x0 y0) s) s s1 := by
      intro st0 v0 ht hl hr h
      obtain ⟨l, hl⟩ := hl
      unfold evStore at h
      split at h <;> try (cases h; done)
      rename_i ti hti
      split at h <;> try (cases h; done)
      rename_i r0 m k he
      split at h <;> try (cases h; done)
      rename_i mv0 rf0 e0 es0 hr0
      split at h <;> try (cases h; done)
      split at h <;> try (cases h; done)
      split at h <;> try (cases h; done)
      rename_i cs σ1 hmv
      obtain ⟨gl, gf⟩ := mvIn_frame _ _ _ _ _ _ hmv
      split at h <;> try (cases h; done)
      cases h
      refine ⟨ht, by simp [gl, hl], fun r hr1 hn => ?_⟩
      have key : r0 ≠ r ∧ (r ∉ refsOfL v0.cells ∨ rf0 = true) := by
        have coarse : r ∉ refsOf (s.ev x0) ++ refsOfL (s.ev y0).cells → r0 ≠ r ∧ (r ∉ refsOfL v0.cells ∨ rf0 = true) := fun hn => by
          rw [he] at hn
          simp only [refsOf, List.mem_append, List.mem_singleton, not_or] at hn
          refine ⟨fun h => hn.1 h.symm, .inl fun h => ?_⟩
          rcases hr r h with h | h
          · exact hn.2 h
          · omega
        simp only [touchF, he] at hn
        rw [← he] at hn
        split at hn
        · rename_i hq
          have h1 := lt_of_live hq
          rw [hl, getD_append_left _ _ _ _ h1, hq] at hr0
          cases hr0
          simp only [List.mem_singleton] at hn
          exact ⟨fun h => hn h.symm, .inr rfl⟩
        · exact coarse hn
      rw [getD_set_ne _ _ _ _ _ key.1]
      have h3 : st0.σ.getD r .dead = s.σ.getD r .dead := by rw [hl]; exact getD_append_left _ _ _ _ hr1
      rcases key.2 with h2 | h2
      · exact (gf r h2).trans h3
      · subst h2
        rw [mvIn_same true _ _ _ _ _ (.inl rfl) hmv]; exact h3
    unfold evStoreN at h
    split at h
    · split at h <;> try (cases h; done)
      rename_i ti cs hti hag
      refine fin ⟨s.t, (nilN ti.sh.leaves cs s.σ).2⟩ (.agg (nilN ti.sh.leaves cs s.σ).1) rfl (nilN_app _ _ _) (fun r hr => ?_) h
      rw [hag]
      exact nilN_refs _ _ _ r hr
    · exact fin s _ rfl ⟨[], by simp⟩ (fun r hr => .inl hr) h
  · split at h <;> try (cases h; done)
    split at h <;> try (cases h; done)
    split at h <;> try (cases h; done)
    split at h <;> try (cases h; done)
    cases h
    exact Sft.app _ s [_]
  · unfold evMk at h
    split at h
    · cases h
    split at h <;> try (cases h; done)
    cases h
    exact Sft.app _ s [_]
  · unfold evUp at h
    split at h <;> try (cases h; done)
    split at h <;> try (cases h; done)
    rename_i r0 m k he
    split at h <;> try (cases h; done)
    split at h <;> try (cases h; done)
    split at h <;> try (cases h; done)
    split at h <;> try (cases h; done)
    cases h
    refine ⟨rfl, by simp, fun r hr hn => ?_⟩
    simp only [touchF, touch, he, refsOf, List.mem_singleton] at hn
    exact getD_set_ne _ _ _ _ _ fun h => hn h.symm
  · rename_i c
    cases hcl : c.callee with
    | builtin bi =>
      simp only [soft, hcl] at hs
      cases bi <;> simp only at hs <;> try (cases hs; done)
      rw [hcl] at h
      simp only at h
      split at h
      all_goals try (cases h; done)
      all_goals try contradiction
      rename_i x y t t' _ hx hy
      split at h <;> try (cases h; done)
      simp only [okAt, isApp, hcl, Bool.not_true, Bool.false_or, touch, hx, if_true, Bool.and_eq_true, List.isEmpty_iff] at ha
      replace ha := ha.1
      simp only [touchF, touch, hx, isApp, hcl, if_true, ha]
      unfold evAppend at h
      split at h <;> try (cases h; done)
      split at h <;> try (cases h; done)
      split at h <;> try (cases h; done)
      split at h <;> try (cases h; done)
      · split at h <;> cases h
        exact Sft.app _ s [_]
      · rename_i he
        rw [he] at ha
        simp [refsOf] at ha
    | value f =>
      rw [hcl] at h
      simp only at h
      simp only [soft, hcl] at hs
      cases f with
      | func g =>
        simp only [St.ev] at h
        simp only at hs
        split at h <;> try (cases h; done)
        rename_i fi hfi
        rw [hfi] at hs
        simp only [Bool.not_eq_true'] at hs
        split at h
        · rename_i hown
          rw [hown] at hs
          cases hs
        · have hoM : ownM E (.call c) = fi.muts.map (·.1) := by simp only [ownM, hcl, hfi, hs, Bool.false_eq_true, if_false]
          have hto : touch E (.call c) s = refsOfL (pickArgs (fi.muts.map (·.1)) 0 (c.args.toList.map s.ev)) := by simp only [touch, isApp, hcl, Bool.false_eq_true, if_false, hoM]
          simp only [okAt, Bool.and_eq_true, hoM, Bool.or_eq_true, hto] at ha
          simp only [touchF]
          rw [hto]
          unfold evOwn at h
          simp only [List.append_nil] at h
          have hvar := own_var (σ := s.σ) (pickArgs_nil _ _ ha.2)
          generalize hrs : reach s.σ 64 (refsOfL (pickArgs (fi.muts.map (·.1)) 0 (c.args.toList.map s.ev))) [] = rs at h hvar
          split at h <;> try (cases h; done)
          split at h <;> try (cases h; done)
          obtain ⟨q, _, h⟩ := Option.bind_eq_some_iff.1 h
          split at h <;> try (cases h; done)
          split at h <;> try (cases h; done)
          cases h
          have hk : ∀ ks, keepF rs ks s.σ = some := fun ks => keepF_some ks hvar.1
          rw [hk, renL_some]
          refine ⟨rfl, by simp [mergeR], fun r hr hnr => ?_⟩
          have hix : ixOf rs r = none := by
            cases hq : ixOf rs r with
            | none => rfl
            | some i => exact absurd (hvar.2 r (List.mem_of_getElem? (ixOf_some hq))) hnr
          simp only [mergeR]
          rw [getD_append_left _ _ _ _ (by simpa using hr), List.getD_eq_getElem?_getD, List.getElem?_map, List.getElem?_range hr]
          simp only [Option.map_some, Option.getD_some, hix]
          rw [hk, renRoot_some]
      | _ => simp at hs
    | _ => simp [soft, hcl] at hs

theorem ev_σ (t : List AV) (σ σ2 : List Root) (x : Operand) : (⟨t, σ2⟩ : St).ev x = (⟨t, σ⟩ : St).ev x := by cases x <;> rfl
theorem bound_σ (t : List AV) (σ σ2 : List Root) (x : Option Operand) (d : Int) : bound ⟨t, σ2⟩ x d = bound ⟨t, σ⟩ x d := by cases x <;> simp only [bound, ev_σ t σ σ2]
theorem fillCells_σ (fl : List (Nat × Nat)) (t : List AV) (σ σ2 : List Root) : ∀ (ps : List (Nat × Operand)) (cs : List AV), fillCells fl ⟨t, σ2⟩ ps cs = fillCells fl ⟨t, σ⟩ ps cs
  | [], cs => rfl
  | (f, x) :: ps, cs => by simp only [fillCells, ev_σ t σ σ2, fillCells_σ fl t σ σ2 ps]

/-- What is live in one is so in the other. -/
def LiveR (σ σ2 : List Root) (a : AV) : Prop := ∀ r ∈ refsOf a, ∀ mv rf nest e es, σ.getD r .dead = .live mv rf nest e es → σ2.getD r .dead = .live mv rf nest e es
theorem LiveR.solid {σ σ2 : List Root} {a : AV} (h : LiveR σ σ2 a) (hs : solid σ a = true) : solid σ2 a = true := by
  cases a with
  | sl r p w =>
    simp only [Go.Proofs.YtkicholhkoahhaaIT.solid] at hs ⊢
    cases p with
    | nil =>
      cases hr : σ.getD r .dead with
      | dead => rw [hr] at hs; cases hs
      | live mv rf nest e es => rw [h r (by simp [refsOf]) _ _ _ _ _ hr]
    | cons _ _ => cases hs
  | pt r p m k =>
    simp only [Go.Proofs.YtkicholhkoahhaaIT.solid] at hs ⊢
    cases p with
    | nil =>
      cases hr : σ.getD r .dead with
      | dead => rw [hr] at hs; cases hs
      | live mv rf nest e es => rw [h r (by simp [refsOf]) _ _ _ _ _ hr]
    | cons _ _ => cases hs
  | _ => exact hs
theorem LiveR.lenA {σ σ2 : List Root} {a : AV} {n : Nat} (h : LiveR σ σ2 a) (hs : lenA σ a = some n) : lenA σ2 a = some n := by
  cases a with
  | sl r p w =>
    cases p with
    | nil =>
      simp only [Go.Proofs.YtkicholhkoahhaaIT.lenA] at hs ⊢
      cases hr : σ.getD r .dead with
      | dead => rw [hr] at hs; cases hs
      | live mv rf nest e es => rw [hr] at hs; rw [h r (by simp [refsOf]) _ _ _ _ _ hr]; exact hs
    | cons _ _ => simp [Go.Proofs.YtkicholhkoahhaaIT.lenA] at hs
  | _ => exact hs
theorem LiveR.src {σ σ2 : List Root} {a : AV} {e z : Nat} {l : List AV} (h : LiveR σ σ2 a) (hs : srcElems e z σ a = some l) : srcElems e z σ2 a = some l := by
  cases a with
  | sl r p w =>
    simp only [srcElems] at hs ⊢
    cases hr : σ.getD r .dead with
    | dead => rw [hr] at hs; cases hs
    | live mv rf nest e es => rw [hr] at hs; rw [h r (by simp [refsOf]) _ _ _ _ _ hr]; exact hs
  | _ => exact hs
theorem fillOk_mono {t : List AV} {σ σ2 : List Root} (fl : List (Nat × Nat)) : ∀ (ps : List (Nat × Operand)), (∀ q ∈ ps, LiveR σ σ2 ((⟨t, σ⟩ : St).ev q.2)) → fillOk E ⟨t, σ⟩ fl ps = true → fillOk E ⟨t, σ2⟩ fl ps = true
  | [], _, _ => rfl
  | (f, x) :: ps, h, hs => by
    simp only [fillOk, Bool.and_eq_true] at hs ⊢
    refine ⟨?_, fillOk_mono fl ps (fun q hq => h q (by simp [hq])) hs.2⟩
    have h1 := hs.1
    split at h1 <;> try (cases h1; done)
    split at h1 <;> try (cases h1; done)
    simp only [Bool.and_eq_true, ev_σ t σ σ2] at h1 ⊢
    exact ⟨(h (f, x) (by simp)).solid h1.1, h1.2⟩

theorem evSlice_mono {e sz : Nat} {a : AV} {lo hi mx : Option Operand} {t : List AV} {σ σ2 : List Root} {R : Type} {r : R} {K : AV → Option R} (hA : LiveR σ σ2 a) (h : evSlice e sz a lo hi mx ⟨t, σ⟩ K = some r) : ∃ v, K v = some r ∧ ∀ {R' : Type} (K' : AV → Option R'), evSlice e sz a lo hi mx ⟨t, σ2⟩ K' = K' v := by
  unfold evSlice at h ⊢
  simp only [bound_σ t σ σ2]
  split at h <;> try (cases h; done)
  rename_i l hl
  simp only [hA.lenA hl]
  split at h <;> try (cases h; done)
  split at h <;> try (cases h; done)
  rename_i hlo hhi
  split at h <;> try (cases h; done)
  split at h <;> try (cases h; done)
  · exact ⟨_, h, fun K' => by simp_all⟩
  · split at h <;> try (cases h; done)
    split at h <;> exact ⟨_, h, fun K' => by simp_all⟩
  · exact ⟨_, h, fun K' => by simp_all⟩
  · split at h <;> try (cases h; done)
    rename_i hr
    have hr2 := hA _ (by simp [refsOf]) _ _ _ _ _ hr
    split at h <;> try (cases h; done)
    split at h <;> exact ⟨_, h, fun K' => by simp_all⟩
theorem evIndexAddr_mono {e sz : Nat} {a i : AV} {t : List AV} {σ σ2 : List Root} {R : Type} {r : R} {K : AV → Option R} (hA : LiveR σ σ2 a) (h : evIndexAddr e sz a i ⟨t, σ⟩ K = some r) : ∃ v, K v = some r ∧ ∀ {R' : Type} (K' : AV → Option R'), evIndexAddr e sz a i ⟨t, σ2⟩ K' = K' v := by
  unfold evIndexAddr at h ⊢
  split at h <;> try (cases h; done)
  split at h <;> try (cases h; done)
  rename_i l hl
  simp only [hA.lenA hl]
  split at h <;> try (cases h; done)
  rename_i hc
  split at h <;> try (cases h; done)
  · split at h <;> try (cases h; done)
    exact ⟨_, h, fun K' => by simp_all⟩
  · split at h <;> try (cases h; done)
    rename_i hr
    have hr2 := hA _ (by simp [refsOf]) _ _ _ _ _ hr
    split at h <;> try (cases h; done)
    exact ⟨_, h, fun K' => by simp_all⟩

theorem plain_mono {C : Cal} {o : Oper} {t : List AV} {σ σ2 : List Root} {v : AV} {s' : St} (hp : plain o.op = true) (h : evOp E C o ⟨t, σ⟩ (fun v s => some (v, s)) = some (v, s'))
    (hσ : memless o.op = false → ∀ x ∈ o.op.operands, LiveR σ σ2 ((⟨t, σ⟩ : St).ev x)) :
    evOp E C o ⟨t, σ2⟩ (fun v s => some (v, s)) = some (v, ⟨t, σ2⟩) := by
  unfold evOp at h ⊢
  split at h
  all_goals try (cases h; done)
  all_goals rename_i ho
  all_goals rw [ho] at hp hσ
  all_goals try (cases hp; done)
  all_goals try replace hσ := hσ rfl
  all_goals simp only [ev_σ t σ σ2, bound_σ t σ σ2, fillCells_σ _ t σ σ2]
  -- move
  · cases h; rfl
  -- pick
  · split at h <;> try (cases h; done)
    rename_i b hb
    cases b <;> (cases h; simp [hb])
  -- build
  · rename_i ty ps
    split at h <;> try (cases h; done)
    rename_i l n b0 e0 fl hti
    split at h <;> try (cases h; done)
    rename_i hok
    cases h
    simp only [Bool.and_eq_true] at hok
    have := fillOk_mono (E := E) (σ2 := σ2) fl ps.toList (fun q hq => hσ q.2 (by simp [Op.operands]; exact ⟨q.1, by simpa using hq⟩)) hok.1
    rw [this, hok.2]
    rfl
  -- buildSlice
  · simp only [plain] at hp
    split at h <;> try (cases h; done)
    rename_i hti
    split at h <;> try (cases h; done)
    rename_i hte
    rw [if_pos hp] at h
    cases h
    simp only [hp, if_true]
  -- load
  · rename_i ty x
    have hx := hσ x (by simp [Op.operands])
    unfold evLoad at h ⊢
    split at h <;> try (cases h; done)
    rename_i ti hti
    split at h <;> try (cases h; done)
    · rename_i r0 m k he
      rw [he] at hx
      split at h <;> try (cases h; done)
      rename_i hr
      rw [hx r0 (by simp [refsOf]) _ _ _ _ _ hr]
      split at h <;> try (cases h; done)
      rename_i hok
      cases h
      simp only [hok, if_true]
    · split at h <;> try (cases h; done)
      rename_i hok
      cases h
      simp only [hok, if_true]
  -- nilCheck
  · rename_i x
    have hx := hσ x (by simp [Op.operands])
    split at h <;> try (cases h; done)
    · rename_i r0 p m k he
      rw [he] at hx
      split at h <;> try (cases h; done)
      split at h <;> try (cases h; done)
      rename_i hr
      rw [hx r0 (by simp [refsOf]) _ _ _ _ _ hr]
      cases h; rfl
    · cases h; rfl
    · cases h; rfl
  -- binOp
  · obtain ⟨a, h1, h2⟩ := evBinA_out h
    cases h1
    rw [h2]
  -- unOp
  · obtain ⟨a, h1, h2⟩ := evUn_out h
    cases h1
    rw [h2]
  -- convert
  · rename_i sc d x
    have hx := hσ x (by simp [Op.operands])
    split at h <;> try (cases h; done)
    · split at h <;> try (cases h; done)
      split at h <;> try (cases h; done)
      cases h; simp_all
    · split at h <;> try (cases h; done)
      · split at h <;> try (cases h; done)
        cases h; simp_all
      · split at h <;> try (cases h; done)
        split at h <;> try (cases h; done)
        split at h <;> try (cases h; done)
        rename_i es hes
        split at h <;> try (cases h; done)
        rename_i hu
        cases h
        simp only [hx.src hes, hu, if_true]
  -- makeFunc
  · split at h <;> try (cases h; done)
    rename_i hf
    cases h
    simp only [hf, if_true, Option.some.injEq, Prod.mk.injEq, AV.fn.injEq, and_true, true_and]
    exact List.map_congr_left fun x _ => ev_σ t σ σ2 x
  -- slice
  · rename_i ty x lo hi mx
    have hx := hσ x (by simp [Op.operands])
    split at h <;> try (cases h; done)
    · split at h <;> try (cases h; done)
      split at h <;> try (cases h; done)
      split at h <;> try (cases h; done)
      obtain ⟨a, h1, h2⟩ := evSlice_mono (t := t) hx h
      cases h1
      simp_all
    · split at h <;> try (cases h; done)
      rename_i he
      rw [he] at hx
      obtain ⟨a, h1, h2⟩ := evSlice_mono (t := t) hx h
      cases h1
      simp_all
  -- fieldAddr
  · rename_i ty x f
    have hx := hσ x (by simp [Op.operands])
    split at h <;> try (cases h; done)
    split at h <;> try (cases h; done)
    split at h <;> try (cases h; done)
    split at h <;> try (cases h; done)
    split at h <;> try (cases h; done)
    split at h <;> try (cases h; done)
    · rename_i r0 m k he
      rw [he] at hx
      split at h <;> try (cases h; done)
      rename_i hr
      have hr2 := hx r0 (by simp [refsOf]) _ _ _ _ _ hr
      cases h
      simp_all
    · cases h; simp_all
  -- field
  · split at h <;> try (cases h; done)
    split at h <;> try (cases h; done)
    split at h <;> try (cases h; done)
    split at h <;> try (cases h; done)
    split at h <;> try (cases h; done)
    split at h <;> try (cases h; done)
    cases h; simp_all
  -- indexAddr
  · rename_i ty x i
    have hx := hσ x (by simp [Op.operands])
    split at h <;> try (cases h; done)
    split at h <;> try (cases h; done)
    split at h <;> try (cases h; done)
    obtain ⟨a, h1, h2⟩ := evIndexAddr_mono (t := t) hx h
    cases h1
    simp_all
  -- index
  · split at h <;> try (cases h; done)
    split at h <;> try (cases h; done)
    split at h <;> try (cases h; done)
    split at h <;> try (cases h; done)
    cases h; simp_all
  -- extract
  · split at h <;> try (cases h; done)
    split at h <;> try (cases h; done)
    cases h; simp_all
  -- lookup
  · rename_i ty x ix ok
    have hx := hσ x (by simp [Op.operands])
    unfold evLk at h ⊢
    split at h
    · cases h
    split at h <;> try (cases h; done)
    split at h <;> try (cases h; done)
    rename_i r0 m k he
    rw [he] at hx
    split at h <;> try (cases h; done)
    rename_i hr
    rw [hx r0 (by simp [refsOf]) _ _ _ _ _ hr]
    split at h <;> try (cases h; done)
    split at h <;> try (cases h; done)
    cases h
    simp_all
  -- calls
  · rename_i c
    cases hcl : c.callee with
    | builtin bi =>
      simp only [plain, hcl] at hp
      rw [hcl] at h
      simp only at h ⊢
      split at h
      all_goals try (cases h; done)
      all_goals try (simp at hp; done)
      · rename_i x ty ha hat
        have hx := hσ x (by
          have e1 : c.args = #[x] := by rw [← Array.toArray_toList (xs := c.args), ha]
          simp [Op.operands, Call.operands, e1])
        split at h <;> try (cases h; done)
        · split at h <;> try (cases h; done)
          cases h; simp_all
        · split at h <;> try (cases h; done)
          split at h <;> try (cases h; done)
          rename_i n hn
          have hn2 := hx.lenA hn
          cases h; simp_all
      · split at h <;> try (cases h; done)
        · split at h <;> try (cases h; done)
          cases h; simp_all
        · split at h <;> try (cases h; done)
          cases h; simp_all
      · split at h <;> try (cases h; done)
        · split at h <;> try (cases h; done)
          cases h; simp_all
        · split at h <;> try (cases h; done)
          cases h; simp_all
    | _ => simp [plain, hcl] at hp

theorem plain_still {o : Op} (h : plain o = true) : stillOp E o = true := by
  cases o with
  | call c =>
    cases hcl : c.callee with
    | builtin b =>
      simp only [plain, stillOp, hcl] at h ⊢
      exact h
    | _ => simp [plain, hcl] at h
  | buildSlice t n ps => exact h
  | _ => first | rfl | (simp [plain] at h; done)

/-! The trace, and what was asked. -/
theorem evOpsD_trace {C : Cal} {ops : List Oper} {b : List Nat} {R : Type} {K : St → Option R} {r : R} : ∀ {l : List Oper} {i : Nat} {st : St}, evOpsD E C ops b i l st K = some r →
    ∃ tr : Nat → St, tr 0 = st ∧ K (tr l.length) = some r ∧ ∀ (j : Nat) (o : Oper), l[j]? = some o → StepAt E C ops o (tr j) (tr (j + 1)) ∧ okStep E ops b (i + j) o (tr j) = true
  | [], i, st, h => ⟨fun _ => st, rfl, h, fun i o h => by simp at h⟩
  | o :: rest, i, st, h => by
    simp only [evOpsD] at h
    split at h <;> try (cases h; done)
    rename_i hok
    obtain ⟨t1, h1, h2, h3⟩ := evOps_trace h
    obtain ⟨tr, g1, g2, g3⟩ := evOpsD_trace h2
    have h4 := h3 0 o rfl
    rw [h1] at h4
    refine ⟨fun n => match n with | 0 => st | n + 1 => tr n, rfl, g2, fun j q hq => ?_⟩
    cases j with
    | zero =>
      simp only [List.getElem?_cons_zero, Option.some.injEq] at hq
      subst hq
      simp only [g1]
      exact ⟨h4, hok⟩
    | succ j =>
      have := g3 j q (by simpa using hq)
      rw [show i + (j + 1) = i + 1 + j by omega]
      exact this

def Bf (b : List Nat) (i j : Nat) : Prop := (b.getD i 0).testBit j = true
/-- G: the operations that lay out a variable and float. -/
structure DO3 (E : Env) (ops : List Oper) (b : List Nat) (G : Nat → Prop) : Prop where
  back : ∀ (k : Nat) o, ops[k]? = some o → ∀ e ∈ o.after, Region.binds .any e = true → e.on < k
  dst : ∀ (i : Nat) o (j : Nat) q d, ops[i]? = some o → ops[j]? = some q → o.dst = some d → q.dst = some d → j = i
  look : ∀ (i : Nat) o (j : Nat) q d, ops[i]? = some o → ops[j]? = some q → o.dst = some d → d ∈ q.looksAt ops.toArray → j = i ∨ Bf b j i ∨ Bf b i j
  pair : ∀ (i : Nat) o (j : Nat) q, ops[i]? = some o → ops[j]? = some q → ¬ G i → ¬ G j → stillOp E o.op = false → j ≠ i → Bf b i j ∨ Bf b j i ∨ (soft E o.op = true ∧ plain q.op = true ∧ noOver E ops b (min i j) (max i j) (if i < j then o else q) = true)
  tru : ∀ k, ¬ G k → b.getD k 0 = (befL ops []).getD k 0
  lt : ∀ (k : Nat) q, ops[k]? = some q → ∀ j, Bf b k j → j < k

theorem bef_lt {ops : List Oper} (hb : ∀ (k : Nat) o, ops[k]? = some o → ∀ e ∈ o.after, Region.binds .any e = true → e.on < k) : ∀ (k : Nat) q, ops[k]? = some q → ∀ j, Bf (befL ops []) k j → j < k :=
  fun k q hq j hj => (bef_spec (listed := fun _ => True) hb (fun _ _ _ _ _ _ _ => trivial) k q hq (fun _ _ _ => trivial) j hj).1
theorem drawOk2_spec {ops : List Oper} (h : drawOk2 E ops = true) : DO3 E ops (befL ops []) fun _ => False := by
  unfold drawOk2 at h
  simp only at h
  have h2 : ∀ (i : Nat) o (j : Nat) q, ops[i]? = some o → ops[j]? = some q → _ := fun i o j q hi hj =>
    allIx_spec (by have := allIx_spec h hi; rw [Bool.and_eq_true] at this; exact this.2) hj
  have hback : ∀ (k : Nat) o, ops[k]? = some o → ∀ e ∈ o.after, Region.binds .any e = true → e.on < k := fun k o hk e he hb => by
    have := allIx_spec h hk
    rw [Bool.and_eq_true] at this
    have h1 := List.all_eq_true.1 this.1 e (Array.mem_toList_iff.2 he)
    rw [hb] at h1
    simpa using h1
  refine ⟨hback, fun i o j q d hi hj ho hq => ?_, fun i o j q d hi hj ho hd => ?_, fun i o j q hi hj _ _ hs hne => ?_, fun _ _ => rfl, bef_lt hback⟩
  · have := h2 i o j q hi hj
    simp only [ho, hq, Nat.zero_add, Bool.and_eq_true, Bool.or_eq_true, beq_iff_eq, bne_iff_ne, ne_eq, not_true_eq_false, or_false] at this
    exact this.1.1
  · have := h2 i o j q hi hj
    simp only [ho, Nat.zero_add, Bool.and_eq_true, Bool.or_eq_true, Bool.not_eq_true', beq_iff_eq] at this
    rcases this.1.2 with ((h3 | h3) | h3) | h3
    · simp [hd] at h3
    · exact .inl h3
    · exact .inr (.inl h3)
    · exact .inr (.inr h3)
  · have := h2 i o j q hi hj
    simp only [hs, Nat.zero_add, Bool.and_eq_true, Bool.or_eq_true, beq_iff_eq, Bool.false_eq_true, false_or] at this
    rcases this.2 with ((h3 | h3) | h3) | h3
    · exact absurd h3 hne
    · exact .inl h3
    · exact .inr (.inl h3)
    · exact .inr (.inr ⟨h3.1.1, h3.1.2, h3.2⟩)

theorem b3_get {s m : Nat} : ∀ {l : List Nat} {n k : Nat}, (b3 s m n l).getD k 0 = if inR s m (n + k) && decide (k < l.length) then l.getD k 0 ||| (2 ^ s - 1) else l.getD k 0
  | [], n, k => by simp [b3]
  | x :: l, n, 0 => by simp [b3]
  | x :: l, n, k + 1 => by
    have := b3_get (s := s) (m := m) (l := l) (n := n + 1) (k := k)
    simp only [b3, List.getD_cons_succ, List.length_cons]
    rw [this, show n + 1 + k = n + (k + 1) by omega]
    simp only [Nat.add_lt_add_iff_right]
theorem allIx_not {α : Type} {p : Nat → α → Bool} : ∀ {l : List α} {n : Nat}, allIx p n l = false → ∃ (k : Nat) (a : α), l[k]? = some a ∧ p (n + k) a = false
  | [], _, h => by simp [allIx] at h
  | b :: l, n, h => by
    simp only [allIx, Bool.and_eq_false_iff] at h
    rcases h with h | h
    · exact ⟨0, b, rfl, h⟩
    · obtain ⟨k, a, h1, h2⟩ := allIx_not h
      exact ⟨k + 1, a, by simpa using h1, by rw [show n + (k + 1) = n + 1 + k by omega]; exact h2⟩
structure DG (E : Env) (ops : List Oper) (s m : Nat) : Prop where
  lt : s < m
  le : m ≤ ops.length
  al : ∀ k, s ≤ k → k < m → ∃ o t d, ops[k]? = some o ∧ o.op = .alloc t ∧ o.guard = none ∧ o.dst = some d
  nolook : ∀ (k : Nat) o d (j : Nat) q, s ≤ k → k < m → ops[k]? = some o → o.dst = some d → ops[j]? = some q → d ∈ q.looksAt ops.toArray → ¬ j < s
  aft : ∀ (j : Nat) q, ops[j]? = some q → m ≤ j → ∀ (k : Nat) q', ops[k]? = some q' → k < m → (s ≤ k ∨ stillOp E q'.op = false) → Bf (befL ops []) j k
  flo : ∀ (i : Nat) o, ops[i]? = some o → i < s → stillOp E o.op = true → (∃ (k : Nat) (q : Oper), k < s ∧ ops[k]? = some q ∧ stillOp E q.op = false ∧ Bf (befL ops []) k i) ∨ (plain o.op = true ∧ ∀ k, s ≤ k → k < m → noOver E ops (b3 s m 0 (befL ops [])) i k o = true)
theorem isAl_spec {o : Oper} (h : isAl o = true) : ∃ t d, o.op = .alloc t ∧ o.guard = none ∧ o.dst = some d := by
  simp only [isAl, Bool.and_eq_true, Option.isNone_iff_eq_none] at h
  obtain ⟨⟨h1, h2⟩, h3⟩ := h
  obtain ⟨d, hd⟩ := Option.isSome_iff_exists.1 h3
  cases ho : o.op <;> simp only [ho] at h1 <;> first | exact ⟨_, d, rfl, h2, hd⟩ | cases h1
theorem drawOk3_spec {ops : List Oper} {s m : Nat} (h : drawOk3 E ops s m = true) : DO3 E ops (b3 s m 0 (befL ops [])) (fun k => s ≤ k ∧ k < m) ∧ DG E ops s m := by
  unfold drawOk3 at h
  simp only [Bool.and_eq_true, decide_eq_true_eq] at h
  obtain ⟨⟨hsm, hml⟩, h⟩ := h
  have h1 : ∀ (i : Nat) o, ops[i]? = some o → _ := fun i o hi => allIx_spec h hi
  have h2 : ∀ (i : Nat) o (j : Nat) q, ops[i]? = some o → ops[j]? = some q → _ := fun i o j q hi hj =>
    allIx_spec (by have := allIx_spec h hi; rw [Bool.and_eq_true] at this; exact this.2) hj
  have hback : ∀ (k : Nat) o, ops[k]? = some o → ∀ e ∈ o.after, Region.binds .any e = true → e.on < k := fun k o hk e he hb => by
    have := h1 k o hk
    simp only [Bool.and_eq_true] at this
    have h1 := List.all_eq_true.1 this.1.2 e (Array.mem_toList_iff.2 he)
    rw [hb] at h1
    simpa using h1
  have hR : ∀ k, inR s m k = true ↔ s ≤ k ∧ k < m := fun k => by simp [inR]
  have hR' : ∀ k, ¬ (s ≤ k ∧ k < m) → inR s m k = false := fun k hk => Bool.eq_false_iff.2 fun h => hk ((hR k).1 h)
  have htru : ∀ k, ¬ (s ≤ k ∧ k < m) → (b3 s m 0 (befL ops [])).getD k 0 = (befL ops []).getD k 0 := fun k hk => by
    rw [b3_get, Nat.zero_add, hR' k hk]; rfl
  refine ⟨⟨hback, fun i o j q d hi hj ho hq => ?_, fun i o j q d hi hj ho hd => ?_, fun i o j q hi hj hgi hgj hs hne => ?_, htru, fun k q hq j hj => ?_⟩, hsm, hml, fun k k1 k2 => ?_, fun k o d j q k1 k2 hk ho hq hd => ?_, fun j q hq hj k q' hq' hk hkk => ?_, fun i o ho hi hs => ?_⟩
  · have := h2 i o j q hi hj
    simp only [ho, hq, Nat.zero_add, Bool.and_eq_true, Bool.or_eq_true, beq_iff_eq, bne_iff_ne, ne_eq, not_true_eq_false, or_false] at this
    exact this.1.1
  · have := h2 i o j q hi hj
    simp only [ho, Nat.zero_add, Bool.and_eq_true, Bool.or_eq_true, Bool.not_eq_true', beq_iff_eq] at this
    rcases this.1.2 with h3 | ⟨(h3 | h3) | h3, _⟩
    · simp [hd] at h3
    · exact .inl h3
    · exact .inr (.inl h3)
    · exact .inr (.inr h3)
  · have := h2 i o j q hi hj
    simp only [hs, Nat.zero_add, Bool.and_eq_true, Bool.or_eq_true, beq_iff_eq, Bool.false_eq_true, false_or, hR' i hgi, hR' j hgj] at this
    rcases this.2 with ((h3 | h3) | h3) | h3
    · exact absurd h3 hne
    · exact .inl h3
    · exact .inr (.inl h3)
    · exact .inr (.inr ⟨h3.1.1, h3.1.2, h3.2⟩)
  · by_cases hk : s ≤ k ∧ k < m
    · unfold Bf at hj
      rw [b3_get, Nat.zero_add] at hj
      split at hj
      · simp only [Nat.testBit_or, Bool.or_eq_true, Nat.testBit_two_pow_sub_one, decide_eq_true_eq] at hj
        rcases hj with hj | hj
        · exact bef_lt hback k q hq j hj
        · omega
      · exact bef_lt hback k q hq j hj
    · unfold Bf at hj
      rw [htru k hk] at hj
      exact bef_lt hback k q hq j hj
  · have hlt : k < ops.length := by omega
    have := h1 k _ (List.getElem?_eq_getElem hlt)
    simp only [Nat.zero_add, Bool.and_eq_true, (hR k).2 ⟨k1, k2⟩, Bool.not_true, Bool.false_or] at this
    obtain ⟨t, d, g1, g2, g3⟩ := isAl_spec this.1.1.1.1
    exact ⟨_, t, d, List.getElem?_eq_getElem hlt, g1, g2, g3⟩
  · intro hjs
    have := h2 k o j q hk hq
    simp only [ho, Nat.zero_add, (hR k).2 ⟨k1, k2⟩, Bool.true_and, decide_eq_true hjs, Bool.not_true, Bool.and_false, Bool.or_false, Bool.and_eq_true, Bool.not_eq_true'] at this
    simp [hd] at this
  · have := h1 j q hq
    simp only [Nat.zero_add, Bool.and_eq_true, Bool.or_eq_true, decide_eq_true_eq] at this
    have h3 := allIx_spec (this.1.1.1.2.resolve_left (by omega)) hq'
    simp only [Nat.zero_add, Bool.or_eq_true, decide_eq_true_eq, Bool.and_eq_true, Bool.not_eq_true'] at h3
    unfold Bf
    rw [← htru j (by omega)]
    rcases h3 with (h3 | ⟨h3, h4⟩) | h3
    · omega
    · rcases hkk with h5 | h5
      · rw [(hR k).2 ⟨h5, hk⟩] at h3; cases h3
      · rw [h5] at h4; cases h4
    · exact h3
  · have := h1 i o ho
    simp only [Nat.zero_add, Bool.and_eq_true, Bool.or_eq_true, decide_eq_true_eq, Bool.not_eq_true', hs, Bool.true_eq_false, or_false] at this
    rcases this.1.1.2 with (h3 | h3) | h3
    · omega
    · obtain ⟨k, q, g1, g2⟩ := allIx_not h3
      simp only [Nat.zero_add, Bool.or_eq_false_iff, decide_eq_false_iff_not, Bool.not_eq_false'] at g2
      refine .inl ⟨k, q, by omega, g1, g2.1.2, ?_⟩
      unfold Bf
      rw [← htru k (by omega)]
      exact g2.2
    · refine .inr ⟨h3.1, fun k k1 k2 => ?_⟩
      have h4 := allIx_spec h3.2 (List.getElem?_eq_getElem (show k < ops.length by omega))
      simp only [Nat.zero_add, (hR k).2 ⟨k1, k2⟩, Bool.not_true, Bool.false_or] at h4
      exact h4

theorem noOver_spec {ops : List Oper} {b : List Nat} {lo hi : Nat} {o : Oper} (h : noOver E ops b lo hi o = true) {k : Nat} {q : Oper} (hk : ops[k]? = some q) (h1 : lo ≤ k) (h2 : k < hi) :
    (stillOp E q.op = true ∨ soft E q.op = true ∧ (isCond E q.op = false ∨ ∃ j, j < ops.length ∧ free b k j = true)) ∧ ∀ d, q.dst = some d → d ∉ o.looksAt ops.toArray := by
  have := allIx_spec h hk
  simp only [Nat.zero_add, Bool.or_eq_true, decide_eq_true_eq, Bool.and_eq_true, Bool.not_eq_true', List.any_eq_true, List.mem_range] at this
  rcases this with (h3 | h3) | ⟨h3, h4⟩
  · omega
  · omega
  · refine ⟨h3.imp id fun h => ⟨h.1, h.2.imp id fun ⟨j, h5, h6⟩ => ⟨j, h5, h6⟩⟩, fun d hd hmem => ?_⟩
    rw [hd] at h4
    simp [hmem] at h4

theorem okStep_spec {ops : List Oper} {b : List Nat} {i : Nat} {o : Oper} {st : St} (h : okStep E ops b i o st = true) {j : Nat} {q : Oper} (hj : ops[j]? = some q) (hf : free b i j = true) :
    (stillOp E o.op = true → stillOp E q.op = false → j < i → disj (touch E q.op st) (refsLk o.op st) = true) ∧
    (stillOp E o.op = false → okAt E o.op st = true ∧ (j < i → disj (touchF E o.op st) (refsLk q.op st) = true)) := by
  have := allIx_spec h hj
  simp only [Nat.zero_add, hf, Bool.not_true, Bool.false_or] at this
  refine ⟨fun h1 h2 h3 => ?_, fun h1 => ?_⟩
  · rw [if_pos h1] at this
    simp only [h2, Bool.false_or, Bool.or_eq_true, decide_eq_true_eq] at this
    exact this.resolve_left (by omega)
  · rw [if_neg (by rw [h1]; simp)] at this
    simp only [Bool.and_eq_true, Bool.or_eq_true, decide_eq_true_eq] at this
    exact ⟨this.1, fun h3 => this.2.resolve_left (by omega)⟩
theorem disj_spec {a b : List Nat} (h : disj a b = true) {r : Nat} (hb : r ∈ b) : r ∉ a := fun ha => by
  have := List.all_eq_true.1 h r ha
  simp [hb] at this
theorem free_spec {b : List Nat} {i j : Nat} : free b i j = true ↔ j ≠ i ∧ (b.getD i 0).testBit j = false ∧ (b.getD j 0).testBit i = false := by
  simp [free, and_assoc]

/-! A stretch of the trace. -/
structure Tr (E : Env) (C : Cal) (ops : List Oper) (b : List Nat) (tr : Nat → St) : Prop where
  step : ∀ (i : Nat) (o : Oper), ops[i]? = some o → StepAt E C ops o (tr i) (tr (i + 1))
  ok : ∀ (i : Nat) (o : Oper), ops[i]? = some o → okStep E ops b i o (tr i) = true
def Okk (E : Env) (ops : List Oper) (b : List Nat) (k : Nat) (q : Oper) : Prop := stillOp E q.op = true ∨ soft E q.op = true ∧ (isCond E q.op = false ∨ ∃ j, j < ops.length ∧ free b k j = true)

theorem step_soft {C : Cal} {ops : List Oper} {b : List Nat} {tr : Nat → St} (T : Tr E C ops b tr) {k : Nat} {q : Oper} (hk : ops[k]? = some q) (hq : Okk E ops b k q) : ∃ xv s1, tr (k + 1) = s1.put q.dst xv ∧ Sft (if stillOp E q.op then [] else touchF E q.op (tr k)) (tr k) s1 := by
  rcases T.step k q hk with ⟨v, s1, h1, h2, _⟩ | ⟨h1, _⟩
  · refine ⟨v, s1, h2, ?_⟩
    cases hs : stillOp E q.op with
    | true => rw [evOp_still hs h1]; exact Sft.refl _ _
    | false =>
      rw [if_neg (by simp)]
      refine soft_op ?_ h1
      rcases hq with hq | ⟨h3, h4⟩
      · rw [hs] at hq; cases hq
      · simp only [softAt, h3, Bool.true_and]
        rcases h4 with h4 | ⟨j, hj, hf⟩
        · simp only [isCond, Bool.or_eq_false_iff, Bool.not_eq_false'] at h4
          simp only [okAt, h4.1, h4.2, Bool.not_false, Bool.true_or, Bool.and_self]
        · exact ((okStep_spec (T.ok k q hk) (List.getElem?_eq_getElem hj) hf).2 hs).1
  · exact ⟨_, tr k, h1, Sft.refl _ _⟩

structure Seg (E : Env) (ops : List Oper) (tr : Nat → St) (lo hi : Nat) : Prop where
  tl : (tr hi).t.length = (tr lo).t.length
  t : ∀ d, (∀ (k : Nat) o, lo ≤ k → k < hi → ops[k]? = some o → o.dst ≠ some d) → (tr hi).t.getD d .x = (tr lo).t.getD d .x
  len : (tr lo).σ.length ≤ (tr hi).σ.length
  σ : ∀ r, r < (tr lo).σ.length → (∀ (k : Nat) o, lo ≤ k → k < hi → ops[k]? = some o → stillOp E o.op = false → r ∉ touchF E o.op (tr k)) → (tr hi).σ.getD r .dead = (tr lo).σ.getD r .dead
theorem seg_ok {C : Cal} {ops : List Oper} {b : List Nat} {tr : Nat → St} (T : Tr E C ops b tr) {lo : Nat} : ∀ {hi : Nat}, lo ≤ hi → hi ≤ ops.length → (∀ (k : Nat) o, lo ≤ k → k < hi → ops[k]? = some o → Okk E ops b k o) → Seg E ops tr lo hi := by
  intro hi
  induction hi with
  | zero =>
    intro h _ _
    have : lo = 0 := by omega
    subst this
    exact ⟨rfl, fun _ _ => rfl, Nat.le_refl _, fun _ _ _ => rfl⟩
  | succ hi ih =>
    intro h hl hs
    by_cases hi' : lo = hi + 1
    · subst hi'; exact ⟨rfl, fun _ _ => rfl, Nat.le_refl _, fun _ _ _ => rfl⟩
    · have hlt : hi < ops.length := by omega
      have hg := List.getElem?_eq_getElem hlt
      have g := ih (by omega) (by omega) fun k o g1 g2 => hs k o g1 (by omega)
      obtain ⟨xv, s1, hx, hf⟩ := step_soft T hg (hs hi _ (by omega) (by omega) hg)
      refine ⟨by rw [hx, put_len, hf.t, g.tl], fun d hd => ?_, by rw [hx, put_σ]; exact Nat.le_trans g.len hf.len, fun r hr hd => ?_⟩
      · rw [hx, put_ne _ _ (hd hi _ (by omega) (by omega) hg), hf.t]
        exact g.t d fun k o g1 g2 => hd k o g1 (by omega)
      · rw [hx, put_σ, hf.σ r (Nat.lt_of_lt_of_le hr g.len) ?_]
        · exact g.σ r hr fun k o g1 g2 => hd k o g1 (by omega)
        · split
          · simp
          · rename_i hst
            exact hd hi _ (by omega) (by omega) hg (by simpa using hst)
theorem refsL_mem {r : Nat} : ∀ {cs : List AV}, r ∈ refsOfL cs ↔ ∃ (t : Nat) (y : AV), cs[t]? = some y ∧ r ∈ refsOf y
  | [] => by simp [refsOfL]
  | c :: cs => by
    simp only [refsOfL, List.mem_append, refsL_mem (cs := cs)]
    constructor
    · rintro (h | ⟨t, y, h1, h2⟩)
      · exact ⟨0, c, rfl, h⟩
      · exact ⟨t + 1, y, by simpa using h1, h2⟩
    · rintro ⟨t, y, h1, h2⟩
      cases t with
      | zero => simp only [List.getElem?_cons_zero, Option.some.injEq] at h1; subst h1; exact .inl h2
      | succ t => exact .inr ⟨t, y, by simpa using h1, h2⟩
theorem VI.norefs {N : Nat → Prop} {w : World} {y : AV} {v : Value} (h : VI N w y v) : ∀ r, r ∉ refsOf y := by
  have hL : ∀ (cs : List AV) (vs : List Value), cs.length = vs.length → (∀ (t : Nat) (y : AV) (v : Value), cs[t]? = some y → vs[t]? = some v → ∀ r, r ∉ refsOf y) → ∀ r, r ∉ refsOfL cs := by
    intro cs vs hl ih r hr
    obtain ⟨t, y, h1, h2⟩ := refsL_mem.1 hr
    have hlt := (List.getElem?_eq_some_iff.1 h1).1
    exact ih t y _ h1 (List.getElem?_eq_getElem (by omega : t < vs.length)) r h2
  induction h with
  | agg cs vs hl _ ih => simp only [refsOf]; exact hL cs vs hl ih
  | tup cs vs hl _ ih => simp only [refsOf]; exact hL cs vs hl ih
  | fn g cs vs hl _ ih => simp only [refsOf]; exact hL cs vs hl ih
  | _ => simp [refsOf]
theorem V.refs {c : Cx} {y : AV} {v : Value} (h : V P c y v) : ∀ r ∈ refsOf y, r < c.σ.length := by
  have hL : ∀ (cs : List AV) (vs : List Value), cs.length = vs.length → (∀ (t : Nat) (y : AV) (v : Value), cs[t]? = some y → vs[t]? = some v → ∀ r ∈ refsOf y, r < c.σ.length) → ∀ r ∈ refsOfL cs, r < c.σ.length := by
    intro cs vs hl ih r hr
    obtain ⟨t, y, h1, h2⟩ := refsL_mem.1 hr
    have hlt := (List.getElem?_eq_some_iff.1 h1).1
    exact ih t y _ h1 (List.getElem?_eq_getElem (by omega : t < vs.length)) r h2
  induction h with
  | vi h => exact fun r hr => absurd hr (h.norefs r)
  | sl r p win v hr _ _ => intro q hq; simp only [refsOf, List.mem_singleton] at hq; subst hq; exact hr
  | pt r p m k v hr _ _ => intro q hq; simp only [refsOf, List.mem_singleton] at hq; subst hq; exact hr
  | agg cs vs hl _ ih => simp only [refsOf]; exact hL cs vs hl ih
  | tup cs vs hl _ ih => simp only [refsOf]; exact hL cs vs hl ih
  | fn g cs vs hl _ ih => simp only [refsOf]; exact hL cs vs hl ih
theorem evs_refs {st : St} {xs : Array Operand} {x : Operand} (hx : x ∈ xs) {r : Nat} (hr : r ∈ refsOf (st.ev x)) : r ∈ refsOfL (evs st xs) := by
  obtain ⟨t, h⟩ := List.getElem?_of_mem (Array.mem_toList_iff.2 hx)
  exact refsL_mem.2 ⟨t, _, by simp only [evs, List.getElem?_map, h, Option.map_some], hr⟩
theorem touchF_sub {o : Op} {st : St} {r : Nat} (h : r ∈ touchF E o st) : r ∈ touch E o st := by
  unfold touchF at h
  split at h
  · split at h
    · rename_i he
      split at h
      · simp only [List.mem_singleton] at h
        simp only [touch, he, refsOf, List.mem_append, List.mem_singleton]
        exact .inl h
      · exact h
    · exact h
  · exact h
theorem touch_congr {o : Op} {s s' : St} (h : ∀ x ∈ o.operands, s'.ev x = s.ev x) : touch E o s' = touch E o s := by
  unfold touch
  split
  · rename_i t a v
    rw [h a (by simp [Op.operands]), h v (by simp [Op.operands])]
  · rw [h _ (by simp [Op.operands])]
  · rename_i c
    split
    · split
      · rename_i x rest hx
        have : x ∈ c.args := by rw [← Array.mem_toList_iff, hx]; simp
        rw [h x (by simp [Op.operands, Call.operands, this])]
      · rfl
    · rw [List.map_congr_left fun x hx => h x (by simp [Op.operands, Call.operands, Array.mem_toList_iff.1 hx])]
  · rfl

theorem Stp.x {c c' : Cx} {t t' : List AV} (h : Stp c c' t t') {d : Nat} (hd : t.getD d .x = .x) : t'.getD d .x = .x := by
  rcases h with ⟨h, _⟩ | ⟨r, h, _⟩ | ⟨f, h, _⟩
  · rw [h]; exact hd
  · rw [h, List.getD_eq_getElem?_getD, killL_get]
    rw [List.getD_eq_getElem?_getD] at hd
    cases ht : t[d]? with
    | none => rfl
    | some y => rw [ht] at hd; simp only [Option.getD_some] at hd; subst hd; rfl
  · rw [h, List.getD_eq_getElem?_getD, renL_get]
    rw [List.getD_eq_getElem?_getD] at hd
    cases ht : t[d]? with
    | none => rfl
    | some y => rw [ht] at hd; simp only [Option.getD_some] at hd; subst hd; rfl
theorem Stp.len {c c' : Cx} {t t' : List AV} (h : Stp c c' t t') : t'.length = t.length := by
  rcases h with ⟨h, _⟩ | ⟨r, h, _⟩ | ⟨f, h, _⟩
  · rw [h]
  · rw [h, killL_length]
  · rw [h, renL_length]

/-- The variables that the machine has laid out and the trees have not. -/
structure GI (P : Program) (c0 c : Cx) (ops : List Oper) (t : List AV) (up hi : Nat) (ls : Array Bool) (tmps : Array Value) (gb : Nat → Nat) : Prop where
  gr : Gr c0 { c with F := c0.F }
  F : ∀ b, c.F b ↔ c0.F b ∨ ∃ k, up ≤ k ∧ k < hi ∧ ls.getD k false = true ∧ gb k = b
  gh : ∀ k, up ≤ k → k < hi → ls.getD k false = true → ¬ c0.F (gb k) ∧ c0.w.heap.size ≤ gb k ∧ gb k < c.w.heap.size ∧
    ∀ o, ops[k]? = some o → (∀ t, o.op = .alloc t → GhB P c.w t (gb k)) ∧ ∀ d, o.dst = some d → d < tmps.size → tmps.getD d undef = .pointer (some ⟨gb k, 0, none⟩)
  inj : ∀ k k', up ≤ k → k < hi → ls.getD k false = true → up ≤ k' → k' < hi → ls.getD k' false = true → gb k = gb k' → k = k'
  vX : ∀ k o d, up ≤ k → k < hi → ops[k]? = some o → o.dst = some d → t.getD d .x = .x
theorem Gr.F0 {c c' : Cx} (g : Gr c c') (f : Nat → Prop) : Gr { c with F := f } { c' with F := f } := ⟨g.os, g.tape, g.output, g.size, g.heap, g.O, rfl⟩
theorem GI.step {c0 c c' : Cx} {ops : List Oper} {t t' : List AV} {up hi : Nat} {ls ls' : Array Bool} {tmps tmps' : Array Value} {gb : Nat → Nat} (h : GI P c0 c ops t up hi ls tmps gb) (hm : Mem P c) (g : Gr c c')
    (hls : ∀ k, up ≤ k → k < hi → ls'.getD k false = ls.getD k false) (hsz : tmps'.size = tmps.size) (htm : ∀ k o d, up ≤ k → k < hi → ops[k]? = some o → o.dst = some d → tmps'.getD d undef = tmps.getD d undef)
    (ht : ∀ k o d, up ≤ k → k < hi → ops[k]? = some o → o.dst = some d → t.getD d .x = .x → t'.getD d .x = .x) : GI P c0 c' ops t' up hi ls' tmps' gb := by
  refine ⟨h.gr.trans (g.F0 c0.F), fun b => ?_, fun k k1 k2 k3 => ?_, fun k k' k1 k2 k3 k4 k5 k6 => ?_, fun k o d k1 k2 k3 k4 => ht k o d k1 k2 k3 k4 (h.vX k o d k1 k2 k3 k4)⟩
  · rw [g.F, h.F]
    refine or_congr Iff.rfl ⟨?_, ?_⟩
    · rintro ⟨k, k1, k2, k3, k4⟩; exact ⟨k, k1, k2, by rw [hls k k1 k2]; exact k3, k4⟩
    · rintro ⟨k, k1, k2, k3, k4⟩; exact ⟨k, k1, k2, by rw [← hls k k1 k2]; exact k3, k4⟩
  · rw [hls k k1 k2] at k3
    obtain ⟨h1, h2, h3, h4⟩ := h.gh k k1 k2 k3
    refine ⟨h1, h2, Nat.lt_of_lt_of_le h3 g.size, fun o ho => ⟨fun t hot => ?_, fun d hd hlt => ?_⟩⟩
    · obtain ⟨i, z, g1, g2, g3⟩ := (h4 o ho).1 t hot
      exact ⟨i, z, g1, g2, (g.heap _ h3 (hm.out _ ((h.F _).2 (.inr ⟨k, k1, k2, k3, rfl⟩))).2).trans g3⟩
    · rw [htm k o d k1 k2 ho hd]
      exact (h4 o ho).2 d hd (by rw [← hsz]; exact hlt)
  · rw [hls k k1 k2] at k3
    rw [hls k' k4 k5] at k6
    exact h.inj k k' k1 k2 k3 k4 k5 k6

structure DI3 (P : Program) (E : Env) (c0 : Cx) (ops : List Oper) (G : Nat → Prop) (tr : Nat → St) (lo up hi M : Nat) (ls : Array Bool) (c : Cx) (a : Act) (gb : Nat → Nat) : Prop where
  size : ls.size = ops.length
  closed : ∀ k o, ls.getD k false = true → ops[k]? = some o → Deps (fun i => ls.getD i false = true) o
  pre : ∀ k, G k → k < lo → ls.getD k false = true
  post : ∀ k, hi ≤ k → ls.getD k false = false
  le : M ≤ up
  op : M < up → ls.getD M false = false
  low : ∀ k o, k < M → ops[k]? = some o → stillOp E o.op = false → ls.getD k false = true
  bar : ∀ o, M < up → ops[M]? = some o → stillOp E o.op = false
  ge : lo ≤ M
  σ : c.σ = (tr M).σ
  mem : Mem P c
  gi : GI P c0 c ops (tr M).t up hi ls a.tmps gb
  kv : KV c0 c
  df : a.defers = []
  len : (tr M).t.length ≤ a.tmps.size
  vA : ∀ k o d, M ≤ k → k < up → ops[k]? = some o → o.dst = some d → ls.getD k false = true → V P c ((tr (k + 1)).t.getD d .x) (a.tmps.getD d undef)
  vB : ∀ k o d, k < M → ops[k]? = some o → o.dst = some d → ls.getD k false = false → V P c ((tr k).t.getD d .x) (a.tmps.getD d undef)
  vC : ∀ d, (∀ k o, ops[k]? = some o → o.dst = some d → (k < M ↔ ls.getD k false = true)) → V P c ((tr M).t.getD d .x) (a.tmps.getD d undef)

/-- The next bar below a bound. -/
theorem next_barS (E : Env) (ops : List Oper) (up M : Nat) (hM : M ≤ up) (hu : up ≤ ops.length) : ∃ M', M ≤ M' ∧ M' ≤ up ∧ (∀ (k : Nat) o, M ≤ k → k < M' → ops[k]? = some o → stillOp E o.op = true) ∧ (∀ o, M' < up → ops[M']? = some o → stillOp E o.op = false) := by
  obtain ⟨M', g1, g2, g3, g4⟩ := next_bar E (ops.take up) M (by simp; omega)
  have hlen : (ops.take up).length = up := by simp; omega
  rw [hlen] at g2
  refine ⟨M', g1, g2, fun k o k1 k2 k3 => g3 k o k1 k2 (by rw [List.getElem?_take, if_pos (by omega)]; exact k3), fun o h1 h2 => g4 o (by rw [List.getElem?_take, if_pos h1]; exact h2)⟩

theorem all_of_ready {ops : Array Oper} {ls : Array Bool} (hb : ∀ (k : Nat) o, ops.toList[k]? = some o → ∀ e ∈ o.after, Region.binds .any e = true → e.on < k) (hs : ls.size = ops.toList.length) (hr : Region.ready .any ops ls = []) : ∀ k, k < ops.toList.length → ls.getD k false = true := by
  intro k
  induction k using Nat.strongRecOn with
  | _ k ih =>
    intro hk
    cases hl : ls.getD k false with
    | true => rfl
    | false =>
      have : k ∈ Region.ready .any ops ls := mem_ready.2 ⟨getD_true' (by rw [hs]; exact hk) hl, _, by rw [← Array.getElem?_toList]; exact List.getElem?_eq_getElem hk, fun e he hbd =>
        ih e.on (hb k _ (List.getElem?_eq_getElem hk) e he hbd) (Nat.lt_trans (hb k _ (List.getElem?_eq_getElem hk) e he hbd) hk)⟩
      rw [hr] at this; cases this

theorem any_ok3 {ops : Array Oper} {C : Cal} {c0 : Cx} {Q : Exit → Act → World → Prop} {b : List Nat} {G : Nat → Prop} (hE : EnvOk P E) (hC : CalOk P E C) (hD : DO3 E ops.toList b G) {tr : Nat → St}
    (T : Tr E C ops.toList b tr) {lo up hi : Nat} (hle1 : up ≤ hi) (hle2 : hi ≤ ops.toList.length) (hAo : ∀ k, lo ≤ k → k < up → ¬ G k)
    (hGh : ∀ k, up ≤ k → k < hi → ∃ o t d, ops.toList[k]? = some o ∧ o.op = .alloc t ∧ o.guard = none ∧ o.dst = some d)
    (hgp : ∀ (k : Nat) (i : Nat) o, G k → ops.toList[i]? = some o → ¬ G i → i < k → stillOp E o.op = true → (∃ (j : Nat) (q : Oper), j < k ∧ ops.toList[j]? = some q ∧ stillOp E q.op = false ∧ Bf (befL ops.toList []) j i ∧ ¬ G j) ∨ (plain o.op = true ∧ noOver E ops.toList b i k o = true))
    (hga : ∀ (k : Nat) o, G k → ops.toList[k]? = some o → ∃ t, o.op = .alloc t)
    (hnl : ∀ (k : Nat) o d (i : Nat) q, G k → ops.toList[k]? = some o → o.dst = some d → ¬ G i → i < up → ops.toList[i]? = some q → d ∈ q.looksAt ops → Bf b i k)
    (cd : Nat → Array Bool → Prop) (hc1 : ∀ (M : Nat) (ls : Array Bool) (c : Cx) (a : Act) (gb : Nat → Nat), DI3 P E c0 ops.toList G tr lo up hi M ls c a gb → ¬ cd M ls → ∀ (i : Nat) o, ops.toList[i]? = some o → Deps (fun j => ls.getD j false = true) o → i < hi)
    (hc2 : ∀ (M : Nat) (ls : Array Bool) (c : Cx) (a : Act) (gb : Nat → Nat), DI3 P E c0 ops.toList G tr lo up hi M ls c a gb → (∀ k, k < ops.toList.length → ls.getD k false = true) → cd M ls)
    (hfin : ∀ (fuel M : Nat) (ls : Array Bool) (c : Cx) (a : Act) (gb : Nat → Nat), ls.toList.count false ≤ fuel → DI3 P E c0 ops.toList G tr lo up hi M ls c a gb → cd M ls → wpAny P .any ops Q fuel ls a c.w) :
    ∀ (fuel M : Nat) (ls : Array Bool) (c : Cx) (a : Act) (gb : Nat → Nat), ls.toList.count false ≤ fuel → DI3 P E c0 ops.toList G tr lo up hi M ls c a gb → wpAny P .any ops Q fuel ls a c.w := by
  have step : ∀ (fuel M : Nat) (ls : Array Bool) (c : Cx) (a : Act) (gb : Nat → Nat), (∀ (M : Nat) (ls : Array Bool) (c : Cx) (a : Act) (gb : Nat → Nat), ls.toList.count false ≤ fuel → DI3 P E c0 ops.toList G tr lo up hi M ls c a gb → wpAny P .any ops Q fuel ls a c.w) →
      ls.toList.count false ≤ fuel + 1 → DI3 P E c0 ops.toList G tr lo up hi M ls c a gb → ¬ cd M ls → ∀ i ∈ Region.ready .any ops ls, wpOp P ops Q i (wpAny P .any ops Q fuel (ls.setIfInBounds i true)) a c.w := by
    intro fuel M ls c a gb ih hcnt h hnall i hi'
    obtain ⟨hun, o, ho, hdep⟩ := mem_ready.1 hi'
    obtain ⟨hisz, hun'⟩ := getD_false hun
    have hoL : ops.toList[i]? = some o := by rw [Array.getElem?_toList]; exact ho
    have hilt : i < ops.toList.length := (List.getElem?_eq_some_iff.1 hoL).1
    have hMle := h.le
    have hBt : ∀ k, Bf (befL ops.toList []) i k → k < i ∧ ls.getD k false = true := bef_spec hD.back h.closed i o hoL hdep
    have hihi : i < hi := hc1 M ls c a gb h hnall i o hoL hdep
    have hB0 : ∀ k q, ops.toList[k]? = some q → ∀ j, Bf b k j → j < k := hD.lt
    have hBl : ∀ k q, ¬ G k → ops.toList[k]? = some q → ls.getD k false = true → ∀ j, Bf b k j → ls.getD j false = true := fun k q hg hq hk j hj => (bef_spec hD.back h.closed k q hq (h.closed k q hk hq) j (by unfold Bf at hj; rw [hD.tru k hg] at hj; exact hj)).2
    have hset : ls.toList[i]? = some false := by
      rw [Array.getElem?_toList, Array.getElem?_eq_getElem hisz]
      simp [hisz] at hun; rw [hun]
    have hcnt' : (ls.setIfInBounds i true).toList.count false ≤ fuel := by
      have := cnt_set _ _ hset
      rw [Array.toList_setIfInBounds]; omega
    have hclosed : ∀ k q, (ls.setIfInBounds i true).getD k false = true → ops.toList[k]? = some q → Deps (fun i' => (ls.setIfInBounds i true).getD i' false = true) q := by
      intro k q hk hq e he hb
      refine (getD_setB _ _ _).2 (.inl ?_)
      rcases (getD_setB _ _ _).1 hk with h1 | ⟨h1, _⟩
      · exact h.closed k q h1 hq e he hb
      · subst h1; rw [hoL] at hq; cases hq; exact hdep e he hb
    have hsz : (ls.setIfInBounds i true).size = ops.toList.length := by rw [Array.size_setIfInBounds]; exact h.size
    have lset : ∀ k, k ≠ i → (ls.setIfInBounds i true).getD k false = ls.getD k false := by
      intro k hne
      cases hq : (ls.setIfInBounds i true).getD k false with
      | true =>
        rcases (getD_setB _ _ _).1 hq with h1 | ⟨h1, _⟩
        · exact h1.symm
        · exact absurd h1 hne
      | false =>
        cases hl : ls.getD k false with
        | false => rfl
        | true => rw [(getD_setB _ _ _).2 (.inl hl)] at hq; cases hq
    have lseti : (ls.setIfInBounds i true).getD i false = true := (getD_setB _ _ _).2 (.inr ⟨rfl, hisz⟩)
    have hpre : ∀ k, G k → k < lo → (ls.setIfInBounds i true).getD k false = true := fun k hg hk => (getD_setB _ _ _).2 (.inl (h.pre k hg hk))
    have hpost : ∀ k, hi ≤ k → (ls.setIfInBounds i true).getD k false = false := fun k hk => (lset k (by omega)).trans (h.post k hk)
    rcases Nat.lt_or_ge i up with hiu | hiu
    rotate_left
    · -- a variable is laid out
      obtain ⟨o', t, d, q1, q2, q3, q4⟩ := hGh i hiu hihi
      rw [hoL] at q1; cases q1
      have hti : ∃ ti, E.Γ t = some ti := by
        rcases T.step i o hoL with ⟨v, s1, h1, _⟩ | ⟨_, j, want, d, hg, _⟩
        · unfold evOp at h1
          rw [q2] at h1
          simp only at h1
          split at h1 <;> try (cases h1; done)
          exact ⟨_, by assumption⟩
        · rw [q3] at hg; cases hg
      obtain ⟨ti, hti⟩ := hti
      obtain ⟨w', s1, s2, s3, s4⟩ := ghost_alloc (P := P) (a := a) (c := c) hE q2 hti
      obtain ⟨m1, m2⟩ := ghost_ok h.mem s1 s2
      unfold wpOp
      rw [ho]
      simp only
      rw [if_pos (by simp [Region.wanted, q3])]
      left
      refine wp_value s4 ?_
      have hneq : ∀ k q d', ops.toList[k]? = some q → q.dst = some d' → k ≠ i → o.dst ≠ some d' := fun k q d' e1 e2 e3 e4 => e3 (hD.dst i o k q d' hoL e1 e4 e2)
      have hg0 : ∀ k, up ≤ k → k < hi → k ≠ i → (ls.setIfInBounds i true).getD k false = true → ls.getD k false = true := fun k _ _ e3 e4 => (lset k e3).symm.trans e4
      refine ih M _ (c.ghost w') _ (fun k => if k = i then c.w.heap.size else gb k) hcnt' ⟨hsz, hclosed, hpre, hpost, h.le, fun hM => by rw [lset M (by omega)]; exact h.op hM, fun k q g1 g2 g3 => (getD_setB _ _ _).2 (.inl (h.low k q g1 g2 g3)), h.bar, h.ge, h.σ, m1, ⟨?_, fun b' => ?_, fun k k1 k2 k3 => ?_, fun k k' k1 k2 k3 k4 k5 k6 k7 => ?_, h.gi.vX⟩, h.kv.trans m2.kv, (put_df _ _ _).trans h.df, by rw [put_size]; exact h.len, fun k q d' g1 g2 g3 g4 g5 => ?_, fun k q d' g1 g2 g3 g4 => ?_, fun d' hd => ?_⟩
      · exact h.gi.gr.trans ⟨s1.os, s1.tape, s1.output, s1.size, fun b' hb _ => s1.heap b' hb, fun _ h => .inl h, rfl⟩
      · simp only [Cx.ghost]
        rw [h.gi.F]
        constructor
        · rintro ((e | ⟨k, k1, k2, k3, k4⟩) | e)
          · exact .inl e
          · have hki : k ≠ i := fun e => by subst e; rw [hun'] at k3; cases k3
            exact .inr ⟨k, k1, k2, by rw [lset k hki]; exact k3, by rw [if_neg hki]; exact k4⟩
          · exact .inr ⟨i, hiu, hihi, lseti, by rw [if_pos rfl]; exact e.symm⟩
        · rintro (e | ⟨k, k1, k2, k3, k4⟩)
          · exact .inl (.inl e)
          · by_cases hki : k = i
            · rw [if_pos hki] at k4; exact .inr k4.symm
            · rw [if_neg hki] at k4; exact .inl (.inr ⟨k, k1, k2, hg0 k k1 k2 hki k3, k4⟩)
      · by_cases hki : k = i
        · subst hki
          rw [if_pos rfl]
          refine ⟨fun e => ?_, h.gi.gr.size, s2, fun o' ho' => ⟨fun t' ht' => ?_, fun d' hd' hlt => ?_⟩⟩
          · have := (h.mem.out _ ((h.gi.F _).2 (.inl e))).1; omega
          · rw [hoL] at ho'; cases ho'; rw [q2] at ht'; cases ht'; exact s3
          · rw [hoL] at ho'; cases ho'
            rw [put_size] at hlt
            rw [hd']
            simp only [Act.put]
            rw [Array.getD_eq_getD_getElem?, Array.getElem?_setIfInBounds_self_of_lt hlt]; rfl
        · rw [if_neg hki]
          obtain ⟨e1, e2, e3, e4⟩ := h.gi.gh k k1 k2 (hg0 k k1 k2 hki k3)
          refine ⟨e1, e2, Nat.lt_of_lt_of_le e3 s1.size, fun o' ho' => ⟨fun t' ht' => ?_, fun d' hd' hlt => ?_⟩⟩
          · obtain ⟨i1, z1, e5, e6, e7⟩ := (e4 o' ho').1 t' ht'
            exact ⟨i1, z1, e5, e6, (s1.heap _ e3).trans e7⟩
          · rw [put_getD _ _ (hneq k o' d' ho' hd' hki)]
            exact (e4 o' ho').2 d' hd' (by rw [put_size] at hlt; exact hlt)
      · by_cases hki : k = i <;> by_cases hki' : k' = i
        · omega
        · rw [if_pos hki, if_neg hki'] at k7
          have := (h.gi.gh k' k4 k5 (hg0 k' k4 k5 hki' k6)).2.2.1
          omega
        · rw [if_neg hki, if_pos hki'] at k7
          have := (h.gi.gh k k1 k2 (hg0 k k1 k2 hki k3)).2.2.1
          omega
        · rw [if_neg hki, if_neg hki'] at k7
          exact h.gi.inj k k' k1 k2 (hg0 k k1 k2 hki k3) k4 k5 (hg0 k' k4 k5 hki' k6) k7
      · have hki : k ≠ i := by omega
        rw [put_getD _ _ (hneq k q d' g3 g4 hki)]
        exact m2.V (h.vA k q d' g1 g2 g3 g4 (by rw [← lset k hki]; exact g5))
      · have hki : k ≠ i := fun e => by subst e; rw [lseti] at g4; cases g4
        rw [put_getD _ _ (hneq k q d' g2 g3 hki)]
        exact m2.V (h.vB k q d' g1 g2 g3 (by rw [← lset k hki]; exact g4))
      · have hMu := h.le
        have hdd : o.dst ≠ some d' := fun e => by have := (hd i o hoL e).2 lseti; omega
        rw [put_getD _ _ hdd]
        refine m2.V (h.vC d' fun k q e1 e2 => ?_)
        have hki : k ≠ i := fun e => by subst e; rw [hoL] at e1; cases e1; exact hdd e2
        rw [← lset k hki]
        exact hd k q e1 e2
    have hiG : ¬ G i := fun hg => by
      rcases Nat.lt_or_ge i lo with h1 | h1
      · have := h.pre i hg h1; rw [hun'] at this; cases this
      · exact hAo i h1 hiu hg
    have hB : ∀ k, Bf b i k → k < i ∧ ls.getD k false = true := fun k hk => hBt k (by unfold Bf at hk ⊢; rw [hD.tru i hiG] at hk; exact hk)
    have hgdst : ∀ k q d', up ≤ k → k < hi → ops.toList[k]? = some q → q.dst = some d' → o.dst ≠ some d' := fun k q d' e1 _ e3 e4 e5 => by have := hD.dst i o k q d' hoL e3 e5 e4; omega
    have hsym : ∀ k, free b k i = true → free b i k = true := fun k hf => by
      obtain ⟨h1, h2, h3⟩ := free_spec.1 hf
      exact free_spec.2 ⟨Ne.symm h1, h3, h2⟩
    have hnB : ∀ k j, ¬ Bf b k j → (b.getD k 0).testBit j = false := fun k j h1 => Bool.eq_false_iff.2 h1
    have hup : ∀ k q, M ≤ k → k < up → ops.toList[k]? = some q → stillOp E q.op = false → ls.getD k false = false := by
      intro k q h1 hku hq hs
      cases hl : ls.getD k false with
      | false => rfl
      | true =>
        exfalso
        rcases Nat.eq_or_lt_of_le h1 with h2 | h2
        · subst h2; rw [h.op hku] at hl; cases hl
        have hMl : M < ops.toList.length := by have := (List.getElem?_eq_some_iff.1 hq).1; omega
        have hm := List.getElem?_eq_getElem hMl
        rcases hD.pair M _ k q hm hq (hAo M h.ge (by omega)) (hAo k (by have := h.ge; omega) hku) (h.bar _ (by omega) hm) (by omega) with h3 | h3 | ⟨_, h3, _⟩
        · have := hB0 M _ hm k h3; omega
        · have := hBl k q (hAo k (by have := h.ge; omega) hku) hq hl M h3; rw [h.op (by omega)] at this; cases this
        · rw [plain_still (E := E) h3] at hs; cases hs
    have hbar : stillOp E o.op = false → i = M := by
      intro hs
      rcases Nat.lt_or_ge i M with h1 | h1
      · have := h.low i o h1 hoL hs; rw [hun'] at this; cases this
      · rcases Nat.eq_or_lt_of_le h1 with h2 | h2
        · exact h2.symm
        exfalso
        have hMl : M < ops.toList.length := by omega
        have hm := List.getElem?_eq_getElem hMl
        rcases hD.pair M _ i o hm hoL (hAo M h.ge (by omega)) hiG (h.bar _ (by omega) hm) (by omega) with h3 | h3 | ⟨_, h3, _⟩
        · have := hB0 M _ hm i h3; omega
        · have := (hB M h3).2; rw [h.op (by omega)] at this; cases this
        · rw [plain_still (E := E) h3] at hs; cases hs
    -- a bar that lies between
    have hmid : ∀ k q, ops.toList[k]? = some q → stillOp E q.op = false → (i < k ∧ k < M ∨ M ≤ k ∧ k < i) →
        soft E q.op = true ∧ plain o.op = true ∧ noOver E ops.toList b (min k i) (max k i) (if k < i then q else o) = true ∧ (free b k i = true ∨ i < k ∧ ∃ t, q.op = .alloc t) := by
      intro k q hq hs hk
      have hge := h.ge
      by_cases hg : G k
      · have hik : i < k ∧ k < M := by
          rcases hk with h1 | h1
          · exact h1
          · exact absurd hg (hAo k (by omega) (by omega))
        obtain ⟨t, ht⟩ := hga k q hg hq
        have hsti : stillOp E o.op = true := by
          cases hs2 : stillOp E o.op with
          | true => rfl
          | false => have := hbar hs2; omega
        rcases hgp k i o hg hoL hiG hik.1 hsti with ⟨j, q', j1, j2, j3, j4, j5⟩ | ⟨h1, h2⟩
        · exfalso
          have := hBl j q' j5 j2 (h.low j q' (by omega) j2 j3) i (by unfold Bf at j4 ⊢; rw [hD.tru j j5]; exact j4)
          rw [hun'] at this; cases this
        · refine ⟨by rw [ht]; rfl, h1, ?_, .inr ⟨hik.1, t, ht⟩⟩
          rw [if_neg (by omega), Nat.min_eq_right (by omega), Nat.max_eq_left (by omega)]
          exact h2
      have n1 : ¬ Bf b k i := fun h1 => by
        rcases hk with ⟨k1, k2⟩ | ⟨k1, k2⟩
        · have := hBl k q hg hq (h.low k q k2 hq hs) i h1; rw [hun'] at this; cases this
        · have := hB0 k q hq i h1; omega
      have n2 : ¬ Bf b i k := fun h1 => by
        have h2 := hB k h1
        rcases hk with ⟨k1, k2⟩ | ⟨k1, k2⟩
        · omega
        · have := hup k q k1 (by omega) hq hs; rw [h2.2] at this; cases this
      rcases hD.pair k q i o hq hoL hg hiG hs (by omega) with h3 | h3 | ⟨h3, h4, h5⟩
      · exact absurd h3 n1
      · exact absurd h3 n2
      · exact ⟨h3, h4, h5, .inl (free_spec.2 ⟨by omega, hnB _ _ n1, hnB _ _ n2⟩)⟩
    have hokk : ∀ k q, (i ≤ k ∧ k < M ∨ M ≤ k ∧ k < i) → ops.toList[k]? = some q → Okk E ops.toList b k q := by
      intro k q hk hq
      cases hs : stillOp E q.op with
      | true => exact .inl hs
      | false =>
        have hki : k ≠ i := fun e => by
          subst e; rw [hoL] at hq; cases hq
          have := hbar hs; omega
        obtain ⟨h1, _, _, h4⟩ := hmid k q hq hs (by omega)
        refine .inr ⟨h1, ?_⟩
        rcases h4 with h4 | ⟨_, t, h4⟩
        · exact .inr ⟨i, hilt, h4⟩
        · left; rw [h4]; rfl
    have seg : ∀ lo hi, lo ≤ hi → hi ≤ ops.toList.length → (i ≤ lo ∧ hi ≤ M ∨ M ≤ lo ∧ hi ≤ i) → Seg E ops.toList tr lo hi := fun lo hi h1 h2 h3 =>
      seg_ok T h1 h2 fun k q g1 g2 g3 => hokk k q (by omega) g3
    have toI : ∀ d, (∀ k q, (i ≤ k ∧ k < M ∨ M ≤ k ∧ k < i) → ops.toList[k]? = some q → q.dst ≠ some d) → (tr M).t.getD d .x = (tr i).t.getD d .x := by
      intro d hd
      rcases Nat.le_total i M with h1 | h1
      · exact (seg i M h1 (by omega) (by omega)).t d fun k q g1 g2 g3 => hd k q (by omega) g3
      · exact ((seg M i h1 (by omega) (by omega)).t d fun k q g1 g2 g3 => hd k q (by omega) g3).symm
    have hV : ∀ d, d ∈ o.looksAt ops → V P c ((tr i).t.getD d .x) (a.tmps.getD d undef) := by
      intro d hd
      by_cases hw : ∃ (k : Nat) (q : Oper), ops.toList[k]? = some q ∧ q.dst = some d
      · obtain ⟨k, q, hq, hqd⟩ := hw
        have hkl : k < ops.toList.length := (List.getElem?_eq_some_iff.1 hq).1
        have uni : ∀ k' q', ops.toList[k']? = some q' → q'.dst = some d → k' = k := fun k' q' g1 g2 => hD.dst k q k' q' d hq g1 hqd g2
        have useC : (k < M ↔ ls.getD k false = true) → V P c ((tr M).t.getD d .x) (a.tmps.getD d undef) := fun g => h.vC d fun k' q' e1 e2 => by rw [uni k' q' e1 e2]; exact g
        have toI' : ¬ (i ≤ k ∧ k < M ∨ M ≤ k ∧ k < i) → (tr M).t.getD d .x = (tr i).t.getD d .x := fun g => toI d fun k' q' g1 g2 g3 => by have := uni k' q' g2 g3; subst this; exact g g1
        rcases hD.look k q i o d hq hoL hqd hd with h1 | h1 | h1
        · subst h1
          rcases Nat.lt_or_ge i M with h2 | h2
          · exact h.vB i q d h2 hq hqd hun'
          · rw [← toI' (by omega)]
            exact useC ⟨fun h3 => by omega, fun h3 => by rw [hun'] at h3; cases h3⟩
        · obtain ⟨h2, h3⟩ := hB k h1
          rcases Nat.lt_or_ge k M with h4 | h4
          · rw [← toI' (by omega)]
            exact useC ⟨fun _ => h3, fun _ => h4⟩
          · rw [(seg (k + 1) i (by omega) (by omega) (by omega)).t d fun k' q' g1 g2 g3 g4 => by have := uni k' q' g3 g4; omega]
            exact h.vA k q d h4 (by omega) hq hqd h3
        · have h2 := hB0 k q hq i h1
          have hkG : ¬ G k := fun hg => by have := (hB k (hnl k q d i o hg hq hqd hiG hiu hoL hd)).1; omega
          have h3 : ls.getD k false = false := by
            cases hl : ls.getD k false with
            | false => rfl
            | true => have := hBl k q hkG hq hl i h1; rw [hun'] at this; cases this
          rcases Nat.lt_or_ge k M with h4 | h4
          · rw [← (seg i k (by omega) (by omega) (by omega)).t d fun k' q' g1 g2 g3 g4 => by have := uni k' q' g3 g4; omega]
            exact h.vB k q d h4 hq hqd h3
          · rw [← toI' (by omega)]
            exact useC ⟨fun h5 => by omega, fun h5 => by rw [h3] at h5; cases h5⟩
      · have hno : ∀ (k : Nat) (q : Oper), ops.toList[k]? = some q → q.dst ≠ some d := fun k q g1 g2 => hw ⟨k, q, g1, g2⟩
        rw [← toI d fun k q _ g => hno k q g]
        exact h.vC d fun k q g1 g2 => absurd g2 (hno k q g1)
    have hlook : ∀ (q : Oper) (d : Nat), Operand.tmp d ∈ q.op.operands → d ∈ q.looksAt ops := fun q d hx => List.mem_append_left _ (List.mem_filterMap.2 ⟨.tmp d, by simpa using hx, rfl⟩)
    have hEv : ∀ x ∈ o.op.operands, V P c ((tr i).ev x) (a.eval x) := by
      intro x hx
      cases x with
      | tmp t => exact hV t (hlook o t hx)
      | const v => exact .vi (ofV_ok _ _ v)
      | global g => exact .vi (.x _)
      | func f => exact .vi (.fn f [] [] rfl fun _ _ _ h => by simp at h)
    have hlenM : (tr i).t.length ≤ a.tmps.size := by
      rcases Nat.le_total i M with h1 | h1
      · rw [← (seg i M h1 (by omega) (by omega)).tl]; exact h.len
      · rw [(seg M i h1 (by omega) (by omega)).tl]; exact h.len
    have evEq : ∀ (q : Oper) (lo hi : Nat) (x : Operand), x ∈ q.op.operands → Seg E ops.toList tr lo hi → (∀ k' q', lo ≤ k' → k' < hi → ops.toList[k']? = some q' → ∀ d, q'.dst = some d → d ∉ q.looksAt ops) → (tr hi).ev x = (tr lo).ev x := by
      intro q lo hi x hx hs hn
      cases x with
      | tmp d => exact hs.t d fun k' q' g1 g2 g3 g4 => hn k' q' g1 g2 g3 d g4 (hlook q d hx)
      | _ => rfl
    have hlive : stillOp E o.op = true → memless o.op = false → ∀ x ∈ o.op.operands, LiveR (tr i).σ (tr M).σ ((tr i).ev x) := by
      intro hst hml x hx r hr mv rf nest e es hro
      have hrl : r < (tr i).σ.length := by
        rcases Nat.lt_or_ge r (tr i).σ.length with h1 | h1
        · exact h1
        · rw [List.getD_eq_getElem?_getD, List.getElem?_eq_none h1] at hro; cases hro
      rcases Nat.le_total i M with h1 | h1
      · rw [(seg i M h1 (by omega) (by omega)).σ r hrl fun k q g1 g2 g3 g4 => ?_]
        · exact hro
        have hki : k ≠ i := fun e => by subst e; rw [hoL] at g3; cases g3; rw [hst] at g4; cases g4
        obtain ⟨_, _, m3, m4⟩ := hmid k q g3 g4 (by omega)
        have m5 : disj (touchF E q.op (tr k)) (refsLk o.op (tr k)) = true := by
          rcases m4 with m4 | ⟨_, t, m4⟩
          · exact ((okStep_spec (T.ok k q g3) hoL m4).2 g4).2 (by omega)
          · rw [m4]; rfl
        rw [if_neg (by omega), Nat.min_eq_right (by omega), Nat.max_eq_left (by omega)] at m3
        rw [show refsLk o.op (tr k) = refsOfL (evs (tr k) o.op.operands) by unfold refsLk; rw [if_neg (by rw [hml]; simp)]] at m5
        refine disj_spec m5 (evs_refs hx ?_)
        rw [evEq o i k x hx (seg i k (by omega) (by omega) (by omega)) fun k' q' e1 e2 e3 d e4 => (noOver_spec m3 e3 e1 e2).2 d e4]
        exact hr
      · have hrM : r < (tr M).σ.length := by rw [← h.σ]; exact V.refs (hEv x hx) r hr
        rw [← (seg M i h1 (by omega) (by omega)).σ r hrM fun k q g1 g2 g3 g4 => ?_]
        · exact hro
        obtain ⟨_, _, m3, m4⟩ := hmid k q g3 g4 (by omega)
        have m5 := (okStep_spec (T.ok i o hoL) g3 (hsym k (m4.resolve_right fun h => by omega))).1 hst g4 (by omega)
        rw [show refsLk o.op (tr i) = refsOfL (evs (tr i) o.op.operands) by unfold refsLk; rw [if_neg (by rw [hml]; simp)]] at m5
        rw [if_pos (by omega), Nat.min_eq_left (by omega), Nat.max_eq_right (by omega)] at m3
        refine fun h => ?_
        replace h := touchF_sub h
        revert h
        rw [← touch_congr (E := E) (s' := tr i) (s := tr k) fun y hy => evEq q k i y hy (seg k i (by omega) (by omega) (by omega)) fun k' q' e1 e2 e3 d e4 => (noOver_spec m3 e3 e1 e2).2 d e4]
        exact disj_spec m5 (evs_refs hx hr)
    have hev : stillOp E o.op = true → ∀ v s1, evOp E C o (tr i) (fun v s => some (v, s)) = some (v, s1) → evOp E C o ⟨(tr i).t, c.σ⟩ (fun v s => some (v, s)) = some (v, ⟨(tr i).t, c.σ⟩) := by
      intro hst v s1 h1
      by_cases hp : plain o.op = true
      · rw [h.σ]
        exact plain_mono (t := (tr i).t) (σ := (tr i).σ) hp h1 (hlive hst)
      · have hs : ∀ k q, (i ≤ k ∧ k < M ∨ M ≤ k ∧ k < i) → ops.toList[k]? = some q → stillOp E q.op = true := by
          intro k q hk hq
          cases hsq : stillOp E q.op with
          | true => rfl
          | false =>
            by_cases hki : k = i
            · subst hki; rw [hoL] at hq; cases hq; rw [hst] at hsq; cases hsq
            · exact absurd (hmid k q hq hsq (by omega)).2.1 hp
        have hσ : c.σ = (tr i).σ := by
          rw [h.σ]
          rcases Nat.le_total i M with h2 | h2
          · exact (tr_frame T.step h2 (by omega) fun k q g1 g2 g3 => hs k q (by omega) g3).1
          · exact (tr_frame T.step h2 (by omega) fun k q g1 g2 g3 => hs k q (by omega) g3).1.symm
        rw [hσ]
        have := evOp_still hst h1
        subst this
        exact h1
    have afterS : ∀ (xv : AV) (c' : Cx) (y : Value), stillOp E o.op = true → tr (i + 1) = (tr i).put o.dst xv → c'.σ = c.σ → Mem P c' → V P c' xv y → Kp c c' →
        wpAny P .any ops Q fuel (ls.setIfInBounds i true) (a.put o.dst y) c'.w := by
      intro xv c' y hst htr1 hσ' hm' hv' hkp
      have hiM : i ≠ M := fun e => by
        subst e
        have := h.bar o hiu hoL; rw [hst] at this; cases this
      have hput : ∀ d, o.dst = some d → V P c' ((tr (i + 1)).t.getD d .x) ((a.put o.dst y).tmps.getD d undef) := by
        intro d hdd
        rw [htr1, hdd]; exact hv'.put_eq hlenM
      refine ih M _ c' _ gb hcnt' ⟨hsz, hclosed, hpre, hpost, h.le, fun hM => by rw [lset M (Ne.symm hiM)]; exact h.op hM, fun k q g1 g2 g3 => (getD_setB _ _ _).2 (.inl (h.low k q g1 g2 g3)), h.bar, h.ge, hσ'.trans h.σ, hm', h.gi.step h.mem hkp.toGr (fun k k1 k2 => lset k (by omega)) (by rw [put_size]) (fun k q d k1 k2 k3 k4 => put_getD _ _ (hgdst k q d k1 k2 k3 k4)) (fun _ _ _ _ _ _ _ hx => hx), h.kv.trans hkp.kv, (put_df _ _ _).trans h.df, by rw [put_size]; exact h.len, fun k q d g1 gU g2 g3 g4 => ?_, fun k q d g1 g2 g3 g4 => ?_, fun d hd => ?_⟩
      · by_cases hki : k = i
        · subst hki; rw [hoL] at g2; cases g2; exact hput d g3
        · rw [put_getD _ _ fun hdd => hki (hD.dst i o k q d hoL g2 hdd g3)]
          exact (h.vA k q d g1 gU g2 g3 (by rw [← lset k hki]; exact g4)).kp P hkp
      · have hki : k ≠ i := fun e => by subst e; rw [lseti] at g4; cases g4
        rw [put_getD _ _ fun hdd => hki (hD.dst i o k q d hoL g2 hdd g3)]
        exact (h.vB k q d g1 g2 g3 (by rw [← lset k hki]; exact g4)).kp P hkp
      · by_cases hdd : o.dst = some d
        · have hlt : i < M := (hd i o hoL hdd).2 lseti
          rw [(seg (i + 1) M (by omega) (by omega) (by omega)).t d fun k q g1 g2 g3 g4 => by have := hD.dst i o k q d hoL g3 hdd g4; omega]
          exact hput d hdd
        · rw [put_getD _ _ hdd]
          refine (h.vC d fun k q g1 g2 => ?_).kp P hkp
          have hki : k ≠ i := fun e => by subst e; rw [hoL] at g1; cases g1; exact hdd g2
          rw [hd k q g1 g2, lset k hki]
    have afterB : ∀ (s1 : St) (xv : AV) (c' : Cx) (y : Value), stillOp E o.op = false → tr (i + 1) = s1.put o.dst xv → c'.σ = s1.σ → Mem P c' → V P c' xv y → Stp c c' (tr i).t s1.t →
        (softAt E o.op (tr i) = true → s1.t = (tr i).t ∧ ∀ y1 u, V P c y1 u → V P c' y1 u) →
        wpAny P .any ops Q fuel (ls.setIfInBounds i true) (a.put o.dst y) c'.w := by
      intro s1 xv c' y hbr htr1 hσ' hm' hv' hst hsf
      have hiM : i = M := hbar hbr
      subst hiM
      have hge := h.ge
      obtain ⟨M', g1, g2, g3, g4⟩ := next_barS E ops.toList up (i + 1) (by omega) (by omega)
      have hsegN : ∀ lo hi, i + 1 ≤ lo → lo ≤ hi → hi ≤ M' → Seg E ops.toList tr lo hi := fun lo hi e1 e2 e3 => seg_ok T e2 (by omega) fun k q k1 k2 k3 => .inl (g3 k q (by omega) (by omega) k3)
      have hopM : M' < up → (ls.setIfInBounds i true).getD M' false = false := by
        intro hM
        rw [lset M' (by omega)]
        have hm := List.getElem?_eq_getElem (show M' < ops.toList.length by omega)
        exact hup M' _ (by omega) hM hm (g4 _ hM hm)
      have hlowM : ∀ k q, k < M' → ops.toList[k]? = some q → stillOp E q.op = false → (ls.setIfInBounds i true).getD k false = true := by
        intro k q k1 k2 k3
        rcases Nat.lt_trichotomy k i with k4 | k4 | k4
        · rw [lset k (by omega)]; exact h.low k q k4 k2 k3
        · subst k4; exact lseti
        · have := g3 k q (by omega) k1 k2; rw [k3] at this; cases this
      have hσM : c'.σ = (tr M').σ := by
        rw [(tr_frame T.step g1 (by omega) g3).1, htr1, put_σ]; exact hσ'
      have hgi := h.gi.step (ls' := ls.setIfInBounds i true) (tmps' := (a.put o.dst y).tmps) h.mem hst.gr' (fun k k1 k2 => lset k (by omega)) (by rw [put_size]) (fun k q d k1 k2 k3 k4 => put_getD _ _ (hgdst k q d k1 k2 k3 k4)) (t' := (tr M').t) (fun k q d k1 k2 k3 k4 hx => by
        rw [(hsegN (i + 1) M' (Nat.le_refl _) g1 (Nat.le_refl _)).t d fun k' q' e1 e2 e3 e4 => by have := hD.dst k q k' q' d k3 e3 k4 e4; omega]
        rw [htr1, put_ne _ _ (hgdst k q d k1 k2 k3 k4)]
        exact hst.x hx)
      have hkv := h.kv.trans hst.kv
      by_cases hcl : (∀ k, k < i → ls.getD k false = true) ∧ ∀ k, i < k → k < up → ls.getD k false = false
      · obtain ⟨cl1, cl2⟩ := hcl
        have hrel : Rel P c c (tr i) a := ⟨h.σ, h.mem, ⟨h.len, fun d y hy => by
          by_cases hgw : ∃ (k : Nat) (q : Oper), up ≤ k ∧ k < hi ∧ ops.toList[k]? = some q ∧ q.dst = some d
          · obtain ⟨k, q, k1, k2, k3, k4⟩ := hgw
            have hx := h.gi.vX k q d k1 k2 k3 k4
            rw [List.getD_eq_getElem?_getD, hy] at hx
            simp only [Option.getD_some] at hx
            subst hx
            exact .vi (.x _)
          · have := h.vC d fun k q g1 g2 => ⟨fun h1 => cl1 k h1, fun h1 => by
              rcases Nat.lt_trichotomy k i with k4 | k4 | k4
              · exact k4
              · subst k4; rw [hun'] at h1; cases h1
              · rcases Nat.lt_or_ge k up with k5 | k5
                · rw [cl2 k k4 k5] at h1; cases h1
                · rcases Nat.lt_or_ge k hi with k6 | k6
                  · exact absurd ⟨k, q, k5, k6, g1, g2⟩ hgw
                  · rw [h.post k k6] at h1; cases h1⟩
            rw [List.getD_eq_getElem?_getD, hy] at this; exact this⟩, Gr.refl c, h.df, KV.refl c⟩
        have hrel' : Rel P c c' (tr (i + 1)) (a.put o.dst y) := by rw [htr1]; exact hrel.step hσ' hm' hv' hst
        refine ih M' _ c' _ gb hcnt' ⟨hsz, hclosed, hpre, hpost, g2, hopM, hlowM, g4, by omega, hσM, hm', hgi, hkv, hrel'.df, by rw [(hsegN (i + 1) M' (Nat.le_refl _) g1 (Nat.le_refl _)).tl]; exact hrel'.tm.1, fun k q d k1 kU k2 k3 k4 => ?_, fun k q d k1 k2 k3 k4 => ?_, fun d hd => ?_⟩
        · rw [lset k (by omega), cl2 k (by omega) kU] at k4; cases k4
        · have hki : i + 1 ≤ k := by
            rcases Nat.lt_trichotomy k i with k5 | k5 | k5
            · rw [lset k (by omega), cl1 k k5] at k4; cases k4
            · subst k5; rw [lseti] at k4; cases k4
            · exact k5
          rw [(hsegN (i + 1) k (Nat.le_refl _) hki (by omega)).t d fun k' q' e1 e2 e3 e4 => by have := hD.dst k q k' q' d k2 e3 k3 e4; omega]
          exact hrel'.tm.at_ P d
        · rw [(hsegN (i + 1) M' (Nat.le_refl _) g1 (Nat.le_refl _)).t d fun k' q' e1 e2 e3 e4 => by
            have := (hd k' q' e3 e4).1 e2
            rw [lset k' (by omega), cl2 k' (by omega) (by omega)] at this; cases this]
          exact hrel'.tm.at_ P d
      · have hsa : softAt E o.op (tr i) = true := by
          have key : ∀ k q, ops.toList[k]? = some q → (k < i ∧ ls.getD k false = false ∨ i < k ∧ k < up ∧ ls.getD k false = true) → softAt E o.op (tr i) = true := by
            intro k q hq hk
            have hkG : ¬ G k := fun hg => by
              rcases Nat.lt_or_ge k lo with k0 | k0
              · rcases hk with ⟨k1, k2⟩ | ⟨k1, _⟩
                · rw [h.pre k hg k0] at k2; cases k2
                · omega
              · exact hAo k k0 (by omega) hg
            have n1 : ¬ Bf b i k := fun h1 => by
              have h2 := hB k h1
              rcases hk with ⟨k1, k2⟩ | ⟨k1, _, k2⟩
              · rw [h2.2] at k2; cases k2
              · omega
            have n2 : ¬ Bf b k i := fun h1 => by
              rcases hk with ⟨k1, k2⟩ | ⟨k1, _, k2⟩
              · have := hB0 k q hq i h1; omega
              · have := hBl k q hkG hq k2 i h1; rw [hun'] at this; cases this
            rcases hD.pair i o k q hoL hq hiG hkG hbr (by omega) with h3 | h3 | ⟨h3, _, _⟩
            · exact absurd h3 n1
            · exact absurd h3 n2
            · have h4 := ((okStep_spec (T.ok i o hoL) hq (free_spec.2 ⟨by omega, hnB _ _ n1, hnB _ _ n2⟩)).2 hbr).1
              simp only [softAt, h3, Bool.true_and]
              exact h4
          rcases Classical.not_and_iff_not_or_not.1 hcl with hn | hn
          · obtain ⟨k, hk⟩ := Classical.not_forall.1 hn
            obtain ⟨hk1, hk2⟩ := Classical.not_imp.1 hk
            exact key k _ (List.getElem?_eq_getElem (by omega)) (.inl ⟨hk1, by simpa using hk2⟩)
          · obtain ⟨k, hk⟩ := Classical.not_forall.1 hn
            obtain ⟨hk1, hk2⟩ := Classical.not_imp.1 hk
            obtain ⟨hk2, hk4⟩ := Classical.not_imp.1 hk2
            have hk3 : ls.getD k false = true := by simpa using hk4
            exact key k _ (List.getElem?_eq_getElem (by omega)) (.inr ⟨hk1, hk2, hk3⟩)
        obtain ⟨hs1t, hmono⟩ := hsf hsa
        have htr1t : ∀ d, o.dst ≠ some d → (tr (i + 1)).t.getD d .x = (tr i).t.getD d .x := fun d hdd => by
          rw [htr1, put_ne _ _ hdd, hs1t]
        have hput : ∀ d, o.dst = some d → V P c' ((tr (i + 1)).t.getD d .x) ((a.put o.dst y).tmps.getD d undef) := by
          intro d hdd
          rw [htr1, hdd]; exact hv'.put_eq (by rw [hs1t]; exact h.len)
        have htl : (tr M').t.length = (tr i).t.length := by
          rw [(hsegN (i + 1) M' (Nat.le_refl _) g1 (Nat.le_refl _)).tl, htr1, put_len, hs1t]
        refine ih M' _ c' _ gb hcnt' ⟨hsz, hclosed, hpre, hpost, g2, hopM, hlowM, g4, by omega, hσM, hm', hgi, hkv, (put_df _ _ _).trans h.df, by rw [put_size, htl]; exact h.len, fun k q d k1 kU k2 k3 k4 => ?_, fun k q d k1 k2 k3 k4 => ?_, fun d hd => ?_⟩
        · have hki : k ≠ i := by omega
          rw [put_getD _ _ fun hdd => hki (hD.dst i o k q d hoL k2 hdd k3)]
          exact hmono _ _ (h.vA k q d (by omega) kU k2 k3 (by rw [← lset k hki]; exact k4))
        · have hki : k ≠ i := fun e => by subst e; rw [lseti] at k4; cases k4
          have hdd : o.dst ≠ some d := fun hdd => hki (hD.dst i o k q d hoL k2 hdd k3)
          have hk0 : ls.getD k false = false := by rw [← lset k hki]; exact k4
          rw [put_getD _ _ hdd]
          rcases Nat.lt_or_ge k i with k5 | k5
          · exact hmono _ _ (h.vB k q d k5 k2 k3 hk0)
          · rw [(hsegN (i + 1) k (Nat.le_refl _) (by omega) (by omega)).t d fun k' q' e1 e2 e3 e4 => by have := hD.dst k q k' q' d k2 e3 k3 e4; omega]
            rw [htr1t d hdd]
            exact hmono _ _ (h.vC d fun k' q' e1 e2 => by
              have := hD.dst k q k' q' d k2 e1 k3 e2
              subst this
              exact ⟨fun e => by omega, fun e => by rw [hk0] at e; cases e⟩)
        · by_cases hdd : o.dst = some d
          · rw [(hsegN (i + 1) M' (Nat.le_refl _) g1 (Nat.le_refl _)).t d fun k' q' e1 e2 e3 e4 => by have := hD.dst i o k' q' d hoL e3 hdd e4; omega]
            exact hput d hdd
          · rw [put_getD _ _ hdd]
            by_cases hw : ∃ (k : Nat) (q : Oper), ops.toList[k]? = some q ∧ q.dst = some d ∧ i < k ∧ k < M'
            · obtain ⟨k, q, k2, k3, k4, k5⟩ := hw
              have hl : ls.getD k false = true := by rw [← lset k (by omega)]; exact (hd k q k2 k3).1 k5
              rw [(hsegN (k + 1) M' (by omega) (by omega) (Nat.le_refl _)).t d fun k' q' e1 e2 e3 e4 => by have := hD.dst k q k' q' d k2 e3 k3 e4; omega]
              exact hmono _ _ (h.vA k q d (by omega) (by omega) k2 k3 hl)
            · rw [(hsegN (i + 1) M' (Nat.le_refl _) g1 (Nat.le_refl _)).t d fun k' q' e1 e2 e3 e4 => hw ⟨k', q', e3, e4, by omega, e2⟩, htr1t d hdd]
              refine hmono _ _ (h.vC d fun k q e1 e2 => ?_)
              have hki : k ≠ i := fun e => by subst e; rw [hoL] at e1; cases e1; exact hdd e2
              rw [← lset k hki, ← hd k q e1 e2]
              constructor
              · intro e3; omega
              · intro e3
                rcases Nat.lt_or_ge k i with e4 | e4
                · exact e4
                · exact absurd ⟨k, q, e1, e2, by omega, e3⟩ hw
    have hsome : ∀ {d j : Nat} {w : Bool}, o.guard = some (j, w) → (ops.toList[j]?).bind (·.dst) = some d → d ∈ o.looksAt ops := by
      intro d j w hg hd
      refine List.mem_append_right _ ?_
      rw [hg]
      simp only
      have h3 : (ops[j]?).bind (·.dst) = some d := by rw [← Array.getElem?_toList]; exact hd
      rw [h3]; simp
    unfold wpOp
    rw [ho]
    simp only
    rcases T.step i o hoL with ⟨v, s1, h1, h2, h3⟩ | ⟨h2, j, want, d, hg, hd, h3⟩
    · have hw : Region.wanted o (yielded ops a.tmps) = true := by
        rcases h3 with hg | ⟨j, want, d, hg, hd, h4⟩
        · simp [Region.wanted, hg]
        · have htd := hV d (hsome hg hd)
          rw [h4] at htd
          simp [Region.wanted, hg, yielded_of hd htd.inv_b]
      rw [if_pos hw]
      left
      cases hst : stillOp E o.op with
      | true =>
        have hs1 := evOp_still hst h1
        subst hs1
        obtain ⟨v', s', e1, e2⟩ := op_ok (st := ⟨(tr i).t, c.σ⟩) (a := a) (c := c) hE hC rfl h.mem (fun x hx => by rw [show (⟨(tr i).t, c.σ⟩ : St).ev x = (tr i).ev x from ev_σ _ (tr i).σ _ x]; exact hEv x hx) (hev hst v _ h1)
        cases e1
        exact e2 _ _ fun c' y k1 k2 k3 k4 k5 _ => afterS v c' y hst h2 k1 k2 k3 (kp_of_qt (k5 (still_quiet hst)).1 k1 k4.gr'.F)
      | false =>
        have hiM := hbar hst
        have hσi : c.σ = (tr i).σ := by rw [hiM]; exact h.σ
        obtain ⟨v', s', e1, e2⟩ := op_ok (a := a) (c := c) hE hC hσi h.mem hEv h1
        cases e1
        exact e2 _ _ fun c' y k1 k2 k3 k4 _ k6 => afterB s1 v c' y hst h2 k1 k2 k3 k4 fun hsa => ⟨(soft_op hsa h1).t, k6 hsa⟩
    · have htd := hV d (hsome hg hd)
      have hw : Region.wanted o (yielded ops a.tmps) = false := by
        rcases h3 with h4 | h4
        · rw [h4] at htd
          simp [Region.wanted, hg, yielded_of hd htd.inv_b]
        · rw [h4] at htd
          simp [Region.wanted, hg, yielded_none hd htd.inv_u]
      rw [if_neg (by rw [hw]; simp)]
      cases hst : stillOp E o.op with
      | true => exact afterS .u c undef hst h2 rfl h.mem (.vi .u) (Kp.refl c)
      | false =>
        have hiM := hbar hst
        have hσi : c.σ = (tr i).σ := by rw [hiM]; exact h.σ
        exact afterB (tr i) .u c undef hst h2 hσi h.mem (.vi .u) (.inl ⟨rfl, Kp.refl c⟩) fun _ => ⟨rfl, fun _ _ h => h⟩
  intro fuel
  induction fuel with
  | zero =>
    intro M ls c a gb hcnt h
    by_cases hall : cd M ls
    · exact hfin _ M ls c a gb hcnt h hall
    · exfalso
      refine hall (hc2 M ls c a gb h (all_of_ready hD.back h.size ?_))
      cases hr : Region.ready .any ops ls with
      | nil => rfl
      | cons i rest =>
        exfalso
        have hi : i ∈ Region.ready .any ops ls := by rw [hr]; simp
        obtain ⟨hun, _⟩ := mem_ready.1 hi
        obtain ⟨hisz, hun'⟩ := getD_false hun
        have : ls.toList[i]? = some false := by
          rw [Array.getElem?_toList, Array.getElem?_eq_getElem hisz]
          simp [hisz] at hun; rw [hun]
        have := cnt_set _ _ this
        omega
  | succ fuel ih =>
    intro M ls c a gb hcnt h
    by_cases hall : cd M ls
    · exact hfin _ M ls c a gb hcnt h hall
    · exact ⟨fun hr => absurd (hc2 M ls c a gb h (all_of_ready hD.back h.size hr)) hall, step fuel M ls c a gb ih hcnt h hall⟩

theorem wpAny_done {ops : Array Oper} {Q : Exit → Act → World → Prop} {ls : Array Bool} {a : Act} {w : World} (hs : ls.size = ops.toList.length) (hall : ∀ k, k < ops.toList.length → ls.getD k false = true) (hQ : Q .normal a w) : ∀ fuel, wpAny P .any ops Q fuel ls a w := by
  have hr : Region.ready .any ops ls = [] := by
    cases hr : Region.ready .any ops ls with
    | nil => rfl
    | cons i rest =>
      exfalso
      have hi : i ∈ Region.ready .any ops ls := by rw [hr]; simp
      obtain ⟨hun, _⟩ := mem_ready.1 hi
      obtain ⟨hisz, hun'⟩ := getD_false hun
      have := hall i (by omega)
      rw [hun'] at this; cases this
  intro fuel
  cases fuel with
  | zero => exact ⟨hr, hQ⟩
  | succ fuel => exact ⟨fun _ => hQ, fun i hi => by rw [hr] at hi; cases hi⟩

/-- Where a region begins. -/
theorem start_ok {ops : List Oper} {C : Cal} {c0 c : Cx} {a : Act} {ls : Array Bool} {b : List Nat} {G : Nat → Prop} (hD : DO3 E ops b G) {tr : Nat → St}
    (T : Tr E C ops b tr) {up hi : Nat} (hle1 : up ≤ hi) (hle2 : hi ≤ ops.length)
    (hX : ∀ (k : Nat) o d, up ≤ k → k < hi → ops[k]? = some o → o.dst = some d → (tr 0).t.getD d .x = .x)
    (hrel : Rel P c0 c (tr 0) a) (hs : ls.size = ops.length) (hl2 : ∀ k, ls.getD k false = false) : ∃ M, DI3 P E c0 ops G tr 0 up hi M ls c a fun _ => 0 := by
  obtain ⟨M, g1, g2, g3, g4⟩ := next_barS E ops up 0 (Nat.zero_le _) (by omega)
  obtain ⟨e1, e2, e3⟩ := tr_frame T.step g1 (by omega) g3
  have hF := hrel.gr.F
  have hno : ∀ {k : Nat} {p : Prop}, ls.getD k false = true → p := fun h => by rw [hl2] at h; cases h
  refine ⟨M, hs, fun k o hk => hno hk, fun k _ hk => by omega, fun k _ => hl2 k, g2, fun _ => hl2 M, fun k o k1 k2 k3 => ?_, fun o => g4 o, g1, hrel.σ.trans e1.symm, hrel.mem,
    ⟨⟨hrel.gr.os, hrel.gr.tape, hrel.gr.output, hrel.gr.size, hrel.gr.heap, hrel.gr.O, rfl⟩, fun b' => ?_, fun k _ _ k3 => hno k3, fun k k' _ _ k3 _ _ _ _ => hno k3, fun k o d k1 k2 k3 k4 => ?_⟩, hrel.kv, hrel.df, (by rw [e2]; exact hrel.tm.1), fun k o d _ _ _ _ k4 => hno k4, fun k o d k1 k2 k3 k4 => ?_, fun d hd => ?_⟩
  · rw [g3 k o (Nat.zero_le _) k1 k2] at k3; cases k3
  · rw [hF]
    exact ⟨.inl, fun h => h.elim id fun ⟨k, _, _, k3, _⟩ => hno k3⟩
  · rw [e3 d fun k' q' h1 h2 h3 h4 => by have := hD.dst k o k' q' d k3 h3 k4 h4; omega]
    exact hX k o d k1 k2 k3 k4
  · obtain ⟨_, _, u3⟩ := tr_frame T.step (Nat.zero_le k) (by have := (List.getElem?_eq_some_iff.1 k2).1; omega) fun k' q' g1' g2' g3' => g3 k' q' g1' (by omega) g3'
    rw [u3 d fun k' q' g1' g2' g3' g4' => by have := hD.dst k o k' q' d k2 g3' k3 g4'; omega]
    exact hrel.tm.at_ P d
  · rw [e3 d fun k o k1 k2 k3 k4 => hno ((hd k o k3 k4).1 k2)]
    exact hrel.tm.at_ P d

theorem GI.done {c0 c : Cx} {ops : List Oper} {t : List AV} {n : Nat} {ls : Array Bool} {tmps : Array Value} {gb : Nat → Nat} (h : GI P c0 c ops t n n ls tmps gb) : Gr c0 c := by
  have hF : c.F = c0.F := by
    funext b'
    exact propext ((h.F b').trans ⟨fun h => h.elim id fun ⟨k, k1, k2, _⟩ => by omega, .inl⟩)
  have hg := h.gr
  exact ⟨hg.os, hg.tape, hg.output, hg.size, hg.heap, hg.O, hF⟩

/-- The last stretch. -/
theorem last_ok {ops : Array Oper} {C : Cal} {c0 : Cx} {R : Type} {K : St → Option R} {r : R} {Q : Exit → Act → World → Prop} {b : List Nat} {G : Nat → Prop} (hE : EnvOk P E) (hC : CalOk P E C) (hD : DO3 E ops.toList b G) {tr : Nat → St} (T : Tr E C ops.toList b tr) {lo : Nat}
    (hAo : ∀ k, lo ≤ k → k < ops.toList.length → ¬ G k)
    (hgp : ∀ (k : Nat) (i : Nat) o, G k → ops.toList[i]? = some o → ¬ G i → i < k → stillOp E o.op = true → (∃ (j : Nat) (q : Oper), j < k ∧ ops.toList[j]? = some q ∧ stillOp E q.op = false ∧ Bf (befL ops.toList []) j i ∧ ¬ G j) ∨ (plain o.op = true ∧ noOver E ops.toList b i k o = true))
    (hga : ∀ (k : Nat) o, G k → ops.toList[k]? = some o → ∃ t, o.op = .alloc t)
    (hnl : ∀ (k : Nat) o d (i : Nat) q, G k → ops.toList[k]? = some o → o.dst = some d → ¬ G i → i < ops.toList.length → ops.toList[i]? = some q → d ∈ q.looksAt ops → Bf b i k)
    (hK : K (tr ops.toList.length) = some r) (hQ : ∀ st' c' a', K st' = some r → Rel P c0 c' st' a' → Q .normal a' c'.w) :
    ∀ (fuel M : Nat) (ls : Array Bool) (c : Cx) (a : Act) (gb : Nat → Nat), ls.toList.count false ≤ fuel → DI3 P E c0 ops.toList G tr lo ops.toList.length ops.toList.length M ls c a gb → wpAny P .any ops Q fuel ls a c.w := by
  refine any_ok3 hE hC hD T (Nat.le_refl _) (Nat.le_refl _) hAo (fun k h1 h2 => by omega) hgp hga hnl (fun _ ls => ∀ k, k < ops.toList.length → ls.getD k false = true) (fun _ _ _ _ _ _ _ i o ho _ => (List.getElem?_eq_some_iff.1 ho).1) (fun _ _ _ _ _ _ h => h) fun fuel M ls c a gb _ h hall => ?_
  have hM : M = ops.toList.length := by
    rcases Nat.lt_or_ge M ops.toList.length with h1 | h1
    · have := h.op h1; rw [hall M h1] at this; cases this
    · have := h.le; omega
  subst hM
  exact wpAny_done h.size hall (hQ _ c a hK ⟨h.σ, h.mem, ⟨h.len, fun d y hy => by
    have := h.vC d fun k o hk _ => ⟨fun h1 => hall k h1, fun _ => (List.getElem?_eq_some_iff.1 hk).1⟩
    rw [List.getD_eq_getElem?_getD, hy] at this; exact this⟩, h.gi.done, h.df, h.kv⟩) fuel

theorem draw_rule2 (hE : EnvOk P E) {C : Cal} (hC : CalOk P E C) (ops : Array Oper) (id : Nat) (c0 c : Cx) (st : St) (a : Act) {R : Type} (K : St → Option R) (r : R) (Q : Exit → Act → World → Prop) (hd : drawOk2 E ops.toList = true) (h : Rel P c0 c st a)
    (hk : evOpsD E C ops.toList (befL ops.toList []) 0 ops.toList st K = some r) (hQ : ∀ st' c' a', K st' = some r → Rel P c0 c' st' a' → Q .normal a' c'.w) : (Code.region id ops true).wp P Q a c.w := by
  have hs : Same c.w { c.w with drawn := c.w.drawn + 1 } := ⟨rfl, rfl, rfl, Nat.le_refl _, fun _ _ => rfl⟩
  obtain ⟨m1, m2, _⟩ := mem_same h.mem hs
  refine wp_region_any hE.mixed ?_
  obtain ⟨tr, t1, t2, t3⟩ := evOpsD_trace hk
  subst t1
  have T : Tr E C ops.toList (befL ops.toList []) tr := ⟨fun i o ho => (t3 i o ho).1, fun i o ho => by have := (t3 i o ho).2; rwa [Nat.zero_add] at this⟩
  have hz : ∀ k, (Array.replicate ops.size false).getD k false = false := fun k => by
    rw [Array.getD_eq_getD_getElem?, Array.getElem?_replicate]; split <;> rfl
  obtain ⟨M, hM⟩ := start_ok (P := P) (c0 := c0) (c := c.at { c.w with drawn := c.w.drawn + 1 }) (a := a) (ls := Array.replicate ops.size false) (drawOk2_spec hd) T (up := ops.toList.length) (Nat.le_refl _) (Nat.le_refl _) (fun k _ _ h1 h2 => by omega) ⟨h.σ, m1, h.tm.kp P m2, h.gr.trans m2.toGr, h.df, h.kv.trans m2.kv⟩ (by simp) hz
  exact last_ok hE hC (drawOk2_spec hd) T (fun _ _ _ h => h) (fun _ _ _ h => h.elim) (fun _ _ h => h.elim) (fun _ _ _ _ _ h => h.elim) t2 hQ _ M _ _ a _ (by simp) hM

theorem xs_len (l : List Oper) (t : List AV) : (xs l t).length = t.length := by
  unfold xs
  induction l generalizing t with
  | nil => rfl
  | cons o l ih =>
    rw [List.foldl_cons, ih]
    cases o.dst <;> simp
theorem xs_keep {d : Nat} (l : List Oper) (t : List AV) (h : t.getD d .x = .x) : (xs l t).getD d .x = .x := by
  unfold xs
  induction l generalizing t with
  | nil => exact h
  | cons o l ih =>
    rw [List.foldl_cons]
    refine ih _ ?_
    cases o.dst with
    | none => exact h
    | some d' =>
      simp only [List.getD_eq_getElem?_getD, List.getElem?_set] at h ⊢
      split
      · split <;> rfl
      · exact h
theorem xs_hit {d : Nat} : ∀ (l : List Oper) (t : List AV) (o : Oper), o ∈ l → o.dst = some d → (xs l t).getD d .x = .x
  | [], _, _, h, _ => by cases h
  | o1 :: l, t, o, h, hd => by
    have e1 : xs (o1 :: l) t = xs l (match o1.dst with | some d => t.set d .x | none => t) := rfl
    rw [e1]
    rcases List.mem_cons.1 h with h1 | h1
    · refine xs_keep l _ ?_
      rw [← h1, hd]
      simp only [List.getD_eq_getElem?_getD, List.getElem?_set, if_true]
      split <;> rfl
    · exact xs_hit l _ o h1 hd
theorem xs_tm {c : Cx} {tmps : Array Value} : ∀ (l : List Oper) (t : List AV), Tm P c t tmps → Tm P c (xs l t) tmps
  | [], _, h => h
  | o :: l, t, h => by
    have e1 : xs (o :: l) t = xs l (match o.dst with | some d => t.set d .x | none => t) := rfl
    rw [e1]
    refine xs_tm l _ ?_
    cases o.dst with
    | none => exact h
    | some d =>
      refine ⟨by simpa using h.1, fun i y hy => ?_⟩
      simp only [List.getElem?_set] at hy
      split at hy
      · split at hy
        · simp only [Option.some.injEq] at hy; subst hy; exact .vi (.x _)
        · cases hy
      · exact h.2 i y hy

/-- All that was laid out early is taken in. -/
theorem adopt_all {ops : List Oper} {C : Cal} {c0 c : Cx} {a : Act} {b : List Nat} {gb : Nat → Nat} {ls : Array Bool} (hE : EnvOk P E) {tr : Nat → St} (T : Tr E C ops b tr) {s m : Nat} (hsm : s ≤ m)
    (hGh : ∀ k, s ≤ k → k < m → ∃ o t d, ops[k]? = some o ∧ o.op = .alloc t ∧ o.guard = none ∧ o.dst = some d) (hgi : GI P c0 c ops (tr s).t s m ls a.tmps gb) (hall : ∀ k, s ≤ k → k < m → ls.getD k false = true)
    (hσ : c.σ = (tr s).σ) (hm : Mem P c) (hkv : KV c0 c) (hlen : (tr s).t.length ≤ a.tmps.size) :
    ∃ c', c'.w = c.w ∧ c'.σ = (tr m).σ ∧ Mem P c' ∧ KV c0 c' ∧ Gr c0 c' ∧ (tr m).t.length = (tr s).t.length ∧ (∀ y u, V P c y u → V P c' y u) ∧
      (∀ d, (∀ k o, s ≤ k → k < m → ops[k]? = some o → o.dst ≠ some d) → (tr m).t.getD d .x = (tr s).t.getD d .x) ∧
      ∀ k o d, s ≤ k → k < m → ops[k]? = some o → o.dst = some d → V P c' ((tr m).t.getD d .x) (a.tmps.getD d undef) := by
  have key : ∀ n k, k = s + n → k ≤ m → ∃ c', c'.w = c.w ∧ c'.σ = (tr k).σ ∧ Mem P c' ∧ KV c0 c' ∧ (∀ x, c'.O x → c.O x ∨ ∃ j, s ≤ j ∧ j < k ∧ gb j = x) ∧ (∀ x, c'.F x ↔ c.F x ∧ ∀ j, s ≤ j → j < k → gb j ≠ x) ∧
      (tr k).t.length = (tr s).t.length ∧ (∀ y u, V P c y u → V P c' y u) ∧ (∀ d, (∀ j o, s ≤ j → j < k → ops[j]? = some o → o.dst ≠ some d) → (tr k).t.getD d .x = (tr s).t.getD d .x) ∧
      ∀ j o d, s ≤ j → j < k → ops[j]? = some o → o.dst = some d → V P c' ((tr k).t.getD d .x) (a.tmps.getD d undef) := by
    intro n
    induction n with
    | zero =>
      intro k hk _
      have hk : k = s := by omega
      subst hk
      exact ⟨c, rfl, hσ, hm, hkv, fun x hx => .inl hx, fun x => ⟨fun h => ⟨h, fun j h1 h2 => by omega⟩, fun h => h.1⟩, rfl, fun _ _ h => h, fun _ _ => rfl, fun j _ _ h1 h2 => by omega⟩
    | succ n ih =>
      intro k hk hkm
      obtain ⟨c1, i1, i2, i3, i4, i6, i7, i8, i9, i10, i11⟩ := ih (k - 1) (by omega) (by omega)
      obtain ⟨k', rfl⟩ : ∃ k', k = k' + 1 := ⟨k - 1, by omega⟩
      rw [Nat.add_sub_cancel] at i2 i6 i7 i8 i10 i11
      obtain ⟨o, t, d, q1, q2, q3, q4⟩ := hGh k' (by omega) (by omega)
      have hls := fun j j1 j2 => hall j j1 j2
      rcases T.step k' o q1 with ⟨v, s1, h1, h2, _⟩ | ⟨_, j, want, d', hg, _⟩
      · obtain ⟨e1, e2, e3, e4⟩ := hgi.gh k' (by omega) (by omega) (hall k' (by omega) (by omega))
        obtain ⟨e5, e6⟩ := e4 o q1
        have hF1 : c1.F (gb k') := (i7 _).2 ⟨(hgi.F _).2 (.inr ⟨k', by omega, by omega, hall k' (by omega) (by omega), rfl⟩), fun j j1 j2 e => by
          have := hgi.inj j k' j1 (by omega) (hls j j1 (by omega)) (by omega) (by omega) (hall k' (by omega) (by omega)) e
          omega⟩
        obtain ⟨c2, u1, u2, u3, u4, u5, u6, u7, u8, u9⟩ := ghost_step hE q2 i2 i3 hF1 (by rw [i1]; exact e5 t q2) h1
        have hput : ∀ d', d' ≠ d → (tr (k' + 1)).t.getD d' .x = (tr k').t.getD d' .x := fun d' hne => by
          rw [h2, put_ne _ _ (by rw [q4]; simp only [ne_eq, Option.some.injEq]; exact fun e => hne e.symm), u2]
        have hdv : V P c2 ((tr (k' + 1)).t.getD d .x) (a.tmps.getD d undef) := by
          rw [h2, q4]
          simp only [St.put, u2, List.getD_eq_getElem?_getD, List.getElem?_set, if_true]
          split
          · rename_i hlt
            simp only [Option.getD_some]
            rw [e6 d q4 (by rw [i8] at hlt; exact Nat.lt_of_lt_of_le hlt hlen)]
            exact u9
          · exact .vi (.x _)
        refine ⟨c2, u4.trans i1, by rw [h2, put_σ]; exact u1, u3, i4.trans u6, fun x hx => ?_, fun x => ?_, by rw [h2, put_len, u2]; exact i8, fun y u hv => u8 _ _ (i9 y u hv), fun d' hd' => ?_, fun j o' d' j1 j2 j3 j4 => ?_⟩
        · rcases u7 x hx with h3 | h3
          · exact (i6 x h3).imp id fun ⟨j, j1, j2, j3⟩ => ⟨j, j1, by omega, j3⟩
          · exact .inr ⟨k', by omega, by omega, h3.symm⟩
        · rw [u5]
          simp only [i7]
          constructor
          · rintro ⟨⟨h3, h4⟩, h5⟩
            refine ⟨h3, fun j j1 j2 => ?_⟩
            by_cases hjk : j = k'
            · subst hjk; exact fun e => h5 e.symm
            · exact h4 j j1 (by omega)
          · rintro ⟨h3, h4⟩
            exact ⟨⟨h3, fun j j1 j2 => h4 j j1 (by omega)⟩, fun e => h4 k' (by omega) (by omega) e.symm⟩
        · rw [hput d' fun e => hd' k' o (by omega) (by omega) q1 (by rw [e]; exact q4)]
          exact i10 d' fun j o' j1 j2 j3 => hd' j o' j1 (by omega) j3
        · by_cases hdd : d' = d
          · subst hdd; exact hdv
          · rw [hput d' hdd]
            have hjk : j ≠ k' := fun e => by subst e; rw [q1] at j3; cases j3; rw [q4] at j4; cases j4; exact hdd rfl
            exact u8 _ _ (i11 j o' d' j1 (by omega) j3 j4)
      · rw [q3] at hg; cases hg
  obtain ⟨c1, i1, i2, i3, i4, i6, i7, i8, i9, i10, i11⟩ := key (m - s) m (by omega) (Nat.le_refl _)
  have hg := hgi.gr
  refine ⟨c1, i1, i2, i3, i4, ⟨by rw [i1]; exact hg.os, by rw [i1]; exact hg.tape, by rw [i1]; exact hg.output, by rw [i1]; exact hg.size, fun b' h1 h2 => by rw [i1]; exact hg.heap b' h1 h2, fun x hx => ?_, ?_⟩, i8, i9, i10, i11⟩
  · rcases i6 x hx with h1 | ⟨j, j1, j2, rfl⟩
    · exact hg.O x h1
    · exact .inr (hgi.gh j j1 j2 (hall j j1 j2)).2.1
  · funext x
    refine propext ((i7 x).trans ?_)
    rw [hgi.F]
    constructor
    · rintro ⟨h1 | ⟨j, j1, j2, _, j4⟩, h2⟩
      · exact h1
      · exact absurd j4 (h2 j j1 j2)
    · intro h1
      refine ⟨.inl h1, fun j j1 j2 e => ?_⟩
      exact (hgi.gh j j1 j2 (hall j j1 j2)).1 (by rw [e]; exact h1)

theorem draw_rule3 (hE : EnvOk P E) {C : Cal} (hC : CalOk P E C) (ops : Array Oper) (id : Nat) (c0 c : Cx) (st : St) (a : Act) {R : Type} (K : St → Option R) (r : R) (Q : Exit → Act → World → Prop) {s m : Nat} (hd : drawOk3 E ops.toList s m = true) (h : Rel P c0 c st a)
    (hk : evOps3 E C ops.toList s m st K = some r) (hQ : ∀ st' c' a', K st' = some r → Rel P c0 c' st' a' → Q .normal a' c'.w) : (Code.region id ops true).wp P Q a c.w := by
  have hs : Same c.w { c.w with drawn := c.w.drawn + 1 } := ⟨rfl, rfl, rfl, Nat.le_refl _, fun _ _ => rfl⟩
  obtain ⟨m1, m2, _⟩ := mem_same h.mem hs
  refine wp_region_any hE.mixed ?_
  unfold evOps3 at hk
  obtain ⟨tr, t1, t2, t3⟩ := evOpsD_trace hk
  obtain ⟨hD, hG⟩ := drawOk3_spec hd
  have T : Tr E C ops.toList (b3 s m 0 (befL ops.toList [])) tr := ⟨fun i o ho => (t3 i o ho).1, fun i o ho => by have := (t3 i o ho).2; rwa [Nat.zero_add] at this⟩
  have hz : ∀ k, (Array.replicate ops.size false).getD k false = false := fun k => by
    rw [Array.getD_eq_getD_getElem?, Array.getElem?_replicate]; split <;> rfl
  have hsm := hG.lt
  have hml := hG.le
  have hgp : ∀ (k : Nat) (i : Nat) o, (s ≤ k ∧ k < m) → ops.toList[i]? = some o → ¬ (s ≤ i ∧ i < m) → i < k → stillOp E o.op = true → (∃ (j : Nat) (q : Oper), j < k ∧ ops.toList[j]? = some q ∧ stillOp E q.op = false ∧ Bf (befL ops.toList []) j i ∧ ¬ (s ≤ j ∧ j < m)) ∨ (plain o.op = true ∧ noOver E ops.toList (b3 s m 0 (befL ops.toList [])) i k o = true) := by
    intro k i o hk ho hi hik hst
    rcases hG.flo i o ho (by omega) hst with ⟨j, q, j1, j2, j3, j4⟩ | ⟨j1, j2⟩
    · exact .inl ⟨j, q, by omega, j2, j3, j4, by omega⟩
    · exact .inr ⟨j1, j2 k hk.1 hk.2⟩
  have hga : ∀ (k : Nat) o, (s ≤ k ∧ k < m) → ops.toList[k]? = some o → ∃ t, o.op = .alloc t := fun k o hk ho => by
    obtain ⟨o', t, d, g1, g2, _⟩ := hG.al k hk.1 hk.2
    rw [ho] at g1; cases g1
    exact ⟨t, g2⟩
  have hnl : ∀ (n k : Nat) o d (i : Nat) q, (s ≤ k ∧ k < m) → ops.toList[k]? = some o → o.dst = some d → ¬ (s ≤ i ∧ i < m) → i < n → ops.toList[i]? = some q → d ∈ q.looksAt ops → Bf (b3 s m 0 (befL ops.toList [])) i k := by
    intro n k o d i q hg ho hdd hi _ hq hl
    rcases Nat.lt_or_ge i s with h1 | h1
    · exact absurd h1 (hG.nolook k o d i q hg.1 hg.2 ho hdd hq hl)
    · unfold Bf
      rw [hD.tru i hi]
      exact hG.aft i q hq (by omega) k o ho hg.2 (.inl hg.1)
  obtain ⟨M, hM⟩ := start_ok (P := P) (c0 := c0) (c := c.at { c.w with drawn := c.w.drawn + 1 }) (a := a) (ls := Array.replicate ops.size false) hD T (up := s) (hi := m) (by omega) hml (fun k o d h1 h2 ho hdd => by
    rw [t1]
    refine xs_hit _ _ o (List.mem_of_getElem? (i := k - s) ?_) hdd
    rw [List.getElem?_drop, List.getElem?_take, if_pos (by omega), show s + (k - s) = k by omega]
    exact ho) ⟨by rw [t1]; exact h.σ, m1, by rw [t1]; exact xs_tm _ _ (h.tm.kp P m2), h.gr.trans m2.toGr, h.df, h.kv.trans m2.kv⟩ (by simp) hz
  refine any_ok3 (lo := 0) (up := s) (hi := m) hE hC hD T (by omega) hml (fun k _ h1 h2 => by omega) hG.al hgp hga (hnl s) (fun M ls => M = s ∧ ∀ k, s ≤ k → k < m → ls.getD k false = true)
    (fun M ls c a gb h hn i o ho hdep => ?_) (fun M ls c a gb h hall => ⟨?_, fun k _ h2 => hall k (by omega)⟩) (fun fuel M ls c1 a1 gb hcnt h1 hcd => ?_) _ M _ _ a _ (by simp) hM
  · rcases Nat.lt_or_ge i m with h1 | h1
    · exact h1
    exfalso
    have hB := bef_spec hD.back h.closed i o ho hdep
    refine hn ⟨?_, fun k k1 k2 => ?_⟩
    · rcases Nat.lt_or_ge M s with h2 | h2
      · have hq := List.getElem?_eq_getElem (show M < ops.toList.length by omega)
        have := (hB M (hG.aft i o ho h1 M _ hq (by omega) (.inr (h.bar _ h2 hq)))).2
        rw [h.op h2] at this; cases this
      · have := h.le; omega
    · have hq := List.getElem?_eq_getElem (show k < ops.toList.length by omega)
      exact (hB k (hG.aft i o ho h1 k _ hq k2 (.inl k1))).2
  · rcases Nat.lt_or_ge M s with h2 | h2
    · have := h.op h2; rw [hall M (by omega)] at this; cases this
    · have := h.le; omega
  · obtain ⟨hMs, hall⟩ := hcd
    subst hMs
    obtain ⟨c2, w2, e1, e2, e3, e4, e5, e6, e7, e8⟩ := adopt_all hE T (Nat.le_of_lt hsm) hG.al h1.gi hall h1.σ h1.mem h1.kv h1.len
    obtain ⟨M', g1, g2, g3, g4⟩ := next_barS E ops.toList ops.toList.length m hml (Nat.le_refl _)
    obtain ⟨f1, f2, f3⟩ := tr_frame T.step g1 g2 g3
    rw [← w2]
    refine last_ok hE hC hD T (lo := m) (fun k h3 _ h2 => by omega) hgp hga (hnl _) t2 hQ fuel M' ls c2 a1 (fun _ => 0) hcnt ⟨h1.size, h1.closed, fun k hk _ => hall k hk.1 hk.2, fun k hk => h1.post k (by omega), g2, fun _ => h1.post M' g1, fun k o k1 k2 k3 => ?_, g4, g1, e1.trans f1.symm, e2,
      ⟨⟨e4.os, e4.tape, e4.output, e4.size, e4.heap, e4.O, rfl⟩, fun b' => ?_, fun k k1 k2 => by omega, fun k k' k1 k2 => by omega, fun k o d k1 k2 => by omega⟩, e3, h1.df, by rw [f2, e5]; exact h1.len, fun k o d k1 k2 k3 k4 k5 => ?_, fun k o d k1 k2 k3 k4 => ?_, fun d hd => ?_⟩
    · rcases Nat.lt_or_ge k M with h2 | h2
      · exact h1.low k o h2 k2 k3
      · rcases Nat.lt_or_ge k m with h4 | h4
        · exact hall k h2 h4
        · rw [g3 k o h4 k1 k2] at k3; cases k3
    · rw [e4.F]
      exact ⟨.inl, fun h => h.elim (fun h => h) fun ⟨k, k1, k2, _⟩ => by omega⟩
    · rw [h1.post k (by omega)] at k5; cases k5
    · rcases Nat.lt_or_ge k M with h2 | h2
      · exact e6 _ _ (h1.vB k o d h2 k2 k3 k4)
      · rcases Nat.lt_or_ge k m with h4 | h4
        · rw [hall k h2 h4] at k4; cases k4
        · obtain ⟨_, _, u3⟩ := tr_frame T.step h4 (by omega) fun k' q' g1' g2' g3' => g3 k' q' g1' (by omega) g3'
          rw [u3 d fun k' q' g1' g2' g3' g4' => by have := hD.dst k o k' q' d k2 g3' k3 g4'; omega]
          rw [e7 d fun k' q' g1' g2' g3' g4' => by have := hD.dst k o k' q' d k2 g3' k3 g4'; omega]
          exact e6 _ _ (h1.vC d fun k' q' g1' g2' => by
            have := hD.dst k o k' q' d k2 g1' k3 g2'
            subst this
            exact ⟨fun e => by omega, fun e => by rw [k4] at e; cases e⟩)
    · rw [f3 d fun k o k1 k2 k3 k4 => by have := (hd k o k3 k4).1 k2; rw [h1.post k (by omega)] at this; cases this]
      by_cases hgw : ∃ (k : Nat) (q : Oper), M ≤ k ∧ k < m ∧ ops.toList[k]? = some q ∧ q.dst = some d
      · obtain ⟨k, q, k1, k2, k3, k4⟩ := hgw
        exact e8 k q d k1 k2 k3 k4
      · rw [e7 d fun k' q' g1' g2' g3' g4' => hgw ⟨k', q', g1', g2', g3', g4'⟩]
        refine e6 _ _ (h1.vC d fun k q k1 k2 => ?_)
        have h5 := hd k q k1 k2
        constructor
        · intro e; exact h5.1 (by omega)
        · intro e
          have := h5.2 e
          rcases Nat.lt_or_ge k M with h6 | h6
          · exact h6
          · rcases Nat.lt_or_ge k m with h7 | h7
            · exact absurd ⟨k, q, h6, h7, k1, k2⟩ hgw
            · rw [h1.post k (by omega)] at e; cases e

theorem draw_rule (hE : EnvOk P E) : ∀ C, CalOk P E C → DrawRule P E C := by
  intro C hC ops id c0 c st a R K r Q hk h hQ
  rcases hk with ⟨h1, h2⟩ | ⟨h1, h2⟩ | ⟨s, m, h1, h2⟩
  · exact draw_rule1 hE hC ops id c0 c st a K r Q h1 h h2 hQ
  · exact draw_rule2 hE hC ops id c0 c st a K r Q h1 h h2 hQ
  · exact draw_rule3 hE hC ops id c0 c st a K r Q h1 h h2 hQ
theorem den_cal (hE : EnvOk P E) : CalOk P E (denC E) := den_ok hE (draw_rule hE)
end Go.Proofs.YtkicholhkoahhaaIT
