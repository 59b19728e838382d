/- What is laid into memory; new variables and rows. No condition beyond what each theorem states. -/
import Derived.Test.YtkicholhkoahhaaItG
namespace Go.Proofs.YtkicholhkoahhaaIT
open Go
variable {P : Program} {E : Env}

def Plain (y : AV) : Prop := (∀ e es, y ≠ .nw e es) ∧ (∀ cs, y ≠ .agg cs)

theorem V.inv_sl {c : Cx} {r : Nat} {w : Option (Nat × Nat)} {v : Value} (hm : Mem P c) (h : V P c (.sl r [] w) v) {mv rf nest : Bool} {te : Nat} {es : List AV} (hr : c.σ.getD r .dead = .live mv rf nest te es) :
    c.D r ∧ SlR P c.w (c.j r []) te es.length w v ∧ NodeC P c r [] te es := by
  cases h with
  | vi h => cases h
  | sl _ _ _ _ hlt hd h =>
    have h1 := h te es (nodeAt_live hr)
    refine ⟨hd, h1, ?_⟩
    rcases hm.node r [] te es hd (nodeAt_live hr) with h2 | ⟨_, h2⟩ | ⟨_, _, _, b, ents, clock, ks, h4, h5, _⟩
    · exact .inl h2
    · exact .inr h2
    · rw [h4] at h1
      obtain ⟨cap, cs, h6, _⟩ := h1
      rw [h5] at h6
      cases h6

/-- A row that is given up is only read from now on. -/
theorem freeze_ok {c : Cx} (hm : Mem P c) {r : Nat} {v : Value} {mv nest : Bool} {te : Nat} {es : List AV} (hr : c.σ.getD r .dead = .live mv false nest te es) (h : V P c (.sl r [] none) v) (hf : Flat es) {z : Nat} (hz : P.cellsOf te = z) :
    VI (c.set r .dead c.w).N c.w (.imm z es) v ∧ v.oneCell' = true := by
  obtain ⟨hd, hs, hn⟩ := V.inv_sl hm h hr
  rcases hn with ⟨rfl, hj⟩ | ⟨b, cs, cap, hj, h1, h2, h3, h4, h5⟩
  · rw [hj] at hs
    obtain ⟨_, _, A0, rfl⟩ := hs
    exact ⟨.imm0 _ _ _, rfl⟩
  · rw [hj] at hs
    obtain ⟨cap', cs', h6, h7, h8, h9, rfl⟩ := hs
    rw [h1] at h6
    cases h6
    have hnb : ¬ (c.set r .dead c.w).N b := by
      rintro (hF | ⟨r', p', n', hd', hn', hj'⟩)
      · exact (hm.out b hF).2 ⟨r, [], _, hd, nodeAt_live hr, hj⟩
      obtain ⟨hne, hn''⟩ := nodeAt_dead hn'
      exact hne (hm.inj r' p' r [] n' _ b hd' hd hn'' (nodeAt_live hr) hj' hj).1
    have k := (mem_dead P hm r).2
    refine ⟨.imm es ⟨b, 0, none⟩ cap' z (fun m t => cs.toList.getD (m * P.cellsOf te + t) undef) h8 hnb (Array.getElem?_eq_some_iff.1 h1).1 (fun m el hel => by rw [← hz]; exact (h5 m el hel).1) ?_ ?_, rfl⟩
    · intro m el t y hel hy
      obtain ⟨v, hv1, hv2, _⟩ := (h5 m el hel).2 t y hy
      have hv : cs.toList.getD (m * P.cellsOf te + t) undef = v := by rw [List.getD_eq_getElem?_getD, Array.getElem?_toList, hv1]; rfl
      rw [hv]
      refine ⟨?_, hv2⟩
      rw [Addr.add_mid, cell_of_row c.w b _ cs te (0, 0) h1, ← hz, Nat.zero_add]
      exact hv1
    · intro m el t y hel hy
      obtain ⟨v, hv1, hv2, hv3⟩ := (h5 m el hel).2 t y hy
      have hv : cs.toList.getD (m * P.cellsOf te + t) undef = v := by rw [List.getD_eq_getElem?_getD, Array.getElem?_toList, hv1]; rfl
      rw [hv]
      have hlit : litAt c.σ r [] = false := by unfold litAt; rw [hr]; rfl
      unfold CellR at hv3
      cases y with
      | nw te' es' => exact (hf m el t te' es' hel hy).elim
      | _ => simp only [hlit] at hv3; exact VI.gr k.toGr hv3

theorem V.one {c : Cx} {y : AV} {v : Value} (h : V P c y v) (hy : match y with | .i _ _ | .b _ | .s _ | .imm _ _ | .ip _ _ | .nilp | .nils | .fn _ _ => True | _ => False) : v.oneCell' = true := by
  cases h with
  | vi h => cases h <;> first | rfl | exact hy.elim
  | fn => rfl
  | _ => exact hy.elim

theorem V.vi_of {c : Cx} {y : AV} {v : Value} (h : V P c y v) (hy : match y with | .i _ _ | .b _ | .s _ | .imm _ _ | .ip _ _ | .nilp | .nils => True | _ => False) : VI c.N c.w y v := by
  cases h with
  | vi h => exact h
  | _ => exact hy.elim

mutual
/-- What refers to no root is only read. -/
theorem V.vi_fn {c : Cx} : ∀ {y : AV} {v : Value}, refsLt 0 y = true → V P c y v → VI c.N c.w y v
  | .sl _ _ _, _, h, _ => by simp [refsLt] at h
  | .pt _ _ _ _, _, h, _ => by simp [refsLt] at h
  | .agg cs, v, h, hv => by
    obtain ⟨vs, rfl, hl, hk⟩ := hv.inv_agg
    exact .agg cs vs hl (V.vi_fnL cs vs (by simpa [refsLt] using h) hk)
  | .tup cs, v, h, hv => by
    obtain ⟨vs, rfl, hl, hk⟩ := hv.inv_tup
    exact .tup cs vs hl (V.vi_fnL cs vs (by simpa [refsLt] using h) hk)
  | .fn g cs, v, h, hv => by
    obtain ⟨vs, rfl, hl, hk⟩ := hv.inv_fn
    exact .fn g cs vs hl (V.vi_fnL cs vs (by simpa [refsLt] using h) hk)
  | .i _ _, _, _, hv => hv.vi_of trivial
  | .b _, _, _, hv => hv.vi_of trivial
  | .s _, _, _, hv => hv.vi_of trivial
  | .imm _ _, _, _, hv => hv.vi_of trivial
  | .ip _ _, _, _, hv => hv.vi_of trivial
  | .nilp, _, _, hv => hv.vi_of trivial
  | .nils, _, _, hv => hv.vi_of trivial
  | .nw _ _, _, _, hv => by cases hv with | vi h => cases h
  | .u, _, _, hv => by cases hv with | vi h => exact h
  | .x, _, _, _ => .x _
theorem V.vi_fnL {c : Cx} : ∀ (cs : List AV) (vs : List Value), refsLtL 0 cs = true → (∀ (t : Nat) (y : AV) (v : Value), cs[t]? = some y → vs[t]? = some v → V P c y v) → ∀ (t : Nat) (y : AV) (v : Value), cs[t]? = some y → vs[t]? = some v → VI c.N c.w y v
  | [], _, _, _, t, _, _, h, _ => by simp at h
  | y0 :: cs, [], _, _, _, _, _, _, h => by simp at h
  | y0 :: cs, v0 :: vs, h, hk, t, y, v, hy, hv => by
    simp only [refsLtL, Bool.and_eq_true] at h
    cases t with
    | zero =>
      simp only [List.getElem?_cons_zero, Option.some.injEq] at hy hv
      subst hy; subst hv
      exact V.vi_fn h.1 (hk 0 y0 v0 rfl rfl)
    | succ t => exact V.vi_fnL cs vs h.2 (fun t y v h1 h2 => hk (t + 1) y v h1 h2) t y v (by simpa using hy) (by simpa using hv)
end

/-- The cells of a value that is laid into memory. -/
theorem mvIn_ok (allow : Bool) : ∀ (hs : List Sh) (cs : List AV) (σ : List Root) (c : Cx) (vs : List Value) (cs' : List AV) (σ1 : List Root), c.σ = σ → Mem P c →
    (∀ x ∈ hs, leafOk P x = true) → mvIn allow hs cs σ = some (cs', σ1) → cs.length = vs.length → (∀ (t : Nat) (y : AV) (v : Value), cs[t]? = some y → vs[t]? = some v → V P c y v) →
    ∃ c1 : Cx, c1.σ = σ1 ∧ c1.w = c.w ∧ c1.j = c.j ∧ c1.D = c.D ∧ Mem P c1 ∧ Kp c c1 ∧ cs'.length = vs.length ∧
      (∀ (t : Nat) (y : AV) (v : Value), cs'[t]? = some y → vs[t]? = some v → v.oneCell' = true ∧ Plain y ∧ if allow then V P c1 y v else VI c1.N c1.w y v) ∧
      (allow = true ∨ hs.all (fun h => !h.deep) = true → c1 = c) ∧ (∀ r, σ1.getD r .dead = .dead ∨ σ1.getD r .dead = σ.getD r .dead)
  | hs, [], σ, c, vs, cs', σ1, hσ, hm, hlf, h, hl, hv => by
    have h' : some (([] : List AV), σ) = some (cs', σ1) := by cases hs <;> simpa [mvIn] using h
    simp only [Option.some.injEq, Prod.mk.injEq] at h'
    obtain ⟨rfl, rfl⟩ := h'
    exact ⟨c, hσ, rfl, rfl, rfl, hm, Kp.refl c, hl, by simp, fun _ => rfl, fun _ => .inr rfl⟩
  | [], _ :: _, σ, c, vs, cs', σ1, _, _, _, h, _, _ => by simp [mvIn] at h
  | h0 :: hs, y0 :: cs, σ, c, vs, cs', σ1, hσ, hm, hlf, h, hl, hv => by
    obtain ⟨v0, vs, rfl⟩ : ∃ v0 vs', vs = v0 :: vs' := by cases vs with | nil => simp at hl | cons a b => exact ⟨a, b, rfl⟩
    have hl' : cs.length = vs.length := by simpa using hl
    have hv0 : V P c y0 v0 := hv 0 y0 v0 rfl rfl
    have hv' : ∀ (t : Nat) (y : AV) (v : Value), cs[t]? = some y → vs[t]? = some v → V P c y v := fun t y v h1 h2 => hv (t + 1) y v h1 h2
    -- one cell that stays as it is
    have keep : ∀ y1 : AV, Plain y1 → v0.oneCell' = true → V P c y1 v0 → (allow = false → VI c.N c.w y1 v0) → ((mvIn allow hs cs σ).map fun q => (y1 :: q.1, q.2)) = some (cs', σ1) →
        ∃ c1 : Cx, c1.σ = σ1 ∧ c1.w = c.w ∧ c1.j = c.j ∧ c1.D = c.D ∧ Mem P c1 ∧ Kp c c1 ∧ cs'.length = (v0 :: vs).length ∧
          (∀ (t : Nat) (y : AV) (v : Value), cs'[t]? = some y → (v0 :: vs)[t]? = some v → v.oneCell' = true ∧ Plain y ∧ if allow then V P c1 y v else VI c1.N c1.w y v) ∧
          (allow = true ∨ (h0 :: hs).all (fun h => !h.deep) = true → c1 = c) ∧ (∀ r, σ1.getD r .dead = .dead ∨ σ1.getD r .dead = σ.getD r .dead) := by
      intro y1 hp h1 hV hI hmap
      obtain ⟨⟨cs2, σ2⟩, hmv, he⟩ := Option.map_eq_some_iff.1 hmap
      simp only [Prod.mk.injEq] at he
      obtain ⟨rfl, rfl⟩ := he
      obtain ⟨c1, g1, g2, g3, g4, g5, g6, g7, g8, g9, g10⟩ := mvIn_ok allow hs cs σ c vs cs2 σ2 hσ hm (fun x hx => hlf x (List.mem_cons_of_mem _ hx)) hmv hl' hv'
      refine ⟨c1, g1, g2, g3, g4, g5, g6, by simp [g7], ?_, ?_, g10⟩
      · intro t y v hy hv
        cases t with
        | zero =>
          simp only [List.getElem?_cons_zero, Option.some.injEq] at hy hv
          subst hy; subst hv
          refine ⟨h1, hp, ?_⟩
          cases allow
          · exact VI.gr g6.toGr (hI rfl)
          · exact hV.kp P g6
        | succ t => exact g8 t y v (by simpa using hy) (by simpa using hv)
      · rintro (h | h)
        · exact g9 (.inl h)
        · simp only [List.all_cons, Bool.and_eq_true] at h; exact g9 (.inr h.2)
    unfold mvIn at h
    split at h
    · -- nil
      split at h
      · obtain ⟨A0, rfl⟩ := hv0.inv_nils
        refine keep _ ?_ rfl ?_ ?_ h
        · cases allow <;> exact ⟨by simp, by simp⟩
        · cases allow
          · exact .vi (.imm0 _ _ _)
          · exact .vi (.nils _)
        · rintro rfl; exact .imm0 _ _ _
      · cases h
    · -- a slice of the call's own
      rename_i r p w
      split at h
      · rename_i ha
        split at h
        · rename_i hr
          refine keep _ ⟨by simp, by simp⟩ ?_ hv0 (by simp [ha]) h
          rw [← hσ] at hr
          obtain ⟨_, hs, _⟩ := V.inv_sl hm hv0 hr
          cases hj : c.j r [] with
          | none => rw [hj] at hs; obtain ⟨_, _, A0, rfl⟩ := hs; rfl
          | some b =>
            rw [hj] at hs
            obtain ⟨_, _, _, _, _, _, hs⟩ := hs
            cases w with
            | none => simp only at hs; rw [hs]; rfl
            | some q => obtain ⟨_, A, hs, _⟩ := hs; rw [hs]; rfl
        · cases h
      · rename_i ha
        split at h
        · rename_i e z
          split at h
          · split at h
            · rename_i e' es hr
              split at h
              · rename_i hee
                subst hee
                rw [← hσ] at hr
                have hz : P.cellsOf e' = z := by simpa [leafOk] using hlf _ (List.mem_cons_self)
                obtain ⟨f1, f2⟩ := freeze_ok hm hr hv0 (hm.flat _ _ _ _ _ hr) hz
                obtain ⟨md, kd⟩ := mem_dead P hm r
                obtain ⟨⟨cs2, σ2⟩, hmv, he⟩ := Option.map_eq_some_iff.1 h
                simp only [Prod.mk.injEq] at he
                obtain ⟨rfl, rfl⟩ := he
                have hgd : ∀ r', (σ.set r .dead).getD r' .dead = .dead ∨ (σ.set r .dead).getD r' .dead = σ.getD r' .dead := fun r' => by
                  by_cases h : r = r'
                  · subst h; left; rw [getD_set_eq _ _ _ _ (by rw [← hσ]; exact lt_of_live hr)]
                  · right; rw [getD_set_ne _ _ _ _ _ h]
                obtain ⟨c1, g1, g2, g3, g4, g5, g6, g7, g8, g9, g10⟩ := mvIn_ok allow hs cs (σ.set r .dead) (c.set r .dead c.w) vs cs2 σ2 (by simp [Cx.set, hσ]) md
                  (fun x hx => hlf x (List.mem_cons_of_mem _ hx)) hmv hl' (fun t y v h1 h2 => (hv' t y v h1 h2).kp P kd)
                refine ⟨c1, g1, g2, g3, g4, g5, kd.trans g6, by simp [g7], ?_, ?_, fun r' => by rcases g10 r' with h1 | h1 <;> first | exact .inl h1 | (rw [h1]; exact hgd r')⟩
                · intro t y v hy hv
                  cases t with
                  | zero =>
                    simp only [List.getElem?_cons_zero, Option.some.injEq] at hy hv
                    subst hy; subst hv
                    refine ⟨f2, ⟨by simp, by simp⟩, ?_⟩
                    rw [if_neg ha]
                    exact VI.gr g6.toGr f1
                  | succ t => exact g8 t y v (by simpa using hy) (by simpa using hv)
                · rintro (h | h)
                  · exact absurd h ha
                  · simp [Sh.deep] at h
              · cases h
            · cases h
          · cases h
        · cases h
    · -- a pointer
      split at h
      · rename_i ha
        split at h
        · rename_i hr
          refine keep _ ⟨by simp, by simp⟩ ?_ hv0 (by simp [ha]) h
          rw [← hσ] at hr
          obtain ⟨_, _, b, _, _, _, _, hs, _⟩ := V.inv_pt hm hv0 hr
          rw [hs]; rfl
        · cases h
      · cases h
    · -- a function value
      rename_i g l
      split at h
      · rename_i ha
        refine keep _ ⟨by simp, by simp⟩ (hv0.one trivial) hv0 (fun hf => ?_) h
        rw [hf] at ha
        simp only [Bool.false_or] at ha
        exact V.vi_fn (by simpa [refsLt] using ha) hv0
      · cases h
    · exact keep _ ⟨by simp, by simp⟩ (hv0.one trivial) hv0 (fun _ => hv0.vi_of trivial) h
    · exact keep _ ⟨by simp, by simp⟩ (hv0.one trivial) hv0 (fun _ => hv0.vi_of trivial) h
    · exact keep _ ⟨by simp, by simp⟩ (hv0.one trivial) hv0 (fun _ => hv0.vi_of trivial) h
    · exact keep _ ⟨by simp, by simp⟩ (hv0.one trivial) hv0 (fun _ => hv0.vi_of trivial) h
    · exact keep _ ⟨by simp, by simp⟩ (hv0.one trivial) hv0 (fun _ => hv0.vi_of trivial) h
    · exact keep _ ⟨by simp, by simp⟩ (hv0.one trivial) hv0 (fun _ => hv0.vi_of trivial) h
    · cases h
end Go.Proofs.YtkicholhkoahhaaIT
