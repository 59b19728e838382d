/- Regions and code hang on finitely many calls; functions as limits. No condition beyond what each theorem states. -/
import Derived.Test.YtkicholhkoahhaaItW
import Derived.Test.YtkicholhkoahhaaItU
namespace Go.Proofs.YtkicholhkoahhaaIT
open Go
variable {E : Env} {R : Type} {r : R}

theorem evOps_out {C : Cal} {Cn : Nat → Cal} (hC : CalEv C Cn) {ops : List Oper} : ∀ {l : List Oper} {st : St} {K : St → Option R}, evOps E C ops l st K = some r →
    ∃ s, K s = some r ∧ EV fun n => ∀ {R' : Type} (K' : St → Option R'), evOps E (Cn n) ops l st K' = K' s
  | [], st, K, h => ⟨st, h, .all fun n R' K' => rfl⟩
  | o :: rest, st, K, h => by
    have one : ∀ {st : St}, (evOp E C o st fun v st' => evOps E C ops rest (st'.put o.dst v) K) = some r →
        ∃ s, K s = some r ∧ EV fun n => ∀ {R' : Type} (K' : St → Option R'), (evOp E (Cn n) o st fun v st' => evOps E (Cn n) ops rest (st'.put o.dst v) K') = K' s := by
      intro st h
      obtain ⟨v, s1, h1, h2⟩ := evOp_out hC h
      obtain ⟨s, h3, h4⟩ := evOps_out hC h1
      exact ⟨s, h3, h2.and h4 fun n g1 g2 R' K' => by rw [g1, g2]⟩
    unfold evOps at h
    cases hg : o.guard with
    | none =>
      rw [hg] at h
      simp only at h
      obtain ⟨s, h1, h2⟩ := one h
      exact ⟨s, h1, h2.mono fun n hn R' K' => by unfold evOps; rw [hg]; exact hn K'⟩
    | some q =>
      obtain ⟨j, want⟩ := q
      rw [hg] at h
      simp only at h
      split at h <;> try (cases h; done)
      rename_i d hd
      split at h <;> try (cases h; done)
      · rename_i y hy
        by_cases hw : (y == want) = true
        · rw [hw, cond_true] at h
          obtain ⟨s, h1, h2⟩ := one h
          exact ⟨s, h1, h2.mono fun n hn R' K' => by unfold evOps; rw [hg]; simp only [hd, hy, hw, cond_true]; exact hn K'⟩
        · have hw' : (y == want) = false := by simpa using hw
          rw [hw', cond_false] at h
          obtain ⟨s, h1, h2⟩ := evOps_out hC h
          exact ⟨s, h1, h2.mono fun n hn R' K' => by unfold evOps; rw [hg]; simp only [hd, hy, hw', cond_false]; exact hn K'⟩
      · rename_i hy
        obtain ⟨s, h1, h2⟩ := evOps_out hC h
        exact ⟨s, h1, h2.mono fun n hn R' K' => by unfold evOps; rw [hg]; simp only [hd, hy]; exact hn K'⟩

theorem evOpsD_out {C : Cal} {Cn : Nat → Cal} (hC : CalEv C Cn) {ops : List Oper} {b : List Nat} : ∀ {l : List Oper} {i : Nat} {st : St} {K : St → Option R}, evOpsD E C ops b i l st K = some r →
    ∃ s, K s = some r ∧ EV fun n => ∀ {R' : Type} (K' : St → Option R'), evOpsD E (Cn n) ops b i l st K' = K' s
  | [], i, st, K, h => ⟨st, h, .all fun n R' K' => rfl⟩
  | o :: rest, i, st, K, h => by
    simp only [evOpsD] at h ⊢
    split at h <;> try (cases h; done)
    rename_i hs
    obtain ⟨s1, h1, h2⟩ := evOps_out hC h
    obtain ⟨s, h3, h4⟩ := evOpsD_out hC h1
    exact ⟨s, h3, h2.and h4 fun n g1 g2 R' K' => by rw [if_pos hs, g1]; exact g2 K'⟩

def pairK : Ex → St → Option (Ex × St) := fun e s => some (e, s)

/-- How loops stand to each other. -/
def LpEv (LP : Lop) (LPn : Nat → Lop) : Prop := ∀ (F : St → Option (Ex × St)) (Fn : Nat → St → Option (Ex × St)), (∀ s q, F s = some q → EV fun n => Fn n s = some q) → ∀ st q, LP F st = some q → EV fun n => LPn n (Fn n) st = some q

theorem cut_out {R : Type} {r : R} {st : St} {q : Option (List Nat × Nat)} {K : St → Option R} (h : st.cut q K = some r) : ∃ s, K s = some r ∧ ∀ {R' : Type} (K' : St → Option R'), st.cut q K' = K' s := by
  unfold St.cut at h ⊢
  cases q with
  | none => exact ⟨st, h, fun _ => rfl⟩
  | some q =>
    simp only at h ⊢
    split at h
    · rename_i hm
      split at h <;> try (cases h; done)
      rename_i hk
      exact ⟨_, h, fun _ => by rw [if_pos hm, if_pos hk]⟩
    · rename_i hm
      split at h <;> try (cases h; done)
      rename_i hk
      exact ⟨_, h, fun _ => by rw [if_neg hm, if_pos hk]⟩
theorem cut_bind {R : Type} (st : St) (q : Option (List Nat × Nat)) (K : St → Option R) : st.cut q K = (st.cut q some).bind K := by
  unfold St.cut
  cases q with
  | none => rfl
  | some q =>
    simp only
    split <;> split <;> rfl

theorem evC_out {C : Cal} {Cn : Nat → Cal} {LP : Lop} {LPn : Nat → Lop} {kp : List (Nat × List Nat × Nat)} (hC : CalEv C Cn) (hL : LpEv LP LPn) :
    ∀ (c : Code) {R : Type} {r : R} {st : St} {K : Ex → St → Option R}, evC E C LP kp c st K = some r → ∃ e s, K e s = some r ∧ EV fun n => ∀ {R' : Type} (K' : Ex → St → Option R'), evC E (Cn n) (LPn n) kp c st K' = K' e s := by
  intro c
  induction c with
  | skip => intro R r st K h; exact ⟨_, _, h, .all fun n R' K' => rfl⟩
  | exit id => intro R r st K h; exact ⟨_, _, h, .all fun n R' K' => rfl⟩
  | ret => intro R r st K h; exact ⟨_, _, h, .all fun n R' K' => rfl⟩
  | region id ops draw =>
    intro R r st K h
    simp only [evC] at h ⊢
    obtain ⟨st1, h, hcut⟩ := cut_out h
    split at h
    · rename_i hd
      obtain ⟨s, h1, h2⟩ := evOps_out hC h
      exact ⟨_, s, h1, h2.mono fun n hn R' K' => by rw [hcut, if_pos hd]; exact hn _⟩
    · rename_i hd
      split at h
      · rename_i hd2
        obtain ⟨s, h1, h2⟩ := evOpsD_out hC h
        exact ⟨_, s, h1, h2.mono fun n hn R' K' => by rw [hcut, if_neg hd, if_pos hd2]; exact hn _⟩
      · rename_i hd2
        split at h <;> try (cases h; done)
        rename_i s0 hs0
        obtain ⟨s, h1, h2⟩ := evOpsD_out hC h
        exact ⟨_, s, h1, h2.mono fun n hn R' K' => by rw [hcut, if_neg hd, if_neg hd2]; exact hn _⟩
  | seq x y ihx ihy =>
    intro R r st K h
    simp only [evC] at h ⊢
    obtain ⟨e, s, h1, h2⟩ := ihx h
    cases e with
    | normal =>
      obtain ⟨e', s', h3, h4⟩ := ihy h1
      exact ⟨e', s', h3, h2.and h4 fun n g1 g2 R' K' => by rw [g1]; exact g2 K'⟩
    | exit id => exact ⟨_, s, h1, h2.mono fun n g1 R' K' => by rw [g1]⟩
    | ret => exact ⟨_, s, h1, h2.mono fun n g1 R' K' => by rw [g1]⟩
  | cond c x y ihx ihy =>
    intro R r st K h
    simp only [evC] at h ⊢
    split at h <;> try (cases h; done)
    rename_i b hb
    split at h
    · cases b with
      | true =>
        obtain ⟨e, s, h1, h2⟩ := ihx h
        exact ⟨e, s, h1, h2.mono fun n g1 R' K' => by simp only [cond_true]; exact g1 K'⟩
      | false =>
        obtain ⟨e, s, h1, h2⟩ := ihy h
        exact ⟨e, s, h1, h2.mono fun n g1 R' K' => by simp only [cond_false]; exact g1 K'⟩
    · rename_i hnt
      cases b with
      | true =>
        obtain ⟨e, s, h1, h2⟩ := ihx h
        refine ⟨e, s, h1, h2.mono fun n g1 R' K' => ?_⟩
        exact g1 K'
      | false =>
        obtain ⟨e, s, h1, h2⟩ := ihy h
        refine ⟨e, s, h1, h2.mono fun n g1 R' K' => ?_⟩
        exact g1 K'
  | block id x ih =>
    intro R r st K h
    simp only [evC] at h ⊢
    obtain ⟨e, s, h1, h2⟩ := ih h
    cases e with
    | normal => exact ⟨_, s, h1, h2.mono fun n g1 R' K' => by rw [g1]⟩
    | exit id' =>
      simp only at h1
      by_cases hid : id' = id
      · rw [if_pos hid] at h1
        exact ⟨_, s, h1, h2.mono fun n g1 R' K' => by rw [g1]; simp only [hid, if_true]⟩
      · rw [if_neg hid] at h1
        exact ⟨_, s, h1, h2.mono fun n g1 R' K' => by rw [g1]; simp only; rw [if_neg hid]⟩
    | ret => exact ⟨_, s, h1, h2.mono fun n g1 R' K' => by rw [g1]⟩
  | loop x ih =>
    intro R r st K h
    simp only [evC] at h ⊢
    obtain ⟨st1, h, hcut⟩ := cut_out h
    obtain ⟨q, h1, h2⟩ := Option.bind_eq_some_iff.1 h
    refine ⟨q.1, q.2, h2, (hL _ (fun n s => evC E (Cn n) (LPn n) kp x s (rnd (lookAt x kp))) (fun s q hq => ?_) st1 q h1).mono fun n hn R' K' => by rw [hcut, hn]; rfl⟩
    obtain ⟨e, s', h3, h4⟩ := ih hq
    exact h4.mono fun n hn => by rw [hn]; exact h3
  | _ => intro R r st K h; simp [evC] at h

theorem evRes_out {st : St} : ∀ {rs : List ResultVar} {R : Type} {r : R} {K : List AV → Option R}, evRes E st rs K = some r → ∃ vs, K vs = some r ∧ ∀ {R' : Type} (K' : List AV → Option R'), evRes E st rs K' = K' vs
  | [], R, r, K, h => ⟨[], h, fun K' => rfl⟩
  | .tmp t :: rs, R, r, K, h => by
    simp only [evRes] at h ⊢
    obtain ⟨vs, h1, h2⟩ := evRes_out h
    exact ⟨_, h1, fun K' => by rw [h2]⟩
  | .cell a t :: rs, R, r, K, h => by
    simp only [evRes] at h ⊢
    obtain ⟨v, h1, h2⟩ := evLoad_out h
    obtain ⟨vs, h3, h4⟩ := evRes_out h1
    exact ⟨_, h3, fun K' => by rw [h2, h4]⟩

theorem CalEv.const (C : Cal) : CalEv C (fun _ => C) := ⟨fun _ _ _ _ h => .all fun _ => h, fun _ _ _ _ h => .all fun _ => h⟩
theorem evBody_lift {C : Cal} {Cn : Nat → Cal} {LP : Lop} {LPn : Nat → Lop} (hC : CalEv C Cn) (hL : LpEv LP LPn) {g : Nat} {a i : List AV} {r : AV} (h : evBody E C LP g a i = some r) :
    EV fun n => evBody E (Cn n) (LPn n) g a i = some r := by
  unfold evBody at h ⊢
  split at h
  · exact .all fun n => h
  split at h <;> try (cases h; done)
  rename_i fi hfi
  split at h <;> try (cases h; done)
  obtain ⟨e, s, h1, h2⟩ := evC_out hC hL _ h
  exact h2.mono fun n hn => by rw [hn]; exact h1
theorem evBodyO_lift {C : Cal} {Cn : Nat → Cal} {LP : Lop} {LPn : Nat → Lop} (hC : CalEv C Cn) (hL : LpEv LP LPn) {g : Nat} {a : List AV} {i : List Root} {r : AV × List Root} (h : evBodyO E C LP g a i = some r) :
    EV fun n => evBodyO E (Cn n) (LPn n) g a i = some r := by
  unfold evBodyO at h ⊢
  split at h
  · exact .all fun n => h
  split at h <;> try (cases h; done)
  rename_i fi hfi
  split at h <;> try (cases h; done)
  rename_i oi hoi
  split at h <;> try (cases h; done)
  rename_i hkp
  obtain ⟨e, s, h1, h2⟩ := evC_out hC hL _ h
  exact h2.mono fun n hn => by rw [if_pos hkp, hn]; exact h1

/-! Functions as limits. -/
noncomputable def lim {α : Type} (s : Nat → Option α) : Option α :=
  open Classical in if h : ∃ r n, s n = some r then some (Classical.choose h) else none
theorem lim_spec {α : Type} {s : Nat → Option α} (hm : ∀ n r, s n = some r → s (n + 1) = some r) (r : α) : lim s = some r ↔ ∃ n, s n = some r := by
  have up : ∀ k n r, s n = some r → s (n + k) = some r := by
    intro k
    induction k with
    | zero => intro n r h; exact h
    | succ k ih => intro n r h; exact hm _ _ (ih n r h)
  have uniq : ∀ n m r r', s n = some r → s m = some r' → r = r' := by
    intro n m r r' h h'
    have h1 := up m n r h
    have h2 := up n m r' h'
    rw [Nat.add_comm] at h2
    rw [h1] at h2
    exact Option.some.inj h2
  unfold lim
  split
  · rename_i h
    obtain ⟨n, hn⟩ := Classical.choose_spec h
    constructor
    · intro h'; cases h'; exact ⟨n, hn⟩
    · rintro ⟨m, hm'⟩; exact congrArg some (uniq _ _ _ _ hn hm')
  · rename_i h
    constructor
    · intro h'; cases h'
    · rintro ⟨n, hn⟩; exact absurd ⟨r, n, hn⟩ h

theorem loopN_mono {F F' : St → Option (Ex × St)} (hF : ∀ s q, F s = some q → F' s = some q) : ∀ {n m : Nat} {st : St} {q : Ex × St}, n ≤ m → loopN n F st = some q → loopN m F' st = some q
  | 0, _, _, _, _, h => by cases h
  | n + 1, 0, _, _, hnm, _ => by omega
  | n + 1, m + 1, st, q, hnm, h => by
    simp only [loopN] at h ⊢
    cases hs : F st with
    | none => rw [hs] at h; cases h
    | some p =>
      rw [hs] at h
      rw [hF _ _ hs]
      obtain ⟨e, s⟩ := p
      cases e with
      | normal => exact loopN_mono hF (by omega) h
      | exit id => exact h
      | ret => exact h
noncomputable def loopD : Lop := fun F st => lim fun n => loopN n F st
theorem loopD_spec {F : St → Option (Ex × St)} {st : St} {q : Ex × St} : loopD F st = some q ↔ ∃ n, loopN n F st = some q :=
  lim_spec (fun n _ h => loopN_mono (fun _ _ h => h) (Nat.le_succ n) h) q
theorem loopD_ok : LpOk loopD := fun _ _ _ h => loopD_spec.1 h
theorem loopN_ok (n : Nat) : LpOk (loopN n) := fun _ _ _ h => ⟨n, h⟩

theorem loop_ev_up : LpEv loopD loopN := by
  intro F Fn hF st q h
  obtain ⟨n, hn⟩ := loopD_spec.1 h
  clear h
  have key : EV fun k => loopN n (Fn k) st = some q := by
    induction n generalizing st with
    | zero => cases hn
    | succ n ih =>
      simp only [loopN] at hn ⊢
      cases hs : F st with
      | none => rw [hs] at hn; cases hn
      | some p =>
        rw [hs] at hn
        obtain ⟨e, s⟩ := p
        cases e with
        | normal => exact (hF _ _ hs).and (ih s hn) fun k g1 g2 => by rw [g1]; exact g2
        | exit id => exact (hF _ _ hs).mono fun k g1 => by rw [g1]; exact hn
        | ret => exact (hF _ _ hs).mono fun k g1 => by rw [g1]; exact hn
  obtain ⟨N, hN⟩ := key
  exact ⟨N + n, fun m hm => loopN_mono (fun _ _ h => h) (by omega) (hN m (by omega))⟩
theorem loop_ev_const : LpEv loopD (fun _ => loopD) := by
  intro F Fn hF st q h
  exact (loop_ev_up F Fn hF st q h).mono fun n hn => loopD_spec.2 ⟨n, hn⟩
theorem loop_ev_down (m : Nat) : LpEv (loopN m) (fun _ => loopD) := by
  intro F Fn hF st q h
  exact loop_ev_const F Fn hF st q (loopD_spec.2 ⟨m, h⟩)
theorem loop_ev_fix (m : Nat) : LpEv (loopN m) (fun _ => loopN (m + 1)) := by
  intro F Fn hF st q h
  have key : EV fun k => loopN m (Fn k) st = some q := by
    induction m generalizing st with
    | zero => cases h
    | succ n ih =>
      simp only [loopN] at h ⊢
      cases hs : F st with
      | none => rw [hs] at h; cases h
      | some p =>
        rw [hs] at h
        obtain ⟨e, s⟩ := p
        cases e with
        | normal => exact (hF _ _ hs).and (ih s h) fun k g1 g2 => by rw [g1]; exact g2
        | exit id => exact (hF _ _ hs).mono fun k g1 => by rw [g1]; exact h
        | ret => exact (hF _ _ hs).mono fun k g1 => by rw [g1]; exact h
  exact key.mono fun k hk => loopN_mono (fun _ _ h => h) (Nat.le_succ m) hk

def evF (E : Env) : Nat → Cal
  | 0 => ⟨fun _ _ _ => none, fun _ _ _ => none⟩
  | n + 1 => ⟨fun g a i => evBody E (evF E n) (loopN n) g a i, fun g a i => evBodyO E (evF E n) (loopN n) g a i⟩
theorem evF_mono : ∀ n, (∀ g a i r, (evF E n).p g a i = some r → (evF E (n + 1)).p g a i = some r) ∧ ∀ g a i r, (evF E n).o g a i = some r → (evF E (n + 1)).o g a i = some r := by
  intro n
  induction n with
  | zero => exact ⟨fun g a i r h => (by cases h), fun g a i r h => (by cases h)⟩
  | succ n ih =>
    have hc : CalEv (evF E n) (fun _ => evF E (n + 1)) := ⟨fun g a i r h => .all fun _ => ih.1 g a i r h, fun g a i r h => .all fun _ => ih.2 g a i r h⟩
    refine ⟨fun g a i r h => ?_, fun g a i r h => ?_⟩
    · obtain ⟨N, hN⟩ := evBody_lift (LPn := fun _ => loopN (n + 1)) hc (loop_ev_fix n) h
      exact hN N (Nat.le_refl _)
    · obtain ⟨N, hN⟩ := evBodyO_lift (LPn := fun _ => loopN (n + 1)) hc (loop_ev_fix n) h
      exact hN N (Nat.le_refl _)
/-- What functions come to on trees. -/
noncomputable def denC (E : Env) : Cal := ⟨fun g a i => lim fun n => (evF E n).p g a i, fun g a i => lim fun n => (evF E n).o g a i⟩
noncomputable abbrev den (E : Env) (g : Nat) (a i : List AV) : Option AV := (denC E).p g a i
noncomputable abbrev dno (E : Env) (g : Nat) (a : List AV) (i : List Root) : Option (AV × List Root) := (denC E).o g a i
theorem den_spec {g : Nat} {a i : List AV} {r : AV} : den E g a i = some r ↔ ∃ n, (evF E n).p g a i = some r := lim_spec (fun n r h => (evF_mono n).1 g a i r h) r
theorem dno_spec {g : Nat} {a : List AV} {i : List Root} {r : AV × List Root} : dno E g a i = some r ↔ ∃ n, (evF E n).o g a i = some r := lim_spec (fun n r h => (evF_mono n).2 g a i r h) r
theorem evF_up : ∀ {n m : Nat}, n ≤ m → (∀ {g : Nat} {a i : List AV} {r : AV}, (evF E n).p g a i = some r → (evF E m).p g a i = some r) ∧ ∀ {g : Nat} {a : List AV} {i : List Root} {r : AV × List Root}, (evF E n).o g a i = some r → (evF E m).o g a i = some r := by
  intro n m h
  induction h with
  | refl => exact ⟨id, id⟩
  | step _ ih => exact ⟨fun h => (evF_mono _).1 _ _ _ _ (ih.1 h), fun h => (evF_mono _).2 _ _ _ _ (ih.2 h)⟩
theorem den_ev : CalEv (denC E) (evF E) := ⟨fun _ _ _ _ h => by
  obtain ⟨n, hn⟩ := den_spec.1 h
  exact ⟨n, fun m hm => (evF_up hm).1 hn⟩, fun _ _ _ _ h => by
  obtain ⟨n, hn⟩ := dno_spec.1 h
  exact ⟨n, fun m hm => (evF_up hm).2 hn⟩⟩
theorem evF_den (n : Nat) : CalEv (evF E n) (fun _ => denC E) := ⟨fun _ _ _ _ h => .all fun _ => den_spec.2 ⟨n, h⟩, fun _ _ _ _ h => .all fun _ => dno_spec.2 ⟨n, h⟩⟩

/-- A function is what its body comes to. -/
theorem den_eq (g : Nat) (a i : List AV) : den E g a i = evBody E (denC E) loopD g a i := by
  apply Option.ext
  intro r
  constructor
  · intro h
    obtain ⟨n, hn⟩ := den_spec.1 h
    cases n with
    | zero => cases hn
    | succ n =>
      obtain ⟨N, hN⟩ := evBody_lift (LPn := fun _ => loopD) (evF_den n) (loop_ev_down n) hn
      exact hN N (Nat.le_refl _)
  · intro h
    obtain ⟨N, hN⟩ := evBody_lift (LPn := loopN) den_ev loop_ev_up h
    exact den_spec.2 ⟨N + 1, hN N (Nat.le_refl _)⟩
theorem dno_eq (g : Nat) (a : List AV) (i : List Root) : dno E g a i = evBodyO E (denC E) loopD g a i := by
  apply Option.ext
  intro r
  constructor
  · intro h
    obtain ⟨n, hn⟩ := dno_spec.1 h
    cases n with
    | zero => cases hn
    | succ n =>
      obtain ⟨N, hN⟩ := evBodyO_lift (LPn := fun _ => loopD) (evF_den n) (loop_ev_down n) hn
      exact hN N (Nat.le_refl _)
  · intro h
    obtain ⟨N, hN⟩ := evBodyO_lift (LPn := loopN) den_ev loop_ev_up h
    exact dno_spec.2 ⟨N + 1, hN N (Nat.le_refl _)⟩

theorem evC_bind {C : Cal} {LP : Lop} {kp : List (Nat × List Nat × Nat)} (hL : LpEv LP fun _ => LP) (c : Code) {R : Type} (st : St) (K : Ex → St → Option R) : evC E C LP kp c st K = (evC E C LP kp c st fun e s => some (e, s)).bind fun q => K q.1 q.2 := by
  apply Option.ext
  intro r
  constructor
  · intro h
    obtain ⟨e, s, h1, N, h2⟩ := evC_out (Cn := fun _ => C) (LPn := fun _ => LP) (.const _) hL c h
    rw [h2 N (Nat.le_refl _)]
    exact h1
  · intro h
    obtain ⟨q, h1, h2⟩ := Option.bind_eq_some_iff.1 h
    obtain ⟨e, s, h3, N, h4⟩ := evC_out (Cn := fun _ => C) (LPn := fun _ => LP) (.const _) hL c h1
    cases h3
    rw [h4 N (Nat.le_refl _)]
    exact h2

/-- A loop's round. -/
theorem loop_eq {C : Cal} {kp : List (Nat × List Nat × Nat)} (q : Option (List Nat × Nat)) (c : Code) {R : Type} (st : St) (K : Ex → St → Option R) :
    ((loopD (fun s => evC E C loopD kp c s (rnd q)) st).bind fun q => K q.1 q.2) =
      evC E C loopD kp c st fun e s => match e with
        | .normal => s.cut q fun s => (loopD (fun s => evC E C loopD kp c s (rnd q)) s).bind fun q => K q.1 q.2
        | e => K e s := by
  have one : loopD (fun s => evC E C loopD kp c s (rnd q)) st = (evC E C loopD kp c st (rnd q)).bind fun p => match p.1 with
      | .normal => loopD (fun s => evC E C loopD kp c s (rnd q)) p.2
      | _ => some p := by
    apply Option.ext
    intro r
    rw [loopD_spec]
    cases hF : evC E C loopD kp c st (rnd q) with
    | none =>
      constructor
      · rintro ⟨n, hn⟩
        cases n with
        | zero => cases hn
        | succ n => simp only [loopN, hF] at hn; cases hn
      · intro h; cases h
    | some p =>
      obtain ⟨e, s⟩ := p
      cases e with
      | normal =>
        simp only [Option.bind_some]
        rw [loopD_spec]
        constructor
        · rintro ⟨n, hn⟩
          cases n with
          | zero => cases hn
          | succ n => simp only [loopN, hF] at hn; exact ⟨n, hn⟩
        · rintro ⟨n, hn⟩
          exact ⟨n + 1, by simp only [loopN, hF]; exact hn⟩
      | exit id =>
        simp only [Option.bind_some]
        constructor
        · rintro ⟨n, hn⟩
          cases n with
          | zero => cases hn
          | succ n => simp only [loopN, hF] at hn; exact hn
        · intro h
          exact ⟨1, by simp only [loopN, hF]; exact h⟩
      | ret =>
        simp only [Option.bind_some]
        constructor
        · rintro ⟨n, hn⟩
          cases n with
          | zero => cases hn
          | succ n => simp only [loopN, hF] at hn; exact hn
        · intro h
          exact ⟨1, by simp only [loopN, hF]; exact h⟩
  rw [evC_bind loop_ev_const c st (fun e s => match e with
        | .normal => s.cut q fun s => (loopD (fun s => evC E C loopD kp c s (rnd q)) s).bind fun q => K q.1 q.2
        | e => K e s), one, evC_bind loop_ev_const c st (rnd q)]
  cases hF : evC E C loopD kp c st fun e s' => some (e, s') with
  | none => rfl
  | some p =>
    obtain ⟨e, s⟩ := p
    cases e with
    | normal =>
      simp only [Option.bind_some, rnd]
      rw [cut_bind s q fun s' => some (Ex.normal, s'), cut_bind s q fun s => (loopD (fun s => evC E C loopD kp c s (rnd q)) s).bind fun q => K q.1 q.2]
      cases s.cut q some <;> rfl
    | exit id => rfl
    | ret => rfl

/-- What a function comes to, the machine comes to. -/
theorem den_ok {P : Program} (hE : EnvOk P E) (hD : ∀ C, CalOk P E C → DrawRule P E C) : CalOk P E (denC E) := by
  have key : ∀ n, CalOk P E (evF E n) := by
    intro n
    induction n with
    | zero => exact ⟨fun g a r h => (by cases h), fun g a i r h => (by cases h)⟩
    | succ n ih => exact body_ok hE ih (hD _ ih) (loopN_ok n)
  refine ⟨fun g args r h => ?_, fun g args ins r h => ?_⟩
  · obtain ⟨n, hn⟩ := den_spec.1 h
    exact (key n).p g args r hn
  · obtain ⟨n, hn⟩ := dno_spec.1 h
    exact (key n).o g args ins r hn
end Go.Proofs.YtkicholhkoahhaaIT
