/- What an operation's evaluation comes to does not hang on what is done with it, and on finitely many calls. No condition beyond what each theorem states. -/
import Derived.Test.YtkicholhkoahhaaItV
namespace Go.Proofs.YtkicholhkoahhaaIT
open Go
variable {E : Env} {R : Type} {r : R}

/-- From some number on. -/
def EV (p : Nat → Prop) : Prop := ∃ N, ∀ n, N ≤ n → p n
theorem EV.all {p : Nat → Prop} (h : ∀ n, p n) : EV p := ⟨0, fun n _ => h n⟩
theorem EV.and {p q s : Nat → Prop} (hp : EV p) (hq : EV q) (h : ∀ n, p n → q n → s n) : EV s := by
  obtain ⟨a, ha⟩ := hp
  obtain ⟨b, hb⟩ := hq
  exact ⟨a + b, fun n hn => h n (ha n (by omega)) (hb n (by omega))⟩
theorem EV.mono {p q : Nat → Prop} (hp : EV p) (h : ∀ n, p n → q n) : EV q := by
  obtain ⟨a, ha⟩ := hp
  exact ⟨a, fun n hn => h n (ha n hn)⟩

theorem evOp_out0 {C : Cal} {o : Oper} {st : St} {K : AV → St → Option R} (hc : ∀ cl, o.op ≠ .call cl) (h : evOp E C o st K = some r) :
    ∃ v s, K v s = some r ∧ ∀ (C' : Cal) {R' : Type} (K' : AV → St → Option R'), evOp E C' o st K' = K' v s := by
  unfold evOp at h ⊢
  split at h
  · exact ⟨_, _, h, fun _ _ K' => by simp_all⟩
  · split at h
    · split at h <;> try (cases h; done)
      exact ⟨_, _, h, fun _ _ K' => by simp_all⟩
    · exact ⟨_, _, h, fun _ _ K' => by simp_all⟩
  · split at h <;> try (cases h; done)
    rename_i b hb
    cases b <;> exact ⟨_, _, h, fun _ _ K' => by simp_all⟩
  · split at h <;> try (cases h; done)
    split at h
    · exact ⟨_, _, h, fun _ _ K' => by simp_all⟩
    · exact ⟨_, _, h, fun _ _ K' => by simp_all⟩
  · obtain ⟨a, s, h1, h2⟩ := evBox_out h
    exact ⟨a, s, h1, fun _ _ K' => by simp_all⟩
  · split at h <;> try (cases h; done)
    split at h <;> try (cases h; done)
    exact ⟨_, _, h, fun _ _ K' => by simp_all⟩
  · split at h <;> try (cases h; done)
    split at h <;> try (cases h; done)
    split at h
    · exact ⟨_, _, h, fun _ _ K' => by simp_all⟩
    split at h <;> try (cases h; done)
    rename_i hok
    split at h <;> try (cases h; done)
    refine ⟨_, _, h, fun _ _ K' => ?_⟩
    simp only [*, if_true]
    rfl
  · obtain ⟨v, h1, h2⟩ := evLoad_out h
    exact ⟨v, _, h1, fun _ _ K' => by simp_all⟩
  · obtain ⟨s, h1, h2⟩ := evStoreN_out h
    exact ⟨_, s, h1, fun _ _ K' => by simp_all⟩
  · split at h <;> try (cases h; done)
    · split at h <;> try (cases h; done)
      split at h <;> try (cases h; done)
      exact ⟨_, _, h, fun _ _ K' => by simp_all⟩
    · exact ⟨_, _, h, fun _ _ K' => by simp_all⟩
    · exact ⟨_, _, h, fun _ _ K' => by simp_all⟩
  · obtain ⟨v, h1, h2⟩ := evBinA_out h
    exact ⟨v, _, h1, fun _ _ K' => by simp_all⟩
  · obtain ⟨v, h1, h2⟩ := evUn_out h
    exact ⟨v, _, h1, fun _ _ K' => by simp_all⟩
  · split at h <;> try (cases h; done)
    · split at h <;> try (cases h; done)
      split at h <;> try (cases h; done)
      exact ⟨_, _, h, fun _ _ K' => by simp_all⟩
    · split at h <;> try (cases h; done)
      · split at h <;> try (cases h; done)
        exact ⟨_, _, h, fun _ _ K' => by simp_all⟩
      · split at h <;> try (cases h; done)
        split at h <;> try (cases h; done)
        split at h <;> try (cases h; done)
        split at h <;> try (cases h; done)
        exact ⟨_, _, h, fun _ _ K' => by simp_all⟩
  · split at h <;> try (cases h; done)
    exact ⟨_, _, h, fun _ _ K' => by simp_all⟩
  · split at h <;> try (cases h; done)
    split at h <;> try (cases h; done)
    split at h <;> try (cases h; done)
    split at h <;> try (cases h; done)
    exact ⟨_, _, h, fun _ _ K' => by simp_all⟩
  · split at h <;> try (cases h; done)
    · split at h <;> try (cases h; done)
      split at h <;> try (cases h; done)
      split at h <;> try (cases h; done)
      obtain ⟨v, h1, h2⟩ := evSlice_out h
      exact ⟨v, _, h1, fun _ _ K' => by simp_all⟩
    · split at h <;> try (cases h; done)
      obtain ⟨v, h1, h2⟩ := evSlice_out h
      exact ⟨v, _, h1, fun _ _ K' => by simp_all⟩
  · split at h <;> try (cases h; done)
    split at h <;> try (cases h; done)
    split at h <;> try (cases h; done)
    split at h <;> try (cases h; done)
    split at h <;> try (cases h; done)
    split at h <;> try (cases h; done)
    · split at h <;> try (cases h; done)
      exact ⟨_, _, h, fun _ _ K' => by simp_all⟩
    · exact ⟨_, _, h, fun _ _ K' => by simp_all⟩
  · split at h <;> try (cases h; done)
    split at h <;> try (cases h; done)
    split at h <;> try (cases h; done)
    split at h <;> try (cases h; done)
    split at h <;> try (cases h; done)
    split at h <;> try (cases h; done)
    exact ⟨_, _, h, fun _ _ K' => by simp_all⟩
  · split at h <;> try (cases h; done)
    split at h <;> try (cases h; done)
    split at h <;> try (cases h; done)
    obtain ⟨v, h1, h2⟩ := evIndexAddr_out h
    exact ⟨v, _, h1, fun _ _ K' => by simp_all⟩
  · split at h <;> try (cases h; done)
    split at h <;> try (cases h; done)
    split at h <;> try (cases h; done)
    split at h <;> try (cases h; done)
    exact ⟨_, _, h, fun _ _ K' => by simp_all⟩
  · split at h <;> try (cases h; done)
    split at h <;> try (cases h; done)
    exact ⟨_, _, h, fun _ _ K' => by simp_all⟩
  · obtain ⟨a, s, h1, h2⟩ := evMk_out h
    exact ⟨a, s, h1, fun _ _ K' => by simp_all⟩
  · obtain ⟨v, h1, h2⟩ := evLk_out h
    exact ⟨v, _, h1, fun _ _ K' => by simp_all⟩
  · obtain ⟨a, s, h1, h2⟩ := evUp_out h
    exact ⟨a, s, h1, fun _ _ K' => by simp_all⟩
  · rename_i cl ho
    exact absurd ho (hc cl)
  · cases h

/-- Callees that hang on finitely many calls. -/
structure CalEv (C : Cal) (Cn : Nat → Cal) : Prop where
  p : ∀ g a i r, C.p g a i = some r → EV fun n => (Cn n).p g a i = some r
  o : ∀ g a i r, C.o g a i = some r → EV fun n => (Cn n).o g a i = some r
theorem evOwn_out {C : Cal} {Cn : Nat → Cal} {g : Nat} {fi : FI} {args : List AV} {st : St} {K : AV → St → Option R} (hC : CalEv C Cn) (h : evOwn E C g fi args st K = some r) :
    ∃ v s, K v s = some r ∧ EV fun n => ∀ {R' : Type} (K' : AV → St → Option R'), evOwn E (Cn n) g fi args st K' = K' v s := by
  unfold evOwn at h
  simp only at h
  generalize hms : fi.muts.map (·.1) = ms at h
  generalize hrs : reach st.σ 64 (refsOfL (pickArgs ms 0 args)) [] = rs at h
  split at h <;> try (cases h; done)
  rename_i hok
  split at h <;> try (cases h; done)
  rename_i oi hoi
  obtain ⟨q, hq, h⟩ := Option.bind_eq_some_iff.1 h
  split at h <;> try (cases h; done)
  rename_i hsh
  split at h <;> try (cases h; done)
  rename_i hol
  refine ⟨_, _, h, (hC.o _ _ _ _ hq).mono fun n hn R' K' => ?_⟩
  unfold evOwn
  simp only [hms, hrs, hoi, hn, Option.bind_some]
  rw [if_pos hok, if_pos hsh, if_pos hol]
/-- One or finitely many calls. -/
theorem evOp_out {C : Cal} {Cn : Nat → Cal} {o : Oper} {st : St} {K : AV → St → Option R} (hC : CalEv C Cn) (h : evOp E C o st K = some r) :
    ∃ v s, K v s = some r ∧ EV fun n => ∀ {R' : Type} (K' : AV → St → Option R'), evOp E (Cn n) o st K' = K' v s := by
  by_cases hc : ∃ cl, o.op = .call cl
  · obtain ⟨cl, ho⟩ := hc
    unfold evOp at h
    rw [ho] at h
    simp only at h
    split at h
    · rename_i bi hcl
      split at h <;> try (cases h; done)
      · split at h <;> try (cases h; done)
        · split at h <;> try (cases h; done)
          exact ⟨_, _, h, .all fun n R' K' => by unfold evOp; simp_all⟩
        · split at h <;> try (cases h; done)
          split at h <;> try (cases h; done)
          exact ⟨_, _, h, .all fun n R' K' => by unfold evOp; simp_all⟩
      · split at h <;> try (cases h; done)
        obtain ⟨v, s, h1, h2⟩ := evAppend_out h
        exact ⟨v, s, h1, .all fun n R' K' => by unfold evOp; simp_all⟩
      · split at h <;> try (cases h; done)
        split at h <;> try (cases h; done)
        split at h <;> try (cases h; done)
        split at h <;> try (cases h; done)
        split at h <;> try (cases h; done)
        split at h <;> try (cases h; done)
        exact ⟨_, _, h, .all fun n R' K' => by unfold evOp; simp_all⟩
      · split at h <;> try (cases h; done)
        · split at h <;> try (cases h; done)
          exact ⟨_, _, h, .all fun n R' K' => by unfold evOp; simp_all⟩
        · split at h <;> try (cases h; done)
          exact ⟨_, _, h, .all fun n R' K' => by unfold evOp; simp_all⟩
      · split at h <;> try (cases h; done)
        · split at h <;> try (cases h; done)
          exact ⟨_, _, h, .all fun n R' K' => by unfold evOp; simp_all⟩
        · split at h <;> try (cases h; done)
          exact ⟨_, _, h, .all fun n R' K' => by unfold evOp; simp_all⟩
    · rename_i f hcl
      split at h <;> try (cases h; done)
      rename_i g caps he
      split at h <;> try (cases h; done)
      rename_i fi hfi
      split at h
      · rename_i hown
        split at h
        · cases h
        rename_i hdeep
        obtain ⟨y, h1, h2, h3⟩ := bSh_out h
        refine ⟨_, _, h3, (hC.p _ _ _ _ h1).mono fun n hn R' K' => ?_⟩
        unfold evOp
        rw [ho]
        simp only [hcl, he, hfi, hown]
        rw [if_neg hdeep]
        unfold bSh
        rw [hn]
        simp only [Option.bind_some]
        rw [if_pos h2]
      · rename_i hown
        split at h <;> try (cases h; done)
        obtain ⟨v, s, h1, h2⟩ := evOwn_out hC h
        refine ⟨v, s, h1, h2.mono fun n hn R' K' => ?_⟩
        unfold evOp
        rw [ho]
        simp only [hcl, he, hfi, hown]
        exact hn K'
    · cases h
  · obtain ⟨v, s, h1, h2⟩ := evOp_out0 (fun cl h => hc ⟨cl, h⟩) h
    exact ⟨v, s, h1, .all fun n R' K' => h2 _ K'⟩
end Go.Proofs.YtkicholhkoahhaaIT
