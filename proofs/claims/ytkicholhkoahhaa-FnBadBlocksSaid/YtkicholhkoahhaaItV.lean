/- What an operation's evaluation comes to does not hang on what is done with it. No condition: these are facts about the evaluator alone. -/
import Derived.Test.YtkicholhkoahhaaItB
namespace Go.Proofs.YtkicholhkoahhaaIT
open Go
variable {E : Env} {R : Type} {r : R}

theorem evLoad_out {t : TypeId} {a : AV} {st : St} {K : AV → Option R} (h : evLoad E t a st K = some r) : ∃ v, K v = some r ∧ ∀ {R' : Type} (K' : AV → Option R'), evLoad E t a st K' = K' v := by
  unfold evLoad at h ⊢
  split at h <;> try (cases h; done)
  split at h <;> try (cases h; done)
  · split at h <;> try (cases h; done)
    split at h <;> try (cases h; done)
    exact ⟨_, h, fun K' => by simp_all⟩
  · split at h <;> try (cases h; done)
    exact ⟨_, h, fun K' => by simp_all⟩
theorem evStore_out {t : TypeId} {a v : AV} {st : St} {K : St → Option R} (h : evStore E t a v st K = some r) : ∃ s, K s = some r ∧ ∀ {R' : Type} (K' : St → Option R'), evStore E t a v st K' = K' s := by
  unfold evStore at h ⊢
  split at h <;> try (cases h; done)
  split at h <;> try (cases h; done)
  split at h <;> try (cases h; done)
  split at h <;> try (cases h; done)
  split at h <;> try (cases h; done)
  split at h <;> try (cases h; done)
  split at h <;> try (cases h; done)
  exact ⟨_, h, fun K' => by simp_all⟩
theorem evStoreN_out {t : TypeId} {a v : AV} {st : St} {K : St → Option R} (h : evStoreN E t a v st K = some r) : ∃ s, K s = some r ∧ ∀ {R' : Type} (K' : St → Option R'), evStoreN E t a v st K' = K' s := by
  unfold evStoreN at h ⊢
  split at h
  · split at h <;> try (cases h; done)
    obtain ⟨s, h1, h2⟩ := evStore_out h
    exact ⟨s, h1, fun K' => by simp_all⟩
  · obtain ⟨s, h1, h2⟩ := evStore_out h
    exact ⟨s, h1, fun K' => by simp_all⟩
theorem evBox_out {t : TypeId} {v : AV} {st : St} {K : AV → St → Option R} (h : evBox E t v st K = some r) : ∃ a s, K a s = some r ∧ ∀ {R' : Type} (K' : AV → St → Option R'), evBox E t v st K' = K' a s := by
  unfold evBox at h ⊢
  split at h <;> try (cases h; done)
  split at h <;> try (cases h; done)
  split at h <;> try (cases h; done)
  exact ⟨_, _, h, fun K' => by simp_all⟩
theorem evMk_out {t : TypeId} {l : Option Operand} {st : St} {K : AV → St → Option R} (h : evMk E t l st K = some r) : ∃ a s, K a s = some r ∧ ∀ {R' : Type} (K' : AV → St → Option R'), evMk E t l st K' = K' a s := by
  unfold evMk at h ⊢
  split at h
  · cases h
  split at h <;> try (cases h; done)
  exact ⟨_, _, h, fun K' => by simp_all⟩
theorem evLk_out {t : TypeId} {ok : Bool} {a i : AV} {σ : List Root} {K : AV → Option R} (h : evLk E t ok a i σ K = some r) : ∃ v, K v = some r ∧ ∀ {R' : Type} (K' : AV → Option R'), evLk E t ok a i σ K' = K' v := by
  unfold evLk at h ⊢
  split at h
  · cases h
  split at h <;> try (cases h; done)
  split at h <;> try (cases h; done)
  split at h <;> try (cases h; done)
  split at h <;> try (cases h; done)
  split at h <;> try (cases h; done)
  exact ⟨_, h, fun K' => by simp_all⟩
theorem evUp_out {t : TypeId} {a i v : AV} {st : St} {K : AV → St → Option R} (h : evUp E t a i v st K = some r) : ∃ a1 s, K a1 s = some r ∧ ∀ {R' : Type} (K' : AV → St → Option R'), evUp E t a i v st K' = K' a1 s := by
  unfold evUp at h ⊢
  split at h <;> try (cases h; done)
  split at h <;> try (cases h; done)
  split at h <;> try (cases h; done)
  split at h <;> try (cases h; done)
  split at h <;> try (cases h; done)
  split at h <;> try (cases h; done)
  exact ⟨_, _, h, fun K' => by simp_all⟩
theorem evBin_out {op : BinOp} {t : TypeId} {a b : AV} {K : AV → Option R} (h : evBin E op t a b K = some r) : ∃ v, K v = some r ∧ ∀ {R' : Type} (K' : AV → Option R'), evBin E op t a b K' = K' v := by
  unfold evBin at h ⊢
  split at h <;> try (cases h; done)
  all_goals (split at h <;> try (cases h; done))
  all_goals (split at h <;> try (cases h; done))
  all_goals first
    | exact ⟨_, h, fun K' => by simp_all⟩
    | (split at h <;> try (cases h; done))
  all_goals first
    | exact ⟨_, h, fun K' => by simp_all⟩
    | (split at h <;> try (cases h; done))
  all_goals first
    | exact ⟨_, h, fun K' => by simp_all⟩
    | (split at h <;> try (cases h; done))
  all_goals first
    | exact ⟨_, h, fun K' => by simp_all⟩
theorem evBinA_out {op : BinOp} {t : TypeId} {a b : AV} {K : AV → Option R} (h : evBinA E op t a b K = some r) : ∃ v, K v = some r ∧ ∀ {R' : Type} (K' : AV → Option R'), evBinA E op t a b K' = K' v := by
  unfold evBinA at h ⊢
  cases a with
  | agg xs =>
    simp only at h
    split at h <;> try (cases h; done)
    split at h <;> try (cases h; done)
    split at h <;> try (cases h; done)
    rename_i hq
    split at h <;> try (cases h; done)
    all_goals exact ⟨_, h, fun K' => by simp [*]⟩
  | _ => exact evBin_out h
theorem evUn_out {op : UnOp} {a : AV} {K : AV → Option R} (h : evUn op a K = some r) : ∃ v, K v = some r ∧ ∀ {R' : Type} (K' : AV → Option R'), evUn op a K' = K' v := by
  unfold evUn at h ⊢
  split at h <;> try (cases h; done)
  all_goals (split at h <;> try (cases h; done))
  all_goals exact ⟨_, h, fun K' => by simp_all⟩
theorem evIndexAddr_out {e sz : Nat} {a i : AV} {st : St} {K : AV → Option R} (h : evIndexAddr e sz a i st K = some r) : ∃ v, K v = some r ∧ ∀ {R' : Type} (K' : AV → Option R'), evIndexAddr e sz a i st K' = K' v := by
  unfold evIndexAddr at h ⊢
  split at h <;> try (cases h; done)
  split at h <;> try (cases h; done)
  split at h <;> try (cases h; done)
  rename_i hc
  split at h <;> try (cases h; done)
  · split at h <;> try (cases h; done)
    exact ⟨_, h, fun K' => by simp_all⟩
  · split at h <;> try (cases h; done)
    split at h <;> try (cases h; done)
    exact ⟨_, h, fun K' => by simp_all⟩
theorem evSlice_out {e sz : Nat} {a : AV} {lo hi mx : Option Operand} {st : St} {K : AV → Option R} (h : evSlice e sz a lo hi mx st K = some r) : ∃ v, K v = some r ∧ ∀ {R' : Type} (K' : AV → Option R'), evSlice e sz a lo hi mx st K' = K' v := by
  unfold evSlice at h ⊢
  split at h <;> try (cases h; done)
  split at h <;> try (cases h; done)
  split at h <;> try (cases h; done)
  rename_i hlo hhi
  split at h <;> try (cases h; done)
  split at h <;> try (cases h; done)
  · exact ⟨_, h, fun K' => by simp_all⟩
  · split at h <;> try (cases h; done)
    split at h <;> exact ⟨_, h, fun K' => by simp_all⟩
  · exact ⟨_, h, fun K' => by simp_all⟩
  · split at h <;> try (cases h; done)
    split at h <;> try (cases h; done)
    split at h <;> exact ⟨_, h, fun K' => by simp_all⟩
theorem evAppend_out {t : TypeId} {a b : AV} {st : St} {K : AV → St → Option R} (h : evAppend E t a b st K = some r) : ∃ v s, K v s = some r ∧ ∀ {R' : Type} (K' : AV → St → Option R'), evAppend E t a b st K' = K' v s := by
  unfold evAppend at h ⊢
  split at h <;> try (cases h; done)
  split at h <;> try (cases h; done)
  split at h <;> try (cases h; done)
  split at h <;> try (cases h; done)
  · split at h <;> try (cases h; done)
    exact ⟨_, _, h, fun K' => by simp_all⟩
  · split at h <;> try (cases h; done)
    split at h <;> try (cases h; done)
    rename_i hxs
    split at h <;> try (cases h; done)
    split at h <;> try (cases h; done)
    refine ⟨_, _, h, fun K' => ?_⟩
    simp_all
theorem bSh_out {h : Sh} {x : Option AV} {K : AV → Option R} (hk : bSh h x K = some r) : ∃ y, x = some y ∧ okSh h y = true ∧ K y = some r := by
  unfold bSh at hk
  obtain ⟨y, h1, h2⟩ := Option.bind_eq_some_iff.1 hk
  split at h2 <;> try (cases h2; done)
  rename_i hok
  exact ⟨y, h1, hok, h2⟩
end Go.Proofs.YtkicholhkoahhaaIT
