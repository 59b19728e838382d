/- Loops that filter, delete, add up. No condition beyond what each theorem states. -/
import Derived.Test.YtkicholhkoahhaaIt2
namespace Go.Proofs.YtkicholhkoahhaaIT
open Go

theorem getD_mem {m : List AV} {i : Nat} (h : i < m.length) : m.getD i .x ∈ m := by
  rw [List.getD_eq_getElem?_getD, List.getElem?_eq_getElem h]
  exact List.getElem_mem h
theorem drop_getD {m : List AV} {i : Nat} (h : i < m.length) : m.drop i = m.getD i .x :: m.drop (i + 1) := by
  rw [List.drop_eq_getElem_cons h, List.getD_eq_getElem?_getD, List.getElem?_eq_getElem h]; rfl
theorem take_getD {m : List AV} {i : Nat} (h : i < m.length) : m.take (i + 1) = m.take i ++ [m.getD i .x] := by
  rw [List.take_succ_eq_append_getElem h, List.getD_eq_getElem?_getD, List.getElem?_eq_getElem h]; rfl

/-- A loop that appends what is of a kind. -/
theorem filter_loop {R : Type} {L : Int → List AV → Option R} {m : List AV} {p : AV → Bool} {F : List AV → Option R}
    (step : ∀ (i : Nat) (r : List AV), i < m.length → r.length ≤ i → L i r = L ((i : Int) + 1) (if p (m.getD i .x) then r ++ [m.getD i .x] else r)) (last : ∀ r, r.length ≤ m.length → L m.length r = F r) :
    ∀ (k i : Nat) (r : List AV), i + k = m.length → r.length ≤ i → L i r = F (r ++ (m.drop i).filter p)
  | 0, i, r, h, hr => by
    have : i = m.length := by omega
    subst this
    rw [last r hr]; simp
  | k + 1, i, r, h, hr => by
    rw [step i r (by omega) hr, show ((i : Int) + 1) = ((i + 1 : Nat) : Int) by omega, drop_getD (show i < m.length by omega), List.filter_cons]
    by_cases hp : p (m.getD i .x) = true
    · rw [if_pos hp, if_pos hp, filter_loop step last k (i + 1) _ (by omega) (by simp; omega), List.append_assoc]; rfl
    · rw [if_neg hp, if_neg hp, filter_loop step last k (i + 1) _ (by omega) (by omega)]

/-- slices.DeleteFunc's loop. -/
theorem del_loop {R : Type} {L : Int → Int → List AV → Option R} {m : List AV} {p : AV → Bool} {T : AV → Prop} {F : Nat → List AV → Option R} (hT : ∀ y, y ∈ m → T y)
    (step : ∀ (i k : Nat) (r : List AV), i < m.length → k < i → r.length = m.length → r.getD i .x = m.getD i .x → (∀ y, y ∈ r → T y) → L k i r = if p (m.getD i .x) then L ((k : Int) + 1) ((i : Int) + 1) (r.set k (m.getD i .x)) else L k ((i : Int) + 1) r)
    (last : ∀ (k : Nat) (r : List AV), k ≤ m.length → r.length = m.length → L k m.length r = F k r) :
    ∀ (n i k : Nat) (r : List AV), i + n = m.length → k < i → r.length = m.length → (∀ y, y ∈ r → T y) → r.take k = (m.take i).filter p → r.drop i = m.drop i →
      ∃ r', L k i r = F (m.filter p).length r' ∧ r'.length = m.length ∧ r'.take (m.filter p).length = m.filter p
  | 0, i, k, r, h, hk, hl, hr, h1, h2 => by
    have : i = m.length := by omega
    subst this
    rw [List.take_length] at h1
    have hkl : k = (m.filter p).length := by rw [← h1, List.length_take]; omega
    refine ⟨r, ?_, hl, ?_⟩
    · rw [last k r (by omega) hl, hkl]
    · rw [← hkl, h1]
  | n + 1, i, k, r, h, hk, hl, hr, h1, h2 => by
    have hi : i < m.length := by omega
    have hg : r.getD i .x = m.getD i .x := by
      have h3 := congrArg (fun l => l.getD 0 AV.x) h2
      simpa [List.getD_eq_getElem?_getD, List.getElem?_drop] using h3
    have h4 : r.drop (i + 1) = m.drop (i + 1) := by
      have := congrArg (List.drop 1) h2
      simpa [List.drop_drop] using this
    rw [step i k r hi hk hl hg hr]
    have hf : (m.take (i + 1)).filter p = (m.take i).filter p ++ (if p (m.getD i .x) then [m.getD i .x] else []) := by
      rw [take_getD hi, List.filter_append]
      congr 1
      rw [List.filter_cons]; rfl
    by_cases hp : p (m.getD i .x) = true
    · rw [if_pos hp, show ((i : Int) + 1) = ((i + 1 : Nat) : Int) by omega, show ((k : Int) + 1) = ((k + 1 : Nat) : Int) by omega]
      refine del_loop hT step last n (i + 1) (k + 1) _ (by omega) (by omega) (by simpa using hl) (fun y hy => ?_) ?_ ?_
      · rcases List.mem_or_eq_of_mem_set hy with h5 | h5
        · exact hr y h5
        · rw [h5]; exact hT _ (getD_mem hi)
      · rw [hf, if_pos hp, ← h1, take_getD (by simp; omega)]
        congr 1
        · rw [List.take_set_of_le (Nat.le_refl k)]
        · rw [List.getD_eq_getElem?_getD, List.getElem?_set_self (by omega)]; rfl
      · rw [List.drop_set_of_lt (by omega)]; exact h4
    · rw [if_neg hp, show ((i : Int) + 1) = ((i + 1 : Nat) : Int) by omega]
      refine del_loop hT step last n (i + 1) k r (by omega) (by omega) hl hr ?_ h4
      rw [hf, if_neg hp, List.append_nil]; exact h1

/-- Two loops that go on alike. -/
theorem same_loop {R S : Type} {A : Type} {L : A → Int → Option R} {L' : A → Int → Option S} {n : Nat} {F : A → Option R} {F' : A → Option S}
    (step : ∀ (a : A) (i : Nat), i < n → ∃ a', L a i = L a' ((i : Int) + 1) ∧ L' a i = L' a' ((i : Int) + 1)) (last : ∀ a, L a n = F a ∧ L' a n = F' a) :
    ∀ (k i : Nat) (a : A), i + k = n → ∃ a', L a i = F a' ∧ L' a i = F' a'
  | 0, i, a, h => by
    have : i = n := by omega
    subst this
    exact ⟨a, last a⟩
  | k + 1, i, a, h => by
    obtain ⟨a', h1, h2⟩ := step a i (by omega)
    obtain ⟨b, h3, h4⟩ := same_loop step last k (i + 1) a' (by omega)
    rw [show ((i : Int) + 1) = ((i + 1 : Nat) : Int) by omega] at h1 h2
    exact ⟨b, h1.trans h3, h2.trans h4⟩
theorem flatVL_of {l : List AV} (h : ∀ y, y ∈ l → flatV y = true) : flatVL l = true := by
  induction l with
  | nil => rfl
  | cons y r ih => simp only [flatVL, Bool.and_eq_true]; exact ⟨h y (by simp), ih fun y hy => h y (by simp [hy])⟩
theorem okRs_row (e : Nat) (es : List AV) : okRs [.row true e] [.live true false false e es] = true := by simp [okRs, okR]
theorem bOwnF_pr {R : Type} (e : Nat) (es : List AV) (w : Nat × Nat) (K : AV × List Root → Option R) (h : flatVL es = true) : bOwnF (.pr 0) [.row true e] 1 (some (.sl 0 [] (some w), [.live true false false e es])) K = K (.sl 0 [] (some w), [.live true false false e es]) := by
  have h1 : okSh (.pr 0) (.sl 0 [] (some w)) = true := rfl
  unfold bOwnF
  rw [Option.bind_some, if_pos]
  simp [h1, okRs_row, flatRoot, h, flatV]
theorem bOwn_so {R : Type} (e : Nat) (es : List AV) (K : AV × List Root → Option R) : bOwn (.so 0) [.row true e] 0 (some (.sl 0 [] none, [.live true false false e es])) K = K (.sl 0 [] none, [.live true false false e es]) := by
  have h1 : okSh (.so 0) (.sl 0 [] none) = true := rfl
  unfold bOwn
  rw [Option.bind_some, if_pos]
  simp [h1, okRs_row]
end Go.Proofs.YtkicholhkoahhaaIT
