/- The program's SameVersion answers what the reference's answers: the pure statement, of all arguments. -/
import Derived.Test.YtnanphkenjneoaaPFnExactSameVersionx5
import Derived.Test.YtnanphkenjneoaaWLp
namespace Go.Proofs.Ytnanphkenjneoaa.Pure
open Go.RowKit Go.Proofs.Ytnanphkenjneoaa.PFnExactSameVersion Go.Proofs.YtnanphkenjneoaaW.PrintWords Go.Proofs.YtnanphkenjneoaaW.PrintLast Go.Proofs.YtnanphkenjneoaaW.PrintMore Go.Proofs.YtnanphkenjneoaaW.Lp

set_option linter.unusedVariables false
set_option linter.unusedSimpArgs false
def Sz_TableRef (x : S23) : Prop := (x.f5.size ≤ 1048576) ∧ (x.f6.size ≤ 1048576)
def to_TableRef (x : S23) : S26 := ⟨x.f0, x.f1, x.f2, x.f3, x.f4, x.f5, x.f6, x.f7, x.f8, x.f9⟩
theorem sz_TableRef (x : S23) (a : Int) (h0 : 0 ≤ a) (h1 : a ≤ 1048576) (hf : fit23 x) : ∃ r : Int, (∃ K : Nat, ∀ k : Nat, K ≤ k → laws_szTableRef.f (x.f0) (x.f1) (x.f2) (x.f3) (x.f4) (x.f5) (x.f6) (x.f7) (x.f8) (x.f9) a = some r) ∧ r ≤ 1048576 ∧ (r < 0 ∨ 0 ≤ r ∧ Sz_TableRef x) := by
  have w0 : x.f5.size ≤ 9223372036854775807 := hf.2.2.2.2.2.1
  by_cases c0 : wrap64 (a - (x.f5.size : Int)) < 0
  · exact ⟨-1, ⟨0, fun k hk => by unfold laws_szTableRef.f; rw [if_pos c0]⟩, by omega, .inl (by omega)⟩
  have e0 : wrap64 (a - (x.f5.size : Int)) = a - (x.f5.size : Int) := wrap_id (by omega) (by omega)
  have w1 : x.f6.size ≤ 9223372036854775807 := hf.2.2.2.2.2.2.1
  by_cases c1 : wrap64 (wrap64 (a - (x.f5.size : Int)) - (x.f6.size : Int)) < 0
  · exact ⟨-1, ⟨0, fun k hk => by unfold laws_szTableRef.f; rw [if_neg c0, if_pos c1]⟩, by omega, .inl (by omega)⟩
  have e1 : wrap64 (wrap64 (a - (x.f5.size : Int)) - (x.f6.size : Int)) = wrap64 (a - (x.f5.size : Int)) - (x.f6.size : Int) := wrap_id (by omega) (by omega)
  exact ⟨wrap64 (wrap64 (a - (x.f5.size : Int)) - (x.f6.size : Int)), ⟨0, fun k hk => by unfold laws_szTableRef.f; rw [if_neg c0, if_neg c1]⟩, by omega, .inr ⟨by omega, ⟨(by omega), (by omega)⟩⟩⟩
theorem sz_TableRefS_l0 (l : List S23) (hn : l.length ≤ 9223372036854775807) (hf : ∀ y, y ∈ l → fit23 y) : ∀ i, i ≤ l.length → ∀ a, 0 ≤ a → a ≤ 1048576 → ∃ r : Int, (∃ K : Nat, ∀ k : Nat, K ≤ k → laws_szTableRefS.l0 k l a (i : Int) = some r) ∧ r ≤ 1048576 ∧ (r < 0 ∨ 0 ≤ r ∧ ∀ y, y ∈ l.drop i → Sz_TableRef y) := by
  refine down ?_ ?_
  · intro a h0 h1
    exact ⟨a, ⟨1, fun k hk => by obtain ⟨k, rfl⟩ : ∃ m, k = m + 1 := ⟨k - 1, by omega⟩; simp only [laws_szTableRefS.l0]; rw [if_neg (by omega)]⟩, h1, .inr ⟨h0, by simp⟩⟩
  · intro i hi ih a h0 h1
    have hm : l[i] ∈ l := List.getElem_mem hi
    have hr : rd_T23 l (i : Int) = l[i] := getD_nat l _ hi
    obtain ⟨r, ⟨K, g⟩, u, q⟩ := sz_TableRef l[i] a h0 h1 (hf _ hm)
    by_cases c : r < 0
    · exact ⟨-1, ⟨K + 1, fun k hk => by obtain ⟨k, rfl⟩ : ∃ m, k = m + 1 := ⟨k - 1, by omega⟩; simp only [laws_szTableRefS.l0]; rw [if_pos (by omega), if_pos (by omega), hr, g k (by omega), Option.bind_some, if_pos c]⟩, by omega, .inl (by omega)⟩
    · obtain ⟨q0, q1⟩ := q.resolve_left c
      obtain ⟨r', ⟨K', g'⟩, u', q'⟩ := ih r q0 u
      refine ⟨r', ⟨K + K' + 1, fun k hk => by obtain ⟨k, rfl⟩ : ∃ m, k = m + 1 := ⟨k - 1, by omega⟩; simp only [laws_szTableRefS.l0]; rw [if_pos (by omega), if_pos (by omega), hr, g k (by omega), Option.bind_some, if_neg c, wrap_succ hi hn, g' k (by omega)]⟩, u', ?_⟩
      rcases q' with q' | ⟨q2, q3⟩
      · exact .inl q'
      · refine .inr ⟨q2, ?_⟩
        rw [drop_cons l hi]
        intro y hy
        rcases List.mem_cons.1 hy with rfl | hy
        · exact q1
        · exact q3 y hy
theorem sz_TableRefS (l : List S23) (a : Int) (h0 : 0 ≤ a) (h1 : a ≤ 1048576) (hf : (l.length ≤ 9223372036854775807 ∧ ∀ y0, y0 ∈ l → fit23 y0)) : ∃ r : Int, (∃ K : Nat, ∀ k : Nat, K ≤ k → laws_szTableRefS.f k l a = some r) ∧ r ≤ 1048576 ∧ (r < 0 ∨ 0 ≤ r ∧ (l.length ≤ 1048576 ∧ ∀ y0, y0 ∈ l → Sz_TableRef y0)) := by
  have hn := hf.1
  by_cases c : wrap64 (a - (l.length : Int)) < 0
  · exact ⟨-1, ⟨0, fun k _ => by unfold laws_szTableRefS.f; rw [if_pos c]⟩, by omega, .inl (by omega)⟩
  · have e : wrap64 (a - (l.length : Int)) = a - (l.length : Int) := wrap_id (by omega) (by omega)
    obtain ⟨r, ⟨K, g⟩, u, q⟩ := sz_TableRefS_l0 l hn hf.2 0 (Nat.zero_le _) (wrap64 (a - (l.length : Int))) (by omega) (by omega)
    refine ⟨r, ⟨K, fun k hk => by unfold laws_szTableRefS.f; rw [if_neg c]; exact g k hk⟩, u, ?_⟩
    rcases q with q | ⟨q0, q1⟩
    · exact .inl q
    · exact .inr ⟨q0, by omega, fun y hy => q1 y (by simpa using hy)⟩
structure S76 where
  f0 : Int
  f1 : Int
  f2 : Int
  f3 : List S26
def Sz_Version (x : S72) : Prop := ((x.f3.length ≤ 1048576 ∧ ∀ y0, y0 ∈ x.f3 → Sz_TableRef y0))
def to_Version (x : S72) : S76 := ⟨x.f0, x.f1, x.f2, x.f3.map to_TableRef⟩
theorem sz_Version (x : S72) (a : Int) (h0 : 0 ≤ a) (h1 : a ≤ 1048576) (hf : fit72 x) : ∃ r : Int, (∃ K : Nat, ∀ k : Nat, K ≤ k → laws_szVersion.f k (x.f0) (x.f1) (x.f2) (x.f3) a = some r) ∧ r ≤ 1048576 ∧ (r < 0 ∨ 0 ≤ r ∧ Sz_Version x) := by
  obtain ⟨r0, ⟨K0, g0⟩, u0, q0⟩ := sz_TableRefS x.f3 (a) (by omega) (by omega) hf.2.2.2
  by_cases c0 : r0 < 0
  · exact ⟨-1, ⟨K0, fun k hk => by unfold laws_szVersion.f; rw [g0 k (by omega), Option.bind_some, if_pos c0]⟩, by omega, .inl (by omega)⟩
  obtain ⟨v0, q0⟩ := q0.resolve_left c0
  exact ⟨r0, ⟨K0, fun k hk => by unfold laws_szVersion.f; rw [g0 k (by omega), Option.bind_some, if_neg c0]⟩, by omega, .inr ⟨by omega, q0⟩⟩
theorem toE_TableRef (x : S23) (h : Sz_TableRef x) : (∃ K : Nat, ∀ k : Nat, K ≤ k → laws_toTableRef.f (x.f0) (x.f1) (x.f2) (x.f3) (x.f4) (x.f5) (x.f6) (x.f7) (x.f8) (x.f9) = some ((to_TableRef x).f0, (to_TableRef x).f1, (to_TableRef x).f2, (to_TableRef x).f3, (to_TableRef x).f4, (to_TableRef x).f5, (to_TableRef x).f6, (to_TableRef x).f7, (to_TableRef x).f8, (to_TableRef x).f9)) := by
  exact ⟨0, fun k hk => by unfold laws_toTableRef.f; first | done | rfl⟩
theorem toE_TableRefS_l0 (l : List S23) (hn : l.length ≤ 1048576) (hs : ∀ y, y ∈ l → Sz_TableRef y) : ∀ i, i ≤ l.length → ∀ o : List S26, o.length = l.length → o.take i = (l.take i).map to_TableRef → (∃ K : Nat, ∀ k : Nat, K ≤ k → laws_toTableRefS.l0 k l o (i : Int) = some (l.map to_TableRef)) := by
  refine down ?_ ?_
  · intro o ho ht
    rw [List.take_of_length_le (by omega), List.take_of_length_le (Nat.le_refl _)] at ht
    exact ⟨1, fun k hk => by obtain ⟨k, rfl⟩ : ∃ m, k = m + 1 := ⟨k - 1, by omega⟩; simp only [laws_toTableRefS.l0]; rw [if_neg (by omega), ht]⟩
  · intro i hi ih o ho ht
    have hr : rd_T23 l (i : Int) = l[i] := getD_nat l _ hi
    obtain ⟨K, g⟩ := toE_TableRef l[i] (hs _ (List.getElem_mem hi))
    obtain ⟨K', g'⟩ := ih (o.set i (to_TableRef l[i])) (by rw [List.length_set]; exact ho) (by rw [List.take_set, take_snoc o (by omega), ht, take_snoc l hi, List.map_append, List.set_append_right _ _ (by simp; omega)]; simp [Nat.min_eq_left (Nat.le_of_lt hi)])
    exact ⟨K + K' + 1, fun k hk => by obtain ⟨k, rfl⟩ : ∃ m, k = m + 1 := ⟨k - 1, by omega⟩; simp only [laws_toTableRefS.l0]; rw [if_pos (by omega), if_pos (by omega), hr, g k (by omega), Option.bind_some, if_pos (by omega), wrap_succ hi (by omega)]; exact g' k (by omega)⟩
theorem toE_TableRefS (l : List S23) (h : (l.length ≤ 1048576 ∧ ∀ y0, y0 ∈ l → Sz_TableRef y0)) : (∃ K : Nat, ∀ k : Nat, K ≤ k → laws_toTableRefS.f k l = some (l.map to_TableRef)) := by
  have hn : l.length ≤ 1048576 := h.1
  obtain ⟨K, g⟩ := toE_TableRefS_l0 l hn h.2 0 (Nat.zero_le _) (List.replicate ((l.length : Int)).toNat _) (by simp) (by simp)
  exact ⟨K, fun k hk => by unfold laws_toTableRefS.f; rw [if_pos (by omega), if_pos (by omega)]; exact g k hk⟩
theorem toE_Version (x : S72) (h : Sz_Version x) : (∃ K : Nat, ∀ k : Nat, K ≤ k → laws_toVersion.f k (x.f0) (x.f1) (x.f2) (x.f3) = some ((to_Version x).f0, (to_Version x).f1, (to_Version x).f2, (to_Version x).f3)) := by
  obtain ⟨K3, g3⟩ := toE_TableRefS x.f3 (h)
  exact ⟨K3, fun k hk => by unfold laws_toVersion.f; rw [g3 k (by omega), Option.bind_some]; first | done | rfl⟩
theorem eq_TableRef (x : S26) : (∃ K : Nat, ∀ k : Nat, K ≤ k → laws_eqTableRef.f (x.f0) (x.f1) (x.f2) (x.f3) (x.f4) (x.f5) (x.f6) (x.f7) (x.f8) (x.f9) (x.f0) (x.f1) (x.f2) (x.f3) (x.f4) (x.f5) (x.f6) (x.f7) (x.f8) (x.f9) = some true) := by
  exact ⟨0, fun k hk => by simp [laws_eqTableRef.f]⟩
theorem eq_TableRefS_l0 (l : List S26) (hn : l.length ≤ 9223372036854775807) : ∀ i, i ≤ l.length → (∃ K : Nat, ∀ k : Nat, K ≤ k → laws_eqTableRefS.l0 k l l (i : Int) = some true) := by
  refine down ?_ ?_
  · exact ⟨1, fun k hk => by obtain ⟨k, rfl⟩ : ∃ m, k = m + 1 := ⟨k - 1, by omega⟩; simp only [laws_eqTableRefS.l0]; rw [if_neg (by omega)]⟩
  · intro i hi ih
    obtain ⟨K', g'⟩ := ih
    have hr : rd_T26 l (i : Int) = l[i] := getD_nat l _ hi
    obtain ⟨K, g⟩ := eq_TableRef l[i]
    exact ⟨K + K' + 1, fun k hk => by obtain ⟨k, rfl⟩ : ∃ m, k = m + 1 := ⟨k - 1, by omega⟩; simp only [laws_eqTableRefS.l0]; rw [if_pos (by omega), if_pos (by omega), if_pos (by omega), hr, g k (by omega), Option.bind_some, if_pos rfl, wrap_succ hi hn]; exact g' k (by omega)⟩
theorem eq_TableRefS (l : List S26) (h : l.length ≤ 9223372036854775807) : (∃ K : Nat, ∀ k : Nat, K ≤ k → laws_eqTableRefS.f k l l = some true) := by
  obtain ⟨K, g⟩ := eq_TableRefS_l0 l h 0 (Nat.zero_le _)
  exact ⟨K, fun k hk => by unfold laws_eqTableRefS.f; rw [if_pos rfl]; exact g k hk⟩
def Eq_Version (x : S76) : Prop := (x.f3.length ≤ 9223372036854775807)
theorem eq_Version (x : S76) (h : Eq_Version x) : (∃ K : Nat, ∀ k : Nat, K ≤ k → laws_eqVersion.f k (x.f0) (x.f1) (x.f2) (x.f3) (x.f0) (x.f1) (x.f2) (x.f3) = some true) := by
  obtain ⟨K3, g3⟩ := eq_TableRefS x.f3 (h)
  exact ⟨K3, fun k hk => by simp [laws_eqVersion.f, g3 k (by omega)]⟩

/-- Both loops. -/
theorem same_l0 (p0 p1 p2 q0 q1 q2 : Int) (a b : List S26) (hn : a.length ≤ 9223372036854775807) (he : a.length = b.length) : ∀ i, i ≤ a.length → ∃ r : Bool,
    (∃ K : Nat, ∀ k : Nat, K ≤ k → spec_SameVersion.l0 k (i : Int) p0 p1 p2 a q0 q1 q2 b = some r) ∧ (∃ K : Nat, ∀ k : Nat, K ≤ k → impl_TableRef.l0 k a b (a.length : Int) (i : Int) = some r) := by
  refine down ?_ ?_
  · refine ⟨true, ⟨1, fun k hk => ?_⟩, ⟨1, fun k hk => ?_⟩⟩
    · obtain ⟨k, rfl⟩ : ∃ m, k = m + 1 := ⟨k - 1, by omega⟩
      simp only [spec_SameVersion.l0]; rw [if_neg (by omega)]
    · obtain ⟨k, rfl⟩ : ∃ m, k = m + 1 := ⟨k - 1, by omega⟩
      simp only [impl_TableRef.l0]; rw [if_neg (by omega)]
  · intro i hi ⟨r, ⟨K1, g1⟩, ⟨K2, g2⟩⟩
    obtain ⟨c, hc⟩ : ∃ c, c = (!((rd_T26 a (i : Int)).f0 == (rd_T26 b (i : Int)).f0) || (!((rd_T26 a (i : Int)).f1 == (rd_T26 b (i : Int)).f1) || (!((rd_T26 a (i : Int)).f2 == (rd_T26 b (i : Int)).f2) || (!((rd_T26 a (i : Int)).f3 == (rd_T26 b (i : Int)).f3) || (!((rd_T26 a (i : Int)).f4 == (rd_T26 b (i : Int)).f4) || (!((rd_T26 a (i : Int)).f5.toList == (rd_T26 b (i : Int)).f5.toList) || (!((rd_T26 a (i : Int)).f6.toList == (rd_T26 b (i : Int)).f6.toList) || (!((rd_T26 a (i : Int)).f7 == (rd_T26 b (i : Int)).f7) || (!((rd_T26 a (i : Int)).f8 == (rd_T26 b (i : Int)).f8) || (!((rd_T26 a (i : Int)).f9 == (rd_T26 b (i : Int)).f9))))))))))) := ⟨_, rfl⟩
    have e1 : ∀ k : Nat, spec_SameVersion.l0 (k + 1) (i : Int) p0 p1 p2 a q0 q1 q2 b = if c = true then some false else spec_SameVersion.l0 k ((i + 1 : Nat) : Int) p0 p1 p2 a q0 q1 q2 b := fun k => by
      simp only [spec_SameVersion.l0]; rw [if_pos (by omega), if_pos (by omega), if_pos (by omega), ← hc, wrap_succ hi hn]
    have e2 : ∀ k : Nat, impl_TableRef.l0 (k + 1) a b (a.length : Int) (i : Int) = if c = true then some false else impl_TableRef.l0 k a b (a.length : Int) ((i + 1 : Nat) : Int) := fun k => by
      simp only [impl_TableRef.l0]; rw [if_pos (by omega), if_pos (by omega), if_pos (by omega), if_pos (by omega), ← hc, wrap_succ hi hn]
    cases c with
    | true =>
      refine ⟨false, ⟨1, fun k hk => ?_⟩, ⟨1, fun k hk => ?_⟩⟩
      · obtain ⟨k, rfl⟩ : ∃ m, k = m + 1 := ⟨k - 1, by omega⟩
        rw [e1, if_pos rfl]
      · obtain ⟨k, rfl⟩ : ∃ m, k = m + 1 := ⟨k - 1, by omega⟩
        rw [e2, if_pos rfl]
    | false =>
      refine ⟨r, ⟨K1 + 1, fun k hk => ?_⟩, ⟨K2 + 1, fun k hk => ?_⟩⟩
      · obtain ⟨k, rfl⟩ : ∃ m, k = m + 1 := ⟨k - 1, by omega⟩
        rw [e1, if_neg (by decide)]; exact g1 k (by omega)
      · obtain ⟨k, rfl⟩ : ∃ m, k = m + 1 := ⟨k - 1, by omega⟩
        rw [e2, if_neg (by decide)]; exact g2 k (by omega)

theorem same (p0 p1 p2 q0 q1 q2 : Int) (a b : List S26) (hn : a.length ≤ 9223372036854775807) : ∃ r : Bool,
    (∃ K : Nat, ∀ k : Nat, K ≤ k → spec_SameVersion.f k p0 p1 p2 a q0 q1 q2 b = some r) ∧ (∃ K : Nat, ∀ k : Nat, K ≤ k → impl_SameVersion.f k p0 p1 p2 a q0 q1 q2 b = some r) := by
  have none : (¬ (p0 = q0 ∧ p1 = q1 ∧ p2 = q2 ∧ a.length = b.length)) → ∃ r : Bool,
      (∃ K : Nat, ∀ k : Nat, K ≤ k → spec_SameVersion.f k p0 p1 p2 a q0 q1 q2 b = some r) ∧ (∃ K : Nat, ∀ k : Nat, K ≤ k → impl_SameVersion.f k p0 p1 p2 a q0 q1 q2 b = some r) := fun hne => by
    have j0 : ∀ k : Nat, spec_SameVersion.j0 (k + 1) true p0 p1 p2 a q0 q1 q2 b = some false := fun k => by simp [spec_SameVersion.j0]
    refine ⟨false, ⟨1, fun k hk => ?_⟩, ⟨0, fun k hk => ?_⟩⟩
    · obtain ⟨k, rfl⟩ : ∃ m, k = m + 1 := ⟨k - 1, by omega⟩
      unfold spec_SameVersion.f
      by_cases c0 : p0 = q0
      · rw [if_pos c0]
        by_cases c1 : p1 = q1
        · rw [if_pos c1]
          by_cases c2 : p2 = q2
          · rw [if_pos c2]
            have hl : ((a.length : Int) != (b.length : Int)) = true := by
              simp only [bne_iff_ne, ne_eq]
              intro h
              exact hne ⟨c0, c1, c2, by omega⟩
            rw [hl, j0]
          · rw [if_neg c2, j0]
        · rw [if_neg c1, j0]
      · rw [if_neg c0, j0]
    · unfold impl_SameVersion.f impl_TableRef.f
      by_cases c0 : p0 = q0
      · rw [if_pos c0]
        by_cases c1 : p1 = q1
        · rw [if_pos c1]
          by_cases c2 : p2 = q2
          · rw [if_pos c2, if_neg (fun h => hne ⟨c0, c1, c2, by omega⟩)]; rfl
          · rw [if_neg c2]
        · rw [if_neg c1]
      · rw [if_neg c0]
  by_cases h : p0 = q0 ∧ p1 = q1 ∧ p2 = q2 ∧ a.length = b.length
  · obtain ⟨c0, c1, c2, he⟩ := h
    obtain ⟨r, ⟨K1, g1⟩, ⟨K2, g2⟩⟩ := same_l0 p0 p1 p2 q0 q1 q2 a b hn he 0 (Nat.zero_le _)
    refine ⟨r, ⟨K1 + 1, fun k hk => ?_⟩, ⟨K2, fun k hk => ?_⟩⟩
    · obtain ⟨k, rfl⟩ : ∃ m, k = m + 1 := ⟨k - 1, by omega⟩
      unfold spec_SameVersion.f
      have hl : ((a.length : Int) != (b.length : Int)) = false := by rw [he]; exact bne_self_eq_false _
      rw [if_pos c0, if_pos c1, if_pos c2, hl]
      simp only [spec_SameVersion.j0]
      rw [if_neg (by decide)]
      exact g1 k (by omega)
    · unfold impl_SameVersion.f impl_TableRef.f
      rw [if_pos c0, if_pos c1, if_pos c2, if_pos (by omega), show impl_TableRef.l0 k a b (a.length : Int) 0 = some r from g2 k hk]; rfl
  · exact none h

theorem FnExactSameVersion : laws_FnExactSameVersion.Pure := by
  intro x0 x1 h0 h1
  obtain ⟨r0, ⟨K0, g0⟩, u0, q0⟩ := sz_Version x0 1048576 (by omega) (by omega) h0
  by_cases c0 : r0 < 0
  · exact ⟨K0, by unfold laws_FnExactSameVersion.f; rw [g0 _ (Nat.le_refl _), Option.bind_some, if_pos c0]⟩
  obtain ⟨p0, s0⟩ := q0.resolve_left c0
  obtain ⟨r1, ⟨K1, g1⟩, u1, q1⟩ := sz_Version x1 r0 p0 u0 h1
  by_cases c1 : r1 < 0
  · exact ⟨K0 + K1, by unfold laws_FnExactSameVersion.f; rw [g0 _ (by omega), Option.bind_some, if_neg c0, g1 _ (by omega), Option.bind_some, if_pos c1]⟩
  obtain ⟨p1, s1⟩ := q1.resolve_left c1
  obtain ⟨K2, g2⟩ := toE_Version x0 s0
  obtain ⟨K3, g3⟩ := toE_Version x1 s1
  have n0 : (to_Version x0).f3.length ≤ 9223372036854775807 := by
    show (x0.f3.map _).length ≤ _
    rw [List.length_map]; have := s0.1; omega
  have n1 : (to_Version x1).f3.length ≤ 9223372036854775807 := by
    show (x1.f3.map _).length ≤ _
    rw [List.length_map]; have := s1.1; omega
  obtain ⟨r, ⟨K4, g4⟩, ⟨K5, g5⟩⟩ := same (to_Version x0).f0 (to_Version x0).f1 (to_Version x0).f2 (to_Version x1).f0 (to_Version x1).f1 (to_Version x1).f2 (to_Version x0).f3 (to_Version x1).f3 n0
  obtain ⟨K6, g6⟩ := eq_Version (to_Version x0) n0
  obtain ⟨K7, g7⟩ := eq_Version (to_Version x1) n1
  obtain ⟨k, hk⟩ : ∃ k, K0 + K1 + K2 + K3 + K4 + K5 + K6 + K7 ≤ k := ⟨_, Nat.le_refl _⟩
  refine ⟨k, ?_⟩
  unfold laws_FnExactSameVersion.f
  simp only [g0 k (by omega), g1 k (by omega), g2 k (by omega), g3 k (by omega), g4 k (by omega), g5 k (by omega), g6 k (by omega), g7 k (by omega), Option.bind_some, if_neg c0, if_neg c1, bne_self_eq_false, Bool.false_eq_true, if_false, if_true]

end Go.Proofs.Ytnanphkenjneoaa.Pure
