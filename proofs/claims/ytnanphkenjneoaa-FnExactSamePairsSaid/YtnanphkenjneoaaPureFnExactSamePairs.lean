/- The program's SamePairs answers what the reference's answers: the pure statement, of all arguments. -/
import Derived.Test.YtnanphkenjneoaaPFnExactSamePairsx3
import Derived.Test.YtnanphkenjneoaaWLp
namespace Go.Proofs.Ytnanphkenjneoaa.Pure
open Go.RowKit Go.Proofs.Ytnanphkenjneoaa.PFnExactSamePairs Go.Proofs.YtnanphkenjneoaaW.PrintWords Go.Proofs.YtnanphkenjneoaaW.PrintLast Go.Proofs.YtnanphkenjneoaaW.PrintMore Go.Proofs.YtnanphkenjneoaaW.Lp

set_option linter.unusedVariables false
set_option linter.unusedSimpArgs false
def Sz_Pair (x : S86) : Prop := (x.f0.size ≤ 1048576) ∧ (x.f1.size ≤ 1048576)
def to_Pair (x : S86) : S87 := ⟨x.f0, x.f1⟩
theorem sz_Pair (x : S86) (a : Int) (h0 : 0 ≤ a) (h1 : a ≤ 1048576) (hf : fit86 x) : ∃ r : Int, (∃ K : Nat, ∀ k : Nat, K ≤ k → laws_szPair.f (x.f0) (x.f1) a = some r) ∧ r ≤ 1048576 ∧ (r < 0 ∨ 0 ≤ r ∧ Sz_Pair x) := by
  have w0 : x.f0.size ≤ 9223372036854775807 := hf.1
  by_cases c0 : wrap64 (a - (x.f0.size : Int)) < 0
  · exact ⟨-1, ⟨0, fun k hk => by unfold laws_szPair.f; rw [if_pos c0]⟩, by omega, .inl (by omega)⟩
  have e0 : wrap64 (a - (x.f0.size : Int)) = a - (x.f0.size : Int) := wrap_id (by omega) (by omega)
  have w1 : x.f1.size ≤ 9223372036854775807 := hf.2
  by_cases c1 : wrap64 (wrap64 (a - (x.f0.size : Int)) - (x.f1.size : Int)) < 0
  · exact ⟨-1, ⟨0, fun k hk => by unfold laws_szPair.f; rw [if_neg c0, if_pos c1]⟩, by omega, .inl (by omega)⟩
  have e1 : wrap64 (wrap64 (a - (x.f0.size : Int)) - (x.f1.size : Int)) = wrap64 (a - (x.f0.size : Int)) - (x.f1.size : Int) := wrap_id (by omega) (by omega)
  exact ⟨wrap64 (wrap64 (a - (x.f0.size : Int)) - (x.f1.size : Int)), ⟨0, fun k hk => by unfold laws_szPair.f; rw [if_neg c0, if_neg c1]⟩, by omega, .inr ⟨by omega, ⟨(by omega), (by omega)⟩⟩⟩
theorem sz_PairS_l0 (l : List S86) (hn : l.length ≤ 9223372036854775807) (hf : ∀ y, y ∈ l → fit86 y) : ∀ i, i ≤ l.length → ∀ a, 0 ≤ a → a ≤ 1048576 → ∃ r : Int, (∃ K : Nat, ∀ k : Nat, K ≤ k → laws_szPairS.l0 k l a (i : Int) = some r) ∧ r ≤ 1048576 ∧ (r < 0 ∨ 0 ≤ r ∧ ∀ y, y ∈ l.drop i → Sz_Pair y) := by
  refine down ?_ ?_
  · intro a h0 h1
    exact ⟨a, ⟨1, fun k hk => by obtain ⟨k, rfl⟩ : ∃ m, k = m + 1 := ⟨k - 1, by omega⟩; simp only [laws_szPairS.l0]; rw [if_neg (by omega)]⟩, h1, .inr ⟨h0, by simp⟩⟩
  · intro i hi ih a h0 h1
    have hm : l[i] ∈ l := List.getElem_mem hi
    have hr : rd_T86 l (i : Int) = l[i] := getD_nat l _ hi
    obtain ⟨r, ⟨K, g⟩, u, q⟩ := sz_Pair l[i] a h0 h1 (hf _ hm)
    by_cases c : r < 0
    · exact ⟨-1, ⟨K + 1, fun k hk => by obtain ⟨k, rfl⟩ : ∃ m, k = m + 1 := ⟨k - 1, by omega⟩; simp only [laws_szPairS.l0]; rw [if_pos (by omega), if_pos (by omega), hr, g k (by omega), Option.bind_some, if_pos c]⟩, by omega, .inl (by omega)⟩
    · obtain ⟨q0, q1⟩ := q.resolve_left c
      obtain ⟨r', ⟨K', g'⟩, u', q'⟩ := ih r q0 u
      refine ⟨r', ⟨K + K' + 1, fun k hk => by obtain ⟨k, rfl⟩ : ∃ m, k = m + 1 := ⟨k - 1, by omega⟩; simp only [laws_szPairS.l0]; rw [if_pos (by omega), if_pos (by omega), hr, g k (by omega), Option.bind_some, if_neg c, wrap_succ hi hn, g' k (by omega)]⟩, u', ?_⟩
      rcases q' with q' | ⟨q2, q3⟩
      · exact .inl q'
      · refine .inr ⟨q2, ?_⟩
        rw [drop_cons l hi]
        intro y hy
        rcases List.mem_cons.1 hy with rfl | hy
        · exact q1
        · exact q3 y hy
theorem sz_PairS (l : List S86) (a : Int) (h0 : 0 ≤ a) (h1 : a ≤ 1048576) (hf : (l.length ≤ 9223372036854775807 ∧ ∀ y0, y0 ∈ l → fit86 y0)) : ∃ r : Int, (∃ K : Nat, ∀ k : Nat, K ≤ k → laws_szPairS.f k l a = some r) ∧ r ≤ 1048576 ∧ (r < 0 ∨ 0 ≤ r ∧ (l.length ≤ 1048576 ∧ ∀ y0, y0 ∈ l → Sz_Pair y0)) := by
  have hn := hf.1
  by_cases c : wrap64 (a - (l.length : Int)) < 0
  · exact ⟨-1, ⟨0, fun k _ => by unfold laws_szPairS.f; rw [if_pos c]⟩, by omega, .inl (by omega)⟩
  · have e : wrap64 (a - (l.length : Int)) = a - (l.length : Int) := wrap_id (by omega) (by omega)
    obtain ⟨r, ⟨K, g⟩, u, q⟩ := sz_PairS_l0 l hn hf.2 0 (Nat.zero_le _) (wrap64 (a - (l.length : Int))) (by omega) (by omega)
    refine ⟨r, ⟨K, fun k hk => by unfold laws_szPairS.f; rw [if_neg c]; exact g k hk⟩, u, ?_⟩
    rcases q with q | ⟨q0, q1⟩
    · exact .inl q
    · exact .inr ⟨q0, by omega, fun y hy => q1 y (by simpa using hy)⟩
theorem toE_Pair (x : S86) (h : Sz_Pair x) : (∃ K : Nat, ∀ k : Nat, K ≤ k → laws_toPair.f (x.f0) (x.f1) = some ((to_Pair x).f0, (to_Pair x).f1)) := by
  exact ⟨0, fun k hk => by unfold laws_toPair.f; first | done | rfl⟩
theorem toE_PairS_l0 (l : List S86) (hn : l.length ≤ 1048576) (hs : ∀ y, y ∈ l → Sz_Pair y) : ∀ i, i ≤ l.length → ∀ o : List S87, o.length = l.length → o.take i = (l.take i).map to_Pair → (∃ K : Nat, ∀ k : Nat, K ≤ k → laws_toPairS.l0 k l o (i : Int) = some (l.map to_Pair)) := by
  refine down ?_ ?_
  · intro o ho ht
    rw [List.take_of_length_le (by omega), List.take_of_length_le (Nat.le_refl _)] at ht
    exact ⟨1, fun k hk => by obtain ⟨k, rfl⟩ : ∃ m, k = m + 1 := ⟨k - 1, by omega⟩; simp only [laws_toPairS.l0]; rw [if_neg (by omega), ht]⟩
  · intro i hi ih o ho ht
    have hr : rd_T86 l (i : Int) = l[i] := getD_nat l _ hi
    obtain ⟨K, g⟩ := toE_Pair l[i] (hs _ (List.getElem_mem hi))
    obtain ⟨K', g'⟩ := ih (o.set i (to_Pair l[i])) (by rw [List.length_set]; exact ho) (by rw [List.take_set, take_snoc o (by omega), ht, take_snoc l hi, List.map_append, List.set_append_right _ _ (by simp; omega)]; simp [Nat.min_eq_left (Nat.le_of_lt hi)])
    exact ⟨K + K' + 1, fun k hk => by obtain ⟨k, rfl⟩ : ∃ m, k = m + 1 := ⟨k - 1, by omega⟩; simp only [laws_toPairS.l0]; rw [if_pos (by omega), if_pos (by omega), hr, g k (by omega), Option.bind_some, if_pos (by omega), wrap_succ hi (by omega)]; exact g' k (by omega)⟩
theorem toE_PairS (l : List S86) (h : (l.length ≤ 1048576 ∧ ∀ y0, y0 ∈ l → Sz_Pair y0)) : (∃ K : Nat, ∀ k : Nat, K ≤ k → laws_toPairS.f k l = some (l.map to_Pair)) := by
  have hn : l.length ≤ 1048576 := h.1
  obtain ⟨K, g⟩ := toE_PairS_l0 l hn h.2 0 (Nat.zero_le _) (List.replicate ((l.length : Int)).toNat _) (by simp) (by simp)
  exact ⟨K, fun k hk => by unfold laws_toPairS.f; rw [if_pos (by omega), if_pos (by omega)]; exact g k hk⟩
theorem eq_Pair (x : S87) : (∃ K : Nat, ∀ k : Nat, K ≤ k → laws_eqPair.f (x.f0) (x.f1) (x.f0) (x.f1) = some true) := by
  exact ⟨0, fun k hk => by simp [laws_eqPair.f]⟩
theorem eq_PairS_l0 (l : List S87) (hn : l.length ≤ 9223372036854775807) : ∀ i, i ≤ l.length → (∃ K : Nat, ∀ k : Nat, K ≤ k → laws_eqPairS.l0 k l l (i : Int) = some true) := by
  refine down ?_ ?_
  · exact ⟨1, fun k hk => by obtain ⟨k, rfl⟩ : ∃ m, k = m + 1 := ⟨k - 1, by omega⟩; simp only [laws_eqPairS.l0]; rw [if_neg (by omega)]⟩
  · intro i hi ih
    obtain ⟨K', g'⟩ := ih
    have hr : rd_T87 l (i : Int) = l[i] := getD_nat l _ hi
    obtain ⟨K, g⟩ := eq_Pair l[i]
    exact ⟨K + K' + 1, fun k hk => by obtain ⟨k, rfl⟩ : ∃ m, k = m + 1 := ⟨k - 1, by omega⟩; simp only [laws_eqPairS.l0]; rw [if_pos (by omega), if_pos (by omega), if_pos (by omega), hr, g k (by omega), Option.bind_some, if_pos rfl, wrap_succ hi hn]; exact g' k (by omega)⟩
theorem eq_PairS (l : List S87) (h : l.length ≤ 9223372036854775807) : (∃ K : Nat, ∀ k : Nat, K ≤ k → laws_eqPairS.f k l l = some true) := by
  obtain ⟨K, g⟩ := eq_PairS_l0 l h 0 (Nat.zero_le _)
  exact ⟨K, fun k hk => by unfold laws_eqPairS.f; rw [if_pos rfl]; exact g k hk⟩

theorem same_l0 (a b : List S87) (hn : a.length ≤ 9223372036854775807) (he : a.length = b.length) : ∀ i, i ≤ a.length → ∃ r : Bool,
    (∃ K : Nat, ∀ k : Nat, K ≤ k → spec_SamePairs.l0 k a b (i : Int) = some r) ∧ (∃ K : Nat, ∀ k : Nat, K ≤ k → impl_Pair.l0 k a b (a.length : Int) (i : Int) = some r) := by
  refine down ?_ ?_
  · refine ⟨true, ⟨1, fun k hk => ?_⟩, ⟨1, fun k hk => ?_⟩⟩
    · obtain ⟨k, rfl⟩ : ∃ m, k = m + 1 := ⟨k - 1, by omega⟩
      simp only [spec_SamePairs.l0]; rw [if_neg (by omega)]
    · obtain ⟨k, rfl⟩ : ∃ m, k = m + 1 := ⟨k - 1, by omega⟩
      simp only [impl_Pair.l0]; rw [if_neg (by omega)]
  · intro i hi ⟨r, ⟨K1, g1⟩, ⟨K2, g2⟩⟩
    by_cases c : (!((rd_T87 a (i : Int)).f0.toList == (rd_T87 b (i : Int)).f0.toList) || !((rd_T87 a (i : Int)).f1.toList == (rd_T87 b (i : Int)).f1.toList)) = true
    · refine ⟨false, ⟨1, fun k hk => ?_⟩, ⟨1, fun k hk => ?_⟩⟩
      · obtain ⟨k, rfl⟩ : ∃ m, k = m + 1 := ⟨k - 1, by omega⟩
        simp only [spec_SamePairs.l0]; rw [if_pos (by omega), if_pos (by omega), if_pos (by omega), if_pos c]
      · obtain ⟨k, rfl⟩ : ∃ m, k = m + 1 := ⟨k - 1, by omega⟩
        simp only [impl_Pair.l0]; rw [if_pos (by omega), if_pos (by omega), if_pos (by omega), if_pos (by omega), if_pos c]
    · refine ⟨r, ⟨K1 + 1, fun k hk => ?_⟩, ⟨K2 + 1, fun k hk => ?_⟩⟩
      · obtain ⟨k, rfl⟩ : ∃ m, k = m + 1 := ⟨k - 1, by omega⟩
        simp only [spec_SamePairs.l0]; rw [if_pos (by omega), if_pos (by omega), if_pos (by omega), if_neg c, wrap_succ hi hn]; exact g1 k (by omega)
      · obtain ⟨k, rfl⟩ : ∃ m, k = m + 1 := ⟨k - 1, by omega⟩
        simp only [impl_Pair.l0]; rw [if_pos (by omega), if_pos (by omega), if_pos (by omega), if_pos (by omega), if_neg c, wrap_succ hi hn]; exact g2 k (by omega)

theorem same (a b : List S87) (hn : a.length ≤ 9223372036854775807) : ∃ r : Bool,
    (∃ K : Nat, ∀ k : Nat, K ≤ k → spec_SamePairs.f k a b = some r) ∧ (∃ K : Nat, ∀ k : Nat, K ≤ k → impl_SamePairs.f k a b = some r) := by
  by_cases he : (a.length : Int) = (b.length : Int)
  · obtain ⟨r, ⟨K1, g1⟩, ⟨K2, g2⟩⟩ := same_l0 a b hn (by omega) 0 (Nat.zero_le _)
    refine ⟨r, ⟨K1, fun k hk => ?_⟩, ⟨K2, fun k hk => ?_⟩⟩
    · unfold spec_SamePairs.f; rw [if_pos he]; exact g1 k hk
    · unfold impl_SamePairs.f impl_Pair.f; rw [if_pos he, show impl_Pair.l0 k a b (a.length : Int) 0 = some r from g2 k hk]; rfl
  · refine ⟨false, ⟨0, fun k hk => ?_⟩, ⟨0, fun k hk => ?_⟩⟩
    · unfold spec_SamePairs.f; rw [if_neg he]
    · unfold impl_SamePairs.f impl_Pair.f; rw [if_neg he]; rfl

theorem FnExactSamePairs : laws_FnExactSamePairs.Pure := by
  intro x0 x1 h0 h1
  obtain ⟨r0, ⟨K0, g0⟩, u0, q0⟩ := sz_PairS x0 1048576 (by omega) (by omega) h0
  by_cases c0 : r0 < 0
  · exact ⟨K0, by unfold laws_FnExactSamePairs.f; rw [g0 _ (Nat.le_refl _), Option.bind_some, if_pos c0]⟩
  obtain ⟨p0, s0⟩ := q0.resolve_left c0
  obtain ⟨r1, ⟨K1, g1⟩, u1, q1⟩ := sz_PairS x1 r0 p0 u0 h1
  by_cases c1 : r1 < 0
  · exact ⟨K0 + K1, by unfold laws_FnExactSamePairs.f; rw [g0 _ (by omega), Option.bind_some, if_neg c0, g1 _ (by omega), Option.bind_some, if_pos c1]⟩
  obtain ⟨p1, s1⟩ := q1.resolve_left c1
  obtain ⟨K2, g2⟩ := toE_PairS x0 s0
  obtain ⟨K3, g3⟩ := toE_PairS x1 s1
  have n0 := s0.1
  have n1 := s1.1
  obtain ⟨r, ⟨K4, g4⟩, ⟨K5, g5⟩⟩ := same (x0.map to_Pair) (x1.map to_Pair) (by rw [List.length_map]; omega)
  obtain ⟨K6, g6⟩ := eq_PairS (x0.map to_Pair) (by rw [List.length_map]; omega)
  obtain ⟨K7, g7⟩ := eq_PairS (x1.map to_Pair) (by rw [List.length_map]; omega)
  refine ⟨K0 + K1 + K2 + K3 + K4 + K5 + K6 + K7, ?_⟩
  unfold laws_FnExactSamePairs.f
  simp only [g0 (K0 + K1 + K2 + K3 + K4 + K5 + K6 + K7) (by omega), g1 (K0 + K1 + K2 + K3 + K4 + K5 + K6 + K7) (by omega), g2 (K0 + K1 + K2 + K3 + K4 + K5 + K6 + K7) (by omega), g3 (K0 + K1 + K2 + K3 + K4 + K5 + K6 + K7) (by omega), g4 (K0 + K1 + K2 + K3 + K4 + K5 + K6 + K7) (by omega), g5 (K0 + K1 + K2 + K3 + K4 + K5 + K6 + K7) (by omega), g6 (K0 + K1 + K2 + K3 + K4 + K5 + K6 + K7) (by omega), g7 (K0 + K1 + K2 + K3 + K4 + K5 + K6 + K7) (by omega), Option.bind_some, if_neg c0, if_neg c1, bne_self_eq_false, Bool.false_eq_true, if_false, if_true]

end Go.Proofs.Ytnanphkenjneoaa.Pure
