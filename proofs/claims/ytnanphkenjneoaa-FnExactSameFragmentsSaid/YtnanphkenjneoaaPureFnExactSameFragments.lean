/- The program's SameFragments answers what the reference's answers: the pure statement, of all arguments. -/
import Derived.Test.YtnanphkenjneoaaPFnExactSameFragmentsx4
import Derived.Test.YtnanphkenjneoaaWLp
namespace Go.Proofs.Ytnanphkenjneoaa.Pure
open Go.RowKit Go.Proofs.Ytnanphkenjneoaa.PFnExactSameFragments Go.Proofs.YtnanphkenjneoaaW.PrintWords Go.Proofs.YtnanphkenjneoaaW.PrintLast Go.Proofs.YtnanphkenjneoaaW.PrintMore Go.Proofs.YtnanphkenjneoaaW.Lp

set_option linter.unusedVariables false
set_option linter.unusedSimpArgs false
theorem sz_Int64S (l : List Int) (a : Int) (h0 : 0 ≤ a) (h1 : a ≤ 1048576) (hf : (l.length ≤ 9223372036854775807 ∧ ∀ y0, y0 ∈ l → (Lit.int .i64 y0).wf = true)) : ∃ r : Int, (∃ K : Nat, ∀ k : Nat, K ≤ k → laws_szInt64S.f l a = some r) ∧ r ≤ 1048576 ∧ (r < 0 ∨ 0 ≤ r ∧ l.length ≤ 1048576) := by
  have hn := hf.1
  by_cases c : wrap64 (a - (l.length : Int)) < 0
  · exact ⟨-1, ⟨0, fun k _ => by unfold laws_szInt64S.f; rw [if_pos c]⟩, by omega, .inl (by omega)⟩
  · have e : wrap64 (a - (l.length : Int)) = a - (l.length : Int) := wrap_id (by omega) (by omega)
    exact ⟨_, ⟨0, fun k _ => by unfold laws_szInt64S.f; rw [if_neg c]⟩, by omega, .inr ⟨by omega, by omega⟩⟩
def Sz_Fragment (x : S112) : Prop := (x.f0.size ≤ 1048576) ∧ (x.f1.size ≤ 1048576) ∧ (x.f2.length ≤ 1048576)
def to_Fragment (x : S112) : S113 := ⟨x.f0, x.f1, x.f2⟩
theorem sz_Fragment (x : S112) (a : Int) (h0 : 0 ≤ a) (h1 : a ≤ 1048576) (hf : fit112 x) : ∃ r : Int, (∃ K : Nat, ∀ k : Nat, K ≤ k → laws_szFragment.f (x.f0) (x.f1) (x.f2) a = some r) ∧ r ≤ 1048576 ∧ (r < 0 ∨ 0 ≤ r ∧ Sz_Fragment x) := by
  have w0 : x.f0.size ≤ 9223372036854775807 := hf.1
  by_cases c0 : wrap64 (a - (x.f0.size : Int)) < 0
  · exact ⟨-1, ⟨0, fun k hk => by unfold laws_szFragment.f; rw [if_pos c0]⟩, by omega, .inl (by omega)⟩
  have e0 : wrap64 (a - (x.f0.size : Int)) = a - (x.f0.size : Int) := wrap_id (by omega) (by omega)
  have w1 : x.f1.size ≤ 9223372036854775807 := hf.2.1
  by_cases c1 : wrap64 (wrap64 (a - (x.f0.size : Int)) - (x.f1.size : Int)) < 0
  · exact ⟨-1, ⟨0, fun k hk => by unfold laws_szFragment.f; rw [if_neg c0, if_pos c1]⟩, by omega, .inl (by omega)⟩
  have e1 : wrap64 (wrap64 (a - (x.f0.size : Int)) - (x.f1.size : Int)) = wrap64 (a - (x.f0.size : Int)) - (x.f1.size : Int) := wrap_id (by omega) (by omega)
  obtain ⟨r2, ⟨K2, g2⟩, u2, q2⟩ := sz_Int64S x.f2 (wrap64 (wrap64 (a - (x.f0.size : Int)) - (x.f1.size : Int))) (by omega) (by omega) hf.2.2
  by_cases c2 : r2 < 0
  · exact ⟨-1, ⟨K2, fun k hk => by unfold laws_szFragment.f; rw [if_neg c0, if_neg c1, g2 k (by omega), Option.bind_some, if_pos c2]⟩, by omega, .inl (by omega)⟩
  obtain ⟨v2, q2⟩ := q2.resolve_left c2
  exact ⟨r2, ⟨K2, fun k hk => by unfold laws_szFragment.f; rw [if_neg c0, if_neg c1, g2 k (by omega), Option.bind_some, if_neg c2]⟩, by omega, .inr ⟨by omega, ⟨(by omega), (by omega), q2⟩⟩⟩
theorem sz_FragmentS_l0 (l : List S112) (hn : l.length ≤ 9223372036854775807) (hf : ∀ y, y ∈ l → fit112 y) : ∀ i, i ≤ l.length → ∀ a, 0 ≤ a → a ≤ 1048576 → ∃ r : Int, (∃ K : Nat, ∀ k : Nat, K ≤ k → laws_szFragmentS.l0 k l a (i : Int) = some r) ∧ r ≤ 1048576 ∧ (r < 0 ∨ 0 ≤ r ∧ ∀ y, y ∈ l.drop i → Sz_Fragment y) := by
  refine down ?_ ?_
  · intro a h0 h1
    exact ⟨a, ⟨1, fun k hk => by obtain ⟨k, rfl⟩ : ∃ m, k = m + 1 := ⟨k - 1, by omega⟩; simp only [laws_szFragmentS.l0]; rw [if_neg (by omega)]⟩, h1, .inr ⟨h0, by simp⟩⟩
  · intro i hi ih a h0 h1
    have hm : l[i] ∈ l := List.getElem_mem hi
    have hr : rd_T112 l (i : Int) = l[i] := getD_nat l _ hi
    obtain ⟨r, ⟨K, g⟩, u, q⟩ := sz_Fragment l[i] a h0 h1 (hf _ hm)
    by_cases c : r < 0
    · exact ⟨-1, ⟨K + 1, fun k hk => by obtain ⟨k, rfl⟩ : ∃ m, k = m + 1 := ⟨k - 1, by omega⟩; simp only [laws_szFragmentS.l0]; rw [if_pos (by omega), if_pos (by omega), hr, g k (by omega), Option.bind_some, if_pos c]⟩, by omega, .inl (by omega)⟩
    · obtain ⟨q0, q1⟩ := q.resolve_left c
      obtain ⟨r', ⟨K', g'⟩, u', q'⟩ := ih r q0 u
      refine ⟨r', ⟨K + K' + 1, fun k hk => by obtain ⟨k, rfl⟩ : ∃ m, k = m + 1 := ⟨k - 1, by omega⟩; simp only [laws_szFragmentS.l0]; rw [if_pos (by omega), if_pos (by omega), hr, g k (by omega), Option.bind_some, if_neg c, wrap_succ hi hn, g' k (by omega)]⟩, u', ?_⟩
      rcases q' with q' | ⟨q2, q3⟩
      · exact .inl q'
      · refine .inr ⟨q2, ?_⟩
        rw [drop_cons l hi]
        intro y hy
        rcases List.mem_cons.1 hy with rfl | hy
        · exact q1
        · exact q3 y hy
theorem sz_FragmentS (l : List S112) (a : Int) (h0 : 0 ≤ a) (h1 : a ≤ 1048576) (hf : (l.length ≤ 9223372036854775807 ∧ ∀ y0, y0 ∈ l → fit112 y0)) : ∃ r : Int, (∃ K : Nat, ∀ k : Nat, K ≤ k → laws_szFragmentS.f k l a = some r) ∧ r ≤ 1048576 ∧ (r < 0 ∨ 0 ≤ r ∧ (l.length ≤ 1048576 ∧ ∀ y0, y0 ∈ l → Sz_Fragment y0)) := by
  have hn := hf.1
  by_cases c : wrap64 (a - (l.length : Int)) < 0
  · exact ⟨-1, ⟨0, fun k _ => by unfold laws_szFragmentS.f; rw [if_pos c]⟩, by omega, .inl (by omega)⟩
  · have e : wrap64 (a - (l.length : Int)) = a - (l.length : Int) := wrap_id (by omega) (by omega)
    obtain ⟨r, ⟨K, g⟩, u, q⟩ := sz_FragmentS_l0 l hn hf.2 0 (Nat.zero_le _) (wrap64 (a - (l.length : Int))) (by omega) (by omega)
    refine ⟨r, ⟨K, fun k hk => by unfold laws_szFragmentS.f; rw [if_neg c]; exact g k hk⟩, u, ?_⟩
    rcases q with q | ⟨q0, q1⟩
    · exact .inl q
    · exact .inr ⟨q0, by omega, fun y hy => q1 y (by simpa using hy)⟩
theorem toE_Int64S_l0 (l : List Int) (hn : l.length ≤ 1048576) : ∀ i, i ≤ l.length → ∀ o : List Int, o.length = l.length → o.take i = l.take i → (∃ K : Nat, ∀ k : Nat, K ≤ k → laws_toInt64S.l0 k l o (i : Int) = some (l)) := by
  refine down ?_ ?_
  · intro o ho ht
    rw [List.take_of_length_le (by omega), List.take_of_length_le (Nat.le_refl _)] at ht
    exact ⟨1, fun k hk => by obtain ⟨k, rfl⟩ : ∃ m, k = m + 1 := ⟨k - 1, by omega⟩; simp only [laws_toInt64S.l0]; rw [if_neg (by omega), ht]⟩
  · intro i hi ih o ho ht
    have hr : rd l (i : Int) = l[i] := rd_nat l hi
    obtain ⟨K', g'⟩ := ih (o.set i (l[i])) (by rw [List.length_set]; exact ho) (by rw [List.take_set, take_snoc o (by omega), ht, take_snoc l hi, List.set_append_right _ _ (by simp; omega)]; simp [Nat.min_eq_left (Nat.le_of_lt hi)])
    exact ⟨K' + 1, fun k hk => by obtain ⟨k, rfl⟩ : ∃ m, k = m + 1 := ⟨k - 1, by omega⟩; simp only [laws_toInt64S.l0]; rw [if_pos (by omega), if_pos (by omega), hr, if_pos (by omega), wrap_succ hi (by omega)]; exact g' k (by omega)⟩
theorem toE_Int64S (l : List Int) (h : l.length ≤ 1048576) : (∃ K : Nat, ∀ k : Nat, K ≤ k → laws_toInt64S.f k l = some (l)) := by
  have hn : l.length ≤ 1048576 := h
  obtain ⟨K, g⟩ := toE_Int64S_l0 l hn 0 (Nat.zero_le _) (List.replicate ((l.length : Int)).toNat _) (by simp) (by simp)
  exact ⟨K, fun k hk => by unfold laws_toInt64S.f; rw [if_pos (by omega), if_pos (by omega)]; exact g k hk⟩
theorem toE_Fragment (x : S112) (h : Sz_Fragment x) : (∃ K : Nat, ∀ k : Nat, K ≤ k → laws_toFragment.f k (x.f0) (x.f1) (x.f2) = some ((to_Fragment x).f0, (to_Fragment x).f1, (to_Fragment x).f2)) := by
  obtain ⟨K2, g2⟩ := toE_Int64S x.f2 (h.2.2)
  exact ⟨K2, fun k hk => by unfold laws_toFragment.f; rw [g2 k (by omega), Option.bind_some]; first | done | rfl⟩
theorem toE_FragmentS_l0 (l : List S112) (hn : l.length ≤ 1048576) (hs : ∀ y, y ∈ l → Sz_Fragment y) : ∀ i, i ≤ l.length → ∀ o : List S113, o.length = l.length → o.take i = (l.take i).map to_Fragment → (∃ K : Nat, ∀ k : Nat, K ≤ k → laws_toFragmentS.l0 k l o (i : Int) = some (l.map to_Fragment)) := by
  refine down ?_ ?_
  · intro o ho ht
    rw [List.take_of_length_le (by omega), List.take_of_length_le (Nat.le_refl _)] at ht
    exact ⟨1, fun k hk => by obtain ⟨k, rfl⟩ : ∃ m, k = m + 1 := ⟨k - 1, by omega⟩; simp only [laws_toFragmentS.l0]; rw [if_neg (by omega), ht]⟩
  · intro i hi ih o ho ht
    have hr : rd_T112 l (i : Int) = l[i] := getD_nat l _ hi
    obtain ⟨K, g⟩ := toE_Fragment l[i] (hs _ (List.getElem_mem hi))
    obtain ⟨K', g'⟩ := ih (o.set i (to_Fragment l[i])) (by rw [List.length_set]; exact ho) (by rw [List.take_set, take_snoc o (by omega), ht, take_snoc l hi, List.map_append, List.set_append_right _ _ (by simp; omega)]; simp [Nat.min_eq_left (Nat.le_of_lt hi)])
    exact ⟨K + K' + 1, fun k hk => by obtain ⟨k, rfl⟩ : ∃ m, k = m + 1 := ⟨k - 1, by omega⟩; simp only [laws_toFragmentS.l0]; rw [if_pos (by omega), if_pos (by omega), hr, g k (by omega), Option.bind_some, if_pos (by omega), wrap_succ hi (by omega)]; exact g' k (by omega)⟩
theorem toE_FragmentS (l : List S112) (h : (l.length ≤ 1048576 ∧ ∀ y0, y0 ∈ l → Sz_Fragment y0)) : (∃ K : Nat, ∀ k : Nat, K ≤ k → laws_toFragmentS.f k l = some (l.map to_Fragment)) := by
  have hn : l.length ≤ 1048576 := h.1
  obtain ⟨K, g⟩ := toE_FragmentS_l0 l hn h.2 0 (Nat.zero_le _) (List.replicate ((l.length : Int)).toNat _) (by simp) (by simp)
  exact ⟨K, fun k hk => by unfold laws_toFragmentS.f; rw [if_pos (by omega), if_pos (by omega)]; exact g k hk⟩
theorem eq_Int64S_l0 (l : List Int) (hn : l.length ≤ 9223372036854775807) : ∀ i, i ≤ l.length → (∃ K : Nat, ∀ k : Nat, K ≤ k → laws_eqInt64S.l0 k l l (i : Int) = some true) := by
  refine down ?_ ?_
  · exact ⟨1, fun k hk => by obtain ⟨k, rfl⟩ : ∃ m, k = m + 1 := ⟨k - 1, by omega⟩; simp only [laws_eqInt64S.l0]; rw [if_neg (by omega)]⟩
  · intro i hi ih
    obtain ⟨K', g'⟩ := ih
    exact ⟨K' + 1, fun k hk => by obtain ⟨k, rfl⟩ : ∃ m, k = m + 1 := ⟨k - 1, by omega⟩; simp only [laws_eqInt64S.l0]; rw [if_pos (by omega), if_pos (by omega), if_pos (by omega), if_pos (by trivial), wrap_succ hi hn]; exact g' k (by omega)⟩
theorem eq_Int64S (l : List Int) (h : l.length ≤ 9223372036854775807) : (∃ K : Nat, ∀ k : Nat, K ≤ k → laws_eqInt64S.f k l l = some true) := by
  obtain ⟨K, g⟩ := eq_Int64S_l0 l h 0 (Nat.zero_le _)
  exact ⟨K, fun k hk => by unfold laws_eqInt64S.f; rw [if_pos rfl]; exact g k hk⟩
def Eq_Fragment (x : S113) : Prop := (x.f2.length ≤ 9223372036854775807)
theorem eq_Fragment (x : S113) (h : Eq_Fragment x) : (∃ K : Nat, ∀ k : Nat, K ≤ k → laws_eqFragment.f k (x.f0) (x.f1) (x.f2) (x.f0) (x.f1) (x.f2) = some true) := by
  obtain ⟨K2, g2⟩ := eq_Int64S x.f2 (h)
  exact ⟨K2, fun k hk => by simp [laws_eqFragment.f, g2 k (by omega)]⟩
theorem eq_FragmentS_l0 (l : List S113) (hn : l.length ≤ 9223372036854775807) (hs : ∀ y, y ∈ l → Eq_Fragment y) : ∀ i, i ≤ l.length → (∃ K : Nat, ∀ k : Nat, K ≤ k → laws_eqFragmentS.l0 k l l (i : Int) = some true) := by
  refine down ?_ ?_
  · exact ⟨1, fun k hk => by obtain ⟨k, rfl⟩ : ∃ m, k = m + 1 := ⟨k - 1, by omega⟩; simp only [laws_eqFragmentS.l0]; rw [if_neg (by omega)]⟩
  · intro i hi ih
    obtain ⟨K', g'⟩ := ih
    have hr : rd_T113 l (i : Int) = l[i] := getD_nat l _ hi
    obtain ⟨K, g⟩ := eq_Fragment l[i] (hs _ (List.getElem_mem hi))
    exact ⟨K + K' + 1, fun k hk => by obtain ⟨k, rfl⟩ : ∃ m, k = m + 1 := ⟨k - 1, by omega⟩; simp only [laws_eqFragmentS.l0]; rw [if_pos (by omega), if_pos (by omega), if_pos (by omega), hr, g k (by omega), Option.bind_some, if_pos rfl, wrap_succ hi hn]; exact g' k (by omega)⟩
theorem eq_FragmentS (l : List S113) (h : (l.length ≤ 9223372036854775807 ∧ ∀ z0, z0 ∈ l → Eq_Fragment z0)) : (∃ K : Nat, ∀ k : Nat, K ≤ k → laws_eqFragmentS.f k l l = some true) := by
  obtain ⟨K, g⟩ := eq_FragmentS_l0 l h.1 h.2 0 (Nat.zero_le _)
  exact ⟨K, fun k hk => by unfold laws_eqFragmentS.f; rw [if_pos rfl]; exact g k hk⟩
theorem seqs_l0 (a b : List Int) (hn : a.length ≤ 9223372036854775807) (he : a.length = b.length) : ∀ i, i ≤ a.length → ∃ r : Bool,
    (∃ K : Nat, ∀ k : Nat, K ≤ k → spec_l23SameSeqs.l0 k a b (i : Int) = some r) ∧ (∃ K : Nat, ∀ k : Nat, K ≤ k → slices_Equal_int64_int64.l0 k a b (a.length : Int) (i : Int) = some r) := by
  refine down ?_ ?_
  · refine ⟨true, ⟨1, fun k hk => ?_⟩, ⟨1, fun k hk => ?_⟩⟩
    · obtain ⟨k, rfl⟩ : ∃ m, k = m + 1 := ⟨k - 1, by omega⟩
      simp only [spec_l23SameSeqs.l0]; rw [if_neg (by omega)]
    · obtain ⟨k, rfl⟩ : ∃ m, k = m + 1 := ⟨k - 1, by omega⟩
      simp only [slices_Equal_int64_int64.l0]; rw [if_neg (by omega)]
  · intro i hi ⟨r, ⟨K1, g1⟩, ⟨K2, g2⟩⟩
    by_cases c : rd a (i : Int) = rd b (i : Int)
    · refine ⟨r, ⟨K1 + 1, fun k hk => ?_⟩, ⟨K2 + 1, fun k hk => ?_⟩⟩
      · obtain ⟨k, rfl⟩ : ∃ m, k = m + 1 := ⟨k - 1, by omega⟩
        simp only [spec_l23SameSeqs.l0]; rw [if_pos (by omega), if_pos (by omega), if_pos (by omega), if_pos c, wrap_succ hi hn]; exact g1 k (by omega)
      · obtain ⟨k, rfl⟩ : ∃ m, k = m + 1 := ⟨k - 1, by omega⟩
        simp only [slices_Equal_int64_int64.l0]; rw [if_pos (by omega), if_pos (by omega), if_pos (by omega), if_pos (by omega), if_pos c, wrap_succ hi hn]; exact g2 k (by omega)
    · refine ⟨false, ⟨1, fun k hk => ?_⟩, ⟨1, fun k hk => ?_⟩⟩
      · obtain ⟨k, rfl⟩ : ∃ m, k = m + 1 := ⟨k - 1, by omega⟩
        simp only [spec_l23SameSeqs.l0]; rw [if_pos (by omega), if_pos (by omega), if_pos (by omega), if_neg c]
      · obtain ⟨k, rfl⟩ : ∃ m, k = m + 1 := ⟨k - 1, by omega⟩
        simp only [slices_Equal_int64_int64.l0]; rw [if_pos (by omega), if_pos (by omega), if_pos (by omega), if_pos (by omega), if_neg c]
theorem seqs (a b : List Int) (hn : a.length ≤ 9223372036854775807) : ∃ r : Bool,
    (∃ K : Nat, ∀ k : Nat, K ≤ k → spec_l23SameSeqs.f k a b = some r) ∧ (∃ K : Nat, ∀ k : Nat, K ≤ k → slices_Equal_int64_int64.f k a b = some r) := by
  by_cases he : (a.length : Int) = (b.length : Int)
  · obtain ⟨r, ⟨K1, g1⟩, ⟨K2, g2⟩⟩ := seqs_l0 a b hn (by omega) 0 (Nat.zero_le _)
    refine ⟨r, ⟨K1, fun k hk => ?_⟩, ⟨K2, fun k hk => ?_⟩⟩
    · unfold spec_l23SameSeqs.f; rw [if_pos he]; exact g1 k hk
    · unfold slices_Equal_int64_int64.f; rw [if_pos he]; exact g2 k hk
  · refine ⟨false, ⟨0, fun k hk => ?_⟩, ⟨0, fun k hk => ?_⟩⟩
    · unfold spec_l23SameSeqs.f; rw [if_neg he]
    · unfold slices_Equal_int64_int64.f; rw [if_neg he]


theorem frag (x y : S113) (hn : x.f2.length ≤ 9223372036854775807) : ∃ r : Bool,
    (if x.f0.toList = y.f0.toList then (if x.f1.toList = y.f1.toList then ∃ K : Nat, ∀ k : Nat, K ≤ k → spec_l23SameSeqs.f k x.f2 y.f2 = some r else r = false) else r = false) ∧
    (∃ K : Nat, ∀ k : Nat, K ≤ k → impl_sameFragment.f k x.f0 x.f1 x.f2 y.f0 y.f1 y.f2 = some r) := by
  by_cases c0 : x.f0.toList = y.f0.toList
  · by_cases c1 : x.f1.toList = y.f1.toList
    · obtain ⟨r, h1, ⟨K2, g2⟩⟩ := seqs x.f2 y.f2 hn
      refine ⟨r, by rw [if_pos c0, if_pos c1]; exact h1, ⟨K2, fun k hk => ?_⟩⟩
      unfold impl_sameFragment.f; rw [if_pos c0, if_pos c1, g2 k hk]; rfl
    · exact ⟨false, by rw [if_pos c0, if_neg c1], ⟨0, fun k hk => by unfold impl_sameFragment.f; rw [if_pos c0, if_neg c1]⟩⟩
  · exact ⟨false, by rw [if_neg c0], ⟨0, fun k hk => by unfold impl_sameFragment.f; rw [if_neg c0]⟩⟩

/-- The program's loop, whatever stands for the comparison at k rounds, from some round on. -/
theorem same_l0 (a b : List S113) (hs : ∀ y, y ∈ a → y.f2.length ≤ 9223372036854775807) (hn : a.length ≤ 9223372036854775807) (he : a.length = b.length) : ∀ i, i ≤ a.length → ∃ r : Bool,
    (∃ K : Nat, ∀ k : Nat, K ≤ k → spec_SameFragments.l0 k a b (i : Int) = some r) ∧
    (∃ K : Nat, ∀ q : Nat, K ≤ q → ∀ k : Nat, K ≤ k → impl_Fragment.l0 k b (fun y0_ y1_ y2_ y3_ y4_ y5_ => impl_sameFragment.f q y0_ y1_ y2_ y3_ y4_ y5_) a (a.length : Int) (i : Int) = some r) := by
  refine down ?_ ?_
  · refine ⟨true, ⟨1, fun k hk => ?_⟩, ⟨1, fun q hq k hk => ?_⟩⟩
    · obtain ⟨k, rfl⟩ : ∃ m, k = m + 1 := ⟨k - 1, by omega⟩
      simp only [spec_SameFragments.l0]; rw [if_neg (by omega)]
    · obtain ⟨k, rfl⟩ : ∃ m, k = m + 1 := ⟨k - 1, by omega⟩
      simp only [impl_Fragment.l0]; rw [if_neg (by omega)]
  · intro i hi ⟨r, ⟨K1, g1⟩, ⟨K2, g2⟩⟩
    have ha : rd_T113 a (i : Int) = a[i] := getD_nat a _ hi
    have hb : rd_T113 b (i : Int) = b[i] := getD_nat b _ (by omega)
    obtain ⟨s, hsp, ⟨K3, g3⟩⟩ := frag a[i] b[i] (hs _ (List.getElem_mem hi))
    have him : ∀ q : Nat, K3 ≤ q → ∀ k : Nat, impl_Fragment.l0 (k + 1) b (fun y0_ y1_ y2_ y3_ y4_ y5_ => impl_sameFragment.f q y0_ y1_ y2_ y3_ y4_ y5_) a (a.length : Int) (i : Int) = if s = true then impl_Fragment.l0 k b (fun y0_ y1_ y2_ y3_ y4_ y5_ => impl_sameFragment.f q y0_ y1_ y2_ y3_ y4_ y5_) a (a.length : Int) ((i + 1 : Nat) : Int) else some false := fun q hq k => by
      simp only [impl_Fragment.l0]
      rw [if_pos (by omega), if_pos (by omega), if_pos (by omega), if_pos (by omega), ha, hb, g3 q hq, Option.bind_some, wrap_succ hi hn]
    have hsc : ∃ K : Nat, ∀ k : Nat, K ≤ k → spec_SameFragments.l0 (k + 1) a b (i : Int) = if s = true then spec_SameFragments.l0 k a b ((i + 1 : Nat) : Int) else some false := by
      by_cases c0 : a[i].f0.toList = b[i].f0.toList
      · by_cases c1 : a[i].f1.toList = b[i].f1.toList
        · rw [if_pos c0, if_pos c1] at hsp
          obtain ⟨K4, g4⟩ := hsp
          refine ⟨K4, fun k hk => ?_⟩
          simp only [spec_SameFragments.l0]
          rw [if_pos (by omega), if_pos (by omega), if_pos (by omega), ha, hb, if_pos c0, if_pos c1, g4 k hk, Option.bind_some, wrap_succ hi hn]
        · rw [if_pos c0, if_neg c1] at hsp
          subst hsp
          refine ⟨0, fun k hk => ?_⟩
          simp only [spec_SameFragments.l0]
          rw [if_pos (by omega), if_pos (by omega), if_pos (by omega), ha, hb, if_pos c0, if_neg c1, if_neg (by decide)]
      · rw [if_neg c0] at hsp
        subst hsp
        refine ⟨0, fun k hk => ?_⟩
        simp only [spec_SameFragments.l0]
        rw [if_pos (by omega), if_pos (by omega), if_pos (by omega), ha, hb, if_neg c0, if_neg (by decide)]
    obtain ⟨K5, g5⟩ := hsc
    cases s with
    | true =>
      refine ⟨r, ⟨K1 + K5 + 1, fun k hk => ?_⟩, ⟨K2 + K3 + 1, fun q hq k hk => ?_⟩⟩
      · obtain ⟨k, rfl⟩ : ∃ m, k = m + 1 := ⟨k - 1, by omega⟩
        rw [g5 k (by omega), if_pos rfl]; exact g1 k (by omega)
      · obtain ⟨k, rfl⟩ : ∃ m, k = m + 1 := ⟨k - 1, by omega⟩
        rw [him q (by omega) k, if_pos rfl]; exact g2 q (by omega) k (by omega)
    | false =>
      refine ⟨false, ⟨K1 + K5 + 1, fun k hk => ?_⟩, ⟨K2 + K3 + 1, fun q hq k hk => ?_⟩⟩
      · obtain ⟨k, rfl⟩ : ∃ m, k = m + 1 := ⟨k - 1, by omega⟩
        rw [g5 k (by omega), if_neg (by decide)]
      · obtain ⟨k, rfl⟩ : ∃ m, k = m + 1 := ⟨k - 1, by omega⟩
        rw [him q (by omega) k, if_neg (by decide)]

theorem same (a b : List S113) (hs : ∀ y, y ∈ a → y.f2.length ≤ 9223372036854775807) (hn : a.length ≤ 9223372036854775807) : ∃ r : Bool,
    (∃ K : Nat, ∀ k : Nat, K ≤ k → spec_SameFragments.f k a b = some r) ∧ (∃ K : Nat, ∀ k : Nat, K ≤ k → impl_SameFragments.f k a b = some r) := by
  by_cases he : (a.length : Int) = (b.length : Int)
  · obtain ⟨r, ⟨K1, g1⟩, ⟨K2, g2⟩⟩ := same_l0 a b hs hn (by omega) 0 (Nat.zero_le _)
    refine ⟨r, ⟨K1, fun k hk => ?_⟩, ⟨K2, fun k hk => ?_⟩⟩
    · unfold spec_SameFragments.f; rw [if_pos he]; exact g1 k hk
    · unfold impl_SameFragments.f impl_Fragment.f; rw [if_pos he, show impl_Fragment.l0 k b (fun y0_ y1_ y2_ y3_ y4_ y5_ => impl_sameFragment.f k y0_ y1_ y2_ y3_ y4_ y5_) a (a.length : Int) 0 = some r from g2 k hk k hk]; rfl
  · refine ⟨false, ⟨0, fun k hk => ?_⟩, ⟨0, fun k hk => ?_⟩⟩
    · unfold spec_SameFragments.f; rw [if_neg he]
    · unfold impl_SameFragments.f impl_Fragment.f; rw [if_neg he]; rfl

theorem FnExactSameFragments : laws_FnExactSameFragments.Pure := by
  intro x0 x1 h0 h1
  obtain ⟨r0, ⟨K0, g0⟩, u0, q0⟩ := sz_FragmentS x0 1048576 (by omega) (by omega) h0
  by_cases c0 : r0 < 0
  · exact ⟨K0, by unfold laws_FnExactSameFragments.f; rw [g0 _ (Nat.le_refl _), Option.bind_some, if_pos c0]⟩
  obtain ⟨p0, s0⟩ := q0.resolve_left c0
  obtain ⟨r1, ⟨K1, g1⟩, u1, q1⟩ := sz_FragmentS x1 r0 p0 u0 h1
  by_cases c1 : r1 < 0
  · exact ⟨K0 + K1, by unfold laws_FnExactSameFragments.f; rw [g0 _ (by omega), Option.bind_some, if_neg c0, g1 _ (by omega), Option.bind_some, if_pos c1]⟩
  obtain ⟨p1, s1⟩ := q1.resolve_left c1
  obtain ⟨K2, g2⟩ := toE_FragmentS x0 s0
  obtain ⟨K3, g3⟩ := toE_FragmentS x1 s1
  have n0 := s0.1
  have n1 := s1.1
  have e0 : ∀ y, y ∈ x0.map to_Fragment → y.f2.length ≤ 9223372036854775807 := fun y hy => by
    obtain ⟨z, hz, rfl⟩ := List.mem_map.1 hy
    have := (s0.2 z hz).2.2
    show z.f2.length ≤ _
    omega
  have e1 : ∀ y, y ∈ x1.map to_Fragment → y.f2.length ≤ 9223372036854775807 := fun y hy => by
    obtain ⟨z, hz, rfl⟩ := List.mem_map.1 hy
    have := (s1.2 z hz).2.2
    show z.f2.length ≤ _
    omega
  obtain ⟨r, ⟨K4, g4⟩, ⟨K5, g5⟩⟩ := same (x0.map to_Fragment) (x1.map to_Fragment) e0 (by rw [List.length_map]; omega)
  obtain ⟨K6, g6⟩ := eq_FragmentS (x0.map to_Fragment) ⟨by rw [List.length_map]; omega, e0⟩
  obtain ⟨K7, g7⟩ := eq_FragmentS (x1.map to_Fragment) ⟨by rw [List.length_map]; omega, e1⟩
  obtain ⟨k, hk⟩ : ∃ k, K0 + K1 + K2 + K3 + K4 + K5 + K6 + K7 ≤ k := ⟨_, Nat.le_refl _⟩
  refine ⟨k, ?_⟩
  unfold laws_FnExactSameFragments.f
  simp only [g0 k (by omega), g1 k (by omega), g2 k (by omega), g3 k (by omega), g4 k (by omega), g5 k (by omega), g6 k (by omega), g7 k (by omega), Option.bind_some, if_neg c0, if_neg c1, bne_self_eq_false, Bool.false_eq_true, if_false, if_true]

end Go.Proofs.Ytnanphkenjneoaa.Pure
