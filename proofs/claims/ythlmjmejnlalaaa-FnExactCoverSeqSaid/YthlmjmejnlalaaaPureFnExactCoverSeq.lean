/- The program's CoverSeq answers what the reference's answers: the pure statement, of all arguments. -/
import Derived.Test.YthlmjmejnlalaaaPFnExactCoverSeqx7
import Derived.Test.YthlmjmejnlalaaaWLp
namespace Go.Proofs.Ythlmjmejnlalaaa.Pure
open Go.RowKit Go.Proofs.Ythlmjmejnlalaaa.PFnExactCoverSeq Go.Proofs.YthlmjmejnlalaaaW.PrintWords Go.Proofs.YthlmjmejnlalaaaW.PrintLast Go.Proofs.YthlmjmejnlalaaaW.PrintMore Go.Proofs.YthlmjmejnlalaaaW.Lp

set_option linter.unusedVariables false
set_option linter.unusedSimpArgs false
theorem sz_Int64S (l : List Int) (a : Int) (h0 : 0 ≤ a) (h1 : a ≤ 1048576) (hf : (l.length ≤ 9223372036854775807 ∧ ∀ y0, y0 ∈ l → (Lit.int .i64 y0).wf = true)) : ∃ r : Int, (∃ K : Nat, ∀ k : Nat, K ≤ k → laws_szInt64S.f l a = some r) ∧ r ≤ 1048576 ∧ (r < 0 ∨ 0 ≤ r ∧ l.length ≤ 1048576) := by
  have hn := hf.1
  by_cases c : wrap64 (a - (l.length : Int)) < 0
  · exact ⟨-1, ⟨0, fun k _ => by unfold laws_szInt64S.f; rw [if_pos c]⟩, by omega, .inl (by omega)⟩
  · have e : wrap64 (a - (l.length : Int)) = a - (l.length : Int) := wrap_id (by omega) (by omega)
    exact ⟨_, ⟨0, fun k _ => by unfold laws_szInt64S.f; rw [if_neg c]⟩, by omega, .inr ⟨by omega, by omega⟩⟩
def Sz_Fragment (x : S105) : Prop := (x.f0.size ≤ 1048576) ∧ (x.f1.size ≤ 1048576) ∧ (x.f2.length ≤ 1048576)
def to_Fragment (x : S105) : S106 := ⟨x.f0, x.f1, x.f2⟩
theorem sz_Fragment (x : S105) (a : Int) (h0 : 0 ≤ a) (h1 : a ≤ 1048576) (hf : fit105 x) : ∃ r : Int, (∃ K : Nat, ∀ k : Nat, K ≤ k → laws_szFragment.f (x.f0) (x.f1) (x.f2) a = some r) ∧ r ≤ 1048576 ∧ (r < 0 ∨ 0 ≤ r ∧ Sz_Fragment x) := by
  have w0 : x.f0.size ≤ 9223372036854775807 := hf.1
  by_cases c0 : wrap64 (a - (x.f0.size : Int)) < 0
  · exact ⟨-1, ⟨0, fun k hk => by unfold laws_szFragment.f; rw [if_pos c0]⟩, by omega, .inl (by omega)⟩
  have e0 : wrap64 (a - (x.f0.size : Int)) = a - (x.f0.size : Int) := wrap_id (by omega) (by omega)
  have w1 : x.f1.size ≤ 9223372036854775807 := hf.2.1
  by_cases c1 : wrap64 (wrap64 (a - (x.f0.size : Int)) - (x.f1.size : Int)) < 0
  · exact ⟨-1, ⟨0, fun k hk => by unfold laws_szFragment.f; rw [if_neg c0, if_pos c1]⟩, by omega, .inl (by omega)⟩
  have e1 : wrap64 (wrap64 (a - (x.f0.size : Int)) - (x.f1.size : Int)) = wrap64 (a - (x.f0.size : Int)) - (x.f1.size : Int) := wrap_id (by omega) (by omega)
  obtain ⟨r2, ⟨K2, g2⟩, u2, q2⟩ := sz_Int64S x.f2 (wrap64 (wrap64 (a - (x.f0.size : Int)) - (x.f1.size : Int))) (by omega) (by omega) hf.2.2
  by_cases c2 : r2 < 0
  · exact ⟨-1, ⟨K2, fun k hk => by unfold laws_szFragment.f; rw [if_neg c0, if_neg c1, g2 k (by omega), Option.bind_some, if_pos c2]⟩, by omega, .inl (by omega)⟩
  obtain ⟨v2, q2⟩ := q2.resolve_left c2
  exact ⟨r2, ⟨K2, fun k hk => by unfold laws_szFragment.f; rw [if_neg c0, if_neg c1, g2 k (by omega), Option.bind_some, if_neg c2]⟩, by omega, .inr ⟨by omega, ⟨(by omega), (by omega), q2⟩⟩⟩
theorem sz_FragmentS_l0 (l : List S105) (hn : l.length ≤ 9223372036854775807) (hf : ∀ y, y ∈ l → fit105 y) : ∀ i, i ≤ l.length → ∀ a, 0 ≤ a → a ≤ 1048576 → ∃ r : Int, (∃ K : Nat, ∀ k : Nat, K ≤ k → laws_szFragmentS.l0 k l a (i : Int) = some r) ∧ r ≤ 1048576 ∧ (r < 0 ∨ 0 ≤ r ∧ ∀ y, y ∈ l.drop i → Sz_Fragment y) := by
  refine down ?_ ?_
  · intro a h0 h1
    exact ⟨a, ⟨1, fun k hk => by obtain ⟨k, rfl⟩ : ∃ m, k = m + 1 := ⟨k - 1, by omega⟩; simp only [laws_szFragmentS.l0]; rw [if_neg (by omega)]⟩, h1, .inr ⟨h0, by simp⟩⟩
  · intro i hi ih a h0 h1
    have hm : l[i] ∈ l := List.getElem_mem hi
    have hr : rd_T105 l (i : Int) = l[i] := getD_nat l _ hi
    obtain ⟨r, ⟨K, g⟩, u, q⟩ := sz_Fragment l[i] a h0 h1 (hf _ hm)
    by_cases c : r < 0
    · exact ⟨-1, ⟨K + 1, fun k hk => by obtain ⟨k, rfl⟩ : ∃ m, k = m + 1 := ⟨k - 1, by omega⟩; simp only [laws_szFragmentS.l0]; rw [if_pos (by omega), if_pos (by omega), hr, g k (by omega), Option.bind_some, if_pos c]⟩, by omega, .inl (by omega)⟩
    · obtain ⟨q0, q1⟩ := q.resolve_left c
      obtain ⟨r', ⟨K', g'⟩, u', q'⟩ := ih r q0 u
      refine ⟨r', ⟨K + K' + 1, fun k hk => by obtain ⟨k, rfl⟩ : ∃ m, k = m + 1 := ⟨k - 1, by omega⟩; simp only [laws_szFragmentS.l0]; rw [if_pos (by omega), if_pos (by omega), hr, g k (by omega), Option.bind_some, if_neg c, wrap_succ hi hn, g' k (by omega)]⟩, u', ?_⟩
      rcases q' with q' | ⟨q2, q3⟩
      · exact .inl q'
      · refine .inr ⟨q2, ?_⟩
        rw [drop_cons l hi]
        intro y hy
        rcases List.mem_cons.1 hy with rfl | hy
        · exact q1
        · exact q3 y hy
theorem sz_FragmentS (l : List S105) (a : Int) (h0 : 0 ≤ a) (h1 : a ≤ 1048576) (hf : (l.length ≤ 9223372036854775807 ∧ ∀ y0, y0 ∈ l → fit105 y0)) : ∃ r : Int, (∃ K : Nat, ∀ k : Nat, K ≤ k → laws_szFragmentS.f k l a = some r) ∧ r ≤ 1048576 ∧ (r < 0 ∨ 0 ≤ r ∧ (l.length ≤ 1048576 ∧ ∀ y0, y0 ∈ l → Sz_Fragment y0)) := by
  have hn := hf.1
  by_cases c : wrap64 (a - (l.length : Int)) < 0
  · exact ⟨-1, ⟨0, fun k _ => by unfold laws_szFragmentS.f; rw [if_pos c]⟩, by omega, .inl (by omega)⟩
  · have e : wrap64 (a - (l.length : Int)) = a - (l.length : Int) := wrap_id (by omega) (by omega)
    obtain ⟨r, ⟨K, g⟩, u, q⟩ := sz_FragmentS_l0 l hn hf.2 0 (Nat.zero_le _) (wrap64 (a - (l.length : Int))) (by omega) (by omega)
    refine ⟨r, ⟨K, fun k hk => by unfold laws_szFragmentS.f; rw [if_neg c]; exact g k hk⟩, u, ?_⟩
    rcases q with q | ⟨q0, q1⟩
    · exact .inl q
    · exact .inr ⟨q0, by omega, fun y hy => q1 y (by simpa using hy)⟩
theorem toE_Int64S_l0 (l : List Int) (hn : l.length ≤ 1048576) : ∀ i, i ≤ l.length → ∀ o : List Int, o.length = l.length → o.take i = l.take i → (∃ K : Nat, ∀ k : Nat, K ≤ k → laws_toInt64S.l0 k l o (i : Int) = some (l)) := by
  refine down ?_ ?_
  · intro o ho ht
    rw [List.take_of_length_le (by omega), List.take_of_length_le (Nat.le_refl _)] at ht
    exact ⟨1, fun k hk => by obtain ⟨k, rfl⟩ : ∃ m, k = m + 1 := ⟨k - 1, by omega⟩; simp only [laws_toInt64S.l0]; rw [if_neg (by omega), ht]⟩
  · intro i hi ih o ho ht
    have hr : rd l (i : Int) = l[i] := rd_nat l hi
    obtain ⟨K', g'⟩ := ih (o.set i (l[i])) (by rw [List.length_set]; exact ho) (by rw [List.take_set, take_snoc o (by omega), ht, take_snoc l hi, List.set_append_right _ _ (by simp; omega)]; simp [Nat.min_eq_left (Nat.le_of_lt hi)])
    exact ⟨K' + 1, fun k hk => by obtain ⟨k, rfl⟩ : ∃ m, k = m + 1 := ⟨k - 1, by omega⟩; simp only [laws_toInt64S.l0]; rw [if_pos (by omega), if_pos (by omega), hr, if_pos (by omega), wrap_succ hi (by omega)]; exact g' k (by omega)⟩
theorem toE_Int64S (l : List Int) (h : l.length ≤ 1048576) : (∃ K : Nat, ∀ k : Nat, K ≤ k → laws_toInt64S.f k l = some (l)) := by
  have hn : l.length ≤ 1048576 := h
  obtain ⟨K, g⟩ := toE_Int64S_l0 l hn 0 (Nat.zero_le _) (List.replicate ((l.length : Int)).toNat _) (by simp) (by simp)
  exact ⟨K, fun k hk => by unfold laws_toInt64S.f; rw [if_pos (by omega), if_pos (by omega)]; exact g k hk⟩
theorem toE_Fragment (x : S105) (h : Sz_Fragment x) : (∃ K : Nat, ∀ k : Nat, K ≤ k → laws_toFragment.f k (x.f0) (x.f1) (x.f2) = some ((to_Fragment x).f0, (to_Fragment x).f1, (to_Fragment x).f2)) := by
  obtain ⟨K2, g2⟩ := toE_Int64S x.f2 (h.2.2)
  exact ⟨K2, fun k hk => by unfold laws_toFragment.f; rw [g2 k (by omega), Option.bind_some]; first | done | rfl⟩
theorem toE_FragmentS_l0 (l : List S105) (hn : l.length ≤ 1048576) (hs : ∀ y, y ∈ l → Sz_Fragment y) : ∀ i, i ≤ l.length → ∀ o : List S106, o.length = l.length → o.take i = (l.take i).map to_Fragment → (∃ K : Nat, ∀ k : Nat, K ≤ k → laws_toFragmentS.l0 k l o (i : Int) = some (l.map to_Fragment)) := by
  refine down ?_ ?_
  · intro o ho ht
    rw [List.take_of_length_le (by omega), List.take_of_length_le (Nat.le_refl _)] at ht
    exact ⟨1, fun k hk => by obtain ⟨k, rfl⟩ : ∃ m, k = m + 1 := ⟨k - 1, by omega⟩; simp only [laws_toFragmentS.l0]; rw [if_neg (by omega), ht]⟩
  · intro i hi ih o ho ht
    have hr : rd_T105 l (i : Int) = l[i] := getD_nat l _ hi
    obtain ⟨K, g⟩ := toE_Fragment l[i] (hs _ (List.getElem_mem hi))
    obtain ⟨K', g'⟩ := ih (o.set i (to_Fragment l[i])) (by rw [List.length_set]; exact ho) (by rw [List.take_set, take_snoc o (by omega), ht, take_snoc l hi, List.map_append, List.set_append_right _ _ (by simp; omega)]; simp [Nat.min_eq_left (Nat.le_of_lt hi)])
    exact ⟨K + K' + 1, fun k hk => by obtain ⟨k, rfl⟩ : ∃ m, k = m + 1 := ⟨k - 1, by omega⟩; simp only [laws_toFragmentS.l0]; rw [if_pos (by omega), if_pos (by omega), hr, g k (by omega), Option.bind_some, if_pos (by omega), wrap_succ hi (by omega)]; exact g' k (by omega)⟩
theorem toE_FragmentS (l : List S105) (h : (l.length ≤ 1048576 ∧ ∀ y0, y0 ∈ l → Sz_Fragment y0)) : (∃ K : Nat, ∀ k : Nat, K ≤ k → laws_toFragmentS.f k l = some (l.map to_Fragment)) := by
  have hn : l.length ≤ 1048576 := h.1
  obtain ⟨K, g⟩ := toE_FragmentS_l0 l hn h.2 0 (Nat.zero_le _) (List.replicate ((l.length : Int)).toNat _) (by simp) (by simp)
  exact ⟨K, fun k hk => by unfold laws_toFragmentS.f; rw [if_pos (by omega), if_pos (by omega)]; exact g k hk⟩
theorem eq_Int64S_l0 (l : List Int) (hn : l.length ≤ 9223372036854775807) : ∀ i, i ≤ l.length → (∃ K : Nat, ∀ k : Nat, K ≤ k → laws_eqInt64S.l0 k l l (i : Int) = some true) := by
  refine down ?_ ?_
  · exact ⟨1, fun k hk => by obtain ⟨k, rfl⟩ : ∃ m, k = m + 1 := ⟨k - 1, by omega⟩; simp only [laws_eqInt64S.l0]; rw [if_neg (by omega)]⟩
  · intro i hi ih
    obtain ⟨K', g'⟩ := ih
    exact ⟨K' + 1, fun k hk => by obtain ⟨k, rfl⟩ : ∃ m, k = m + 1 := ⟨k - 1, by omega⟩; simp only [laws_eqInt64S.l0]; rw [if_pos (by omega), if_pos (by omega), if_pos (by omega), if_pos (by trivial), wrap_succ hi hn]; exact g' k (by omega)⟩
theorem eq_Int64S (l : List Int) (h : l.length ≤ 9223372036854775807) : (∃ K : Nat, ∀ k : Nat, K ≤ k → laws_eqInt64S.f k l l = some true) := by
  obtain ⟨K, g⟩ := eq_Int64S_l0 l h 0 (Nat.zero_le _)
  exact ⟨K, fun k hk => by unfold laws_eqInt64S.f; rw [if_pos rfl]; exact g k hk⟩
def Eq_Fragment (x : S106) : Prop := (x.f2.length ≤ 9223372036854775807)
theorem eq_Fragment (x : S106) (h : Eq_Fragment x) : (∃ K : Nat, ∀ k : Nat, K ≤ k → laws_eqFragment.f k (x.f0) (x.f1) (x.f2) (x.f0) (x.f1) (x.f2) = some true) := by
  obtain ⟨K2, g2⟩ := eq_Int64S x.f2 (h)
  exact ⟨K2, fun k hk => by simp [laws_eqFragment.f, g2 k (by omega)]⟩
theorem eq_FragmentS_l0 (l : List S106) (hn : l.length ≤ 9223372036854775807) (hs : ∀ y, y ∈ l → Eq_Fragment y) : ∀ i, i ≤ l.length → (∃ K : Nat, ∀ k : Nat, K ≤ k → laws_eqFragmentS.l0 k l l (i : Int) = some true) := by
  refine down ?_ ?_
  · exact ⟨1, fun k hk => by obtain ⟨k, rfl⟩ : ∃ m, k = m + 1 := ⟨k - 1, by omega⟩; simp only [laws_eqFragmentS.l0]; rw [if_neg (by omega)]⟩
  · intro i hi ih
    obtain ⟨K', g'⟩ := ih
    have hr : rd_T106 l (i : Int) = l[i] := getD_nat l _ hi
    obtain ⟨K, g⟩ := eq_Fragment l[i] (hs _ (List.getElem_mem hi))
    exact ⟨K + K' + 1, fun k hk => by obtain ⟨k, rfl⟩ : ∃ m, k = m + 1 := ⟨k - 1, by omega⟩; simp only [laws_eqFragmentS.l0]; rw [if_pos (by omega), if_pos (by omega), if_pos (by omega), hr, g k (by omega), Option.bind_some, if_pos rfl, wrap_succ hi hn]; exact g' k (by omega)⟩
theorem eq_FragmentS (l : List S106) (h : (l.length ≤ 9223372036854775807 ∧ ∀ z0, z0 ∈ l → Eq_Fragment z0)) : (∃ K : Nat, ∀ k : Nat, K ≤ k → laws_eqFragmentS.f k l l = some true) := by
  obtain ⟨K, g⟩ := eq_FragmentS_l0 l h.1 h.2 0 (Nat.zero_le _)
  exact ⟨K, fun k hk => by unfold laws_eqFragmentS.f; rw [if_pos rfl]; exact g k hk⟩
theorem within_some (a b c : Int) : impl_within.f a b c = some (decide (b ≤ a ∧ a ≤ c)) := by
  unfold impl_within.f
  by_cases h : b ≤ a
  · rw [if_pos h]; simp [h]
  · rw [if_neg h]; simp [h]
theorem in_some (a b c : Int) : spec_l00In.f a b c = some (decide (b ≤ a ∧ a ≤ c)) := by
  unfold spec_l00In.f
  by_cases h : b ≤ a
  · rw [if_pos h]; simp [h]
  · rw [if_neg h]; simp [h]

/-- allWithin, of the program. -/
theorem all_within_l0 (lo hi : Int) (l : List Int) (hn : l.length ≤ 9223372036854775807) : ∀ i, i ≤ l.length → ∃ r : Int, (decide (r ≥ 0) = false ↔ ∀ j : Nat, i ≤ j → j < l.length → lo ≤ rd l (j : Int) ∧ rd l (j : Int) ≤ hi) ∧
    ∃ K : Nat, ∀ k : Nat, K ≤ k → slices_IndexFunc_int64_int64.l0 k l (fun y0_ => impl_allWithin_1.f y0_ lo hi) (l.length : Int) (i : Int) = some r := by
  refine down ?_ ?_
  · refine ⟨-1, ⟨fun _ j h1 h2 => by omega, fun _ => rfl⟩, 1, fun k hk => ?_⟩
    obtain ⟨k, rfl⟩ : ∃ m, k = m + 1 := ⟨k - 1, by omega⟩
    simp only [slices_IndexFunc_int64_int64.l0]; rw [if_neg (by omega)]
  · intro i hi' ⟨r, hr, K, g⟩
    have hc : impl_allWithin_1.f (rd l (i : Int)) lo hi = some (!(decide (lo ≤ rd l (i : Int) ∧ rd l (i : Int) ≤ hi))) := by
      unfold impl_allWithin_1.f; rw [within_some, Option.bind_some]
    by_cases c : lo ≤ rd l (i : Int) ∧ rd l (i : Int) ≤ hi
    · refine ⟨r, ⟨fun h j h1 h2 => ?_, fun h => hr.2 fun j h1 h2 => h j (by omega) h2⟩, K + 1, fun k hk => ?_⟩
      · by_cases e : j = i
        · rw [e]; exact c
        · exact hr.1 h j (by omega) h2
      · obtain ⟨k, rfl⟩ : ∃ m, k = m + 1 := ⟨k - 1, by omega⟩
        simp only [slices_IndexFunc_int64_int64.l0]
        rw [if_pos (by omega), if_pos (by omega), if_pos (by omega), hc, Option.bind_some, if_neg (by simp [c]), wrap_succ hi' hn]
        exact g k (by omega)
    · refine ⟨(i : Int), ⟨fun h => by simp at h, fun h => absurd (h i (Nat.le_refl _) hi') c⟩, 1, fun k hk => ?_⟩
      obtain ⟨k, rfl⟩ : ∃ m, k = m + 1 := ⟨k - 1, by omega⟩
      simp only [slices_IndexFunc_int64_int64.l0]
      rw [if_pos (by omega), if_pos (by omega), if_pos (by omega), hc, Option.bind_some, if_pos (by simp [c])]
theorem all_within (lo hi : Int) (l : List Int) (hn : l.length ≤ 9223372036854775807) : ∃ b : Bool, (b = true ↔ ∀ j : Nat, j < l.length → lo ≤ rd l (j : Int) ∧ rd l (j : Int) ≤ hi) ∧ ∃ K : Nat, ∀ k : Nat, K ≤ k → impl_allWithin.f k l lo hi = some b := by
  obtain ⟨r, hr, K, g⟩ := all_within_l0 lo hi l hn 0 (Nat.zero_le _)
  refine ⟨!(decide (r ≥ 0)), ?_, K, fun k hk => ?_⟩
  · rw [Bool.not_eq_true', hr]
    exact ⟨fun h j hj => h j (Nat.zero_le _) hj, fun h j _ hj => h j hj⟩
  · unfold impl_allWithin.f slices_ContainsFunc_int64_int64.f slices_IndexFunc_int64_int64.f
    rw [show slices_IndexFunc_int64_int64.l0 k l (fun y0_ => impl_allWithin_1.f y0_ lo hi) (l.length : Int) 0 = some r from g k hk]
    rfl

abbrev FR := S106
def KeyOk (s : ByteArray) : Prop := (1 : Int) ≤ (s.size : Int) ∧ (s.size : Int) ≤ 8
instance (s : ByteArray) : Decidable (KeyOk s) := by unfold KeyOk; exact inferInstance
theorem key_spec (s : ByteArray) : spec_l17Key.f s = some (decide (KeyOk s)) := by
  unfold spec_l17Key.f KeyOk
  by_cases h : (1 : Int) ≤ (s.size : Int)
  · rw [if_pos h]; simp [h]
  · rw [if_neg h]; simp [h]
theorem key_impl (s : ByteArray) : impl_ValidKey.f s = some (decide (KeyOk s)) := by
  unfold impl_ValidKey.f; rw [within_some]; rfl
def SeqsOk (l : List Int) : Prop := (∀ j : Nat, j < l.length → 1 ≤ rd l (j : Int) ∧ rd l (j : Int) ≤ 1000000) ∧ (∀ j : Nat, 0 < j → j < l.length → rd l (j : Int) < rd l ((j - 1 : Nat) : Int)) ∧ 1 ≤ l.length ∧ l.length ≤ 60
theorem seqs_spec (l : List Int) (hn : l.length ≤ 9223372036854775807) : ∃ b : Bool, (b = true ↔ SeqsOk l) ∧ ∃ K : Nat, ∀ k : Nat, K ≤ k → spec_l23Seqs.f k l = some b := by
  obtain ⟨b, hb, K, g⟩ := all_loop (L := fun k i => spec_l23Seqs.l0 k l (i : Int)) (n := l.length) (P := fun j => (1 ≤ rd l (j : Int) ∧ rd l (j : Int) ≤ 1000000) ∧ (0 < j → rd l (j : Int) < rd l ((j - 1 : Nat) : Int))) (F := 1 ≤ l.length ∧ l.length ≤ 60) 0
    (fun i _ hi => by
      by_cases c0 : 1 ≤ rd l (i : Int) ∧ rd l (i : Int) ≤ 1000000
      · by_cases ci : 0 < i
        · by_cases c1 : rd l (i : Int) < rd l ((i - 1 : Nat) : Int)
          · refine .inl ⟨⟨c0, fun _ => c1⟩, 0, 1, fun k _ => ?_⟩
            simp only [spec_l23Seqs.l0]
            rw [if_pos (by omega), if_pos (by omega), in_some, Option.bind_some, if_pos (by simp [c0]), if_pos (by omega), wrap_pred ci (Nat.le_of_lt hi) hn, if_pos (by omega), if_pos (by omega), if_neg (by omega), wrap_succ hi hn]
          · refine .inr ⟨fun h => c1 (h.2 ci), 1, fun k hk => ?_⟩
            obtain ⟨k, rfl⟩ : ∃ m, k = m + 1 := ⟨k - 1, by omega⟩
            simp only [spec_l23Seqs.l0]
            rw [if_pos (by omega), if_pos (by omega), in_some, Option.bind_some, if_pos (by simp [c0]), if_pos (by omega), wrap_pred ci (Nat.le_of_lt hi) hn, if_pos (by omega), if_pos (by omega), if_pos (by omega)]
        · refine .inl ⟨⟨c0, fun h => absurd h ci⟩, 0, 1, fun k _ => ?_⟩
          simp only [spec_l23Seqs.l0]
          rw [if_pos (by omega), if_pos (by omega), in_some, Option.bind_some, if_pos (by simp [c0]), if_neg (by omega), wrap_succ hi hn]
      · refine .inr ⟨fun h => c0 h.1, 1, fun k hk => ?_⟩
        obtain ⟨k, rfl⟩ : ∃ m, k = m + 1 := ⟨k - 1, by omega⟩
        simp only [spec_l23Seqs.l0]
        rw [if_pos (by omega), if_pos (by omega), in_some, Option.bind_some, if_neg (by simp only [decide_eq_true_eq]; exact c0)])
    (by
      by_cases c : (l.length : Int) ≥ 1
      · refine ⟨decide ((l.length : Int) ≤ 60), by simp only [decide_eq_true_eq]; omega, 1, fun k hk => ?_⟩
        obtain ⟨k, rfl⟩ : ∃ m, k = m + 1 := ⟨k - 1, by omega⟩
        simp only [spec_l23Seqs.l0]
        rw [if_neg (by omega), if_pos c]
      · refine ⟨false, by simp; omega, 1, fun k hk => ?_⟩
        obtain ⟨k, rfl⟩ : ∃ m, k = m + 1 := ⟨k - 1, by omega⟩
        simp only [spec_l23Seqs.l0]
        rw [if_neg (by omega), if_neg c]) 0 (Nat.zero_le _) (Nat.le_refl _)
  refine ⟨b, hb.trans ⟨fun h => ⟨fun j hj => (h.1 j (Nat.zero_le _) hj).1, fun j h0 hj => (h.1 j (Nat.zero_le _) hj).2 h0, h.2⟩, fun h => ⟨fun j _ hj => ⟨h.1 j hj, fun h0 => h.2.1 j h0 hj⟩, h.2.2⟩⟩, K, fun k hk => g k hk⟩
theorem dec_impl (l : List Int) (hn : l.length ≤ 9223372036854775807) (h1 : 1 ≤ l.length) : ∃ b : Bool, (b = true ↔ ∀ j : Nat, 0 < j → j < l.length → rd l (j : Int) < rd l ((j - 1 : Nat) : Int)) ∧ ∃ K : Nat, ∀ k : Nat, K ≤ k → impl_decreasing.f k l = some b := by
  obtain ⟨b, hb, K, g⟩ := all_loop (L := fun k i => impl_decreasing.l0 k l (i : Int)) (n := l.length) (P := fun j => rd l (j : Int) < rd l ((j - 1 : Nat) : Int)) (F := True) 1
    (fun i ci hi => by
      by_cases c1 : rd l (i : Int) < rd l ((i - 1 : Nat) : Int)
      · refine .inl ⟨c1, 0, 1, fun k _ => ?_⟩
        simp only [impl_decreasing.l0]
        rw [if_pos (by omega), if_pos (by omega), wrap_pred (by omega) (Nat.le_of_lt hi) hn, if_pos (by omega), if_pos (by omega), if_neg (by omega), wrap_succ hi hn]
      · refine .inr ⟨c1, 1, fun k hk => ?_⟩
        obtain ⟨k, rfl⟩ : ∃ m, k = m + 1 := ⟨k - 1, by omega⟩
        simp only [impl_decreasing.l0]
        rw [if_pos (by omega), if_pos (by omega), wrap_pred (by omega) (Nat.le_of_lt hi) hn, if_pos (by omega), if_pos (by omega), if_pos (by omega)])
    (by
      refine ⟨true, by simp, 1, fun k hk => ?_⟩
      obtain ⟨k, rfl⟩ : ∃ m, k = m + 1 := ⟨k - 1, by omega⟩
      simp only [impl_decreasing.l0]
      rw [if_neg (by omega)]) 1 h1 (Nat.le_refl _)
  exact ⟨b, hb.trans ⟨fun h j h0 hj => h.1 j h0 hj, fun h => ⟨fun j h0 hj => h j h0 hj, trivial⟩⟩, K, fun k hk => g k hk⟩
def FragOk (x : FR) : Prop := KeyOk x.f0 ∧ KeyOk x.f1 ∧ Op.bytesLess x.f0.toList x.f1.toList = true ∧ SeqsOk x.f2
/-- The program on one fragment. -/
theorem frag_impl (x : FR) (hn : x.f2.length ≤ 9223372036854775807) : ∃ b : Bool, (b = true ↔ FragOk x) ∧ ∃ K : Nat, ∀ k : Nat, K ≤ k → impl_fragmentOk.f k x.f0 x.f1 x.f2 = some b := by
  by_cases c0 : KeyOk x.f0
  · by_cases c1 : KeyOk x.f1
    · by_cases c2 : Op.bytesLess x.f0.toList x.f1.toList = true
      · by_cases c3 : (1 : Int) ≤ (x.f2.length : Int) ∧ (x.f2.length : Int) ≤ 60
        · obtain ⟨b1, hb1, K1, g1⟩ := dec_impl x.f2 hn (by omega)
          obtain ⟨b2, hb2, K2, g2⟩ := all_within 1 1000000 x.f2 hn
          refine ⟨b1 && b2, ?_, K1 + K2, fun k hk => ?_⟩
          · rw [Bool.and_eq_true, hb1, hb2]
            exact ⟨fun h => ⟨c0, c1, c2, h.2, h.1, by omega, by omega⟩, fun h => ⟨h.2.2.2.2.1, h.2.2.2.1⟩⟩
          · unfold impl_fragmentOk.f
            rw [key_impl, Option.bind_some, if_pos (by simp [c0]), key_impl, Option.bind_some, if_pos (by simp [c1]), if_pos c2, within_some, Option.bind_some, if_pos (by simp only [decide_eq_true_eq]; exact c3), g1 k (by omega), g2 k (by omega), Option.bind_some]
            cases b1 <;> simp
        · refine ⟨false, ⟨fun h => by simp at h, fun h => absurd ⟨by have := h.2.2.2.2.2.1; omega, by have := h.2.2.2.2.2.2; omega⟩ c3⟩, 0, fun k hk => ?_⟩
          unfold impl_fragmentOk.f
          rw [key_impl, Option.bind_some, if_pos (by simp [c0]), key_impl, Option.bind_some, if_pos (by simp [c1]), if_pos c2, within_some, Option.bind_some, if_neg (by simp only [decide_eq_true_eq]; exact c3)]
      · refine ⟨false, ⟨fun h => by simp at h, fun h => absurd h.2.2.1 c2⟩, 0, fun k hk => ?_⟩
        unfold impl_fragmentOk.f
        rw [key_impl, Option.bind_some, if_pos (by simp [c0]), key_impl, Option.bind_some, if_pos (by simp [c1]), if_neg c2]
    · refine ⟨false, ⟨fun h => by simp at h, fun h => absurd h.2.1 c1⟩, 0, fun k hk => ?_⟩
      unfold impl_fragmentOk.f
      rw [key_impl, Option.bind_some, if_pos (by simp [c0]), key_impl, Option.bind_some, if_neg (by simp [c1])]
  · refine ⟨false, ⟨fun h => by simp at h, fun h => absurd h.1 c0⟩, 0, fun k hk => ?_⟩
    unfold impl_fragmentOk.f
    rw [key_impl, Option.bind_some, if_neg (by simp [c0])]
/-- A fragment that begins ahead of the end of the one before it. -/
abbrev Over (l : List FR) (j : Nat) : Prop := Op.bytesLess (rd_T106 l (j : Int)).f0.toList (rd_T106 l ((j - 1 : Nat) : Int)).f1.toList = true
def FragsOk (l : List FR) : Prop := (∀ j : Nat, j < l.length → FragOk (rd_T106 l (j : Int)) ∧ (0 < j → ¬ Over l j)) ∧ l.length ≤ 120
theorem frags_spec (l : List FR) (hn : l.length ≤ 9223372036854775807) (hs : ∀ y, y ∈ l → y.f2.length ≤ 9223372036854775807) : ∃ b : Bool, (b = true ↔ FragsOk l) ∧ ∃ K : Nat, ∀ k : Nat, K ≤ k → spec_l23Valid.f k l = some b := by
  by_cases cn : (l.length : Int) > 120
  · refine ⟨false, ⟨fun h => by simp at h, fun h => by have := h.2; omega⟩, 0, fun k _ => ?_⟩
    unfold spec_l23Valid.f; rw [if_pos cn]
  obtain ⟨b, hb, K, g⟩ := all_loop (L := fun k i => spec_l23Valid.l0 k l (i : Int)) (n := l.length) (P := fun j => FragOk (rd_T106 l (j : Int)) ∧ (0 < j → ¬ Over l j)) (F := True) 0
    (fun i _ hi => by
      have hm : (rd_T106 l (i : Int)).f2.length ≤ 9223372036854775807 := hs _ (by rw [rd_T106, getD_nat l _ hi]; exact List.getElem_mem hi)
      by_cases c0 : KeyOk (rd_T106 l (i : Int)).f0
      · by_cases c1 : KeyOk (rd_T106 l (i : Int)).f1
        · by_cases c2 : Op.bytesLess (rd_T106 l (i : Int)).f0.toList (rd_T106 l (i : Int)).f1.toList = true
          · obtain ⟨b1, hb1, K1, g1⟩ := seqs_spec _ hm
            have hl : ∀ k : Nat, K1 ≤ k → spec_l23Valid.l0 (k + 1) l (i : Int) = if b1 = true then (if (i : Int) > 0 then (if 0 ≤ (wrap64 ((i : Int) - 1)) then (if (wrap64 ((i : Int) - 1)) < (l.length : Int) then (if (Op.bytesLess (((rd_T106 l (i : Int)).f0).toList) (((rd_T106 l (wrap64 ((i : Int) - 1))).f1).toList)) = true then (some false) else (spec_l23Valid.l0 k l ((i + 1 : Nat) : Int))) else (none)) else (none)) else (spec_l23Valid.l0 k l ((i + 1 : Nat) : Int))) else some false := fun k hk => by
              simp only [spec_l23Valid.l0]
              rw [if_pos (by omega), if_pos (by omega), key_spec, Option.bind_some, if_pos (by simp [c0]), key_spec, Option.bind_some, if_pos (by simp [c1]), if_pos c2, g1 k hk, Option.bind_some, wrap_succ hi hn]
            by_cases c3 : SeqsOk (rd_T106 l (i : Int)).f2
            · have e1 : b1 = true := hb1.2 c3
              by_cases ci : 0 < i
              · by_cases co : Over l i
                · refine .inr ⟨fun h => h.2 ci co, K1 + 1, fun k hk => ?_⟩
                  obtain ⟨k, rfl⟩ : ∃ m, k = m + 1 := ⟨k - 1, by omega⟩
                  show spec_l23Valid.l0 (k + 1) l (i : Int) = _
                  rw [hl k (by omega), if_pos e1, if_pos (by omega), wrap_pred ci (Nat.le_of_lt hi) hn, if_pos (by omega), if_pos (by omega), if_pos co]
                · refine .inl ⟨⟨⟨c0, c1, c2, c3⟩, fun _ => co⟩, K1, 1, fun k hk => ?_⟩
                  show spec_l23Valid.l0 (k + 1) l (i : Int) = _
                  rw [hl k (by omega), if_pos e1, if_pos (by omega), wrap_pred ci (Nat.le_of_lt hi) hn, if_pos (by omega), if_pos (by omega), if_neg co]
              · refine .inl ⟨⟨⟨c0, c1, c2, c3⟩, fun h => absurd h ci⟩, K1, 1, fun k hk => ?_⟩
                show spec_l23Valid.l0 (k + 1) l (i : Int) = _
                rw [hl k (by omega), if_pos e1, if_neg (by omega)]
            · refine .inr ⟨fun h => c3 h.1.2.2.2, K1 + 1, fun k hk => ?_⟩
              obtain ⟨k, rfl⟩ : ∃ m, k = m + 1 := ⟨k - 1, by omega⟩
              show spec_l23Valid.l0 (k + 1) l (i : Int) = _
              rw [hl k (by omega), if_neg (fun h => c3 (hb1.1 h))]
          · refine .inr ⟨fun h => c2 h.1.2.2.1, 1, fun k hk => ?_⟩
            obtain ⟨k, rfl⟩ : ∃ m, k = m + 1 := ⟨k - 1, by omega⟩
            simp only [spec_l23Valid.l0]
            rw [if_pos (by omega), if_pos (by omega), key_spec, Option.bind_some, if_pos (by simp [c0]), key_spec, Option.bind_some, if_pos (by simp [c1]), if_neg c2]
        · refine .inr ⟨fun h => c1 h.1.2.1, 1, fun k hk => ?_⟩
          obtain ⟨k, rfl⟩ : ∃ m, k = m + 1 := ⟨k - 1, by omega⟩
          simp only [spec_l23Valid.l0]
          rw [if_pos (by omega), if_pos (by omega), key_spec, Option.bind_some, if_pos (by simp [c0]), key_spec, Option.bind_some, if_neg (by simp [c1])]
      · refine .inr ⟨fun h => c0 h.1.1, 1, fun k hk => ?_⟩
        obtain ⟨k, rfl⟩ : ∃ m, k = m + 1 := ⟨k - 1, by omega⟩
        simp only [spec_l23Valid.l0]
        rw [if_pos (by omega), if_pos (by omega), key_spec, Option.bind_some, if_neg (by simp [c0])])
    (by
      refine ⟨true, by simp, 1, fun k hk => ?_⟩
      obtain ⟨k, rfl⟩ : ∃ m, k = m + 1 := ⟨k - 1, by omega⟩
      simp only [spec_l23Valid.l0]
      rw [if_neg (by omega)]) 0 (Nat.zero_le _) (Nat.le_refl _)
  refine ⟨b, hb.trans ⟨fun h => ⟨fun j hj => h.1 j (Nat.zero_le _) hj, by omega⟩, fun h => ⟨fun j _ hj => h.1 j hj, trivial⟩⟩, K, fun k hk => ?_⟩
  unfold spec_l23Valid.f; rw [if_neg cn]; exact g k hk
theorem frags_impl (l : List FR) (hn : l.length ≤ 9223372036854775807) (hs : ∀ y, y ∈ l → y.f2.length ≤ 9223372036854775807) : ∃ b : Bool, (b = true ↔ FragsOk l) ∧ ∃ K : Nat, ∀ k : Nat, K ≤ k → impl_ValidFragments.f k l = some b := by
  obtain ⟨b, hb, K, g⟩ := all_loop (L := fun k i => impl_ValidFragments.l0 k l l (l.length : Int) (i : Int)) (n := l.length) (P := fun j => FragOk (rd_T106 l (j : Int)) ∧ (0 < j → ¬ Over l j)) (F := l.length ≤ 120) 0
    (fun i _ hi => by
      have hm : (rd_T106 l (i : Int)).f2.length ≤ 9223372036854775807 := hs _ (by rw [rd_T106, getD_nat l _ hi]; exact List.getElem_mem hi)
      obtain ⟨b1, hb1, K1, g1⟩ := frag_impl _ hm
      have hl : ∀ k : Nat, K1 ≤ k → impl_ValidFragments.l0 (k + 1) l l (l.length : Int) (i : Int) = if b1 = true then (if (i : Int) > 0 then (if 0 ≤ (wrap64 ((i : Int) - 1)) then (if (wrap64 ((i : Int) - 1)) < (l.length : Int) then (if (Op.bytesLess (((rd_T106 l (i : Int)).f0).toList) (((rd_T106 l (wrap64 ((i : Int) - 1))).f1).toList)) = true then (some false) else (impl_ValidFragments.l0 k l l (l.length : Int) ((i + 1 : Nat) : Int))) else (none)) else (none)) else (impl_ValidFragments.l0 k l l (l.length : Int) ((i + 1 : Nat) : Int))) else some false := fun k hk => by
        simp only [impl_ValidFragments.l0]
        rw [if_pos (by omega), if_pos (by omega), if_pos (by omega), g1 k hk, Option.bind_some, wrap_succ hi hn]
      by_cases c3 : FragOk (rd_T106 l (i : Int))
      · have e1 : b1 = true := hb1.2 c3
        by_cases ci : 0 < i
        · by_cases co : Over l i
          · refine .inr ⟨fun h => h.2 ci co, K1 + 1, fun k hk => ?_⟩
            obtain ⟨k, rfl⟩ : ∃ m, k = m + 1 := ⟨k - 1, by omega⟩
            show impl_ValidFragments.l0 (k + 1) l l (l.length : Int) (i : Int) = _
            rw [hl k (by omega), if_pos e1, if_pos (by omega), wrap_pred ci (Nat.le_of_lt hi) hn, if_pos (by omega), if_pos (by omega), if_pos co]
          · refine .inl ⟨⟨c3, fun _ => co⟩, K1, 1, fun k hk => ?_⟩
            show impl_ValidFragments.l0 (k + 1) l l (l.length : Int) (i : Int) = _
            rw [hl k (by omega), if_pos e1, if_pos (by omega), wrap_pred ci (Nat.le_of_lt hi) hn, if_pos (by omega), if_pos (by omega), if_neg co]
        · refine .inl ⟨⟨c3, fun h => absurd h ci⟩, K1, 1, fun k hk => ?_⟩
          show impl_ValidFragments.l0 (k + 1) l l (l.length : Int) (i : Int) = _
          rw [hl k (by omega), if_pos e1, if_neg (by omega)]
      · refine .inr ⟨fun h => c3 h.1, K1 + 1, fun k hk => ?_⟩
        obtain ⟨k, rfl⟩ : ∃ m, k = m + 1 := ⟨k - 1, by omega⟩
        show impl_ValidFragments.l0 (k + 1) l l (l.length : Int) (i : Int) = _
        rw [hl k (by omega), if_neg (fun h => c3 (hb1.1 h))])
    (by
      refine ⟨decide ((l.length : Int) ≤ 120), by simp only [decide_eq_true_eq]; omega, 1, fun k hk => ?_⟩
      obtain ⟨k, rfl⟩ : ∃ m, k = m + 1 := ⟨k - 1, by omega⟩
      simp only [impl_ValidFragments.l0]
      rw [if_neg (by omega)]) 0 (Nat.zero_le _) (Nat.le_refl _)
  exact ⟨b, hb.trans ⟨fun h => ⟨fun j hj => h.1 j (Nat.zero_le _) hj, h.2⟩, fun h => ⟨fun j _ hj => h.1 j hj, h.2⟩⟩, K, fun k hk => g k hk⟩
/-- Both ask the same. -/
theorem frags (l : List FR) (hn : l.length ≤ 9223372036854775807) (hs : ∀ y, y ∈ l → y.f2.length ≤ 9223372036854775807) : ∃ b : Bool, (b = true ↔ FragsOk l) ∧ (∃ K : Nat, ∀ k : Nat, K ≤ k → spec_l23Valid.f k l = some b) ∧ (∃ K : Nat, ∀ k : Nat, K ≤ k → impl_ValidFragments.f k l = some b) := by
  obtain ⟨b, hb, h⟩ := frags_spec l hn hs
  obtain ⟨b2, hb2, h2⟩ := frags_impl l hn hs
  obtain rfl := bool_eq hb hb2 Iff.rfl
  exact ⟨b, hb, h, h2⟩

theorem bl_eq : ∀ (x y : List UInt8), Op.bytesLess x y = true ↔ x < y
  | [], [] => by simp [Op.bytesLess]
  | _ :: _, [] => by simp [Op.bytesLess]
  | [], _ :: _ => by simp [Op.bytesLess]
  | a :: x, b :: y => by
    rw [Op.bytesLess]
    simp only [List.cons_lt_cons_iff, ← bl_eq x y]
    by_cases h1 : a < b <;> by_cases h2 : a = b <;> by_cases h3 : Op.bytesLess x y = true <;> simp [h1, h2, h3]
theorem bl_trans {a b c : List UInt8} (h1 : Op.bytesLess a b = true) (h2 : Op.bytesLess b c = true) : Op.bytesLess a c = true := by
  rw [bl_eq] at *; exact List.lt_trans h1 h2
theorem bl_lt_le {a b c : List UInt8} (h1 : Op.bytesLess a b = true) (h2 : ¬ Op.bytesLess c b = true) : Op.bytesLess a c = true := by
  rw [bl_eq] at *; exact Std.lt_of_lt_of_le h1 (List.not_lt.1 h2)
theorem bl_irrefl (a : List UInt8) : ¬ Op.bytesLess a a = true := by
  rw [bl_eq]; exact List.lt_irrefl a
theorem bl_asymm {a b : List UInt8} (h1 : Op.bytesLess a b = true) : ¬ Op.bytesLess b a = true := fun h2 => bl_irrefl a (bl_trans h1 h2)
theorem bl_tri {a b : List UInt8} (h1 : ¬ Op.bytesLess a b = true) (h2 : ¬ Op.bytesLess b a = true) : a = b := by
  rw [bl_eq] at *; exact List.le_antisymm (List.not_lt.1 h2) (List.not_lt.1 h1)

abbrev KeyIn (l : List FR) (key : ByteArray) (j : Nat) : Prop := Op.bytesLess key.toList (rd_T106 l (j : Int)).f1.toList = true
abbrev KeyLow (l : List FR) (key : ByteArray) (j : Nat) : Prop := Op.bytesLess key.toList (rd_T106 l (j : Int)).f0.toList = true
/-- Behind a fragment that ends behind the key, all begin behind the key. -/
theorem later_low {l : List FR} (hf : FragsOk l) {key : ByteArray} {i : Nat} (h : KeyIn l key i) : ∀ j : Nat, i < j → j < l.length → KeyLow l key j := by
  intro j
  induction j with
  | zero => intro h; omega
  | succ j ih =>
    intro hij hj
    have hin : KeyIn l key j := by
      by_cases e : j = i
      · rw [e]; exact h
      · exact bl_trans (ih (by omega) (by omega)) (hf.1 j (by omega)).1.2.2.1
    exact bl_lt_le hin ((hf.1 (j + 1) hj).2 (by omega))
theorem skip_low (l : List FR) (key : ByteArray) (seq : Int) (hn : l.length ≤ 9223372036854775807) (i : Nat) (hi : i < l.length) (h : KeyLow l key i ∨ ¬ KeyIn l key i) (k : Nat) : spec_CoverSeq.l0 (k + 2) l key seq (i : Int) = spec_CoverSeq.l0 k l key seq ((i + 1 : Nat) : Int) := by
  simp only [spec_CoverSeq.l0]
  rw [if_pos (by omega), if_pos (by omega)]
  by_cases c : KeyLow l key i
  · rw [if_pos c]; simp only [spec_CoverSeq.j2]; rw [if_pos (by first | trivial | decide | rfl), wrap_succ hi hn]
  · have c2 : Op.bytesLess key.toList (rd_T106 l (i : Int)).f1.toList = false := by
      rcases h with h | h
      · exact absurd h c
      · exact Bool.eq_false_iff.2 h
    rw [if_neg c]; simp only [spec_CoverSeq.j2]; rw [c2, if_pos (by first | trivial | decide | rfl), wrap_succ hi hn]
theorem rest_low (l : List FR) (key : ByteArray) (seq : Int) (hn : l.length ≤ 9223372036854775807) : ∀ i, i ≤ l.length → (∀ j : Nat, i ≤ j → j < l.length → KeyLow l key j) → ∃ K : Nat, ∀ k : Nat, K ≤ k → spec_CoverSeq.l0 k l key seq (i : Int) = some 0 := by
  refine down ?_ ?_
  · intro _
    refine ⟨1, fun k hk => ?_⟩
    obtain ⟨k, rfl⟩ : ∃ m, k = m + 1 := ⟨k - 1, by omega⟩
    simp only [spec_CoverSeq.l0]; rw [if_neg (by omega)]
  · intro i hi ih h
    obtain ⟨K, g⟩ := ih fun j h1 h2 => h j (by omega) h2
    refine ⟨K + 2, fun k hk => ?_⟩
    obtain ⟨k, rfl⟩ : ∃ m, k = m + 2 := ⟨k - 2, by omega⟩
    rw [skip_low l key seq hn i hi (.inl (h i (Nat.le_refl _) hi)) k]
    exact g k (by omega)
theorem in_cover (l : List FR) (key : ByteArray) (seq : Int) (i : Nat) (hi : i < l.length) (hn : l.length ≤ 9223372036854775807) (hm : (rd_T106 l (i : Int)).f2.length ≤ 9223372036854775807) : ∀ m, m ≤ (rd_T106 l (i : Int)).f2.length →
    (∃ v : Int, (∃ K : Nat, ∀ k : Nat, K ≤ k → spec_CoverSeq.l1 k l key seq (i : Int) (m : Int) = some v) ∧ (∃ K : Nat, ∀ k : Nat, K ≤ k → impl_atMost.l0 k seq (rd_T106 l (i : Int)).f2 ((rd_T106 l (i : Int)).f2.length : Int) (m : Int) = some v)) ∨
    ((∃ c : Nat, ∀ k : Nat, spec_CoverSeq.l1 (k + c) l key seq (i : Int) (m : Int) = spec_CoverSeq.l0 k l key seq ((i + 1 : Nat) : Int)) ∧ (∃ K : Nat, ∀ k : Nat, K ≤ k → impl_atMost.l0 k seq (rd_T106 l (i : Int)).f2 ((rd_T106 l (i : Int)).f2.length : Int) (m : Int) = some 0)) := by
  refine down ?_ ?_
  · refine .inr ⟨⟨1, fun k => ?_⟩, 1, fun k hk => ?_⟩
    · simp only [spec_CoverSeq.l1]; rw [if_pos (by omega), if_pos (by omega), if_neg (by omega), wrap_succ hi hn]
    · obtain ⟨k, rfl⟩ : ∃ m, k = m + 1 := ⟨k - 1, by omega⟩
      simp only [impl_atMost.l0]; rw [if_neg (by omega)]
  · intro m hm' ih
    by_cases c : rd (rd_T106 l (i : Int)).f2 (m : Int) ≤ seq
    · refine .inl ⟨rd (rd_T106 l (i : Int)).f2 (m : Int), ⟨1, fun k hk => ?_⟩, 1, fun k hk => ?_⟩
      · obtain ⟨k, rfl⟩ : ∃ m, k = m + 1 := ⟨k - 1, by omega⟩
        simp only [spec_CoverSeq.l1]; rw [if_pos (by omega), if_pos (by omega), if_pos (by omega), if_pos (by omega), if_pos c]
      · obtain ⟨k, rfl⟩ : ∃ m, k = m + 1 := ⟨k - 1, by omega⟩
        simp only [impl_atMost.l0]; rw [if_pos (by omega), if_pos (by omega), if_pos (by omega), if_pos c]
    · have hs : ∀ k, spec_CoverSeq.l1 (k + 1) l key seq (i : Int) (m : Int) = spec_CoverSeq.l1 k l key seq (i : Int) ((m + 1 : Nat) : Int) := fun k => by
        simp only [spec_CoverSeq.l1]; rw [if_pos (by omega), if_pos (by omega), if_pos (by omega), if_pos (by omega), if_neg c, wrap_succ hm' hm]
      have ha : ∀ k, impl_atMost.l0 (k + 1) seq (rd_T106 l (i : Int)).f2 ((rd_T106 l (i : Int)).f2.length : Int) (m : Int) = impl_atMost.l0 k seq (rd_T106 l (i : Int)).f2 ((rd_T106 l (i : Int)).f2.length : Int) ((m + 1 : Nat) : Int) := fun k => by
        simp only [impl_atMost.l0]; rw [if_pos (by omega), if_pos (by omega), if_pos (by omega), if_neg c, wrap_succ hm' hm]
      rcases ih with ⟨v, ⟨K1, g1⟩, K2, g2⟩ | ⟨⟨c1, g1⟩, K2, g2⟩
      · refine .inl ⟨v, ⟨K1 + 1, fun k hk => ?_⟩, K2 + 1, fun k hk => ?_⟩
        · obtain ⟨k, rfl⟩ : ∃ m, k = m + 1 := ⟨k - 1, by omega⟩
          rw [hs]; exact g1 k (by omega)
        · obtain ⟨k, rfl⟩ : ∃ m, k = m + 1 := ⟨k - 1, by omega⟩
          rw [ha]; exact g2 k (by omega)
      · refine .inr ⟨⟨c1 + 1, fun k => ?_⟩, K2 + 1, fun k hk => ?_⟩
        · rw [show k + (c1 + 1) = (k + c1) + 1 by omega, hs]; exact g1 k
        · obtain ⟨k, rfl⟩ : ∃ m, k = m + 1 := ⟨k - 1, by omega⟩
          rw [ha]; exact g2 k (by omega)
theorem cover_l0 (l : List FR) (key : ByteArray) (seq : Int) (hn : l.length ≤ 9223372036854775807) (hs : ∀ y, y ∈ l → y.f2.length ≤ 9223372036854775807) (hf : FragsOk l) : ∀ i, i ≤ l.length → ∃ r : Int,
    (∃ K : Nat, ∀ k : Nat, K ≤ k → spec_CoverSeq.l0 k l key seq (i : Int) = some r) ∧ (∃ K : Nat, ∀ k : Nat, K ≤ k → impl_coverSeq.l0 k key seq l (l.length : Int) (i : Int) = some r) := by
  refine down ?_ ?_
  · refine ⟨0, ⟨1, fun k hk => ?_⟩, 1, fun k hk => ?_⟩
    · obtain ⟨k, rfl⟩ : ∃ m, k = m + 1 := ⟨k - 1, by omega⟩
      simp only [spec_CoverSeq.l0]; rw [if_neg (by omega)]
    · obtain ⟨k, rfl⟩ : ∃ m, k = m + 1 := ⟨k - 1, by omega⟩
      simp only [impl_coverSeq.l0]; rw [if_neg (by omega)]
  · intro i hi ⟨r, ⟨K1, g1⟩, K2, g2⟩
    have hm : (rd_T106 l (i : Int)).f2.length ≤ 9223372036854775807 := hs _ (by rw [rd_T106, getD_nat l _ hi]; exact List.getElem_mem hi)
    by_cases c0 : KeyLow l key i
    · refine ⟨r, ⟨K1 + 2, fun k hk => ?_⟩, K2 + 1, fun k hk => ?_⟩
      · obtain ⟨k, rfl⟩ : ∃ m, k = m + 2 := ⟨k - 2, by omega⟩
        rw [skip_low l key seq hn i hi (.inl c0) k]; exact g1 k (by omega)
      · obtain ⟨k, rfl⟩ : ∃ m, k = m + 1 := ⟨k - 1, by omega⟩
        simp only [impl_coverSeq.l0]; rw [if_pos (by omega), if_pos (by omega), if_pos (by omega), if_pos c0, wrap_succ hi hn]; exact g2 k (by omega)
    · by_cases c1 : KeyIn l key i
      · have himp : ∀ k, impl_coverSeq.l0 (k + 1) key seq l (l.length : Int) (i : Int) = (impl_atMost.l0 k seq (rd_T106 l (i : Int)).f2 ((rd_T106 l (i : Int)).f2.length : Int) 0).bind fun t => some t := fun k => by
          simp only [impl_coverSeq.l0, impl_atMost.f]; rw [if_pos (by omega), if_pos (by omega), if_pos (by omega), if_neg c0, if_pos c1]
        have hsp : ∀ k, spec_CoverSeq.l0 (k + 2) l key seq (i : Int) = spec_CoverSeq.l1 k l key seq (i : Int) 0 := fun k => by
          have c2 : Op.bytesLess key.toList (rd_T106 l (i : Int)).f1.toList = true := c1
          simp only [spec_CoverSeq.l0]
          rw [if_pos (by omega), if_pos (by omega), if_neg c0]; simp only [spec_CoverSeq.j2]; rw [c2, if_neg (by decide)]
        rcases in_cover l key seq i hi hn hm 0 (Nat.zero_le _) with ⟨v, ⟨K3, g3⟩, K4, g4⟩ | ⟨⟨c3, g3⟩, K4, g4⟩
        · refine ⟨v, ⟨K3 + 2, fun k hk => ?_⟩, K4 + 1, fun k hk => ?_⟩
          · obtain ⟨k, rfl⟩ : ∃ m, k = m + 2 := ⟨k - 2, by omega⟩
            rw [hsp]; exact g3 k (by omega)
          · obtain ⟨k, rfl⟩ : ∃ m, k = m + 1 := ⟨k - 1, by omega⟩
            rw [himp, show impl_atMost.l0 k seq (rd_T106 l (i : Int)).f2 ((rd_T106 l (i : Int)).f2.length : Int) 0 = some v from g4 k (by omega)]; rfl
        · obtain ⟨K5, g5⟩ := rest_low l key seq hn (i + 1) (by omega) fun j h1 h2 => later_low hf c1 j (by omega) h2
          refine ⟨0, ⟨K5 + c3 + 2, fun k hk => ?_⟩, K4 + 1, fun k hk => ?_⟩
          · obtain ⟨k, rfl⟩ : ∃ m, k = m + c3 + 2 := ⟨k - c3 - 2, by omega⟩
            rw [hsp, show spec_CoverSeq.l1 (k + c3) l key seq (i : Int) 0 = _ from g3 k]; exact g5 k (by omega)
          · obtain ⟨k, rfl⟩ : ∃ m, k = m + 1 := ⟨k - 1, by omega⟩
            rw [himp, show impl_atMost.l0 k seq (rd_T106 l (i : Int)).f2 ((rd_T106 l (i : Int)).f2.length : Int) 0 = some 0 from g4 k (by omega)]; rfl
      · refine ⟨r, ⟨K1 + 2, fun k hk => ?_⟩, K2 + 1, fun k hk => ?_⟩
        · obtain ⟨k, rfl⟩ : ∃ m, k = m + 2 := ⟨k - 2, by omega⟩
          rw [skip_low l key seq hn i hi (.inr c1) k]; exact g1 k (by omega)
        · obtain ⟨k, rfl⟩ : ∃ m, k = m + 1 := ⟨k - 1, by omega⟩
          simp only [impl_coverSeq.l0]; rw [if_pos (by omega), if_pos (by omega), if_pos (by omega), if_neg c0, if_neg c1, wrap_succ hi hn]; exact g2 k (by omega)
theorem cover (l : List FR) (key : ByteArray) (seq : Int) (hn : l.length ≤ 9223372036854775807) (hs : ∀ y, y ∈ l → y.f2.length ≤ 9223372036854775807) : ∃ r : Int,
    (∃ K : Nat, ∀ k : Nat, K ≤ k → spec_CoverSeq.f k l key seq = some r) ∧ (∃ K : Nat, ∀ k : Nat, K ≤ k → impl_CoverSeq.f k l key seq = some r) := by
  obtain ⟨b, hb, ⟨K1, g1⟩, K2, g2⟩ := frags l hn hs
  by_cases c : b = true
  · by_cases ck : KeyOk key
    · obtain ⟨r, ⟨K3, g3⟩, K4, g4⟩ := cover_l0 l key seq hn hs (hb.1 c) 0 (Nat.zero_le _)
      refine ⟨r, ⟨K1 + K3 + 1, fun k hk => ?_⟩, K2 + K4, fun k hk => ?_⟩
      · obtain ⟨k, rfl⟩ : ∃ m, k = m + 1 := ⟨k - 1, by omega⟩
        unfold spec_CoverSeq.f
        rw [g1 _ (by omega), Option.bind_some, if_pos c, key_spec, Option.bind_some]
        simp only [spec_CoverSeq.j0]; rw [if_neg (by simp [ck])]; exact g3 k (by omega)
      · unfold impl_CoverSeq.f impl_coverSeq.f
        rw [g2 _ (by omega), Option.bind_some, if_pos c, key_impl, Option.bind_some, if_pos (by simp [ck]), show impl_coverSeq.l0 k key seq l (l.length : Int) 0 = some r from g4 k (by omega)]; rfl
    · refine ⟨0, ⟨K1 + 1, fun k hk => ?_⟩, K2, fun k hk => ?_⟩
      · obtain ⟨k, rfl⟩ : ∃ m, k = m + 1 := ⟨k - 1, by omega⟩
        unfold spec_CoverSeq.f
        rw [g1 _ (by omega), Option.bind_some, if_pos c, key_spec, Option.bind_some]
        simp only [spec_CoverSeq.j0]; rw [if_pos (by simp [ck])]
      · unfold impl_CoverSeq.f
        rw [g2 _ (by omega), Option.bind_some, if_pos c, key_impl, Option.bind_some, if_neg (by simp [ck])]
  · refine ⟨0, ⟨K1 + 1, fun k hk => ?_⟩, K2, fun k hk => ?_⟩
    · obtain ⟨k, rfl⟩ : ∃ m, k = m + 1 := ⟨k - 1, by omega⟩
      unfold spec_CoverSeq.f
      rw [g1 _ (by omega), Option.bind_some, if_neg c]
      simp only [spec_CoverSeq.j0]; rw [if_pos (by first | trivial | decide | rfl)]
    · unfold impl_CoverSeq.f
      rw [g2 _ (by omega), Option.bind_some, if_neg c]


theorem FnExactCoverSeq : laws_FnExactCoverSeq.Pure := by
  intro x0 x1 x2 h0 h1 h2
  by_cases cs : (x1.size : Int) > 1048576
  · exact ⟨0, by unfold laws_FnExactCoverSeq.f; rw [if_pos cs]⟩
  obtain ⟨r0, ⟨K0, g0⟩, u0, q0⟩ := sz_FragmentS x0 1048576 (by omega) (by omega) h0
  by_cases c0 : r0 < 0
  · exact ⟨K0, by unfold laws_FnExactCoverSeq.f; rw [if_neg cs, g0 _ (Nat.le_refl _), Option.bind_some, if_pos c0]⟩
  obtain ⟨p0, s0⟩ := q0.resolve_left c0
  obtain ⟨K2, g2⟩ := toE_FragmentS x0 s0
  have n0 := s0.1
  have e0 : ∀ y, y ∈ x0.map to_Fragment → y.f2.length ≤ 9223372036854775807 := fun y hy => by
    obtain ⟨z, hz, rfl⟩ := List.mem_map.1 hy
    have := (s0.2 z hz).2.2
    show z.f2.length ≤ _
    omega
  obtain ⟨r, ⟨K4, g4⟩, ⟨K5, g5⟩⟩ := cover (x0.map to_Fragment) x1 x2 (by rw [List.length_map]; omega) e0
  obtain ⟨K6, g6⟩ := eq_FragmentS (x0.map to_Fragment) ⟨by rw [List.length_map]; omega, e0⟩
  obtain ⟨k, hk⟩ : ∃ k, K0 + K2 + K4 + K5 + K6 ≤ k := ⟨_, Nat.le_refl _⟩
  refine ⟨k, ?_⟩
  unfold laws_FnExactCoverSeq.f
  simp only [g0 k (by omega), g2 k (by omega), g4 k (by omega), g5 k (by omega), g6 k (by omega), Option.bind_some, if_neg cs, if_neg c0, bne_self_eq_false, Bool.false_eq_true, if_false, if_true]

end Go.Proofs.Ythlmjmejnlalaaa.Pure
