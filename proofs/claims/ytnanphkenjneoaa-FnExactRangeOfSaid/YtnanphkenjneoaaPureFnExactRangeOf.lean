/- The program's RangeOf answers what the reference's answers: the pure statement, of all arguments. -/
import Derived.Test.YtnanphkenjneoaaPFnExactRangeOfx3
import Derived.Test.YtnanphkenjneoaaWLp
namespace Go.Proofs.Ytnanphkenjneoaa.Pure
open Go.RowKit Go.Proofs.Ytnanphkenjneoaa.PFnExactRangeOf Go.Proofs.YtnanphkenjneoaaW.PrintWords Go.Proofs.YtnanphkenjneoaaW.PrintLast Go.Proofs.YtnanphkenjneoaaW.PrintMore Go.Proofs.YtnanphkenjneoaaW.Lp

set_option linter.unusedVariables false
set_option linter.unusedSimpArgs false
def Sz_TableRef (x : S23) : Prop := (x.f5.size ≤ 1048576) ∧ (x.f6.size ≤ 1048576)
def to_TableRef (x : S23) : S26 := ⟨x.f0, x.f1, x.f2, x.f3, x.f4, x.f5, x.f6, x.f7, x.f8, x.f9⟩
theorem sz_TableRef (x : S23) (a : Int) (h0 : 0 ≤ a) (h1 : a ≤ 1048576) (hf : fit23 x) : ∃ r : Int, (∃ K : Nat, ∀ k : Nat, K ≤ k → laws_szTableRef.f (x.f0) (x.f1) (x.f2) (x.f3) (x.f4) (x.f5) (x.f6) (x.f7) (x.f8) (x.f9) a = some r) ∧ r ≤ 1048576 ∧ (r < 0 ∨ 0 ≤ r ∧ Sz_TableRef x) := by
  have w0 : x.f5.size ≤ 9223372036854775807 := hf.2.2.2.2.2.1
  by_cases c0 : wrap64 (a - (x.f5.size : Int)) < 0
  · exact ⟨-1, ⟨0, fun k hk => by unfold laws_szTableRef.f; rw [if_pos c0]⟩, by omega, .inl (by omega)⟩
  have e0 : wrap64 (a - (x.f5.size : Int)) = a - (x.f5.size : Int) := wrap_id (by omega) (by omega)
  have w1 : x.f6.size ≤ 9223372036854775807 := hf.2.2.2.2.2.2.1
  by_cases c1 : wrap64 (wrap64 (a - (x.f5.size : Int)) - (x.f6.size : Int)) < 0
  · exact ⟨-1, ⟨0, fun k hk => by unfold laws_szTableRef.f; rw [if_neg c0, if_pos c1]⟩, by omega, .inl (by omega)⟩
  have e1 : wrap64 (wrap64 (a - (x.f5.size : Int)) - (x.f6.size : Int)) = wrap64 (a - (x.f5.size : Int)) - (x.f6.size : Int) := wrap_id (by omega) (by omega)
  exact ⟨wrap64 (wrap64 (a - (x.f5.size : Int)) - (x.f6.size : Int)), ⟨0, fun k hk => by unfold laws_szTableRef.f; rw [if_neg c0, if_neg c1]⟩, by omega, .inr ⟨by omega, ⟨(by omega), (by omega)⟩⟩⟩
theorem sz_TableRefS_l0 (l : List S23) (hn : l.length ≤ 9223372036854775807) (hf : ∀ y, y ∈ l → fit23 y) : ∀ i, i ≤ l.length → ∀ a, 0 ≤ a → a ≤ 1048576 → ∃ r : Int, (∃ K : Nat, ∀ k : Nat, K ≤ k → laws_szTableRefS.l0 k l a (i : Int) = some r) ∧ r ≤ 1048576 ∧ (r < 0 ∨ 0 ≤ r ∧ ∀ y, y ∈ l.drop i → Sz_TableRef y) := by
  refine down ?_ ?_
  · intro a h0 h1
    exact ⟨a, ⟨1, fun k hk => by obtain ⟨k, rfl⟩ : ∃ m, k = m + 1 := ⟨k - 1, by omega⟩; simp only [laws_szTableRefS.l0]; rw [if_neg (by omega)]⟩, h1, .inr ⟨h0, by simp⟩⟩
  · intro i hi ih a h0 h1
    have hm : l[i] ∈ l := List.getElem_mem hi
    have hr : rd_T23 l (i : Int) = l[i] := getD_nat l _ hi
    obtain ⟨r, ⟨K, g⟩, u, q⟩ := sz_TableRef l[i] a h0 h1 (hf _ hm)
    by_cases c : r < 0
    · exact ⟨-1, ⟨K + 1, fun k hk => by obtain ⟨k, rfl⟩ : ∃ m, k = m + 1 := ⟨k - 1, by omega⟩; simp only [laws_szTableRefS.l0]; rw [if_pos (by omega), if_pos (by omega), hr, g k (by omega), Option.bind_some, if_pos c]⟩, by omega, .inl (by omega)⟩
    · obtain ⟨q0, q1⟩ := q.resolve_left c
      obtain ⟨r', ⟨K', g'⟩, u', q'⟩ := ih r q0 u
      refine ⟨r', ⟨K + K' + 1, fun k hk => by obtain ⟨k, rfl⟩ : ∃ m, k = m + 1 := ⟨k - 1, by omega⟩; simp only [laws_szTableRefS.l0]; rw [if_pos (by omega), if_pos (by omega), hr, g k (by omega), Option.bind_some, if_neg c, wrap_succ hi hn, g' k (by omega)]⟩, u', ?_⟩
      rcases q' with q' | ⟨q2, q3⟩
      · exact .inl q'
      · refine .inr ⟨q2, ?_⟩
        rw [drop_cons l hi]
        intro y hy
        rcases List.mem_cons.1 hy with rfl | hy
        · exact q1
        · exact q3 y hy
theorem sz_TableRefS (l : List S23) (a : Int) (h0 : 0 ≤ a) (h1 : a ≤ 1048576) (hf : (l.length ≤ 9223372036854775807 ∧ ∀ y0, y0 ∈ l → fit23 y0)) : ∃ r : Int, (∃ K : Nat, ∀ k : Nat, K ≤ k → laws_szTableRefS.f k l a = some r) ∧ r ≤ 1048576 ∧ (r < 0 ∨ 0 ≤ r ∧ (l.length ≤ 1048576 ∧ ∀ y0, y0 ∈ l → Sz_TableRef y0)) := by
  have hn := hf.1
  by_cases c : wrap64 (a - (l.length : Int)) < 0
  · exact ⟨-1, ⟨0, fun k _ => by unfold laws_szTableRefS.f; rw [if_pos c]⟩, by omega, .inl (by omega)⟩
  · have e : wrap64 (a - (l.length : Int)) = a - (l.length : Int) := wrap_id (by omega) (by omega)
    obtain ⟨r, ⟨K, g⟩, u, q⟩ := sz_TableRefS_l0 l hn hf.2 0 (Nat.zero_le _) (wrap64 (a - (l.length : Int))) (by omega) (by omega)
    refine ⟨r, ⟨K, fun k hk => by unfold laws_szTableRefS.f; rw [if_neg c]; exact g k hk⟩, u, ?_⟩
    rcases q with q | ⟨q0, q1⟩
    · exact .inl q
    · exact .inr ⟨q0, by omega, fun y hy => q1 y (by simpa using hy)⟩
theorem toE_TableRef (x : S23) (h : Sz_TableRef x) : (∃ K : Nat, ∀ k : Nat, K ≤ k → laws_toTableRef.f (x.f0) (x.f1) (x.f2) (x.f3) (x.f4) (x.f5) (x.f6) (x.f7) (x.f8) (x.f9) = some ((to_TableRef x).f0, (to_TableRef x).f1, (to_TableRef x).f2, (to_TableRef x).f3, (to_TableRef x).f4, (to_TableRef x).f5, (to_TableRef x).f6, (to_TableRef x).f7, (to_TableRef x).f8, (to_TableRef x).f9)) := by
  exact ⟨0, fun k hk => by unfold laws_toTableRef.f; first | done | rfl⟩
theorem toE_TableRefS_l0 (l : List S23) (hn : l.length ≤ 1048576) (hs : ∀ y, y ∈ l → Sz_TableRef y) : ∀ i, i ≤ l.length → ∀ o : List S26, o.length = l.length → o.take i = (l.take i).map to_TableRef → (∃ K : Nat, ∀ k : Nat, K ≤ k → laws_toTableRefS.l0 k l o (i : Int) = some (l.map to_TableRef)) := by
  refine down ?_ ?_
  · intro o ho ht
    rw [List.take_of_length_le (by omega), List.take_of_length_le (Nat.le_refl _)] at ht
    exact ⟨1, fun k hk => by obtain ⟨k, rfl⟩ : ∃ m, k = m + 1 := ⟨k - 1, by omega⟩; simp only [laws_toTableRefS.l0]; rw [if_neg (by omega), ht]⟩
  · intro i hi ih o ho ht
    have hr : rd_T23 l (i : Int) = l[i] := getD_nat l _ hi
    obtain ⟨K, g⟩ := toE_TableRef l[i] (hs _ (List.getElem_mem hi))
    obtain ⟨K', g'⟩ := ih (o.set i (to_TableRef l[i])) (by rw [List.length_set]; exact ho) (by rw [List.take_set, take_snoc o (by omega), ht, take_snoc l hi, List.map_append, List.set_append_right _ _ (by simp; omega)]; simp [Nat.min_eq_left (Nat.le_of_lt hi)])
    exact ⟨K + K' + 1, fun k hk => by obtain ⟨k, rfl⟩ : ∃ m, k = m + 1 := ⟨k - 1, by omega⟩; simp only [laws_toTableRefS.l0]; rw [if_pos (by omega), if_pos (by omega), hr, g k (by omega), Option.bind_some, if_pos (by omega), wrap_succ hi (by omega)]; exact g' k (by omega)⟩
theorem toE_TableRefS (l : List S23) (h : (l.length ≤ 1048576 ∧ ∀ y0, y0 ∈ l → Sz_TableRef y0)) : (∃ K : Nat, ∀ k : Nat, K ≤ k → laws_toTableRefS.f k l = some (l.map to_TableRef)) := by
  have hn : l.length ≤ 1048576 := h.1
  obtain ⟨K, g⟩ := toE_TableRefS_l0 l hn h.2 0 (Nat.zero_le _) (List.replicate ((l.length : Int)).toNat _) (by simp) (by simp)
  exact ⟨K, fun k hk => by unfold laws_toTableRefS.f; rw [if_pos (by omega), if_pos (by omega)]; exact g k hk⟩
theorem eq_TableRef (x : S26) : (∃ K : Nat, ∀ k : Nat, K ≤ k → laws_eqTableRef.f (x.f0) (x.f1) (x.f2) (x.f3) (x.f4) (x.f5) (x.f6) (x.f7) (x.f8) (x.f9) (x.f0) (x.f1) (x.f2) (x.f3) (x.f4) (x.f5) (x.f6) (x.f7) (x.f8) (x.f9) = some true) := by
  exact ⟨0, fun k hk => by simp [laws_eqTableRef.f]⟩
theorem eq_TableRefS_l0 (l : List S26) (hn : l.length ≤ 9223372036854775807) : ∀ i, i ≤ l.length → (∃ K : Nat, ∀ k : Nat, K ≤ k → laws_eqTableRefS.l0 k l l (i : Int) = some true) := by
  refine down ?_ ?_
  · exact ⟨1, fun k hk => by obtain ⟨k, rfl⟩ : ∃ m, k = m + 1 := ⟨k - 1, by omega⟩; simp only [laws_eqTableRefS.l0]; rw [if_neg (by omega)]⟩
  · intro i hi ih
    obtain ⟨K', g'⟩ := ih
    have hr : rd_T26 l (i : Int) = l[i] := getD_nat l _ hi
    obtain ⟨K, g⟩ := eq_TableRef l[i]
    exact ⟨K + K' + 1, fun k hk => by obtain ⟨k, rfl⟩ : ∃ m, k = m + 1 := ⟨k - 1, by omega⟩; simp only [laws_eqTableRefS.l0]; rw [if_pos (by omega), if_pos (by omega), if_pos (by omega), hr, g k (by omega), Option.bind_some, if_pos rfl, wrap_succ hi hn]; exact g' k (by omega)⟩
theorem eq_TableRefS (l : List S26) (h : l.length ≤ 9223372036854775807) : (∃ K : Nat, ∀ k : Nat, K ≤ k → laws_eqTableRefS.f k l l = some true) := by
  obtain ⟨K, g⟩ := eq_TableRefS_l0 l h 0 (Nat.zero_le _)
  exact ⟨K, fun k hk => by unfold laws_eqTableRefS.f; rw [if_pos rfl]; exact g k hk⟩

theorem less_irrefl : ∀ x : List UInt8, Op.bytesLess x x = false
  | [] => rfl
  | a :: x => by simp [Op.bytesLess, less_irrefl x, UInt8.lt_irrefl]

/-- Both loops, behind the first element. -/
theorem range_l0 (l : List S26) (hn : l.length ≤ 9223372036854775807) : ∀ i, i ≤ l.length → 0 < i → ∀ a b : ByteArray, ∃ r : ByteArray × ByteArray,
    (∃ K : Nat, ∀ k : Nat, K ≤ k → spec_l26Range.l0 k l a b (i : Int) = some r) ∧ (∃ K : Nat, ∀ k : Nat, K ≤ k → impl_RangeOf.l0 k a b l (l.length : Int) (i : Int) = some r) := by
  refine down ?_ ?_
  · intro _ a b
    refine ⟨(a, b), ⟨1, fun k hk => ?_⟩, ⟨1, fun k hk => ?_⟩⟩
    · obtain ⟨k, rfl⟩ : ∃ m, k = m + 1 := ⟨k - 1, by omega⟩
      simp only [spec_l26Range.l0]; rw [if_neg (by omega)]
    · obtain ⟨k, rfl⟩ : ∃ m, k = m + 1 := ⟨k - 1, by omega⟩
      simp only [impl_RangeOf.l0]; rw [if_neg (by omega)]
  · intro i hi ih h0 a b
    obtain ⟨a', ha'⟩ : ∃ a' : ByteArray, a' = if Op.bytesLess ((rd_T26 l (i : Int)).f5).toList a.toList = true then (rd_T26 l (i : Int)).f5 else a := ⟨_, rfl⟩
    obtain ⟨b', hb'⟩ : ∃ b' : ByteArray, b' = if Op.bytesLess b.toList ((rd_T26 l (i : Int)).f6).toList = true then (rd_T26 l (i : Int)).f6 else b := ⟨_, rfl⟩
    obtain ⟨r, ⟨K1, g1⟩, ⟨K2, g2⟩⟩ := ih (by omega) a' b'
    refine ⟨r, ⟨K1 + 2, fun k hk => ?_⟩, ⟨K2 + 1, fun k hk => ?_⟩⟩
    · obtain ⟨k, rfl⟩ : ∃ m, k = m + 1 + 1 := ⟨k - 2, by omega⟩
      simp only [spec_l26Range.l0]
      rw [if_pos (by omega), if_neg (by omega), if_pos (by omega)]
      simp only [spec_l26Range.j1]
      by_cases c1 : Op.bytesLess ((rd_T26 l (i : Int)).f5).toList a.toList = true
      · rw [if_pos c1] at ha'
        rw [if_pos c1, if_pos (by omega), if_pos (by omega), if_neg (by omega), wrap_succ hi hn, ← ha']
        by_cases c2 : Op.bytesLess b.toList ((rd_T26 l (i : Int)).f6).toList = true
        · rw [if_pos c2] at hb'
          rw [if_pos c2, ← hb']; exact g1 k (by omega)
        · rw [if_neg c2] at hb'
          rw [if_neg c2, ← hb']; exact g1 k (by omega)
      · rw [if_neg c1] at ha'
        rw [if_neg c1, if_neg (by omega), if_pos (by omega), if_pos (by omega), wrap_succ hi hn, ← ha']
        by_cases c2 : Op.bytesLess b.toList ((rd_T26 l (i : Int)).f6).toList = true
        · rw [if_pos c2] at hb'
          rw [if_pos c2, ← hb']; exact g1 k (by omega)
        · rw [if_neg c2] at hb'
          rw [if_neg c2, ← hb']; exact g1 k (by omega)
    · obtain ⟨k, rfl⟩ : ∃ m, k = m + 1 := ⟨k - 1, by omega⟩
      simp only [impl_RangeOf.l0]
      rw [if_pos (by omega), if_pos (by omega), if_pos (by omega), wrap_succ hi hn]
      by_cases c1 : Op.bytesLess ((rd_T26 l (i : Int)).f5).toList a.toList = true
      · rw [if_pos c1] at ha'
        rw [if_pos c1, ← ha']
        by_cases c2 : Op.bytesLess b.toList ((rd_T26 l (i : Int)).f6).toList = true
        · rw [if_pos c2] at hb'
          rw [if_pos c2, ← hb']; exact g2 k (by omega)
        · rw [if_neg c2] at hb'
          rw [if_neg c2, ← hb']; exact g2 k (by omega)
      · rw [if_neg c1] at ha'
        rw [if_neg c1, ← ha']
        by_cases c2 : Op.bytesLess b.toList ((rd_T26 l (i : Int)).f6).toList = true
        · rw [if_pos c2] at hb'
          rw [if_pos c2, ← hb']; exact g2 k (by omega)
        · rw [if_neg c2] at hb'
          rw [if_neg c2, ← hb']; exact g2 k (by omega)

theorem same (l : List S26) (hn : l.length ≤ 9223372036854775807) : ∃ r : ByteArray × ByteArray,
    (∃ K : Nat, ∀ k : Nat, K ≤ k → spec_RangeOf.f k l = some r) ∧ (∃ K : Nat, ∀ k : Nat, K ≤ k → impl_RangeOf.f k l = some r) := by
  by_cases h0 : l.length = 0
  · refine ⟨(⟨#[]⟩, ⟨#[]⟩), ⟨1, fun k hk => ?_⟩, ⟨0, fun k hk => ?_⟩⟩
    · obtain ⟨k, rfl⟩ : ∃ m, k = m + 1 := ⟨k - 1, by omega⟩
      unfold spec_RangeOf.f spec_l26Range.f
      simp only [spec_l26Range.l0]
      rw [if_neg (by omega)]
      rfl
    · unfold impl_RangeOf.f
      rw [if_pos (by omega)]
  · obtain ⟨r, ⟨K1, g1⟩, ⟨K2, g2⟩⟩ := range_l0 l hn 1 (by omega) (by omega) ((rd_T26 l 0).f5) ((rd_T26 l 0).f6)
    refine ⟨r, ⟨K1 + 2, fun k hk => ?_⟩, ⟨K2 + 1, fun k hk => ?_⟩⟩
    · obtain ⟨k, rfl⟩ : ∃ m, k = m + 1 + 1 := ⟨k - 2, by omega⟩
      unfold spec_RangeOf.f spec_l26Range.f
      have : spec_l26Range.l0 (k + 1 + 1) l ⟨#[]⟩ ⟨#[]⟩ 0 = some r := by
        simp only [spec_l26Range.l0]
        rw [if_pos (by omega), if_pos trivial]
        simp only [spec_l26Range.j1]
        rw [if_pos trivial, if_pos (by omega), if_pos (by omega), if_pos trivial, show wrap64 ((0 : Int) + 1) = ((1 : Nat) : Int) from by unfold wrap64; rfl]
        exact g1 k (by omega)
      rw [this]
      rfl
    · obtain ⟨k, rfl⟩ : ∃ m, k = m + 1 := ⟨k - 1, by omega⟩
      unfold impl_RangeOf.f
      rw [if_neg (by omega), if_pos (by omega)]
      simp only [impl_RangeOf.l0]
      have e1 := less_irrefl ((rd_T26 l 0).f5).toList
      have e2 := less_irrefl ((rd_T26 l 0).f6).toList
      rw [if_pos (by omega), if_pos (by omega), if_pos (by omega), if_neg (by rw [e1]; decide), if_neg (by rw [e2]; decide), show wrap64 ((0 : Int) + 1) = ((1 : Nat) : Int) from by unfold wrap64; rfl]
      exact g2 k (by omega)

theorem FnExactRangeOf : laws_FnExactRangeOf.Pure := by
  intro x0 h0
  obtain ⟨r0, ⟨K0, g0⟩, u0, q0⟩ := sz_TableRefS x0 1048576 (by omega) (by omega) h0
  by_cases c0 : r0 < 0
  · exact ⟨K0, by unfold laws_FnExactRangeOf.f; rw [g0 _ (Nat.le_refl _), Option.bind_some, if_pos c0]⟩
  obtain ⟨p0, s0⟩ := q0.resolve_left c0
  obtain ⟨K2, g2⟩ := toE_TableRefS x0 s0
  have n0 := s0.1
  obtain ⟨r, ⟨K4, g4⟩, ⟨K5, g5⟩⟩ := same (x0.map to_TableRef) (by rw [List.length_map]; omega)
  obtain ⟨K6, g6⟩ := eq_TableRefS (x0.map to_TableRef) (by rw [List.length_map]; omega)
  obtain ⟨k, hk⟩ : ∃ k, K0 + K2 + K4 + K5 + K6 ≤ k := ⟨_, Nat.le_refl _⟩
  refine ⟨k + 1, ?_⟩
  unfold laws_FnExactRangeOf.f
  simp only [g0 (k + 1) (by omega), g2 (k + 1) (by omega), g4 (k + 1) (by omega), g5 (k + 1) (by omega), Option.bind_some, if_neg c0, if_true, laws_FnExactRangeOf.j0, bne_self_eq_false, Bool.false_eq_true, if_false, g2 k (by omega), g6 k (by omega)]

end Go.Proofs.Ytnanphkenjneoaa.Pure
