/- The program's PickVictim answers what the reference's answers: the pure statement, of all arguments. -/
import Derived.Test.YtnanphkenjneoaaPFnExactPickVictimx5
import Derived.Test.YtnanphkenjneoaaWLp
namespace Go.Proofs.Ytnanphkenjneoaa.Pure
open Go.RowKit Go.Proofs.Ytnanphkenjneoaa.PFnExactPickVictim Go.Proofs.YtnanphkenjneoaaW.PrintWords Go.Proofs.YtnanphkenjneoaaW.PrintLast Go.Proofs.YtnanphkenjneoaaW.PrintMore Go.Proofs.YtnanphkenjneoaaW.Lp

set_option linter.unusedVariables false
set_option linter.unusedSimpArgs false
theorem sz_BlockStatS (l : List S106) (a : Int) (h0 : 0 ≤ a) (h1 : a ≤ 1048576) (hf : (l.length ≤ 9223372036854775807 ∧ ∀ y0, y0 ∈ l → fit106 y0)) : ∃ r : Int, (∃ K : Nat, ∀ k : Nat, K ≤ k → laws_szBlockStatS.f l a = some r) ∧ r ≤ 1048576 ∧ (r < 0 ∨ 0 ≤ r ∧ l.length ≤ 1048576) := by
  have hn := hf.1
  by_cases c : wrap64 (a - (l.length : Int)) < 0
  · exact ⟨-1, ⟨0, fun k _ => by unfold laws_szBlockStatS.f; rw [if_pos c]⟩, by omega, .inl (by omega)⟩
  · have e : wrap64 (a - (l.length : Int)) = a - (l.length : Int) := wrap_id (by omega) (by omega)
    exact ⟨_, ⟨0, fun k _ => by unfold laws_szBlockStatS.f; rw [if_neg c]⟩, by omega, .inr ⟨by omega, by omega⟩⟩
def Sz_BlockStat (x : S106) : Prop := True
def to_BlockStat (x : S106) : S104 := ⟨x.f0, x.f1, x.f2⟩
theorem toE_BlockStat (x : S106) : (∃ K : Nat, ∀ k : Nat, K ≤ k → laws_toBlockStat.f (x.f0) (x.f1) (x.f2) = some ((to_BlockStat x).f0, (to_BlockStat x).f1, (to_BlockStat x).f2)) := by
  exact ⟨0, fun k hk => by unfold laws_toBlockStat.f; first | done | rfl⟩
theorem toE_BlockStatS_l0 (l : List S106) (hn : l.length ≤ 1048576) : ∀ i, i ≤ l.length → ∀ o : List S104, o.length = l.length → o.take i = (l.take i).map to_BlockStat → (∃ K : Nat, ∀ k : Nat, K ≤ k → laws_toBlockStatS.l0 k l o (i : Int) = some (l.map to_BlockStat)) := by
  refine down ?_ ?_
  · intro o ho ht
    rw [List.take_of_length_le (by omega), List.take_of_length_le (Nat.le_refl _)] at ht
    exact ⟨1, fun k hk => by obtain ⟨k, rfl⟩ : ∃ m, k = m + 1 := ⟨k - 1, by omega⟩; simp only [laws_toBlockStatS.l0]; rw [if_neg (by omega), ht]⟩
  · intro i hi ih o ho ht
    have hr : rd_T106 l (i : Int) = l[i] := getD_nat l _ hi
    obtain ⟨K, g⟩ := toE_BlockStat l[i]
    obtain ⟨K', g'⟩ := ih (o.set i (to_BlockStat l[i])) (by rw [List.length_set]; exact ho) (by rw [List.take_set, take_snoc o (by omega), ht, take_snoc l hi, List.map_append, List.set_append_right _ _ (by simp; omega)]; simp [Nat.min_eq_left (Nat.le_of_lt hi)])
    exact ⟨K + K' + 1, fun k hk => by obtain ⟨k, rfl⟩ : ∃ m, k = m + 1 := ⟨k - 1, by omega⟩; simp only [laws_toBlockStatS.l0]; rw [if_pos (by omega), if_pos (by omega), hr, g k (by omega), Option.bind_some, if_pos (by omega), wrap_succ hi (by omega)]; exact g' k (by omega)⟩
theorem toE_BlockStatS (l : List S106) (h : l.length ≤ 1048576) : (∃ K : Nat, ∀ k : Nat, K ≤ k → laws_toBlockStatS.f k l = some (l.map to_BlockStat)) := by
  have hn : l.length ≤ 1048576 := h
  obtain ⟨K, g⟩ := toE_BlockStatS_l0 l hn 0 (Nat.zero_le _) (List.replicate ((l.length : Int)).toNat _) (by simp) (by simp)
  exact ⟨K, fun k hk => by unfold laws_toBlockStatS.f; rw [if_pos (by omega), if_pos (by omega)]; exact g k hk⟩
theorem eq_BlockStat (x : S104) : (∃ K : Nat, ∀ k : Nat, K ≤ k → laws_eqBlockStat.f (x.f0) (x.f1) (x.f2) (x.f0) (x.f1) (x.f2) = some true) := by
  exact ⟨0, fun k hk => by simp [laws_eqBlockStat.f]⟩
theorem eq_BlockStatS_l0 (l : List S104) (hn : l.length ≤ 9223372036854775807) : ∀ i, i ≤ l.length → (∃ K : Nat, ∀ k : Nat, K ≤ k → laws_eqBlockStatS.l0 k l l (i : Int) = some true) := by
  refine down ?_ ?_
  · exact ⟨1, fun k hk => by obtain ⟨k, rfl⟩ : ∃ m, k = m + 1 := ⟨k - 1, by omega⟩; simp only [laws_eqBlockStatS.l0]; rw [if_neg (by omega)]⟩
  · intro i hi ih
    obtain ⟨K', g'⟩ := ih
    have hr : rd_T104 l (i : Int) = l[i] := getD_nat l _ hi
    obtain ⟨K, g⟩ := eq_BlockStat l[i]
    exact ⟨K + K' + 1, fun k hk => by obtain ⟨k, rfl⟩ : ∃ m, k = m + 1 := ⟨k - 1, by omega⟩; simp only [laws_eqBlockStatS.l0]; rw [if_pos (by omega), if_pos (by omega), if_pos (by omega), hr, g k (by omega), Option.bind_some, if_pos rfl, wrap_succ hi hn]; exact g' k (by omega)⟩
theorem eq_BlockStatS (l : List S104) (h : l.length ≤ 9223372036854775807) : (∃ K : Nat, ∀ k : Nat, K ≤ k → laws_eqBlockStatS.f k l l = some true) := by
  obtain ⟨K, g⟩ := eq_BlockStatS_l0 l h 0 (Nat.zero_le _)
  exact ⟨K, fun k hk => by unfold laws_eqBlockStatS.f; rw [if_pos rfl]; exact g k hk⟩
theorem within_some (a b c : Int) : impl_within.f a b c = some (decide (b ≤ a ∧ a ≤ c)) := by
  unfold impl_within.f
  by_cases h : b ≤ a
  · rw [if_pos h]; simp [h]
  · rw [if_neg h]; simp [h]
theorem in_some (a b c : Int) : spec_l00In.f a b c = some (decide (b ≤ a ∧ a ≤ c)) := by
  unfold spec_l00In.f
  by_cases h : b ≤ a
  · rw [if_pos h]; simp [h]
  · rw [if_neg h]; simp [h]

abbrev BS := S104
def okB (p : Int) (x : BS) : Bool := decide (0 ≤ x.f0 ∧ x.f0 ≤ p) && decide (0 ≤ x.f1 ∧ x.f1 ≤ 1000000)
theorem ok_spec_l0 (p : Int) (l : List BS) (hn : l.length ≤ 9223372036854775807) : ∀ i, i ≤ l.length → ∃ K : Nat, ∀ k : Nat, K ≤ k → spec_l11Ok.l0 k l p (i : Int) = some ((l.drop i).all (okB p)) := by
  refine down ?_ ?_
  · refine ⟨1, fun k hk => ?_⟩
    obtain ⟨k, rfl⟩ : ∃ m, k = m + 1 := ⟨k - 1, by omega⟩
    simp only [spec_l11Ok.l0]; rw [if_neg (by omega), List.drop_length]; rfl
  · intro i hi ⟨K, g⟩
    have hr : rd_T104 l (i : Int) = l[i] := getD_nat l _ hi
    refine ⟨K + 1, fun k hk => ?_⟩
    obtain ⟨k, rfl⟩ : ∃ m, k = m + 1 := ⟨k - 1, by omega⟩
    simp only [spec_l11Ok.l0]
    rw [if_pos (by omega), if_pos (by omega), hr, in_some, in_some, Option.bind_some, Option.bind_some, wrap_succ hi hn, g k (by omega), drop_cons l hi, List.all_cons]
    unfold okB
    by_cases c0 : 0 ≤ l[i].f0 ∧ l[i].f0 ≤ p
    · by_cases c1 : 0 ≤ l[i].f1 ∧ l[i].f1 ≤ 1000000
      · simp [c0, c1]
      · simp [c0, c1]
    · simp [c0]
theorem ok_impl_l0 (p : Int) (l : List BS) (hn : l.length ≤ 9223372036854775807) : ∀ i, i ≤ l.length → ∃ r : Int, decide (r ≥ 0) = !((l.drop i).all (okB p)) ∧
    ∃ K : Nat, ∀ k : Nat, K ≤ k → impl_BlockStat_105.l0 k l (fun y0_ y1_ y2_ => impl_ValidStats_1.f y0_ y1_ y2_ p) (l.length : Int) (i : Int) = some r := by
  refine down ?_ ?_
  · refine ⟨-1, by rw [List.drop_length]; rfl, 1, fun k hk => ?_⟩
    obtain ⟨k, rfl⟩ : ∃ m, k = m + 1 := ⟨k - 1, by omega⟩
    simp only [impl_BlockStat_105.l0]; rw [if_neg (by omega)]
  · intro i hi ⟨r, hr', K, g⟩
    have hr : rd_T104 l (i : Int) = l[i] := getD_nat l _ hi
    have hc : impl_ValidStats_1.f l[i].f0 l[i].f1 l[i].f2 p = some (!(okB p l[i])) := by
      unfold impl_ValidStats_1.f okB
      rw [within_some, within_some, Option.bind_some, Option.bind_some]
      by_cases c0 : 0 ≤ l[i].f0 ∧ l[i].f0 ≤ p
      · simp [c0]
      · simp [c0]
    cases h : okB p l[i] with
    | true =>
      refine ⟨r, by rw [hr', drop_cons l hi, List.all_cons, h, Bool.true_and], K + 1, fun k hk => ?_⟩
      obtain ⟨k, rfl⟩ : ∃ m, k = m + 1 := ⟨k - 1, by omega⟩
      simp only [impl_BlockStat_105.l0]
      rw [if_pos (by omega), if_pos (by omega), if_pos (by omega), hr, hc, h, Option.bind_some, if_neg (by decide), wrap_succ hi hn]
      exact g k (by omega)
    | false =>
      refine ⟨(i : Int), by rw [drop_cons l hi, List.all_cons, h, Bool.false_and]; simp, 1, fun k hk => ?_⟩
      obtain ⟨k, rfl⟩ : ∃ m, k = m + 1 := ⟨k - 1, by omega⟩
      simp only [impl_BlockStat_105.l0]
      rw [if_pos (by omega), if_pos (by omega), if_pos (by omega), hr, hc, h, Option.bind_some, if_pos (by decide)]
theorem stats (l : List BS) (hn : l.length ≤ 9223372036854775807) (p : Int) : ∃ b : Bool, (∃ K : Nat, ∀ k : Nat, K ≤ k → spec_l11Ok.f k l p = some b) ∧ (∃ K : Nat, ∀ k : Nat, K ≤ k → impl_ValidStats.f k l p = some b) := by
  by_cases c0 : 1 ≤ p ∧ p ≤ 640
  · by_cases c1 : (l.length : Int) ≤ 640
    · obtain ⟨K1, g1⟩ := ok_spec_l0 p l hn 0 (Nat.zero_le _)
      obtain ⟨r, hr, K2, g2⟩ := ok_impl_l0 p l hn 0 (Nat.zero_le _)
      refine ⟨l.all (okB p), ⟨K1 + 1, fun k hk => ?_⟩, ⟨K2, fun k hk => ?_⟩⟩
      · obtain ⟨k, rfl⟩ : ∃ m, k = m + 1 := ⟨k - 1, by omega⟩
        unfold spec_l11Ok.f
        rw [in_some, Option.bind_some, if_pos (by simp [c0])]
        simp only [spec_l11Ok.j0]
        rw [if_neg (by simp; omega)]
        exact g1 k (by omega)
      · unfold impl_ValidStats.f impl_BlockStat_98.f impl_BlockStat_105.f
        rw [within_some, Option.bind_some, if_pos (by simp [c0]), if_pos c1]
        have := g2 k hk
        rw [show ((0 : Nat) : Int) = 0 from rfl] at this
        rw [this, Option.bind_some, Option.bind_some, hr, List.drop_zero, Bool.not_not]
    · refine ⟨false, ⟨1, fun k hk => ?_⟩, ⟨0, fun k hk => ?_⟩⟩
      · obtain ⟨k, rfl⟩ : ∃ m, k = m + 1 := ⟨k - 1, by omega⟩
        unfold spec_l11Ok.f
        rw [in_some, Option.bind_some, if_pos (by simp [c0])]
        simp only [spec_l11Ok.j0]
        rw [if_pos (by simp; omega)]
      · unfold impl_ValidStats.f
        rw [within_some, Option.bind_some, if_pos (by simp [c0]), if_neg c1]
  · refine ⟨false, ⟨1, fun k hk => ?_⟩, ⟨0, fun k hk => ?_⟩⟩
    · obtain ⟨k, rfl⟩ : ∃ m, k = m + 1 := ⟨k - 1, by omega⟩
      unfold spec_l11Ok.f
      rw [in_some, Option.bind_some, if_neg (by simp only [decide_eq_true_eq]; exact c0)]
      simp only [spec_l11Ok.j0]
      rfl
    · unfold impl_ValidStats.f
      rw [within_some, Option.bind_some, if_neg (by simp only [decide_eq_true_eq]; exact c0)]
/-- Both searches, where the comparisons agree. -/
theorem victim_l0 (pol p : Int) (P : Int → Int → Bool → Int → Int → Bool → Option Bool) (hP : ∀ x y : BS, P x.f0 x.f1 x.f2 y.f0 y.f1 y.f2 = spec_l11Better.f pol x.f0 x.f1 x.f2 y.f0 y.f1 y.f2 p) (hB : ∀ x y : BS, ∃ b, spec_l11Better.f pol x.f0 x.f1 x.f2 y.f0 y.f1 y.f2 p = some b)
    (l : List BS) (hn : l.length ≤ 9223372036854775807) : ∀ i, i ≤ l.length → ∀ q : Int, (q < 0 ∨ 0 ≤ q ∧ q < (l.length : Int)) → ∃ r : Int,
    (∃ K : Nat, ∀ k : Nat, K ≤ k → spec_l11Victim.l0 k pol l p q (i : Int) = some r) ∧ (∃ K : Nat, ∀ k : Nat, K ≤ k → impl_victim.l0 k l p P q l (l.length : Int) (i : Int) = some r) := by
  refine down ?_ ?_
  · intro q hq
    refine ⟨q, ⟨1, fun k hk => ?_⟩, ⟨1, fun k hk => ?_⟩⟩
    · obtain ⟨k, rfl⟩ : ∃ m, k = m + 1 := ⟨k - 1, by omega⟩
      simp only [spec_l11Victim.l0]; rw [if_neg (by omega)]
    · obtain ⟨k, rfl⟩ : ∃ m, k = m + 1 := ⟨k - 1, by omega⟩
      simp only [impl_victim.l0]; rw [if_neg (by omega)]
  · intro i hi ih q hq
    have hs : ∀ k : Nat, ∀ z : Int, (∃ K : Nat, True) := fun _ _ => ⟨0, trivial⟩
    obtain ⟨b, hb⟩ := hB (rd_T104 l (i : Int)) (rd_T104 l q)
    -- which element is the best behind this one
    obtain ⟨q', hq', e1, e2⟩ : ∃ q' : Int, (q' < 0 ∨ 0 ≤ q' ∧ q' < (l.length : Int)) ∧ (∀ k : Nat, spec_l11Victim.l0 (k + 2) pol l p q (i : Int) = spec_l11Victim.l0 k pol l p q' ((i + 1 : Nat) : Int)) ∧ (∀ k : Nat, impl_victim.l0 (k + 1) l p P q l (l.length : Int) (i : Int) = impl_victim.l0 k l p P q' l (l.length : Int) ((i + 1 : Nat) : Int)) := by
      by_cases cu : (rd_T104 l (i : Int)).f2 = true
      · by_cases cl : (rd_T104 l (i : Int)).f0 < p
        · by_cases cq : q < 0
          · refine ⟨(i : Int), .inr ⟨by omega, by omega⟩, fun k => ?_, fun k => ?_⟩
            · simp only [spec_l11Victim.l0]
              rw [if_pos (by omega), if_pos (by omega), if_pos cu]
              simp only [spec_l11Victim.j1]
              rw [if_neg (by simp; omega), if_pos cq, wrap_succ hi hn]
            · simp only [impl_victim.l0]
              rw [if_pos (by omega), if_pos (by omega), if_pos (by omega), if_pos cu, if_pos cl, if_pos cq, wrap_succ hi hn]
          · have hq2 : 0 ≤ q ∧ q < (l.length : Int) := hq.resolve_left cq
            cases b with
            | true =>
              refine ⟨(i : Int), .inr ⟨by omega, by omega⟩, fun k => ?_, fun k => ?_⟩
              · simp only [spec_l11Victim.l0]
                rw [if_pos (by omega), if_pos (by omega), if_pos cu]
                simp only [spec_l11Victim.j1]
                rw [if_neg (by simp; omega), if_neg cq, if_pos (by omega), if_pos (by omega), if_pos hq2.1, if_pos hq2.2, hb, Option.bind_some, if_pos rfl, wrap_succ hi hn]
              · simp only [impl_victim.l0]
                rw [if_pos (by omega), if_pos (by omega), if_pos (by omega), if_pos cu, if_pos cl, if_neg cq, if_pos hq2.1, if_pos hq2.2, hP, hb, Option.bind_some, if_pos rfl, wrap_succ hi hn]
            | false =>
              refine ⟨q, .inr hq2, fun k => ?_, fun k => ?_⟩
              · simp only [spec_l11Victim.l0]
                rw [if_pos (by omega), if_pos (by omega), if_pos cu]
                simp only [spec_l11Victim.j1]
                rw [if_neg (by simp; omega), if_neg cq, if_pos (by omega), if_pos (by omega), if_pos hq2.1, if_pos hq2.2, hb, Option.bind_some, if_neg (by decide), wrap_succ hi hn]
              · simp only [impl_victim.l0]
                rw [if_pos (by omega), if_pos (by omega), if_pos (by omega), if_pos cu, if_pos cl, if_neg cq, if_pos hq2.1, if_pos hq2.2, hP, hb, Option.bind_some, if_neg (by decide), wrap_succ hi hn]
        · refine ⟨q, hq, fun k => ?_, fun k => ?_⟩
          · simp only [spec_l11Victim.l0]
            rw [if_pos (by omega), if_pos (by omega), if_pos cu]
            simp only [spec_l11Victim.j1]
            rw [if_pos (by simp; omega), wrap_succ hi hn]
          · simp only [impl_victim.l0]
            rw [if_pos (by omega), if_pos (by omega), if_pos (by omega), if_pos cu, if_neg cl, wrap_succ hi hn]
      · refine ⟨q, hq, fun k => ?_, fun k => ?_⟩
        · simp only [spec_l11Victim.l0]
          rw [if_pos (by omega), if_pos (by omega), if_neg cu]
          simp only [spec_l11Victim.j1]
          rw [if_pos trivial, wrap_succ hi hn]
        · simp only [impl_victim.l0]
          rw [if_pos (by omega), if_pos (by omega), if_pos (by omega), if_neg cu, wrap_succ hi hn]
    obtain ⟨r, ⟨K1, g1⟩, ⟨K2, g2⟩⟩ := ih q' hq'
    refine ⟨r, ⟨K1 + 2, fun k hk => ?_⟩, ⟨K2 + 1, fun k hk => ?_⟩⟩
    · obtain ⟨k, rfl⟩ : ∃ m, k = m + 2 := ⟨k - 2, by omega⟩
      rw [e1]; exact g1 k (by omega)
    · obtain ⟨k, rfl⟩ : ∃ m, k = m + 1 := ⟨k - 1, by omega⟩
      rw [e2]; exact g2 k (by omega)
theorem better_some (pol p : Int) (x y : BS) : ∃ b, spec_l11Better.f pol x.f0 x.f1 x.f2 y.f0 y.f1 y.f2 p = some b := by
  unfold spec_l11Better.f
  split <;> exact ⟨_, rfl⟩
theorem victim_any (pol p : Int) (P : Int → Int → Bool → Int → Int → Bool → Option Bool) (hP : ∀ x y : BS, P x.f0 x.f1 x.f2 y.f0 y.f1 y.f2 = spec_l11Better.f pol x.f0 x.f1 x.f2 y.f0 y.f1 y.f2 p)
    (l : List BS) (hn : l.length ≤ 9223372036854775807) : ∃ r : Int,
    (∃ K : Nat, ∀ k : Nat, K ≤ k → spec_l11Victim.f k pol l p = some r) ∧ (∃ K : Nat, ∀ k : Nat, K ≤ k → impl_victim.f k l p P = some r) := by
  obtain ⟨r, ⟨K1, g1⟩, ⟨K2, g2⟩⟩ := victim_l0 pol p P hP (better_some pol p) l hn 0 (Nat.zero_le _) (-1) (.inl (by omega))
  exact ⟨r, ⟨K1, fun k hk => g1 k hk⟩, ⟨K2, fun k hk => g2 k hk⟩⟩


theorem same (pol : Int) (l : List BS) (hn : l.length ≤ 9223372036854775807) (p : Int) : ∃ r : Int,
    (∃ K : Nat, ∀ k : Nat, K ≤ k → spec_PickVictim.f k pol l p = some r) ∧ (∃ K : Nat, ∀ k : Nat, K ≤ k → impl_PickVictim.f k pol l p = some r) := by
  obtain ⟨b, ⟨K1, g1⟩, ⟨K2, g2⟩⟩ := stats l hn p
  by_cases c1 : pol = 1
  · subst c1
    obtain ⟨r, ⟨K3, g3⟩, ⟨K4, g4⟩⟩ := victim_any 1 p (fun y0_ y1_ y2_ y3_ y4_ y5_ => impl_GreedyVictim_1.f y0_ y1_ y2_ y3_ y4_ y5_) (fun x y => rfl) l hn
    cases b with
    | true =>
      refine ⟨r, ⟨K1 + K3, fun k hk => ?_⟩, ⟨K2 + K4, fun k hk => ?_⟩⟩
      · unfold spec_PickVictim.f
        simp only [in_some, g1 k (by omega), g3 k (by omega), Option.bind_some]; rfl
      · unfold impl_PickVictim.f impl_GreedyVictim.f
        simp only [g2 k (by omega), g4 k (by omega), Option.bind_some]; rfl
    | false =>
      refine ⟨-1, ⟨K1 + K3, fun k hk => ?_⟩, ⟨K2 + K4, fun k hk => ?_⟩⟩
      · unfold spec_PickVictim.f
        simp only [in_some, g1 k (by omega), Option.bind_some]; rfl
      · unfold impl_PickVictim.f impl_GreedyVictim.f
        simp only [g2 k (by omega), Option.bind_some]; rfl
  · by_cases c2 : pol = 2
    · subst c2
      obtain ⟨r, ⟨K3, g3⟩, ⟨K4, g4⟩⟩ := victim_any 2 p (fun y0_ y1_ y2_ y3_ y4_ y5_ => impl_CostBenefitVictim_1.f y0_ y1_ y2_ y3_ y4_ y5_ p) (fun x y => rfl) l hn
      cases b with
      | true =>
        refine ⟨r, ⟨K1 + K3, fun k hk => ?_⟩, ⟨K2 + K4, fun k hk => ?_⟩⟩
        · unfold spec_PickVictim.f
          simp only [in_some, g1 k (by omega), g3 k (by omega), Option.bind_some]; rfl
        · unfold impl_PickVictim.f impl_CostBenefitVictim.f
          simp only [g2 k (by omega), g4 k (by omega), Option.bind_some]; rfl
      | false =>
        refine ⟨-1, ⟨K1 + K3, fun k hk => ?_⟩, ⟨K2 + K4, fun k hk => ?_⟩⟩
        · unfold spec_PickVictim.f
          simp only [in_some, g1 k (by omega), Option.bind_some]; rfl
        · unfold impl_PickVictim.f impl_CostBenefitVictim.f
          simp only [g2 k (by omega), Option.bind_some]; rfl
    · refine ⟨-1, ⟨0, fun k hk => ?_⟩, ⟨0, fun k hk => ?_⟩⟩
      · unfold spec_PickVictim.f
        have c : ¬ (1 ≤ pol ∧ pol ≤ 2) := by omega
        rw [in_some, Option.bind_some, if_neg (by simp only [decide_eq_true_eq]; exact c)]
      · unfold impl_PickVictim.f
        rw [if_neg c1, if_neg c2]

theorem FnExactPickVictim : laws_FnExactPickVictim.Pure := by
  intro x0 x1 x2 h0 h1 h2
  obtain ⟨r0, ⟨K0, g0⟩, u0, q0⟩ := sz_BlockStatS x1 1048576 (by omega) (by omega) h1
  by_cases c0 : r0 < 0
  · exact ⟨K0, by unfold laws_FnExactPickVictim.f; rw [g0 K0 (Nat.le_refl _), Option.bind_some, if_pos c0]⟩
  obtain ⟨p0, s0⟩ := q0.resolve_left c0
  obtain ⟨K2, g2⟩ := toE_BlockStatS x1 s0
  obtain ⟨r, ⟨K4, g4⟩, ⟨K5, g5⟩⟩ := same x0 (x1.map to_BlockStat) (by rw [List.length_map]; omega) x2
  obtain ⟨K6, g6⟩ := eq_BlockStatS (x1.map to_BlockStat) (by rw [List.length_map]; omega)
  obtain ⟨k, hk⟩ : ∃ k, K0 + K2 + K4 + K5 + K6 ≤ k := ⟨_, Nat.le_refl _⟩
  refine ⟨k, ?_⟩
  unfold laws_FnExactPickVictim.f
  simp only [g0 k (by omega), g2 k (by omega), g4 k (by omega), g5 k (by omega), g6 k (by omega), Option.bind_some, if_neg c0, if_true]

end Go.Proofs.Ytnanphkenjneoaa.Pure
