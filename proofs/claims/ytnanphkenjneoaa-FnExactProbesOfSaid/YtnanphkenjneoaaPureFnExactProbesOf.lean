/- The program's ProbesOf answers what the reference's answers: the pure statement, of all arguments. -/
import Derived.Test.YtnanphkenjneoaaPFnExactProbesOfx2
import Derived.Test.YtnanphkenjneoaaWLp
namespace Go.Proofs.Ytnanphkenjneoaa.Pure
open Go.RowKit Go.Proofs.Ytnanphkenjneoaa.PFnExactProbesOf Go.Proofs.YtnanphkenjneoaaW.PrintWords Go.Proofs.YtnanphkenjneoaaW.PrintLast Go.Proofs.YtnanphkenjneoaaW.PrintMore Go.Proofs.YtnanphkenjneoaaW.Lp

set_option linter.unusedVariables false
set_option linter.unusedSimpArgs false
theorem eq_Int64S_l0 (l : List Int) (hn : l.length ≤ 9223372036854775807) : ∀ i, i ≤ l.length → (∃ K : Nat, ∀ k : Nat, K ≤ k → laws_eqInt64S.l0 k l l (i : Int) = some true) := by
  refine down ?_ ?_
  · exact ⟨1, fun k hk => by obtain ⟨k, rfl⟩ : ∃ m, k = m + 1 := ⟨k - 1, by omega⟩; simp only [laws_eqInt64S.l0]; rw [if_neg (by omega)]⟩
  · intro i hi ih
    obtain ⟨K', g'⟩ := ih
    exact ⟨K' + 1, fun k hk => by obtain ⟨k, rfl⟩ : ∃ m, k = m + 1 := ⟨k - 1, by omega⟩; simp only [laws_eqInt64S.l0]; rw [if_pos (by omega), if_pos (by omega), if_pos (by omega), if_pos (by trivial), wrap_succ hi hn]; exact g' k (by omega)⟩
theorem eq_Int64S (l : List Int) (h : l.length ≤ 9223372036854775807) : (∃ K : Nat, ∀ k : Nat, K ≤ k → laws_eqInt64S.f k l l = some true) := by
  obtain ⟨K, g⟩ := eq_Int64S_l0 l h 0 (Nat.zero_le _)
  exact ⟨K, fun k hk => by unfold laws_eqInt64S.f; rw [if_pos rfl]; exact g k hk⟩
theorem mark_ints_l0 (n : Nat) (hn : n ≤ 1048576) : ∀ i, i ≤ n → ∀ (o : List Int) (a : Int), o.length = n → 0 ≤ a → a + (n - i : Nat) ≤ 1099511627776 →
    ∃ m : List Int, m.length = n ∧ (∀ j, j < i → m[j]? = o[j]?) ∧ (∀ j, i ≤ j → j < n → m[j]? = some (a + (j - i : Nat))) ∧ ∃ K : Nat, ∀ k : Nat, K ≤ k → laws_markInt64S.l0 k o a (i : Int) = some (a + (n - i : Nat), m) := by
  refine down ?_ ?_
  · intro o a ho h0 h1
    refine ⟨o, ho, fun _ _ => rfl, fun j h2 h3 => by omega, 1, fun k hk => ?_⟩
    obtain ⟨k, rfl⟩ : ∃ m, k = m + 1 := ⟨k - 1, by omega⟩
    simp only [laws_markInt64S.l0]
    rw [if_neg (by omega), Nat.sub_self]
    simp
  · intro i hi ih o a ho h0 h1
    have e : wrap64 (a + 1) = a + 1 := wrap_id (by omega) (by omega)
    obtain ⟨m, hm, hl, hg, K, g⟩ := ih (o.set i a) (a + 1) (by rw [List.length_set]; exact ho) (by omega) (by omega)
    refine ⟨m, hm, fun j hj => ?_, fun j h2 h3 => ?_, K + 1, fun k hk => ?_⟩
    · rw [hl j (by omega), List.getElem?_set_ne (by omega)]
    · by_cases hj : j = i
      · subst hj
        rw [hl j (by omega), List.getElem?_set_self (by omega), Nat.sub_self]
        simp
      · rw [hg j (by omega) h3]
        congr 1
        omega
    · obtain ⟨k, rfl⟩ : ∃ m, k = m + 1 := ⟨k - 1, by omega⟩
      simp only [laws_markInt64S.l0]
      rw [if_pos (by omega), if_pos (by omega), e, wrap_succ hi (by omega)]
      have := g k (by omega)
      rw [show a + 1 + ((n - (i + 1) : Nat) : Int) = a + ((n - i : Nat) : Int) by omega] at this
      exact this
theorem held_ints_l0 (n : Nat) (hn : n ≤ 1048576) (m : List Int) (hm : m.length = n) (b : Int) (hg : ∀ j, j < n → m[j]? = some (b + (j : Nat))) (h0 : 0 ≤ b) (h1 : b ≤ 1048576) : ∀ i, i ≤ n →
    ∃ K : Nat, ∀ k : Nat, K ≤ k → laws_heldInt64S.l0 k m (b + (i : Nat)) (i : Int) = some (b + (n : Nat)) := by
  refine down ?_ ?_
  · refine ⟨1, fun k hk => ?_⟩
    obtain ⟨k, rfl⟩ : ∃ m, k = m + 1 := ⟨k - 1, by omega⟩
    simp only [laws_heldInt64S.l0]
    rw [if_neg (by omega)]
  · intro i hi ⟨K, g⟩
    refine ⟨K + 1, fun k hk => ?_⟩
    obtain ⟨k, rfl⟩ : ∃ m, k = m + 1 := ⟨k - 1, by omega⟩
    have hr : rd m (i : Int) = b + (i : Nat) := by
      rw [rd_nat m (by omega)]
      have := hg i hi
      rw [List.getElem?_eq_getElem (by omega)] at this
      exact Option.some.inj this
    simp only [laws_heldInt64S.l0]
    rw [if_pos (by omega), if_pos (by omega), if_pos hr, wrap_succ hi (by omega), wrap_id (x := b + (i : Nat) + 1) (by omega) (by omega)]
    have := g k (by omega)
    rw [show b + ((i + 1 : Nat) : Int) = b + (i : Nat) + 1 by omega] at this
    exact this
/-- What is written over a list of numbers, and found again. -/
theorem mark_ints (l : List Int) (hl : l.length ≤ 1048576) (b : Int) (h0 : 0 ≤ b) (h1 : b ≤ 1048576) : ∃ m : List Int,
    (∃ K : Nat, ∀ k : Nat, K ≤ k → laws_markInt64S.f k l b = some (b + (l.length : Nat), m)) ∧ (∃ K : Nat, ∀ k : Nat, K ≤ k → laws_heldInt64S.f k m b = some (b + (l.length : Nat))) := by
  obtain ⟨m, hm, _, hg, K, g⟩ := mark_ints_l0 l.length hl 0 (Nat.zero_le _) l b rfl h0 (by omega)
  obtain ⟨K2, g2⟩ := held_ints_l0 l.length hl m hm b (fun j hj => by have := hg j (Nat.zero_le _) hj; rwa [Nat.sub_zero] at this) h0 h1 0 (Nat.zero_le _)
  refine ⟨m, ⟨K, fun k hk => ?_⟩, ⟨K2, fun k hk => ?_⟩⟩
  · unfold laws_markInt64S.f
    exact g k hk
  · unfold laws_heldInt64S.f
    have := g2 k hk
    rw [show b + ((0 : Nat) : Int) = b by omega] at this
    exact this

theorem bits_xor_nat (k : IntKind) (j : Nat) (hj : j ≤ k.bits) (hk : ∀ n : Int, 0 ≤ n → n < 2 ^ j → k.wrap n = n) (a b : Nat) (ha : a < 2 ^ j) (hb : b < 2 ^ j) : Go.bits .xor k a b = ((a ^^^ b : Nat) : Int) := by
  have hp : 2 ^ j ≤ 2 ^ k.bits := Nat.pow_le_pow_right (by decide) hj
  have ha' : a % 2 ^ k.bits = a := Nat.mod_eq_of_lt (Nat.lt_of_lt_of_le ha hp)
  have hb' : b % 2 ^ k.bits = b := Nat.mod_eq_of_lt (Nat.lt_of_lt_of_le hb hp)
  simp only [Go.bits, BitVec.ofInt_natCast, BitVec.toNat_xor, BitVec.toNat_ofNat, ha', hb']
  exact hk _ (Int.natCast_nonneg _) (by exact_mod_cast Nat.xor_lt_two_pow ha hb)
theorem wraps_u32 (n : Int) (h0 : 0 ≤ n) (h1 : n < 2 ^ 32) : IntKind.u32.wrap n = n := by
  rw [IntKind.wrap_u32]; omega
theorem wraps_i64 (n : Int) (h0 : 0 ≤ n) (h1 : n < 2 ^ 63) : IntKind.i64.wrap n = n := by
  rw [IntKind.wrap_i64]; omega
/-- One round of the hash, of both. -/
theorem hash_round (x : Int) (b : Int) (h0 : 0 ≤ x) (h1 : x < 4294967296) (b0 : 0 ≤ b) (b1 : b ≤ 255) : ∃ y : Int, 0 ≤ y ∧ y < 4294967296 ∧
    Go.bits .and .i64 (wrap64 ((Go.bits .xor .i64 x (wrap64 b)) * 16777619)) 4294967295 = y ∧ ((Go.bits .xor .u32 x (b % 4294967296)) * 16777619) % 4294967296 = y := by
  obtain ⟨n, rfl⟩ := Int.eq_ofNat_of_zero_le h0
  obtain ⟨c, rfl⟩ := Int.eq_ofNat_of_zero_le b0
  have hn : n < 2 ^ 32 := by omega
  have hc : c < 2 ^ 32 := by omega
  have hx : (n ^^^ c) < 2 ^ 32 := Nat.xor_lt_two_pow hn hc
  have e1 : wrap64 (c : Int) = c := by unfold wrap64; omega
  have e2 : (c : Int) % 4294967296 = c := by omega
  rw [e1, e2, bits_xor_nat .i64 32 (by decide) (fun m a b => wraps_i64 m a (by omega)) n c hn hc, bits_xor_nat .u32 32 (by decide) wraps_u32 n c hn hc]
  have e3 : wrap64 (((n ^^^ c : Nat) : Int) * 16777619) = ((n ^^^ c : Nat) : Int) * 16777619 := by unfold wrap64; omega
  rw [e3]
  refine ⟨((n ^^^ c : Nat) : Int) * 16777619 % 4294967296, by omega, by omega, ?_, rfl⟩
  exact bits_mask .i64 63 (by decide) wraps_i64 32 (by decide) _ (by omega) (by omega)
theorem hash_l0 (s : ByteArray) (hs : s.size ≤ 1048576) : ∀ i, i ≤ s.size → ∀ x : Int, 0 ≤ x → x < 4294967296 → ∃ r : Int, 0 ≤ r ∧ r < 4294967296 ∧
    (∃ K : Nat, ∀ k : Nat, K ≤ k → spec_l21Hash.l0 k s x (i : Int) = some r) ∧ (∃ K : Nat, ∀ k : Nat, K ≤ k → impl_KeyHash.l0 k s x (s.size : Int) (i : Int) = some r) := by
  refine down ?_ ?_
  · intro x h0 h1
    refine ⟨x, h0, h1, ⟨1, fun k hk => ?_⟩, ⟨1, fun k hk => ?_⟩⟩
    · obtain ⟨k, rfl⟩ : ∃ m, k = m + 1 := ⟨k - 1, by omega⟩
      simp only [spec_l21Hash.l0]; rw [if_neg (by omega)]
    · obtain ⟨k, rfl⟩ : ∃ m, k = m + 1 := ⟨k - 1, by omega⟩
      simp only [impl_KeyHash.l0]; rw [if_neg (by omega), wrap_id (by omega) (by omega)]
  · intro i hi ih x h0 h1
    obtain ⟨y, y0, y1, ea, eb⟩ := hash_round x (bt s (i : Int)) h0 h1 (bt_range s i).1 (bt_range s i).2
    obtain ⟨r, r0, r1, ⟨K1, g1⟩, ⟨K2, g2⟩⟩ := ih y y0 y1
    refine ⟨r, r0, r1, ⟨K1 + 1, fun k hk => ?_⟩, ⟨K2 + 1, fun k hk => ?_⟩⟩
    · obtain ⟨k, rfl⟩ : ∃ m, k = m + 1 := ⟨k - 1, by omega⟩
      simp only [spec_l21Hash.l0]; rw [if_pos (by omega), if_pos (by omega), ea, wrap_succ hi (by omega)]; exact g1 k (by omega)
    · obtain ⟨k, rfl⟩ : ∃ m, k = m + 1 := ⟨k - 1, by omega⟩
      simp only [impl_KeyHash.l0]; rw [if_pos (by omega), if_pos (by omega), if_pos (by omega), eb, wrap_succ hi (by omega)]; exact g2 k (by omega)
theorem hash (s : ByteArray) (hs : s.size ≤ 1048576) (d : Int) (hd : d = 0 ∨ d = 1) : ∃ r : Int, 0 ≤ r ∧ r < 4294967296 ∧
    (∃ K : Nat, ∀ k : Nat, K ≤ k → spec_l21Hash.f k s d = some r) ∧ (∃ K : Nat, ∀ k : Nat, K ≤ k → impl_KeyHash.f k s d = some r) := by
  obtain ⟨x, x0, x1, e1, e2⟩ : ∃ x : Int, 0 ≤ x ∧ x < 4294967296 ∧ Go.bits .xor .i64 2166136261 (Go.bits .and .i64 d 4294967295) = x ∧ Go.bits .xor .u32 2166136261 (d % 4294967296) = x := by
    rcases hd with rfl | rfl
    · exact ⟨2166136261, by decide, by decide, by decide, by decide⟩
    · exact ⟨2166136260, by decide, by decide, by decide, by decide⟩
  obtain ⟨r, r0, r1, ⟨K1, g1⟩, ⟨K2, g2⟩⟩ := hash_l0 s hs 0 (Nat.zero_le _) x x0 x1
  refine ⟨r, r0, r1, ⟨K1, fun k hk => ?_⟩, ⟨K2, fun k hk => ?_⟩⟩
  · unfold spec_l21Hash.f; rw [e1]; exact g1 k hk
  · unfold impl_KeyHash.f; rw [e2]; exact g2 k hk
theorem probes_l0 (z h d : Int) (z0 : 1 ≤ z) (z1 : z ≤ 80) : ∀ i, i ≤ 4 → ∀ o : List Int, o.length ≤ i → ∃ r : List Int, r.length ≤ 4 ∧
    (∃ K : Nat, ∀ k : Nat, K ≤ k → spec_l21Probes.l0 k z o h d (i : Int) = some r) ∧ (∃ K : Nat, ∀ k : Nat, K ≤ k → impl_probes.l0 k z h d o (i : Int) = some r) := by
  have e : wrap64 (8 * z) = 8 * z := wrap_id (by omega) (by omega)
  refine down ?_ ?_
  · intro o ho
    refine ⟨o, ho, ⟨1, fun k hk => ?_⟩, ⟨1, fun k hk => ?_⟩⟩
    · obtain ⟨k, rfl⟩ : ∃ m, k = m + 1 := ⟨k - 1, by omega⟩
      simp only [spec_l21Probes.l0]; rw [if_neg (by omega)]
    · obtain ⟨k, rfl⟩ : ∃ m, k = m + 1 := ⟨k - 1, by omega⟩
      simp only [impl_probes.l0]; rw [if_neg (by omega)]
  · intro i hi ih o ho
    obtain ⟨r, hr, ⟨K1, g1⟩, ⟨K2, g2⟩⟩ := ih (o ++ [Int.tmod (wrap64 (h + (wrap64 ((i : Int) * d)))) (wrap64 (8 * z))]) (by rw [List.length_append, List.length_singleton]; omega)
    refine ⟨r, hr, ⟨K1 + 1, fun k hk => ?_⟩, ⟨K2 + 1, fun k hk => ?_⟩⟩
    · obtain ⟨k, rfl⟩ : ∃ m, k = m + 1 := ⟨k - 1, by omega⟩
      simp only [spec_l21Probes.l0]; rw [if_pos (by omega), if_neg (by omega), if_pos (by omega), wrap_succ hi (by omega)]; exact g1 k (by omega)
    · obtain ⟨k, rfl⟩ : ∃ m, k = m + 1 := ⟨k - 1, by omega⟩
      simp only [impl_probes.l0]; rw [if_pos (by omega), if_neg (by omega), if_pos (by omega), wrap_succ hi (by omega)]; exact g2 k (by omega)
/-- The probes, of both. -/
theorem probes (s : ByteArray) (hs : s.size ≤ 1048576) (z : Int) (z0 : 1 ≤ z) (z1 : z ≤ 80) : ∃ r : List Int, r.length ≤ 4 ∧
    (∃ K : Nat, ∀ k : Nat, K ≤ k → spec_l21Probes.f k s z = some r) ∧ (∃ K : Nat, ∀ k : Nat, K ≤ k → impl_probes.f k s z = some r) := by
  obtain ⟨h, _, _, ⟨K1, g1⟩, ⟨K2, g2⟩⟩ := hash s hs 0 (.inl rfl)
  obtain ⟨d, _, _, ⟨K3, g3⟩, ⟨K4, g4⟩⟩ := hash s hs 1 (.inr rfl)
  obtain ⟨r, hr, ⟨K5, g5⟩, ⟨K6, g6⟩⟩ := probes_l0 z h (Go.bits .or .i64 d 1) z0 z1 0 (by omega) [] (Nat.zero_le _)
  refine ⟨r, hr, ⟨K1 + K3 + K5, fun k hk => ?_⟩, ⟨K2 + K4 + K6, fun k hk => ?_⟩⟩
  · unfold spec_l21Probes.f; rw [g1 k (by omega), Option.bind_some, g3 k (by omega), Option.bind_some]; exact g5 k (by omega)
  · unfold impl_probes.f; rw [g2 k (by omega), Option.bind_some, g4 k (by omega), Option.bind_some]; exact g6 k (by omega)


theorem same (s : ByteArray) (hs : s.size ≤ 1048576) (z : Int) : ∃ r : List Int, r.length ≤ 4 ∧
    (∃ K : Nat, ∀ k : Nat, K ≤ k → spec_ProbesOf.f k s z = some r) ∧ (∃ K : Nat, ∀ k : Nat, K ≤ k → impl_ProbesOf.f k s z = some r) := by
  by_cases ck : (1 : Int) ≤ (s.size : Int) ∧ (s.size : Int) ≤ 8
  · by_cases cz : 1 ≤ z ∧ z ≤ 80
    · obtain ⟨r, hr, ⟨K1, g1⟩, ⟨K2, g2⟩⟩ := probes s hs z cz.1 cz.2
      refine ⟨r, hr, ⟨K1, fun k hk => ?_⟩, ⟨K2, fun k hk => ?_⟩⟩
      · simp [spec_ProbesOf.f, spec_l17Key.f, spec_l21Size.f, spec_l00In.f, ck.1, ck.2, cz.1, cz.2, g1 k hk]
      · simp [impl_ProbesOf.f, impl_ValidKey.f, impl_within.f, ck.1, ck.2, cz.1, cz.2, g2 k hk]
    · refine ⟨[], by simp, ⟨0, fun k hk => ?_⟩, ⟨0, fun k hk => ?_⟩⟩
      · by_cases c1 : 1 ≤ z
        · have c2 : ¬ z ≤ 80 := fun h => cz ⟨c1, h⟩
          simp [spec_ProbesOf.f, spec_l17Key.f, spec_l21Size.f, spec_l00In.f, ck.1, ck.2, c1, c2]
        · simp [spec_ProbesOf.f, spec_l17Key.f, spec_l21Size.f, spec_l00In.f, ck.1, ck.2, c1]
      · by_cases c1 : 1 ≤ z
        · have c2 : ¬ z ≤ 80 := fun h => cz ⟨c1, h⟩
          simp [impl_ProbesOf.f, impl_ValidKey.f, impl_within.f, ck.1, ck.2, c1, c2]
        · simp [impl_ProbesOf.f, impl_ValidKey.f, impl_within.f, ck.1, ck.2, c1]
  · refine ⟨[], by simp, ⟨0, fun k hk => ?_⟩, ⟨0, fun k hk => ?_⟩⟩
    · by_cases c1 : (1 : Int) ≤ (s.size : Int)
      · have c2 : ¬ (s.size : Int) ≤ 8 := fun h => ck ⟨c1, h⟩
        simp [spec_ProbesOf.f, spec_l17Key.f, c1, c2]
      · simp [spec_ProbesOf.f, spec_l17Key.f, c1]
    · by_cases c1 : (1 : Int) ≤ (s.size : Int)
      · have c2 : ¬ (s.size : Int) ≤ 8 := fun h => ck ⟨c1, h⟩
        simp [impl_ProbesOf.f, impl_ValidKey.f, impl_within.f, c1, c2]
      · simp [impl_ProbesOf.f, impl_ValidKey.f, impl_within.f, c1]

theorem FnExactProbesOf : laws_FnExactProbesOf.Pure := by
  intro x0 x1 h0 h1
  by_cases c : (x0.size : Int) > 1048576
  · exact ⟨0, by unfold laws_FnExactProbesOf.f; rw [if_pos c]⟩
  obtain ⟨r, hr, ⟨K1, g1⟩, ⟨K2, g2⟩⟩ := same x0 (by omega) x1
  obtain ⟨K3, g3⟩ := eq_Int64S r (by omega)
  obtain ⟨m, ⟨K4, g4⟩, ⟨K5, g5⟩⟩ := mark_ints r (by omega) 1 (by omega) (by omega)
  obtain ⟨k, hk⟩ : ∃ k, K1 + K2 + K3 + K4 + K5 ≤ k := ⟨_, Nat.le_refl _⟩
  refine ⟨k, ?_⟩
  unfold laws_FnExactProbesOf.f
  have c5 : ¬ (1 + (r.length : Int) < 0) := by omega
  simp only [if_neg c, g1 k (by omega), g2 k (by omega), g3 k (by omega), g4 k (by omega), g5 k (by omega), Option.bind_some, if_neg c5, if_true]

end Go.Proofs.Ytnanphkenjneoaa.Pure
