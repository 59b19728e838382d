/- The program's ValidTable answers what the reference's answers: the pure statement, of all arguments. -/
import Derived.Test.YtnanphkenjneoaaPFnExactValidTablex3
import Derived.Test.YtnanphkenjneoaaWLp
namespace Go.Proofs.Ytnanphkenjneoaa.Pure
open Go.RowKit Go.Proofs.Ytnanphkenjneoaa.PFnExactValidTable Go.Proofs.YtnanphkenjneoaaW.PrintWords Go.Proofs.YtnanphkenjneoaaW.PrintLast Go.Proofs.YtnanphkenjneoaaW.PrintMore Go.Proofs.YtnanphkenjneoaaW.Lp

set_option linter.unusedVariables false
set_option linter.unusedSimpArgs false
structure S26 where
  f0 : Int
  f1 : Int
  f2 : Int
  f3 : Int
  f4 : Int
  f5 : ByteArray
  f6 : ByteArray
  f7 : Int
  f8 : Int
  f9 : Int
def Sz_TableRef (x : S23) : Prop := (x.f5.size ≤ 1048576) ∧ (x.f6.size ≤ 1048576)
def to_TableRef (x : S23) : S26 := ⟨x.f0, x.f1, x.f2, x.f3, x.f4, x.f5, x.f6, x.f7, x.f8, x.f9⟩
theorem sz_TableRef (x : S23) (a : Int) (h0 : 0 ≤ a) (h1 : a ≤ 1048576) (hf : fit23 x) : ∃ r : Int, (∃ K : Nat, ∀ k : Nat, K ≤ k → laws_szTableRef.f (x.f0) (x.f1) (x.f2) (x.f3) (x.f4) (x.f5) (x.f6) (x.f7) (x.f8) (x.f9) a = some r) ∧ r ≤ 1048576 ∧ (r < 0 ∨ 0 ≤ r ∧ Sz_TableRef x) := by
  have w0 : x.f5.size ≤ 9223372036854775807 := hf.2.2.2.2.2.1
  by_cases c0 : wrap64 (a - (x.f5.size : Int)) < 0
  · exact ⟨-1, ⟨0, fun k hk => by unfold laws_szTableRef.f; rw [if_pos c0]⟩, by omega, .inl (by omega)⟩
  have e0 : wrap64 (a - (x.f5.size : Int)) = a - (x.f5.size : Int) := wrap_id (by omega) (by omega)
  have w1 : x.f6.size ≤ 9223372036854775807 := hf.2.2.2.2.2.2.1
  by_cases c1 : wrap64 (wrap64 (a - (x.f5.size : Int)) - (x.f6.size : Int)) < 0
  · exact ⟨-1, ⟨0, fun k hk => by unfold laws_szTableRef.f; rw [if_neg c0, if_pos c1]⟩, by omega, .inl (by omega)⟩
  have e1 : wrap64 (wrap64 (a - (x.f5.size : Int)) - (x.f6.size : Int)) = wrap64 (a - (x.f5.size : Int)) - (x.f6.size : Int) := wrap_id (by omega) (by omega)
  exact ⟨wrap64 (wrap64 (a - (x.f5.size : Int)) - (x.f6.size : Int)), ⟨0, fun k hk => by unfold laws_szTableRef.f; rw [if_neg c0, if_neg c1]⟩, by omega, .inr ⟨by omega, ⟨(by omega), (by omega)⟩⟩⟩
theorem toE_TableRef (x : S23) (h : Sz_TableRef x) : (∃ K : Nat, ∀ k : Nat, K ≤ k → laws_toTableRef.f (x.f0) (x.f1) (x.f2) (x.f3) (x.f4) (x.f5) (x.f6) (x.f7) (x.f8) (x.f9) = some ((to_TableRef x).f0, (to_TableRef x).f1, (to_TableRef x).f2, (to_TableRef x).f3, (to_TableRef x).f4, (to_TableRef x).f5, (to_TableRef x).f6, (to_TableRef x).f7, (to_TableRef x).f8, (to_TableRef x).f9)) := by
  exact ⟨0, fun k hk => by unfold laws_toTableRef.f; first | done | rfl⟩
theorem within_some (a b c : Int) : impl_within.f a b c = some (decide (b ≤ a ∧ a ≤ c)) := by
  unfold impl_within.f
  by_cases h : b ≤ a
  · rw [if_pos h]; simp [h]
  · rw [if_neg h]; simp [h]
theorem in_some (a b c : Int) : spec_l00In.f a b c = some (decide (b ≤ a ∧ a ≤ c)) := by
  unfold spec_l00In.f
  by_cases h : b ≤ a
  · rw [if_pos h]; simp [h]
  · rw [if_neg h]; simp [h]

/-- A valid table, of both. -/
def tableB (x : S26) : Bool := decide (1 ≤ x.f0 ∧ x.f0 ≤ 1000000) && (decide (0 ≤ x.f1 ∧ x.f1 ≤ 2) && (decide (0 ≤ x.f2 ∧ x.f2 ≤ 11) && (decide (0 ≤ x.f3 ∧ x.f3 ≤ 1000) && (decide (1 ≤ x.f4 ∧ x.f4 ≤ 100) &&
  (decide ((x.f5.size : Int) ≤ 9) && (decide ((x.f6.size : Int) ≤ 9) && (Op.bytesLess x.f5.toList x.f6.toList && (decide (x.f7 > 0) && (decide (x.f7 ≤ x.f8) && (decide (x.f8 ≤ 1000000) && decide (1 ≤ x.f9 ∧ x.f9 ≤ 60)))))))))))
theorem if_and (b : Bool) {c : Bool} {r : Option Bool} (h : r = some c) : (if b = true then r else some false) = some (b && c) := by
  cases b <;> simp [h]
theorem if_andP (p : Prop) [Decidable p] {c : Bool} {r : Option Bool} (h : r = some c) : (if p then r else some false) = some (decide p && c) := by
  by_cases hp : p <;> simp [hp, h]
theorem if_orP (p : Prop) [Decidable p] {c : Bool} {r : Option Bool} (h : r = some c) : (if p then some false else r) = some (!(decide p) && c) := by
  by_cases hp : p <;> simp [hp, h]
theorem valid_table_impl (x : S26) : impl_ValidTable.f x.f0 x.f1 x.f2 x.f3 x.f4 x.f5 x.f6 x.f7 x.f8 x.f9 = some (tableB x) := by
  unfold impl_ValidTable.f tableB
  simp only [within_some, Option.bind_some]
  exact if_and _ (if_and _ (if_and _ (if_and _ (if_and _ (if_andP _ (if_andP _ (if_and _ (if_andP _ (if_andP _ (if_andP _ rfl))))))))))
theorem valid_table_j0 (k : Nat) (b : Bool) (x : S26) : spec_l25Table.j0 (k + 1) b x.f0 x.f1 x.f2 x.f3 x.f4 x.f5 x.f6 x.f7 x.f8 x.f9 = some (!b && (decide ((x.f5.size : Int) ≤ 9) && (decide ((x.f6.size : Int) ≤ 9) && (Op.bytesLess x.f5.toList x.f6.toList && (decide (x.f7 > 0) && (decide (x.f7 ≤ x.f8) && (decide (x.f8 ≤ 1000000) && decide (1 ≤ x.f9 ∧ x.f9 ≤ 60)))))))) := by
  simp only [spec_l25Table.j0, in_some, Option.bind_some]
  have e5 : decide ((x.f5.size : Int) ≤ 9) = !(decide ((x.f5.size : Int) > 9)) := by rw [← decide_not]; exact decide_eq_decide.2 (by omega)
  have e6 : decide ((x.f6.size : Int) ≤ 9) = !(decide ((x.f6.size : Int) > 9)) := by rw [← decide_not]; exact decide_eq_decide.2 (by omega)
  rw [e5, e6]
  cases b with
  | true => simp
  | false =>
    rw [if_neg (by decide), Bool.not_false, Bool.true_and]
    exact if_orP _ (if_orP _ (if_and _ (if_andP _ (if_andP _ (if_andP _ rfl)))))
theorem valid_table_spec (x : S26) (k : Nat) (hk : 1 ≤ k) : spec_l25Table.f k x.f0 x.f1 x.f2 x.f3 x.f4 x.f5 x.f6 x.f7 x.f8 x.f9 = some (tableB x) := by
  obtain ⟨k, rfl⟩ : ∃ m, k = m + 1 := ⟨k - 1, by omega⟩
  unfold spec_l25Table.f tableB
  simp only [in_some, Option.bind_some, valid_table_j0, Bool.not_true, Bool.false_and, Bool.not_not]
  exact if_and _ (if_and _ (if_and _ (if_and _ rfl)))
theorem valid_table (x : S26) : (∃ K : Nat, ∀ k : Nat, K ≤ k → spec_l25Table.f k x.f0 x.f1 x.f2 x.f3 x.f4 x.f5 x.f6 x.f7 x.f8 x.f9 = some (tableB x)) ∧ impl_ValidTable.f x.f0 x.f1 x.f2 x.f3 x.f4 x.f5 x.f6 x.f7 x.f8 x.f9 = some (tableB x) :=
  ⟨⟨1, fun k hk => valid_table_spec x k hk⟩, valid_table_impl x⟩


theorem FnExactValidTable : laws_FnExactValidTable.Pure := by
  intro x0 h0
  obtain ⟨r0, ⟨K0, g0⟩, u0, q0⟩ := sz_TableRef x0 1048576 (by omega) (by omega) h0
  by_cases c0 : r0 < 0
  · exact ⟨K0, by unfold laws_FnExactValidTable.f; rw [g0 K0 (Nat.le_refl _), Option.bind_some, if_pos c0]⟩
  obtain ⟨p0, s0⟩ := q0.resolve_left c0
  obtain ⟨K2, g2⟩ := toE_TableRef x0 s0
  obtain ⟨⟨K4, g4⟩, g5⟩ := valid_table (to_TableRef x0)
  obtain ⟨k, hk⟩ : ∃ k, K0 + K2 + K4 ≤ k := ⟨_, Nat.le_refl _⟩
  refine ⟨k, ?_⟩
  unfold laws_FnExactValidTable.f spec_ValidTable.f
  simp only [g0 k (by omega), g2 k (by omega), g4 k (by omega), g5, Option.bind_some, if_neg c0, bne_self_eq_false, Bool.false_eq_true, if_false]

end Go.Proofs.Ytnanphkenjneoaa.Pure
