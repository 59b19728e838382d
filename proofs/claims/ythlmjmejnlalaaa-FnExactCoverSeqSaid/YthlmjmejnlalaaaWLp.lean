/- Plain lemmas for printed functions: whole numbers that do not wrap, reads of lists, loops as inductions. -/
import Derived.Test.YthlmjmejnlalaaaWWords
import Derived.Test.YthlmjmejnlalaaaWNEv
namespace Go.Proofs.YthlmjmejnlalaaaW.Lp
open Go.RowKit Go.Proofs.YthlmjmejnlalaaaW.PrintWords
set_option linter.unusedVariables false

theorem wrap_id {x : Int} (h0 : -9223372036854775808 ≤ x) (h1 : x ≤ 9223372036854775807) : wrap64 x = x := by unfold wrap64; omega
theorem wrap_succ {i n : Nat} (h : i < n) (hn : n ≤ 9223372036854775807) : wrap64 ((i : Int) + 1) = ((i + 1 : Nat) : Int) := by unfold wrap64; omega
theorem lit64 {x : Int} (h : (Lit.int .i64 x).wf = true) : -9223372036854775808 ≤ x ∧ x ≤ 9223372036854775807 := by
  simp only [Lit.wf, Bool.and_eq_true, decide_eq_true_eq] at h
  exact h

theorem rd_nat (xs : List Int) {i : Nat} (h : i < xs.length) : rd xs (i : Int) = xs[i] := by
  unfold rd
  rw [List.getD_eq_getElem?_getD, Int.toNat_natCast, List.getElem?_eq_getElem h]
  rfl
theorem getD_nat {α : Type} (xs : List α) (z : α) {i : Nat} (h : i < xs.length) : xs.getD ((i : Int)).toNat z = xs[i] := by
  rw [List.getD_eq_getElem?_getD, Int.toNat_natCast, List.getElem?_eq_getElem h]
  rfl

/-- Going down: what holds at the end and is handed on from each next one holds everywhere. -/
theorem down {n : Nat} {p : Nat → Prop} (h0 : p n) (hs : ∀ i, i < n → p (i + 1) → p i) : ∀ i, i ≤ n → p i := by
  intro i hi
  obtain ⟨d, hd⟩ : ∃ d, i + d = n := ⟨n - i, by omega⟩
  induction d generalizing i with
  | zero => rw [show i = n by omega]; exact h0
  | succ d ih => exact hs i (by omega) (ih (i + 1) (by omega) (by omega))

theorem Ev.of_some {α : Type} {x : Option α} {r : α} (h : x = some r) : Ev (fun _ => x) r := ⟨0, fun _ _ => h⟩
theorem Ev.bind0 {α β : Type} {x : Option α} {f : Nat → α → Option β} {a : α} {r : β} (h : x = some a) (k : Ev (fun n => f n a) r) : Ev (fun n => x.bind (f n)) r := by
  obtain ⟨K, k⟩ := k
  exact ⟨K, fun n hn => by rw [h]; exact k n hn⟩

theorem drop_cons {α : Type} (xs : List α) {i : Nat} (h : i < xs.length) : xs.drop i = xs[i] :: xs.drop (i + 1) := List.drop_eq_getElem_cons h
theorem take_snoc {α : Type} (xs : List α) {i : Nat} (h : i < xs.length) : xs.take (i + 1) = xs.take i ++ [xs[i]] := by
  rw [List.take_succ_eq_append_getElem h]
theorem wrap_pred {i n : Nat} (h0 : 0 < i) (h : i ≤ n) (hn : n ≤ 9223372036854775807) : wrap64 ((i : Int) - 1) = ((i - 1 : Nat) : Int) := by unfold wrap64; omega
/-- A loop that asks each element from i on, and then F. -/
theorem all_loop {L : Nat → Nat → Option Bool} {n : Nat} {P : Nat → Prop} {F : Prop} (m : Nat)
    (hs : ∀ i, m ≤ i → i < n → (P i ∧ ∃ K c : Nat, ∀ k : Nat, K ≤ k → L (k + c) i = L k (i + 1)) ∨ (¬ P i ∧ ∃ K : Nat, ∀ k : Nat, K ≤ k → L k i = some false))
    (he : ∃ b : Bool, (b = true ↔ F) ∧ ∃ K : Nat, ∀ k : Nat, K ≤ k → L k n = some b) :
    ∀ i, i ≤ n → m ≤ i → ∃ b : Bool, (b = true ↔ (∀ j, i ≤ j → j < n → P j) ∧ F) ∧ ∃ K : Nat, ∀ k : Nat, K ≤ k → L k i = some b := by
  refine down ?_ ?_
  · intro _
    obtain ⟨b, hb, h⟩ := he
    exact ⟨b, ⟨fun h => ⟨fun j h1 h2 => by omega, hb.1 h⟩, fun h => hb.2 h.2⟩, h⟩
  · intro i hi ih hm
    obtain ⟨b, hb, K, g⟩ := ih (by omega)
    rcases hs i hm hi with ⟨hp, K2, c, g2⟩ | ⟨hp, K2, g2⟩
    · refine ⟨b, ⟨fun h => ?_, fun h => hb.2 ⟨fun j h1 h2 => h.1 j (by omega) h2, h.2⟩⟩, K + K2 + c, fun k hk => ?_⟩
      · obtain ⟨h1, h2⟩ := hb.1 h
        refine ⟨fun j h3 h4 => ?_, h2⟩
        by_cases e : j = i
        · rw [e]; exact hp
        · exact h1 j (by omega) h4
      · obtain ⟨m, rfl⟩ : ∃ m, k = m + c := ⟨k - c, by omega⟩
        rw [g2 m (by omega)]
        exact g m (by omega)
    · exact ⟨false, ⟨fun h => by simp at h, fun h => absurd (h.1 i (Nat.le_refl _) hi) hp⟩, K2, g2⟩
/-- Two answers that say the same. -/
theorem bool_eq {a b : Bool} {p q : Prop} (ha : a = true ↔ p) (hb : b = true ↔ q) (h : p ↔ q) : a = b := Bool.eq_iff_iff.2 (ha.trans (h.trans hb.symm))
end Go.Proofs.YthlmjmejnlalaaaW.Lp
