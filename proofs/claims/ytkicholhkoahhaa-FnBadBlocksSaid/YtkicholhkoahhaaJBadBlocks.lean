--#dropmissing
/- FnBadBlocks: tables of bad blocks stay good, whatever blocks are retired. No condition beyond what each theorem states. -/
import Derived.Test.YtkicholhkoahhaaIBadBlocksf
import Derived.Test.YtkicholhkoahhaaItMk
namespace Go.Proofs.Ytkicholhkoahhaa.IBadBlocks
open Go Go.Proofs.YtkicholhkoahhaaIT
set_option linter.unusedSimpArgs false
set_option linter.unusedVariables false

theorem in90 (a lo hi : Int) : den E 57 [(.i .i64 a), (.i .i64 lo), (.i .i64 hi)] [] = some (.b (decide (lo ≤ a) && decide (a ≤ hi))) := by
  rw [f57_eq, beq_true, cond_andb]
theorem in72 (a lo hi : Int) : den E 54 [(.i .i64 a), (.i .i64 lo), (.i .i64 hi)] [] = some (.b (decide (lo ≤ a) && decide (a ≤ hi))) := by
  rw [f54_eq, beq_true, cond_andb]


/-! Rows of numbers: copied, marked. -/
theorem t2_put {B : Nat} {y v : AV} (h : T2 B y) : y.putCells 0 [v] = v := by obtain ⟨_, rfl, _⟩ := h; rfl
theorem t2_flat {B C : Nat} {l : List AV} (h : Rw (T2 B) C l) : flatVL l = true := flatVL_of fun y hy => by obtain ⟨_, rfl, _⟩ := h.2 y hy; rfl
/-! Rows of numbers. -/
noncomputable def iA (m : List AV) (i : Nat) : Int := ((m.getD i .x).cells.getD 0 .x).toI
noncomputable def bA (m : List AV) (i : Nat) : Bool := ((m.getD i .x).cells.getD 0 .x).toB


theorem twin_loop {R : Type} {L L' : Int → Option R} {n : Nat} (step : ∀ i : Nat, i < n → ∃ (p : Bool) (F : Option R), L i = cond p F (L ((i : Int) + 1)) ∧ L' i = cond p F (L' ((i : Int) + 1))) (last : L n = L' n) : L 0 = L' 0 := by
  have key : ∀ (k i : Nat), i + k = n → L i = L' i := by
    intro k
    induction k with
    | zero => intro i h; have : i = n := by omega
              subst this; exact last
    | succ k ih =>
      intro i h
      obtain ⟨p, F, h1, h2⟩ := step i (by omega)
      have h3 := ih (i + 1) (by omega)
      rw [show (((i + 1 : Nat)) : Int) = (i : Int) + 1 by omega] at h3
      rw [h1, h2, h3]
  exact key n 0 (by omega)


/-! Where a number stands in a row. -/
theorem idx_loop {m : List AV} (hm : Rw (T2 1048576) 1048576 m) (x : Int) : (den E 70 [(.imm 1 m), (.i .i64 x)] [] = some (.i .i64 (-1)) ∧ ∀ i, i < m.length → iA m i ≠ x) ∨
    ∃ j : Nat, j < m.length ∧ den E 70 [(.imm 1 m), (.i .i64 x)] [] = some (.i .i64 j) ∧ iA m j = x := by
  have hml := hm.1
  have key := find_loop (L := fun i => f70_l1 m x ((m.length : Nat) : Int) i) (n := m.length) (p := fun j => decide (x = iA m j)) (F := fun i => some (.i .i64 i)) (X := some (.i .i64 (-1))) (fun i hi => ?_) ?_ m.length 0 (by omega)
  · rw [f70_eq]
    rcases key with ⟨j, _, hj, h1, h2, h3⟩ | ⟨h1, h2⟩
    · exact .inr ⟨j, hj, h3, by have := of_decide_eq_true h1; exact this.symm⟩
    · exact .inl ⟨h2, fun i hi => by have := of_decide_eq_false (h1 i (Nat.zero_le _) hi); exact fun h => this h.symm⟩
  · have hT := hm.at hi
    try dsimp only
    rw [f70_l1_eq, dT (show (i : Int) < ((m.length : Nat) : Int) by omega), cond_true, if_pos (by omega), w64 (x := (i : Int) + 1) (by omega) (by omega)]
    simp only [Int.toNat_natCast, hT.ok, if_true]
    rfl
  · try dsimp only
    rw [f70_l1_eq, dF (Int.lt_irrefl _), cond_false]
theorem has_loop {m : List AV} (hm : Rw (T2 1048576) 1048576 m) (x : Int) : den E 68 [(.imm 1 m), (.i .i64 x)] [] = some (.b (!(List.range' 0 m.length).all fun k => !decide (iA m k = x))) := by
  rw [f68_eq]
  rcases idx_loop hm x with ⟨h1, h2⟩ | ⟨j, hj, h1, h2⟩
  · rw [h1]
    have : ((List.range' 0 m.length).all fun k => !decide (iA m k = x)) = true := by
      rw [List.all_eq_true]
      intro k hk
      have := h2 k (by simpa [List.mem_range'_1] using hk)
      simp [this]
    rw [this]
    simp only [okC_nil, okC_agg, okC_i, okC_b, okC_s, okC_imm, okL_i, okL_b, okL_s, okL_sl, okS_i, okS_b, okS_s, okS_sl, okS_agg, okS_tup, okS_nil, okS_cons, cells_agg, cells_i, cells_b, cells_s, cells_imm, toI_i, toB_b, toS_s, toL_imm, nth_agg, nth_tup, put_agg, put_i, put_b, put_s, put_imm, setCells, List.getD_cons_zero, List.getD_cons_succ, bSh_b, bSh_i, bSh_s, bSh_sl, bSh_some, cond_true, cond_false, decide_true, decide_false, Int.toNat_natCast, Nat.zero_add, Nat.reduceAdd, beq_self_eq_true, Bool.and_true, Bool.true_and, if_true, Bool.false_eq_true, if_false, List.set_cons_zero, List.set_cons_succ, Bool.not_true, Bool.not_false, Bool.and_self]
    rfl
  · rw [h1]
    have : ((List.range' 0 m.length).all fun k => !decide (iA m k = x)) = false := by
      rw [List.all_eq_false]
      exact ⟨j, by simp [List.mem_range'_1, hj], by simp [h2]⟩
    rw [this]
    have hj0 : (0 : Int) ≤ (j : Int) := by omega
    simp only [hj0, okC_nil, okC_agg, okC_i, okC_b, okC_s, okC_imm, okL_i, okL_b, okL_s, okL_sl, okS_i, okS_b, okS_s, okS_sl, okS_agg, okS_tup, okS_nil, okS_cons, cells_agg, cells_i, cells_b, cells_s, cells_imm, toI_i, toB_b, toS_s, toL_imm, nth_agg, nth_tup, put_agg, put_i, put_b, put_s, put_imm, setCells, List.getD_cons_zero, List.getD_cons_succ, bSh_b, bSh_i, bSh_s, bSh_sl, bSh_some, cond_true, cond_false, decide_true, decide_false, Int.toNat_natCast, Nat.zero_add, Nat.reduceAdd, beq_self_eq_true, Bool.and_true, Bool.true_and, if_true, Bool.false_eq_true, if_false, List.set_cons_zero, List.set_cons_succ, Bool.not_true, Bool.not_false, Bool.and_self]


/-! Rows of numbers within bounds, rising. -/
abbrev sv (l : List AV) (i : Nat) : Int := ((l.getD i .x).cells.getD 0 .x).toI
theorem all_split (A B : Nat → Bool) : ∀ (d n : Nat), (List.range' n d).all (fun i => A i && B i) = ((List.range' n d).all A && (List.range' n d).all B)
  | 0, _ => rfl
  | d + 1, n => by
    rw [List.range'_succ, List.all_cons, List.all_cons, List.all_cons, all_split A B d (n + 1)]
    cases A n <;> cases B n <;> cases (List.range' (n + 1) d).all A <;> rfl
def inn (U : Int) (l : List AV) (i : Nat) : Bool := decide (0 ≤ sv l i) && decide (sv l i ≤ U)
def snB (l : List AV) (i : Nat) : Bool := decide (i = 0) || !decide (sv l i ≤ sv l (i - 1))
theorem impl_incr {l : List AV} (h : Rw (T2 1048576) 1048576 l) : den E 97 [(.imm 1 l)] [] = some (.b ((List.range' 0 l.length).all (snB l))) := by
  have hl := h.1
  rw [f97_eq]
  by_cases hn : l.length = 0
  · rw [f97_l1_eq, dF (show ¬ (1 : Int) < ((l.length : Nat) : Int) by omega), cond_false, hn]
    rfl
  have := all_loop_from (L := fun i => f97_l1 l i) (n := l.length) (p := snB l) (X := some (.b true)) (F := some (.b false)) 1 (fun i h1 hi => ?_) ?_ (l.length - 1) 1 (by omega) (by omega)
  · refine this.trans ?_
    have e : List.range' 0 l.length = 0 :: List.range' 1 (l.length - 1) := by
      have : l.length = (l.length - 1) + 1 := by omega
      rw [this, List.range'_succ]; rfl
    rw [cond_andb, Bool.and_true, e, List.all_cons]
    rfl
  · have hT := h.at hi
    try dsimp only
    · have h0 : ¬ i = 0 := by omega
      have hi1 : i - 1 < l.length := by omega
      have hP := h.at hi1
      rw [f97_l1_eq, dT (show (i : Int) < ((l.length : Nat) : Int) by omega), cond_true, if_pos (by omega), Int.toNat_natCast, hT.ok, if_pos rfl, w64 (x := (i : Int) - 1) (by omega) (by omega), if_pos (by omega), show ((i : Int) - 1).toNat = i - 1 by omega, hP.ok, if_pos rfl, w64 (x := (i : Int) + 1) (by omega) (by omega)]
      unfold snB
      rw [dF h0, Bool.false_or]
      show cond (decide (sv l i ≤ sv l (i - 1))) (some (AV.b false)) _ = _
      cases decide (sv l i ≤ sv l (i - 1)) <;> rfl
  · try dsimp only
    rw [f97_l1_eq, dF (Int.lt_irrefl _), cond_false]
theorem impl_allin {l : List AV} (U : Int) (h : Rw (T2 1048576) 1048576 l) : den E 98 [(.imm 1 l), (.i .i64 0), (.i .i64 U)] [] = some (.b ((List.range' 0 l.length).all (inn U l))) := by
  have hll := h.1
  rw [f98_eq, f118q1_eq, f130q1_eq]
  have cl : ∀ x : Int, den E 129 [(.i .i64 x), (.ip (.i .i64 0) 0), (.ip (.i .i64 U) 0)] [] = some (.b (!(decide (0 ≤ x) && decide (x ≤ U)))) := fun x => by
    have o1 : okCells false (.i .i64 0) 0 [(.i .i64)] = true := by rfl
    have o2 : okCells false (.i .i64 U) 0 [(.i .i64)] = true := by rfl
    rw [f129q1_eq, if_pos o1, if_pos o2]
    show bSh .b (den E 54 [(.i .i64 x), (.i .i64 0), (.i .i64 U)] []) _ = _
    rw [in72, bSh_b]
    rfl
  have key := find_loop (L := fun i => f130q1_l1 l (.i .i64 0) (.i .i64 U) ((l.length : Nat) : Int) i) (n := l.length) (p := fun j => !inn U l j) (F := fun i => some (.i .i64 i)) (X := some (.i .i64 (-1))) (fun i hi => ?_) ?_ l.length 0 (by omega)
  · rcases key with ⟨j, _, hj, h1, h2, h3⟩ | ⟨h1, h2⟩
    · rw [show f130q1_l1 l (.i .i64 0) (.i .i64 U) ((l.length : Nat) : Int) 0 = _ from h3]
      have hj0 : (0 : Int) ≤ (j : Int) := by omega
      simp only [bSh_i, bSh_b, toI_i, toB_b, hj0, decide_true]
      have : ((List.range' 0 l.length).all (inn U l)) = false := by
        rw [List.all_eq_false]
        exact ⟨j, by simp [List.mem_range'_1, hj], by simpa using h1⟩
      rw [this]; rfl
    · rw [show f130q1_l1 l (.i .i64 0) (.i .i64 U) ((l.length : Nat) : Int) 0 = _ from h2]
      simp only [bSh_i, bSh_b, toI_i, toB_b]
      have : ((List.range' 0 l.length).all (inn U l)) = true := by
        rw [List.all_eq_true]
        intro i hi
        have := h1 i (Nat.zero_le _) (by simpa [List.mem_range'_1] using hi)
        simpa using this
      rw [this]; rfl
  · have hT := h.at hi
    try dsimp only
    rw [f130q1_l1_eq, dT (show (i : Int) < ((l.length : Nat) : Int) by omega), cond_true, if_pos (by omega), Int.toNat_natCast, hT.ok, if_pos rfl, w64 (x := (i : Int) + 1) (by omega) (by omega), cl, bSh_b]
    rfl
  · try dsimp only
    rw [f130q1_l1_eq, dF (Int.lt_irrefl _), cond_false]


/-! Tables of bad blocks. -/
def bt (d b p s : Int) (B M : List AV) : AV := .agg [(.i .i64 d), (.i .i64 b), (.i .i64 p), (.i .i64 s), (.imm 1 B), (.imm 1 M)]
def btR (d b p s : Int) : AV := .agg [(.i .i64 d), (.i .i64 b), (.i .i64 p), (.i .i64 s), (.sl 0 [] none), (.sl 1 [] none)]
noncomputable def hs (m : List AV) (x : Int) : Bool := !(List.range' 0 m.length).all fun k => !decide (iA m k = x)
theorem hs_iff {m : List AV} {x : Int} : hs m x = true ↔ ∃ k, k < m.length ∧ iA m k = x := by
  unfold hs
  simp only [Bool.not_eq_true', List.all_eq_false, List.mem_range'_1, Bool.not_eq_eq_eq_not, Bool.not_true, decide_eq_false_iff_not, Classical.not_not]
  constructor
  · rintro ⟨k, ⟨_, h1⟩, h2⟩; exact ⟨k, by omega, h2⟩
  · rintro ⟨k, h1, h2⟩; exact ⟨k, ⟨by omega, by omega⟩, h2⟩
theorem hs_mem {m : List AV} {x : Int} : hs m x = true ↔ ∃ y, y ∈ m ∧ (y.cells.getD 0 .x).toI = x := by
  rw [hs_iff]
  constructor
  · rintro ⟨k, h1, h2⟩; exact ⟨_, getD_mem h1, h2⟩
  · rintro ⟨y, h1, h2⟩
    obtain ⟨k, hk, rfl⟩ := List.getElem_of_mem h1
    refine ⟨k, hk, ?_⟩
    have : m.getD k .x = m[k] := by rw [List.getD_eq_getElem?_getD, List.getElem?_eq_getElem hk]; rfl
    unfold iA
    rw [this]; exact h2
theorem hs_false {m : List AV} {x : Int} : hs m x = false ↔ ∀ k, k < m.length → iA m k ≠ x := by
  rw [← Bool.not_eq_true, hs_iff]
  constructor
  · intro h k hk he; exact h ⟨k, hk, he⟩
  · rintro h ⟨k, hk, he⟩; exact h k hk he
noncomputable def okS (B M : List AV) (y : AV) : Bool := !hs B (y.cells.getD 0 .x).toI && !hs M (y.cells.getD 0 .x).toI
theorem spec_has {m : List AV} (hm : Rw (T2 1048576) 1048576 m) (x : Int) : den E 59 [(.imm 1 m), (.i .i64 x)] [] = some (.b (hs m x)) := by
  have hml := hm.1
  rw [f59_eq]
  have := all_loop (L := fun i => f59_l1 m x i) (n := m.length) (p := fun k => !decide (iA m k = x)) (X := some (.b false)) (F := some (.b true)) (fun i hi => ?_) ?_ m.length 0 (by omega)
  · refine this.trans ?_
    unfold hs
    cases ((List.range' 0 m.length).all fun k => !decide (iA m k = x)) <;> rfl
  · have hT := hm.at hi
    try dsimp only
    rw [f59_l1_eq, dT (show (i : Int) < ((m.length : Nat) : Int) by omega), cond_true, if_pos (by omega), w64 (x := (i : Int) + 1) (by omega) (by omega)]
    simp only [Int.toNat_natCast, hT.ok, if_true]
    show cond (decide (iA m i = x)) _ _ = _
    cases decide (iA m i = x) <;> rfl
  · try dsimp only
    rw [f59_l1_eq, dF (Int.lt_irrefl _), cond_false]
theorem impl_has {m : List AV} (hm : Rw (T2 1048576) 1048576 m) (x : Int) : den E 68 [(.imm 1 m), (.i .i64 x)] [] = some (.b (hs m x)) := has_loop hm x
theorem is_bad (d b p s : Int) {B : List AV} (M : List AV) (hB : Rw (T2 1048576) 1048576 B) (x : Int) : den E 52 [bt d b p s B M, (.i .i64 x)] [] = some (.b (hs B x)) := by
  unfold bt
  rw [f52_eq, impl_has hB]
  simp only [okC_nil, okC_agg, okC_i, okC_b, okC_s, okC_imm, okL_i, okL_b, okL_s, okL_sl, okS_i, okS_b, okS_s, okS_sl, okS_agg, okS_tup, okS_nil, okS_cons, cells_agg, cells_i, cells_b, cells_s, cells_imm, toI_i, toB_b, toS_s, toL_imm, nth_agg, nth_tup, put_agg, put_i, put_b, put_s, put_imm, setCells, List.getD_cons_zero, List.getD_cons_succ, bSh_b, bSh_i, bSh_s, bSh_sl, bSh_some, cond_true, cond_false, decide_true, decide_false, Int.toNat_natCast, Nat.zero_add, Nat.reduceAdd, beq_self_eq_true, Bool.and_true, Bool.true_and, if_true, Bool.false_eq_true, if_false, List.set_cons_zero, List.set_cons_succ, Bool.not_true, Bool.not_false, Bool.and_self]
theorem clos_av (d b p s : Int) {B M : List AV} (hB : Rw (T2 1048576) 1048576 B) (hM : Rw (T2 1048576) 1048576 M) {y : AV} (hy : T2 1048576 y) :
    den E 102 [y, (.ip (bt d b p s B M) 0)] [] = some (.b (!okS B M y)) := by
  obtain ⟨x, rfl, _⟩ := hy
  have h1 := is_bad d b p s M hB x
  rw [f102q1_eq]
  unfold bt at h1 ⊢
  simp only [h1, impl_has hM, okC_nil, okC_agg, okC_i, okC_b, okC_s, okC_imm, okL_i, okL_b, okL_s, okL_sl, okS_i, okS_b, okS_s, okS_sl, okS_agg, okS_tup, okS_nil, okS_cons, cells_agg, cells_i, cells_b, cells_s, cells_imm, toI_i, toB_b, toS_s, toL_imm, nth_agg, nth_tup, put_agg, put_i, put_b, put_s, put_imm, setCells, List.getD_cons_zero, List.getD_cons_succ, bSh_b, bSh_i, bSh_s, bSh_sl, bSh_some, cond_true, cond_false, decide_true, decide_false, Int.toNat_natCast, Nat.zero_add, Nat.reduceAdd, beq_self_eq_true, Bool.and_true, Bool.true_and, if_true, Bool.false_eq_true, if_false, List.set_cons_zero, List.set_cons_succ, Bool.not_true, Bool.not_false, Bool.and_self]
  unfold okS
  simp only [okC_nil, okC_agg, okC_i, okC_b, okC_s, okC_imm, okL_i, okL_b, okL_s, okL_sl, okS_i, okS_b, okS_s, okS_sl, okS_agg, okS_tup, okS_nil, okS_cons, cells_agg, cells_i, cells_b, cells_s, cells_imm, toI_i, toB_b, toS_s, toL_imm, nth_agg, nth_tup, put_agg, put_i, put_b, put_s, put_imm, setCells, List.getD_cons_zero, List.getD_cons_succ, bSh_b, bSh_i, bSh_s, bSh_sl, bSh_some, cond_true, cond_false, decide_true, decide_false, Int.toNat_natCast, Nat.zero_add, Nat.reduceAdd, beq_self_eq_true, Bool.and_true, Bool.true_and, if_true, Bool.false_eq_true, if_false, List.set_cons_zero, List.set_cons_succ, Bool.not_true, Bool.not_false, Bool.and_self]
  cases hs B x <;> cases hs M x <;> rfl
theorem mkL_succ (n : Nat) (g : Nat → AV) : mkL (n + 1) g = mkL n g ++ [g n] := by simp [mkL, List.range_succ]
/-- Sums and products that stay small. -/
theorem mul_le2 {a b A B : Int} (h1 : 0 ≤ a) (h2 : a ≤ A) (h3 : 0 ≤ b) (h4 : b ≤ B) : 0 ≤ a * b ∧ a * b ≤ A * B := ⟨Int.mul_nonneg h1 h3, Int.mul_le_mul h2 h4 h3 (by omega)⟩
theorem impl_spares (d b p s : Int) (B M : List AV) (die : Int) (h0 : 0 ≤ die) (h1 : die ≤ 1000) (hb : 4 ≤ b ∧ b ≤ 12) (hs1 : 1 ≤ s ∧ s ≤ 4 ∧ s < b - 1) :
    dno E 101 [bt d b p s B M, (.i .i64 die)] [] = some (.sl 0 [] none, [.live true false false 2 (mkL s.toNat fun k => .i .i64 (die * b + (b - s + (k : Int))))]) := by
  obtain ⟨m1, m2⟩ := mul_le2 h0 h1 (show (0 : Int) ≤ b by omega) hb.2
  have pr : den E 99 [bt d b p s B M] [] = some (.i .i64 (b - s)) := by
    unfold bt; rw [f99_eq, w64 (by omega) (by omega)]
  unfold bt at pr ⊢
  rw [f101o1_eq, pr]
  simp only [okC_nil, okC_agg, okC_i, okC_b, okC_s, okC_imm, okL_i, okL_b, okL_s, okL_sl, okS_i, okS_b, okS_s, okS_sl, okS_agg, okS_tup, okS_nil, okS_cons, cells_agg, cells_i, cells_b, cells_s, cells_imm, toI_i, toB_b, toS_s, toL_imm, nth_agg, nth_tup, put_agg, put_i, put_b, put_s, put_imm, setCells, List.getD_cons_zero, List.getD_cons_succ, bSh_b, bSh_i, bSh_s, bSh_sl, bSh_some, cond_true, cond_false, decide_true, decide_false, Int.toNat_natCast, Nat.zero_add, Nat.reduceAdd, beq_self_eq_true, Bool.and_true, Bool.true_and, if_true, Bool.false_eq_true, if_false, List.set_cons_zero, List.set_cons_succ, Bool.not_true, Bool.not_false, Bool.and_self]
  have key : ∀ (k i : Nat), i + k = s.toNat → f101o1_l1 die (b - s + (i : Int)) d b p s B M [] (mkL i fun k => .i .i64 (die * b + (b - s + (k : Int)))) = some (.sl 0 [] none, [.live true false false 2 (mkL s.toNat fun k => .i .i64 (die * b + (b - s + (k : Int))))]) := by
    intro k
    induction k with
    | zero =>
      intro i hi
      have : i = s.toNat := by omega
      subst this
      rw [f101o1_l1_eq, dF (by omega), cond_false]
    | succ k ih =>
      intro i hi
      rw [f101o1_l1_eq, dT (by omega), cond_true, if_pos (by rw [mkL_length]; simp only [List.length_cons, List.length_nil, room]; omega), w64 (x := die * b) (by omega) (by omega), w64 (x := die * b + (b - s + (i : Int))) (by omega) (by omega), w64 (x := b - s + (i : Int) + 1) (by omega) (by omega)]
      have := ih (i + 1) (by omega)
      rw [mkL_succ, show b - s + ((i + 1 : Nat) : Int) = b - s + (i : Int) + 1 by omega] at this
      exact this
  have := key s.toNat 0 (by omega)
  simpa [mkL] using this
theorem hs_mkL (n : Nat) (a : Int) (v : Int) : hs (mkL n fun k => .i .i64 (a + (k : Int))) v = (decide (a ≤ v) && decide (v < a + (n : Int))) := by
  rw [Bool.eq_iff_iff, hs_iff, Bool.and_eq_true, decide_eq_true_eq, decide_eq_true_eq, mkL_length]
  constructor
  · rintro ⟨k, h1, h2⟩
    unfold iA at h2
    rw [mkL_getD h1] at h2
    simp only [cells_i, List.getD_cons_zero, toI_i] at h2
    omega
  · rintro ⟨h1, h2⟩
    refine ⟨(v - a).toNat, by omega, ?_⟩
    unfold iA
    rw [mkL_getD (by omega)]
    simp only [cells_i, List.getD_cons_zero, toI_i]
    omega
theorem t2_mkL {n : Nat} (hn : n ≤ 1048576) {g : Nat → Int} (h : ∀ i, i < n → W64 (g i)) : Rw (T2 1048576) 1048576 (mkL n fun k => .i .i64 (g k)) := by
  refine ⟨by rw [mkL_length]; exact hn, fun y hy => ?_⟩
  obtain ⟨i, hi, rfl⟩ := List.mem_map.1 hy
  exact ⟨_, rfl, h i (List.mem_range.1 hi), trivial⟩
/-- The spares that are left, as the reference finds them. -/
theorem spec_av (d b p s : Int) {B M : List AV} (hB : Rw (T2 1048576) 1048576 B) (hM : Rw (T2 1048576) 1048576 M) (die : Int) (h0 : 0 ≤ die) (h1 : die ≤ 1000) (hb : 4 ≤ b ∧ b ≤ 12) (hs1 : 1 ≤ s ∧ s ≤ 4 ∧ s < b - 1) :
    dno E 63 [bt d b p s B M, (.i .i64 die)] [] = some (.sl 0 [] none, [.live true false false 2 ((mkL s.toNat fun k => .i .i64 (die * b + (b - s + (k : Int)))).filter (okS B M))]) := by
  obtain ⟨m1, m2⟩ := mul_le2 (show (0 : Int) ≤ die + 1 by omega) (show die + 1 ≤ 1001 by omega) (show (0 : Int) ≤ b by omega) hb.2
  have e1 : (die + 1) * b = die * b + b := by rw [Int.add_mul, Int.one_mul]
  unfold bt
  rw [f63o1_eq, w64 (x := die + 1) (by omega) (by omega), w64 (x := (die + 1) * b) (by omega) (by omega), w64 (x := (die + 1) * b - s) (by omega) (by omega)]
  have key : ∀ (k i : Nat), i + k = s.toNat → f63o1_l1 die (die * b + (b - s + (i : Int))) d b p s B M [] ((mkL i fun k => .i .i64 (die * b + (b - s + (k : Int)))).filter (okS B M)) = some (.sl 0 [] none, [.live true false false 2 ((mkL s.toNat fun k => .i .i64 (die * b + (b - s + (k : Int)))).filter (okS B M))]) := by
    intro k
    induction k with
    | zero =>
      intro i hi
      have : i = s.toNat := by omega
      subst this
      rw [f63o1_l1_eq, w64 (x := die + 1) (by omega) (by omega), w64 (x := (die + 1) * b) (by omega) (by omega), dF (by omega), cond_false]
    | succ k ih =>
      intro i hi
      have hle : ((mkL i fun k => (.i .i64 (die * b + (b - s + (k : Int))) : AV)).filter (okS B M)).length ≤ i := Nat.le_trans (List.length_filter_le _ _) (by rw [mkL_length]; exact Nat.le_refl _)
      rw [f63o1_l1_eq, w64 (x := die + 1) (by omega) (by omega), w64 (x := (die + 1) * b) (by omega) (by omega), dT (by omega), cond_true]
      have := ih (i + 1) (by omega)
      rw [mkL_succ, show die * b + (b - s + ((i + 1 : Nat) : Int)) = die * b + (b - s + (i : Int)) + 1 by omega, List.filter_append] at this
      simp only [spec_has hB, spec_has hM, f63o1_j2_eq, okC_nil, okC_agg, okC_i, okC_b, okC_s, okC_imm, okL_i, okL_b, okL_s, okL_sl, okS_i, okS_b, okS_s, okS_sl, okS_agg, okS_tup, okS_nil, okS_cons, cells_agg, cells_i, cells_b, cells_s, cells_imm, toI_i, toB_b, toS_s, toL_imm, nth_agg, nth_tup, put_agg, put_i, put_b, put_s, put_imm, setCells, List.getD_cons_zero, List.getD_cons_succ, bSh_b, bSh_i, bSh_s, bSh_sl, bSh_some, cond_true, cond_false, decide_true, decide_false, Int.toNat_natCast, Nat.zero_add, Nat.reduceAdd, beq_self_eq_true, Bool.and_true, Bool.true_and, if_true, Bool.false_eq_true, if_false, List.set_cons_zero, List.set_cons_succ, Bool.not_true, Bool.not_false, Bool.and_self]
      rw [w64 (x := die * b + (b - s + (i : Int)) + 1) (by omega) (by omega), if_pos (by simp only [List.length_cons, List.length_nil, room]; omega)]
      rw [← this]
      have hok : okS B M (.i .i64 (die * b + (b - s + (i : Int)))) = (!hs B (die * b + (b - s + (i : Int))) && !hs M (die * b + (b - s + (i : Int)))) := rfl
      rw [List.filter_cons, hok, List.filter_nil]
      cases hs B (die * b + (b - s + (i : Int))) <;> cases hs M (die * b + (b - s + (i : Int))) <;> simp
  have := key s.toNat 0 (by omega)
  rw [show (die + 1) * b - s = die * b + (b - s + ((0 : Nat) : Int)) by omega]
  simpa [mkL] using this

/-! What is left of a row of spares. -/
theorem first_av (d b p s : Int) {B M : List AV} (hB : Rw (T2 1048576) 1048576 B) (hM : Rw (T2 1048576) 1048576 M) (m : List AV) (hml : m.length ≤ 1048576) (hm : ∀ y, y ∈ m → T2 1048576 y) :
    (den E 130 [(.imm 1 m), (.fn 102 [(.ip (bt d b p s B M) 0)])] [] = some (.i .i64 (-1)) ∧ ∀ i, i < m.length → okS B M (m.getD i .x) = true) ∨
    ∃ j : Nat, j < m.length ∧ den E 130 [(.imm 1 m), (.fn 102 [(.ip (bt d b p s B M) 0)])] [] = some (.i .i64 j) ∧ okS B M (m.getD j .x) = false ∧ ∀ i, i < j → okS B M (m.getD i .x) = true := by
  have key := find_loop (L := fun i => f130q2_l1 m (bt d b p s B M) ((m.length : Nat) : Int) i) (n := m.length) (p := fun j => !okS B M (m.getD j .x)) (F := fun i => some (.i .i64 i)) (X := some (.i .i64 (-1))) (fun i hi => ?_) ?_ m.length 0 (by omega)
  · rw [f130q2_eq]
    rcases key with ⟨j, _, hj, h1, h2, h3⟩ | ⟨h1, h2⟩
    · exact .inr ⟨j, hj, h3, by simpa using h1, fun i hi => by simpa using h2 i (Nat.zero_le _) hi⟩
    · exact .inl ⟨h2, fun i hi => by simpa using h1 i (Nat.zero_le _) hi⟩
  · have hT := hm _ (getD_mem hi)
    try dsimp only
    rw [f130q2_l1_eq, dT (show (i : Int) < ((m.length : Nat) : Int) by omega), cond_true, if_pos (by omega), w64 (x := (i : Int) + 1) (by omega) (by omega)]
    simp only [Int.toNat_natCast, hT.ok, hT.eta, clos_av d b p s hB hM hT, okC_nil, okC_agg, okC_i, okC_b, okC_s, okC_imm, okL_i, okL_b, okL_s, okL_sl, okS_i, okS_b, okS_s, okS_sl, okS_agg, okS_tup, okS_nil, okS_cons, cells_agg, cells_i, cells_b, cells_s, cells_imm, toI_i, toB_b, toS_s, toL_imm, nth_agg, nth_tup, put_agg, put_i, put_b, put_s, put_imm, setCells, List.getD_cons_zero, List.getD_cons_succ, bSh_b, bSh_i, bSh_s, bSh_sl, bSh_some, cond_true, cond_false, decide_true, decide_false, Int.toNat_natCast, Nat.zero_add, Nat.reduceAdd, beq_self_eq_true, Bool.and_true, Bool.true_and, if_true, Bool.false_eq_true, if_false, List.set_cons_zero, List.set_cons_succ, Bool.not_true, Bool.not_false, Bool.and_self]
  · try dsimp only
    rw [f130q2_l1_eq, dF (Int.lt_irrefl _), cond_false]

theorem impl_av (d b p s : Int) {B M : List AV} (hB : Rw (T2 1048576) 1048576 B) (hM : Rw (T2 1048576) 1048576 M) (m : List AV) (hml : m.length ≤ 1048576) (hm : ∀ y, y ∈ m → T2 1048576 y) :
    ∃ r : List AV, dno E 100 [(.sl 0 [] none), (.fn 102 [(.ip (bt d b p s B M) 0)])] [(.live true false false 2 m)] =
      some (.sl 0 [] (some (0, (m.filter (okS B M)).length)), [.live true false false 2 r]) ∧ r.length = m.length ∧ flatVL r = true ∧ r.take (m.filter (okS B M)).length = m.filter (okS B M) := by
  have hfl : ∀ y, T2 1048576 y → flatV y = true := fun y hy => by
    obtain ⟨j, rfl, _⟩ := hy; rfl
  rw [f100o1_eq]
  rcases first_av d b p s hB hM m hml hm with ⟨h1, h2⟩ | ⟨j, hj, h1, h2, h3⟩
  · have hf : m.filter (okS B M) = m := List.filter_eq_self.2 fun y hy => by
      obtain ⟨i, hi, rfl⟩ := List.getElem_of_mem hy
      have := h2 i hi
      rwa [List.getD_eq_getElem?_getD, List.getElem?_eq_getElem hi] at this
    rw [h1, hf]
    exact ⟨m, rfl, rfl, flatVL_of fun y hy => hfl y (hm y hy), by simp⟩
  · rw [h1]
    simp only [bSh_i, toI_i]
    have hj1 : ¬ (j : Int) = -1 := by omega
    have hjn : (m.take j).filter (okS B M) = m.take j := List.filter_eq_self.2 fun y hy => by
      obtain ⟨i, hi, rfl⟩ := List.getElem_of_mem hy
      have hij : i < j := by rw [List.length_take] at hi; omega
      have := h3 i hij
      rw [List.getD_eq_getElem?_getD, List.getElem?_eq_getElem (by omega)] at this
      rw [List.getElem_take]; exact this
    simp only [hj1, decide_false, cond_false]
    rw [w64 (x := (j : Int) + 1) (by omega) (by omega), show ((j : Int) + 1) = ((j + 1 : Nat) : Int) by omega]
    let W : Nat → List AV → List AV := fun k r => r.take k ++ List.replicate (r.length - k) (.i .i64 (0 : Int)) ++ r.drop (k + (r.length - k))
    have key : ∃ r', f100o1_l1 (bt d b p s B M) (j : Int) ((j + 1 : Nat) : Int) m = some (.sl 0 [] (some (0, (m.filter (okS B M)).length)), [.live true false false 2 (W (m.filter (okS B M)).length r')]) ∧ r'.length = m.length ∧ r'.take (m.filter (okS B M)).length = m.filter (okS B M) := by
      refine del_loop (L := fun k i r => f100o1_l1 (bt d b p s B M) k i r) (m := m) (p := okS B M) (T := T2 1048576) (F := fun k r => some (.sl 0 [] (some (0, k)), [.live true false false 2 (W k r)])) hm (fun i k r hi hk hl hg hr => ?_) (fun k r hk hl => ?_) (m.length - (j + 1)) (j + 1) j m (by omega) (by omega) rfl hm ?_ rfl
      · have hT := hm _ (getD_mem hi)
        have hT' := hr _ (getD_mem (show k < r.length by omega))
        try dsimp only
        rw [f100o1_l1_eq, dT (show (i : Int) < ((r.length : Nat) : Int) by omega), cond_true, if_pos (by omega)]
        simp only [Nat.zero_add, Int.toNat_natCast, hg, hT.ok, hT.eta, clos_av d b p s hB hM hT, okC_nil, okC_agg, okC_i, okC_b, okC_s, okC_imm, okL_i, okL_b, okL_s, okL_sl, okS_i, okS_b, okS_s, okS_sl, okS_agg, okS_tup, okS_nil, okS_cons, cells_agg, cells_i, cells_b, cells_s, cells_imm, toI_i, toB_b, toS_s, toL_imm, nth_agg, nth_tup, put_agg, put_i, put_b, put_s, put_imm, setCells, List.getD_cons_zero, List.getD_cons_succ, bSh_b, bSh_i, bSh_s, bSh_sl, bSh_some, cond_true, cond_false, decide_true, decide_false, Int.toNat_natCast, Nat.zero_add, Nat.reduceAdd, beq_self_eq_true, Bool.and_true, Bool.true_and, if_true, Bool.false_eq_true, if_false, List.set_cons_zero, List.set_cons_succ, Bool.not_true, Bool.not_false, Bool.and_self, f100o1_j2_eq, t2_put hT']
        rw [w64 (x := (k : Int) + 1) (by omega) (by omega), if_pos (by omega), w64 (x := (i : Int) + 1) (by omega) (by omega)]
        cases okS B M (m.getD i .x) <;> simp
      · try dsimp only
        rw [f100o1_l1_eq, dF (show ¬ ((m.length : Nat) : Int) < ((r.length : Nat) : Int) by omega), cond_false, if_pos (by omega)]
        simp only [Int.toNat_natCast]
        rw [if_pos (by simp only [List.length_append, List.length_take, List.length_replicate, List.length_drop]; omega)]
        rfl
      · rw [take_getD hj, List.filter_append, hjn, List.filter_cons, if_neg (by rw [h2]; decide)]
        simp
    obtain ⟨r', g1, g2, g3⟩ := key
    have hWl : (W (m.filter (okS B M)).length r').length = m.length := by
      have : (m.filter (okS B M)).length ≤ m.length := List.length_filter_le _ _
      simp only [W, List.length_append, List.length_take, List.length_replicate, List.length_drop]
      omega
    have hle : (m.filter (okS B M)).length ≤ r'.length := by rw [g2]; exact List.length_filter_le _ _
    refine ⟨W (m.filter (okS B M)).length r', g1, hWl, flatVL_of fun y hy => ?_, ?_⟩
    · simp only [W, List.mem_append] at hy
      rcases hy with (hy | hy) | hy
      · rw [g3] at hy
        exact hfl y (hm y (List.mem_filter.1 hy).1)
      · rw [(List.mem_replicate.1 hy).2]; rfl
      · rw [List.drop_eq_nil_of_le (by omega)] at hy; cases hy
    · simp only [W, List.append_assoc]
      rw [List.take_append_of_le_length (by rw [List.length_take]; omega), List.take_take, Nat.min_self, g3]

/-! A table is valid. -/
def hmB (b s : Int) (i : Nat) : Int := (i : Int).tdiv (b - s) * b + (i : Int).tmod (b - s)
theorem hmB_bd {b s : Int} {i : Nat} (hi : i ≤ 40) (hb : 4 ≤ b ∧ b ≤ 12) (hs1 : 1 ≤ s ∧ s ≤ 4 ∧ s < b - 1) : (0 ≤ (i : Int).tdiv (b - s) ∧ (i : Int).tdiv (b - s) ≤ 40) ∧ (0 ≤ (i : Int).tdiv (b - s) * b ∧ (i : Int).tdiv (b - s) * b ≤ 480) ∧ (0 ≤ (i : Int).tmod (b - s) ∧ (i : Int).tmod (b - s) ≤ 40) ∧ 0 ≤ hmB b s i ∧ hmB b s i ≤ 520 := by
  have h1 : 0 ≤ (i : Int).tdiv (b - s) := Int.tdiv_nonneg (by omega) (by omega)
  have h2 : (i : Int).tdiv (b - s) ≤ 40 := by
    have := Int.tdiv_le_self (b - s) (show (0 : Int) ≤ (i : Int) by omega)
    omega
  obtain ⟨h3, h4⟩ := mul_le2 h1 h2 (show (0 : Int) ≤ b by omega) hb.2
  have h5 := Int.tmod_nonneg (a := (i : Int)) (b - s) (by omega)
  have h6 := Int.tmod_lt_of_pos (i : Int) (show 0 < b - s by omega)
  unfold hmB
  omega
noncomputable def okRm (b s : Int) (B M : List AV) (i : Nat) : Bool := !hs B (iA M i) && (!hs (M.take i) (iA M i) && (decide (iA M i = hmB b s i) || ((decide ((hmB b s i).tdiv b * b + (b - s) ≤ iA M i) && decide (iA M i < (hmB b s i).tdiv b * b + b)) && hs B (hmB b s i))))
noncomputable def okBt (d b p s : Int) (B M : List AV) : Bool := ((decide (2 ≤ d) && decide (d ≤ 3)) && ((decide (4 ≤ b) && decide (b ≤ 12)) && (decide (p = 8) || decide (p = 16)))) &&
  (((decide (1 ≤ s) && decide (s ≤ 4)) && decide (s < b - 1)) && ((List.range' 0 B.length).all (fun i => inn (d * b - 1) B i && snB B i) && (decide (((M.length : Nat) : Int) = d * (b - s)) && (List.range' 0 M.length).all (okRm b s B M))))
theorem t2_take {l : List AV} (h : Rw (T2 1048576) 1048576 l) (i : Nat) : Rw (T2 1048576) 1048576 (l.take i) := ⟨Nat.le_trans (by rw [List.length_take]; omega) h.1, fun y hy => h.2 y (List.mem_of_mem_take hy)⟩
theorem spec_geo (d b p : Int) : den E 107 [(.agg [(.i .i64 d), (.i .i64 b), (.i .i64 p)])] [] = some (.b ((decide (2 ≤ d) && decide (d ≤ 3)) && ((decide (4 ≤ b) && decide (b ≤ 12)) && (decide (p = 8) || decide (p = 16))))) := by
  rw [f107_eq]
  simp only [in90, okC_nil, okC_agg, okC_i, okC_b, okC_s, okC_imm, okL_i, okL_b, okL_s, okL_sl, okS_i, okS_b, okS_s, okS_sl, okS_agg, okS_tup, okS_nil, okS_cons, cells_agg, cells_i, cells_b, cells_s, cells_imm, toI_i, toB_b, toS_s, toL_imm, nth_agg, nth_tup, put_agg, put_i, put_b, put_s, put_imm, setCells, List.getD_cons_zero, List.getD_cons_succ, bSh_b, bSh_i, bSh_s, bSh_sl, bSh_some, cond_true, cond_false, decide_true, decide_false, Int.toNat_natCast, Nat.zero_add, Nat.reduceAdd, beq_self_eq_true, Bool.and_true, Bool.true_and, if_true, Bool.false_eq_true, if_false, List.set_cons_zero, List.set_cons_succ, Bool.not_true, Bool.not_false, Bool.and_self]
  cases (decide (2 ≤ d) && decide (d ≤ 3)) <;> cases (decide (4 ≤ b) && decide (b ≤ 12)) <;> cases decide (p = 8) <;> rfl
theorem impl_geo (d b p : Int) : den E 46 [(.agg [(.i .i64 d), (.i .i64 b), (.i .i64 p)])] [] = some (.b ((decide (2 ≤ d) && decide (d ≤ 3)) && ((decide (4 ≤ b) && decide (b ≤ 12)) && (decide (p = 8) || decide (p = 16))))) := by
  rw [f46_eq]
  simp only [in72, okC_nil, okC_agg, okC_i, okC_b, okC_s, okC_imm, okL_i, okL_b, okL_s, okL_sl, okS_i, okS_b, okS_s, okS_sl, okS_agg, okS_tup, okS_nil, okS_cons, cells_agg, cells_i, cells_b, cells_s, cells_imm, toI_i, toB_b, toS_s, toL_imm, nth_agg, nth_tup, put_agg, put_i, put_b, put_s, put_imm, setCells, List.getD_cons_zero, List.getD_cons_succ, bSh_b, bSh_i, bSh_s, bSh_sl, bSh_some, cond_true, cond_false, decide_true, decide_false, Int.toNat_natCast, Nat.zero_add, Nat.reduceAdd, beq_self_eq_true, Bool.and_true, Bool.true_and, if_true, Bool.false_eq_true, if_false, List.set_cons_zero, List.set_cons_succ, Bool.not_true, Bool.not_false, Bool.and_self]
  cases (decide (2 ≤ d) && decide (d ≤ 3)) <;> cases (decide (4 ≤ b) && decide (b ≤ 12)) <;> cases decide (p = 8) <;> rfl
theorem spec_rises {l : List AV} (U : Int) (h : Rw (T2 1048576) 1048576 l) : den E 108 [(.imm 1 l), (.i .i64 0), (.i .i64 U)] [] = some (.b ((List.range' 0 l.length).all fun i => inn U l i && snB l i)) := by
  have hl := h.1
  rw [f108_eq]
  have := all_loop (L := fun i => f108_l1 l 0 U i) (n := l.length) (p := fun i => inn U l i && snB l i) (X := some (.b true)) (F := some (.b false)) (fun i hi => ?_) ?_ l.length 0 (by omega)
  · refine this.trans ?_
    rw [cond_andb, Bool.and_true]
  · have hT := h.at hi
    try dsimp only
    rw [f108_l1_eq, dT (show (i : Int) < ((l.length : Nat) : Int) by omega), cond_true, if_pos (by omega), Int.toNat_natCast, hT.ok, if_pos rfl, in90, bSh_b]
    simp only [toB_b, f108_j2_eq, w64 (x := (i : Int) + 1) (by omega) (by omega)]
    show cond ((!inn U l i) == false) _ _ = _
    cases hq : inn U l i
    · rfl
    by_cases h0 : i = 0
    · subst h0
      simp only [snB, okC_nil, okC_agg, okC_i, okC_b, okC_s, okC_imm, okL_i, okL_b, okL_s, okL_sl, okS_i, okS_b, okS_s, okS_sl, okS_agg, okS_tup, okS_nil, okS_cons, cells_agg, cells_i, cells_b, cells_s, cells_imm, toI_i, toB_b, toS_s, toL_imm, nth_agg, nth_tup, put_agg, put_i, put_b, put_s, put_imm, setCells, List.getD_cons_zero, List.getD_cons_succ, bSh_b, bSh_i, bSh_s, bSh_sl, bSh_some, cond_true, cond_false, decide_true, decide_false, Int.toNat_natCast, Nat.zero_add, Nat.reduceAdd, beq_self_eq_true, Bool.and_true, Bool.true_and, if_true, Bool.false_eq_true, if_false, List.set_cons_zero, List.set_cons_succ, Bool.not_true, Bool.not_false, Bool.and_self]
      rfl
    · have hi1 : i - 1 < l.length := by omega
      have hP := h.at hi1
      have hpos : (0 : Int) < (i : Int) := by omega
      simp only [hpos, h0, snB, Bool.false_or, okC_nil, okC_agg, okC_i, okC_b, okC_s, okC_imm, okL_i, okL_b, okL_s, okL_sl, okS_i, okS_b, okS_s, okS_sl, okS_agg, okS_tup, okS_nil, okS_cons, cells_agg, cells_i, cells_b, cells_s, cells_imm, toI_i, toB_b, toS_s, toL_imm, nth_agg, nth_tup, put_agg, put_i, put_b, put_s, put_imm, setCells, List.getD_cons_zero, List.getD_cons_succ, bSh_b, bSh_i, bSh_s, bSh_sl, bSh_some, cond_true, cond_false, decide_true, decide_false, Int.toNat_natCast, Nat.zero_add, Nat.reduceAdd, beq_self_eq_true, Bool.and_true, Bool.true_and, if_true, Bool.false_eq_true, if_false, List.set_cons_zero, List.set_cons_succ, Bool.not_true, Bool.not_false, Bool.and_self]
      rw [w64 (x := (i : Int) - 1) (by omega) (by omega), if_pos (by omega), show ((i : Int) - 1).toNat = i - 1 by omega, if_pos hP.ok, if_pos (by omega)]
      show cond (decide (sv l i ≤ sv l (i - 1))) _ _ = _
      cases decide (sv l i ≤ sv l (i - 1)) <;> rfl
  · try dsimp only
    rw [f108_l1_eq, dF (Int.lt_irrefl _), cond_false]
theorem spec_home (d b p s : Int) (B M : List AV) (i : Nat) (hi : i ≤ 40) (hb : 4 ≤ b ∧ b ≤ 12) (hs1 : 1 ≤ s ∧ s ≤ 4 ∧ s < b - 1) : den E 65 [bt d b p s B M, (.i .i64 i)] [] = some (.i .i64 (hmB b s i)) := by
  have h := hmB_bd hi hb hs1
  unfold bt
  have hne : ¬ b - s = 0 := by omega
  rw [f65_eq]
  simp only [w64 (x := b - s) (by omega) (by omega), hne, if_false]
  rw [w64 (x := (i : Int).tdiv (b - s)) (by omega) (by omega), w64 (x := (i : Int).tdiv (b - s) * b) (by omega) (by omega)]
  unfold hmB at *
  rw [w64 (by omega) (by omega)]
theorem impl_home (d b p s : Int) (B M : List AV) (i : Nat) (hi : i ≤ 40) (hb : 4 ≤ b ∧ b ≤ 12) (hs1 : 1 ≤ s ∧ s ≤ 4 ∧ s < b - 1) : den E 51 [bt d b p s B M, (.i .i64 i)] [] = some (.i .i64 (hmB b s i)) := by
  have h := hmB_bd hi hb hs1
  have pr : den E 99 [bt d b p s B M] [] = some (.i .i64 (b - s)) := by
    unfold bt; rw [f99_eq, w64 (by omega) (by omega)]
  unfold bt at pr ⊢
  rw [f51_eq, pr]
  have hne : ¬ b - s = 0 := by omega
  simp only [hne, okC_nil, okC_agg, okC_i, okC_b, okC_s, okC_imm, okL_i, okL_b, okL_s, okL_sl, okS_i, okS_b, okS_s, okS_sl, okS_agg, okS_tup, okS_nil, okS_cons, cells_agg, cells_i, cells_b, cells_s, cells_imm, toI_i, toB_b, toS_s, toL_imm, nth_agg, nth_tup, put_agg, put_i, put_b, put_s, put_imm, setCells, List.getD_cons_zero, List.getD_cons_succ, bSh_b, bSh_i, bSh_s, bSh_sl, bSh_some, cond_true, cond_false, decide_true, decide_false, Int.toNat_natCast, Nat.zero_add, Nat.reduceAdd, beq_self_eq_true, Bool.and_true, Bool.true_and, if_true, Bool.false_eq_true, if_false, List.set_cons_zero, List.set_cons_succ, Bool.not_true, Bool.not_false, Bool.and_self]
  rw [w64 (x := (i : Int).tdiv (b - s)) (by omega) (by omega), w64 (x := (i : Int).tdiv (b - s) * b) (by omega) (by omega)]
  unfold hmB at *
  rw [w64 (by omega) (by omega)]
theorem impl_rm (d b p s : Int) {B : List AV} (M : List AV) (hB : Rw (T2 1048576) 1048576 B) (i : Nat) (v : Int) (hi : i ≤ 40) (hb : 4 ≤ b ∧ b ≤ 12) (hs1 : 1 ≤ s ∧ s ≤ 4 ∧ s < b - 1) : den E 67 [bt d b p s B M, (.i .i64 i), (.i .i64 v)] [] =
    some (.b (!hs B v && (decide (v = hmB b s i) || ((decide ((hmB b s i).tdiv b * b + (b - s) ≤ v) && decide (v < (hmB b s i).tdiv b * b + b)) && hs B (hmB b s i))))) := by
  obtain ⟨_, _, _, q0, q1⟩ := hmB_bd hi hb hs1
  have t0 : 0 ≤ (hmB b s i).tdiv b := Int.tdiv_nonneg (by omega) (by omega)
  have t1 : (hmB b s i).tdiv b ≤ 520 := by have := Int.tdiv_le_self b q0; omega
  obtain ⟨m1, m2⟩ := mul_le2 t0 t1 (show (0 : Int) ≤ b by omega) hb.2
  have e0 := impl_home d b p s B M i hi hb hs1
  have e1 := fun x => is_bad d b p s M hB x
  have e2 := impl_spares d b p s B M _ t0 (by omega) hb hs1
  have ht := t2_mkL (n := s.toNat) (by omega) (g := fun k => (hmB b s i).tdiv b * b + (b - s + (k : Int))) (fun i hi => ⟨by omega, by omega⟩)
  have e3 := impl_has ht v
  have e4 : hs (mkL s.toNat fun k => (.i .i64 ((hmB b s i).tdiv b * b + (b - s + (k : Int))) : AV)) v = (decide ((hmB b s i).tdiv b * b + (b - s) ≤ v) && decide (v < (hmB b s i).tdiv b * b + b)) := by
    have := hs_mkL s.toNat ((hmB b s i).tdiv b * b + (b - s)) v
    simp only [Int.add_assoc] at this ⊢
    rw [this]
    congr 2
    apply propext; omega
  unfold bt at e0 e1 e2 ⊢
  rw [f67_eq, e0]
  simp only [e1, okC_nil, okC_agg, okC_i, okC_b, okC_s, okC_imm, okL_i, okL_b, okL_s, okL_sl, okS_i, okS_b, okS_s, okS_sl, okS_agg, okS_tup, okS_nil, okS_cons, cells_agg, cells_i, cells_b, cells_s, cells_imm, toI_i, toB_b, toS_s, toL_imm, nth_agg, nth_tup, put_agg, put_i, put_b, put_s, put_imm, setCells, List.getD_cons_zero, List.getD_cons_succ, bSh_b, bSh_i, bSh_s, bSh_sl, bSh_some, cond_true, cond_false, decide_true, decide_false, Int.toNat_natCast, Nat.zero_add, Nat.reduceAdd, beq_self_eq_true, Bool.and_true, Bool.true_and, if_true, Bool.false_eq_true, if_false, List.set_cons_zero, List.set_cons_succ, Bool.not_true, Bool.not_false, Bool.and_self]
  by_cases hv : v = hmB b s i
  · simp only [hv, okC_nil, okC_agg, okC_i, okC_b, okC_s, okC_imm, okL_i, okL_b, okL_s, okL_sl, okS_i, okS_b, okS_s, okS_sl, okS_agg, okS_tup, okS_nil, okS_cons, cells_agg, cells_i, cells_b, cells_s, cells_imm, toI_i, toB_b, toS_s, toL_imm, nth_agg, nth_tup, put_agg, put_i, put_b, put_s, put_imm, setCells, List.getD_cons_zero, List.getD_cons_succ, bSh_b, bSh_i, bSh_s, bSh_sl, bSh_some, cond_true, cond_false, decide_true, decide_false, Int.toNat_natCast, Nat.zero_add, Nat.reduceAdd, beq_self_eq_true, Bool.and_true, Bool.true_and, if_true, Bool.false_eq_true, if_false, List.set_cons_zero, List.set_cons_succ, Bool.not_true, Bool.not_false, Bool.and_self, Bool.true_or]
  simp only [hv, okC_nil, okC_agg, okC_i, okC_b, okC_s, okC_imm, okL_i, okL_b, okL_s, okL_sl, okS_i, okS_b, okS_s, okS_sl, okS_agg, okS_tup, okS_nil, okS_cons, cells_agg, cells_i, cells_b, cells_s, cells_imm, toI_i, toB_b, toS_s, toL_imm, nth_agg, nth_tup, put_agg, put_i, put_b, put_s, put_imm, setCells, List.getD_cons_zero, List.getD_cons_succ, bSh_b, bSh_i, bSh_s, bSh_sl, bSh_some, cond_true, cond_false, decide_true, decide_false, Int.toNat_natCast, Nat.zero_add, Nat.reduceAdd, beq_self_eq_true, Bool.and_true, Bool.true_and, if_true, Bool.false_eq_true, if_false, List.set_cons_zero, List.set_cons_succ, Bool.not_true, Bool.not_false, Bool.and_self, Bool.false_or]
  cases hs B v
  rotate_left
  · rfl
  cases hq : hs B (hmB b s i)
  · simp
  simp only [okC_nil, okC_agg, okC_i, okC_b, okC_s, okC_imm, okL_i, okL_b, okL_s, okL_sl, okS_i, okS_b, okS_s, okS_sl, okS_agg, okS_tup, okS_nil, okS_cons, cells_agg, cells_i, cells_b, cells_s, cells_imm, toI_i, toB_b, toS_s, toL_imm, nth_agg, nth_tup, put_agg, put_i, put_b, put_s, put_imm, setCells, List.getD_cons_zero, List.getD_cons_succ, bSh_b, bSh_i, bSh_s, bSh_sl, bSh_some, cond_true, cond_false, decide_true, decide_false, Int.toNat_natCast, Nat.zero_add, Nat.reduceAdd, beq_self_eq_true, Bool.and_true, Bool.true_and, if_true, Bool.false_eq_true, if_false, List.set_cons_zero, List.set_cons_succ, Bool.not_true, Bool.not_false, Bool.and_self]
  rw [if_neg (by omega), w64 (by omega) (by omega), e2]
  simp only [e3, e4, bOwn_some, bOwnF_some, bOwnS_some, bOwnFS_some, okRs_nil, okRs_cons, okR_row, okR_same, okR_var, okR_gone, okS_so, okS_pr, okS_po, okLens_nil, okLens_same, okLens_row, okLens_var, row_live, flatR_live, flatL_nil, flatL_cons, flat_i, flat_b, flat_s, flat_sl, flat_agg, flat_tup, List.all_cons, List.all_nil, List.length_cons, List.length_nil, Nat.reduceLeDiff, Nat.le_refl, decide_true, Bool.and_self, mkL_length, List.headD_cons, okC_nil, okC_agg, okC_i, okC_b, okC_s, okC_imm, okL_i, okL_b, okL_s, okL_sl, okS_i, okS_b, okS_s, okS_sl, okS_agg, okS_tup, okS_nil, okS_cons, cells_agg, cells_i, cells_b, cells_s, cells_imm, toI_i, toB_b, toS_s, toL_imm, nth_agg, nth_tup, put_agg, put_i, put_b, put_s, put_imm, setCells, List.getD_cons_zero, List.getD_cons_succ, bSh_b, bSh_i, bSh_s, bSh_sl, bSh_some, cond_true, cond_false, decide_true, decide_false, Int.toNat_natCast, Nat.zero_add, Nat.reduceAdd, beq_self_eq_true, Bool.and_true, Bool.true_and, if_true, Bool.false_eq_true, if_false, List.set_cons_zero, List.set_cons_succ, Bool.not_true, Bool.not_false, Bool.and_self]
theorem spec_spareOf (d b p s : Int) (B M : List AV) (die v : Int) (h0 : 0 ≤ die) (h1 : die ≤ 1000) (hb : 4 ≤ b ∧ b ≤ 12) (hs1 : 1 ≤ s ∧ s ≤ 4 ∧ s < b - 1) : den E 66 [bt d b p s B M, (.i .i64 die), (.i .i64 v)] [] = some (.b (decide (die * b + (b - s) ≤ v) && decide (v < die * b + b))) := by
  obtain ⟨m1, m2⟩ := mul_le2 (show (0 : Int) ≤ die + 1 by omega) (show die + 1 ≤ 1001 by omega) (show (0 : Int) ≤ b by omega) hb.2
  have e1 : (die + 1) * b = die * b + b := by rw [Int.add_mul, Int.one_mul]
  unfold bt
  rw [f66_eq, w64 (x := die + 1) (by omega) (by omega), w64 (x := (die + 1) * b) (by omega) (by omega), w64 (x := (die + 1) * b - s) (by omega) (by omega), w64 (x := (die + 1) * b - 1) (by omega) (by omega), in90, bSh_b, e1]
  have a1 : (die * b + b - s ≤ v) = (die * b + (b - s) ≤ v) := propext (by omega)
  have a2 : (v ≤ die * b + b - 1) = (v < die * b + b) := propext (by omega)
  simp only [a1, a2, okC_nil, okC_agg, okC_i, okC_b, okC_s, okC_imm, okL_i, okL_b, okL_s, okL_sl, okS_i, okS_b, okS_s, okS_sl, okS_agg, okS_tup, okS_nil, okS_cons, cells_agg, cells_i, cells_b, cells_s, cells_imm, toI_i, toB_b, toS_s, toL_imm, nth_agg, nth_tup, put_agg, put_i, put_b, put_s, put_imm, setCells, List.getD_cons_zero, List.getD_cons_succ, bSh_b, bSh_i, bSh_s, bSh_sl, bSh_some, cond_true, cond_false, decide_true, decide_false, Int.toNat_natCast, Nat.zero_add, Nat.reduceAdd, beq_self_eq_true, Bool.and_true, Bool.true_and, if_true, Bool.false_eq_true, if_false, List.set_cons_zero, List.set_cons_succ, Bool.not_true, Bool.not_false, Bool.and_self]
theorem spec_shape (d b p s : Int) {B : List AV} (M : List AV) (v0 : W64 s) (hB : Rw (T2 1048576) 1048576 B) : den E 64 [bt d b p s B M] [] = some (.b (((decide (2 ≤ d) && decide (d ≤ 3)) && ((decide (4 ≤ b) && decide (b ≤ 12)) && (decide (p = 8) || decide (p = 16)))) &&
    (((decide (1 ≤ s) && decide (s ≤ 4)) && decide (s < b - 1)) && (List.range' 0 B.length).all (fun i => inn (d * b - 1) B i && snB B i)))) := by
  unfold bt
  rw [f64_eq, spec_geo]
  simp only [in90, f58_eq, okC_nil, okC_agg, okC_i, okC_b, okC_s, okC_imm, okL_i, okL_b, okL_s, okL_sl, okS_i, okS_b, okS_s, okS_sl, okS_agg, okS_tup, okS_nil, okS_cons, cells_agg, cells_i, cells_b, cells_s, cells_imm, toI_i, toB_b, toS_s, toL_imm, nth_agg, nth_tup, put_agg, put_i, put_b, put_s, put_imm, setCells, List.getD_cons_zero, List.getD_cons_succ, bSh_b, bSh_i, bSh_s, bSh_sl, bSh_some, cond_true, cond_false, decide_true, decide_false, Int.toNat_natCast, Nat.zero_add, Nat.reduceAdd, beq_self_eq_true, Bool.and_true, Bool.true_and, if_true, Bool.false_eq_true, if_false, List.set_cons_zero, List.set_cons_succ, Bool.not_true, Bool.not_false, Bool.and_self]
  cases hg : ((decide (2 ≤ d) && decide (d ≤ 3)) && ((decide (4 ≤ b) && decide (b ≤ 12)) && (decide (p = 8) || decide (p = 16))))
  · rfl
  simp only [Bool.and_eq_true, decide_eq_true_eq] at hg
  obtain ⟨hd, hb, _⟩ := hg
  obtain ⟨m1, m2⟩ := mul_le2 (show (0 : Int) ≤ d by omega) hd.2 (show (0 : Int) ≤ b by omega) hb.2
  rw [w64 (x := b - 1) (by omega) (by omega), w64 (x := d * b) (by omega) (by omega), w64 (x := d * b - 1) (by omega) (by omega), spec_rises _ hB]
  simp only [okC_nil, okC_agg, okC_i, okC_b, okC_s, okC_imm, okL_i, okL_b, okL_s, okL_sl, okS_i, okS_b, okS_s, okS_sl, okS_agg, okS_tup, okS_nil, okS_cons, cells_agg, cells_i, cells_b, cells_s, cells_imm, toI_i, toB_b, toS_s, toL_imm, nth_agg, nth_tup, put_agg, put_i, put_b, put_s, put_imm, setCells, List.getD_cons_zero, List.getD_cons_succ, bSh_b, bSh_i, bSh_s, bSh_sl, bSh_some, cond_true, cond_false, decide_true, decide_false, Int.toNat_natCast, Nat.zero_add, Nat.reduceAdd, beq_self_eq_true, Bool.and_true, Bool.true_and, if_true, Bool.false_eq_true, if_false, List.set_cons_zero, List.set_cons_succ, Bool.not_true, Bool.not_false, Bool.and_self]
  cases (decide (1 ≤ s) && decide (s ≤ 4)) <;> cases decide (s < b - 1) <;> rfl
theorem okBt_bd {d b p s : Int} {B M : List AV} (h : okBt d b p s B M = true) : (2 ≤ d ∧ d ≤ 3) ∧ (4 ≤ b ∧ b ≤ 12) ∧ (1 ≤ s ∧ s ≤ 4 ∧ s < b - 1) ∧ (∀ i, i < B.length → inn (d * b - 1) B i = true ∧ snB B i = true) ∧ ((M.length : Nat) : Int) = d * (b - s) ∧ M.length ≤ 40 ∧ ∀ i, i < M.length → okRm b s B M i = true := by
  unfold okBt at h
  simp only [Bool.and_eq_true, decide_eq_true_eq, List.all_eq_true, List.mem_range'_1] at h
  obtain ⟨⟨hd, hb, _⟩, ⟨h1, h2⟩, h3, h4, h5⟩ := h
  obtain ⟨m1, m2⟩ := mul_le2 (show (0 : Int) ≤ d by omega) hd.2 (show (0 : Int) ≤ b - s by omega) (show b - s ≤ 11 by omega)
  exact ⟨hd, hb, ⟨h1.1, h1.2, h2⟩, fun i hi => h3 i ⟨by omega, by omega⟩, h4, by omega, fun i hi => h5 i ⟨by omega, by omega⟩⟩
theorem spec_valid {d b p s : Int} {B M : List AV} (v0 : W64 d) (v1 : W64 b) (v3 : W64 s) (hB : Rw (T2 1048576) 1048576 B) (hM : Rw (T2 1048576) 1048576 M) : den E 20 [bt d b p s B M] [] = some (.b (okBt d b p s B M)) := by
  have e0 := spec_shape d b p s M v3 hB
  unfold bt at e0 ⊢
  rw [f20_eq, e0]
  unfold okBt
  simp only [okC_nil, okC_agg, okC_i, okC_b, okC_s, okC_imm, okL_i, okL_b, okL_s, okL_sl, okS_i, okS_b, okS_s, okS_sl, okS_agg, okS_tup, okS_nil, okS_cons, cells_agg, cells_i, cells_b, cells_s, cells_imm, toI_i, toB_b, toS_s, toL_imm, nth_agg, nth_tup, put_agg, put_i, put_b, put_s, put_imm, setCells, List.getD_cons_zero, List.getD_cons_succ, bSh_b, bSh_i, bSh_s, bSh_sl, bSh_some, cond_true, cond_false, decide_true, decide_false, Int.toNat_natCast, Nat.zero_add, Nat.reduceAdd, beq_self_eq_true, Bool.and_true, Bool.true_and, if_true, Bool.false_eq_true, if_false, List.set_cons_zero, List.set_cons_succ, Bool.not_true, Bool.not_false, Bool.and_self]
  cases hg : ((decide (2 ≤ d) && decide (d ≤ 3)) && ((decide (4 ≤ b) && decide (b ≤ 12)) && (decide (p = 8) || decide (p = 16))))
  · rfl
  cases hg2 : ((decide (1 ≤ s) && decide (s ≤ 4)) && decide (s < b - 1))
  · rfl
  cases (List.range' 0 B.length).all (fun i => inn (d * b - 1) B i && snB B i)
  · rfl
  simp only [Bool.and_eq_true, decide_eq_true_eq] at hg hg2
  obtain ⟨hd, hb, _⟩ := hg
  have hs1 : 1 ≤ s ∧ s ≤ 4 ∧ s < b - 1 := ⟨hg2.1.1, hg2.1.2, hg2.2⟩
  obtain ⟨m1, m2⟩ := mul_le2 (show (0 : Int) ≤ d by omega) hd.2 (show (0 : Int) ≤ b - s by omega) (show b - s ≤ 11 by omega)
  rw [w64 (x := b - s) (by omega) (by omega), w64 (x := d * (b - s)) (by omega) (by omega)]
  by_cases hl : ((M.length : Nat) : Int) = d * (b - s)
  rotate_left
  · simp only [hl, okC_nil, okC_agg, okC_i, okC_b, okC_s, okC_imm, okL_i, okL_b, okL_s, okL_sl, okS_i, okS_b, okS_s, okS_sl, okS_agg, okS_tup, okS_nil, okS_cons, cells_agg, cells_i, cells_b, cells_s, cells_imm, toI_i, toB_b, toS_s, toL_imm, nth_agg, nth_tup, put_agg, put_i, put_b, put_s, put_imm, setCells, List.getD_cons_zero, List.getD_cons_succ, bSh_b, bSh_i, bSh_s, bSh_sl, bSh_some, cond_true, cond_false, decide_true, decide_false, Int.toNat_natCast, Nat.zero_add, Nat.reduceAdd, beq_self_eq_true, Bool.and_true, Bool.true_and, if_true, Bool.false_eq_true, if_false, List.set_cons_zero, List.set_cons_succ, Bool.not_true, Bool.not_false, Bool.and_self, Bool.false_and, Bool.and_false]
  simp only [hl, okC_nil, okC_agg, okC_i, okC_b, okC_s, okC_imm, okL_i, okL_b, okL_s, okL_sl, okS_i, okS_b, okS_s, okS_sl, okS_agg, okS_tup, okS_nil, okS_cons, cells_agg, cells_i, cells_b, cells_s, cells_imm, toI_i, toB_b, toS_s, toL_imm, nth_agg, nth_tup, put_agg, put_i, put_b, put_s, put_imm, setCells, List.getD_cons_zero, List.getD_cons_succ, bSh_b, bSh_i, bSh_s, bSh_sl, bSh_some, cond_true, cond_false, decide_true, decide_false, Int.toNat_natCast, Nat.zero_add, Nat.reduceAdd, beq_self_eq_true, Bool.and_true, Bool.true_and, if_true, Bool.false_eq_true, if_false, List.set_cons_zero, List.set_cons_succ, Bool.not_true, Bool.not_false, Bool.and_self]
  have hl40 : M.length ≤ 40 := by omega
  have := all_loop (L := fun i => f20_l1 i d b p s B M) (n := M.length) (p := okRm b s B M) (X := some (.b true)) (F := some (.b false)) (fun i hi => ?_) ?_ M.length 0 (by omega)
  · refine this.trans ?_
    rw [cond_andb, Bool.and_true]
  · have hT := hM.at hi
    obtain ⟨_, _, _, q0, q1⟩ := hmB_bd (show i ≤ 40 by omega) hb hs1
    have t0 : 0 ≤ (hmB b s i).tdiv b := Int.tdiv_nonneg (by omega) (by omega)
    have t1 : (hmB b s i).tdiv b ≤ 520 := by have := Int.tdiv_le_self b q0; omega
    have e1 := spec_home d b p s B M i (by omega) hb hs1
    have e2 := fun v => spec_spareOf d b p s B M _ v t0 (show (hmB b s i).tdiv b ≤ 1000 by omega) hb hs1
    unfold bt at e1 e2
    try dsimp only
    rw [f20_l1_eq, dT (show (i : Int) < ((M.length : Nat) : Int) by omega), cond_true, e1]
    simp only [okC_nil, okC_agg, okC_i, okC_b, okC_s, okC_imm, okL_i, okL_b, okL_s, okL_sl, okS_i, okS_b, okS_s, okS_sl, okS_agg, okS_tup, okS_nil, okS_cons, cells_agg, cells_i, cells_b, cells_s, cells_imm, toI_i, toB_b, toS_s, toL_imm, nth_agg, nth_tup, put_agg, put_i, put_b, put_s, put_imm, setCells, List.getD_cons_zero, List.getD_cons_succ, bSh_b, bSh_i, bSh_s, bSh_sl, bSh_some, cond_true, cond_false, decide_true, decide_false, Int.toNat_natCast, Nat.zero_add, Nat.reduceAdd, beq_self_eq_true, Bool.and_true, Bool.true_and, if_true, Bool.false_eq_true, if_false, List.set_cons_zero, List.set_cons_succ, Bool.not_true, Bool.not_false, Bool.and_self]
    rw [if_pos (by omega), if_pos hT.ok, if_pos (by omega), spec_has hB, bSh_b, toB_b, spec_has (t2_take hM i), bSh_b, toB_b]
    unfold okRm
    show cond (hs B (iA M i) == false) _ _ = _
    cases hs B (iA M i)
    rotate_left
    · rfl
    show cond (hs (M.take i) (iA M i)) _ _ = _
    cases hs (M.take i) (iA M i)
    rotate_left
    · rfl
    simp only [cond_false]
    show cond ((!decide (iA M i = hmB b s i)) == true) _ _ = _
    rw [f20_j2_eq, w64 (x := (i : Int) + 1) (by omega) (by omega)]
    by_cases hv : iA M i = hmB b s i
    · simp only [hv, okC_nil, okC_agg, okC_i, okC_b, okC_s, okC_imm, okL_i, okL_b, okL_s, okL_sl, okS_i, okS_b, okS_s, okS_sl, okS_agg, okS_tup, okS_nil, okS_cons, cells_agg, cells_i, cells_b, cells_s, cells_imm, toI_i, toB_b, toS_s, toL_imm, nth_agg, nth_tup, put_agg, put_i, put_b, put_s, put_imm, setCells, List.getD_cons_zero, List.getD_cons_succ, bSh_b, bSh_i, bSh_s, bSh_sl, bSh_some, cond_true, cond_false, decide_true, decide_false, Int.toNat_natCast, Nat.zero_add, Nat.reduceAdd, beq_self_eq_true, Bool.and_true, Bool.true_and, if_true, Bool.false_eq_true, if_false, List.set_cons_zero, List.set_cons_succ, Bool.not_true, Bool.not_false, Bool.and_self, Bool.true_or]; rfl
    simp only [hv, okC_nil, okC_agg, okC_i, okC_b, okC_s, okC_imm, okL_i, okL_b, okL_s, okL_sl, okS_i, okS_b, okS_s, okS_sl, okS_agg, okS_tup, okS_nil, okS_cons, cells_agg, cells_i, cells_b, cells_s, cells_imm, toI_i, toB_b, toS_s, toL_imm, nth_agg, nth_tup, put_agg, put_i, put_b, put_s, put_imm, setCells, List.getD_cons_zero, List.getD_cons_succ, bSh_b, bSh_i, bSh_s, bSh_sl, bSh_some, cond_true, cond_false, decide_true, decide_false, Int.toNat_natCast, Nat.zero_add, Nat.reduceAdd, beq_self_eq_true, Bool.and_true, Bool.true_and, if_true, Bool.false_eq_true, if_false, List.set_cons_zero, List.set_cons_succ, Bool.not_true, Bool.not_false, Bool.and_self, Bool.false_or]
    rw [if_neg (by omega), w64 (by omega) (by omega), show ((M.getD i .x).cells.getD 0 .x).toI = iA M i from rfl, e2]
    simp only [spec_has hB, okC_nil, okC_agg, okC_i, okC_b, okC_s, okC_imm, okL_i, okL_b, okL_s, okL_sl, okS_i, okS_b, okS_s, okS_sl, okS_agg, okS_tup, okS_nil, okS_cons, cells_agg, cells_i, cells_b, cells_s, cells_imm, toI_i, toB_b, toS_s, toL_imm, nth_agg, nth_tup, put_agg, put_i, put_b, put_s, put_imm, setCells, List.getD_cons_zero, List.getD_cons_succ, bSh_b, bSh_i, bSh_s, bSh_sl, bSh_some, cond_true, cond_false, decide_true, decide_false, Int.toNat_natCast, Nat.zero_add, Nat.reduceAdd, beq_self_eq_true, Bool.and_true, Bool.true_and, if_true, Bool.false_eq_true, if_false, List.set_cons_zero, List.set_cons_succ, Bool.not_true, Bool.not_false, Bool.and_self]
    cases (decide ((hmB b s i).tdiv b * b + (b - s) ≤ iA M i) && decide (iA M i < (hmB b s i).tdiv b * b + b)) <;> cases hs B (hmB b s i) <;> rfl
  · try dsimp only
    rw [f20_l1_eq, dF (Int.lt_irrefl _), cond_false]
theorem impl_valid {d b p s : Int} {B M : List AV} (v0 : W64 d) (v1 : W64 b) (v3 : W64 s) (hB : Rw (T2 1048576) 1048576 B) (hM : Rw (T2 1048576) 1048576 M) : den E 21 [bt d b p s B M] [] = some (.b (okBt d b p s B M)) := by
  unfold okBt
  have pr : (4 ≤ b ∧ b ≤ 12) → (1 ≤ s ∧ s ≤ 4 ∧ s < b - 1) → den E 99 [bt d b p s B M] [] = some (.i .i64 (b - s)) := fun hb hs1 => by
    unfold bt; rw [f99_eq, w64 (by omega) (by omega)]
  have r0 := fun i v h1 h2 h3 => impl_rm d b p s M hB i v h1 h2 h3
  unfold bt at pr r0 ⊢
  rw [f21_eq, impl_geo]
  simp only [f47_eq, f48_eq, f50_eq, f55_eq, in72, impl_incr hB, okC_nil, okC_agg, okC_i, okC_b, okC_s, okC_imm, okL_i, okL_b, okL_s, okL_sl, okS_i, okS_b, okS_s, okS_sl, okS_agg, okS_tup, okS_nil, okS_cons, cells_agg, cells_i, cells_b, cells_s, cells_imm, toI_i, toB_b, toS_s, toL_imm, nth_agg, nth_tup, put_agg, put_i, put_b, put_s, put_imm, setCells, List.getD_cons_zero, List.getD_cons_succ, bSh_b, bSh_i, bSh_s, bSh_sl, bSh_some, cond_true, cond_false, decide_true, decide_false, Int.toNat_natCast, Nat.zero_add, Nat.reduceAdd, beq_self_eq_true, Bool.and_true, Bool.true_and, if_true, Bool.false_eq_true, if_false, List.set_cons_zero, List.set_cons_succ, Bool.not_true, Bool.not_false, Bool.and_self]
  cases hg : ((decide (2 ≤ d) && decide (d ≤ 3)) && ((decide (4 ≤ b) && decide (b ≤ 12)) && (decide (p = 8) || decide (p = 16))))
  · rfl
  simp only [Bool.and_eq_true, decide_eq_true_eq] at hg
  obtain ⟨hd, hb, _⟩ := hg
  obtain ⟨k1, k2⟩ := mul_le2 (show (0 : Int) ≤ d by omega) hd.2 (show (0 : Int) ≤ b by omega) hb.2
  rw [w64 (x := b - 1) (by omega) (by omega), w64 (x := d * b) (by omega) (by omega), w64 (x := d * b - 1) (by omega) (by omega), impl_allin _ hB, all_split]
  simp only [okC_nil, okC_agg, okC_i, okC_b, okC_s, okC_imm, okL_i, okL_b, okL_s, okL_sl, okS_i, okS_b, okS_s, okS_sl, okS_agg, okS_tup, okS_nil, okS_cons, cells_agg, cells_i, cells_b, cells_s, cells_imm, toI_i, toB_b, toS_s, toL_imm, nth_agg, nth_tup, put_agg, put_i, put_b, put_s, put_imm, setCells, List.getD_cons_zero, List.getD_cons_succ, bSh_b, bSh_i, bSh_s, bSh_sl, bSh_some, cond_true, cond_false, decide_true, decide_false, Int.toNat_natCast, Nat.zero_add, Nat.reduceAdd, beq_self_eq_true, Bool.and_true, Bool.true_and, if_true, Bool.false_eq_true, if_false, List.set_cons_zero, List.set_cons_succ, Bool.not_true, Bool.not_false, Bool.and_self]
  cases hg1 : (decide (1 ≤ s) && decide (s ≤ 4))
  · rfl
  cases hg2 : decide (s < b - 1)
  · rfl
  simp only [Bool.and_eq_true, decide_eq_true_eq] at hg1 hg2
  have hs1 : 1 ≤ s ∧ s ≤ 4 ∧ s < b - 1 := ⟨hg1.1, hg1.2, hg2⟩
  cases (List.range' 0 B.length).all (snB B)
  · simp only [Bool.false_and, Bool.and_false]; rfl
  cases (List.range' 0 B.length).all (inn (d * b - 1) B)
  · rfl
  obtain ⟨m1, m2⟩ := mul_le2 (show (0 : Int) ≤ d by omega) hd.2 (show (0 : Int) ≤ b - s by omega) (show b - s ≤ 11 by omega)
  simp only [pr hb hs1, okC_nil, okC_agg, okC_i, okC_b, okC_s, okC_imm, okL_i, okL_b, okL_s, okL_sl, okS_i, okS_b, okS_s, okS_sl, okS_agg, okS_tup, okS_nil, okS_cons, cells_agg, cells_i, cells_b, cells_s, cells_imm, toI_i, toB_b, toS_s, toL_imm, nth_agg, nth_tup, put_agg, put_i, put_b, put_s, put_imm, setCells, List.getD_cons_zero, List.getD_cons_succ, bSh_b, bSh_i, bSh_s, bSh_sl, bSh_some, cond_true, cond_false, decide_true, decide_false, Int.toNat_natCast, Nat.zero_add, Nat.reduceAdd, beq_self_eq_true, Bool.and_true, Bool.true_and, if_true, Bool.false_eq_true, if_false, List.set_cons_zero, List.set_cons_succ, Bool.not_true, Bool.not_false, Bool.and_self]
  rw [w64 (x := d * (b - s)) (by omega) (by omega)]
  by_cases hl : ((M.length : Nat) : Int) = d * (b - s)
  rotate_left
  · simp only [hl, okC_nil, okC_agg, okC_i, okC_b, okC_s, okC_imm, okL_i, okL_b, okL_s, okL_sl, okS_i, okS_b, okS_s, okS_sl, okS_agg, okS_tup, okS_nil, okS_cons, cells_agg, cells_i, cells_b, cells_s, cells_imm, toI_i, toB_b, toS_s, toL_imm, nth_agg, nth_tup, put_agg, put_i, put_b, put_s, put_imm, setCells, List.getD_cons_zero, List.getD_cons_succ, bSh_b, bSh_i, bSh_s, bSh_sl, bSh_some, cond_true, cond_false, decide_true, decide_false, Int.toNat_natCast, Nat.zero_add, Nat.reduceAdd, beq_self_eq_true, Bool.and_true, Bool.true_and, if_true, Bool.false_eq_true, if_false, List.set_cons_zero, List.set_cons_succ, Bool.not_true, Bool.not_false, Bool.and_self, Bool.false_and, Bool.and_false]
  simp only [hl, okC_nil, okC_agg, okC_i, okC_b, okC_s, okC_imm, okL_i, okL_b, okL_s, okL_sl, okS_i, okS_b, okS_s, okS_sl, okS_agg, okS_tup, okS_nil, okS_cons, cells_agg, cells_i, cells_b, cells_s, cells_imm, toI_i, toB_b, toS_s, toL_imm, nth_agg, nth_tup, put_agg, put_i, put_b, put_s, put_imm, setCells, List.getD_cons_zero, List.getD_cons_succ, bSh_b, bSh_i, bSh_s, bSh_sl, bSh_some, cond_true, cond_false, decide_true, decide_false, Int.toNat_natCast, Nat.zero_add, Nat.reduceAdd, beq_self_eq_true, Bool.and_true, Bool.true_and, if_true, Bool.false_eq_true, if_false, List.set_cons_zero, List.set_cons_succ, Bool.not_true, Bool.not_false, Bool.and_self]
  have hl40 : M.length ≤ 40 := by omega
  have := all_loop (L := fun i => f21_l1 M (d * (b - s)) i d b p s B M) (n := M.length) (p := okRm b s B M) (X := some (.b true)) (F := some (.b false)) (fun i hi => ?_) ?_ M.length 0 (by omega)
  · refine this.trans ?_
    rw [cond_andb, Bool.and_true]
  · have hT := hM.at hi
    try dsimp only
    rw [f21_l1_eq, dT (show (i : Int) < d * (b - s) by omega), cond_true]
    simp only [Int.toNat_natCast, hT.ok, if_true]
    rw [if_pos (by omega), r0 i _ (by omega) hb hs1, impl_has (t2_take hM i), if_pos (by omega), w64 (x := (i : Int) + 1) (by omega) (by omega)]
    simp only [okC_nil, okC_agg, okC_i, okC_b, okC_s, okC_imm, okL_i, okL_b, okL_s, okL_sl, okS_i, okS_b, okS_s, okS_sl, okS_agg, okS_tup, okS_nil, okS_cons, cells_agg, cells_i, cells_b, cells_s, cells_imm, toI_i, toB_b, toS_s, toL_imm, nth_agg, nth_tup, put_agg, put_i, put_b, put_s, put_imm, setCells, List.getD_cons_zero, List.getD_cons_succ, bSh_b, bSh_i, bSh_s, bSh_sl, bSh_some, cond_true, cond_false, decide_true, decide_false, Int.toNat_natCast, Nat.zero_add, Nat.reduceAdd, beq_self_eq_true, Bool.and_true, Bool.true_and, if_true, Bool.false_eq_true, if_false, List.set_cons_zero, List.set_cons_succ, Bool.not_true, Bool.not_false, Bool.and_self]
    unfold okRm
    show cond ((!(!hs B (iA M i) && (decide (iA M i = hmB b s i) || ((decide ((hmB b s i).tdiv b * b + (b - s) ≤ iA M i) && decide (iA M i < (hmB b s i).tdiv b * b + b)) && hs B (hmB b s i))))) == false) (cond (hs (M.take i) (iA M i)) _ _) _ = _
    cases hs B (iA M i) <;> cases hs (M.take i) (iA M i) <;> cases (decide (iA M i = hmB b s i) || ((decide ((hmB b s i).tdiv b * b + (b - s) ≤ iA M i) && decide (iA M i < (hmB b s i).tdiv b * b + b)) && hs B (hmB b s i))) <;> rfl
  · try dsimp only
    rw [f21_l1_eq, dF (by omega), cond_false]

/-! Where a number belongs in a rising row. -/
def Cut (B : List AV) (x : Int) (k : Nat) : Prop := k ≤ B.length ∧ (∀ j, j < k → iA B j < x) ∧ ∀ j, k ≤ j → j < B.length → x ≤ iA B j
theorem Cut.uniq {B : List AV} {x : Int} {k k' : Nat} (h : Cut B x k) (h' : Cut B x k') : k = k' := by
  rcases Nat.lt_trichotomy k k' with h1 | h1 | h1
  · have := h'.2.1 k h1; have := h.2.2 k (Nat.le_refl _) (Nat.lt_of_lt_of_le h1 h'.1); omega
  · exact h1
  · have := h.2.1 k' h1; have := h'.2.2 k' (Nat.le_refl _) (Nat.lt_of_lt_of_le h1 h.1); omega
theorem rising {B : List AV} (h : ∀ i, i < B.length → snB B i = true) : ∀ (n i : Nat), i + n + 1 < B.length → iA B i < iA B (i + n + 1)
  | 0, i, hi => by
    have := h (i + 1) hi
    simp only [snB, Nat.add_sub_cancel] at this
    have h2 : ¬ i + 1 = 0 := by omega
    simp only [h2, decide_false, Bool.false_or, Bool.not_eq_true', decide_eq_false_iff_not] at this
    show sv B i < sv B (i + 1)
    omega
  | n + 1, i, hi => by
    have h1 := rising h n i (by omega)
    have := h (i + n + 1 + 1) hi
    simp only [snB, Nat.add_sub_cancel] at this
    have h2 : ¬ i + n + 1 + 1 = 0 := by omega
    simp only [h2, decide_false, Bool.false_or, Bool.not_eq_true', decide_eq_false_iff_not] at this
    have h3 : sv B (i + n + 1) < sv B (i + n + 1 + 1) := by omega
    exact Int.lt_trans h1 h3
theorem rising' {B : List AV} (h : ∀ i, i < B.length → snB B i = true) {i j : Nat} (hij : i < j) (hj : j < B.length) : iA B i < iA B j := by
  have := rising h (j - i - 1) i (by omega)
  rwa [show i + (j - i - 1) + 1 = j by omega] at this
theorem rising_len {B : List AV} {U : Int} (hU : 0 ≤ U + 1) (h : ∀ i, i < B.length → inn U B i = true ∧ snB B i = true) : ((B.length : Nat) : Int) ≤ U + 1 := by
  have key : ∀ i, i < B.length → (i : Int) ≤ iA B i := by
    intro i
    induction i with
    | zero =>
      intro hi
      have := (h 0 hi).1
      simp only [inn, Bool.and_eq_true, decide_eq_true_eq] at this
      exact this.1
    | succ i ih =>
      intro hi
      have h1 := ih (by omega)
      have := rising' (fun i hi => (h i hi).2) (show i < i + 1 by omega) hi
      omega
  by_cases h0 : B.length = 0
  · omega
  · have h1 := key (B.length - 1) (by omega)
    have := (h (B.length - 1) (by omega)).1
    simp only [inn, Bool.and_eq_true, decide_eq_true_eq] at this
    have h2 : iA B (B.length - 1) ≤ U := this.2
    omega
theorem wu64 {x : Int} (h1 : 0 ≤ x) (h2 : x ≤ 18446744073709551615) : IntKind.u64.wrap x = x := by
  have hb : (2 : Int) ^ IntKind.u64.bits = 18446744073709551616 := by decide
  have hs : IntKind.u64.signed = false := rfl
  unfold IntKind.wrap
  simp only [hb, hs, Bool.false_and, Bool.false_eq_true, if_false]
  omega
theorem half {n : Int} (h0 : 0 ≤ n) (h1 : n ≤ 1099511627776) : IntKind.i64.wrap ((IntKind.u64.wrap (IntKind.i64.wrap n)).fdiv (2 ^ (min (1 : Int).toNat IntKind.u64.bits))) = n / 2 := by
  rw [w64 (x := n) (by omega) (by omega), wu64 h0 (by omega), show (2 : Int) ^ (min (1 : Int).toNat IntKind.u64.bits) = 2 from rfl, Int.fdiv_eq_ediv_of_nonneg _ (by omega), w64 (by omega) (by omega)]
theorem bin_search {B : List AV} (hB : Rw (T2 1048576) 1048576 B) (hr : ∀ i, i < B.length → snB B i = true) (x : Int) : ∃ (k : Nat) (f : Bool), den E 104 [(.imm 1 B), (.i .i64 x)] [] = some (.tup [(.i .i64 k), (.b f)]) ∧ Cut B x k := by
  have hl := hB.1
  rw [f104_eq]
  have key : ∀ (m lo hi : Nat), hi ≤ lo + m → lo ≤ hi → hi ≤ B.length → (∀ j, j < lo → iA B j < x) → (∀ j, hi ≤ j → j < B.length → x ≤ iA B j) → ∃ (k : Nat) (f : Bool), f104_l1 B x ((B.length : Nat) : Int) (lo : Int) (hi : Int) = some (.tup [(.i .i64 k), (.b f)]) ∧ Cut B x k := by
    intro m
    induction m with
    | zero =>
      intro lo hi h1 h2 h3 h4 h5
      have : lo = hi := by omega
      subst this
      refine ⟨lo, decide (lo < B.length) && decide (iA B lo = x), ?_, h3, h4, h5⟩
      rw [f104_l1_eq, dF (Int.lt_irrefl _), cond_false]
      by_cases h6 : lo < B.length
      · have hT := hB.at h6
        rw [dT (show (lo : Int) < ((B.length : Nat) : Int) by omega)]
        simp only [f132_eq, Int.toNat_natCast, hT.ok, okC_nil, okC_agg, okC_i, okC_b, okC_s, okC_imm, okL_i, okL_b, okL_s, okL_sl, okS_i, okS_b, okS_s, okS_sl, okS_agg, okS_tup, okS_nil, okS_cons, cells_agg, cells_i, cells_b, cells_s, cells_imm, toI_i, toB_b, toS_s, toL_imm, nth_agg, nth_tup, put_agg, put_i, put_b, put_s, put_imm, setCells, List.getD_cons_zero, List.getD_cons_succ, bSh_b, bSh_i, bSh_s, bSh_sl, bSh_some, cond_true, cond_false, decide_true, decide_false, Int.toNat_natCast, Nat.zero_add, Nat.reduceAdd, beq_self_eq_true, Bool.and_true, Bool.true_and, if_true, Bool.false_eq_true, if_false, List.set_cons_zero, List.set_cons_succ, Bool.not_true, Bool.not_false, Bool.and_self]
        rw [if_pos (by omega)]
        show cond (decide (iA B lo = x) == false) _ _ = _
        by_cases h7 : iA B lo = x
        · simp only [h6, h7, okC_nil, okC_agg, okC_i, okC_b, okC_s, okC_imm, okL_i, okL_b, okL_s, okL_sl, okS_i, okS_b, okS_s, okS_sl, okS_agg, okS_tup, okS_nil, okS_cons, cells_agg, cells_i, cells_b, cells_s, cells_imm, toI_i, toB_b, toS_s, toL_imm, nth_agg, nth_tup, put_agg, put_i, put_b, put_s, put_imm, setCells, List.getD_cons_zero, List.getD_cons_succ, bSh_b, bSh_i, bSh_s, bSh_sl, bSh_some, cond_true, cond_false, decide_true, decide_false, Int.toNat_natCast, Nat.zero_add, Nat.reduceAdd, beq_self_eq_true, Bool.and_true, Bool.true_and, if_true, Bool.false_eq_true, if_false, List.set_cons_zero, List.set_cons_succ, Bool.not_true, Bool.not_false, Bool.and_self]; rfl
        · simp only [h6, h7, okC_nil, okC_agg, okC_i, okC_b, okC_s, okC_imm, okL_i, okL_b, okL_s, okL_sl, okS_i, okS_b, okS_s, okS_sl, okS_agg, okS_tup, okS_nil, okS_cons, cells_agg, cells_i, cells_b, cells_s, cells_imm, toI_i, toB_b, toS_s, toL_imm, nth_agg, nth_tup, put_agg, put_i, put_b, put_s, put_imm, setCells, List.getD_cons_zero, List.getD_cons_succ, bSh_b, bSh_i, bSh_s, bSh_sl, bSh_some, cond_true, cond_false, decide_true, decide_false, Int.toNat_natCast, Nat.zero_add, Nat.reduceAdd, beq_self_eq_true, Bool.and_true, Bool.true_and, if_true, Bool.false_eq_true, if_false, List.set_cons_zero, List.set_cons_succ, Bool.not_true, Bool.not_false, Bool.and_self]
          rw [if_pos (by omega)]
          rfl
      · rw [dF (show ¬ (lo : Int) < ((B.length : Nat) : Int) by omega)]
        simp only [h6, okC_nil, okC_agg, okC_i, okC_b, okC_s, okC_imm, okL_i, okL_b, okL_s, okL_sl, okS_i, okS_b, okS_s, okS_sl, okS_agg, okS_tup, okS_nil, okS_cons, cells_agg, cells_i, cells_b, cells_s, cells_imm, toI_i, toB_b, toS_s, toL_imm, nth_agg, nth_tup, put_agg, put_i, put_b, put_s, put_imm, setCells, List.getD_cons_zero, List.getD_cons_succ, bSh_b, bSh_i, bSh_s, bSh_sl, bSh_some, cond_true, cond_false, decide_true, decide_false, Int.toNat_natCast, Nat.zero_add, Nat.reduceAdd, beq_self_eq_true, Bool.and_true, Bool.true_and, if_true, Bool.false_eq_true, if_false, List.set_cons_zero, List.set_cons_succ, Bool.not_true, Bool.not_false, Bool.and_self, Bool.false_and]
        rfl
    | succ m ih =>
      intro lo hi h1 h2 h3 h4 h5
      by_cases h6 : lo = hi
      · exact ih lo hi (by omega) h2 h3 h4 h5
      have hmid : ((lo : Int) + (hi : Int)) / 2 = (((lo + hi) / 2 : Nat) : Int) := by omega
      obtain ⟨q, hq⟩ : ∃ q, q = (lo + hi) / 2 := ⟨_, rfl⟩
      have hql : q < B.length := by omega
      have hT := hB.at hql
      have hl1 : den E 131 [(.i .i64 (iA B q)), (.i .i64 x)] [] = some (.b (decide (iA B q < x))) := by
        rw [f131_eq]
        simp only [f141_eq, okC_nil, okC_agg, okC_i, okC_b, okC_s, okC_imm, okL_i, okL_b, okL_s, okL_sl, okS_i, okS_b, okS_s, okS_sl, okS_agg, okS_tup, okS_nil, okS_cons, cells_agg, cells_i, cells_b, cells_s, cells_imm, toI_i, toB_b, toS_s, toL_imm, nth_agg, nth_tup, put_agg, put_i, put_b, put_s, put_imm, setCells, List.getD_cons_zero, List.getD_cons_succ, bSh_b, bSh_i, bSh_s, bSh_sl, bSh_some, cond_true, cond_false, decide_true, decide_false, Int.toNat_natCast, Nat.zero_add, Nat.reduceAdd, beq_self_eq_true, Bool.and_true, Bool.true_and, if_true, Bool.false_eq_true, if_false, List.set_cons_zero, List.set_cons_succ, Bool.not_true, Bool.not_false, Bool.and_self]
        rfl
      rw [f104_l1_eq, dT (show (lo : Int) < (hi : Int) by omega), cond_true, half (by omega) (by omega), hmid, ← hq]
      simp only [Int.toNat_natCast, hT.ok, if_true]
      rw [if_pos (by omega), show ((B.getD q .x).cells.getD 0 .x).toI = iA B q from rfl, hl1, bSh_b, toB_b]
      by_cases h7 : iA B q < x
      · rw [dT h7, cond_true, w64 (by omega) (by omega), show (q : Int) + 1 = ((q + 1 : Nat) : Int) by omega]
        refine ih (q + 1) hi (by omega) (by omega) h3 (fun j hj => ?_) h5
        by_cases hjq : j = q
        · subst hjq; exact h7
        · exact Int.lt_trans (rising' hr (show j < q by omega) hql) h7
      · rw [dF h7, cond_false]
        refine ih lo q (by omega) (by omega) (by omega) h4 fun j hj hjl => ?_
        by_cases hjq : j = q
        · subst hjq; omega
        · have := rising' hr (show q < j by omega) hjl
          omega
  exact key B.length 0 B.length (by omega) (by omega) (Nat.le_refl _) (fun j hj => by omega) fun j h1 h2 => by omega
theorem spec_put {B : List AV} (hB : Rw (T2 1048576) 1048576 B) {x : Int} {k : Nat} (hk : Cut B x k) (hx : hs B x = false) : dno E 61 [(.imm 1 B), (.i .i64 x)] [] = some (.sl 0 [] none, [.live true false false 2 (B.take k ++ [.i .i64 x] ++ B.drop k)]) := by
  have hl := hB.1
  rw [f61o1_eq]
  have late : ∀ (n i : Nat) (r : List AV), i + n = B.length → r.length ≤ i + 1 → f61o1_l1 B x true i [] r = some (.sl 0 [] none, [.live true false false 2 (r ++ B.drop i)]) := by
    intro n
    induction n with
    | zero =>
      intro i r h h2
      have : i = B.length := by omega
      subst this
      rw [f61o1_l1_eq, dF (Int.lt_irrefl _), cond_false, f61o1_j3_eq, List.drop_length, List.append_nil]
      rfl
    | succ n ih =>
      intro i r h h2
      have hi : i < B.length := by omega
      have hT := hB.at hi
      have := ih (i + 1) (r ++ [B.getD i .x]) (by omega) (by simp; omega)
      have g1 : (r.length + [B.getD i .x].length) * 8 ≤ room := by simp only [List.length_cons, List.length_nil, room]; omega
      have g2 : (0 : Int) ≤ (i : Int) ∧ (i : Int) < ((B.length : Nat) : Int) := ⟨by omega, by omega⟩
      rw [f61o1_l1_eq, dT (show (i : Int) < ((B.length : Nat) : Int) by omega), cond_true]
      simp only [f61o1_j2_eq, Int.toNat_natCast, hT.ok, hT.eta, and_self, show (false == true) = false from rfl, g1, g2, okC_nil, okC_agg, okC_i, okC_b, okC_s, okC_imm, okL_i, okL_b, okL_s, okL_sl, okS_i, okS_b, okS_s, okS_sl, okS_agg, okS_tup, okS_nil, okS_cons, cells_agg, cells_i, cells_b, cells_s, cells_imm, toI_i, toB_b, toS_s, toL_imm, nth_agg, nth_tup, put_agg, put_i, put_b, put_s, put_imm, setCells, List.getD_cons_zero, List.getD_cons_succ, bSh_b, bSh_i, bSh_s, bSh_sl, bSh_some, cond_true, cond_false, decide_true, decide_false, Int.toNat_natCast, Nat.zero_add, Nat.reduceAdd, beq_self_eq_true, Bool.and_true, Bool.true_and, if_true, Bool.false_eq_true, if_false, List.set_cons_zero, List.set_cons_succ, Bool.not_true, Bool.not_false, Bool.and_self]
      rw [w64 (x := (i : Int) + 1) (by omega) (by omega), show (i : Int) + 1 = ((i + 1 : Nat) : Int) by omega, this, drop_getD hi, List.append_assoc]
      rfl
  have early : ∀ (n i : Nat), i + n = k → f61o1_l1 B x false i [] (B.take i) = some (.sl 0 [] none, [.live true false false 2 (B.take k ++ [.i .i64 x] ++ B.drop k)]) := by
    intro n
    induction n with
    | zero =>
      intro i h
      have : i = k := by omega
      subst this
      have hkl := hk.1
      have htl : (B.take i).length ≤ 1048576 := by rw [List.length_take]; omega
      by_cases hi : i < B.length
      · have hT := hB.at hi
        have h1 := hk.2.2 i (Nat.le_refl _) hi
        have h2 : iA B i ≠ x := hs_false.1 hx i hi
        have h3 : x < iA B i := by omega
        have h1' : x ≤ ((B.getD i .x).cells.getD 0 .x).toI := h1
        have h3' : x < ((B.getD i .x).cells.getD 0 .x).toI := h3
        have g1 : ((B.take i).length + [AV.i .i64 x].length) * 8 ≤ room := by simp only [List.length_cons, List.length_nil, room]; omega
        have g3 : ((B.take i ++ [AV.i .i64 x]).length + [B.getD i .x].length) * 8 ≤ room := by simp only [List.length_append, List.length_cons, List.length_nil, room]; omega
        have g2 : (0 : Int) ≤ (i : Int) ∧ (i : Int) < ((B.length : Nat) : Int) := ⟨by omega, by omega⟩
        have := late (B.length - (i + 1)) (i + 1) (B.take i ++ [.i .i64 x] ++ [B.getD i .x]) (by omega) (by simp only [List.length_append, List.length_take, List.length_cons, List.length_nil]; omega)
        rw [f61o1_l1_eq, dT (show (i : Int) < ((B.length : Nat) : Int) by omega), cond_true]
        simp only [f61o1_j2_eq, Int.toNat_natCast, hT.ok, hT.eta, h1', h3', g1, g2, g3, and_self, show (false == true) = false from rfl, okC_nil, okC_agg, okC_i, okC_b, okC_s, okC_imm, okL_i, okL_b, okL_s, okL_sl, okS_i, okS_b, okS_s, okS_sl, okS_agg, okS_tup, okS_nil, okS_cons, cells_agg, cells_i, cells_b, cells_s, cells_imm, toI_i, toB_b, toS_s, toL_imm, nth_agg, nth_tup, put_agg, put_i, put_b, put_s, put_imm, setCells, List.getD_cons_zero, List.getD_cons_succ, bSh_b, bSh_i, bSh_s, bSh_sl, bSh_some, cond_true, cond_false, decide_true, decide_false, Int.toNat_natCast, Nat.zero_add, Nat.reduceAdd, beq_self_eq_true, Bool.and_true, Bool.true_and, if_true, Bool.false_eq_true, if_false, List.set_cons_zero, List.set_cons_succ, Bool.not_true, Bool.not_false, Bool.and_self]
        rw [w64 (x := (i : Int) + 1) (by omega) (by omega), show (i : Int) + 1 = ((i + 1 : Nat) : Int) by omega, this, drop_getD hi]
        simp only [List.append_assoc, List.cons_append, List.nil_append]
      · have : i = B.length := by omega
        subst this
        rw [f61o1_l1_eq, dF (Int.lt_irrefl _), cond_false]
        simp only [okC_nil, okC_agg, okC_i, okC_b, okC_s, okC_imm, okL_i, okL_b, okL_s, okL_sl, okS_i, okS_b, okS_s, okS_sl, okS_agg, okS_tup, okS_nil, okS_cons, cells_agg, cells_i, cells_b, cells_s, cells_imm, toI_i, toB_b, toS_s, toL_imm, nth_agg, nth_tup, put_agg, put_i, put_b, put_s, put_imm, setCells, List.getD_cons_zero, List.getD_cons_succ, bSh_b, bSh_i, bSh_s, bSh_sl, bSh_some, cond_true, cond_false, decide_true, decide_false, Int.toNat_natCast, Nat.zero_add, Nat.reduceAdd, beq_self_eq_true, Bool.and_true, Bool.true_and, if_true, Bool.false_eq_true, if_false, List.set_cons_zero, List.set_cons_succ, Bool.not_true, Bool.not_false, Bool.and_self]
        have g1 : ((B.take B.length).length + [AV.i .i64 x].length) * 8 ≤ room := by simp only [List.length_cons, List.length_nil, room]; omega
        rw [if_pos g1, f61o1_j3_eq, List.drop_length, List.append_nil]
    | succ n ih =>
      intro i h
      have hkl := hk.1
      have hi : i < B.length := by omega
      have hT := hB.at hi
      have h1 := hk.2.1 i (by omega)
      have := ih (i + 1) (by omega)
      have htl : (B.take i).length ≤ 1048576 := by rw [List.length_take]; omega
      have h1' : ¬ x ≤ ((B.getD i .x).cells.getD 0 .x).toI := by show ¬ x ≤ iA B i; omega
      have g1 : ((B.take i).length + [B.getD i .x].length) * 8 ≤ room := by simp only [List.length_cons, List.length_nil, room]; omega
      have g2 : (0 : Int) ≤ (i : Int) ∧ (i : Int) < ((B.length : Nat) : Int) := ⟨by omega, by omega⟩
      rw [f61o1_l1_eq, dT (show (i : Int) < ((B.length : Nat) : Int) by omega), cond_true]
      simp only [f61o1_j2_eq, Int.toNat_natCast, hT.ok, hT.eta, h1', g1, g2, and_self, show (false == true) = false from rfl, okC_nil, okC_agg, okC_i, okC_b, okC_s, okC_imm, okL_i, okL_b, okL_s, okL_sl, okS_i, okS_b, okS_s, okS_sl, okS_agg, okS_tup, okS_nil, okS_cons, cells_agg, cells_i, cells_b, cells_s, cells_imm, toI_i, toB_b, toS_s, toL_imm, nth_agg, nth_tup, put_agg, put_i, put_b, put_s, put_imm, setCells, List.getD_cons_zero, List.getD_cons_succ, bSh_b, bSh_i, bSh_s, bSh_sl, bSh_some, cond_true, cond_false, decide_true, decide_false, Int.toNat_natCast, Nat.zero_add, Nat.reduceAdd, beq_self_eq_true, Bool.and_true, Bool.true_and, if_true, Bool.false_eq_true, if_false, List.set_cons_zero, List.set_cons_succ, Bool.not_true, Bool.not_false, Bool.and_self]
      rw [w64 (x := (i : Int) + 1) (by omega) (by omega), show (i : Int) + 1 = ((i + 1 : Nat) : Int) by omega, ← take_getD hi, this]
  have := early k 0 (by omega)
  simpa using this

/-! A block is retired. -/
theorem spec_holder (d b p s : Int) (B : List AV) {M : List AV} (hm : Rw (T2 1048576) 1048576 M) (x : Int) : (den E 62 [bt d b p s B M, (.i .i64 x)] [] = some (.i .i64 (-1)) ∧ ∀ i, i < M.length → iA M i ≠ x) ∨
    ∃ j : Nat, j < M.length ∧ den E 62 [bt d b p s B M, (.i .i64 x)] [] = some (.i .i64 j) ∧ iA M j = x := by
  have hml := hm.1
  unfold bt
  have key := find_loop (L := fun i => f62_l1 x i d b p s B M) (n := M.length) (p := fun j => decide (iA M j = x)) (F := fun i => some (.i .i64 i)) (X := some (.i .i64 (-1))) (fun i hi => ?_) ?_ M.length 0 (by omega)
  · rw [f62_eq]
    rcases key with ⟨j, _, hj, h1, h2, h3⟩ | ⟨h1, h2⟩
    · exact .inr ⟨j, hj, h3, of_decide_eq_true h1⟩
    · exact .inl ⟨h2, fun i hi => of_decide_eq_false (h1 i (Nat.zero_le _) hi)⟩
  · have hT := hm.at hi
    try dsimp only
    rw [f62_l1_eq, dT (show (i : Int) < ((M.length : Nat) : Int) by omega), cond_true, if_pos (by omega), w64 (x := (i : Int) + 1) (by omega) (by omega)]
    simp only [Int.toNat_natCast, hT.ok, if_true]
    rfl
  · try dsimp only
    rw [f62_l1_eq, dF (Int.lt_irrefl _), cond_false]
theorem own_spec {l : List AV} (h : l.length ≤ 1048576) : dno E 106 [(.imm 1 l)] [] = some (.sl 0 [] none, [.live true false false 2 l]) := by
  rw [f106o1_eq, if_pos (by simp only [room]; omega)]
theorem t2_insert {B : List AV} {x : Int} {k : Nat} (h : Rw (T2 1048576) 1048576 B) (hl : B.length ≤ 1000) (hx : W64 x) : Rw (T2 1048576) 1048576 (B.take k ++ [.i .i64 x] ++ B.drop k) := by
  refine ⟨by simp only [List.length_append, List.length_take, List.length_drop, List.length_cons, List.length_nil]; omega, fun y hy => ?_⟩
  simp only [List.mem_append, List.mem_singleton] at hy
  rcases hy with (hy | hy) | hy
  · exact h.2 y (List.mem_of_mem_take hy)
  · exact ⟨x, hy, hx, trivial⟩
  · exact h.2 y (List.mem_of_mem_drop hy)
theorem hs_insert {B : List AV} {x v : Int} {k : Nat} : hs (B.take k ++ [.i .i64 x] ++ B.drop k) v = (hs B v || decide (x = v)) := by
  rw [Bool.eq_iff_iff, hs_mem, Bool.or_eq_true, hs_mem, decide_eq_true_eq]
  constructor
  · rintro ⟨y, hy, h⟩
    simp only [List.mem_append, List.mem_singleton] at hy
    rcases hy with (hy | hy) | hy
    · exact .inl ⟨y, List.mem_of_mem_take hy, h⟩
    · subst hy; exact .inr h
    · exact .inl ⟨y, List.mem_of_mem_drop hy, h⟩
  · rintro (⟨y, hy, h⟩ | h)
    · refine ⟨y, ?_, h⟩
      rw [← List.take_append_drop k B] at hy
      simp only [List.mem_append, List.mem_singleton] at hy ⊢
      exact hy.elim (fun h => .inl (.inl h)) .inr
    · exact ⟨.i .i64 x, by simp, h⟩
theorem av_same {B M L : List AV} {x : Int} {k : Nat} (hx : hs M x = true) : L.filter (okS (B.take k ++ [.i .i64 x] ++ B.drop k) M) = L.filter (okS B M) := by
  congr 1
  funext y
  unfold okS
  rw [hs_insert]
  by_cases h : x = (y.cells.getD 0 .x).toI
  · rw [← h, hx]; simp
  · rw [dF h, Bool.or_false]



/-! A valid table stays valid. -/
theorem okBt_p {d b p s : Int} {B M : List AV} (h : okBt d b p s B M = true) : p = 8 ∨ p = 16 := by
  unfold okBt at h
  simp only [Bool.and_eq_true, Bool.or_eq_true, decide_eq_true_eq] at h
  exact h.1.2.2
theorem okBt_mk {d b p s : Int} {B M : List AV} (hd : 2 ≤ d ∧ d ≤ 3) (hb : 4 ≤ b ∧ b ≤ 12) (hp : p = 8 ∨ p = 16) (hs1 : 1 ≤ s ∧ s ≤ 4 ∧ s < b - 1) (hB : ∀ i, i < B.length → inn (d * b - 1) B i = true ∧ snB B i = true) (hl : ((M.length : Nat) : Int) = d * (b - s))
    (hM : ∀ i, i < M.length → okRm b s B M i = true) : okBt d b p s B M = true := by
  unfold okBt
  simp only [Bool.and_eq_true, Bool.or_eq_true, decide_eq_true_eq, List.all_eq_true, List.mem_range'_1]
  exact ⟨⟨hd, hb, hp⟩, ⟨⟨hs1.1, hs1.2.1⟩, hs1.2.2⟩, fun i hi => hB i (by omega), hl, fun i hi => hM i (by omega)⟩
theorem ins_len {B : List AV} {el : AV} {k : Nat} (hk : k ≤ B.length) : (B.take k ++ [el] ++ B.drop k).length = B.length + 1 := by
  simp only [List.length_append, List.length_take, List.length_drop, List.length_cons, List.length_nil]; omega
theorem ins_at {B : List AV} {x : Int} {k : Nat} (hk : k ≤ B.length) (i : Nat) : iA (B.take k ++ [.i .i64 x] ++ B.drop k) i = if i < k then iA B i else if i = k then x else iA B (i - 1) := by
  have h1 : (B.take k).length = k := by rw [List.length_take]; omega
  have h2 : (B.take k ++ [AV.i .i64 x]).length = k + 1 := by rw [List.length_append, h1]; rfl
  unfold iA
  simp only [List.getD_eq_getElem?_getD]
  by_cases hi : i < k
  · rw [if_pos hi, List.getElem?_append_left (by rw [h2]; omega), List.getElem?_append_left (by rw [h1]; exact hi), List.getElem?_take, if_pos hi]
  rw [if_neg hi]
  by_cases hik : i = k
  · subst hik
    rw [if_pos rfl, List.getElem?_append_left (by rw [h2]; omega), List.getElem?_append_right (by rw [h1]; exact Nat.le_refl _), h1, Nat.sub_self]
    rfl
  · rw [if_neg hik, List.getElem?_append_right (by rw [h2]; omega), h2, List.getElem?_drop, show k + (i - (k + 1)) = i - 1 by omega]
theorem ins_rises {B : List AV} {U x : Int} {k : Nat} (h : ∀ i, i < B.length → inn U B i = true ∧ snB B i = true) (hk : Cut B x k) (hx : hs B x = false) (h0 : 0 ≤ x) (h1 : x ≤ U) :
    ∀ i, i < (B.take k ++ [AV.i .i64 x] ++ B.drop k).length → inn U (B.take k ++ [.i .i64 x] ++ B.drop k) i = true ∧ snB (B.take k ++ [.i .i64 x] ++ B.drop k) i = true := by
  intro i hi
  obtain ⟨k1, k2, k3⟩ := hk
  rw [ins_len k1] at hi
  have e := fun i => ins_at (x := x) k1 i
  generalize B.take k ++ [AV.i .i64 x] ++ B.drop k = B' at e ⊢
  have bd : ∀ i, i < B.length → 0 ≤ iA B i ∧ iA B i ≤ U := fun i hi => by
    have := (h i hi).1
    simp only [inn, Bool.and_eq_true, decide_eq_true_eq] at this
    exact this
  have up : ∀ i, i + 1 < B.length → iA B i < iA B (i + 1) := fun i hi => rising' (fun i hi => (h i hi).2) (by omega) hi
  have ne := hs_false.1 hx
  constructor
  · show (decide (0 ≤ iA B' i) && decide (iA B' i ≤ U)) = true
    rw [e, Bool.and_eq_true, decide_eq_true_eq, decide_eq_true_eq]
    split
    · exact bd i (by omega)
    split
    · exact ⟨h0, h1⟩
    · exact bd (i - 1) (by omega)
  · show (decide (i = 0) || !decide (iA B' i ≤ iA B' (i - 1))) = true
    by_cases hi0 : i = 0
    · simp [hi0]
    obtain ⟨m, rfl⟩ : ∃ m, i = m + 1 := ⟨i - 1, by omega⟩
    have key : iA B' m < iA B' (m + 1) := by
      rw [e, e]
      by_cases c1 : m + 1 < k
      · rw [if_pos (by omega), if_pos c1]; exact up m (by omega)
      by_cases c2 : m + 1 = k
      · rw [if_pos (by omega), if_neg c1, if_pos c2]; exact k2 m (by omega)
      rw [if_neg (by omega), if_neg c1, if_neg c2]
      by_cases c3 : m = k
      · rw [if_pos c3, Nat.add_sub_cancel]
        have g1 := k3 m (by omega) (by omega)
        have g2 := ne m (by omega)
        omega
      · rw [if_neg c3, Nat.add_sub_cancel]
        have := up (m - 1) (by omega)
        rwa [show m - 1 + 1 = m by omega] at this
    rw [Nat.add_sub_cancel, dF (show ¬ iA B' (m + 1) ≤ iA B' m by omega)]
    simp
/-- A place as it is told. -/
theorem okRm_iff {b s : Int} {B M : List AV} {i : Nat} : okRm b s B M i = true ↔ hs B (iA M i) = false ∧ hs (M.take i) (iA M i) = false ∧ (iA M i = hmB b s i ∨ ((hmB b s i).tdiv b * b + (b - s) ≤ iA M i ∧ iA M i < (hmB b s i).tdiv b * b + b) ∧ hs B (hmB b s i) = true) := by
  unfold okRm
  simp only [Bool.and_eq_true, Bool.or_eq_true, Bool.not_eq_true', decide_eq_true_eq]
theorem take_iA {M : List AV} {a c : Nat} (h : a < c) : iA (M.take c) a = iA M a := by
  unfold iA
  simp only [List.getD_eq_getElem?_getD, List.getElem?_take, if_pos h]
theorem rm_apart {b s : Int} {B M : List AV} (h : ∀ i, i < M.length → okRm b s B M i = true) {a c : Nat} (hac : a < c) (hc : c < M.length) : iA M a ≠ iA M c := fun e => by
  have h5 := hs_false.1 (okRm_iff.1 (h c hc)).2.1 a (by rw [List.length_take]; omega)
  exact h5 (by rw [take_iA hac]; exact e)
theorem rm_inj {b s : Int} {B M : List AV} (h : ∀ i, i < M.length → okRm b s B M i = true) {a c : Nat} (ha : a < M.length) (hc : c < M.length) (e : iA M a = iA M c) : a = c := by
  rcases Nat.lt_trichotomy a c with h1 | h1 | h1
  · exact absurd e (rm_apart h h1 hc)
  · exact h1
  · exact absurd e.symm (rm_apart h h1 ha)
theorem keep1 {d b p s x : Int} {B M : List AV} {k : Nat} (h : okBt d b p s B M = true) (hk : Cut B x k) (hx : hs B x = false) (h0 : 0 ≤ x) (h1 : x ≤ d * b - 1) (hn : ∀ i, i < M.length → iA M i ≠ x) :
    okBt d b p s (B.take k ++ [.i .i64 x] ++ B.drop k) M = true := by
  obtain ⟨hd, hb, hs1, hBi, hMn, hM40, hMo⟩ := okBt_bd h
  refine okBt_mk hd hb (okBt_p h) hs1 (ins_rises hBi hk hx h0 h1) hMn fun i hi => ?_
  obtain ⟨g1, g2, g3⟩ := okRm_iff.1 (hMo i hi)
  refine okRm_iff.2 ⟨?_, g2, ?_⟩
  · rw [hs_insert, g1, Bool.false_or]; exact dF (Ne.symm (hn i hi))
  · rcases g3 with g3 | ⟨g3, g4⟩
    · exact .inl g3
    · exact .inr ⟨g3, by rw [hs_insert, g4]; rfl⟩
theorem set_iA {M : List AV} {j i : Nat} {v : Int} (hj : j < M.length) : iA (M.set j (.i .i64 v)) i = if i = j then v else iA M i := by
  unfold iA
  simp only [List.getD_eq_getElem?_getD, List.getElem?_set]
  by_cases h : i = j
  · subst h; simp [hj]; rfl
  · rw [if_neg h, if_neg (Ne.symm h)]
theorem die_of {b q x : Int} (hb : 0 < b) (hq : 0 ≤ q) (h1 : q * b ≤ x) (h2 : x < q * b + b) : x.tdiv b = q := by
  have h0 : 0 ≤ q * b := Int.mul_nonneg hq (by omega)
  rw [Int.tdiv_eq_ediv_of_nonneg (by omega)]
  refine Int.le_antisymm ?_ ?_
  · have : x / b < q + 1 := Int.ediv_lt_of_lt_mul hb (by rw [Int.add_mul, Int.one_mul]; exact h2)
    omega
  · exact Int.le_ediv_of_mul_le hb h1
theorem keep2 {d b p s x v : Int} {B M : List AV} {k j : Nat} (h : okBt d b p s B M = true) (hk : Cut B x k) (hx : hs B x = false) (h0 : 0 ≤ x) (h1 : x ≤ d * b - 1) (hj : j < M.length) (hjx : iA M j = x) (hvB : hs B v = false) (hvM : hs M v = false)
    (hv1 : x.tdiv b * b + (b - s) ≤ v) (hv2 : v < x.tdiv b * b + b) : okBt d b p s (B.take k ++ [.i .i64 x] ++ B.drop k) (M.set j (.i .i64 v)) = true := by
  obtain ⟨hd, hb, hs1, hBi, hMn, hM40, hMo⟩ := okBt_bd h
  have nv := hs_false.1 hvM
  refine okBt_mk hd hb (okBt_p h) hs1 (ins_rises hBi hk hx h0 h1) (by rw [List.length_set]; exact hMn) fun i hi => ?_
  rw [List.length_set] at hi
  obtain ⟨g1, g2, g3⟩ := okRm_iff.1 (hMo i hi)
  refine okRm_iff.2 ?_
  rw [set_iA hj]
  by_cases hij : i = j
  · subst hij
    rw [if_pos rfl]
    refine ⟨?_, ?_, ?_⟩
    · rw [hs_insert, hvB, Bool.false_or]; exact dF fun e => nv i hi (hjx.trans e)
    · refine hs_false.2 fun a ha => ?_
      rw [List.length_take, List.length_set] at ha
      rw [take_iA (by omega), set_iA hi, if_neg (by omega)]
      exact nv a (by omega)
    · have hhm := (hmB_bd (show i ≤ 40 by omega) hb hs1).2.2.2
      have t0 : 0 ≤ (hmB b s i).tdiv b := Int.tdiv_nonneg (by omega) (by omega)
      right
      rw [hjx] at g3
      rcases g3 with g3 | ⟨g3, g4⟩
      · rw [← g3]
        exact ⟨⟨hv1, hv2⟩, by rw [hs_insert, dT rfl, Bool.or_true]⟩
      · have := die_of (x := x) (by omega) t0 (by omega) g3.2
        rw [this] at hv1 hv2
        exact ⟨⟨hv1, hv2⟩, by rw [hs_insert, g4]; rfl⟩
  · rw [if_neg hij]
    have hne : iA M i ≠ x := fun e => hij (rm_inj hMo hi hj (e.trans hjx.symm))
    refine ⟨by rw [hs_insert, g1, Bool.false_or]; exact dF (Ne.symm hne), ?_, ?_⟩
    · refine hs_false.2 fun a ha => ?_
      rw [List.length_take, List.length_set] at ha
      rw [take_iA (by omega), set_iA hj]
      split
      · exact fun e => nv i hi e.symm
      · have := hs_false.1 g2 a (by rw [List.length_take]; omega)
        rwa [take_iA (by omega)] at this
    · rcases g3 with g3 | ⟨g3, g4⟩
      · exact .inl g3
      · exact .inr ⟨g3, by rw [hs_insert, g4]; rfl⟩
/-- Where a place leads. -/
theorem rm_die {d b p s : Int} {B M : List AV} (h : okBt d b p s B M = true) {i : Nat} (hi : i < M.length) : 0 ≤ iA M i ∧ iA M i ≤ d * b - 1 ∧ (iA M i).tdiv b = (i : Int).tdiv (b - s) ∧ 0 ≤ (i : Int).tdiv (b - s) ∧ (i : Int).tdiv (b - s) ≤ 40 := by
  obtain ⟨hd, hb, hs1, hBi, hMn, hM40, hMo⟩ := okBt_bd h
  obtain ⟨m0, m1, m2, m3, m4⟩ := hmB_bd (show i ≤ 40 by omega) hb hs1
  have m5 := Int.tmod_lt_of_pos (i : Int) (show 0 < b - s by omega)
  have hq : (i : Int).tdiv (b - s) < d := by
    rw [Int.tdiv_eq_ediv_of_nonneg (by omega)]
    exact Int.ediv_lt_of_lt_mul (by omega) (by omega)
  have hqb : ((i : Int).tdiv (b - s) + 1) * b ≤ d * b := Int.mul_le_mul_of_nonneg_right (by omega) (by omega)
  rw [Int.add_mul, Int.one_mul] at hqb
  have hm : (hmB b s i).tdiv b = (i : Int).tdiv (b - s) := die_of (by omega) m0.1 (by unfold hmB; omega) (by unfold hmB; omega)
  obtain ⟨_, _, g3⟩ := okRm_iff.1 (hMo i hi)
  rcases g3 with g3 | ⟨g3, _⟩
  · rw [g3]
    refine ⟨m3, ?_, hm, m0.1, m0.2⟩
    unfold hmB; omega
  · rw [hm] at g3
    exact ⟨by omega, by omega, die_of (by omega) m0.1 (by omega) g3.2, m0.1, m0.2⟩


/-- The spares that are left, as the program finds them. -/
theorem impl_avail2 (d b p s : Int) {B M : List AV} (hB : Rw (T2 1048576) 1048576 B) (hM : Rw (T2 1048576) 1048576 M) (die : Int) (h0 : 0 ≤ die) (h1 : die ≤ 1000) (hb : 4 ≤ b ∧ b ≤ 12) (hs1 : 1 ≤ s ∧ s ≤ 4 ∧ s < b - 1) :
    ∃ r : List AV, dno E 53 [bt d b p s B M, (.i .i64 die)] [] = some (.sl 0 [] (some (0, ((mkL s.toNat fun k => (.i .i64 (die * b + (b - s + (k : Int))) : AV)).filter (okS B M)).length)), [.live true false false 2 r]) ∧
      flatVL r = true ∧ ((mkL s.toNat fun k => (.i .i64 (die * b + (b - s + (k : Int))) : AV)).filter (okS B M)).length ≤ r.length ∧ r.take ((mkL s.toNat fun k => (.i .i64 (die * b + (b - s + (k : Int))) : AV)).filter (okS B M)).length = (mkL s.toNat fun k => (.i .i64 (die * b + (b - s + (k : Int))) : AV)).filter (okS B M) := by
  obtain ⟨m1, m2⟩ := mul_le2 h0 h1 (show (0 : Int) ≤ b by omega) hb.2
  have ht := t2_mkL (n := s.toNat) (by omega) (g := fun k => die * b + (b - s + (k : Int))) (fun i hi => ⟨by omega, by omega⟩)
  have e1 := impl_spares d b p s B M die h0 h1 hb hs1
  obtain ⟨r, e2, e3, e4, e5⟩ := impl_av d b p s hB hM _ ht.1 ht.2
  have fl : flatVL (mkL s.toNat fun k => (.i .i64 (die * b + (b - s + (k : Int))) : AV)) = true := t2_flat ht
  unfold bt at e1 e2 ⊢
  have hle : ((mkL s.toNat fun k => (.i .i64 (die * b + (b - s + (k : Int))) : AV)).filter (okS B M)).length ≤ r.length := by rw [e3]; exact List.length_filter_le _ _
  refine ⟨r, ?_, e4, hle, e5⟩
  rw [f53o1_eq, e1]
  simp only [e2, e3, e4, bOwn_some, bOwnF_some, bOwnS_some, bOwnFS_some, okRs_nil, okRs_cons, okR_row, okR_same, okR_var, okR_gone, okS_so, okS_pr, okS_po, okLens_nil, okLens_same, okLens_row, okLens_var, row_live, flatR_live, flatL_nil, flatL_cons, flat_i, flat_b, flat_s, flat_sl, flat_agg, flat_tup, List.all_cons, List.all_nil, List.length_cons, List.length_nil, Nat.reduceLeDiff, Nat.le_refl, decide_true, Bool.and_self, mkL_length, List.headD_cons, okC_nil, okC_agg, okC_i, okC_b, okC_s, okC_imm, okL_i, okL_b, okL_s, okL_sl, okS_i, okS_b, okS_s, okS_sl, okS_agg, okS_tup, okS_nil, okS_cons, cells_agg, cells_i, cells_b, cells_s, cells_imm, toI_i, toB_b, toS_s, toL_imm, nth_agg, nth_tup, put_agg, put_i, put_b, put_s, put_imm, setCells, List.getD_cons_zero, List.getD_cons_succ, bSh_b, bSh_i, bSh_s, bSh_sl, bSh_some, cond_true, cond_false, decide_true, decide_false, Int.toNat_natCast, Nat.zero_add, Nat.reduceAdd, beq_self_eq_true, Bool.and_true, Bool.true_and, if_true, Bool.false_eq_true, if_false, List.set_cons_zero, List.set_cons_succ, Bool.not_true, Bool.not_false, Bool.and_self]
  rfl

theorem retires2 {d b p s : Int} {B M : List AV} (v0 : W64 d) (v1 : W64 b) (v2 : W64 p) (v3 : W64 s) (hB : Rw (T2 1048576) 1048576 B) (hM : Rw (T2 1048576) 1048576 M) (x : Int) (hx : W64 x) :
    ∃ (d1 b1 p1 s1 k : Int) (r0 r1 : List AV), W64 d1 ∧ W64 b1 ∧ W64 p1 ∧ W64 s1 ∧ Rw (T2 1048576) 1048576 r0 ∧ Rw (T2 1048576) 1048576 r1 ∧ (k = 0 → d1 = d ∧ b1 = b ∧ p1 = p ∧ s1 = s ∧ okBt d b p s r0 r1 = true) ∧
      dno E 19 [bt d b p s B M, (.i .i64 x)] [] = some (.tup [btR d1 b1 p1 s1, (.i .i64 k)], [(.live true false false 2 r0), (.live true false false 2 r1)]) ∧
      dno E 18 [bt d b p s B M, (.i .i64 x)] [] = some (.tup [btR d1 b1 p1 s1, (.i .i64 k)], [(.live true false false 2 r0), (.live true false false 2 r1)]) := by
  have z64 : W64 0 := by constructor <;> omega
  have nil2 : Rw (T2 1048576) 1048576 [] := ⟨by simp, fun y hy => by cases hy⟩
  have e0 := spec_valid (p := p) v0 v1 v3 hB hM
  have e1 := impl_valid (p := p) v0 v1 v3 hB hM
  have e2 := fun x => is_bad d b p s M hB x
  have own1 := own_spec hB.1
  have own2 := own_spec hM.1
  have hBl := hB.1
  have hMl := hM.1
  have hold := spec_holder d b p s B hM x
  have idx := idx_loop hM x
  have avI := fun die h0 h1 hb hs1 => impl_avail2 d b p s hB hM die h0 h1 hb hs1
  have avS := fun B' (hB' : Rw (T2 1048576) 1048576 B') die h0 h1 hb hs1 => spec_av d b p s hB' hM die h0 h1 hb hs1
  have clone : dno E 103 [bt d b p s B M] [] = some (btR d b p s, [(.live true false false 2 B), (.live true false false 2 M)]) := by
    unfold bt btR
    rw [f103o1_eq, f49_eq, f49_eq, if_pos ⟨rfl, by simp only [room]; omega⟩, if_pos ⟨rfl, by simp only [room]; omega⟩]
    simp only [bOwn_some, bOwnF_some, bOwnS_some, bOwnFS_some, okRs_nil, okRs_cons, okR_row, okR_same, okR_var, okR_gone, okS_so, okS_pr, okS_po, okLens_nil, okLens_same, okLens_row, okLens_var, row_live, flatR_live, flatL_nil, flatL_cons, flat_i, flat_b, flat_s, flat_sl, flat_agg, flat_tup, List.all_cons, List.all_nil, List.length_cons, List.length_nil, Nat.reduceLeDiff, Nat.le_refl, decide_true, Bool.and_self, mkL_length, List.headD_cons, okC_nil, okC_agg, okC_i, okC_b, okC_s, okC_imm, okL_i, okL_b, okL_s, okL_sl, okS_i, okS_b, okS_s, okS_sl, okS_agg, okS_tup, okS_nil, okS_cons, cells_agg, cells_i, cells_b, cells_s, cells_imm, toI_i, toB_b, toS_s, toL_imm, nth_agg, nth_tup, put_agg, put_i, put_b, put_s, put_imm, setCells, List.getD_cons_zero, List.getD_cons_succ, bSh_b, bSh_i, bSh_s, bSh_sl, bSh_some, cond_true, cond_false, decide_true, decide_false, Int.toNat_natCast, Nat.zero_add, Nat.reduceAdd, beq_self_eq_true, Bool.and_true, Bool.true_and, if_true, Bool.false_eq_true, if_false, List.set_cons_zero, List.set_cons_succ, Bool.not_true, Bool.not_false, Bool.and_self]
  unfold bt btR at *
  rw [f19o1_eq, f18o1_eq, e0, e1]
  simp only [bOwn_some, bOwnF_some, bOwnS_some, bOwnFS_some, okRs_nil, okRs_cons, okR_row, okR_same, okR_var, okR_gone, okS_so, okS_pr, okS_po, okLens_nil, okLens_same, okLens_row, okLens_var, row_live, flatR_live, flatL_nil, flatL_cons, flat_i, flat_b, flat_s, flat_sl, flat_agg, flat_tup, List.all_cons, List.all_nil, List.length_cons, List.length_nil, Nat.reduceLeDiff, Nat.le_refl, decide_true, Bool.and_self, mkL_length, List.headD_cons, okC_nil, okC_agg, okC_i, okC_b, okC_s, okC_imm, okL_i, okL_b, okL_s, okL_sl, okS_i, okS_b, okS_s, okS_sl, okS_agg, okS_tup, okS_nil, okS_cons, cells_agg, cells_i, cells_b, cells_s, cells_imm, toI_i, toB_b, toS_s, toL_imm, nth_agg, nth_tup, put_agg, put_i, put_b, put_s, put_imm, setCells, List.getD_cons_zero, List.getD_cons_succ, bSh_b, bSh_i, bSh_s, bSh_sl, bSh_some, cond_true, cond_false, decide_true, decide_false, Int.toNat_natCast, Nat.zero_add, Nat.reduceAdd, beq_self_eq_true, Bool.and_true, Bool.true_and, if_true, Bool.false_eq_true, if_false, List.set_cons_zero, List.set_cons_succ, Bool.not_true, Bool.not_false, Bool.and_self]
  cases hok : okBt d b p s B M
  · exact ⟨0, 0, 0, 0, 1, [], [], z64, z64, z64, z64, nil2, nil2, fun h => absurd h (by decide), rfl, rfl⟩
  obtain ⟨hd, hb, hs1, hBi, hMn, hM40, hMo⟩ := okBt_bd hok
  obtain ⟨k1, k2⟩ := mul_le2 (show (0 : Int) ≤ d by omega) hd.2 (show (0 : Int) ≤ b by omega) hb.2
  have hl40 := rising_len (U := d * b - 1) (by omega) hBi
  simp only [f58_eq, f55_eq, in90, in72, w64 (x := d * b) (by omega) (by omega), w64 (x := d * b - 1) (by omega) (by omega), bOwn_some, bOwnF_some, bOwnS_some, bOwnFS_some, okRs_nil, okRs_cons, okR_row, okR_same, okR_var, okR_gone, okS_so, okS_pr, okS_po, okLens_nil, okLens_same, okLens_row, okLens_var, row_live, flatR_live, flatL_nil, flatL_cons, flat_i, flat_b, flat_s, flat_sl, flat_agg, flat_tup, List.all_cons, List.all_nil, List.length_cons, List.length_nil, Nat.reduceLeDiff, Nat.le_refl, decide_true, Bool.and_self, mkL_length, List.headD_cons, okC_nil, okC_agg, okC_i, okC_b, okC_s, okC_imm, okL_i, okL_b, okL_s, okL_sl, okS_i, okS_b, okS_s, okS_sl, okS_agg, okS_tup, okS_nil, okS_cons, cells_agg, cells_i, cells_b, cells_s, cells_imm, toI_i, toB_b, toS_s, toL_imm, nth_agg, nth_tup, put_agg, put_i, put_b, put_s, put_imm, setCells, List.getD_cons_zero, List.getD_cons_succ, bSh_b, bSh_i, bSh_s, bSh_sl, bSh_some, cond_true, cond_false, decide_true, decide_false, Int.toNat_natCast, Nat.zero_add, Nat.reduceAdd, beq_self_eq_true, Bool.and_true, Bool.true_and, if_true, Bool.false_eq_true, if_false, List.set_cons_zero, List.set_cons_succ, Bool.not_true, Bool.not_false, Bool.and_self]
  cases hrg : (decide (0 ≤ x) && decide (x ≤ d * b - 1))
  · exact ⟨0, 0, 0, 0, 2, [], [], z64, z64, z64, z64, nil2, nil2, fun h => absurd h (by decide), rfl, rfl⟩
  simp only [Bool.and_eq_true, decide_eq_true_eq] at hrg
  rw [f56o1_eq, e2, spec_has hB]
  simp only [bOwn_some, bOwnF_some, bOwnS_some, bOwnFS_some, okRs_nil, okRs_cons, okR_row, okR_same, okR_var, okR_gone, okS_so, okS_pr, okS_po, okLens_nil, okLens_same, okLens_row, okLens_var, row_live, flatR_live, flatL_nil, flatL_cons, flat_i, flat_b, flat_s, flat_sl, flat_agg, flat_tup, List.all_cons, List.all_nil, List.length_cons, List.length_nil, Nat.reduceLeDiff, Nat.le_refl, decide_true, Bool.and_self, mkL_length, List.headD_cons, okC_nil, okC_agg, okC_i, okC_b, okC_s, okC_imm, okL_i, okL_b, okL_s, okL_sl, okS_i, okS_b, okS_s, okS_sl, okS_agg, okS_tup, okS_nil, okS_cons, cells_agg, cells_i, cells_b, cells_s, cells_imm, toI_i, toB_b, toS_s, toL_imm, nth_agg, nth_tup, put_agg, put_i, put_b, put_s, put_imm, setCells, List.getD_cons_zero, List.getD_cons_succ, bSh_b, bSh_i, bSh_s, bSh_sl, bSh_some, cond_true, cond_false, decide_true, decide_false, Int.toNat_natCast, Nat.zero_add, Nat.reduceAdd, beq_self_eq_true, Bool.and_true, Bool.true_and, if_true, Bool.false_eq_true, if_false, List.set_cons_zero, List.set_cons_succ, Bool.not_true, Bool.not_false, Bool.and_self]
  cases hbad : hs B x
  rotate_left
  · exact ⟨0, 0, 0, 0, 5, [], [], z64, z64, z64, z64, nil2, nil2, fun h => absurd h (by decide), rfl, rfl⟩
  obtain ⟨k, f, hbs, hk⟩ := bin_search hB (fun i hi => (hBi i hi).2) x
  have hput := spec_put hB hk hbad
  have hrow := t2_insert (k := k) hB (by omega) hx
  have hins : dno E 105 [(.sl 0 [] none), (.i .i64 (k : Int)), (.sl 1 [] none)] [(.live true false false 2 B), (.live true false false 2 [(.i .i64 x)])] = some (.sl 0 [] none, [.live true false false 2 (B.take k ++ [.i .i64 x] ++ B.drop k), .live true false false 2 [.i .i64 x]]) := by
    have hkl := hk.1
    rw [f105_eq, if_pos ⟨⟨rfl, rfl⟩, ⟨by omega, by omega⟩, by simp only [room]; omega⟩, Int.toNat_natCast]
  have hf1 := t2_flat hrow
  have hf2 := t2_flat hM
  have hf0 := t2_flat hB
  have j1 : ∀ r3, f56o1_j1 x d b p s B M [] [] 0 0 0 0 B r3 [] [] d b p s = some (.tup [(.agg [(.i .i64 d), (.i .i64 b), (.i .i64 p), (.i .i64 s), (.sl 0 [] none), (.sl 1 [] none)]), (.i .i64 0)], [(.live true false false 2 (B.take k ++ [.i .i64 x] ++ B.drop k)), (.live true false false 2 r3)]) := fun r3 => by
    rw [f56o1_j1_eq, hbs]
    simp only [hins, bOwn_some, bOwnF_some, bOwnS_some, bOwnFS_some, okRs_nil, okRs_cons, okR_row, okR_same, okR_var, okR_gone, okS_so, okS_pr, okS_po, okLens_nil, okLens_same, okLens_row, okLens_var, row_live, flatR_live, flatL_nil, flatL_cons, flat_i, flat_b, flat_s, flat_sl, flat_agg, flat_tup, List.all_cons, List.all_nil, List.length_cons, List.length_nil, Nat.reduceLeDiff, Nat.le_refl, decide_true, Bool.and_self, mkL_length, List.headD_cons, okC_nil, okC_agg, okC_i, okC_b, okC_s, okC_imm, okL_i, okL_b, okL_s, okL_sl, okS_i, okS_b, okS_s, okS_sl, okS_agg, okS_tup, okS_nil, okS_cons, cells_agg, cells_i, cells_b, cells_s, cells_imm, toI_i, toB_b, toS_s, toL_imm, nth_agg, nth_tup, put_agg, put_i, put_b, put_s, put_imm, setCells, List.getD_cons_zero, List.getD_cons_succ, bSh_b, bSh_i, bSh_s, bSh_sl, bSh_some, cond_true, cond_false, decide_true, decide_false, Int.toNat_natCast, Nat.zero_add, Nat.reduceAdd, beq_self_eq_true, Bool.and_true, Bool.true_and, if_true, Bool.false_eq_true, if_false, List.set_cons_zero, List.set_cons_succ, Bool.not_true, Bool.not_false, Bool.and_self]
  simp only [f60o1_eq, own1, own2, hput, clone, hf1, hf2, hf0, bOwn_some, bOwnF_some, bOwnS_some, bOwnFS_some, okRs_nil, okRs_cons, okR_row, okR_same, okR_var, okR_gone, okS_so, okS_pr, okS_po, okLens_nil, okLens_same, okLens_row, okLens_var, row_live, flatR_live, flatL_nil, flatL_cons, flat_i, flat_b, flat_s, flat_sl, flat_agg, flat_tup, List.all_cons, List.all_nil, List.length_cons, List.length_nil, Nat.reduceLeDiff, Nat.le_refl, decide_true, Bool.and_self, mkL_length, List.headD_cons, okC_nil, okC_agg, okC_i, okC_b, okC_s, okC_imm, okL_i, okL_b, okL_s, okL_sl, okS_i, okS_b, okS_s, okS_sl, okS_agg, okS_tup, okS_nil, okS_cons, cells_agg, cells_i, cells_b, cells_s, cells_imm, toI_i, toB_b, toS_s, toL_imm, nth_agg, nth_tup, put_agg, put_i, put_b, put_s, put_imm, setCells, List.getD_cons_zero, List.getD_cons_succ, bSh_b, bSh_i, bSh_s, bSh_sl, bSh_some, cond_true, cond_false, decide_true, decide_false, Int.toNat_natCast, Nat.zero_add, Nat.reduceAdd, beq_self_eq_true, Bool.and_true, Bool.true_and, if_true, Bool.false_eq_true, if_false, List.set_cons_zero, List.set_cons_succ, Bool.not_true, Bool.not_false, Bool.and_self]
  rcases idx with ⟨i1, i2⟩ | ⟨j, hj, i1, i2⟩
  · rcases hold with ⟨o1, _⟩ | ⟨j', hj', _, o2⟩
    rotate_left
    · exact absurd o2 (i2 j' hj')
    have n1 : (-1 : Int) < 0 := by decide
    have n2 : ¬ (0 : Int) ≤ -1 := by decide
    simp only [o1, i1, n1, n2, j1, bOwn_some, bOwnF_some, bOwnS_some, bOwnFS_some, okRs_nil, okRs_cons, okR_row, okR_same, okR_var, okR_gone, okS_so, okS_pr, okS_po, okLens_nil, okLens_same, okLens_row, okLens_var, row_live, flatR_live, flatL_nil, flatL_cons, flat_i, flat_b, flat_s, flat_sl, flat_agg, flat_tup, List.all_cons, List.all_nil, List.length_cons, List.length_nil, Nat.reduceLeDiff, Nat.le_refl, decide_true, Bool.and_self, mkL_length, List.headD_cons, okC_nil, okC_agg, okC_i, okC_b, okC_s, okC_imm, okL_i, okL_b, okL_s, okL_sl, okS_i, okS_b, okS_s, okS_sl, okS_agg, okS_tup, okS_nil, okS_cons, cells_agg, cells_i, cells_b, cells_s, cells_imm, toI_i, toB_b, toS_s, toL_imm, nth_agg, nth_tup, put_agg, put_i, put_b, put_s, put_imm, setCells, List.getD_cons_zero, List.getD_cons_succ, bSh_b, bSh_i, bSh_s, bSh_sl, bSh_some, cond_true, cond_false, decide_true, decide_false, Int.toNat_natCast, Nat.zero_add, Nat.reduceAdd, beq_self_eq_true, Bool.and_true, Bool.true_and, if_true, Bool.false_eq_true, if_false, List.set_cons_zero, List.set_cons_succ, Bool.not_true, Bool.not_false, Bool.and_self]
    exact ⟨d, b, p, s, 0, _, M, v0, v1, v2, v3, hrow, hM, fun _ => ⟨rfl, rfl, rfl, rfl, keep1 hok hk hbad hrg.1 hrg.2 i2⟩, rfl, rfl⟩
  · rcases hold with ⟨_, o2⟩ | ⟨j', hj', o1, o2⟩
    · exact absurd i2 (o2 j hj)
    have hjj : j' = j := by
      have distinct : ∀ a c, a < c → c < M.length → iA M a = x → iA M c = x → False := fun a c h1 h2 h3 h4 => by
        have := hMo c h2
        unfold okRm at this
        simp only [Bool.and_eq_true, Bool.not_eq_true'] at this
        have h5 := hs_false.1 this.2.1 a (by rw [List.length_take]; omega)
        apply h5
        rw [h4, ← h3]
        have h6 : (M.take c).getD a .x = M.getD a .x := by simp only [List.getD_eq_getElem?_getD, List.getElem?_take, if_pos h1]
        unfold iA
        rw [h6]
      rcases Nat.lt_trichotomy j' j with h | h | h
      · exact (distinct j' j h hj o2 i2).elim
      · exact h
      · exact (distinct j j' h hj' i2 o2).elim
    subst hjj
    have hMx : hs M x = true := hs_iff.2 ⟨j', hj, i2⟩
    have t0 : 0 ≤ x.tdiv b := Int.tdiv_nonneg (by omega) (by omega)
    have t1 : x.tdiv b ≤ 1000 := by have := Int.tdiv_le_self b hrg.1; omega
    have a1 := avS _ hrow _ t0 t1 hb hs1
    obtain ⟨ra, a2, ra1, ra2, ra3⟩ := avI _ t0 t1 hb hs1
    rw [av_same hMx] at a1
    have ht := t2_mkL (n := s.toNat) (by omega) (g := fun k => x.tdiv b * b + (b - s + (k : Int))) (fun i hi => by
      obtain ⟨m1, m2⟩ := mul_le2 t0 t1 (show (0 : Int) ≤ b by omega) hb.2
      exact ⟨by omega, by omega⟩)
    obtain ⟨L, hL⟩ : ∃ L, L = (mkL s.toNat fun k => (.i .i64 (x.tdiv b * b + (b - s + (k : Int))) : AV)).filter (okS B M) := ⟨_, rfl⟩
    rw [← hL] at a1 a2 ra2 ra3
    have hLt : ∀ y, y ∈ L → T2 1048576 y := fun y hy => ht.2 y (by rw [hL] at hy; exact (List.mem_filter.1 hy).1)
    have hLf : flatVL L = true := flatVL_of fun y hy => by obtain ⟨_, rfl, _⟩ := hLt y hy; rfl
    have nb : ¬ b = 0 := by omega
    have nj : ¬ (j' : Int) < 0 := by omega
    have nj2 : (0 : Int) ≤ (j' : Int) := by omega
    simp only [o1, i1, nb, nj, nj2, w64 (x := x.tdiv b) (by omega) (by omega), a1, a2, ra1, hLf, AV.off, AV.cnt, bOwn_some, bOwnF_some, bOwnS_some, bOwnFS_some, okRs_nil, okRs_cons, okR_row, okR_same, okR_var, okR_gone, okS_so, okS_pr, okS_po, okLens_nil, okLens_same, okLens_row, okLens_var, row_live, flatR_live, flatL_nil, flatL_cons, flat_i, flat_b, flat_s, flat_sl, flat_agg, flat_tup, List.all_cons, List.all_nil, List.length_cons, List.length_nil, Nat.reduceLeDiff, Nat.le_refl, decide_true, Bool.and_self, mkL_length, List.headD_cons, okC_nil, okC_agg, okC_i, okC_b, okC_s, okC_imm, okL_i, okL_b, okL_s, okL_sl, okS_i, okS_b, okS_s, okS_sl, okS_agg, okS_tup, okS_nil, okS_cons, cells_agg, cells_i, cells_b, cells_s, cells_imm, toI_i, toB_b, toS_s, toL_imm, nth_agg, nth_tup, put_agg, put_i, put_b, put_s, put_imm, setCells, List.getD_cons_zero, List.getD_cons_succ, bSh_b, bSh_i, bSh_s, bSh_sl, bSh_some, cond_true, cond_false, decide_true, decide_false, Int.toNat_natCast, Nat.zero_add, Nat.reduceAdd, beq_self_eq_true, Bool.and_true, Bool.true_and, if_true, Bool.false_eq_true, if_false, List.set_cons_zero, List.set_cons_succ, Bool.not_true, Bool.not_false, Bool.and_self]
    by_cases h0 : ((L.length : Nat) : Int) = 0
    · simp only [h0, bOwn_some, bOwnF_some, bOwnS_some, bOwnFS_some, okRs_nil, okRs_cons, okR_row, okR_same, okR_var, okR_gone, okS_so, okS_pr, okS_po, okLens_nil, okLens_same, okLens_row, okLens_var, row_live, flatR_live, flatL_nil, flatL_cons, flat_i, flat_b, flat_s, flat_sl, flat_agg, flat_tup, List.all_cons, List.all_nil, List.length_cons, List.length_nil, Nat.reduceLeDiff, Nat.le_refl, decide_true, Bool.and_self, mkL_length, List.headD_cons, okC_nil, okC_agg, okC_i, okC_b, okC_s, okC_imm, okL_i, okL_b, okL_s, okL_sl, okS_i, okS_b, okS_s, okS_sl, okS_agg, okS_tup, okS_nil, okS_cons, cells_agg, cells_i, cells_b, cells_s, cells_imm, toI_i, toB_b, toS_s, toL_imm, nth_agg, nth_tup, put_agg, put_i, put_b, put_s, put_imm, setCells, List.getD_cons_zero, List.getD_cons_succ, bSh_b, bSh_i, bSh_s, bSh_sl, bSh_some, cond_true, cond_false, decide_true, decide_false, Int.toNat_natCast, Nat.zero_add, Nat.reduceAdd, beq_self_eq_true, Bool.and_true, Bool.true_and, if_true, Bool.false_eq_true, if_false, List.set_cons_zero, List.set_cons_succ, Bool.not_true, Bool.not_false, Bool.and_self]
      exact ⟨0, 0, 0, 0, 4, [], [], z64, z64, z64, z64, nil2, nil2, fun h => absurd h (by decide), rfl, rfl⟩
    have hL0 : 0 < L.length := by omega
    have hT := hLt _ (getD_mem hL0)
    have g1 : (0 : Int) ≤ 0 ∧ (0 : Int) < ((L.length : Nat) : Int) := ⟨by omega, by omega⟩
    have g2 : (0 : Int) ≤ (j' : Int) ∧ (j' : Int) < ((M.length : Nat) : Int) := ⟨by omega, by omega⟩
    have hTM := hM.at hj
    have hr0 : ra.getD (0 + 0) .x = L.getD 0 .x := by
      rw [← ra3]
      simp only [List.getD_eq_getElem?_getD, List.getElem?_take, if_pos hL0, Nat.add_zero]
    obtain ⟨v, hv, hvw⟩ : ∃ v, L.getD 0 .x = .i .i64 v ∧ W64 v := by
      obtain ⟨v, h1, h2, _⟩ := hT
      exact ⟨v, h1, h2⟩
    have hvL : L.getD 0 .x ∈ L := getD_mem hL0
    have hvf : okS B M (.i .i64 v) = true := by
      rw [hv] at hvL
      have h1 : AV.i .i64 v ∈ (mkL s.toNat fun k => (.i .i64 (x.tdiv b * b + (b - s + (k : Int))) : AV)).filter (okS B M) := by rw [← hL]; exact hvL
      exact (List.mem_filter.1 h1).2
    have hvr : x.tdiv b * b + (b - s) ≤ v ∧ v < x.tdiv b * b + b := by
      rw [hv] at hvL
      have h1 : AV.i .i64 v ∈ (mkL s.toNat fun k => (.i .i64 (x.tdiv b * b + (b - s + (k : Int))) : AV)).filter (okS B M) := by rw [← hL]; exact hvL
      obtain ⟨i, hi, he⟩ := List.mem_map.1 (List.mem_filter.1 h1).1
      have := List.mem_range.1 hi
      cases he
      omega
    simp only [okS, Bool.and_eq_true, Bool.not_eq_true', cells_i, List.getD_cons_zero, toI_i] at hvf
    simp only [h0, g1, g2, show (0 : Int).toNat = 0 from rfl, hr0, hv, Nat.zero_add, Int.toNat_natCast, t2_put hTM, j1, bOwn_some, bOwnF_some, bOwnS_some, bOwnFS_some, okRs_nil, okRs_cons, okR_row, okR_same, okR_var, okR_gone, okS_so, okS_pr, okS_po, okLens_nil, okLens_same, okLens_row, okLens_var, row_live, flatR_live, flatL_nil, flatL_cons, flat_i, flat_b, flat_s, flat_sl, flat_agg, flat_tup, List.all_cons, List.all_nil, List.length_cons, List.length_nil, Nat.reduceLeDiff, Nat.le_refl, decide_true, Bool.and_self, mkL_length, List.headD_cons, okC_nil, okC_agg, okC_i, okC_b, okC_s, okC_imm, okL_i, okL_b, okL_s, okL_sl, okS_i, okS_b, okS_s, okS_sl, okS_agg, okS_tup, okS_nil, okS_cons, cells_agg, cells_i, cells_b, cells_s, cells_imm, toI_i, toB_b, toS_s, toL_imm, nth_agg, nth_tup, put_agg, put_i, put_b, put_s, put_imm, setCells, List.getD_cons_zero, List.getD_cons_succ, bSh_b, bSh_i, bSh_s, bSh_sl, bSh_some, cond_true, cond_false, decide_true, decide_false, Int.toNat_natCast, Nat.zero_add, Nat.reduceAdd, beq_self_eq_true, Bool.and_true, Bool.true_and, if_true, Bool.false_eq_true, if_false, List.set_cons_zero, List.set_cons_succ, Bool.not_true, Bool.not_false, Bool.and_self]
    refine ⟨d, b, p, s, 0, _, M.set j' (.i .i64 v), v0, v1, v2, v3, hrow, ?_, fun _ => ⟨rfl, rfl, rfl, rfl, keep2 hok hk hbad hrg.1 hrg.2 hj i2 hvf.1 hvf.2 hvr.1 hvr.2⟩, rfl, rfl⟩
    refine ⟨by rw [List.length_set]; exact hM.1, fun y hy => ?_⟩
    rcases List.mem_or_eq_of_mem_set hy with h1 | h1
    · exact hM.2 y h1
    · rw [h1]; exact ⟨v, rfl, hvw, trivial⟩


/-! Draws. -/
theorem and24 (x : Int) : 0 ≤ IntKind.i64.wrap (IntKind.u64.wrap (((BitVec.ofInt IntKind.u64.bits x &&& BitVec.ofInt IntKind.u64.bits (16777215 : Int)).toNat : Nat) : Int)) := by
  have h1 : (BitVec.ofInt IntKind.u64.bits x &&& BitVec.ofInt IntKind.u64.bits (16777215 : Int)).toNat ≤ 16777215 := by
    rw [BitVec.toNat_and]
    exact Nat.le_trans Nat.and_le_right (by decide)
  rw [wu64 (by omega) (by omega), w64 (by omega) (by omega)]
  omega
theorem below_ok (n s0 : Int) (h : 0 < n) : ∃ v s1, dno E 16 [(.pt 0 [] 0 0), (.i .i64 n)] [(.live false true false 85 [(.agg [(.i .u64 s0)])])] = some (.i .i64 v, [(.live false true false 85 [(.agg [(.i .u64 s1)])])]) ∧ 0 ≤ v ∧ v < n := by
  have hn : ¬ n = 0 := by omega
  rw [f16o1_eq, if_neg hn]
  have h0 := and24 ((IntKind.u64.wrap ((IntKind.u64.wrap (s0 * (6364136223846793005 : Int))) + (1442695040888963407 : Int))).fdiv (2 ^ (min (33 : Int).toNat IntKind.u64.bits)))
  have h1 := Int.tmod_nonneg n h0
  have h2 := Int.tmod_lt_of_pos (IntKind.i64.wrap (IntKind.u64.wrap (((BitVec.ofInt IntKind.u64.bits ((IntKind.u64.wrap ((IntKind.u64.wrap (s0 * (6364136223846793005 : Int))) + (1442695040888963407 : Int))).fdiv (2 ^ (min (33 : Int).toNat IntKind.u64.bits))) &&& BitVec.ofInt IntKind.u64.bits (16777215 : Int)).toNat : Nat) : Int))) h
  exact ⟨_, _, rfl, h1, h2⟩
theorem from_ok {l : List AV} (h : ∀ i, i < l.length → T5 9223372036854775807 (l.getD i .x)) (hl : l.length ≤ 400) (z : Int) : ∃ s1, dno E 15 [(.imm 1 l), (.i .u64 z)] [] = some (.pt 0 [] 0 0, [(.live false true false 85 [(.agg [(.i .u64 s1)])])]) := by
  rw [f15o1_eq]
  have key : ∀ (n i : Nat) (r : Int), i + n = l.length → ∃ s1, f15o1_l1 l i r = some (.pt 0 [] 0 0, [(.live false true false 85 [(.agg [(.i .u64 s1)])])]) := by
    intro n
    induction n with
    | zero =>
      intro i r hi
      rw [f15o1_l1_eq, dF (by omega), cond_false]
      exact ⟨_, rfl⟩
    | succ n ih =>
      intro i r hi
      have hT := h i (by omega)
      rw [f15o1_l1_eq, dT (by omega), cond_true, if_pos (by omega), Int.toNat_natCast, if_pos hT.ok, w64 (x := (i : Int) + 1) (by omega) (by omega), show (i : Int) + 1 = ((i + 1 : Nat) : Int) by omega]
      exact ih (i + 1) _ (by omega)
  exact key l.length 0 _ (by omega)

/-! A place and back. -/
theorem phys_ok {d b p s : Int} {B M : List AV} (v0 : W64 d) (v1 : W64 b) (v3 : W64 s) (hB : Rw (T2 1048576) 1048576 B) (hM : Rw (T2 1048576) 1048576 M) (h : okBt d b p s B M = true) {i : Nat} (hi : i < M.length) :
    den E 22 [bt d b p s B M, (.i .i64 i)] [] = some (.tup [(.i .i64 (iA M i)), (.i .i64 0)]) := by
  have hml := hM.1
  have e1 := impl_valid (p := p) v0 v1 v3 hB hM
  unfold bt at e1 ⊢
  have hT := hM.at hi
  rw [f22_eq, e1, h]
  simp only [f69_eq, in72, okC_nil, okC_agg, okC_i, okC_b, okC_s, okC_imm, okL_i, okL_b, okL_s, okL_sl, okS_i, okS_b, okS_s, okS_sl, okS_agg, okS_tup, okS_nil, okS_cons, cells_agg, cells_i, cells_b, cells_s, cells_imm, toI_i, toB_b, toS_s, toL_imm, nth_agg, nth_tup, put_agg, put_i, put_b, put_s, put_imm, setCells, List.getD_cons_zero, List.getD_cons_succ, bSh_b, bSh_i, bSh_s, bSh_sl, bSh_some, cond_true, cond_false, decide_true, decide_false, Int.toNat_natCast, Nat.zero_add, Nat.reduceAdd, beq_self_eq_true, Bool.and_true, Bool.true_and, if_true, Bool.false_eq_true, if_false, List.set_cons_zero, List.set_cons_succ, Bool.not_true, Bool.not_false, Bool.and_self]
  rw [w64 (by omega) (by omega), dT (show (0 : Int) ≤ (i : Int) by omega), dT (show (i : Int) ≤ ((M.length : Nat) : Int) - 1 by omega)]
  simp only [Int.toNat_natCast, hT.ok, okC_nil, okC_agg, okC_i, okC_b, okC_s, okC_imm, okL_i, okL_b, okL_s, okL_sl, okS_i, okS_b, okS_s, okS_sl, okS_agg, okS_tup, okS_nil, okS_cons, cells_agg, cells_i, cells_b, cells_s, cells_imm, toI_i, toB_b, toS_s, toL_imm, nth_agg, nth_tup, put_agg, put_i, put_b, put_s, put_imm, setCells, List.getD_cons_zero, List.getD_cons_succ, bSh_b, bSh_i, bSh_s, bSh_sl, bSh_some, cond_true, cond_false, decide_true, decide_false, Int.toNat_natCast, Nat.zero_add, Nat.reduceAdd, beq_self_eq_true, Bool.and_true, Bool.true_and, if_true, Bool.false_eq_true, if_false, List.set_cons_zero, List.set_cons_succ, Bool.not_true, Bool.not_false, Bool.and_self]
  rw [if_pos (by omega)]
  rfl
theorem log_ok {d b p s : Int} {B M : List AV} (v0 : W64 d) (v1 : W64 b) (v3 : W64 s) (hB : Rw (T2 1048576) 1048576 B) (hM : Rw (T2 1048576) 1048576 M) (h : okBt d b p s B M = true) {i : Nat} (hi : i < M.length) :
    den E 23 [bt d b p s B M, (.i .i64 (iA M i))] [] = some (.tup [(.i .i64 i), (.i .i64 0)]) := by
  have hml := hM.1
  have e1 := impl_valid (p := p) v0 v1 v3 hB hM
  obtain ⟨hd, hb, hs1, hBi, hMn, hM40, hMo⟩ := okBt_bd h
  obtain ⟨k1, k2⟩ := mul_le2 (show (0 : Int) ≤ d by omega) hd.2 (show (0 : Int) ≤ b by omega) hb.2
  obtain ⟨m0, m1, _⟩ := rm_die h hi
  have hx : den E 70 [(.imm 1 M), (.i .i64 (iA M i))] [] = some (.i .i64 i) := by
    rcases idx_loop hM (iA M i) with ⟨_, i2⟩ | ⟨j, hj, i1, i2⟩
    · exact absurd rfl (i2 i hi)
    · rw [i1, rm_inj hMo hj hi i2]
  unfold bt at e1 ⊢
  rw [f23_eq, e1, h]
  simp only [f55_eq, in72, w64 (x := d * b) (by omega) (by omega), w64 (x := d * b - 1) (by omega) (by omega), hx, okC_nil, okC_agg, okC_i, okC_b, okC_s, okC_imm, okL_i, okL_b, okL_s, okL_sl, okS_i, okS_b, okS_s, okS_sl, okS_agg, okS_tup, okS_nil, okS_cons, cells_agg, cells_i, cells_b, cells_s, cells_imm, toI_i, toB_b, toS_s, toL_imm, nth_agg, nth_tup, put_agg, put_i, put_b, put_s, put_imm, setCells, List.getD_cons_zero, List.getD_cons_succ, bSh_b, bSh_i, bSh_s, bSh_sl, bSh_some, cond_true, cond_false, decide_true, decide_false, Int.toNat_natCast, Nat.zero_add, Nat.reduceAdd, beq_self_eq_true, Bool.and_true, Bool.true_and, if_true, Bool.false_eq_true, if_false, List.set_cons_zero, List.set_cons_succ, Bool.not_true, Bool.not_false, Bool.and_self]
  rw [dT m0, dT m1]
  have ni : ¬ (i : Int) < 0 := by omega
  simp only [ni, okC_nil, okC_agg, okC_i, okC_b, okC_s, okC_imm, okL_i, okL_b, okL_s, okL_sl, okS_i, okS_b, okS_s, okS_sl, okS_agg, okS_tup, okS_nil, okS_cons, cells_agg, cells_i, cells_b, cells_s, cells_imm, toI_i, toB_b, toS_s, toL_imm, nth_agg, nth_tup, put_agg, put_i, put_b, put_s, put_imm, setCells, List.getD_cons_zero, List.getD_cons_succ, bSh_b, bSh_i, bSh_s, bSh_sl, bSh_some, cond_true, cond_false, decide_true, decide_false, Int.toNat_natCast, Nat.zero_add, Nat.reduceAdd, beq_self_eq_true, Bool.and_true, Bool.true_and, if_true, Bool.false_eq_true, if_false, List.set_cons_zero, List.set_cons_succ, Bool.not_true, Bool.not_false, Bool.and_self]

/-! A new table. -/
theorem hm_die {b s : Int} {i : Nat} (hi : i ≤ 40) (hb : 4 ≤ b ∧ b ≤ 12) (hs1 : 1 ≤ s ∧ s ≤ 4 ∧ s < b - 1) : (hmB b s i).tdiv b = (i : Int).tdiv (b - s) := by
  obtain ⟨m0, m1, m2, m3, m4⟩ := hmB_bd hi hb hs1
  have m5 := Int.tmod_lt_of_pos (i : Int) (show 0 < b - s by omega)
  exact die_of (by omega) m0.1 (by unfold hmB; omega) (by unfold hmB; omega)
theorem hm_inj {b s : Int} {i j : Nat} (hi : i ≤ 40) (hj : j ≤ 40) (hb : 4 ≤ b ∧ b ≤ 12) (hs1 : 1 ≤ s ∧ s ≤ 4 ∧ s < b - 1) (e : hmB b s i = hmB b s j) : i = j := by
  have e1 := hm_die hi hb hs1
  have e2 := hm_die hj hb hs1
  rw [e] at e1
  have e3 : (i : Int).tdiv (b - s) = (j : Int).tdiv (b - s) := e1.symm.trans e2
  have e4 : (i : Int).tmod (b - s) = (j : Int).tmod (b - s) := by
    unfold hmB at e
    rw [e3] at e
    omega
  have q1 := Int.tmod_add_mul_tdiv (i : Int) (b - s)
  have q2 := Int.tmod_add_mul_tdiv (j : Int) (b - s)
  rw [e3, e4] at q1
  omega
theorem hm_noSpare {b s v q : Int} {i : Nat} (hi : i ≤ 40) (hb : 4 ≤ b ∧ b ≤ 12) (hs1 : 1 ≤ s ∧ s ≤ 4 ∧ s < b - 1) (hq : 0 ≤ q) (h1 : q * b + (b - s) ≤ v) (h2 : v < q * b + b) : hmB b s i ≠ v := fun e => by
  obtain ⟨m0, m1, m2, m3, m4⟩ := hmB_bd hi hb hs1
  have m5 := Int.tmod_lt_of_pos (i : Int) (show 0 < b - s by omega)
  have e1 := hm_die hi hb hs1
  have e2 := die_of (x := v) (by omega) hq (by omega) h2
  rw [e, e2] at e1
  subst e1
  unfold hmB at e
  omega
theorem iA_app {M : List AV} {v : Int} (i : Nat) (hi : i ≤ M.length) : iA (M ++ [.i .i64 v]) i = if i < M.length then iA M i else v := by
  unfold iA
  simp only [List.getD_eq_getElem?_getD]
  by_cases h : i < M.length
  · rw [if_pos h, List.getElem?_append_left h]
  · rw [if_neg h, List.getElem?_append_right (by omega), show i - M.length = 0 by omega]; rfl
theorem rm_app {b s v : Int} {B M : List AV} (h : ∀ i, i < M.length → okRm b s B M i = true) (h1 : hs B v = false) (h2 : hs M v = false)
    (h3 : v = hmB b s M.length ∨ ((hmB b s M.length).tdiv b * b + (b - s) ≤ v ∧ v < (hmB b s M.length).tdiv b * b + b) ∧ hs B (hmB b s M.length) = true) : ∀ i, i < (M ++ [AV.i .i64 v]).length → okRm b s B (M ++ [.i .i64 v]) i = true := by
  intro i hi
  rw [List.length_append] at hi
  simp only [List.length_cons, List.length_nil] at hi
  refine okRm_iff.2 ?_
  rw [iA_app i (by omega)]
  by_cases c : i < M.length
  · rw [if_pos c, List.take_append_of_le_length (by omega)]
    exact okRm_iff.1 (h i c)
  · have : i = M.length := by omega
    subst this
    rw [if_neg c, List.take_append_of_le_length (Nat.le_refl _), List.take_length]
    exact ⟨h1, h2, h3⟩
theorem new_tab {d b s f : Int} (hd : 2 ≤ d ∧ d ≤ 3) (hb : 4 ≤ b ∧ b ≤ 8) (hs0 : 1 ≤ s ∧ s ≤ 2) (hf : 0 ≤ f ∧ f < 4) :
    ∃ M, dno E 17 [(.agg [(.i .i64 d), (.i .i64 b), (.i .i64 8)]), (.i .i64 s), (.imm 1 [(.i .i64 f)])] [] = some (.tup [btR d b 8 s, (.i .i64 0)], [(.live true false false 2 [(.i .i64 f)]), (.live true false false 2 M)]) ∧ Rw (T2 1048576) 1048576 M ∧ okBt d b 8 s [.i .i64 f] M = true := by
  have hb' : 4 ≤ b ∧ b ≤ 12 := by omega
  have hs1 : 1 ≤ s ∧ s ≤ 4 ∧ s < b - 1 := by omega
  have hB : Rw (T2 1048576) 1048576 [.i .i64 f] := ⟨by simp, fun y hy => ⟨f, List.mem_singleton.1 hy, ⟨by omega, by omega⟩, trivial⟩⟩
  obtain ⟨k1, k2⟩ := mul_le2 (show (0 : Int) ≤ d by omega) hd.2 (show (0 : Int) ≤ b by omega) hb.2
  obtain ⟨m1, m2⟩ := mul_le2 (show (0 : Int) ≤ d by omega) hd.2 (show (0 : Int) ≤ b - s by omega) (show b - s ≤ 11 by omega)
  have hdb : 8 ≤ d * b := by have := Int.mul_le_mul hd.1 hb.1 (by decide) (by omega); simpa using this
  have hs_f : ∀ x, hs [.i .i64 f] x = decide (f = x) := fun x => by
    rw [Bool.eq_iff_iff, hs_iff, decide_eq_true_eq]
    constructor
    · rintro ⟨k, h1, h2⟩
      have : k = 0 := by simpa using h1
      subst this
      exact h2
    · intro h
      exact ⟨0, by simp, h⟩
  have hBi : ∀ i, i < [AV.i .i64 f].length → inn (d * b - 1) [.i .i64 f] i = true ∧ snB [.i .i64 f] i = true := fun i hi => by
    have : i = 0 := by simpa using hi
    subst this
    refine ⟨?_, by simp [snB]⟩
    show (decide (0 ≤ f) && decide (f ≤ d * b - 1)) = true
    rw [dT (by omega), dT (by omega)]; rfl
  have pr : den E 99 [bt d b 8 s [.i .i64 f] []] [] = some (.i .i64 (b - s)) := by
    unfold bt; rw [f99_eq, w64 (by omega) (by omega)]
  have key : ∀ (n i : Nat) (M : List AV), ((i + n : Nat) : Int) = d * (b - s) → M.length = i → Rw (T2 1048576) 1048576 M → (∀ a, a < M.length → okRm b s [.i .i64 f] M a = true) →
      ∃ M', f17o1_l1 (d * (b - s)) i d b 8 [] [] 0 0 0 0 [.i .i64 f] [] [] d b 8 s M = some (.tup [btR d b 8 s, (.i .i64 0)], [(.live true false false 2 [(.i .i64 f)]), (.live true false false 2 M')]) ∧ Rw (T2 1048576) 1048576 M' ∧ okBt d b 8 s [.i .i64 f] M' = true := by
    intro n
    induction n with
    | zero =>
      intro i M hi hl hM ho
      refine ⟨M, ?_, hM, okBt_mk hd hb' (.inl rfl) hs1 hBi (by omega) ho⟩
      rw [f17o1_l1_eq, dF (by omega), cond_false]
      rfl
    | succ n ih =>
      intro i M hi hl hM ho
      have hi40 : i ≤ 40 := by omega
      obtain ⟨_, _, _, q0, q1⟩ := hmB_bd hi40 hb' hs1
      have e1 := impl_home d b 8 s [.i .i64 f] M i hi40 hb' hs1
      have e2 := is_bad d b 8 s M hB (hmB b s i)
      have t0 : 0 ≤ (hmB b s i).tdiv b := Int.tdiv_nonneg (by omega) (by omega)
      have t1 : (hmB b s i).tdiv b ≤ 520 := by have := Int.tdiv_le_self b q0; omega
      have j2 : ∀ v, W64 v → hs [.i .i64 f] v = false → hs M v = false → (v = hmB b s M.length ∨ ((hmB b s M.length).tdiv b * b + (b - s) ≤ v ∧ v < (hmB b s M.length).tdiv b * b + b) ∧ hs [.i .i64 f] (hmB b s M.length) = true) →
          ∃ M', f17o1_j2 v (d * (b - s)) i d b 8 [] [] 0 0 0 0 [.i .i64 f] [] [] d b 8 s M = some (.tup [btR d b 8 s, (.i .i64 0)], [(.live true false false 2 [(.i .i64 f)]), (.live true false false 2 M')]) ∧ Rw (T2 1048576) 1048576 M' ∧ okBt d b 8 s [.i .i64 f] M' = true := fun v hv g1 g2 g3 => by
        rw [f17o1_j2_eq, if_pos (by simp only [List.length_cons, List.length_nil, room]; omega), w64 (x := (i : Int) + 1) (by omega) (by omega), show (i : Int) + 1 = ((i + 1 : Nat) : Int) by omega]
        refine ih (i + 1) _ (by omega) (by rw [List.length_append, hl]; rfl) ⟨by rw [List.length_append, hl]; simp only [List.length_cons, List.length_nil]; omega, fun y hy => ?_⟩ (rm_app ho g1 g2 g3)
        rcases List.mem_append.1 hy with hy | hy
        · exact hM.2 y hy
        · exact ⟨v, List.mem_singleton.1 hy, hv, trivial⟩
      have homes : ∀ a, a < i → iA M a = hmB b s a ∨ (((hmB b s a).tdiv b * b + (b - s) ≤ iA M a ∧ iA M a < (hmB b s a).tdiv b * b + b) ∧ f = hmB b s a) := fun a ha => by
        obtain ⟨_, _, g⟩ := okRm_iff.1 (ho a (by omega))
        rw [hs_f, decide_eq_true_eq] at g
        exact g
      have ta : ∀ a, a < i → 0 ≤ (hmB b s a).tdiv b := fun a ha => Int.tdiv_nonneg (hmB_bd (show a ≤ 40 by omega) hb' hs1).2.2.2.1 (by omega)
      unfold bt at e1 e2
      rw [f17o1_l1_eq, dT (by omega), cond_true, e1]
      simp only [e2, bOwn_some, bOwnF_some, bOwnS_some, bOwnFS_some, okRs_nil, okRs_cons, okR_row, okR_same, okR_var, okR_gone, okS_so, okS_pr, okS_po, okLens_nil, okLens_same, okLens_row, okLens_var, row_live, flatR_live, flatL_nil, flatL_cons, flat_i, flat_b, flat_s, flat_sl, flat_agg, flat_tup, List.all_cons, List.all_nil, List.length_cons, List.length_nil, Nat.reduceLeDiff, Nat.le_refl, decide_true, Bool.and_self, mkL_length, List.headD_cons, okC_nil, okC_agg, okC_i, okC_b, okC_s, okC_imm, okL_i, okL_b, okL_s, okL_sl, okS_i, okS_b, okS_s, okS_sl, okS_agg, okS_tup, okS_nil, okS_cons, cells_agg, cells_i, cells_b, cells_s, cells_imm, toI_i, toB_b, toS_s, toL_imm, nth_agg, nth_tup, put_agg, put_i, put_b, put_s, put_imm, setCells, List.getD_cons_zero, List.getD_cons_succ, bSh_b, bSh_i, bSh_s, bSh_sl, bSh_some, cond_true, cond_false, decide_true, decide_false, Int.toNat_natCast, Nat.zero_add, Nat.reduceAdd, beq_self_eq_true, Bool.and_true, Bool.true_and, if_true, Bool.false_eq_true, if_false, List.set_cons_zero, List.set_cons_succ, Bool.not_true, Bool.not_false, Bool.and_self]
      by_cases hfx : f = hmB b s i
      rotate_left
      · rw [hs_f, dF hfx, cond_false]
        refine j2 _ ⟨by omega, by omega⟩ (by rw [hs_f]; exact dF hfx) (hs_false.2 fun a ha => ?_) (.inl (by rw [hl]))
        rw [hl] at ha
        rcases homes a ha with g | ⟨g, _⟩
        · rw [g]; exact fun e => by have := hm_inj (by omega) hi40 hb' hs1 e; omega
        · exact fun e => hm_noSpare hi40 hb' hs1 (ta a ha) g.1 g.2 e.symm
      · rw [hs_f, dT hfx, cond_true, if_neg (by omega), w64 (x := (hmB b s i).tdiv b) (by omega) (by omega)]
        obtain ⟨r, a1, a2, a3, a4⟩ := impl_avail2 d b 8 s hB hM _ t0 (by omega) hb' hs1
        obtain ⟨L, hL⟩ : ∃ L, L = (mkL s.toNat fun k => (.i .i64 ((hmB b s i).tdiv b * b + (b - s + (k : Int))) : AV)).filter (okS [.i .i64 f] M) := ⟨_, rfl⟩
        rw [← hL] at a1 a3 a4
        unfold bt at a1
        have v0M : hs M ((hmB b s i).tdiv b * b + (b - s)) = false := hs_false.2 fun a ha e => by
          rw [hl] at ha
          rcases homes a ha with g | ⟨_, g⟩
          · rw [g] at e
            exact hm_noSpare (by omega) hb' hs1 t0 (by omega) (by omega) e
          · have := hm_inj (show a ≤ 40 by omega) hi40 hb' hs1 (g.symm.trans hfx)
            omega
        have v0B : hs [.i .i64 f] ((hmB b s i).tdiv b * b + (b - s)) = false := by
          rw [hs_f, hfx]
          exact dF (hm_noSpare hi40 hb' hs1 t0 (by omega) (by omega))
        have hmem : AV.i .i64 ((hmB b s i).tdiv b * b + (b - s)) ∈ L := by
          rw [hL]
          refine List.mem_filter.2 ⟨List.mem_map.2 ⟨0, List.mem_range.2 (by omega), by simp⟩, ?_⟩
          simp only [okS, cells_i, List.getD_cons_zero, toI_i, v0B, v0M]
          rfl
        have hL0 : 0 < L.length := List.length_pos_of_mem hmem
        have hr0 : r.getD (0 + 0) .x = L.getD 0 .x := by
          rw [← a4]
          simp only [List.getD_eq_getElem?_getD, List.getElem?_take, if_pos hL0, Nat.add_zero]
        have hvL : L.getD 0 .x ∈ L := getD_mem hL0
        have hvL2 := hvL
        rw [hL] at hvL2
        have hv2 := (List.mem_filter.1 (by rw [← hL] at hvL2; rw [hL] at hvL2; exact hvL2)).1
        obtain ⟨c, hc, he⟩ := List.mem_map.1 hv2
        have hc2 := List.mem_range.1 hc
        have hv3 := (List.mem_filter.1 hvL2).2
        rw [← hL] at he hv3
        rw [← he] at hv3 hr0
        simp only [okS, Bool.and_eq_true, Bool.not_eq_true', cells_i, List.getD_cons_zero, toI_i] at hv3
        have hn0 : ¬ ((L.length : Nat) : Int) = 0 := by omega
        have hn1 : (0 : Int) ≤ 0 ∧ (0 : Int) < ((L.length : Nat) : Int) := ⟨by omega, by omega⟩
        simp only [a1, a2, AV.off, AV.cnt, hn0, hn1, show (0 : Int).toNat = 0 from rfl, hr0, and_self, bOwn_some, bOwnF_some, bOwnS_some, bOwnFS_some, okRs_nil, okRs_cons, okR_row, okR_same, okR_var, okR_gone, okS_so, okS_pr, okS_po, okLens_nil, okLens_same, okLens_row, okLens_var, row_live, flatR_live, flatL_nil, flatL_cons, flat_i, flat_b, flat_s, flat_sl, flat_agg, flat_tup, List.all_cons, List.all_nil, List.length_cons, List.length_nil, Nat.reduceLeDiff, Nat.le_refl, decide_true, Bool.and_self, mkL_length, List.headD_cons, okC_nil, okC_agg, okC_i, okC_b, okC_s, okC_imm, okL_i, okL_b, okL_s, okL_sl, okS_i, okS_b, okS_s, okS_sl, okS_agg, okS_tup, okS_nil, okS_cons, cells_agg, cells_i, cells_b, cells_s, cells_imm, toI_i, toB_b, toS_s, toL_imm, nth_agg, nth_tup, put_agg, put_i, put_b, put_s, put_imm, setCells, List.getD_cons_zero, List.getD_cons_succ, bSh_b, bSh_i, bSh_s, bSh_sl, bSh_some, cond_true, cond_false, decide_true, decide_false, Int.toNat_natCast, Nat.zero_add, Nat.reduceAdd, beq_self_eq_true, Bool.and_true, Bool.true_and, if_true, Bool.false_eq_true, if_false, List.set_cons_zero, List.set_cons_succ, Bool.not_true, Bool.not_false, Bool.and_self]
        obtain ⟨mm1, mm2⟩ := mul_le2 t0 t1 (show (0 : Int) ≤ b by omega) hb'.2
        exact j2 ((hmB b s i).tdiv b * b + (b - s + (c : Int))) ⟨by omega, by omega⟩ hv3.1 hv3.2 (.inr (by rw [hl]; exact ⟨⟨by omega, by omega⟩, by rw [hs_f]; exact dT hfx⟩))
  have g0 := impl_geo d b 8
  have al := impl_allin (d * b - 1) hB
  have all1 : (List.range' 0 1).all (snB [.i .i64 f]) = true := List.all_eq_true.2 fun i hi => (hBi i (by have := (List.mem_range'_1.1 hi).2; simpa using this)).2
  have all2 : (List.range' 0 [AV.i .i64 f].length).all (inn (d * b - 1) [.i .i64 f]) = true := List.all_eq_true.2 fun i hi => (hBi i (by simpa using (List.mem_range'_1.1 hi).2)).1
  unfold bt at pr
  have hl : den E 50 [(.agg [(.i .i64 d), (.i .i64 b), (.i .i64 8), (.i .i64 s), (.imm 1 [(.i .i64 f)]), (.imm 1 [])])] [] = some (.i .i64 (d * (b - s))) := by
    rw [f50_eq, pr]
    simp only [okC_nil, okC_agg, okC_i, okC_b, okC_s, okC_imm, okL_i, okL_b, okL_s, okL_sl, okS_i, okS_b, okS_s, okS_sl, okS_agg, okS_tup, okS_nil, okS_cons, cells_agg, cells_i, cells_b, cells_s, cells_imm, toI_i, toB_b, toS_s, toL_imm, nth_agg, nth_tup, put_agg, put_i, put_b, put_s, put_imm, setCells, List.getD_cons_zero, List.getD_cons_succ, bSh_b, bSh_i, bSh_s, bSh_sl, bSh_some, cond_true, cond_false, decide_true, decide_false, Int.toNat_natCast, Nat.zero_add, Nat.reduceAdd, beq_self_eq_true, Bool.and_true, Bool.true_and, if_true, Bool.false_eq_true, if_false, List.set_cons_zero, List.set_cons_succ, Bool.not_true, Bool.not_false, Bool.and_self]
    rw [w64 (by omega) (by omega)]
  rw [f17o1_eq, g0]
  simp only [f47_eq, f48_eq, f55_eq, in72, impl_incr hB, bOwn_some, bOwnF_some, bOwnS_some, bOwnFS_some, okRs_nil, okRs_cons, okR_row, okR_same, okR_var, okR_gone, okS_so, okS_pr, okS_po, okLens_nil, okLens_same, okLens_row, okLens_var, row_live, flatR_live, flatL_nil, flatL_cons, flat_i, flat_b, flat_s, flat_sl, flat_agg, flat_tup, List.all_cons, List.all_nil, List.length_cons, List.length_nil, Nat.reduceLeDiff, Nat.le_refl, decide_true, Bool.and_self, mkL_length, List.headD_cons, okC_nil, okC_agg, okC_i, okC_b, okC_s, okC_imm, okL_i, okL_b, okL_s, okL_sl, okS_i, okS_b, okS_s, okS_sl, okS_agg, okS_tup, okS_nil, okS_cons, cells_agg, cells_i, cells_b, cells_s, cells_imm, toI_i, toB_b, toS_s, toL_imm, nth_agg, nth_tup, put_agg, put_i, put_b, put_s, put_imm, setCells, List.getD_cons_zero, List.getD_cons_succ, bSh_b, bSh_i, bSh_s, bSh_sl, bSh_some, cond_true, cond_false, decide_true, decide_false, Int.toNat_natCast, Nat.zero_add, Nat.reduceAdd, beq_self_eq_true, Bool.and_true, Bool.true_and, if_true, Bool.false_eq_true, if_false, List.set_cons_zero, List.set_cons_succ, Bool.not_true, Bool.not_false, Bool.and_self]
  rw [w64 (x := b - 1) (by omega) (by omega), w64 (x := d * b) (by omega) (by omega), w64 (x := d * b - 1) (by omega) (by omega), al, all1, all2]
  rw [dT hd.1, dT hd.2, dT hb'.1, dT hb'.2, dT hs1.1, dT hs1.2.1, dT hs1.2.2]
  have hcl : dno E 49 [(.imm 1 [(.i .i64 f)])] [] = some (.sl 0 [] none, [.live true false false 2 [.i .i64 f]]) := by
    rw [f49_eq, if_pos ⟨rfl, by simp only [List.length_cons, List.length_nil, room]; omega⟩]
  simp only [hcl, hl, Bool.true_or, Bool.and_self, bOwn_some, bOwnF_some, bOwnS_some, bOwnFS_some, okRs_nil, okRs_cons, okR_row, okR_same, okR_var, okR_gone, okS_so, okS_pr, okS_po, okLens_nil, okLens_same, okLens_row, okLens_var, row_live, flatR_live, flatL_nil, flatL_cons, flat_i, flat_b, flat_s, flat_sl, flat_agg, flat_tup, List.all_cons, List.all_nil, List.length_cons, List.length_nil, Nat.reduceLeDiff, Nat.le_refl, decide_true, Bool.and_self, mkL_length, List.headD_cons, okC_nil, okC_agg, okC_i, okC_b, okC_s, okC_imm, okL_i, okL_b, okL_s, okL_sl, okS_i, okS_b, okS_s, okS_sl, okS_agg, okS_tup, okS_nil, okS_cons, cells_agg, cells_i, cells_b, cells_s, cells_imm, toI_i, toB_b, toS_s, toL_imm, nth_agg, nth_tup, put_agg, put_i, put_b, put_s, put_imm, setCells, List.getD_cons_zero, List.getD_cons_succ, bSh_b, bSh_i, bSh_s, bSh_sl, bSh_some, cond_true, cond_false, decide_true, decide_false, Int.toNat_natCast, Nat.zero_add, Nat.reduceAdd, beq_self_eq_true, Bool.and_true, Bool.true_and, if_true, Bool.false_eq_true, if_false, List.set_cons_zero, List.set_cons_succ, Bool.not_true, Bool.not_false, Bool.and_self]
  exact key (d * (b - s)).toNat 0 [] (by omega) rfl ⟨by simp, fun y hy => by cases hy⟩ fun a ha => by simp at ha

/-! The law. -/
theorem each_ok {d b p s : Int} {B M : List AV} (v0 : W64 d) (v1 : W64 b) (v3 : W64 s) (hB : Rw (T2 1048576) 1048576 B) (hM : Rw (T2 1048576) 1048576 M) (h : okBt d b p s B M = true) (t z q : Int) :
    f4_l3 t 0 z d b q d b p s B M = f4_l1 (IntKind.i64.wrap (t + 1)) z d b q d b p s B M := by
  obtain ⟨hd, hb, hs1, hBi, hMn, hM40, hMo⟩ := okBt_bd h
  refine loop_to (L := fun i => f4_l3 t i z d b q d b p s B M) (n := M.length) (fun i hi => ?_) ?_
  · have hT := hM.at hi
    have e1 := phys_ok (p := p) v0 v1 v3 hB hM h hi
    have e2 := log_ok (p := p) v0 v1 v3 hB hM h hi
    obtain ⟨m0, m1, m2, m3, m4⟩ := rm_die h hi
    unfold bt at e1 e2
    have hv : ((M.getD i .x).cells.getD 0 .x).toI = iA M i := rfl
    have g1 : (0 : Int) ≤ (i : Int) ∧ (i : Int) < ((M.length : Nat) : Int) := ⟨by omega, by omega⟩
    have g2 : ¬ b = 0 := by omega
    have g3 : ¬ b - s = 0 := by omega
    have hok : okCells false (M.getD i .x) 0 [(.i .i64)] = true := hT.ok
    try dsimp only
    rw [f4_l3_eq, dT (show (i : Int) < ((M.length : Nat) : Int) by omega), cond_true, e1]
    simp only [Int.toNat_natCast, hok, hv, g1, g2, w64 (x := b - s) (by omega) (by omega), g3, m2, e2, and_self, decide_true, Bool.not_true, okC_nil, okC_agg, okC_i, okC_b, okC_s, okC_imm, okL_i, okL_b, okL_s, okL_sl, okS_i, okS_b, okS_s, okS_sl, okS_agg, okS_tup, okS_nil, okS_cons, cells_agg, cells_i, cells_b, cells_s, cells_imm, toI_i, toB_b, toS_s, toL_imm, nth_agg, nth_tup, put_agg, put_i, put_b, put_s, put_imm, setCells, List.getD_cons_zero, List.getD_cons_succ, bSh_b, bSh_i, bSh_s, bSh_sl, bSh_some, cond_true, cond_false, decide_true, decide_false, Int.toNat_natCast, Nat.zero_add, Nat.reduceAdd, beq_self_eq_true, Bool.and_true, Bool.true_and, if_true, Bool.false_eq_true, if_false, List.set_cons_zero, List.set_cons_succ, Bool.not_true, Bool.not_false, Bool.and_self]
    rw [w64 (x := (i : Int) + 1) (by omega) (by omega)]
  · try dsimp only
    rw [f4_l3_eq, dF (Int.lt_irrefl _), cond_false]
theorem rounds {d b : Int} (hd : 2 ≤ d ∧ d ≤ 3) (hb : 4 ≤ b ∧ b ≤ 12) (q : Int) : ∀ (n : Nat) (t z p s : Int) (B M : List AV), t + (n : Int) = 8 → 0 ≤ t → W64 p → W64 s → Rw (T2 1048576) 1048576 B → Rw (T2 1048576) 1048576 M → okBt d b p s B M = true → f4_l1 t z d b q d b p s B M = some (.b true) := by
  have v0 : W64 d := ⟨by omega, by omega⟩
  have v1 : W64 b := ⟨by omega, by omega⟩
  obtain ⟨k1, k2⟩ := mul_le2 (show (0 : Int) ≤ d by omega) hd.2 (show (0 : Int) ≤ b by omega) hb.2
  have hdb : 8 ≤ d * b := by have := Int.mul_le_mul hd.1 hb.1 (by decide) (by omega); simpa using this
  have j2 : ∀ (t z p s : Int) (B M : List AV), W64 s → Rw (T2 1048576) 1048576 B → Rw (T2 1048576) 1048576 M → okBt d b p s B M = true → f4_j2 t z d b q d b p s B M = f4_l1 (IntKind.i64.wrap (t + 1)) z d b q d b p s B M := fun t z p s B M v3 hB hM h => by
    have e0 := spec_valid (p := p) v0 v1 v3 hB hM
    have e1 := impl_valid (p := p) v0 v1 v3 hB hM
    unfold bt at e0 e1
    rw [f4_j2_eq, e0, e1, h]
    simp only [okC_nil, okC_agg, okC_i, okC_b, okC_s, okC_imm, okL_i, okL_b, okL_s, okL_sl, okS_i, okS_b, okS_s, okS_sl, okS_agg, okS_tup, okS_nil, okS_cons, cells_agg, cells_i, cells_b, cells_s, cells_imm, toI_i, toB_b, toS_s, toL_imm, nth_agg, nth_tup, put_agg, put_i, put_b, put_s, put_imm, setCells, List.getD_cons_zero, List.getD_cons_succ, bSh_b, bSh_i, bSh_s, bSh_sl, bSh_some, cond_true, cond_false, decide_true, decide_false, Int.toNat_natCast, Nat.zero_add, Nat.reduceAdd, beq_self_eq_true, Bool.and_true, Bool.true_and, if_true, Bool.false_eq_true, if_false, List.set_cons_zero, List.set_cons_succ, Bool.not_true, Bool.not_false, Bool.and_self]
    exact each_ok v0 v1 v3 hB hM h t z q
  intro n
  induction n with
  | zero =>
    intro t z p s B M ht h0 _ _ _ _ _
    rw [f4_l1_eq, dF (by omega), cond_false]
  | succ n ih =>
    intro t z p s B M ht h0 v2 v3 hB hM h
    obtain ⟨x, z1, e1, x0, x1⟩ := below_ok (d * b) z (by omega)
    obtain ⟨d1, b1, p1, s1, k, r0, r1, y0, y1, y2, y3, u0, u1, hk, e2, e3⟩ := retires2 v0 v1 v2 v3 hB hM x ⟨by omega, by omega⟩
    have f0 := t2_flat u0
    have f1 := t2_flat u1
    unfold bt btR at e2 e3
    rw [f4_l1_eq, dT (by omega), cond_true, w64 (x := d * b) (by omega) (by omega)]
    simp only [e1, e2, e3, f0, f1, decide_true, Bool.not_true, bOwn_some, bOwnF_some, bOwnS_some, bOwnFS_some, okRs_nil, okRs_cons, okR_row, okR_same, okR_var, okR_gone, okS_so, okS_pr, okS_po, okLens_nil, okLens_same, okLens_row, okLens_var, row_live, flatR_live, flatL_nil, flatL_cons, flat_i, flat_b, flat_s, flat_sl, flat_agg, flat_tup, List.all_cons, List.all_nil, List.length_cons, List.length_nil, Nat.reduceLeDiff, Nat.le_refl, decide_true, Bool.and_self, mkL_length, List.headD_cons, okC_nil, okC_agg, okC_i, okC_b, okC_s, okC_imm, okL_i, okL_b, okL_s, okL_sl, okS_i, okS_b, okS_s, okS_sl, okS_agg, okS_tup, okS_nil, okS_cons, cells_agg, cells_i, cells_b, cells_s, cells_imm, toI_i, toB_b, toS_s, toL_imm, nth_agg, nth_tup, put_agg, put_i, put_b, put_s, put_imm, setCells, List.getD_cons_zero, List.getD_cons_succ, bSh_b, bSh_i, bSh_s, bSh_sl, bSh_some, cond_true, cond_false, decide_true, decide_false, Int.toNat_natCast, Nat.zero_add, Nat.reduceAdd, beq_self_eq_true, Bool.and_true, Bool.true_and, if_true, Bool.false_eq_true, if_false, List.set_cons_zero, List.set_cons_succ, Bool.not_true, Bool.not_false, Bool.and_self]
    by_cases hk0 : k = 0
    · obtain ⟨rfl, rfl, rfl, rfl, hok⟩ := hk hk0
      simp only [hk0, decide_true, cond_true]
      rw [j2 _ _ _ _ _ _ y3 u0 u1 hok, w64 (x := t + 1) (by omega) (by omega)]
      exact ih _ _ _ _ _ _ (by omega) (by omega) y2 y3 u0 u1 hok
    · simp only [hk0, decide_false, cond_false]
      rw [j2 _ _ _ _ _ _ v3 hB hM h, w64 (x := t + 1) (by omega) (by omega)]
      exact ih _ _ _ _ _ _ (by omega) (by omega) v2 v3 hB hM h
theorem pure (l : List AV) (h : Rw (T5 9223372036854775807) 9223372036854775807 l) : den E 4 [(.imm 1 l)] [] = some (.b true) := by
  rw [f4_eq]
  by_cases h4 : (400 : Int) < ((l.length : Nat) : Int)
  · rw [dT h4, cond_true]
  rw [dF h4, cond_false]
  obtain ⟨z0, e0⟩ := from_ok (l := l) (fun i hi => h.at hi) (by omega) 701
  obtain ⟨x1, z1, e1, a1, b1⟩ := below_ok 2 z0 (by omega)
  obtain ⟨x2, z2, e2, a2, b2⟩ := below_ok 5 z1 (by omega)
  obtain ⟨x3, z3, e3, a3, b3⟩ := below_ok 2 z2 (by omega)
  obtain ⟨x4, z4, e4, a4, b4⟩ := below_ok 4 z3 (by omega)
  obtain ⟨M, e5, hM, hok⟩ := new_tab (d := 2 + x1) (b := 4 + x2) (s := 1 + x3) (f := x4) ⟨by omega, by omega⟩ ⟨by omega, by omega⟩ ⟨by omega, by omega⟩ ⟨a4, b4⟩
  have hB : Rw (T2 1048576) 1048576 [.i .i64 x4] := ⟨by simp, fun y hy => ⟨x4, List.mem_singleton.1 hy, ⟨by omega, by omega⟩, trivial⟩⟩
  have f0 := t2_flat hB
  have f1 := t2_flat hM
  unfold btR at e5
  simp only [e0, e1, e2, e3, e4, w64 (x := 2 + x1) (by omega) (by omega), w64 (x := 4 + x2) (by omega) (by omega), w64 (x := 1 + x3) (by omega) (by omega), e5, f0, f1, decide_true, Bool.not_true, bOwn_some, bOwnF_some, bOwnS_some, bOwnFS_some, okRs_nil, okRs_cons, okR_row, okR_same, okR_var, okR_gone, okS_so, okS_pr, okS_po, okLens_nil, okLens_same, okLens_row, okLens_var, row_live, flatR_live, flatL_nil, flatL_cons, flat_i, flat_b, flat_s, flat_sl, flat_agg, flat_tup, List.all_cons, List.all_nil, List.length_cons, List.length_nil, Nat.reduceLeDiff, Nat.le_refl, decide_true, Bool.and_self, mkL_length, List.headD_cons, okC_nil, okC_agg, okC_i, okC_b, okC_s, okC_imm, okL_i, okL_b, okL_s, okL_sl, okS_i, okS_b, okS_s, okS_sl, okS_agg, okS_tup, okS_nil, okS_cons, cells_agg, cells_i, cells_b, cells_s, cells_imm, toI_i, toB_b, toS_s, toL_imm, nth_agg, nth_tup, put_agg, put_i, put_b, put_s, put_imm, setCells, List.getD_cons_zero, List.getD_cons_succ, bSh_b, bSh_i, bSh_s, bSh_sl, bSh_some, cond_true, cond_false, decide_true, decide_false, Int.toNat_natCast, Nat.zero_add, Nat.reduceAdd, beq_self_eq_true, Bool.and_true, Bool.true_and, if_true, Bool.false_eq_true, if_false, List.set_cons_zero, List.set_cons_succ, Bool.not_true, Bool.not_false, Bool.and_self]
  exact rounds ⟨by omega, by omega⟩ ⟨by omega, by omega⟩ 8 8 0 z4 8 (1 + x3) _ M (by omega) (by omega) ⟨by omega, by omega⟩ ⟨by omega, by omega⟩ hB hM hok
end Go.Proofs.Ytkicholhkoahhaa.IBadBlocks
