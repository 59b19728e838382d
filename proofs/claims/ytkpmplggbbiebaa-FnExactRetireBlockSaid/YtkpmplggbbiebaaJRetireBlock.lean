--#dropmissing
/- RetireBlock: the program's answer is the reference's, for every table and block. No condition beyond what each theorem states. -/
import Derived.Test.YtkpmplggbbiebaaIRetireBlockf
import Derived.Test.YtkpmplggbbiebaaItMk
namespace Go.Proofs.Ytkpmplggbbiebaa.IRetireBlock
open Go Go.Proofs.YtkpmplggbbiebaaIT
set_option linter.unusedSimpArgs false
set_option linter.unusedVariables false

theorem in90 (a lo hi : Int) : den E 70 [(.i .i64 a), (.i .i64 lo), (.i .i64 hi)] [] = some (.b (decide (lo ≤ a) && decide (a ≤ hi))) := by
  rw [f70_eq, beq_true, cond_andb]
theorem in72 (a lo hi : Int) : den E 79 [(.i .i64 a), (.i .i64 lo), (.i .i64 hi)] [] = some (.b (decide (lo ≤ a) && decide (a ≤ hi))) := by
  rw [f79_eq, beq_true, cond_andb]


/-! Rows of numbers: copied, marked. -/
theorem t2_put {B : Nat} {y v : AV} (h : T2 B y) : y.putCells 0 [v] = v := by obtain ⟨_, rfl, _⟩ := h; rfl
theorem t2_flat {B C : Nat} {l : List AV} (h : Rw (T2 B) C l) : flatVL l = true := flatVL_of fun y hy => by obtain ⟨_, rfl, _⟩ := h.2 y hy; rfl
theorem own_int {l : List AV} (h : Rw (T2 1048576) 1048576 l) : dno E 44 [(.imm 1 l)] [] = some (.sl 0 [] none, [.live true false false 2 l]) := by
  have hl := h.1
  rw [f44o1_eq, if_pos (by simp only [room]; omega), Int.toNat_natCast]
  refine fill_loop (L := fun i ys => f44o1_l1 l i [] ys) (xs := l) (ys0 := List.replicate l.length (.i .i64 0)) (F := fun ys => some (.sl 0 [] none, [.live true false false 2 ys])) (by simp) (fun i ys hi hy hz => ?_) ?_
  · have hT := h.at hi
    have hz' : ys.getD i .x = .i .i64 0 := by rw [hz]; simp [List.getD_eq_getElem?_getD, hi]
    try dsimp only
    rw [f44o1_l1_eq, dT (show (i : Int) < ((l.length : Nat) : Int) by omega), cond_true, if_pos (by omega), w64 (x := (i : Int) + 1) (by omega) (by omega)]
    simp only [Int.toNat_natCast, Nat.zero_add, hT.ok, if_true, hz', put_i]
    rw [if_pos (by omega), hT.eta]
  · try dsimp only
    rw [f44o1_l1_eq, dF (Int.lt_irrefl _), cond_false]
theorem mark_int {l : List AV} (h : Rw (T2 1048576) 1048576 l) (k : Int) (hk : 0 ≤ k) (hk2 : k ≤ 1099511627776) : dno E 83 [(.sl 0 [] none), (.i .i64 k)] [(.live true false false 2 l)] =
    some (.i .i64 (k + ((l.length : Nat) : Int)), [.live true false false 2 (mkL l.length fun i => .i .i64 (k + (i : Int)))]) := by
  have hl := h.1
  rw [f83o1_eq]
  have := fill_loop (L := fun i ys => f83o1_l1 (k + i) i ys) (xs := mkL l.length fun i => .i .i64 (k + (i : Int))) (ys0 := l) (F := fun ys => some (AV.i .i64 (k + ((l.length : Nat) : Int)), [.live true false false 2 ys])) (by rw [mkL_length]) (fun i ys hi hy hz => ?_) ?_
  · simpa using this
  · rw [mkL_length] at hi hy
    have hT := h.at hi
    try dsimp only
    rw [f83o1_l1_eq, dT (show (i : Int) < ((ys.length : Nat) : Int) by omega), cond_true, if_pos (by omega), w64 (x := k + (i : Int) + 1) (by omega) (by omega), w64 (x := (i : Int) + 1) (by omega) (by omega)]
    simp only [Int.toNat_natCast, Nat.zero_add, hz, t2_put hT, mkL_getD hi]
    rw [Int.add_assoc]
  · rw [mkL_length]
    try dsimp only
    rw [f83o1_l1_eq, dF (by rw [mkL_length]; omega), cond_false]


/-! Rows of numbers. -/
noncomputable def iA (m : List AV) (i : Nat) : Int := ((m.getD i .x).cells.getD 0 .x).toI
noncomputable def bA (m : List AV) (i : Nat) : Bool := ((m.getD i .x).cells.getD 0 .x).toB


theorem twin_loop {R : Type} {L L' : Int → Option R} {n : Nat} (step : ∀ i : Nat, i < n → ∃ (p : Bool) (F : Option R), L i = cond p F (L ((i : Int) + 1)) ∧ L' i = cond p F (L' ((i : Int) + 1))) (last : L n = L' n) : L 0 = L' 0 := by
  have key : ∀ (k i : Nat), i + k = n → L i = L' i := by
    intro k
    induction k with
    | zero => intro i h; have : i = n := by omega
              subst this; exact last
    | succ k ih =>
      intro i h
      obtain ⟨p, F, h1, h2⟩ := step i (by omega)
      have h3 := ih (i + 1) (by omega)
      rw [show (((i + 1 : Nat)) : Int) = (i : Int) + 1 by omega] at h3
      rw [h1, h2, h3]
  exact key n 0 (by omega)


/-! Where a number stands in a row. -/
theorem idx_loop {m : List AV} (hm : Rw (T2 1048576) 1048576 m) (x : Int) : (den E 127 [(.imm 1 m), (.i .i64 x)] [] = some (.i .i64 (-1)) ∧ ∀ i, i < m.length → iA m i ≠ x) ∨
    ∃ j : Nat, j < m.length ∧ den E 127 [(.imm 1 m), (.i .i64 x)] [] = some (.i .i64 j) ∧ iA m j = x := by
  have hml := hm.1
  have key := find_loop (L := fun i => f127_l1 m x ((m.length : Nat) : Int) i) (n := m.length) (p := fun j => decide (x = iA m j)) (F := fun i => some (.i .i64 i)) (X := some (.i .i64 (-1))) (fun i hi => ?_) ?_ m.length 0 (by omega)
  · rw [f127_eq]
    rcases key with ⟨j, _, hj, h1, h2, h3⟩ | ⟨h1, h2⟩
    · exact .inr ⟨j, hj, h3, by have := of_decide_eq_true h1; exact this.symm⟩
    · exact .inl ⟨h2, fun i hi => by have := of_decide_eq_false (h1 i (Nat.zero_le _) hi); exact fun h => this h.symm⟩
  · have hT := hm.at hi
    try dsimp only
    rw [f127_l1_eq, dT (show (i : Int) < ((m.length : Nat) : Int) by omega), cond_true, if_pos (by omega), w64 (x := (i : Int) + 1) (by omega) (by omega)]
    simp only [Int.toNat_natCast, hT.ok, if_true]
    rfl
  · try dsimp only
    rw [f127_l1_eq, dF (Int.lt_irrefl _), cond_false]
theorem has_loop {m : List AV} (hm : Rw (T2 1048576) 1048576 m) (x : Int) : den E 124 [(.imm 1 m), (.i .i64 x)] [] = some (.b (!(List.range' 0 m.length).all fun k => !decide (iA m k = x))) := by
  rw [f124_eq]
  rcases idx_loop hm x with ⟨h1, h2⟩ | ⟨j, hj, h1, h2⟩
  · rw [h1]
    have : ((List.range' 0 m.length).all fun k => !decide (iA m k = x)) = true := by
      rw [List.all_eq_true]
      intro k hk
      have := h2 k (by simpa [List.mem_range'_1] using hk)
      simp [this]
    rw [this]
    simp only [okC_nil, okC_agg, okC_i, okC_b, okC_s, okC_imm, okL_i, okL_b, okL_s, okL_sl, okS_i, okS_b, okS_s, okS_sl, okS_agg, okS_tup, okS_nil, okS_cons, cells_agg, cells_i, cells_b, cells_s, cells_imm, toI_i, toB_b, toS_s, toL_imm, nth_agg, nth_tup, put_agg, put_i, put_b, put_s, put_imm, setCells, List.getD_cons_zero, List.getD_cons_succ, bSh_b, bSh_i, bSh_s, bSh_sl, bSh_some, cond_true, cond_false, decide_true, decide_false, Int.toNat_natCast, Nat.zero_add, Nat.reduceAdd, beq_self_eq_true, Bool.and_true, Bool.true_and, if_true, Bool.false_eq_true, if_false, List.set_cons_zero, List.set_cons_succ, Bool.not_true, Bool.not_false, Bool.and_self]
    rfl
  · rw [h1]
    have : ((List.range' 0 m.length).all fun k => !decide (iA m k = x)) = false := by
      rw [List.all_eq_false]
      exact ⟨j, by simp [List.mem_range'_1, hj], by simp [h2]⟩
    rw [this]
    have hj0 : (0 : Int) ≤ (j : Int) := by omega
    simp only [hj0, okC_nil, okC_agg, okC_i, okC_b, okC_s, okC_imm, okL_i, okL_b, okL_s, okL_sl, okS_i, okS_b, okS_s, okS_sl, okS_agg, okS_tup, okS_nil, okS_cons, cells_agg, cells_i, cells_b, cells_s, cells_imm, toI_i, toB_b, toS_s, toL_imm, nth_agg, nth_tup, put_agg, put_i, put_b, put_s, put_imm, setCells, List.getD_cons_zero, List.getD_cons_succ, bSh_b, bSh_i, bSh_s, bSh_sl, bSh_some, cond_true, cond_false, decide_true, decide_false, Int.toNat_natCast, Nat.zero_add, Nat.reduceAdd, beq_self_eq_true, Bool.and_true, Bool.true_and, if_true, Bool.false_eq_true, if_false, List.set_cons_zero, List.set_cons_succ, Bool.not_true, Bool.not_false, Bool.and_self]


/-! Rows of numbers within bounds, rising. -/
abbrev sv (l : List AV) (i : Nat) : Int := ((l.getD i .x).cells.getD 0 .x).toI
theorem all_split (A B : Nat → Bool) : ∀ (d n : Nat), (List.range' n d).all (fun i => A i && B i) = ((List.range' n d).all A && (List.range' n d).all B)
  | 0, _ => rfl
  | d + 1, n => by
    rw [List.range'_succ, List.all_cons, List.all_cons, List.all_cons, all_split A B d (n + 1)]
    cases A n <;> cases B n <;> cases (List.range' (n + 1) d).all A <;> rfl
def inn (U : Int) (l : List AV) (i : Nat) : Bool := decide (0 ≤ sv l i) && decide (sv l i ≤ U)
def snB (l : List AV) (i : Nat) : Bool := decide (i = 0) || !decide (sv l i ≤ sv l (i - 1))
theorem impl_incr {l : List AV} (h : Rw (T2 1048576) 1048576 l) : den E 158 [(.imm 1 l)] [] = some (.b ((List.range' 0 l.length).all (snB l))) := by
  have hl := h.1
  rw [f158_eq]
  by_cases hn : l.length = 0
  · rw [f158_l1_eq, dF (show ¬ (1 : Int) < ((l.length : Nat) : Int) by omega), cond_false, hn]
    rfl
  have := all_loop_from (L := fun i => f158_l1 l i) (n := l.length) (p := snB l) (X := some (.b true)) (F := some (.b false)) 1 (fun i h1 hi => ?_) ?_ (l.length - 1) 1 (by omega) (by omega)
  · refine this.trans ?_
    have e : List.range' 0 l.length = 0 :: List.range' 1 (l.length - 1) := by
      have : l.length = (l.length - 1) + 1 := by omega
      rw [this, List.range'_succ]; rfl
    rw [cond_andb, Bool.and_true, e, List.all_cons]
    rfl
  · have hT := h.at hi
    try dsimp only
    · have h0 : ¬ i = 0 := by omega
      have hi1 : i - 1 < l.length := by omega
      have hP := h.at hi1
      rw [f158_l1_eq, dT (show (i : Int) < ((l.length : Nat) : Int) by omega), cond_true, if_pos (by omega), Int.toNat_natCast, hT.ok, if_pos rfl, w64 (x := (i : Int) - 1) (by omega) (by omega), if_pos (by omega), show ((i : Int) - 1).toNat = i - 1 by omega, hP.ok, if_pos rfl, w64 (x := (i : Int) + 1) (by omega) (by omega)]
      unfold snB
      rw [dF h0, Bool.false_or]
      show cond (decide (sv l i ≤ sv l (i - 1))) (some (AV.b false)) _ = _
      cases decide (sv l i ≤ sv l (i - 1)) <;> rfl
  · try dsimp only
    rw [f158_l1_eq, dF (Int.lt_irrefl _), cond_false]
theorem impl_allin {l : List AV} (U : Int) (h : Rw (T2 1048576) 1048576 l) : den E 159 [(.imm 1 l), (.i .i64 0), (.i .i64 U)] [] = some (.b ((List.range' 0 l.length).all (inn U l))) := by
  have hll := h.1
  rw [f159_eq, f182q1_eq, f184q1_eq]
  have cl : ∀ x : Int, den E 183 [(.i .i64 x), (.ip (.i .i64 0) 0), (.ip (.i .i64 U) 0)] [] = some (.b (!(decide (0 ≤ x) && decide (x ≤ U)))) := fun x => by
    have o1 : okCells false (.i .i64 0) 0 [(.i .i64)] = true := by rfl
    have o2 : okCells false (.i .i64 U) 0 [(.i .i64)] = true := by rfl
    rw [f183q1_eq, if_pos o1, if_pos o2]
    show bSh .b (den E 79 [(.i .i64 x), (.i .i64 0), (.i .i64 U)] []) _ = _
    rw [in72, bSh_b]
    rfl
  have key := find_loop (L := fun i => f184q1_l1 l (.i .i64 0) (.i .i64 U) ((l.length : Nat) : Int) i) (n := l.length) (p := fun j => !inn U l j) (F := fun i => some (.i .i64 i)) (X := some (.i .i64 (-1))) (fun i hi => ?_) ?_ l.length 0 (by omega)
  · rcases key with ⟨j, _, hj, h1, h2, h3⟩ | ⟨h1, h2⟩
    · rw [show f184q1_l1 l (.i .i64 0) (.i .i64 U) ((l.length : Nat) : Int) 0 = _ from h3]
      have hj0 : (0 : Int) ≤ (j : Int) := by omega
      simp only [bSh_i, bSh_b, toI_i, toB_b, hj0, decide_true]
      have : ((List.range' 0 l.length).all (inn U l)) = false := by
        rw [List.all_eq_false]
        exact ⟨j, by simp [List.mem_range'_1, hj], by simpa using h1⟩
      rw [this]; rfl
    · rw [show f184q1_l1 l (.i .i64 0) (.i .i64 U) ((l.length : Nat) : Int) 0 = _ from h2]
      simp only [bSh_i, bSh_b, toI_i, toB_b]
      have : ((List.range' 0 l.length).all (inn U l)) = true := by
        rw [List.all_eq_true]
        intro i hi
        have := h1 i (Nat.zero_le _) (by simpa [List.mem_range'_1] using hi)
        simpa using this
      rw [this]; rfl
  · have hT := h.at hi
    try dsimp only
    rw [f184q1_l1_eq, dT (show (i : Int) < ((l.length : Nat) : Int) by omega), cond_true, if_pos (by omega), Int.toNat_natCast, hT.ok, if_pos rfl, w64 (x := (i : Int) + 1) (by omega) (by omega), cl, bSh_b]
    rfl
  · try dsimp only
    rw [f184q1_l1_eq, dF (Int.lt_irrefl _), cond_false]


/-! Tables of bad blocks. -/
def bt (d b p s : Int) (B M : List AV) : AV := .agg [(.i .i64 d), (.i .i64 b), (.i .i64 p), (.i .i64 s), (.imm 1 B), (.imm 1 M)]
def btR (d b p s : Int) : AV := .agg [(.i .i64 d), (.i .i64 b), (.i .i64 p), (.i .i64 s), (.sl 0 [] none), (.sl 1 [] none)]
noncomputable def hs (m : List AV) (x : Int) : Bool := !(List.range' 0 m.length).all fun k => !decide (iA m k = x)
theorem hs_iff {m : List AV} {x : Int} : hs m x = true ↔ ∃ k, k < m.length ∧ iA m k = x := by
  unfold hs
  simp only [Bool.not_eq_true', List.all_eq_false, List.mem_range'_1, Bool.not_eq_eq_eq_not, Bool.not_true, decide_eq_false_iff_not, Classical.not_not]
  constructor
  · rintro ⟨k, ⟨_, h1⟩, h2⟩; exact ⟨k, by omega, h2⟩
  · rintro ⟨k, h1, h2⟩; exact ⟨k, ⟨by omega, by omega⟩, h2⟩
theorem hs_mem {m : List AV} {x : Int} : hs m x = true ↔ ∃ y, y ∈ m ∧ (y.cells.getD 0 .x).toI = x := by
  rw [hs_iff]
  constructor
  · rintro ⟨k, h1, h2⟩; exact ⟨_, getD_mem h1, h2⟩
  · rintro ⟨y, h1, h2⟩
    obtain ⟨k, hk, rfl⟩ := List.getElem_of_mem h1
    refine ⟨k, hk, ?_⟩
    have : m.getD k .x = m[k] := by rw [List.getD_eq_getElem?_getD, List.getElem?_eq_getElem hk]; rfl
    unfold iA
    rw [this]; exact h2
theorem hs_false {m : List AV} {x : Int} : hs m x = false ↔ ∀ k, k < m.length → iA m k ≠ x := by
  rw [← Bool.not_eq_true, hs_iff]
  constructor
  · intro h k hk he; exact h ⟨k, hk, he⟩
  · rintro h ⟨k, hk, he⟩; exact h k hk he
noncomputable def okS (B M : List AV) (y : AV) : Bool := !hs B (y.cells.getD 0 .x).toI && !hs M (y.cells.getD 0 .x).toI
theorem spec_has {m : List AV} (hm : Rw (T2 1048576) 1048576 m) (x : Int) : den E 72 [(.imm 1 m), (.i .i64 x)] [] = some (.b (hs m x)) := by
  have hml := hm.1
  rw [f72_eq]
  have := all_loop (L := fun i => f72_l1 m x i) (n := m.length) (p := fun k => !decide (iA m k = x)) (X := some (.b false)) (F := some (.b true)) (fun i hi => ?_) ?_ m.length 0 (by omega)
  · refine this.trans ?_
    unfold hs
    cases ((List.range' 0 m.length).all fun k => !decide (iA m k = x)) <;> rfl
  · have hT := hm.at hi
    try dsimp only
    rw [f72_l1_eq, dT (show (i : Int) < ((m.length : Nat) : Int) by omega), cond_true, if_pos (by omega), w64 (x := (i : Int) + 1) (by omega) (by omega)]
    simp only [Int.toNat_natCast, hT.ok, if_true]
    show cond (decide (iA m i = x)) _ _ = _
    cases decide (iA m i = x) <;> rfl
  · try dsimp only
    rw [f72_l1_eq, dF (Int.lt_irrefl _), cond_false]
theorem impl_has {m : List AV} (hm : Rw (T2 1048576) 1048576 m) (x : Int) : den E 124 [(.imm 1 m), (.i .i64 x)] [] = some (.b (hs m x)) := has_loop hm x
theorem is_bad (d b p s : Int) {B : List AV} (M : List AV) (hB : Rw (T2 1048576) 1048576 B) (x : Int) : den E 125 [bt d b p s B M, (.i .i64 x)] [] = some (.b (hs B x)) := by
  unfold bt
  rw [f125_eq, impl_has hB]
  simp only [okC_nil, okC_agg, okC_i, okC_b, okC_s, okC_imm, okL_i, okL_b, okL_s, okL_sl, okS_i, okS_b, okS_s, okS_sl, okS_agg, okS_tup, okS_nil, okS_cons, cells_agg, cells_i, cells_b, cells_s, cells_imm, toI_i, toB_b, toS_s, toL_imm, nth_agg, nth_tup, put_agg, put_i, put_b, put_s, put_imm, setCells, List.getD_cons_zero, List.getD_cons_succ, bSh_b, bSh_i, bSh_s, bSh_sl, bSh_some, cond_true, cond_false, decide_true, decide_false, Int.toNat_natCast, Nat.zero_add, Nat.reduceAdd, beq_self_eq_true, Bool.and_true, Bool.true_and, if_true, Bool.false_eq_true, if_false, List.set_cons_zero, List.set_cons_succ, Bool.not_true, Bool.not_false, Bool.and_self]
theorem clos_av (d b p s : Int) {B M : List AV} (hB : Rw (T2 1048576) 1048576 B) (hM : Rw (T2 1048576) 1048576 M) {y : AV} (hy : T2 1048576 y) :
    den E 165 [y, (.ip (bt d b p s B M) 0)] [] = some (.b (!okS B M y)) := by
  obtain ⟨x, rfl, _⟩ := hy
  have h1 := is_bad d b p s M hB x
  rw [f165q1_eq]
  unfold bt at h1 ⊢
  simp only [h1, impl_has hM, okC_nil, okC_agg, okC_i, okC_b, okC_s, okC_imm, okL_i, okL_b, okL_s, okL_sl, okS_i, okS_b, okS_s, okS_sl, okS_agg, okS_tup, okS_nil, okS_cons, cells_agg, cells_i, cells_b, cells_s, cells_imm, toI_i, toB_b, toS_s, toL_imm, nth_agg, nth_tup, put_agg, put_i, put_b, put_s, put_imm, setCells, List.getD_cons_zero, List.getD_cons_succ, bSh_b, bSh_i, bSh_s, bSh_sl, bSh_some, cond_true, cond_false, decide_true, decide_false, Int.toNat_natCast, Nat.zero_add, Nat.reduceAdd, beq_self_eq_true, Bool.and_true, Bool.true_and, if_true, Bool.false_eq_true, if_false, List.set_cons_zero, List.set_cons_succ, Bool.not_true, Bool.not_false, Bool.and_self]
  unfold okS
  simp only [okC_nil, okC_agg, okC_i, okC_b, okC_s, okC_imm, okL_i, okL_b, okL_s, okL_sl, okS_i, okS_b, okS_s, okS_sl, okS_agg, okS_tup, okS_nil, okS_cons, cells_agg, cells_i, cells_b, cells_s, cells_imm, toI_i, toB_b, toS_s, toL_imm, nth_agg, nth_tup, put_agg, put_i, put_b, put_s, put_imm, setCells, List.getD_cons_zero, List.getD_cons_succ, bSh_b, bSh_i, bSh_s, bSh_sl, bSh_some, cond_true, cond_false, decide_true, decide_false, Int.toNat_natCast, Nat.zero_add, Nat.reduceAdd, beq_self_eq_true, Bool.and_true, Bool.true_and, if_true, Bool.false_eq_true, if_false, List.set_cons_zero, List.set_cons_succ, Bool.not_true, Bool.not_false, Bool.and_self]
  cases hs B x <;> cases hs M x <;> rfl
theorem mkL_succ (n : Nat) (g : Nat → AV) : mkL (n + 1) g = mkL n g ++ [g n] := by simp [mkL, List.range_succ]
/-- Sums and products that stay small. -/
theorem mul_le2 {a b A B : Int} (h1 : 0 ≤ a) (h2 : a ≤ A) (h3 : 0 ≤ b) (h4 : b ≤ B) : 0 ≤ a * b ∧ a * b ≤ A * B := ⟨Int.mul_nonneg h1 h3, Int.mul_le_mul h2 h4 h3 (by omega)⟩
theorem impl_spares (d b p s : Int) (B M : List AV) (die : Int) (h0 : 0 ≤ die) (h1 : die ≤ 1000) (hb : 4 ≤ b ∧ b ≤ 12) (hs1 : 1 ≤ s ∧ s ≤ 4 ∧ s < b - 1) :
    dno E 162 [bt d b p s B M, (.i .i64 die)] [] = some (.sl 0 [] none, [.live true false false 2 (mkL s.toNat fun k => .i .i64 (die * b + (b - s + (k : Int))))]) := by
  obtain ⟨m1, m2⟩ := mul_le2 h0 h1 (show (0 : Int) ≤ b by omega) hb.2
  have pr : den E 160 [bt d b p s B M] [] = some (.i .i64 (b - s)) := by
    unfold bt; rw [f160_eq, w64 (by omega) (by omega)]
  unfold bt at pr ⊢
  rw [f162o1_eq, pr]
  simp only [okC_nil, okC_agg, okC_i, okC_b, okC_s, okC_imm, okL_i, okL_b, okL_s, okL_sl, okS_i, okS_b, okS_s, okS_sl, okS_agg, okS_tup, okS_nil, okS_cons, cells_agg, cells_i, cells_b, cells_s, cells_imm, toI_i, toB_b, toS_s, toL_imm, nth_agg, nth_tup, put_agg, put_i, put_b, put_s, put_imm, setCells, List.getD_cons_zero, List.getD_cons_succ, bSh_b, bSh_i, bSh_s, bSh_sl, bSh_some, cond_true, cond_false, decide_true, decide_false, Int.toNat_natCast, Nat.zero_add, Nat.reduceAdd, beq_self_eq_true, Bool.and_true, Bool.true_and, if_true, Bool.false_eq_true, if_false, List.set_cons_zero, List.set_cons_succ, Bool.not_true, Bool.not_false, Bool.and_self]
  have key : ∀ (k i : Nat), i + k = s.toNat → f162o1_l1 die (b - s + (i : Int)) d b p s B M [] (mkL i fun k => .i .i64 (die * b + (b - s + (k : Int)))) = some (.sl 0 [] none, [.live true false false 2 (mkL s.toNat fun k => .i .i64 (die * b + (b - s + (k : Int))))]) := by
    intro k
    induction k with
    | zero =>
      intro i hi
      have : i = s.toNat := by omega
      subst this
      rw [f162o1_l1_eq, dF (by omega), cond_false]
    | succ k ih =>
      intro i hi
      rw [f162o1_l1_eq, dT (by omega), cond_true, if_pos (by rw [mkL_length]; simp only [List.length_cons, List.length_nil, room]; omega), w64 (x := die * b) (by omega) (by omega), w64 (x := die * b + (b - s + (i : Int))) (by omega) (by omega), w64 (x := b - s + (i : Int) + 1) (by omega) (by omega)]
      have := ih (i + 1) (by omega)
      rw [mkL_succ, show b - s + ((i + 1 : Nat) : Int) = b - s + (i : Int) + 1 by omega] at this
      exact this
  have := key s.toNat 0 (by omega)
  simpa [mkL] using this
theorem hs_mkL (n : Nat) (a : Int) (v : Int) : hs (mkL n fun k => .i .i64 (a + (k : Int))) v = (decide (a ≤ v) && decide (v < a + (n : Int))) := by
  rw [Bool.eq_iff_iff, hs_iff, Bool.and_eq_true, decide_eq_true_eq, decide_eq_true_eq, mkL_length]
  constructor
  · rintro ⟨k, h1, h2⟩
    unfold iA at h2
    rw [mkL_getD h1] at h2
    simp only [cells_i, List.getD_cons_zero, toI_i] at h2
    omega
  · rintro ⟨h1, h2⟩
    refine ⟨(v - a).toNat, by omega, ?_⟩
    unfold iA
    rw [mkL_getD (by omega)]
    simp only [cells_i, List.getD_cons_zero, toI_i]
    omega
theorem t2_mkL {n : Nat} (hn : n ≤ 1048576) {g : Nat → Int} (h : ∀ i, i < n → W64 (g i)) : Rw (T2 1048576) 1048576 (mkL n fun k => .i .i64 (g k)) := by
  refine ⟨by rw [mkL_length]; exact hn, fun y hy => ?_⟩
  obtain ⟨i, hi, rfl⟩ := List.mem_map.1 hy
  exact ⟨_, rfl, h i (List.mem_range.1 hi), trivial⟩
/-- The spares that are left, as the reference finds them. -/
theorem spec_av (d b p s : Int) {B M : List AV} (hB : Rw (T2 1048576) 1048576 B) (hM : Rw (T2 1048576) 1048576 M) (die : Int) (h0 : 0 ≤ die) (h1 : die ≤ 1000) (hb : 4 ≤ b ∧ b ≤ 12) (hs1 : 1 ≤ s ∧ s ≤ 4 ∧ s < b - 1) :
    dno E 76 [bt d b p s B M, (.i .i64 die)] [] = some (.sl 0 [] none, [.live true false false 2 ((mkL s.toNat fun k => .i .i64 (die * b + (b - s + (k : Int)))).filter (okS B M))]) := by
  obtain ⟨m1, m2⟩ := mul_le2 (show (0 : Int) ≤ die + 1 by omega) (show die + 1 ≤ 1001 by omega) (show (0 : Int) ≤ b by omega) hb.2
  have e1 : (die + 1) * b = die * b + b := by rw [Int.add_mul, Int.one_mul]
  unfold bt
  rw [f76o1_eq, w64 (x := die + 1) (by omega) (by omega), w64 (x := (die + 1) * b) (by omega) (by omega), w64 (x := (die + 1) * b - s) (by omega) (by omega)]
  have key : ∀ (k i : Nat), i + k = s.toNat → f76o1_l1 die (die * b + (b - s + (i : Int))) d b p s B M [] ((mkL i fun k => .i .i64 (die * b + (b - s + (k : Int)))).filter (okS B M)) = some (.sl 0 [] none, [.live true false false 2 ((mkL s.toNat fun k => .i .i64 (die * b + (b - s + (k : Int)))).filter (okS B M))]) := by
    intro k
    induction k with
    | zero =>
      intro i hi
      have : i = s.toNat := by omega
      subst this
      rw [f76o1_l1_eq, w64 (x := die + 1) (by omega) (by omega), w64 (x := (die + 1) * b) (by omega) (by omega), dF (by omega), cond_false]
    | succ k ih =>
      intro i hi
      have hle : ((mkL i fun k => (.i .i64 (die * b + (b - s + (k : Int))) : AV)).filter (okS B M)).length ≤ i := Nat.le_trans (List.length_filter_le _ _) (by rw [mkL_length]; exact Nat.le_refl _)
      rw [f76o1_l1_eq, w64 (x := die + 1) (by omega) (by omega), w64 (x := (die + 1) * b) (by omega) (by omega), dT (by omega), cond_true]
      have := ih (i + 1) (by omega)
      rw [mkL_succ, show die * b + (b - s + ((i + 1 : Nat) : Int)) = die * b + (b - s + (i : Int)) + 1 by omega, List.filter_append] at this
      simp only [spec_has hB, spec_has hM, f76o1_j2_eq, okC_nil, okC_agg, okC_i, okC_b, okC_s, okC_imm, okL_i, okL_b, okL_s, okL_sl, okS_i, okS_b, okS_s, okS_sl, okS_agg, okS_tup, okS_nil, okS_cons, cells_agg, cells_i, cells_b, cells_s, cells_imm, toI_i, toB_b, toS_s, toL_imm, nth_agg, nth_tup, put_agg, put_i, put_b, put_s, put_imm, setCells, List.getD_cons_zero, List.getD_cons_succ, bSh_b, bSh_i, bSh_s, bSh_sl, bSh_some, cond_true, cond_false, decide_true, decide_false, Int.toNat_natCast, Nat.zero_add, Nat.reduceAdd, beq_self_eq_true, Bool.and_true, Bool.true_and, if_true, Bool.false_eq_true, if_false, List.set_cons_zero, List.set_cons_succ, Bool.not_true, Bool.not_false, Bool.and_self]
      rw [w64 (x := die * b + (b - s + (i : Int)) + 1) (by omega) (by omega), if_pos (by simp only [List.length_cons, List.length_nil, room]; omega)]
      rw [← this]
      have hok : okS B M (.i .i64 (die * b + (b - s + (i : Int)))) = (!hs B (die * b + (b - s + (i : Int))) && !hs M (die * b + (b - s + (i : Int)))) := rfl
      rw [List.filter_cons, hok, List.filter_nil]
      cases hs B (die * b + (b - s + (i : Int))) <;> cases hs M (die * b + (b - s + (i : Int))) <;> simp
  have := key s.toNat 0 (by omega)
  rw [show (die + 1) * b - s = die * b + (b - s + ((0 : Nat) : Int)) by omega]
  simpa [mkL] using this

/-! What is left of a row of spares. -/
theorem first_av (d b p s : Int) {B M : List AV} (hB : Rw (T2 1048576) 1048576 B) (hM : Rw (T2 1048576) 1048576 M) (m : List AV) (hml : m.length ≤ 1048576) (hm : ∀ y, y ∈ m → T2 1048576 y) :
    (den E 184 [(.imm 1 m), (.fn 165 [(.ip (bt d b p s B M) 0)])] [] = some (.i .i64 (-1)) ∧ ∀ i, i < m.length → okS B M (m.getD i .x) = true) ∨
    ∃ j : Nat, j < m.length ∧ den E 184 [(.imm 1 m), (.fn 165 [(.ip (bt d b p s B M) 0)])] [] = some (.i .i64 j) ∧ okS B M (m.getD j .x) = false ∧ ∀ i, i < j → okS B M (m.getD i .x) = true := by
  have key := find_loop (L := fun i => f184q2_l1 m (bt d b p s B M) ((m.length : Nat) : Int) i) (n := m.length) (p := fun j => !okS B M (m.getD j .x)) (F := fun i => some (.i .i64 i)) (X := some (.i .i64 (-1))) (fun i hi => ?_) ?_ m.length 0 (by omega)
  · rw [f184q2_eq]
    rcases key with ⟨j, _, hj, h1, h2, h3⟩ | ⟨h1, h2⟩
    · exact .inr ⟨j, hj, h3, by simpa using h1, fun i hi => by simpa using h2 i (Nat.zero_le _) hi⟩
    · exact .inl ⟨h2, fun i hi => by simpa using h1 i (Nat.zero_le _) hi⟩
  · have hT := hm _ (getD_mem hi)
    try dsimp only
    rw [f184q2_l1_eq, dT (show (i : Int) < ((m.length : Nat) : Int) by omega), cond_true, if_pos (by omega), w64 (x := (i : Int) + 1) (by omega) (by omega)]
    simp only [Int.toNat_natCast, hT.ok, hT.eta, clos_av d b p s hB hM hT, okC_nil, okC_agg, okC_i, okC_b, okC_s, okC_imm, okL_i, okL_b, okL_s, okL_sl, okS_i, okS_b, okS_s, okS_sl, okS_agg, okS_tup, okS_nil, okS_cons, cells_agg, cells_i, cells_b, cells_s, cells_imm, toI_i, toB_b, toS_s, toL_imm, nth_agg, nth_tup, put_agg, put_i, put_b, put_s, put_imm, setCells, List.getD_cons_zero, List.getD_cons_succ, bSh_b, bSh_i, bSh_s, bSh_sl, bSh_some, cond_true, cond_false, decide_true, decide_false, Int.toNat_natCast, Nat.zero_add, Nat.reduceAdd, beq_self_eq_true, Bool.and_true, Bool.true_and, if_true, Bool.false_eq_true, if_false, List.set_cons_zero, List.set_cons_succ, Bool.not_true, Bool.not_false, Bool.and_self]
  · try dsimp only
    rw [f184q2_l1_eq, dF (Int.lt_irrefl _), cond_false]

theorem impl_av (d b p s : Int) {B M : List AV} (hB : Rw (T2 1048576) 1048576 B) (hM : Rw (T2 1048576) 1048576 M) (m : List AV) (hml : m.length ≤ 1048576) (hm : ∀ y, y ∈ m → T2 1048576 y) :
    ∃ r : List AV, dno E 164 [(.sl 0 [] none), (.fn 165 [(.ip (bt d b p s B M) 0)])] [(.live true false false 2 m)] =
      some (.sl 0 [] (some (0, (m.filter (okS B M)).length)), [.live true false false 2 r]) ∧ r.length = m.length ∧ flatVL r = true ∧ r.take (m.filter (okS B M)).length = m.filter (okS B M) := by
  have hfl : ∀ y, T2 1048576 y → flatV y = true := fun y hy => by
    obtain ⟨j, rfl, _⟩ := hy; rfl
  rw [f164o1_eq]
  rcases first_av d b p s hB hM m hml hm with ⟨h1, h2⟩ | ⟨j, hj, h1, h2, h3⟩
  · have hf : m.filter (okS B M) = m := List.filter_eq_self.2 fun y hy => by
      obtain ⟨i, hi, rfl⟩ := List.getElem_of_mem hy
      have := h2 i hi
      rwa [List.getD_eq_getElem?_getD, List.getElem?_eq_getElem hi] at this
    rw [h1, hf]
    exact ⟨m, rfl, rfl, flatVL_of fun y hy => hfl y (hm y hy), by simp⟩
  · rw [h1]
    simp only [bSh_i, toI_i]
    have hj1 : ¬ (j : Int) = -1 := by omega
    have hjn : (m.take j).filter (okS B M) = m.take j := List.filter_eq_self.2 fun y hy => by
      obtain ⟨i, hi, rfl⟩ := List.getElem_of_mem hy
      have hij : i < j := by rw [List.length_take] at hi; omega
      have := h3 i hij
      rw [List.getD_eq_getElem?_getD, List.getElem?_eq_getElem (by omega)] at this
      rw [List.getElem_take]; exact this
    simp only [hj1, decide_false, cond_false]
    rw [w64 (x := (j : Int) + 1) (by omega) (by omega), show ((j : Int) + 1) = ((j + 1 : Nat) : Int) by omega]
    let W : Nat → List AV → List AV := fun k r => r.take k ++ List.replicate (r.length - k) (.i .i64 (0 : Int)) ++ r.drop (k + (r.length - k))
    have key : ∃ r', f164o1_l1 (bt d b p s B M) (j : Int) ((j + 1 : Nat) : Int) m = some (.sl 0 [] (some (0, (m.filter (okS B M)).length)), [.live true false false 2 (W (m.filter (okS B M)).length r')]) ∧ r'.length = m.length ∧ r'.take (m.filter (okS B M)).length = m.filter (okS B M) := by
      refine del_loop (L := fun k i r => f164o1_l1 (bt d b p s B M) k i r) (m := m) (p := okS B M) (T := T2 1048576) (F := fun k r => some (.sl 0 [] (some (0, k)), [.live true false false 2 (W k r)])) hm (fun i k r hi hk hl hg hr => ?_) (fun k r hk hl => ?_) (m.length - (j + 1)) (j + 1) j m (by omega) (by omega) rfl hm ?_ rfl
      · have hT := hm _ (getD_mem hi)
        have hT' := hr _ (getD_mem (show k < r.length by omega))
        try dsimp only
        rw [f164o1_l1_eq, dT (show (i : Int) < ((r.length : Nat) : Int) by omega), cond_true, if_pos (by omega)]
        simp only [Nat.zero_add, Int.toNat_natCast, hg, hT.ok, hT.eta, clos_av d b p s hB hM hT, okC_nil, okC_agg, okC_i, okC_b, okC_s, okC_imm, okL_i, okL_b, okL_s, okL_sl, okS_i, okS_b, okS_s, okS_sl, okS_agg, okS_tup, okS_nil, okS_cons, cells_agg, cells_i, cells_b, cells_s, cells_imm, toI_i, toB_b, toS_s, toL_imm, nth_agg, nth_tup, put_agg, put_i, put_b, put_s, put_imm, setCells, List.getD_cons_zero, List.getD_cons_succ, bSh_b, bSh_i, bSh_s, bSh_sl, bSh_some, cond_true, cond_false, decide_true, decide_false, Int.toNat_natCast, Nat.zero_add, Nat.reduceAdd, beq_self_eq_true, Bool.and_true, Bool.true_and, if_true, Bool.false_eq_true, if_false, List.set_cons_zero, List.set_cons_succ, Bool.not_true, Bool.not_false, Bool.and_self, f164o1_j2_eq, t2_put hT']
        rw [w64 (x := (k : Int) + 1) (by omega) (by omega), if_pos (by omega), w64 (x := (i : Int) + 1) (by omega) (by omega)]
        cases okS B M (m.getD i .x) <;> simp
      · try dsimp only
        rw [f164o1_l1_eq, dF (show ¬ ((m.length : Nat) : Int) < ((r.length : Nat) : Int) by omega), cond_false, if_pos (by omega)]
        simp only [Int.toNat_natCast]
        rw [if_pos (by simp only [List.length_append, List.length_take, List.length_replicate, List.length_drop]; omega)]
        rfl
      · rw [take_getD hj, List.filter_append, hjn, List.filter_cons, if_neg (by rw [h2]; decide)]
        simp
    obtain ⟨r', g1, g2, g3⟩ := key
    have hWl : (W (m.filter (okS B M)).length r').length = m.length := by
      have : (m.filter (okS B M)).length ≤ m.length := List.length_filter_le _ _
      simp only [W, List.length_append, List.length_take, List.length_replicate, List.length_drop]
      omega
    have hle : (m.filter (okS B M)).length ≤ r'.length := by rw [g2]; exact List.length_filter_le _ _
    refine ⟨W (m.filter (okS B M)).length r', g1, hWl, flatVL_of fun y hy => ?_, ?_⟩
    · simp only [W, List.mem_append] at hy
      rcases hy with (hy | hy) | hy
      · rw [g3] at hy
        exact hfl y (hm y (List.mem_filter.1 hy).1)
      · rw [(List.mem_replicate.1 hy).2]; rfl
      · rw [List.drop_eq_nil_of_le (by omega)] at hy; cases hy
    · simp only [W, List.append_assoc]
      rw [List.take_append_of_le_length (by rw [List.length_take]; omega), List.take_take, Nat.min_self, g3]

/-- The spares that are left, as the program finds them. -/
theorem impl_avail (d b p s : Int) {B M : List AV} (hB : Rw (T2 1048576) 1048576 B) (hM : Rw (T2 1048576) 1048576 M) (die : Int) (h0 : 0 ≤ die) (h1 : die ≤ 1000) (hb : 4 ≤ b ∧ b ≤ 12) (hs1 : 1 ≤ s ∧ s ≤ 4 ∧ s < b - 1) :
    den E 128 [bt d b p s B M, (.i .i64 die)] [] = some (.imm 1 ((mkL s.toNat fun k => .i .i64 (die * b + (b - s + (k : Int)))).filter (okS B M))) := by
  obtain ⟨m1, m2⟩ := mul_le2 h0 h1 (show (0 : Int) ≤ b by omega) hb.2
  have ht := t2_mkL (n := s.toNat) (by omega) (g := fun k => die * b + (b - s + (k : Int))) (fun i hi => ⟨by omega, by omega⟩)
  have e1 := impl_spares d b p s B M die h0 h1 hb hs1
  obtain ⟨r, e2, e3, e4, e5⟩ := impl_av d b p s hB hM _ ht.1 ht.2
  have fl : flatVL (mkL s.toNat fun k => (.i .i64 (die * b + (b - s + (k : Int))) : AV)) = true := t2_flat ht
  unfold bt at e1 e2 ⊢
  rw [f128_eq, e1]
  have hle : ((mkL s.toNat fun k => (.i .i64 (die * b + (b - s + (k : Int))) : AV)).filter (okS B M)).length ≤ r.length := by rw [e3]; exact List.length_filter_le _ _
  simp only [e2, e3, e4, bOwn_some, bOwnF_some, bOwnS_some, bOwnFS_some, okRs_nil, okRs_cons, okR_row, okR_same, okR_var, okR_gone, okS_so, okS_pr, okS_po, okLens_nil, okLens_same, okLens_row, okLens_var, row_live, flatR_live, flatL_nil, flatL_cons, flat_i, flat_b, flat_s, flat_sl, flat_agg, flat_tup, List.all_cons, List.all_nil, List.length_cons, List.length_nil, Nat.reduceLeDiff, Nat.le_refl, decide_true, Bool.and_self, mkL_length, List.headD_cons, okC_nil, okC_agg, okC_i, okC_b, okC_s, okC_imm, okL_i, okL_b, okL_s, okL_sl, okS_i, okS_b, okS_s, okS_sl, okS_agg, okS_tup, okS_nil, okS_cons, cells_agg, cells_i, cells_b, cells_s, cells_imm, toI_i, toB_b, toS_s, toL_imm, nth_agg, nth_tup, put_agg, put_i, put_b, put_s, put_imm, setCells, List.getD_cons_zero, List.getD_cons_succ, bSh_b, bSh_i, bSh_s, bSh_sl, bSh_some, cond_true, cond_false, decide_true, decide_false, Int.toNat_natCast, Nat.zero_add, Nat.reduceAdd, beq_self_eq_true, Bool.and_true, Bool.true_and, if_true, Bool.false_eq_true, if_false, List.set_cons_zero, List.set_cons_succ, Bool.not_true, Bool.not_false, Bool.and_self]
  simp only [AV.off, AV.cnt, List.drop_zero, e5]

/-! A table is valid. -/
def hmB (b s : Int) (i : Nat) : Int := (i : Int).tdiv (b - s) * b + (i : Int).tmod (b - s)
theorem hmB_bd {b s : Int} {i : Nat} (hi : i ≤ 40) (hb : 4 ≤ b ∧ b ≤ 12) (hs1 : 1 ≤ s ∧ s ≤ 4 ∧ s < b - 1) : (0 ≤ (i : Int).tdiv (b - s) ∧ (i : Int).tdiv (b - s) ≤ 40) ∧ (0 ≤ (i : Int).tdiv (b - s) * b ∧ (i : Int).tdiv (b - s) * b ≤ 480) ∧ (0 ≤ (i : Int).tmod (b - s) ∧ (i : Int).tmod (b - s) ≤ 40) ∧ 0 ≤ hmB b s i ∧ hmB b s i ≤ 520 := by
  have h1 : 0 ≤ (i : Int).tdiv (b - s) := Int.tdiv_nonneg (by omega) (by omega)
  have h2 : (i : Int).tdiv (b - s) ≤ 40 := by
    have := Int.tdiv_le_self (b - s) (show (0 : Int) ≤ (i : Int) by omega)
    omega
  obtain ⟨h3, h4⟩ := mul_le2 h1 h2 (show (0 : Int) ≤ b by omega) hb.2
  have h5 := Int.tmod_nonneg (a := (i : Int)) (b - s) (by omega)
  have h6 := Int.tmod_lt_of_pos (i : Int) (show 0 < b - s by omega)
  unfold hmB
  omega
noncomputable def okRm (b s : Int) (B M : List AV) (i : Nat) : Bool := !hs B (iA M i) && (!hs (M.take i) (iA M i) && (decide (iA M i = hmB b s i) || ((decide ((hmB b s i).tdiv b * b + (b - s) ≤ iA M i) && decide (iA M i < (hmB b s i).tdiv b * b + b)) && hs B (hmB b s i))))
noncomputable def okBt (d b p s : Int) (B M : List AV) : Bool := ((decide (2 ≤ d) && decide (d ≤ 3)) && ((decide (4 ≤ b) && decide (b ≤ 12)) && (decide (p = 8) || decide (p = 16)))) &&
  (((decide (1 ≤ s) && decide (s ≤ 4)) && decide (s < b - 1)) && ((List.range' 0 B.length).all (fun i => inn (d * b - 1) B i && snB B i) && (decide (((M.length : Nat) : Int) = d * (b - s)) && (List.range' 0 M.length).all (okRm b s B M))))
theorem t2_take {l : List AV} (h : Rw (T2 1048576) 1048576 l) (i : Nat) : Rw (T2 1048576) 1048576 (l.take i) := ⟨Nat.le_trans (by rw [List.length_take]; omega) h.1, fun y hy => h.2 y (List.mem_of_mem_take hy)⟩
theorem spec_geo (d b p : Int) : den E 156 [(.agg [(.i .i64 d), (.i .i64 b), (.i .i64 p)])] [] = some (.b ((decide (2 ≤ d) && decide (d ≤ 3)) && ((decide (4 ≤ b) && decide (b ≤ 12)) && (decide (p = 8) || decide (p = 16))))) := by
  rw [f156_eq]
  simp only [in90, okC_nil, okC_agg, okC_i, okC_b, okC_s, okC_imm, okL_i, okL_b, okL_s, okL_sl, okS_i, okS_b, okS_s, okS_sl, okS_agg, okS_tup, okS_nil, okS_cons, cells_agg, cells_i, cells_b, cells_s, cells_imm, toI_i, toB_b, toS_s, toL_imm, nth_agg, nth_tup, put_agg, put_i, put_b, put_s, put_imm, setCells, List.getD_cons_zero, List.getD_cons_succ, bSh_b, bSh_i, bSh_s, bSh_sl, bSh_some, cond_true, cond_false, decide_true, decide_false, Int.toNat_natCast, Nat.zero_add, Nat.reduceAdd, beq_self_eq_true, Bool.and_true, Bool.true_and, if_true, Bool.false_eq_true, if_false, List.set_cons_zero, List.set_cons_succ, Bool.not_true, Bool.not_false, Bool.and_self]
  cases (decide (2 ≤ d) && decide (d ≤ 3)) <;> cases (decide (4 ≤ b) && decide (b ≤ 12)) <;> cases decide (p = 8) <;> rfl
theorem impl_geo (d b p : Int) : den E 119 [(.agg [(.i .i64 d), (.i .i64 b), (.i .i64 p)])] [] = some (.b ((decide (2 ≤ d) && decide (d ≤ 3)) && ((decide (4 ≤ b) && decide (b ≤ 12)) && (decide (p = 8) || decide (p = 16))))) := by
  rw [f119_eq]
  simp only [in72, okC_nil, okC_agg, okC_i, okC_b, okC_s, okC_imm, okL_i, okL_b, okL_s, okL_sl, okS_i, okS_b, okS_s, okS_sl, okS_agg, okS_tup, okS_nil, okS_cons, cells_agg, cells_i, cells_b, cells_s, cells_imm, toI_i, toB_b, toS_s, toL_imm, nth_agg, nth_tup, put_agg, put_i, put_b, put_s, put_imm, setCells, List.getD_cons_zero, List.getD_cons_succ, bSh_b, bSh_i, bSh_s, bSh_sl, bSh_some, cond_true, cond_false, decide_true, decide_false, Int.toNat_natCast, Nat.zero_add, Nat.reduceAdd, beq_self_eq_true, Bool.and_true, Bool.true_and, if_true, Bool.false_eq_true, if_false, List.set_cons_zero, List.set_cons_succ, Bool.not_true, Bool.not_false, Bool.and_self]
  cases (decide (2 ≤ d) && decide (d ≤ 3)) <;> cases (decide (4 ≤ b) && decide (b ≤ 12)) <;> cases decide (p = 8) <;> rfl
theorem spec_rises {l : List AV} (U : Int) (h : Rw (T2 1048576) 1048576 l) : den E 157 [(.imm 1 l), (.i .i64 0), (.i .i64 U)] [] = some (.b ((List.range' 0 l.length).all fun i => inn U l i && snB l i)) := by
  have hl := h.1
  rw [f157_eq]
  have := all_loop (L := fun i => f157_l1 l 0 U i) (n := l.length) (p := fun i => inn U l i && snB l i) (X := some (.b true)) (F := some (.b false)) (fun i hi => ?_) ?_ l.length 0 (by omega)
  · refine this.trans ?_
    rw [cond_andb, Bool.and_true]
  · have hT := h.at hi
    try dsimp only
    rw [f157_l1_eq, dT (show (i : Int) < ((l.length : Nat) : Int) by omega), cond_true, if_pos (by omega), Int.toNat_natCast, hT.ok, if_pos rfl, in90, bSh_b]
    simp only [toB_b, f157_j2_eq, w64 (x := (i : Int) + 1) (by omega) (by omega)]
    show cond ((!inn U l i) == false) _ _ = _
    cases hq : inn U l i
    · rfl
    by_cases h0 : i = 0
    · subst h0
      simp only [snB, okC_nil, okC_agg, okC_i, okC_b, okC_s, okC_imm, okL_i, okL_b, okL_s, okL_sl, okS_i, okS_b, okS_s, okS_sl, okS_agg, okS_tup, okS_nil, okS_cons, cells_agg, cells_i, cells_b, cells_s, cells_imm, toI_i, toB_b, toS_s, toL_imm, nth_agg, nth_tup, put_agg, put_i, put_b, put_s, put_imm, setCells, List.getD_cons_zero, List.getD_cons_succ, bSh_b, bSh_i, bSh_s, bSh_sl, bSh_some, cond_true, cond_false, decide_true, decide_false, Int.toNat_natCast, Nat.zero_add, Nat.reduceAdd, beq_self_eq_true, Bool.and_true, Bool.true_and, if_true, Bool.false_eq_true, if_false, List.set_cons_zero, List.set_cons_succ, Bool.not_true, Bool.not_false, Bool.and_self]
      rfl
    · have hi1 : i - 1 < l.length := by omega
      have hP := h.at hi1
      have hpos : (0 : Int) < (i : Int) := by omega
      simp only [hpos, h0, snB, Bool.false_or, okC_nil, okC_agg, okC_i, okC_b, okC_s, okC_imm, okL_i, okL_b, okL_s, okL_sl, okS_i, okS_b, okS_s, okS_sl, okS_agg, okS_tup, okS_nil, okS_cons, cells_agg, cells_i, cells_b, cells_s, cells_imm, toI_i, toB_b, toS_s, toL_imm, nth_agg, nth_tup, put_agg, put_i, put_b, put_s, put_imm, setCells, List.getD_cons_zero, List.getD_cons_succ, bSh_b, bSh_i, bSh_s, bSh_sl, bSh_some, cond_true, cond_false, decide_true, decide_false, Int.toNat_natCast, Nat.zero_add, Nat.reduceAdd, beq_self_eq_true, Bool.and_true, Bool.true_and, if_true, Bool.false_eq_true, if_false, List.set_cons_zero, List.set_cons_succ, Bool.not_true, Bool.not_false, Bool.and_self]
      rw [w64 (x := (i : Int) - 1) (by omega) (by omega), if_pos (by omega), show ((i : Int) - 1).toNat = i - 1 by omega, if_pos hP.ok, if_pos (by omega)]
      show cond (decide (sv l i ≤ sv l (i - 1))) _ _ = _
      cases decide (sv l i ≤ sv l (i - 1)) <;> rfl
  · try dsimp only
    rw [f157_l1_eq, dF (Int.lt_irrefl _), cond_false]
theorem spec_home (d b p s : Int) (B M : List AV) (i : Nat) (hi : i ≤ 40) (hb : 4 ≤ b ∧ b ≤ 12) (hs1 : 1 ≤ s ∧ s ≤ 4 ∧ s < b - 1) : den E 116 [bt d b p s B M, (.i .i64 i)] [] = some (.i .i64 (hmB b s i)) := by
  have h := hmB_bd hi hb hs1
  unfold bt
  have hne : ¬ b - s = 0 := by omega
  rw [f116_eq]
  simp only [w64 (x := b - s) (by omega) (by omega), hne, if_false]
  rw [w64 (x := (i : Int).tdiv (b - s)) (by omega) (by omega), w64 (x := (i : Int).tdiv (b - s) * b) (by omega) (by omega)]
  unfold hmB at *
  rw [w64 (by omega) (by omega)]
theorem impl_home (d b p s : Int) (B M : List AV) (i : Nat) (hi : i ≤ 40) (hb : 4 ≤ b ∧ b ≤ 12) (hs1 : 1 ≤ s ∧ s ≤ 4 ∧ s < b - 1) : den E 161 [bt d b p s B M, (.i .i64 i)] [] = some (.i .i64 (hmB b s i)) := by
  have h := hmB_bd hi hb hs1
  have pr : den E 160 [bt d b p s B M] [] = some (.i .i64 (b - s)) := by
    unfold bt; rw [f160_eq, w64 (by omega) (by omega)]
  unfold bt at pr ⊢
  rw [f161_eq, pr]
  have hne : ¬ b - s = 0 := by omega
  simp only [hne, okC_nil, okC_agg, okC_i, okC_b, okC_s, okC_imm, okL_i, okL_b, okL_s, okL_sl, okS_i, okS_b, okS_s, okS_sl, okS_agg, okS_tup, okS_nil, okS_cons, cells_agg, cells_i, cells_b, cells_s, cells_imm, toI_i, toB_b, toS_s, toL_imm, nth_agg, nth_tup, put_agg, put_i, put_b, put_s, put_imm, setCells, List.getD_cons_zero, List.getD_cons_succ, bSh_b, bSh_i, bSh_s, bSh_sl, bSh_some, cond_true, cond_false, decide_true, decide_false, Int.toNat_natCast, Nat.zero_add, Nat.reduceAdd, beq_self_eq_true, Bool.and_true, Bool.true_and, if_true, Bool.false_eq_true, if_false, List.set_cons_zero, List.set_cons_succ, Bool.not_true, Bool.not_false, Bool.and_self]
  rw [w64 (x := (i : Int).tdiv (b - s)) (by omega) (by omega), w64 (x := (i : Int).tdiv (b - s) * b) (by omega) (by omega)]
  unfold hmB at *
  rw [w64 (by omega) (by omega)]
theorem impl_rm (d b p s : Int) {B : List AV} (M : List AV) (hB : Rw (T2 1048576) 1048576 B) (i : Nat) (v : Int) (hi : i ≤ 40) (hb : 4 ≤ b ∧ b ≤ 12) (hs1 : 1 ≤ s ∧ s ≤ 4 ∧ s < b - 1) : den E 123 [bt d b p s B M, (.i .i64 i), (.i .i64 v)] [] =
    some (.b (!hs B v && (decide (v = hmB b s i) || ((decide ((hmB b s i).tdiv b * b + (b - s) ≤ v) && decide (v < (hmB b s i).tdiv b * b + b)) && hs B (hmB b s i))))) := by
  obtain ⟨_, _, _, q0, q1⟩ := hmB_bd hi hb hs1
  have t0 : 0 ≤ (hmB b s i).tdiv b := Int.tdiv_nonneg (by omega) (by omega)
  have t1 : (hmB b s i).tdiv b ≤ 520 := by have := Int.tdiv_le_self b q0; omega
  obtain ⟨m1, m2⟩ := mul_le2 t0 t1 (show (0 : Int) ≤ b by omega) hb.2
  have e0 := impl_home d b p s B M i hi hb hs1
  have e1 := fun x => is_bad d b p s M hB x
  have e2 := impl_spares d b p s B M _ t0 (by omega) hb hs1
  have ht := t2_mkL (n := s.toNat) (by omega) (g := fun k => (hmB b s i).tdiv b * b + (b - s + (k : Int))) (fun i hi => ⟨by omega, by omega⟩)
  have e3 := impl_has ht v
  have e4 : hs (mkL s.toNat fun k => (.i .i64 ((hmB b s i).tdiv b * b + (b - s + (k : Int))) : AV)) v = (decide ((hmB b s i).tdiv b * b + (b - s) ≤ v) && decide (v < (hmB b s i).tdiv b * b + b)) := by
    have := hs_mkL s.toNat ((hmB b s i).tdiv b * b + (b - s)) v
    simp only [Int.add_assoc] at this ⊢
    rw [this]
    congr 2
    apply propext; omega
  unfold bt at e0 e1 e2 ⊢
  rw [f123_eq, e0]
  simp only [e1, okC_nil, okC_agg, okC_i, okC_b, okC_s, okC_imm, okL_i, okL_b, okL_s, okL_sl, okS_i, okS_b, okS_s, okS_sl, okS_agg, okS_tup, okS_nil, okS_cons, cells_agg, cells_i, cells_b, cells_s, cells_imm, toI_i, toB_b, toS_s, toL_imm, nth_agg, nth_tup, put_agg, put_i, put_b, put_s, put_imm, setCells, List.getD_cons_zero, List.getD_cons_succ, bSh_b, bSh_i, bSh_s, bSh_sl, bSh_some, cond_true, cond_false, decide_true, decide_false, Int.toNat_natCast, Nat.zero_add, Nat.reduceAdd, beq_self_eq_true, Bool.and_true, Bool.true_and, if_true, Bool.false_eq_true, if_false, List.set_cons_zero, List.set_cons_succ, Bool.not_true, Bool.not_false, Bool.and_self]
  by_cases hv : v = hmB b s i
  · simp only [hv, okC_nil, okC_agg, okC_i, okC_b, okC_s, okC_imm, okL_i, okL_b, okL_s, okL_sl, okS_i, okS_b, okS_s, okS_sl, okS_agg, okS_tup, okS_nil, okS_cons, cells_agg, cells_i, cells_b, cells_s, cells_imm, toI_i, toB_b, toS_s, toL_imm, nth_agg, nth_tup, put_agg, put_i, put_b, put_s, put_imm, setCells, List.getD_cons_zero, List.getD_cons_succ, bSh_b, bSh_i, bSh_s, bSh_sl, bSh_some, cond_true, cond_false, decide_true, decide_false, Int.toNat_natCast, Nat.zero_add, Nat.reduceAdd, beq_self_eq_true, Bool.and_true, Bool.true_and, if_true, Bool.false_eq_true, if_false, List.set_cons_zero, List.set_cons_succ, Bool.not_true, Bool.not_false, Bool.and_self, Bool.true_or]
  simp only [hv, okC_nil, okC_agg, okC_i, okC_b, okC_s, okC_imm, okL_i, okL_b, okL_s, okL_sl, okS_i, okS_b, okS_s, okS_sl, okS_agg, okS_tup, okS_nil, okS_cons, cells_agg, cells_i, cells_b, cells_s, cells_imm, toI_i, toB_b, toS_s, toL_imm, nth_agg, nth_tup, put_agg, put_i, put_b, put_s, put_imm, setCells, List.getD_cons_zero, List.getD_cons_succ, bSh_b, bSh_i, bSh_s, bSh_sl, bSh_some, cond_true, cond_false, decide_true, decide_false, Int.toNat_natCast, Nat.zero_add, Nat.reduceAdd, beq_self_eq_true, Bool.and_true, Bool.true_and, if_true, Bool.false_eq_true, if_false, List.set_cons_zero, List.set_cons_succ, Bool.not_true, Bool.not_false, Bool.and_self, Bool.false_or]
  cases hs B v
  rotate_left
  · rfl
  cases hq : hs B (hmB b s i)
  · simp
  simp only [okC_nil, okC_agg, okC_i, okC_b, okC_s, okC_imm, okL_i, okL_b, okL_s, okL_sl, okS_i, okS_b, okS_s, okS_sl, okS_agg, okS_tup, okS_nil, okS_cons, cells_agg, cells_i, cells_b, cells_s, cells_imm, toI_i, toB_b, toS_s, toL_imm, nth_agg, nth_tup, put_agg, put_i, put_b, put_s, put_imm, setCells, List.getD_cons_zero, List.getD_cons_succ, bSh_b, bSh_i, bSh_s, bSh_sl, bSh_some, cond_true, cond_false, decide_true, decide_false, Int.toNat_natCast, Nat.zero_add, Nat.reduceAdd, beq_self_eq_true, Bool.and_true, Bool.true_and, if_true, Bool.false_eq_true, if_false, List.set_cons_zero, List.set_cons_succ, Bool.not_true, Bool.not_false, Bool.and_self]
  rw [if_neg (by omega), w64 (by omega) (by omega), e2]
  simp only [e3, e4, bOwn_some, bOwnF_some, bOwnS_some, bOwnFS_some, okRs_nil, okRs_cons, okR_row, okR_same, okR_var, okR_gone, okS_so, okS_pr, okS_po, okLens_nil, okLens_same, okLens_row, okLens_var, row_live, flatR_live, flatL_nil, flatL_cons, flat_i, flat_b, flat_s, flat_sl, flat_agg, flat_tup, List.all_cons, List.all_nil, List.length_cons, List.length_nil, Nat.reduceLeDiff, Nat.le_refl, decide_true, Bool.and_self, mkL_length, List.headD_cons, okC_nil, okC_agg, okC_i, okC_b, okC_s, okC_imm, okL_i, okL_b, okL_s, okL_sl, okS_i, okS_b, okS_s, okS_sl, okS_agg, okS_tup, okS_nil, okS_cons, cells_agg, cells_i, cells_b, cells_s, cells_imm, toI_i, toB_b, toS_s, toL_imm, nth_agg, nth_tup, put_agg, put_i, put_b, put_s, put_imm, setCells, List.getD_cons_zero, List.getD_cons_succ, bSh_b, bSh_i, bSh_s, bSh_sl, bSh_some, cond_true, cond_false, decide_true, decide_false, Int.toNat_natCast, Nat.zero_add, Nat.reduceAdd, beq_self_eq_true, Bool.and_true, Bool.true_and, if_true, Bool.false_eq_true, if_false, List.set_cons_zero, List.set_cons_succ, Bool.not_true, Bool.not_false, Bool.and_self]
theorem spec_spareOf (d b p s : Int) (B M : List AV) (die v : Int) (h0 : 0 ≤ die) (h1 : die ≤ 1000) (hb : 4 ≤ b ∧ b ≤ 12) (hs1 : 1 ≤ s ∧ s ≤ 4 ∧ s < b - 1) : den E 117 [bt d b p s B M, (.i .i64 die), (.i .i64 v)] [] = some (.b (decide (die * b + (b - s) ≤ v) && decide (v < die * b + b))) := by
  obtain ⟨m1, m2⟩ := mul_le2 (show (0 : Int) ≤ die + 1 by omega) (show die + 1 ≤ 1001 by omega) (show (0 : Int) ≤ b by omega) hb.2
  have e1 : (die + 1) * b = die * b + b := by rw [Int.add_mul, Int.one_mul]
  unfold bt
  rw [f117_eq, w64 (x := die + 1) (by omega) (by omega), w64 (x := (die + 1) * b) (by omega) (by omega), w64 (x := (die + 1) * b - s) (by omega) (by omega), w64 (x := (die + 1) * b - 1) (by omega) (by omega), in90, bSh_b, e1]
  have a1 : (die * b + b - s ≤ v) = (die * b + (b - s) ≤ v) := propext (by omega)
  have a2 : (v ≤ die * b + b - 1) = (v < die * b + b) := propext (by omega)
  simp only [a1, a2, okC_nil, okC_agg, okC_i, okC_b, okC_s, okC_imm, okL_i, okL_b, okL_s, okL_sl, okS_i, okS_b, okS_s, okS_sl, okS_agg, okS_tup, okS_nil, okS_cons, cells_agg, cells_i, cells_b, cells_s, cells_imm, toI_i, toB_b, toS_s, toL_imm, nth_agg, nth_tup, put_agg, put_i, put_b, put_s, put_imm, setCells, List.getD_cons_zero, List.getD_cons_succ, bSh_b, bSh_i, bSh_s, bSh_sl, bSh_some, cond_true, cond_false, decide_true, decide_false, Int.toNat_natCast, Nat.zero_add, Nat.reduceAdd, beq_self_eq_true, Bool.and_true, Bool.true_and, if_true, Bool.false_eq_true, if_false, List.set_cons_zero, List.set_cons_succ, Bool.not_true, Bool.not_false, Bool.and_self]
theorem spec_shape (d b p s : Int) {B : List AV} (M : List AV) (v0 : W64 s) (hB : Rw (T2 1048576) 1048576 B) : den E 115 [bt d b p s B M] [] = some (.b (((decide (2 ≤ d) && decide (d ≤ 3)) && ((decide (4 ≤ b) && decide (b ≤ 12)) && (decide (p = 8) || decide (p = 16)))) &&
    (((decide (1 ≤ s) && decide (s ≤ 4)) && decide (s < b - 1)) && (List.range' 0 B.length).all (fun i => inn (d * b - 1) B i && snB B i)))) := by
  unfold bt
  rw [f115_eq, spec_geo]
  simp only [in90, f71_eq, okC_nil, okC_agg, okC_i, okC_b, okC_s, okC_imm, okL_i, okL_b, okL_s, okL_sl, okS_i, okS_b, okS_s, okS_sl, okS_agg, okS_tup, okS_nil, okS_cons, cells_agg, cells_i, cells_b, cells_s, cells_imm, toI_i, toB_b, toS_s, toL_imm, nth_agg, nth_tup, put_agg, put_i, put_b, put_s, put_imm, setCells, List.getD_cons_zero, List.getD_cons_succ, bSh_b, bSh_i, bSh_s, bSh_sl, bSh_some, cond_true, cond_false, decide_true, decide_false, Int.toNat_natCast, Nat.zero_add, Nat.reduceAdd, beq_self_eq_true, Bool.and_true, Bool.true_and, if_true, Bool.false_eq_true, if_false, List.set_cons_zero, List.set_cons_succ, Bool.not_true, Bool.not_false, Bool.and_self]
  cases hg : ((decide (2 ≤ d) && decide (d ≤ 3)) && ((decide (4 ≤ b) && decide (b ≤ 12)) && (decide (p = 8) || decide (p = 16))))
  · rfl
  simp only [Bool.and_eq_true, decide_eq_true_eq] at hg
  obtain ⟨hd, hb, _⟩ := hg
  obtain ⟨m1, m2⟩ := mul_le2 (show (0 : Int) ≤ d by omega) hd.2 (show (0 : Int) ≤ b by omega) hb.2
  rw [w64 (x := b - 1) (by omega) (by omega), w64 (x := d * b) (by omega) (by omega), w64 (x := d * b - 1) (by omega) (by omega), spec_rises _ hB]
  simp only [okC_nil, okC_agg, okC_i, okC_b, okC_s, okC_imm, okL_i, okL_b, okL_s, okL_sl, okS_i, okS_b, okS_s, okS_sl, okS_agg, okS_tup, okS_nil, okS_cons, cells_agg, cells_i, cells_b, cells_s, cells_imm, toI_i, toB_b, toS_s, toL_imm, nth_agg, nth_tup, put_agg, put_i, put_b, put_s, put_imm, setCells, List.getD_cons_zero, List.getD_cons_succ, bSh_b, bSh_i, bSh_s, bSh_sl, bSh_some, cond_true, cond_false, decide_true, decide_false, Int.toNat_natCast, Nat.zero_add, Nat.reduceAdd, beq_self_eq_true, Bool.and_true, Bool.true_and, if_true, Bool.false_eq_true, if_false, List.set_cons_zero, List.set_cons_succ, Bool.not_true, Bool.not_false, Bool.and_self]
  cases (decide (1 ≤ s) && decide (s ≤ 4)) <;> cases decide (s < b - 1) <;> rfl
theorem okBt_bd {d b p s : Int} {B M : List AV} (h : okBt d b p s B M = true) : (2 ≤ d ∧ d ≤ 3) ∧ (4 ≤ b ∧ b ≤ 12) ∧ (1 ≤ s ∧ s ≤ 4 ∧ s < b - 1) ∧ (∀ i, i < B.length → inn (d * b - 1) B i = true ∧ snB B i = true) ∧ ((M.length : Nat) : Int) = d * (b - s) ∧ M.length ≤ 40 ∧ ∀ i, i < M.length → okRm b s B M i = true := by
  unfold okBt at h
  simp only [Bool.and_eq_true, decide_eq_true_eq, List.all_eq_true, List.mem_range'_1] at h
  obtain ⟨⟨hd, hb, _⟩, ⟨h1, h2⟩, h3, h4, h5⟩ := h
  obtain ⟨m1, m2⟩ := mul_le2 (show (0 : Int) ≤ d by omega) hd.2 (show (0 : Int) ≤ b - s by omega) (show b - s ≤ 11 by omega)
  exact ⟨hd, hb, ⟨h1.1, h1.2, h2⟩, fun i hi => h3 i ⟨by omega, by omega⟩, h4, by omega, fun i hi => h5 i ⟨by omega, by omega⟩⟩
theorem spec_valid {d b p s : Int} {B M : List AV} (v0 : W64 d) (v1 : W64 b) (v3 : W64 s) (hB : Rw (T2 1048576) 1048576 B) (hM : Rw (T2 1048576) 1048576 M) : den E 69 [bt d b p s B M] [] = some (.b (okBt d b p s B M)) := by
  have e0 := spec_shape d b p s M v3 hB
  unfold bt at e0 ⊢
  rw [f69_eq, e0]
  unfold okBt
  simp only [okC_nil, okC_agg, okC_i, okC_b, okC_s, okC_imm, okL_i, okL_b, okL_s, okL_sl, okS_i, okS_b, okS_s, okS_sl, okS_agg, okS_tup, okS_nil, okS_cons, cells_agg, cells_i, cells_b, cells_s, cells_imm, toI_i, toB_b, toS_s, toL_imm, nth_agg, nth_tup, put_agg, put_i, put_b, put_s, put_imm, setCells, List.getD_cons_zero, List.getD_cons_succ, bSh_b, bSh_i, bSh_s, bSh_sl, bSh_some, cond_true, cond_false, decide_true, decide_false, Int.toNat_natCast, Nat.zero_add, Nat.reduceAdd, beq_self_eq_true, Bool.and_true, Bool.true_and, if_true, Bool.false_eq_true, if_false, List.set_cons_zero, List.set_cons_succ, Bool.not_true, Bool.not_false, Bool.and_self]
  cases hg : ((decide (2 ≤ d) && decide (d ≤ 3)) && ((decide (4 ≤ b) && decide (b ≤ 12)) && (decide (p = 8) || decide (p = 16))))
  · rfl
  cases hg2 : ((decide (1 ≤ s) && decide (s ≤ 4)) && decide (s < b - 1))
  · rfl
  cases (List.range' 0 B.length).all (fun i => inn (d * b - 1) B i && snB B i)
  · rfl
  simp only [Bool.and_eq_true, decide_eq_true_eq] at hg hg2
  obtain ⟨hd, hb, _⟩ := hg
  have hs1 : 1 ≤ s ∧ s ≤ 4 ∧ s < b - 1 := ⟨hg2.1.1, hg2.1.2, hg2.2⟩
  obtain ⟨m1, m2⟩ := mul_le2 (show (0 : Int) ≤ d by omega) hd.2 (show (0 : Int) ≤ b - s by omega) (show b - s ≤ 11 by omega)
  rw [w64 (x := b - s) (by omega) (by omega), w64 (x := d * (b - s)) (by omega) (by omega)]
  by_cases hl : ((M.length : Nat) : Int) = d * (b - s)
  rotate_left
  · simp only [hl, okC_nil, okC_agg, okC_i, okC_b, okC_s, okC_imm, okL_i, okL_b, okL_s, okL_sl, okS_i, okS_b, okS_s, okS_sl, okS_agg, okS_tup, okS_nil, okS_cons, cells_agg, cells_i, cells_b, cells_s, cells_imm, toI_i, toB_b, toS_s, toL_imm, nth_agg, nth_tup, put_agg, put_i, put_b, put_s, put_imm, setCells, List.getD_cons_zero, List.getD_cons_succ, bSh_b, bSh_i, bSh_s, bSh_sl, bSh_some, cond_true, cond_false, decide_true, decide_false, Int.toNat_natCast, Nat.zero_add, Nat.reduceAdd, beq_self_eq_true, Bool.and_true, Bool.true_and, if_true, Bool.false_eq_true, if_false, List.set_cons_zero, List.set_cons_succ, Bool.not_true, Bool.not_false, Bool.and_self, Bool.false_and, Bool.and_false]
  simp only [hl, okC_nil, okC_agg, okC_i, okC_b, okC_s, okC_imm, okL_i, okL_b, okL_s, okL_sl, okS_i, okS_b, okS_s, okS_sl, okS_agg, okS_tup, okS_nil, okS_cons, cells_agg, cells_i, cells_b, cells_s, cells_imm, toI_i, toB_b, toS_s, toL_imm, nth_agg, nth_tup, put_agg, put_i, put_b, put_s, put_imm, setCells, List.getD_cons_zero, List.getD_cons_succ, bSh_b, bSh_i, bSh_s, bSh_sl, bSh_some, cond_true, cond_false, decide_true, decide_false, Int.toNat_natCast, Nat.zero_add, Nat.reduceAdd, beq_self_eq_true, Bool.and_true, Bool.true_and, if_true, Bool.false_eq_true, if_false, List.set_cons_zero, List.set_cons_succ, Bool.not_true, Bool.not_false, Bool.and_self]
  have hl40 : M.length ≤ 40 := by omega
  have := all_loop (L := fun i => f69_l1 i d b p s B M) (n := M.length) (p := okRm b s B M) (X := some (.b true)) (F := some (.b false)) (fun i hi => ?_) ?_ M.length 0 (by omega)
  · refine this.trans ?_
    rw [cond_andb, Bool.and_true]
  · have hT := hM.at hi
    obtain ⟨_, _, _, q0, q1⟩ := hmB_bd (show i ≤ 40 by omega) hb hs1
    have t0 : 0 ≤ (hmB b s i).tdiv b := Int.tdiv_nonneg (by omega) (by omega)
    have t1 : (hmB b s i).tdiv b ≤ 520 := by have := Int.tdiv_le_self b q0; omega
    have e1 := spec_home d b p s B M i (by omega) hb hs1
    have e2 := fun v => spec_spareOf d b p s B M _ v t0 (show (hmB b s i).tdiv b ≤ 1000 by omega) hb hs1
    unfold bt at e1 e2
    try dsimp only
    rw [f69_l1_eq, dT (show (i : Int) < ((M.length : Nat) : Int) by omega), cond_true, e1]
    simp only [okC_nil, okC_agg, okC_i, okC_b, okC_s, okC_imm, okL_i, okL_b, okL_s, okL_sl, okS_i, okS_b, okS_s, okS_sl, okS_agg, okS_tup, okS_nil, okS_cons, cells_agg, cells_i, cells_b, cells_s, cells_imm, toI_i, toB_b, toS_s, toL_imm, nth_agg, nth_tup, put_agg, put_i, put_b, put_s, put_imm, setCells, List.getD_cons_zero, List.getD_cons_succ, bSh_b, bSh_i, bSh_s, bSh_sl, bSh_some, cond_true, cond_false, decide_true, decide_false, Int.toNat_natCast, Nat.zero_add, Nat.reduceAdd, beq_self_eq_true, Bool.and_true, Bool.true_and, if_true, Bool.false_eq_true, if_false, List.set_cons_zero, List.set_cons_succ, Bool.not_true, Bool.not_false, Bool.and_self]
    rw [if_pos (by omega), if_pos hT.ok, if_pos (by omega), spec_has hB, bSh_b, toB_b, spec_has (t2_take hM i), bSh_b, toB_b]
    unfold okRm
    show cond (hs B (iA M i) == false) _ _ = _
    cases hs B (iA M i)
    rotate_left
    · rfl
    show cond (hs (M.take i) (iA M i)) _ _ = _
    cases hs (M.take i) (iA M i)
    rotate_left
    · rfl
    simp only [cond_false]
    show cond ((!decide (iA M i = hmB b s i)) == true) _ _ = _
    rw [f69_j2_eq, w64 (x := (i : Int) + 1) (by omega) (by omega)]
    by_cases hv : iA M i = hmB b s i
    · simp only [hv, okC_nil, okC_agg, okC_i, okC_b, okC_s, okC_imm, okL_i, okL_b, okL_s, okL_sl, okS_i, okS_b, okS_s, okS_sl, okS_agg, okS_tup, okS_nil, okS_cons, cells_agg, cells_i, cells_b, cells_s, cells_imm, toI_i, toB_b, toS_s, toL_imm, nth_agg, nth_tup, put_agg, put_i, put_b, put_s, put_imm, setCells, List.getD_cons_zero, List.getD_cons_succ, bSh_b, bSh_i, bSh_s, bSh_sl, bSh_some, cond_true, cond_false, decide_true, decide_false, Int.toNat_natCast, Nat.zero_add, Nat.reduceAdd, beq_self_eq_true, Bool.and_true, Bool.true_and, if_true, Bool.false_eq_true, if_false, List.set_cons_zero, List.set_cons_succ, Bool.not_true, Bool.not_false, Bool.and_self, Bool.true_or]; rfl
    simp only [hv, okC_nil, okC_agg, okC_i, okC_b, okC_s, okC_imm, okL_i, okL_b, okL_s, okL_sl, okS_i, okS_b, okS_s, okS_sl, okS_agg, okS_tup, okS_nil, okS_cons, cells_agg, cells_i, cells_b, cells_s, cells_imm, toI_i, toB_b, toS_s, toL_imm, nth_agg, nth_tup, put_agg, put_i, put_b, put_s, put_imm, setCells, List.getD_cons_zero, List.getD_cons_succ, bSh_b, bSh_i, bSh_s, bSh_sl, bSh_some, cond_true, cond_false, decide_true, decide_false, Int.toNat_natCast, Nat.zero_add, Nat.reduceAdd, beq_self_eq_true, Bool.and_true, Bool.true_and, if_true, Bool.false_eq_true, if_false, List.set_cons_zero, List.set_cons_succ, Bool.not_true, Bool.not_false, Bool.and_self, Bool.false_or]
    rw [if_neg (by omega), w64 (by omega) (by omega), show ((M.getD i .x).cells.getD 0 .x).toI = iA M i from rfl, e2]
    simp only [spec_has hB, okC_nil, okC_agg, okC_i, okC_b, okC_s, okC_imm, okL_i, okL_b, okL_s, okL_sl, okS_i, okS_b, okS_s, okS_sl, okS_agg, okS_tup, okS_nil, okS_cons, cells_agg, cells_i, cells_b, cells_s, cells_imm, toI_i, toB_b, toS_s, toL_imm, nth_agg, nth_tup, put_agg, put_i, put_b, put_s, put_imm, setCells, List.getD_cons_zero, List.getD_cons_succ, bSh_b, bSh_i, bSh_s, bSh_sl, bSh_some, cond_true, cond_false, decide_true, decide_false, Int.toNat_natCast, Nat.zero_add, Nat.reduceAdd, beq_self_eq_true, Bool.and_true, Bool.true_and, if_true, Bool.false_eq_true, if_false, List.set_cons_zero, List.set_cons_succ, Bool.not_true, Bool.not_false, Bool.and_self]
    cases (decide ((hmB b s i).tdiv b * b + (b - s) ≤ iA M i) && decide (iA M i < (hmB b s i).tdiv b * b + b)) <;> cases hs B (hmB b s i) <;> rfl
  · try dsimp only
    rw [f69_l1_eq, dF (Int.lt_irrefl _), cond_false]
theorem impl_valid {d b p s : Int} {B M : List AV} (v0 : W64 d) (v1 : W64 b) (v3 : W64 s) (hB : Rw (T2 1048576) 1048576 B) (hM : Rw (T2 1048576) 1048576 M) : den E 78 [bt d b p s B M] [] = some (.b (okBt d b p s B M)) := by
  unfold okBt
  have pr : (4 ≤ b ∧ b ≤ 12) → (1 ≤ s ∧ s ≤ 4 ∧ s < b - 1) → den E 160 [bt d b p s B M] [] = some (.i .i64 (b - s)) := fun hb hs1 => by
    unfold bt; rw [f160_eq, w64 (by omega) (by omega)]
  have r0 := fun i v h1 h2 h3 => impl_rm d b p s M hB i v h1 h2 h3
  unfold bt at pr r0 ⊢
  rw [f78_eq, impl_geo]
  simp only [f120_eq, f121_eq, f122_eq, f80_eq, in72, impl_incr hB, okC_nil, okC_agg, okC_i, okC_b, okC_s, okC_imm, okL_i, okL_b, okL_s, okL_sl, okS_i, okS_b, okS_s, okS_sl, okS_agg, okS_tup, okS_nil, okS_cons, cells_agg, cells_i, cells_b, cells_s, cells_imm, toI_i, toB_b, toS_s, toL_imm, nth_agg, nth_tup, put_agg, put_i, put_b, put_s, put_imm, setCells, List.getD_cons_zero, List.getD_cons_succ, bSh_b, bSh_i, bSh_s, bSh_sl, bSh_some, cond_true, cond_false, decide_true, decide_false, Int.toNat_natCast, Nat.zero_add, Nat.reduceAdd, beq_self_eq_true, Bool.and_true, Bool.true_and, if_true, Bool.false_eq_true, if_false, List.set_cons_zero, List.set_cons_succ, Bool.not_true, Bool.not_false, Bool.and_self]
  cases hg : ((decide (2 ≤ d) && decide (d ≤ 3)) && ((decide (4 ≤ b) && decide (b ≤ 12)) && (decide (p = 8) || decide (p = 16))))
  · rfl
  simp only [Bool.and_eq_true, decide_eq_true_eq] at hg
  obtain ⟨hd, hb, _⟩ := hg
  obtain ⟨k1, k2⟩ := mul_le2 (show (0 : Int) ≤ d by omega) hd.2 (show (0 : Int) ≤ b by omega) hb.2
  rw [w64 (x := b - 1) (by omega) (by omega), w64 (x := d * b) (by omega) (by omega), w64 (x := d * b - 1) (by omega) (by omega), impl_allin _ hB, all_split]
  simp only [okC_nil, okC_agg, okC_i, okC_b, okC_s, okC_imm, okL_i, okL_b, okL_s, okL_sl, okS_i, okS_b, okS_s, okS_sl, okS_agg, okS_tup, okS_nil, okS_cons, cells_agg, cells_i, cells_b, cells_s, cells_imm, toI_i, toB_b, toS_s, toL_imm, nth_agg, nth_tup, put_agg, put_i, put_b, put_s, put_imm, setCells, List.getD_cons_zero, List.getD_cons_succ, bSh_b, bSh_i, bSh_s, bSh_sl, bSh_some, cond_true, cond_false, decide_true, decide_false, Int.toNat_natCast, Nat.zero_add, Nat.reduceAdd, beq_self_eq_true, Bool.and_true, Bool.true_and, if_true, Bool.false_eq_true, if_false, List.set_cons_zero, List.set_cons_succ, Bool.not_true, Bool.not_false, Bool.and_self]
  cases hg1 : (decide (1 ≤ s) && decide (s ≤ 4))
  · rfl
  cases hg2 : decide (s < b - 1)
  · rfl
  simp only [Bool.and_eq_true, decide_eq_true_eq] at hg1 hg2
  have hs1 : 1 ≤ s ∧ s ≤ 4 ∧ s < b - 1 := ⟨hg1.1, hg1.2, hg2⟩
  cases (List.range' 0 B.length).all (snB B)
  · simp only [Bool.false_and, Bool.and_false]; rfl
  cases (List.range' 0 B.length).all (inn (d * b - 1) B)
  · rfl
  obtain ⟨m1, m2⟩ := mul_le2 (show (0 : Int) ≤ d by omega) hd.2 (show (0 : Int) ≤ b - s by omega) (show b - s ≤ 11 by omega)
  simp only [pr hb hs1, okC_nil, okC_agg, okC_i, okC_b, okC_s, okC_imm, okL_i, okL_b, okL_s, okL_sl, okS_i, okS_b, okS_s, okS_sl, okS_agg, okS_tup, okS_nil, okS_cons, cells_agg, cells_i, cells_b, cells_s, cells_imm, toI_i, toB_b, toS_s, toL_imm, nth_agg, nth_tup, put_agg, put_i, put_b, put_s, put_imm, setCells, List.getD_cons_zero, List.getD_cons_succ, bSh_b, bSh_i, bSh_s, bSh_sl, bSh_some, cond_true, cond_false, decide_true, decide_false, Int.toNat_natCast, Nat.zero_add, Nat.reduceAdd, beq_self_eq_true, Bool.and_true, Bool.true_and, if_true, Bool.false_eq_true, if_false, List.set_cons_zero, List.set_cons_succ, Bool.not_true, Bool.not_false, Bool.and_self]
  rw [w64 (x := d * (b - s)) (by omega) (by omega)]
  by_cases hl : ((M.length : Nat) : Int) = d * (b - s)
  rotate_left
  · simp only [hl, okC_nil, okC_agg, okC_i, okC_b, okC_s, okC_imm, okL_i, okL_b, okL_s, okL_sl, okS_i, okS_b, okS_s, okS_sl, okS_agg, okS_tup, okS_nil, okS_cons, cells_agg, cells_i, cells_b, cells_s, cells_imm, toI_i, toB_b, toS_s, toL_imm, nth_agg, nth_tup, put_agg, put_i, put_b, put_s, put_imm, setCells, List.getD_cons_zero, List.getD_cons_succ, bSh_b, bSh_i, bSh_s, bSh_sl, bSh_some, cond_true, cond_false, decide_true, decide_false, Int.toNat_natCast, Nat.zero_add, Nat.reduceAdd, beq_self_eq_true, Bool.and_true, Bool.true_and, if_true, Bool.false_eq_true, if_false, List.set_cons_zero, List.set_cons_succ, Bool.not_true, Bool.not_false, Bool.and_self, Bool.false_and, Bool.and_false]
  simp only [hl, okC_nil, okC_agg, okC_i, okC_b, okC_s, okC_imm, okL_i, okL_b, okL_s, okL_sl, okS_i, okS_b, okS_s, okS_sl, okS_agg, okS_tup, okS_nil, okS_cons, cells_agg, cells_i, cells_b, cells_s, cells_imm, toI_i, toB_b, toS_s, toL_imm, nth_agg, nth_tup, put_agg, put_i, put_b, put_s, put_imm, setCells, List.getD_cons_zero, List.getD_cons_succ, bSh_b, bSh_i, bSh_s, bSh_sl, bSh_some, cond_true, cond_false, decide_true, decide_false, Int.toNat_natCast, Nat.zero_add, Nat.reduceAdd, beq_self_eq_true, Bool.and_true, Bool.true_and, if_true, Bool.false_eq_true, if_false, List.set_cons_zero, List.set_cons_succ, Bool.not_true, Bool.not_false, Bool.and_self]
  have hl40 : M.length ≤ 40 := by omega
  have := all_loop (L := fun i => f78_l1 M (d * (b - s)) i d b p s B M) (n := M.length) (p := okRm b s B M) (X := some (.b true)) (F := some (.b false)) (fun i hi => ?_) ?_ M.length 0 (by omega)
  · refine this.trans ?_
    rw [cond_andb, Bool.and_true]
  · have hT := hM.at hi
    try dsimp only
    rw [f78_l1_eq, dT (show (i : Int) < d * (b - s) by omega), cond_true]
    simp only [Int.toNat_natCast, hT.ok, if_true]
    rw [if_pos (by omega), r0 i _ (by omega) hb hs1, impl_has (t2_take hM i), if_pos (by omega), w64 (x := (i : Int) + 1) (by omega) (by omega)]
    simp only [okC_nil, okC_agg, okC_i, okC_b, okC_s, okC_imm, okL_i, okL_b, okL_s, okL_sl, okS_i, okS_b, okS_s, okS_sl, okS_agg, okS_tup, okS_nil, okS_cons, cells_agg, cells_i, cells_b, cells_s, cells_imm, toI_i, toB_b, toS_s, toL_imm, nth_agg, nth_tup, put_agg, put_i, put_b, put_s, put_imm, setCells, List.getD_cons_zero, List.getD_cons_succ, bSh_b, bSh_i, bSh_s, bSh_sl, bSh_some, cond_true, cond_false, decide_true, decide_false, Int.toNat_natCast, Nat.zero_add, Nat.reduceAdd, beq_self_eq_true, Bool.and_true, Bool.true_and, if_true, Bool.false_eq_true, if_false, List.set_cons_zero, List.set_cons_succ, Bool.not_true, Bool.not_false, Bool.and_self]
    unfold okRm
    show cond ((!(!hs B (iA M i) && (decide (iA M i = hmB b s i) || ((decide ((hmB b s i).tdiv b * b + (b - s) ≤ iA M i) && decide (iA M i < (hmB b s i).tdiv b * b + b)) && hs B (hmB b s i))))) == false) (cond (hs (M.take i) (iA M i)) _ _) _ = _
    cases hs B (iA M i) <;> cases hs (M.take i) (iA M i) <;> cases (decide (iA M i = hmB b s i) || ((decide ((hmB b s i).tdiv b * b + (b - s) ≤ iA M i) && decide (iA M i < (hmB b s i).tdiv b * b + b)) && hs B (hmB b s i))) <;> rfl
  · try dsimp only
    rw [f78_l1_eq, dF (by omega), cond_false]

/-! Where a number belongs in a rising row. -/
def Cut (B : List AV) (x : Int) (k : Nat) : Prop := k ≤ B.length ∧ (∀ j, j < k → iA B j < x) ∧ ∀ j, k ≤ j → j < B.length → x ≤ iA B j
theorem Cut.uniq {B : List AV} {x : Int} {k k' : Nat} (h : Cut B x k) (h' : Cut B x k') : k = k' := by
  rcases Nat.lt_trichotomy k k' with h1 | h1 | h1
  · have := h'.2.1 k h1; have := h.2.2 k (Nat.le_refl _) (Nat.lt_of_lt_of_le h1 h'.1); omega
  · exact h1
  · have := h.2.1 k' h1; have := h'.2.2 k' (Nat.le_refl _) (Nat.lt_of_lt_of_le h1 h.1); omega
theorem rising {B : List AV} (h : ∀ i, i < B.length → snB B i = true) : ∀ (n i : Nat), i + n + 1 < B.length → iA B i < iA B (i + n + 1)
  | 0, i, hi => by
    have := h (i + 1) hi
    simp only [snB, Nat.add_sub_cancel] at this
    have h2 : ¬ i + 1 = 0 := by omega
    simp only [h2, decide_false, Bool.false_or, Bool.not_eq_true', decide_eq_false_iff_not] at this
    show sv B i < sv B (i + 1)
    omega
  | n + 1, i, hi => by
    have h1 := rising h n i (by omega)
    have := h (i + n + 1 + 1) hi
    simp only [snB, Nat.add_sub_cancel] at this
    have h2 : ¬ i + n + 1 + 1 = 0 := by omega
    simp only [h2, decide_false, Bool.false_or, Bool.not_eq_true', decide_eq_false_iff_not] at this
    have h3 : sv B (i + n + 1) < sv B (i + n + 1 + 1) := by omega
    exact Int.lt_trans h1 h3
theorem rising' {B : List AV} (h : ∀ i, i < B.length → snB B i = true) {i j : Nat} (hij : i < j) (hj : j < B.length) : iA B i < iA B j := by
  have := rising h (j - i - 1) i (by omega)
  rwa [show i + (j - i - 1) + 1 = j by omega] at this
theorem rising_len {B : List AV} {U : Int} (hU : 0 ≤ U + 1) (h : ∀ i, i < B.length → inn U B i = true ∧ snB B i = true) : ((B.length : Nat) : Int) ≤ U + 1 := by
  have key : ∀ i, i < B.length → (i : Int) ≤ iA B i := by
    intro i
    induction i with
    | zero =>
      intro hi
      have := (h 0 hi).1
      simp only [inn, Bool.and_eq_true, decide_eq_true_eq] at this
      exact this.1
    | succ i ih =>
      intro hi
      have h1 := ih (by omega)
      have := rising' (fun i hi => (h i hi).2) (show i < i + 1 by omega) hi
      omega
  by_cases h0 : B.length = 0
  · omega
  · have h1 := key (B.length - 1) (by omega)
    have := (h (B.length - 1) (by omega)).1
    simp only [inn, Bool.and_eq_true, decide_eq_true_eq] at this
    have h2 : iA B (B.length - 1) ≤ U := this.2
    omega
theorem wu64 {x : Int} (h1 : 0 ≤ x) (h2 : x ≤ 18446744073709551615) : IntKind.u64.wrap x = x := by
  have hb : (2 : Int) ^ IntKind.u64.bits = 18446744073709551616 := by decide
  have hs : IntKind.u64.signed = false := rfl
  unfold IntKind.wrap
  simp only [hb, hs, Bool.false_and, Bool.false_eq_true, if_false]
  omega
theorem half {n : Int} (h0 : 0 ≤ n) (h1 : n ≤ 1099511627776) : IntKind.i64.wrap ((IntKind.u64.wrap (IntKind.i64.wrap n)).fdiv (2 ^ (min (1 : Int).toNat IntKind.u64.bits))) = n / 2 := by
  rw [w64 (x := n) (by omega) (by omega), wu64 h0 (by omega), show (2 : Int) ^ (min (1 : Int).toNat IntKind.u64.bits) = 2 from rfl, Int.fdiv_eq_ediv_of_nonneg _ (by omega), w64 (by omega) (by omega)]
theorem bin_search {B : List AV} (hB : Rw (T2 1048576) 1048576 B) (hr : ∀ i, i < B.length → snB B i = true) (x : Int) : ∃ (k : Nat) (f : Bool), den E 129 [(.imm 1 B), (.i .i64 x)] [] = some (.tup [(.i .i64 k), (.b f)]) ∧ Cut B x k := by
  have hl := hB.1
  rw [f129_eq]
  have key : ∀ (m lo hi : Nat), hi ≤ lo + m → lo ≤ hi → hi ≤ B.length → (∀ j, j < lo → iA B j < x) → (∀ j, hi ≤ j → j < B.length → x ≤ iA B j) → ∃ (k : Nat) (f : Bool), f129_l1 B x ((B.length : Nat) : Int) (lo : Int) (hi : Int) = some (.tup [(.i .i64 k), (.b f)]) ∧ Cut B x k := by
    intro m
    induction m with
    | zero =>
      intro lo hi h1 h2 h3 h4 h5
      have : lo = hi := by omega
      subst this
      refine ⟨lo, decide (lo < B.length) && decide (iA B lo = x), ?_, h3, h4, h5⟩
      rw [f129_l1_eq, dF (Int.lt_irrefl _), cond_false]
      by_cases h6 : lo < B.length
      · have hT := hB.at h6
        rw [dT (show (lo : Int) < ((B.length : Nat) : Int) by omega)]
        simp only [f167_eq, Int.toNat_natCast, hT.ok, okC_nil, okC_agg, okC_i, okC_b, okC_s, okC_imm, okL_i, okL_b, okL_s, okL_sl, okS_i, okS_b, okS_s, okS_sl, okS_agg, okS_tup, okS_nil, okS_cons, cells_agg, cells_i, cells_b, cells_s, cells_imm, toI_i, toB_b, toS_s, toL_imm, nth_agg, nth_tup, put_agg, put_i, put_b, put_s, put_imm, setCells, List.getD_cons_zero, List.getD_cons_succ, bSh_b, bSh_i, bSh_s, bSh_sl, bSh_some, cond_true, cond_false, decide_true, decide_false, Int.toNat_natCast, Nat.zero_add, Nat.reduceAdd, beq_self_eq_true, Bool.and_true, Bool.true_and, if_true, Bool.false_eq_true, if_false, List.set_cons_zero, List.set_cons_succ, Bool.not_true, Bool.not_false, Bool.and_self]
        rw [if_pos (by omega)]
        show cond (decide (iA B lo = x) == false) _ _ = _
        by_cases h7 : iA B lo = x
        · simp only [h6, h7, okC_nil, okC_agg, okC_i, okC_b, okC_s, okC_imm, okL_i, okL_b, okL_s, okL_sl, okS_i, okS_b, okS_s, okS_sl, okS_agg, okS_tup, okS_nil, okS_cons, cells_agg, cells_i, cells_b, cells_s, cells_imm, toI_i, toB_b, toS_s, toL_imm, nth_agg, nth_tup, put_agg, put_i, put_b, put_s, put_imm, setCells, List.getD_cons_zero, List.getD_cons_succ, bSh_b, bSh_i, bSh_s, bSh_sl, bSh_some, cond_true, cond_false, decide_true, decide_false, Int.toNat_natCast, Nat.zero_add, Nat.reduceAdd, beq_self_eq_true, Bool.and_true, Bool.true_and, if_true, Bool.false_eq_true, if_false, List.set_cons_zero, List.set_cons_succ, Bool.not_true, Bool.not_false, Bool.and_self]; rfl
        · simp only [h6, h7, okC_nil, okC_agg, okC_i, okC_b, okC_s, okC_imm, okL_i, okL_b, okL_s, okL_sl, okS_i, okS_b, okS_s, okS_sl, okS_agg, okS_tup, okS_nil, okS_cons, cells_agg, cells_i, cells_b, cells_s, cells_imm, toI_i, toB_b, toS_s, toL_imm, nth_agg, nth_tup, put_agg, put_i, put_b, put_s, put_imm, setCells, List.getD_cons_zero, List.getD_cons_succ, bSh_b, bSh_i, bSh_s, bSh_sl, bSh_some, cond_true, cond_false, decide_true, decide_false, Int.toNat_natCast, Nat.zero_add, Nat.reduceAdd, beq_self_eq_true, Bool.and_true, Bool.true_and, if_true, Bool.false_eq_true, if_false, List.set_cons_zero, List.set_cons_succ, Bool.not_true, Bool.not_false, Bool.and_self]
          rw [if_pos (by omega)]
          rfl
      · rw [dF (show ¬ (lo : Int) < ((B.length : Nat) : Int) by omega)]
        simp only [h6, okC_nil, okC_agg, okC_i, okC_b, okC_s, okC_imm, okL_i, okL_b, okL_s, okL_sl, okS_i, okS_b, okS_s, okS_sl, okS_agg, okS_tup, okS_nil, okS_cons, cells_agg, cells_i, cells_b, cells_s, cells_imm, toI_i, toB_b, toS_s, toL_imm, nth_agg, nth_tup, put_agg, put_i, put_b, put_s, put_imm, setCells, List.getD_cons_zero, List.getD_cons_succ, bSh_b, bSh_i, bSh_s, bSh_sl, bSh_some, cond_true, cond_false, decide_true, decide_false, Int.toNat_natCast, Nat.zero_add, Nat.reduceAdd, beq_self_eq_true, Bool.and_true, Bool.true_and, if_true, Bool.false_eq_true, if_false, List.set_cons_zero, List.set_cons_succ, Bool.not_true, Bool.not_false, Bool.and_self, Bool.false_and]
        rfl
    | succ m ih =>
      intro lo hi h1 h2 h3 h4 h5
      by_cases h6 : lo = hi
      · exact ih lo hi (by omega) h2 h3 h4 h5
      have hmid : ((lo : Int) + (hi : Int)) / 2 = (((lo + hi) / 2 : Nat) : Int) := by omega
      obtain ⟨q, hq⟩ : ∃ q, q = (lo + hi) / 2 := ⟨_, rfl⟩
      have hql : q < B.length := by omega
      have hT := hB.at hql
      have hl1 : den E 166 [(.i .i64 (iA B q)), (.i .i64 x)] [] = some (.b (decide (iA B q < x))) := by
        rw [f166_eq]
        simp only [f185_eq, okC_nil, okC_agg, okC_i, okC_b, okC_s, okC_imm, okL_i, okL_b, okL_s, okL_sl, okS_i, okS_b, okS_s, okS_sl, okS_agg, okS_tup, okS_nil, okS_cons, cells_agg, cells_i, cells_b, cells_s, cells_imm, toI_i, toB_b, toS_s, toL_imm, nth_agg, nth_tup, put_agg, put_i, put_b, put_s, put_imm, setCells, List.getD_cons_zero, List.getD_cons_succ, bSh_b, bSh_i, bSh_s, bSh_sl, bSh_some, cond_true, cond_false, decide_true, decide_false, Int.toNat_natCast, Nat.zero_add, Nat.reduceAdd, beq_self_eq_true, Bool.and_true, Bool.true_and, if_true, Bool.false_eq_true, if_false, List.set_cons_zero, List.set_cons_succ, Bool.not_true, Bool.not_false, Bool.and_self]
        rfl
      rw [f129_l1_eq, dT (show (lo : Int) < (hi : Int) by omega), cond_true, half (by omega) (by omega), hmid, ← hq]
      simp only [Int.toNat_natCast, hT.ok, if_true]
      rw [if_pos (by omega), show ((B.getD q .x).cells.getD 0 .x).toI = iA B q from rfl, hl1, bSh_b, toB_b]
      by_cases h7 : iA B q < x
      · rw [dT h7, cond_true, w64 (by omega) (by omega), show (q : Int) + 1 = ((q + 1 : Nat) : Int) by omega]
        refine ih (q + 1) hi (by omega) (by omega) h3 (fun j hj => ?_) h5
        by_cases hjq : j = q
        · subst hjq; exact h7
        · exact Int.lt_trans (rising' hr (show j < q by omega) hql) h7
      · rw [dF h7, cond_false]
        refine ih lo q (by omega) (by omega) (by omega) h4 fun j hj hjl => ?_
        by_cases hjq : j = q
        · subst hjq; omega
        · have := rising' hr (show q < j by omega) hjl
          omega
  exact key B.length 0 B.length (by omega) (by omega) (Nat.le_refl _) (fun j hj => by omega) fun j h1 h2 => by omega
theorem spec_put {B : List AV} (hB : Rw (T2 1048576) 1048576 B) {x : Int} {k : Nat} (hk : Cut B x k) (hx : hs B x = false) : dno E 74 [(.imm 1 B), (.i .i64 x)] [] = some (.sl 0 [] none, [.live true false false 2 (B.take k ++ [.i .i64 x] ++ B.drop k)]) := by
  have hl := hB.1
  rw [f74o1_eq]
  have late : ∀ (n i : Nat) (r : List AV), i + n = B.length → r.length ≤ i + 1 → f74o1_l1 B x true i [] r = some (.sl 0 [] none, [.live true false false 2 (r ++ B.drop i)]) := by
    intro n
    induction n with
    | zero =>
      intro i r h h2
      have : i = B.length := by omega
      subst this
      rw [f74o1_l1_eq, dF (Int.lt_irrefl _), cond_false, f74o1_j3_eq, List.drop_length, List.append_nil]
      rfl
    | succ n ih =>
      intro i r h h2
      have hi : i < B.length := by omega
      have hT := hB.at hi
      have := ih (i + 1) (r ++ [B.getD i .x]) (by omega) (by simp; omega)
      have g1 : (r.length + [B.getD i .x].length) * 8 ≤ room := by simp only [List.length_cons, List.length_nil, room]; omega
      have g2 : (0 : Int) ≤ (i : Int) ∧ (i : Int) < ((B.length : Nat) : Int) := ⟨by omega, by omega⟩
      rw [f74o1_l1_eq, dT (show (i : Int) < ((B.length : Nat) : Int) by omega), cond_true]
      simp only [f74o1_j2_eq, Int.toNat_natCast, hT.ok, hT.eta, and_self, show (false == true) = false from rfl, g1, g2, okC_nil, okC_agg, okC_i, okC_b, okC_s, okC_imm, okL_i, okL_b, okL_s, okL_sl, okS_i, okS_b, okS_s, okS_sl, okS_agg, okS_tup, okS_nil, okS_cons, cells_agg, cells_i, cells_b, cells_s, cells_imm, toI_i, toB_b, toS_s, toL_imm, nth_agg, nth_tup, put_agg, put_i, put_b, put_s, put_imm, setCells, List.getD_cons_zero, List.getD_cons_succ, bSh_b, bSh_i, bSh_s, bSh_sl, bSh_some, cond_true, cond_false, decide_true, decide_false, Int.toNat_natCast, Nat.zero_add, Nat.reduceAdd, beq_self_eq_true, Bool.and_true, Bool.true_and, if_true, Bool.false_eq_true, if_false, List.set_cons_zero, List.set_cons_succ, Bool.not_true, Bool.not_false, Bool.and_self]
      rw [w64 (x := (i : Int) + 1) (by omega) (by omega), show (i : Int) + 1 = ((i + 1 : Nat) : Int) by omega, this, drop_getD hi, List.append_assoc]
      rfl
  have early : ∀ (n i : Nat), i + n = k → f74o1_l1 B x false i [] (B.take i) = some (.sl 0 [] none, [.live true false false 2 (B.take k ++ [.i .i64 x] ++ B.drop k)]) := by
    intro n
    induction n with
    | zero =>
      intro i h
      have : i = k := by omega
      subst this
      have hkl := hk.1
      have htl : (B.take i).length ≤ 1048576 := by rw [List.length_take]; omega
      by_cases hi : i < B.length
      · have hT := hB.at hi
        have h1 := hk.2.2 i (Nat.le_refl _) hi
        have h2 : iA B i ≠ x := hs_false.1 hx i hi
        have h3 : x < iA B i := by omega
        have h1' : x ≤ ((B.getD i .x).cells.getD 0 .x).toI := h1
        have h3' : x < ((B.getD i .x).cells.getD 0 .x).toI := h3
        have g1 : ((B.take i).length + [AV.i .i64 x].length) * 8 ≤ room := by simp only [List.length_cons, List.length_nil, room]; omega
        have g3 : ((B.take i ++ [AV.i .i64 x]).length + [B.getD i .x].length) * 8 ≤ room := by simp only [List.length_append, List.length_cons, List.length_nil, room]; omega
        have g2 : (0 : Int) ≤ (i : Int) ∧ (i : Int) < ((B.length : Nat) : Int) := ⟨by omega, by omega⟩
        have := late (B.length - (i + 1)) (i + 1) (B.take i ++ [.i .i64 x] ++ [B.getD i .x]) (by omega) (by simp only [List.length_append, List.length_take, List.length_cons, List.length_nil]; omega)
        rw [f74o1_l1_eq, dT (show (i : Int) < ((B.length : Nat) : Int) by omega), cond_true]
        simp only [f74o1_j2_eq, Int.toNat_natCast, hT.ok, hT.eta, h1', h3', g1, g2, g3, and_self, show (false == true) = false from rfl, okC_nil, okC_agg, okC_i, okC_b, okC_s, okC_imm, okL_i, okL_b, okL_s, okL_sl, okS_i, okS_b, okS_s, okS_sl, okS_agg, okS_tup, okS_nil, okS_cons, cells_agg, cells_i, cells_b, cells_s, cells_imm, toI_i, toB_b, toS_s, toL_imm, nth_agg, nth_tup, put_agg, put_i, put_b, put_s, put_imm, setCells, List.getD_cons_zero, List.getD_cons_succ, bSh_b, bSh_i, bSh_s, bSh_sl, bSh_some, cond_true, cond_false, decide_true, decide_false, Int.toNat_natCast, Nat.zero_add, Nat.reduceAdd, beq_self_eq_true, Bool.and_true, Bool.true_and, if_true, Bool.false_eq_true, if_false, List.set_cons_zero, List.set_cons_succ, Bool.not_true, Bool.not_false, Bool.and_self]
        rw [w64 (x := (i : Int) + 1) (by omega) (by omega), show (i : Int) + 1 = ((i + 1 : Nat) : Int) by omega, this, drop_getD hi]
        simp only [List.append_assoc, List.cons_append, List.nil_append]
      · have : i = B.length := by omega
        subst this
        rw [f74o1_l1_eq, dF (Int.lt_irrefl _), cond_false]
        simp only [okC_nil, okC_agg, okC_i, okC_b, okC_s, okC_imm, okL_i, okL_b, okL_s, okL_sl, okS_i, okS_b, okS_s, okS_sl, okS_agg, okS_tup, okS_nil, okS_cons, cells_agg, cells_i, cells_b, cells_s, cells_imm, toI_i, toB_b, toS_s, toL_imm, nth_agg, nth_tup, put_agg, put_i, put_b, put_s, put_imm, setCells, List.getD_cons_zero, List.getD_cons_succ, bSh_b, bSh_i, bSh_s, bSh_sl, bSh_some, cond_true, cond_false, decide_true, decide_false, Int.toNat_natCast, Nat.zero_add, Nat.reduceAdd, beq_self_eq_true, Bool.and_true, Bool.true_and, if_true, Bool.false_eq_true, if_false, List.set_cons_zero, List.set_cons_succ, Bool.not_true, Bool.not_false, Bool.and_self]
        have g1 : ((B.take B.length).length + [AV.i .i64 x].length) * 8 ≤ room := by simp only [List.length_cons, List.length_nil, room]; omega
        rw [if_pos g1, f74o1_j3_eq, List.drop_length, List.append_nil]
    | succ n ih =>
      intro i h
      have hkl := hk.1
      have hi : i < B.length := by omega
      have hT := hB.at hi
      have h1 := hk.2.1 i (by omega)
      have := ih (i + 1) (by omega)
      have htl : (B.take i).length ≤ 1048576 := by rw [List.length_take]; omega
      have h1' : ¬ x ≤ ((B.getD i .x).cells.getD 0 .x).toI := by show ¬ x ≤ iA B i; omega
      have g1 : ((B.take i).length + [B.getD i .x].length) * 8 ≤ room := by simp only [List.length_cons, List.length_nil, room]; omega
      have g2 : (0 : Int) ≤ (i : Int) ∧ (i : Int) < ((B.length : Nat) : Int) := ⟨by omega, by omega⟩
      rw [f74o1_l1_eq, dT (show (i : Int) < ((B.length : Nat) : Int) by omega), cond_true]
      simp only [f74o1_j2_eq, Int.toNat_natCast, hT.ok, hT.eta, h1', g1, g2, and_self, show (false == true) = false from rfl, okC_nil, okC_agg, okC_i, okC_b, okC_s, okC_imm, okL_i, okL_b, okL_s, okL_sl, okS_i, okS_b, okS_s, okS_sl, okS_agg, okS_tup, okS_nil, okS_cons, cells_agg, cells_i, cells_b, cells_s, cells_imm, toI_i, toB_b, toS_s, toL_imm, nth_agg, nth_tup, put_agg, put_i, put_b, put_s, put_imm, setCells, List.getD_cons_zero, List.getD_cons_succ, bSh_b, bSh_i, bSh_s, bSh_sl, bSh_some, cond_true, cond_false, decide_true, decide_false, Int.toNat_natCast, Nat.zero_add, Nat.reduceAdd, beq_self_eq_true, Bool.and_true, Bool.true_and, if_true, Bool.false_eq_true, if_false, List.set_cons_zero, List.set_cons_succ, Bool.not_true, Bool.not_false, Bool.and_self]
      rw [w64 (x := (i : Int) + 1) (by omega) (by omega), show (i : Int) + 1 = ((i + 1 : Nat) : Int) by omega, ← take_getD hi, this]
  have := early k 0 (by omega)
  simpa using this

/-! A block is retired. -/
theorem spec_holder (d b p s : Int) (B : List AV) {M : List AV} (hm : Rw (T2 1048576) 1048576 M) (x : Int) : (den E 75 [bt d b p s B M, (.i .i64 x)] [] = some (.i .i64 (-1)) ∧ ∀ i, i < M.length → iA M i ≠ x) ∨
    ∃ j : Nat, j < M.length ∧ den E 75 [bt d b p s B M, (.i .i64 x)] [] = some (.i .i64 j) ∧ iA M j = x := by
  have hml := hm.1
  unfold bt
  have key := find_loop (L := fun i => f75_l1 x i d b p s B M) (n := M.length) (p := fun j => decide (iA M j = x)) (F := fun i => some (.i .i64 i)) (X := some (.i .i64 (-1))) (fun i hi => ?_) ?_ M.length 0 (by omega)
  · rw [f75_eq]
    rcases key with ⟨j, _, hj, h1, h2, h3⟩ | ⟨h1, h2⟩
    · exact .inr ⟨j, hj, h3, of_decide_eq_true h1⟩
    · exact .inl ⟨h2, fun i hi => of_decide_eq_false (h1 i (Nat.zero_le _) hi)⟩
  · have hT := hm.at hi
    try dsimp only
    rw [f75_l1_eq, dT (show (i : Int) < ((M.length : Nat) : Int) by omega), cond_true, if_pos (by omega), w64 (x := (i : Int) + 1) (by omega) (by omega)]
    simp only [Int.toNat_natCast, hT.ok, if_true]
    rfl
  · try dsimp only
    rw [f75_l1_eq, dF (Int.lt_irrefl _), cond_false]
theorem own_spec {l : List AV} (h : l.length ≤ 1048576) : dno E 118 [(.imm 1 l)] [] = some (.sl 0 [] none, [.live true false false 2 l]) := by
  rw [f118o1_eq, if_pos (by simp only [room]; omega)]
theorem t2_insert {B : List AV} {x : Int} {k : Nat} (h : Rw (T2 1048576) 1048576 B) (hl : B.length ≤ 1000) (hx : W64 x) : Rw (T2 1048576) 1048576 (B.take k ++ [.i .i64 x] ++ B.drop k) := by
  refine ⟨by simp only [List.length_append, List.length_take, List.length_drop, List.length_cons, List.length_nil]; omega, fun y hy => ?_⟩
  simp only [List.mem_append, List.mem_singleton] at hy
  rcases hy with (hy | hy) | hy
  · exact h.2 y (List.mem_of_mem_take hy)
  · exact ⟨x, hy, hx, trivial⟩
  · exact h.2 y (List.mem_of_mem_drop hy)
theorem hs_insert {B : List AV} {x v : Int} {k : Nat} : hs (B.take k ++ [.i .i64 x] ++ B.drop k) v = (hs B v || decide (x = v)) := by
  rw [Bool.eq_iff_iff, hs_mem, Bool.or_eq_true, hs_mem, decide_eq_true_eq]
  constructor
  · rintro ⟨y, hy, h⟩
    simp only [List.mem_append, List.mem_singleton] at hy
    rcases hy with (hy | hy) | hy
    · exact .inl ⟨y, List.mem_of_mem_take hy, h⟩
    · subst hy; exact .inr h
    · exact .inl ⟨y, List.mem_of_mem_drop hy, h⟩
  · rintro (⟨y, hy, h⟩ | h)
    · refine ⟨y, ?_, h⟩
      rw [← List.take_append_drop k B] at hy
      simp only [List.mem_append, List.mem_singleton] at hy ⊢
      exact hy.elim (fun h => .inl (.inl h)) .inr
    · exact ⟨.i .i64 x, by simp, h⟩
theorem av_same {B M L : List AV} {x : Int} {k : Nat} (hx : hs M x = true) : L.filter (okS (B.take k ++ [.i .i64 x] ++ B.drop k) M) = L.filter (okS B M) := by
  congr 1
  funext y
  unfold okS
  rw [hs_insert]
  by_cases h : x = (y.cells.getD 0 .x).toI
  · rw [← h, hx]; simp
  · rw [dF h, Bool.or_false]

theorem retires {d b p s : Int} {B M : List AV} (v0 : W64 d) (v1 : W64 b) (v2 : W64 p) (v3 : W64 s) (hB : Rw (T2 1048576) 1048576 B) (hM : Rw (T2 1048576) 1048576 M) (x : Int) (hx : W64 x) :
    ∃ (d1 b1 p1 s1 k : Int) (r0 r1 : List AV), W64 d1 ∧ W64 b1 ∧ W64 p1 ∧ W64 s1 ∧ Rw (T2 1048576) 1048576 r0 ∧ Rw (T2 1048576) 1048576 r1 ∧
      dno E 27 [bt d b p s B M, (.i .i64 x)] [] = some (.tup [btR d1 b1 p1 s1, (.i .i64 k)], [(.live true false false 2 r0), (.live true false false 2 r1)]) ∧
      dno E 29 [bt d b p s B M, (.i .i64 x)] [] = some (.tup [btR d1 b1 p1 s1, (.i .i64 k)], [(.live true false false 2 r0), (.live true false false 2 r1)]) := by
  have z64 : W64 0 := by constructor <;> omega
  have nil2 : Rw (T2 1048576) 1048576 [] := ⟨by simp, fun y hy => by cases hy⟩
  have e0 := spec_valid (p := p) v0 v1 v3 hB hM
  have e1 := impl_valid (p := p) v0 v1 v3 hB hM
  have e2 := fun x => is_bad d b p s M hB x
  have own1 := own_spec hB.1
  have own2 := own_spec hM.1
  have hBl := hB.1
  have hMl := hM.1
  have hold := spec_holder d b p s B hM x
  have idx := idx_loop hM x
  have avI := fun die h0 h1 hb hs1 => impl_avail d b p s hB hM die h0 h1 hb hs1
  have avS := fun B' (hB' : Rw (T2 1048576) 1048576 B') die h0 h1 hb hs1 => spec_av d b p s hB' hM die h0 h1 hb hs1
  have clone : dno E 126 [bt d b p s B M] [] = some (btR d b p s, [(.live true false false 2 B), (.live true false false 2 M)]) := by
    unfold bt btR
    rw [f126o1_eq, f163_eq, f163_eq, if_pos ⟨rfl, by simp only [room]; omega⟩, if_pos ⟨rfl, by simp only [room]; omega⟩]
    simp only [bOwn_some, bOwnF_some, bOwnS_some, bOwnFS_some, okRs_nil, okRs_cons, okR_row, okR_same, okR_var, okR_gone, okS_so, okS_pr, okS_po, okLens_nil, okLens_same, okLens_row, okLens_var, row_live, flatR_live, flatL_nil, flatL_cons, flat_i, flat_b, flat_s, flat_sl, flat_agg, flat_tup, List.all_cons, List.all_nil, List.length_cons, List.length_nil, Nat.reduceLeDiff, Nat.le_refl, decide_true, Bool.and_self, mkL_length, List.headD_cons, okC_nil, okC_agg, okC_i, okC_b, okC_s, okC_imm, okL_i, okL_b, okL_s, okL_sl, okS_i, okS_b, okS_s, okS_sl, okS_agg, okS_tup, okS_nil, okS_cons, cells_agg, cells_i, cells_b, cells_s, cells_imm, toI_i, toB_b, toS_s, toL_imm, nth_agg, nth_tup, put_agg, put_i, put_b, put_s, put_imm, setCells, List.getD_cons_zero, List.getD_cons_succ, bSh_b, bSh_i, bSh_s, bSh_sl, bSh_some, cond_true, cond_false, decide_true, decide_false, Int.toNat_natCast, Nat.zero_add, Nat.reduceAdd, beq_self_eq_true, Bool.and_true, Bool.true_and, if_true, Bool.false_eq_true, if_false, List.set_cons_zero, List.set_cons_succ, Bool.not_true, Bool.not_false, Bool.and_self]
  unfold bt btR at *
  rw [f27o1_eq, f29o1_eq, e0, e1]
  simp only [bOwn_some, bOwnF_some, bOwnS_some, bOwnFS_some, okRs_nil, okRs_cons, okR_row, okR_same, okR_var, okR_gone, okS_so, okS_pr, okS_po, okLens_nil, okLens_same, okLens_row, okLens_var, row_live, flatR_live, flatL_nil, flatL_cons, flat_i, flat_b, flat_s, flat_sl, flat_agg, flat_tup, List.all_cons, List.all_nil, List.length_cons, List.length_nil, Nat.reduceLeDiff, Nat.le_refl, decide_true, Bool.and_self, mkL_length, List.headD_cons, okC_nil, okC_agg, okC_i, okC_b, okC_s, okC_imm, okL_i, okL_b, okL_s, okL_sl, okS_i, okS_b, okS_s, okS_sl, okS_agg, okS_tup, okS_nil, okS_cons, cells_agg, cells_i, cells_b, cells_s, cells_imm, toI_i, toB_b, toS_s, toL_imm, nth_agg, nth_tup, put_agg, put_i, put_b, put_s, put_imm, setCells, List.getD_cons_zero, List.getD_cons_succ, bSh_b, bSh_i, bSh_s, bSh_sl, bSh_some, cond_true, cond_false, decide_true, decide_false, Int.toNat_natCast, Nat.zero_add, Nat.reduceAdd, beq_self_eq_true, Bool.and_true, Bool.true_and, if_true, Bool.false_eq_true, if_false, List.set_cons_zero, List.set_cons_succ, Bool.not_true, Bool.not_false, Bool.and_self]
  cases hok : okBt d b p s B M
  · exact ⟨0, 0, 0, 0, 1, [], [], z64, z64, z64, z64, nil2, nil2, rfl, rfl⟩
  obtain ⟨hd, hb, hs1, hBi, hMn, hM40, hMo⟩ := okBt_bd hok
  obtain ⟨k1, k2⟩ := mul_le2 (show (0 : Int) ≤ d by omega) hd.2 (show (0 : Int) ≤ b by omega) hb.2
  have hl40 := rising_len (U := d * b - 1) (by omega) hBi
  simp only [f71_eq, f80_eq, in90, in72, w64 (x := d * b) (by omega) (by omega), w64 (x := d * b - 1) (by omega) (by omega), bOwn_some, bOwnF_some, bOwnS_some, bOwnFS_some, okRs_nil, okRs_cons, okR_row, okR_same, okR_var, okR_gone, okS_so, okS_pr, okS_po, okLens_nil, okLens_same, okLens_row, okLens_var, row_live, flatR_live, flatL_nil, flatL_cons, flat_i, flat_b, flat_s, flat_sl, flat_agg, flat_tup, List.all_cons, List.all_nil, List.length_cons, List.length_nil, Nat.reduceLeDiff, Nat.le_refl, decide_true, Bool.and_self, mkL_length, List.headD_cons, okC_nil, okC_agg, okC_i, okC_b, okC_s, okC_imm, okL_i, okL_b, okL_s, okL_sl, okS_i, okS_b, okS_s, okS_sl, okS_agg, okS_tup, okS_nil, okS_cons, cells_agg, cells_i, cells_b, cells_s, cells_imm, toI_i, toB_b, toS_s, toL_imm, nth_agg, nth_tup, put_agg, put_i, put_b, put_s, put_imm, setCells, List.getD_cons_zero, List.getD_cons_succ, bSh_b, bSh_i, bSh_s, bSh_sl, bSh_some, cond_true, cond_false, decide_true, decide_false, Int.toNat_natCast, Nat.zero_add, Nat.reduceAdd, beq_self_eq_true, Bool.and_true, Bool.true_and, if_true, Bool.false_eq_true, if_false, List.set_cons_zero, List.set_cons_succ, Bool.not_true, Bool.not_false, Bool.and_self]
  cases hrg : (decide (0 ≤ x) && decide (x ≤ d * b - 1))
  · exact ⟨0, 0, 0, 0, 2, [], [], z64, z64, z64, z64, nil2, nil2, rfl, rfl⟩
  simp only [Bool.and_eq_true, decide_eq_true_eq] at hrg
  rw [f81o1_eq, e2, spec_has hB]
  simp only [bOwn_some, bOwnF_some, bOwnS_some, bOwnFS_some, okRs_nil, okRs_cons, okR_row, okR_same, okR_var, okR_gone, okS_so, okS_pr, okS_po, okLens_nil, okLens_same, okLens_row, okLens_var, row_live, flatR_live, flatL_nil, flatL_cons, flat_i, flat_b, flat_s, flat_sl, flat_agg, flat_tup, List.all_cons, List.all_nil, List.length_cons, List.length_nil, Nat.reduceLeDiff, Nat.le_refl, decide_true, Bool.and_self, mkL_length, List.headD_cons, okC_nil, okC_agg, okC_i, okC_b, okC_s, okC_imm, okL_i, okL_b, okL_s, okL_sl, okS_i, okS_b, okS_s, okS_sl, okS_agg, okS_tup, okS_nil, okS_cons, cells_agg, cells_i, cells_b, cells_s, cells_imm, toI_i, toB_b, toS_s, toL_imm, nth_agg, nth_tup, put_agg, put_i, put_b, put_s, put_imm, setCells, List.getD_cons_zero, List.getD_cons_succ, bSh_b, bSh_i, bSh_s, bSh_sl, bSh_some, cond_true, cond_false, decide_true, decide_false, Int.toNat_natCast, Nat.zero_add, Nat.reduceAdd, beq_self_eq_true, Bool.and_true, Bool.true_and, if_true, Bool.false_eq_true, if_false, List.set_cons_zero, List.set_cons_succ, Bool.not_true, Bool.not_false, Bool.and_self]
  cases hbad : hs B x
  rotate_left
  · exact ⟨0, 0, 0, 0, 5, [], [], z64, z64, z64, z64, nil2, nil2, rfl, rfl⟩
  obtain ⟨k, f, hbs, hk⟩ := bin_search hB (fun i hi => (hBi i hi).2) x
  have hput := spec_put hB hk hbad
  have hrow := t2_insert (k := k) hB (by omega) hx
  have hins : dno E 130 [(.sl 0 [] none), (.i .i64 (k : Int)), (.sl 1 [] none)] [(.live true false false 2 B), (.live true false false 2 [(.i .i64 x)])] = some (.sl 0 [] none, [.live true false false 2 (B.take k ++ [.i .i64 x] ++ B.drop k), .live true false false 2 [.i .i64 x]]) := by
    have hkl := hk.1
    rw [f130_eq, if_pos ⟨⟨rfl, rfl⟩, ⟨by omega, by omega⟩, by simp only [room]; omega⟩, Int.toNat_natCast]
  have hf1 := t2_flat hrow
  have hf2 := t2_flat hM
  have hf0 := t2_flat hB
  have j1 : ∀ r3, f81o1_j1 x d b p s B M 0 0 0 0 B r3 d b p s = some (.tup [(.agg [(.i .i64 d), (.i .i64 b), (.i .i64 p), (.i .i64 s), (.sl 0 [] none), (.sl 1 [] none)]), (.i .i64 0)], [(.live true false false 2 (B.take k ++ [.i .i64 x] ++ B.drop k)), (.live true false false 2 r3)]) := fun r3 => by
    rw [f81o1_j1_eq, hbs]
    simp only [hins, bOwn_some, bOwnF_some, bOwnS_some, bOwnFS_some, okRs_nil, okRs_cons, okR_row, okR_same, okR_var, okR_gone, okS_so, okS_pr, okS_po, okLens_nil, okLens_same, okLens_row, okLens_var, row_live, flatR_live, flatL_nil, flatL_cons, flat_i, flat_b, flat_s, flat_sl, flat_agg, flat_tup, List.all_cons, List.all_nil, List.length_cons, List.length_nil, Nat.reduceLeDiff, Nat.le_refl, decide_true, Bool.and_self, mkL_length, List.headD_cons, okC_nil, okC_agg, okC_i, okC_b, okC_s, okC_imm, okL_i, okL_b, okL_s, okL_sl, okS_i, okS_b, okS_s, okS_sl, okS_agg, okS_tup, okS_nil, okS_cons, cells_agg, cells_i, cells_b, cells_s, cells_imm, toI_i, toB_b, toS_s, toL_imm, nth_agg, nth_tup, put_agg, put_i, put_b, put_s, put_imm, setCells, List.getD_cons_zero, List.getD_cons_succ, bSh_b, bSh_i, bSh_s, bSh_sl, bSh_some, cond_true, cond_false, decide_true, decide_false, Int.toNat_natCast, Nat.zero_add, Nat.reduceAdd, beq_self_eq_true, Bool.and_true, Bool.true_and, if_true, Bool.false_eq_true, if_false, List.set_cons_zero, List.set_cons_succ, Bool.not_true, Bool.not_false, Bool.and_self]
  simp only [f73o1_eq, own1, own2, hput, clone, hf1, hf2, hf0, bOwn_some, bOwnF_some, bOwnS_some, bOwnFS_some, okRs_nil, okRs_cons, okR_row, okR_same, okR_var, okR_gone, okS_so, okS_pr, okS_po, okLens_nil, okLens_same, okLens_row, okLens_var, row_live, flatR_live, flatL_nil, flatL_cons, flat_i, flat_b, flat_s, flat_sl, flat_agg, flat_tup, List.all_cons, List.all_nil, List.length_cons, List.length_nil, Nat.reduceLeDiff, Nat.le_refl, decide_true, Bool.and_self, mkL_length, List.headD_cons, okC_nil, okC_agg, okC_i, okC_b, okC_s, okC_imm, okL_i, okL_b, okL_s, okL_sl, okS_i, okS_b, okS_s, okS_sl, okS_agg, okS_tup, okS_nil, okS_cons, cells_agg, cells_i, cells_b, cells_s, cells_imm, toI_i, toB_b, toS_s, toL_imm, nth_agg, nth_tup, put_agg, put_i, put_b, put_s, put_imm, setCells, List.getD_cons_zero, List.getD_cons_succ, bSh_b, bSh_i, bSh_s, bSh_sl, bSh_some, cond_true, cond_false, decide_true, decide_false, Int.toNat_natCast, Nat.zero_add, Nat.reduceAdd, beq_self_eq_true, Bool.and_true, Bool.true_and, if_true, Bool.false_eq_true, if_false, List.set_cons_zero, List.set_cons_succ, Bool.not_true, Bool.not_false, Bool.and_self]
  rcases idx with ⟨i1, i2⟩ | ⟨j, hj, i1, i2⟩
  · rcases hold with ⟨o1, _⟩ | ⟨j', hj', _, o2⟩
    rotate_left
    · exact absurd o2 (i2 j' hj')
    have n1 : (-1 : Int) < 0 := by decide
    have n2 : ¬ (0 : Int) ≤ -1 := by decide
    simp only [o1, i1, n1, n2, j1, bOwn_some, bOwnF_some, bOwnS_some, bOwnFS_some, okRs_nil, okRs_cons, okR_row, okR_same, okR_var, okR_gone, okS_so, okS_pr, okS_po, okLens_nil, okLens_same, okLens_row, okLens_var, row_live, flatR_live, flatL_nil, flatL_cons, flat_i, flat_b, flat_s, flat_sl, flat_agg, flat_tup, List.all_cons, List.all_nil, List.length_cons, List.length_nil, Nat.reduceLeDiff, Nat.le_refl, decide_true, Bool.and_self, mkL_length, List.headD_cons, okC_nil, okC_agg, okC_i, okC_b, okC_s, okC_imm, okL_i, okL_b, okL_s, okL_sl, okS_i, okS_b, okS_s, okS_sl, okS_agg, okS_tup, okS_nil, okS_cons, cells_agg, cells_i, cells_b, cells_s, cells_imm, toI_i, toB_b, toS_s, toL_imm, nth_agg, nth_tup, put_agg, put_i, put_b, put_s, put_imm, setCells, List.getD_cons_zero, List.getD_cons_succ, bSh_b, bSh_i, bSh_s, bSh_sl, bSh_some, cond_true, cond_false, decide_true, decide_false, Int.toNat_natCast, Nat.zero_add, Nat.reduceAdd, beq_self_eq_true, Bool.and_true, Bool.true_and, if_true, Bool.false_eq_true, if_false, List.set_cons_zero, List.set_cons_succ, Bool.not_true, Bool.not_false, Bool.and_self]
    exact ⟨d, b, p, s, 0, _, M, v0, v1, v2, v3, hrow, hM, rfl, rfl⟩
  · rcases hold with ⟨_, o2⟩ | ⟨j', hj', o1, o2⟩
    · exact absurd i2 (o2 j hj)
    have hjj : j' = j := by
      have distinct : ∀ a c, a < c → c < M.length → iA M a = x → iA M c = x → False := fun a c h1 h2 h3 h4 => by
        have := hMo c h2
        unfold okRm at this
        simp only [Bool.and_eq_true, Bool.not_eq_true'] at this
        have h5 := hs_false.1 this.2.1 a (by rw [List.length_take]; omega)
        apply h5
        rw [h4, ← h3]
        have h6 : (M.take c).getD a .x = M.getD a .x := by simp only [List.getD_eq_getElem?_getD, List.getElem?_take, if_pos h1]
        unfold iA
        rw [h6]
      rcases Nat.lt_trichotomy j' j with h | h | h
      · exact (distinct j' j h hj o2 i2).elim
      · exact h
      · exact (distinct j j' h hj' i2 o2).elim
    subst hjj
    have hMx : hs M x = true := hs_iff.2 ⟨j', hj, i2⟩
    have t0 : 0 ≤ x.tdiv b := Int.tdiv_nonneg (by omega) (by omega)
    have t1 : x.tdiv b ≤ 1000 := by have := Int.tdiv_le_self b hrg.1; omega
    have a1 := avS _ hrow _ t0 t1 hb hs1
    have a2 := avI _ t0 t1 hb hs1
    rw [av_same hMx] at a1
    have ht := t2_mkL (n := s.toNat) (by omega) (g := fun k => x.tdiv b * b + (b - s + (k : Int))) (fun i hi => by
      obtain ⟨m1, m2⟩ := mul_le2 t0 t1 (show (0 : Int) ≤ b by omega) hb.2
      exact ⟨by omega, by omega⟩)
    obtain ⟨L, hL⟩ : ∃ L, L = (mkL s.toNat fun k => (.i .i64 (x.tdiv b * b + (b - s + (k : Int))) : AV)).filter (okS B M) := ⟨_, rfl⟩
    rw [← hL] at a1 a2
    have hLt : ∀ y, y ∈ L → T2 1048576 y := fun y hy => ht.2 y (by rw [hL] at hy; exact (List.mem_filter.1 hy).1)
    have hLf : flatVL L = true := flatVL_of fun y hy => by obtain ⟨_, rfl, _⟩ := hLt y hy; rfl
    have nb : ¬ b = 0 := by omega
    have nj : ¬ (j' : Int) < 0 := by omega
    have nj2 : (0 : Int) ≤ (j' : Int) := by omega
    simp only [o1, i1, nb, nj, nj2, w64 (x := x.tdiv b) (by omega) (by omega), a1, a2, hLf, bOwn_some, bOwnF_some, bOwnS_some, bOwnFS_some, okRs_nil, okRs_cons, okR_row, okR_same, okR_var, okR_gone, okS_so, okS_pr, okS_po, okLens_nil, okLens_same, okLens_row, okLens_var, row_live, flatR_live, flatL_nil, flatL_cons, flat_i, flat_b, flat_s, flat_sl, flat_agg, flat_tup, List.all_cons, List.all_nil, List.length_cons, List.length_nil, Nat.reduceLeDiff, Nat.le_refl, decide_true, Bool.and_self, mkL_length, List.headD_cons, okC_nil, okC_agg, okC_i, okC_b, okC_s, okC_imm, okL_i, okL_b, okL_s, okL_sl, okS_i, okS_b, okS_s, okS_sl, okS_agg, okS_tup, okS_nil, okS_cons, cells_agg, cells_i, cells_b, cells_s, cells_imm, toI_i, toB_b, toS_s, toL_imm, nth_agg, nth_tup, put_agg, put_i, put_b, put_s, put_imm, setCells, List.getD_cons_zero, List.getD_cons_succ, bSh_b, bSh_i, bSh_s, bSh_sl, bSh_some, cond_true, cond_false, decide_true, decide_false, Int.toNat_natCast, Nat.zero_add, Nat.reduceAdd, beq_self_eq_true, Bool.and_true, Bool.true_and, if_true, Bool.false_eq_true, if_false, List.set_cons_zero, List.set_cons_succ, Bool.not_true, Bool.not_false, Bool.and_self]
    by_cases h0 : ((L.length : Nat) : Int) = 0
    · simp only [h0, bOwn_some, bOwnF_some, bOwnS_some, bOwnFS_some, okRs_nil, okRs_cons, okR_row, okR_same, okR_var, okR_gone, okS_so, okS_pr, okS_po, okLens_nil, okLens_same, okLens_row, okLens_var, row_live, flatR_live, flatL_nil, flatL_cons, flat_i, flat_b, flat_s, flat_sl, flat_agg, flat_tup, List.all_cons, List.all_nil, List.length_cons, List.length_nil, Nat.reduceLeDiff, Nat.le_refl, decide_true, Bool.and_self, mkL_length, List.headD_cons, okC_nil, okC_agg, okC_i, okC_b, okC_s, okC_imm, okL_i, okL_b, okL_s, okL_sl, okS_i, okS_b, okS_s, okS_sl, okS_agg, okS_tup, okS_nil, okS_cons, cells_agg, cells_i, cells_b, cells_s, cells_imm, toI_i, toB_b, toS_s, toL_imm, nth_agg, nth_tup, put_agg, put_i, put_b, put_s, put_imm, setCells, List.getD_cons_zero, List.getD_cons_succ, bSh_b, bSh_i, bSh_s, bSh_sl, bSh_some, cond_true, cond_false, decide_true, decide_false, Int.toNat_natCast, Nat.zero_add, Nat.reduceAdd, beq_self_eq_true, Bool.and_true, Bool.true_and, if_true, Bool.false_eq_true, if_false, List.set_cons_zero, List.set_cons_succ, Bool.not_true, Bool.not_false, Bool.and_self]
      exact ⟨0, 0, 0, 0, 4, [], [], z64, z64, z64, z64, nil2, nil2, rfl, rfl⟩
    have hL0 : 0 < L.length := by omega
    have hT := hLt _ (getD_mem hL0)
    have g1 : (0 : Int) ≤ 0 ∧ (0 : Int) < ((L.length : Nat) : Int) := ⟨by omega, by omega⟩
    have g2 : (0 : Int) ≤ (j' : Int) ∧ (j' : Int) < ((M.length : Nat) : Int) := ⟨by omega, by omega⟩
    have hTM := hM.at hj
    simp only [h0, g1, g2, show (0 : Int).toNat = 0 from rfl, hT.ok, hT.eta, t2_put hTM, j1, bOwn_some, bOwnF_some, bOwnS_some, bOwnFS_some, okRs_nil, okRs_cons, okR_row, okR_same, okR_var, okR_gone, okS_so, okS_pr, okS_po, okLens_nil, okLens_same, okLens_row, okLens_var, row_live, flatR_live, flatL_nil, flatL_cons, flat_i, flat_b, flat_s, flat_sl, flat_agg, flat_tup, List.all_cons, List.all_nil, List.length_cons, List.length_nil, Nat.reduceLeDiff, Nat.le_refl, decide_true, Bool.and_self, mkL_length, List.headD_cons, okC_nil, okC_agg, okC_i, okC_b, okC_s, okC_imm, okL_i, okL_b, okL_s, okL_sl, okS_i, okS_b, okS_s, okS_sl, okS_agg, okS_tup, okS_nil, okS_cons, cells_agg, cells_i, cells_b, cells_s, cells_imm, toI_i, toB_b, toS_s, toL_imm, nth_agg, nth_tup, put_agg, put_i, put_b, put_s, put_imm, setCells, List.getD_cons_zero, List.getD_cons_succ, bSh_b, bSh_i, bSh_s, bSh_sl, bSh_some, cond_true, cond_false, decide_true, decide_false, Int.toNat_natCast, Nat.zero_add, Nat.reduceAdd, beq_self_eq_true, Bool.and_true, Bool.true_and, if_true, Bool.false_eq_true, if_false, List.set_cons_zero, List.set_cons_succ, Bool.not_true, Bool.not_false, Bool.and_self]
    refine ⟨d, b, p, s, 0, _, _, v0, v1, v2, v3, hrow, ?_, rfl, rfl⟩
    refine ⟨by rw [List.length_set]; exact hM.1, fun y hy => ?_⟩
    rcases List.mem_or_eq_of_mem_set hy with h1 | h1
    · exact hM.2 y h1
    · rw [h1]; exact hT


/-! The law. -/
theorem own_bt (d b p s : Int) {B M : List AV} (hg : T23 1048576 (.agg [(.i .i64 d), (.i .i64 b), (.i .i64 p)])) (hB : Rw (T2 1048576) 1048576 B) (hM : Rw (T2 1048576) 1048576 M) : dno E 28 [bt d b p s B M] [] = some (btR d b p s, [(.live true false false 2 B), (.live true false false 2 M)]) := by
  unfold bt btR
  rw [f28o1_eq, to77 hg, own_int hB, own_int hM]
  simp only [bOwn_some, bOwnF_some, bOwnS_some, bOwnFS_some, okRs_nil, okRs_cons, okR_row, okR_same, okR_var, okR_gone, okS_so, okS_pr, okS_po, okLens_nil, okLens_same, okLens_row, okLens_var, row_live, flatR_live, flatL_nil, flatL_cons, flat_i, flat_b, flat_s, flat_sl, flat_agg, flat_tup, List.all_cons, List.all_nil, List.length_cons, List.length_nil, Nat.reduceLeDiff, Nat.le_refl, decide_true, Bool.and_self, mkL_length, List.headD_cons, okC_nil, okC_agg, okC_i, okC_b, okC_s, okC_imm, okL_i, okL_b, okL_s, okL_sl, okS_i, okS_b, okS_s, okS_sl, okS_agg, okS_tup, okS_nil, okS_cons, cells_agg, cells_i, cells_b, cells_s, cells_imm, toI_i, toB_b, toS_s, toL_imm, nth_agg, nth_tup, put_agg, put_i, put_b, put_s, put_imm, setCells, List.getD_cons_zero, List.getD_cons_succ, bSh_b, bSh_i, bSh_s, bSh_sl, bSh_some, cond_true, cond_false, decide_true, decide_false, Int.toNat_natCast, Nat.zero_add, Nat.reduceAdd, beq_self_eq_true, Bool.and_true, Bool.true_and, if_true, Bool.false_eq_true, if_false, List.set_cons_zero, List.set_cons_succ, Bool.not_true, Bool.not_false, Bool.and_self]
theorem mark_bt (d b p s : Int) {B M : List AV} (hB : Rw (T2 1048576) 1048576 B) (hM : Rw (T2 1048576) 1048576 M) :
    dno E 31 [btR d b p s, (.i .i64 1)] [(.live true false false 2 B), (.live true false false 2 M)] =
      some (.i .i64 (1 + ((B.length : Nat) : Int) + ((M.length : Nat) : Int)), [(.live true false false 2 (mkL B.length fun i => .i .i64 (1 + (i : Int)))), (.live true false false 2 (mkL M.length fun i => .i .i64 (1 + ((B.length : Nat) : Int) + (i : Int))))]) := by
  have h1 := hB.1
  have h2 := hM.1
  unfold btR
  rw [f31o1_eq, mark_int hB 1 (by omega) (by omega)]
  simp only [bOwn_some, bOwnF_some, bOwnS_some, bOwnFS_some, okRs_nil, okRs_cons, okR_row, okR_same, okR_var, okR_gone, okS_so, okS_pr, okS_po, okLens_nil, okLens_same, okLens_row, okLens_var, row_live, flatR_live, flatL_nil, flatL_cons, flat_i, flat_b, flat_s, flat_sl, flat_agg, flat_tup, List.all_cons, List.all_nil, List.length_cons, List.length_nil, Nat.reduceLeDiff, Nat.le_refl, decide_true, Bool.and_self, mkL_length, List.headD_cons, okC_nil, okC_agg, okC_i, okC_b, okC_s, okC_imm, okL_i, okL_b, okL_s, okL_sl, okS_i, okS_b, okS_s, okS_sl, okS_agg, okS_tup, okS_nil, okS_cons, cells_agg, cells_i, cells_b, cells_s, cells_imm, toI_i, toB_b, toS_s, toL_imm, nth_agg, nth_tup, put_agg, put_i, put_b, put_s, put_imm, setCells, List.getD_cons_zero, List.getD_cons_succ, bSh_b, bSh_i, bSh_s, bSh_sl, bSh_some, cond_true, cond_false, decide_true, decide_false, Int.toNat_natCast, Nat.zero_add, Nat.reduceAdd, beq_self_eq_true, Bool.and_true, Bool.true_and, if_true, Bool.false_eq_true, if_false, List.set_cons_zero, List.set_cons_succ, Bool.not_true, Bool.not_false, Bool.and_self]
  rw [mark_int hM _ (by omega) (by omega)]
  simp only [bOwn_some, bOwnF_some, bOwnS_some, bOwnFS_some, okRs_nil, okRs_cons, okR_row, okR_same, okR_var, okR_gone, okS_so, okS_pr, okS_po, okLens_nil, okLens_same, okLens_row, okLens_var, row_live, flatR_live, flatL_nil, flatL_cons, flat_i, flat_b, flat_s, flat_sl, flat_agg, flat_tup, List.all_cons, List.all_nil, List.length_cons, List.length_nil, Nat.reduceLeDiff, Nat.le_refl, decide_true, Bool.and_self, mkL_length, List.headD_cons, okC_nil, okC_agg, okC_i, okC_b, okC_s, okC_imm, okL_i, okL_b, okL_s, okL_sl, okS_i, okS_b, okS_s, okS_sl, okS_agg, okS_tup, okS_nil, okS_cons, cells_agg, cells_i, cells_b, cells_s, cells_imm, toI_i, toB_b, toS_s, toL_imm, nth_agg, nth_tup, put_agg, put_i, put_b, put_s, put_imm, setCells, List.getD_cons_zero, List.getD_cons_succ, bSh_b, bSh_i, bSh_s, bSh_sl, bSh_some, cond_true, cond_false, decide_true, decide_false, Int.toNat_natCast, Nat.zero_add, Nat.reduceAdd, beq_self_eq_true, Bool.and_true, Bool.true_and, if_true, Bool.false_eq_true, if_false, List.set_cons_zero, List.set_cons_succ, Bool.not_true, Bool.not_false, Bool.and_self]
theorem held_int (n : Nat) (hn : n ≤ 1048576) (k : Int) (hk : 0 ≤ k) (hk2 : k ≤ 1099511627776) : den E 84 [(.imm 1 (mkL n fun i => .i .i64 (k + (i : Int)))), (.i .i64 k)] [] = some (.i .i64 (k + (n : Int))) := by
  rw [f84_eq]
  have := loop_to (L := fun i => f84_l1 (mkL n fun i => .i .i64 (k + (i : Int))) (k + i) i) (n := n) (X := some (.i .i64 (k + (n : Int)))) (fun i hi => ?_) ?_
  · simpa using this
  · try dsimp only
    rw [f84_l1_eq, mkL_length, dT (show (i : Int) < (n : Int) by omega), cond_true, if_pos (by omega), w64 (x := k + (i : Int) + 1) (by omega) (by omega), w64 (x := (i : Int) + 1) (by omega) (by omega)]
    simp only [mkL_getD hi, okC_nil, okC_agg, okC_i, okC_b, okC_s, okC_imm, okL_i, okL_b, okL_s, okL_sl, okS_i, okS_b, okS_s, okS_sl, okS_agg, okS_tup, okS_nil, okS_cons, cells_agg, cells_i, cells_b, cells_s, cells_imm, toI_i, toB_b, toS_s, toL_imm, nth_agg, nth_tup, put_agg, put_i, put_b, put_s, put_imm, setCells, List.getD_cons_zero, List.getD_cons_succ, bSh_b, bSh_i, bSh_s, bSh_sl, bSh_some, cond_true, cond_false, decide_true, decide_false, Int.toNat_natCast, Nat.zero_add, Nat.reduceAdd, beq_self_eq_true, Bool.and_true, Bool.true_and, if_true, Bool.false_eq_true, if_false, List.set_cons_zero, List.set_cons_succ, Bool.not_true, Bool.not_false, Bool.and_self, Bool.not_true]
    rw [Int.add_assoc]
  · try dsimp only
    rw [f84_l1_eq, mkL_length, dF (Int.lt_irrefl _), cond_false]
theorem held_bt (a c : Nat) (d b p s : Int) (ha : a ≤ 1048576) (hc : c ≤ 1048576) :
    den E 32 [bt d b p s (mkL a fun i => .i .i64 (1 + (i : Int))) (mkL c fun i => .i .i64 (1 + (a : Int) + (i : Int))), (.i .i64 1)] [] = some (.i .i64 (1 + (a : Int) + (c : Int))) := by
  have k1 : ¬ 1 + (a : Int) < 0 := by omega
  have k2 : ¬ 1 + (a : Int) + (c : Int) < 0 := by omega
  unfold bt
  rw [f32_eq, held_int a ha 1 (by omega) (by omega)]
  simp only [k1, okC_nil, okC_agg, okC_i, okC_b, okC_s, okC_imm, okL_i, okL_b, okL_s, okL_sl, okS_i, okS_b, okS_s, okS_sl, okS_agg, okS_tup, okS_nil, okS_cons, cells_agg, cells_i, cells_b, cells_s, cells_imm, toI_i, toB_b, toS_s, toL_imm, nth_agg, nth_tup, put_agg, put_i, put_b, put_s, put_imm, setCells, List.getD_cons_zero, List.getD_cons_succ, bSh_b, bSh_i, bSh_s, bSh_sl, bSh_some, cond_true, cond_false, decide_true, decide_false, Int.toNat_natCast, Nat.zero_add, Nat.reduceAdd, beq_self_eq_true, Bool.and_true, Bool.true_and, if_true, Bool.false_eq_true, if_false, List.set_cons_zero, List.set_cons_succ, Bool.not_true, Bool.not_false, Bool.and_self]
  rw [held_int c hc _ (by omega) (by omega)]
  simp only [k2, okC_nil, okC_agg, okC_i, okC_b, okC_s, okC_imm, okL_i, okL_b, okL_s, okL_sl, okS_i, okS_b, okS_s, okS_sl, okS_agg, okS_tup, okS_nil, okS_cons, cells_agg, cells_i, cells_b, cells_s, cells_imm, toI_i, toB_b, toS_s, toL_imm, nth_agg, nth_tup, put_agg, put_i, put_b, put_s, put_imm, setCells, List.getD_cons_zero, List.getD_cons_succ, bSh_b, bSh_i, bSh_s, bSh_sl, bSh_some, cond_true, cond_false, decide_true, decide_false, Int.toNat_natCast, Nat.zero_add, Nat.reduceAdd, beq_self_eq_true, Bool.and_true, Bool.true_and, if_true, Bool.false_eq_true, if_false, List.set_cons_zero, List.set_cons_succ, Bool.not_true, Bool.not_false, Bool.and_self]

theorem pure (el : AV) (h : T76 9223372036854775807 el) (x : Int) (hx : W64 x) : den E 6 [el, (.i .i64 x)] [] = some (.b true) := by
  obtain ⟨r, hr, hq⟩ := sz26 h 1048576 (by omega) (by omega)
  obtain ⟨d, b, p, s, B, M, rfl, w0, w1, w2, w3, w4, w5, _⟩ := h
  rw [f6_eq, hr]
  simp only [bSh_i, toI_i]
  rcases hq with hq | ⟨h0, h1, hT⟩
  · simp only [hq, decide_true, cond_true]
  have hn : ¬ r < 0 := by omega
  simp only [hn, decide_false, cond_false]
  obtain ⟨d', b', p', s', B', M', he, v0, v1, v2, v3, v4, v5, _⟩ := hT
  cases he
  obtain ⟨d1, b1, p1, s1, k, r0, r1, y0, y1, y2, y3, u0, u1, hs, hi⟩ := retires v0 v1 v2 v3 v4 v5 x hx
  have hG : T23 1048576 (.agg [(.i .i64 d), (.i .i64 b), (.i .i64 p)]) := ⟨d, b, p, rfl, v0, v1, v2, trivial⟩
  have e0 := own_bt d b p s hG v4 v5
  have q0 := eq30 (el := bt d b p s B M) ⟨d, b, p, s, B, M, rfl, v0, v1, v2, v3, v4, v5, trivial⟩
  have q1 := eq30 (el := bt d1 b1 p1 s1 r0 r1) ⟨d1, b1, p1, s1, r0, r1, rfl, y0, y1, y2, y3, u0, u1, trivial⟩
  have m0 := mark_bt d b p s v4 v5
  have m1 := mark_bt d1 b1 p1 s1 u0 u1
  have g1 := held_bt r0.length r1.length d1 b1 p1 s1 u0.1 u1.1
  have k0 : ¬ 1 + ((B.length : Nat) : Int) + ((M.length : Nat) : Int) < 0 := by omega
  have k1 : ¬ 1 + ((r0.length : Nat) : Int) + ((r1.length : Nat) : Int) < 0 := by omega
  have f0 := t2_flat u0
  have f1 := t2_flat u1
  unfold bt at hs hi e0 q0 q1 g1
  unfold btR at hs hi e0 m0 m1
  simp only [e0, hs, hi, q0, q1, m0, m1, g1, k0, k1, f0, f1, bOwn_some, bOwnF_some, bOwnS_some, bOwnFS_some, okRs_nil, okRs_cons, okR_row, okR_same, okR_var, okR_gone, okS_so, okS_pr, okS_po, okLens_nil, okLens_same, okLens_row, okLens_var, row_live, flatR_live, flatL_nil, flatL_cons, flat_i, flat_b, flat_s, flat_sl, flat_agg, flat_tup, List.all_cons, List.all_nil, List.length_cons, List.length_nil, Nat.reduceLeDiff, Nat.le_refl, decide_true, Bool.and_self, mkL_length, List.headD_cons, okC_nil, okC_agg, okC_i, okC_b, okC_s, okC_imm, okL_i, okL_b, okL_s, okL_sl, okS_i, okS_b, okS_s, okS_sl, okS_agg, okS_tup, okS_nil, okS_cons, cells_agg, cells_i, cells_b, cells_s, cells_imm, toI_i, toB_b, toS_s, toL_imm, nth_agg, nth_tup, put_agg, put_i, put_b, put_s, put_imm, setCells, List.getD_cons_zero, List.getD_cons_succ, bSh_b, bSh_i, bSh_s, bSh_sl, bSh_some, cond_true, cond_false, decide_true, decide_false, Int.toNat_natCast, Nat.zero_add, Nat.reduceAdd, beq_self_eq_true, Bool.and_true, Bool.true_and, if_true, Bool.false_eq_true, if_false, List.set_cons_zero, List.set_cons_succ, Bool.not_true, Bool.not_false, Bool.and_self]
end Go.Proofs.Ytkpmplggbbiebaa.IRetireBlock
