/- SetPage: the program's answer is the reference's, for every map, page, place and mark. No condition beyond what each theorem states. -/
import Derived.Test.YtcjfeglalmlkbaaISetPagef
import Derived.Test.YtcjfeglalmlkbaaItMk
namespace Go.Proofs.Ytcjfeglalmlkbaa.ISetPage
open Go Go.Proofs.YtcjfeglalmlkbaaIT
set_option linter.unusedSimpArgs false

theorem in90 (a lo hi : Int) : den E 77 [(.i .i64 a), (.i .i64 lo), (.i .i64 hi)] [] = some (.b (decide (lo ≤ a) && decide (a ≤ hi))) := by
  rw [f77_eq, beq_true, cond_andb]
theorem in72 (a lo hi : Int) : den E 70 [(.i .i64 a), (.i .i64 lo), (.i .i64 hi)] [] = some (.b (decide (lo ≤ a) && decide (a ≤ hi))) := by
  rw [f70_eq, beq_true, cond_andb]


theorem t2_put {B : Nat} {y v : AV} (h : T2 B y) : y.putCells 0 [v] = v := by obtain ⟨_, rfl, _⟩ := h; rfl
theorem t4_put {B : Nat} {y v : AV} (h : T4 B y) : y.putCells 0 [v] = v := by obtain ⟨_, rfl, _⟩ := h; rfl
theorem t2_flat {B C : Nat} {l : List AV} (h : Rw (T2 B) C l) : flatVL l = true := flatVL_of fun y hy => by obtain ⟨_, rfl, _⟩ := h.2 y hy; rfl
theorem t4_flat {B C : Nat} {l : List AV} (h : Rw (T4 B) C l) : flatVL l = true := flatVL_of fun y hy => by obtain ⟨_, rfl, _⟩ := h.2 y hy; rfl

/-! Copies in memory of the call's own. -/
theorem own_int {l : List AV} (h : Rw (T2 1048576) 1048576 l) : dno E 90 [(.imm 1 l)] [] = some (.sl 0 [] none, [.live true false false 2 l]) := by
  have hl := h.1
  rw [f90o1_eq, if_pos (by simp only [room]; omega), Int.toNat_natCast]
  refine fill_loop (L := fun i ys => f90o1_l1 l i [] ys) (xs := l) (ys0 := List.replicate l.length (.i .i64 0)) (F := fun ys => some (.sl 0 [] none, [.live true false false 2 ys])) (by simp) (fun i ys hi hy hz => ?_) ?_
  · have hT := h.at hi
    have hz' : ys.getD i .x = .i .i64 0 := by rw [hz]; simp [List.getD_eq_getElem?_getD, hi]
    try dsimp only
    rw [f90o1_l1_eq, dT (show (i : Int) < ((l.length : Nat) : Int) by omega), cond_true, if_pos (by omega), w64 (x := (i : Int) + 1) (by omega) (by omega)]
    simp only [Int.toNat_natCast, Nat.zero_add, hT.ok, if_true, hz', put_i]
    rw [if_pos (by omega), hT.eta]
  · try dsimp only
    rw [f90o1_l1_eq, dF (Int.lt_irrefl _), cond_false]
theorem own_bool {l : List AV} (h : Rw (T4 1048576) 1048576 l) : dno E 91 [(.imm 1 l)] [] = some (.sl 0 [] none, [.live true false false 4 l]) := by
  have hl := h.1
  rw [f91o1_eq, if_pos (by simp only [room]; omega), Int.toNat_natCast]
  refine fill_loop (L := fun i ys => f91o1_l1 l i [] ys) (xs := l) (ys0 := List.replicate l.length (.b false)) (F := fun ys => some (.sl 0 [] none, [.live true false false 4 ys])) (by simp) (fun i ys hi hy hz => ?_) ?_
  · have hT := h.at hi
    have hz' : ys.getD i .x = .b false := by rw [hz]; simp [List.getD_eq_getElem?_getD, hi]
    try dsimp only
    rw [f91o1_l1_eq, dT (show (i : Int) < ((l.length : Nat) : Int) by omega), cond_true, if_pos (by omega), w64 (x := (i : Int) + 1) (by omega) (by omega)]
    simp only [Int.toNat_natCast, Nat.zero_add, hT.ok, if_true, hz', put_b]
    rw [if_pos (by omega), hT.eta]
  · try dsimp only
    rw [f91o1_l1_eq, dF (Int.lt_irrefl _), cond_false]

/-! Marks. -/
theorem mark_int {l : List AV} (h : Rw (T2 1048576) 1048576 l) (k : Int) (hk : 0 ≤ k) (hk2 : k ≤ 1099511627776) : dno E 98 [(.sl 0 [] none), (.i .i64 k)] [(.live true false false 2 l)] =
    some (.i .i64 (k + ((l.length : Nat) : Int)), [.live true false false 2 (mkL l.length fun i => .i .i64 (k + (i : Int)))]) := by
  have hl := h.1
  rw [f98o1_eq]
  have := fill_loop (L := fun i ys => f98o1_l1 (k + i) i ys) (xs := mkL l.length fun i => .i .i64 (k + (i : Int))) (ys0 := l) (F := fun ys => some (AV.i .i64 (k + ((l.length : Nat) : Int)), [.live true false false 2 ys])) (by rw [mkL_length]) (fun i ys hi hy hz => ?_) ?_
  · simpa using this
  · rw [mkL_length] at hi hy
    have hT := h.at hi
    try dsimp only
    rw [f98o1_l1_eq, dT (show (i : Int) < ((ys.length : Nat) : Int) by omega), cond_true, if_pos (by omega), w64 (x := k + (i : Int) + 1) (by omega) (by omega), w64 (x := (i : Int) + 1) (by omega) (by omega)]
    simp only [Int.toNat_natCast, Nat.zero_add, hz, t2_put hT, mkL_getD hi]
    rw [Int.add_assoc]
  · rw [mkL_length]
    try dsimp only
    rw [f98o1_l1_eq, dF (by rw [mkL_length]; omega), cond_false]
theorem mark_bool {l : List AV} (h : Rw (T4 1048576) 1048576 l) (k : Int) (hk : 0 ≤ k) (hk2 : k ≤ 1099511627776) : dno E 99 [(.sl 0 [] none), (.i .i64 k)] [(.live true false false 4 l)] =
    some (.i .i64 (k + ((l.length : Nat) : Int)), [.live true false false 4 (mkL l.length fun i => .b (decide ((k + (i : Int)).tmod 3 = 0)))]) := by
  have hl := h.1
  rw [f99o1_eq]
  have := fill_loop (L := fun i ys => f99o1_l1 (k + i) i ys) (xs := mkL l.length fun i => .b (decide ((k + (i : Int)).tmod 3 = 0))) (ys0 := l) (F := fun ys => some (AV.i .i64 (k + ((l.length : Nat) : Int)), [.live true false false 4 ys])) (by rw [mkL_length]) (fun i ys hi hy hz => ?_) ?_
  · simpa using this
  · rw [mkL_length] at hi hy
    have hT := h.at hi
    try dsimp only
    rw [f99o1_l1_eq, dT (show (i : Int) < ((ys.length : Nat) : Int) by omega), cond_true, if_pos (by omega), w64 (x := k + (i : Int) + 1) (by omega) (by omega), w64 (x := (i : Int) + 1) (by omega) (by omega)]
    simp only [Int.toNat_natCast, Nat.zero_add, hz, t4_put hT, mkL_getD hi]
    rw [Int.add_assoc]
  · rw [mkL_length]
    try dsimp only
    rw [f99o1_l1_eq, dF (by rw [mkL_length]; omega), cond_false]
theorem held_int (n : Nat) (hn : n ≤ 1048576) (k : Int) (hk : 0 ≤ k) (hk2 : k ≤ 1099511627776) : den E 100 [(.imm 1 (mkL n fun i => .i .i64 (k + (i : Int)))), (.i .i64 k)] [] = some (.i .i64 (k + (n : Int))) := by
  rw [f100_eq]
  have := loop_to (L := fun i => f100_l1 (mkL n fun i => .i .i64 (k + (i : Int))) (k + i) i) (n := n) (X := some (.i .i64 (k + (n : Int)))) (fun i hi => ?_) ?_
  · simpa using this
  · try dsimp only
    rw [f100_l1_eq, mkL_length, dT (show (i : Int) < (n : Int) by omega), cond_true, if_pos (by omega), w64 (x := k + (i : Int) + 1) (by omega) (by omega), w64 (x := (i : Int) + 1) (by omega) (by omega)]
    simp only [mkL_getD hi, okC_nil, okC_agg, okC_i, okC_b, okC_s, okC_imm, okL_i, okL_b, okL_s, okL_sl, okS_i, okS_b, okS_s, okS_sl, okS_agg, okS_tup, okS_nil, okS_cons, cells_agg, cells_i, cells_b, cells_s, cells_imm, toI_i, toB_b, toS_s, toL_imm, nth_agg, nth_tup, put_agg, put_i, put_b, put_s, put_imm, setCells, List.getD_cons_zero, List.getD_cons_succ, bSh_b, bSh_i, bSh_s, bSh_sl, bSh_some, cond_true, cond_false, decide_true, decide_false, Int.toNat_natCast, Nat.zero_add, Nat.reduceAdd, beq_self_eq_true, Bool.and_true, Bool.true_and, if_true, Bool.false_eq_true, if_false, List.set_cons_zero, List.set_cons_succ, Bool.not_true, Bool.not_false, Bool.and_self, Bool.not_true]
    rw [Int.add_assoc]
  · try dsimp only
    rw [f100_l1_eq, mkL_length, dF (Int.lt_irrefl _), cond_false]
theorem held_bool (n : Nat) (hn : n ≤ 1048576) (k : Int) (hk : 0 ≤ k) (hk2 : k ≤ 1099511627776) : den E 101 [(.imm 1 (mkL n fun i => .b (decide ((k + (i : Int)).tmod 3 = 0)))), (.i .i64 k)] [] = some (.i .i64 (k + (n : Int))) := by
  rw [f101_eq]
  have := loop_to (L := fun i => f101_l1 (mkL n fun i => .b (decide ((k + (i : Int)).tmod 3 = 0))) (k + i) i) (n := n) (X := some (.i .i64 (k + (n : Int)))) (fun i hi => ?_) ?_
  · simpa using this
  · try dsimp only
    rw [f101_l1_eq, mkL_length, dT (show (i : Int) < (n : Int) by omega), cond_true, if_pos (by omega), w64 (x := k + (i : Int) + 1) (by omega) (by omega), w64 (x := (i : Int) + 1) (by omega) (by omega)]
    simp only [mkL_getD hi, okC_nil, okC_agg, okC_i, okC_b, okC_s, okC_imm, okL_i, okL_b, okL_s, okL_sl, okS_i, okS_b, okS_s, okS_sl, okS_agg, okS_tup, okS_nil, okS_cons, cells_agg, cells_i, cells_b, cells_s, cells_imm, toI_i, toB_b, toS_s, toL_imm, nth_agg, nth_tup, put_agg, put_i, put_b, put_s, put_imm, setCells, List.getD_cons_zero, List.getD_cons_succ, bSh_b, bSh_i, bSh_s, bSh_sl, bSh_some, cond_true, cond_false, decide_true, decide_false, Int.toNat_natCast, Nat.zero_add, Nat.reduceAdd, beq_self_eq_true, Bool.and_true, Bool.true_and, if_true, Bool.false_eq_true, if_false, List.set_cons_zero, List.set_cons_succ, Bool.not_true, Bool.not_false, Bool.and_self, Bool.not_true]
    rw [Int.add_assoc]
  · try dsimp only
    rw [f101_l1_eq, mkL_length, dF (Int.lt_irrefl _), cond_false]


theorem t2_set {l : List AV} (h : Rw (T2 1048576) 1048576 l) (i : Nat) (x : Int) (hx : W64 x) : Rw (T2 1048576) 1048576 (l.set i (.i .i64 x)) := by
  refine ⟨by rw [List.length_set]; exact h.1, fun y hy => ?_⟩
  rcases List.mem_or_eq_of_mem_set hy with h1 | h1
  · exact h.2 y h1
  · rw [h1]; exact ⟨_, rfl, hx, trivial⟩
theorem t2_nil {B : Nat} : Rw (T2 B) 1048576 [] := ⟨by simp, fun y hy => by cases hy⟩
theorem t4_nil {B : Nat} : Rw (T4 B) 1048576 [] := ⟨by simp, fun y hy => by cases hy⟩
theorem t4_set {l : List AV} (h : Rw (T4 1048576) 1048576 l) (i : Nat) (x : Bool) : Rw (T4 1048576) 1048576 (l.set i (.b x)) := by
  refine ⟨by rw [List.length_set]; exact h.1, fun y hy => ?_⟩
  rcases List.mem_or_eq_of_mem_set hy with h1 | h1
  · exact h.2 y h1
  · rw [h1]; exact ⟨_, rfl, trivial⟩


theorem isIdx {x n : Int} (h1 : -9223372036854775808 < n) (h2 : n ≤ 9223372036854775807) : den E 73 [(.i .i64 x), (.i .i64 n)] [] = some (.b (decide (0 ≤ x) && decide (x ≤ n - 1))) := by
  rw [f73_eq, in72]
  simp only [okC_nil, okC_agg, okC_i, okC_b, okC_s, okC_imm, okL_i, okL_b, okL_s, okL_sl, okS_i, okS_b, okS_s, okS_sl, okS_agg, okS_tup, okS_nil, okS_cons, cells_agg, cells_i, cells_b, cells_s, cells_imm, toI_i, toB_b, toS_s, toL_imm, nth_agg, nth_tup, put_agg, put_i, put_b, put_s, put_imm, setCells, List.getD_cons_zero, List.getD_cons_succ, bSh_b, bSh_i, bSh_s, bSh_sl, bSh_some, cond_true, cond_false, decide_true, decide_false, Int.toNat_natCast, Nat.zero_add, Nat.reduceAdd, beq_self_eq_true, Bool.and_true, Bool.true_and, if_true, Bool.false_eq_true, if_false, List.set_cons_zero, List.set_cons_succ, Bool.not_true, Bool.not_false, Bool.and_self]
  rw [w64 (by omega) (by omega)]


/-! Rows of numbers. -/
noncomputable def iA (m : List AV) (i : Nat) : Int := ((m.getD i .x).cells.getD 0 .x).toI
noncomputable def bA (m : List AV) (i : Nat) : Bool := ((m.getD i .x).cells.getD 0 .x).toB

/-- Two loops that go on alike. -/
theorem twin_loop {R : Type} {L L' : Int → Option R} {n : Nat} (step : ∀ i : Nat, i < n → ∃ (p : Bool) (F : Option R), L i = cond p F (L ((i : Int) + 1)) ∧ L' i = cond p F (L' ((i : Int) + 1))) (last : L n = L' n) : L 0 = L' 0 := by
  have key : ∀ (k i : Nat), i + k = n → L i = L' i := by
    intro k
    induction k with
    | zero => intro i h; have : i = n := by omega
              subst this; exact last
    | succ k ih =>
      intro i h
      obtain ⟨p, F, h1, h2⟩ := step i (by omega)
      have h3 := ih (i + 1) (by omega)
      rw [show (((i + 1 : Nat)) : Int) = (i : Int) + 1 by omega] at h3
      rw [h1, h2, h3]
  exact key n 0 (by omega)

/-! A map is valid. -/
noncomputable def okM (p q : Int) (m t : List AV) (i : Nat) : Bool := (decide (-1 ≤ iA m i) && decide (iA m i ≤ p * q - 1)) && (!(decide (iA m i < 0) && bA t i) && (List.range' 0 i).all fun k => decide (iA m i < 0) || !decide (iA m k = iA m i))
noncomputable def okSz (p q : Int) : Bool := decide (1 ≤ p) && decide (p ≤ 640) && (decide (1 ≤ q) && decide (q ≤ 640) && decide (p * q ≤ 640))
noncomputable def okMap (p q : Int) (m t : List AV) : Bool := okSz p q && ((decide (1 ≤ ((m.length : Nat) : Int)) && decide (((m.length : Nat) : Int) ≤ 48)) && (decide (((t.length : Nat) : Int) = ((m.length : Nat) : Int)) && (List.range' 0 m.length).all (okM p q m t)))

theorem okSz_range {p q : Int} (h : okSz p q = true) : 1 ≤ p ∧ p ≤ 640 ∧ 1 ≤ q ∧ q ≤ 640 ∧ 1 ≤ p * q ∧ p * q ≤ 640 := by
  simp only [okSz, Bool.and_eq_true, decide_eq_true_eq] at h
  obtain ⟨⟨h1, h2⟩, ⟨h3, h4⟩, h5⟩ := h
  refine ⟨h1, h2, h3, h4, ?_, h5⟩
  have := Int.mul_le_mul h1 h3 (by omega) (by omega)
  simpa using this

theorem spec_size {p q : Int} (n : Int) : den E 165 [(.i .i64 n), (.i .i64 p), (.i .i64 q)] [] = some (.b ((decide (1 ≤ n) && decide (n ≤ 48)) && okSz p q)) := by
  rw [f165_eq]
  simp only [in90, okC_nil, okC_agg, okC_i, okC_b, okC_s, okC_imm, okL_i, okL_b, okL_s, okL_sl, okS_i, okS_b, okS_s, okS_sl, okS_agg, okS_tup, okS_nil, okS_cons, cells_agg, cells_i, cells_b, cells_s, cells_imm, toI_i, toB_b, toS_s, toL_imm, nth_agg, nth_tup, put_agg, put_i, put_b, put_s, put_imm, setCells, List.getD_cons_zero, List.getD_cons_succ, bSh_b, bSh_i, bSh_s, bSh_sl, bSh_some, cond_true, cond_false, decide_true, decide_false, Int.toNat_natCast, Nat.zero_add, Nat.reduceAdd, beq_self_eq_true, Bool.and_true, Bool.true_and, if_true, Bool.false_eq_true, if_false, List.set_cons_zero, List.set_cons_succ, Bool.not_true, Bool.not_false, Bool.and_self, okSz]
  cases (decide (1 ≤ n) && decide (n ≤ 48))
  · rfl
  by_cases hp : 1 ≤ p ∧ p ≤ 640
  rotate_left
  · have : (decide (1 ≤ p) && decide (p ≤ 640)) = false := by
      rw [Bool.and_eq_false_iff, decide_eq_false_iff_not, decide_eq_false_iff_not]; omega
    rw [this]; rfl
  by_cases hq : 1 ≤ q ∧ q ≤ 640
  rotate_left
  · have : (decide (1 ≤ q) && decide (q ≤ 640)) = false := by
      rw [Bool.and_eq_false_iff, decide_eq_false_iff_not, decide_eq_false_iff_not]; omega
    rw [this]; simp only [Bool.false_and, Bool.and_false]
    cases (decide (1 ≤ p) && decide (p ≤ 640)) <;> rfl
  have h1 := Int.mul_le_mul hp.2 hq.2 (by omega) (by omega)
  have h2 := Int.mul_nonneg (a := p) (b := q) (by omega) (by omega)
  rw [w64 (x := p * q) (by omega) (by omega)]
  cases (decide (1 ≤ p) && decide (p ≤ 640)) <;> cases (decide (1 ≤ q) && decide (q ≤ 640)) <;> rfl
theorem impl_size {p q : Int} : den E 167 [(.i .i64 p), (.i .i64 q)] [] = some (.b (okSz p q)) := by
  rw [f167_eq]
  simp only [in72, okC_nil, okC_agg, okC_i, okC_b, okC_s, okC_imm, okL_i, okL_b, okL_s, okL_sl, okS_i, okS_b, okS_s, okS_sl, okS_agg, okS_tup, okS_nil, okS_cons, cells_agg, cells_i, cells_b, cells_s, cells_imm, toI_i, toB_b, toS_s, toL_imm, nth_agg, nth_tup, put_agg, put_i, put_b, put_s, put_imm, setCells, List.getD_cons_zero, List.getD_cons_succ, bSh_b, bSh_i, bSh_s, bSh_sl, bSh_some, cond_true, cond_false, decide_true, decide_false, Int.toNat_natCast, Nat.zero_add, Nat.reduceAdd, beq_self_eq_true, Bool.and_true, Bool.true_and, if_true, Bool.false_eq_true, if_false, List.set_cons_zero, List.set_cons_succ, Bool.not_true, Bool.not_false, Bool.and_self]
  by_cases hp : 1 ≤ p ∧ p ≤ 640
  rotate_left
  · have : (decide (1 ≤ p) && decide (p ≤ 640)) = false := by
      rw [Bool.and_eq_false_iff, decide_eq_false_iff_not, decide_eq_false_iff_not]; omega
    rw [okSz, this]; rfl
  have hp1 : (decide (1 ≤ p) && decide (p ≤ 640)) = true := by
    rw [Bool.and_eq_true, decide_eq_true_eq, decide_eq_true_eq]; exact hp
  rw [okSz, hp1]
  have hp0 : ¬ p = 0 := by omega
  simp only [beq_self_eq_true, cond_true, hp0, if_false, Bool.true_and]
  have hd : (640 : Int).tdiv p = 640 / p := Int.tdiv_eq_ediv_of_nonneg (by omega)
  have h3 : 640 / p ≤ 640 := Int.ediv_le_self _ (by omega)
  have h4 : 0 ≤ 640 / p := Int.ediv_nonneg (by omega) (by omega)
  rw [hd, w64 (by omega) (by omega)]
  congr 2
  have h5 : q ≤ 640 / p ↔ q * p ≤ 640 := Int.le_ediv_iff_mul_le (by omega)
  rw [Bool.eq_iff_iff]
  simp only [Bool.and_eq_true, decide_eq_true_eq]
  rw [h5, Int.mul_comm q p]
  constructor
  · rintro ⟨g1, g2⟩
    refine ⟨⟨g1, ?_⟩, g2⟩
    have := Int.mul_le_mul_of_nonneg_right hp.1 (show 0 ≤ q by omega)
    omega
  · rintro ⟨⟨g1, _⟩, g2⟩
    exact ⟨g1, g2⟩

theorem spec_inner {p q : Int} {m t : List AV} (hm : Rw (T2 1048576) 1048576 m) (i : Nat) (hi : i < m.length) {X : Option AV} (hX : f87_l1 (.agg [(.i .i64 p), (.i .i64 q), (.imm 1 m), (.imm 1 t)]) ((i : Int) + 1) = X) :
    f87_l3 (.agg [(.i .i64 p), (.i .i64 q), (.imm 1 m), (.imm 1 t)]) i 0 = cond ((List.range' 0 i).all fun k => decide (iA m i < 0) || !decide (iA m k = iA m i)) X (some (.b false)) := by
  have hml := hm.1
  refine all_loop (L := fun j => f87_l3 (.agg [(.i .i64 p), (.i .i64 q), (.imm 1 m), (.imm 1 t)]) i j) (n := i) (fun j hj => ?_) ?_ i 0 (by omega)
  · have h1 := hm.at hi
    have h2 := hm.at (i := j) (by omega)
    have g1 : (0 : Int) ≤ (i : Int) := by omega
    have g2 : (i : Int) < ((m.length : Nat) : Int) := by omega
    have g3 : (0 : Int) ≤ (j : Int) := by omega
    have g4 : (j : Int) < ((m.length : Nat) : Int) := by omega
    try dsimp only
    rw [f87_l3_eq, dT (show (j : Int) < (i : Int) by omega), cond_true]
    simp only [h1.ok, h2.ok, g1, g2, g3, g4, and_self, f87_j4_eq, okC_nil, okC_agg, okC_i, okC_b, okC_s, okC_imm, okL_i, okL_b, okL_s, okL_sl, okS_i, okS_b, okS_s, okS_sl, okS_agg, okS_tup, okS_nil, okS_cons, cells_agg, cells_i, cells_b, cells_s, cells_imm, toI_i, toB_b, toS_s, toL_imm, nth_agg, nth_tup, put_agg, put_i, put_b, put_s, put_imm, setCells, List.getD_cons_zero, List.getD_cons_succ, bSh_b, bSh_i, bSh_s, bSh_sl, bSh_some, cond_true, cond_false, decide_true, decide_false, Int.toNat_natCast, Nat.zero_add, Nat.reduceAdd, beq_self_eq_true, Bool.and_true, Bool.true_and, if_true, Bool.false_eq_true, if_false, List.set_cons_zero, List.set_cons_succ, Bool.not_true, Bool.not_false, Bool.and_self]
    rw [w64 (x := (j : Int) + 1) (by omega) (by omega)]
    unfold iA
    by_cases hv : ((m.getD i .x).cells.getD 0 .x).toI < 0
    · have hv' : ¬ (0 : Int) ≤ ((m.getD i .x).cells.getD 0 .x).toI := by omega
      simp only [hv, hv', decide_true, decide_false, Bool.true_or]; rfl
    · have hv' : (0 : Int) ≤ ((m.getD i .x).cells.getD 0 .x).toI := by omega
      simp only [hv, hv', decide_true, decide_false, Bool.false_or]
      cases decide (((m.getD j .x).cells.getD 0 .x).toI = ((m.getD i .x).cells.getD 0 .x).toI) <;> rfl
  · try dsimp only
    rw [f87_l3_eq, dF (Int.lt_irrefl _), cond_false, w64 (x := (i : Int) + 1) (by omega) (by omega)]
    exact hX

theorem spec_map {p q : Int} {m t : List AV} (hm : Rw (T2 1048576) 1048576 m) (ht : Rw (T4 1048576) 1048576 t) : den E 87 [(.ip (.agg [(.i .i64 p), (.i .i64 q), (.imm 1 m), (.imm 1 t)]) 0)] [] = some (.b (okMap p q m t)) := by
  have hml := hm.1
  rw [f87_eq]
  simp only [okC_nil, okC_agg, okC_i, okC_b, okC_s, okC_imm, okL_i, okL_b, okL_s, okL_sl, okS_i, okS_b, okS_s, okS_sl, okS_agg, okS_tup, okS_nil, okS_cons, cells_agg, cells_i, cells_b, cells_s, cells_imm, toI_i, toB_b, toS_s, toL_imm, nth_agg, nth_tup, put_agg, put_i, put_b, put_s, put_imm, setCells, List.getD_cons_zero, List.getD_cons_succ, bSh_b, bSh_i, bSh_s, bSh_sl, bSh_some, cond_true, cond_false, decide_true, decide_false, Int.toNat_natCast, Nat.zero_add, Nat.reduceAdd, beq_self_eq_true, Bool.and_true, Bool.true_and, if_true, Bool.false_eq_true, if_false, List.set_cons_zero, List.set_cons_succ, Bool.not_true, Bool.not_false, Bool.and_self, spec_size]
  unfold okMap
  by_cases hs : okSz p q = true
  rotate_left
  · rw [Bool.not_eq_true] at hs
    simp only [hs, Bool.and_false, Bool.false_and]; rfl
  obtain ⟨r1, r2, r3, r4, r5, r6⟩ := okSz_range hs
  simp only [hs, Bool.and_true, Bool.true_and]
  cases (decide (1 ≤ ((m.length : Nat) : Int)) && decide (((m.length : Nat) : Int) ≤ 48))
  · rfl
  by_cases hl : ((t.length : Nat) : Int) = ((m.length : Nat) : Int)
  rotate_left
  · simp only [hl, decide_false, Bool.false_and, Bool.true_and]; rfl
  simp only [hl, okC_nil, okC_agg, okC_i, okC_b, okC_s, okC_imm, okL_i, okL_b, okL_s, okL_sl, okS_i, okS_b, okS_s, okS_sl, okS_agg, okS_tup, okS_nil, okS_cons, cells_agg, cells_i, cells_b, cells_s, cells_imm, toI_i, toB_b, toS_s, toL_imm, nth_agg, nth_tup, put_agg, put_i, put_b, put_s, put_imm, setCells, List.getD_cons_zero, List.getD_cons_succ, bSh_b, bSh_i, bSh_s, bSh_sl, bSh_some, cond_true, cond_false, decide_true, decide_false, Int.toNat_natCast, Nat.zero_add, Nat.reduceAdd, beq_self_eq_true, Bool.and_true, Bool.true_and, if_true, Bool.false_eq_true, if_false, List.set_cons_zero, List.set_cons_succ, Bool.not_true, Bool.not_false, Bool.and_self]
  refine (all_loop (L := fun i => f87_l1 (.agg [(.i .i64 p), (.i .i64 q), (.imm 1 m), (.imm 1 t)]) i) (n := m.length) (p := okM p q m t) (X := some (.b true)) (F := some (.b false)) (fun i hi => ?_) ?_ m.length 0 (by omega)).trans (by rw [cond_andb, Bool.and_true])
  · have h1 := hm.at hi
    have h2 := ht.at (i := i) (by omega)
    have h3 := spec_inner (p := p) (q := q) (t := t) hm i hi rfl
    have g1 : (0 : Int) ≤ (i : Int) := by omega
    have g2 : (i : Int) < ((m.length : Nat) : Int) := by omega
    have g3 : (i : Int) < ((t.length : Nat) : Int) := by omega
    try dsimp only
    rw [f87_l1_eq]
    simp only [okC_nil, okC_agg, okC_i, okC_b, okC_s, okC_imm, okL_i, okL_b, okL_s, okL_sl, okS_i, okS_b, okS_s, okS_sl, okS_agg, okS_tup, okS_nil, okS_cons, cells_agg, cells_i, cells_b, cells_s, cells_imm, toI_i, toB_b, toS_s, toL_imm, nth_agg, nth_tup, put_agg, put_i, put_b, put_s, put_imm, setCells, List.getD_cons_zero, List.getD_cons_succ, bSh_b, bSh_i, bSh_s, bSh_sl, bSh_some, cond_true, cond_false, decide_true, decide_false, Int.toNat_natCast, Nat.zero_add, Nat.reduceAdd, beq_self_eq_true, Bool.and_true, Bool.true_and, if_true, Bool.false_eq_true, if_false, List.set_cons_zero, List.set_cons_succ, Bool.not_true, Bool.not_false, Bool.and_self]
    rw [dT (show (i : Int) < ((m.length : Nat) : Int) by omega), cond_true, w64 (x := p * q) (by omega) (by omega), w64 (x := p * q - 1) (by omega) (by omega)]
    simp only [h1.ok, h2.ok, g1, g2, g3, and_self, in90, f87_j2_eq, h3, okC_nil, okC_agg, okC_i, okC_b, okC_s, okC_imm, okL_i, okL_b, okL_s, okL_sl, okS_i, okS_b, okS_s, okS_sl, okS_agg, okS_tup, okS_nil, okS_cons, cells_agg, cells_i, cells_b, cells_s, cells_imm, toI_i, toB_b, toS_s, toL_imm, nth_agg, nth_tup, put_agg, put_i, put_b, put_s, put_imm, setCells, List.getD_cons_zero, List.getD_cons_succ, bSh_b, bSh_i, bSh_s, bSh_sl, bSh_some, cond_true, cond_false, decide_true, decide_false, Int.toNat_natCast, Nat.zero_add, Nat.reduceAdd, beq_self_eq_true, Bool.and_true, Bool.true_and, if_true, Bool.false_eq_true, if_false, List.set_cons_zero, List.set_cons_succ, Bool.not_true, Bool.not_false, Bool.and_self]
    unfold okM
    unfold iA bA
    generalize ((List.range' 0 i).all fun k => decide (((m.getD i .x).cells.getD 0 .x).toI < 0) || !decide (((m.getD k .x).cells.getD 0 .x).toI = ((m.getD i .x).cells.getD 0 .x).toI)) = z
    cases (decide (-1 ≤ ((m.getD i .x).cells.getD 0 .x).toI) && decide (((m.getD i .x).cells.getD 0 .x).toI ≤ p * q - 1)) <;> cases decide (((m.getD i .x).cells.getD 0 .x).toI < 0) <;> cases ((t.getD i .x).cells.getD 0 .x).toB <;> cases z <;> rfl
  · try dsimp only
    rw [f87_l1_eq]
    simp only [okC_nil, okC_agg, okC_i, okC_b, okC_s, okC_imm, okL_i, okL_b, okL_s, okL_sl, okS_i, okS_b, okS_s, okS_sl, okS_agg, okS_tup, okS_nil, okS_cons, cells_agg, cells_i, cells_b, cells_s, cells_imm, toI_i, toB_b, toS_s, toL_imm, nth_agg, nth_tup, put_agg, put_i, put_b, put_s, put_imm, setCells, List.getD_cons_zero, List.getD_cons_succ, bSh_b, bSh_i, bSh_s, bSh_sl, bSh_some, cond_true, cond_false, decide_true, decide_false, Int.toNat_natCast, Nat.zero_add, Nat.reduceAdd, beq_self_eq_true, Bool.and_true, Bool.true_and, if_true, Bool.false_eq_true, if_false, List.set_cons_zero, List.set_cons_succ, Bool.not_true, Bool.not_false, Bool.and_self]
    rw [dF (Int.lt_irrefl _), cond_false]

/-- slices.Index. -/
theorem idx_loop {m : List AV} (hm : Rw (T2 1048576) 1048576 m) (x : Int) : (den E 94 [(.imm 1 m), (.i .i64 x)] [] = some (.i .i64 (-1)) ∧ ∀ i, i < m.length → iA m i ≠ x) ∨
    ∃ j : Nat, j < m.length ∧ den E 94 [(.imm 1 m), (.i .i64 x)] [] = some (.i .i64 j) ∧ iA m j = x := by
  have hml := hm.1
  have key := find_loop (L := fun i => f94_l1 m x ((m.length : Nat) : Int) i) (n := m.length) (p := fun j => decide (x = iA m j)) (F := fun i => some (.i .i64 i)) (X := some (.i .i64 (-1))) (fun i hi => ?_) ?_ m.length 0 (by omega)
  · rw [f94_eq]
    rcases key with ⟨j, _, hj, h1, h2, h3⟩ | ⟨h1, h2⟩
    · exact .inr ⟨j, hj, h3, by have := of_decide_eq_true h1; exact this.symm⟩
    · exact .inl ⟨h2, fun i hi => by have := of_decide_eq_false (h1 i (Nat.zero_le _) hi); exact fun h => this h.symm⟩
  · have hT := hm.at hi
    try dsimp only
    rw [f94_l1_eq, dT (show (i : Int) < ((m.length : Nat) : Int) by omega), cond_true, if_pos (by omega), w64 (x := (i : Int) + 1) (by omega) (by omega)]
    simp only [Int.toNat_natCast, hT.ok, if_true]
    rfl
  · try dsimp only
    rw [f94_l1_eq, dF (Int.lt_irrefl _), cond_false]
theorem has_loop {m : List AV} (hm : Rw (T2 1048576) 1048576 m) (x : Int) : den E 151 [(.imm 1 m), (.i .i64 x)] [] = some (.b (!(List.range' 0 m.length).all fun k => !decide (iA m k = x))) := by
  rw [f151_eq]
  rcases idx_loop hm x with ⟨h1, h2⟩ | ⟨j, hj, h1, h2⟩
  · rw [h1]
    have : ((List.range' 0 m.length).all fun k => !decide (iA m k = x)) = true := by
      rw [List.all_eq_true]
      intro k hk
      have := h2 k (by simpa [List.mem_range'_1] using hk)
      simp [this]
    rw [this]
    simp only [okC_nil, okC_agg, okC_i, okC_b, okC_s, okC_imm, okL_i, okL_b, okL_s, okL_sl, okS_i, okS_b, okS_s, okS_sl, okS_agg, okS_tup, okS_nil, okS_cons, cells_agg, cells_i, cells_b, cells_s, cells_imm, toI_i, toB_b, toS_s, toL_imm, nth_agg, nth_tup, put_agg, put_i, put_b, put_s, put_imm, setCells, List.getD_cons_zero, List.getD_cons_succ, bSh_b, bSh_i, bSh_s, bSh_sl, bSh_some, cond_true, cond_false, decide_true, decide_false, Int.toNat_natCast, Nat.zero_add, Nat.reduceAdd, beq_self_eq_true, Bool.and_true, Bool.true_and, if_true, Bool.false_eq_true, if_false, List.set_cons_zero, List.set_cons_succ, Bool.not_true, Bool.not_false, Bool.and_self]
    rfl
  · rw [h1]
    have : ((List.range' 0 m.length).all fun k => !decide (iA m k = x)) = false := by
      rw [List.all_eq_false]
      exact ⟨j, by simp [List.mem_range'_1, hj], by simp [h2]⟩
    rw [this]
    have hj0 : (0 : Int) ≤ (j : Int) := by omega
    simp only [hj0, okC_nil, okC_agg, okC_i, okC_b, okC_s, okC_imm, okL_i, okL_b, okL_s, okL_sl, okS_i, okS_b, okS_s, okS_sl, okS_agg, okS_tup, okS_nil, okS_cons, cells_agg, cells_i, cells_b, cells_s, cells_imm, toI_i, toB_b, toS_s, toL_imm, nth_agg, nth_tup, put_agg, put_i, put_b, put_s, put_imm, setCells, List.getD_cons_zero, List.getD_cons_succ, bSh_b, bSh_i, bSh_s, bSh_sl, bSh_some, cond_true, cond_false, decide_true, decide_false, Int.toNat_natCast, Nat.zero_add, Nat.reduceAdd, beq_self_eq_true, Bool.and_true, Bool.true_and, if_true, Bool.false_eq_true, if_false, List.set_cons_zero, List.set_cons_succ, Bool.not_true, Bool.not_false, Bool.and_self]

theorem impl_map {p q : Int} {m t : List AV} (hm : Rw (T2 1048576) 1048576 m) (ht : Rw (T4 1048576) 1048576 t) : den E 92 [(.agg [(.i .i64 p), (.i .i64 q), (.imm 1 m), (.imm 1 t)])] [] = some (.b (okMap p q m t)) := by
  have hml := hm.1
  rw [f92_eq]
  simp only [okC_nil, okC_agg, okC_i, okC_b, okC_s, okC_imm, okL_i, okL_b, okL_s, okL_sl, okS_i, okS_b, okS_s, okS_sl, okS_agg, okS_tup, okS_nil, okS_cons, cells_agg, cells_i, cells_b, cells_s, cells_imm, toI_i, toB_b, toS_s, toL_imm, nth_agg, nth_tup, put_agg, put_i, put_b, put_s, put_imm, setCells, List.getD_cons_zero, List.getD_cons_succ, bSh_b, bSh_i, bSh_s, bSh_sl, bSh_some, cond_true, cond_false, decide_true, decide_false, Int.toNat_natCast, Nat.zero_add, Nat.reduceAdd, beq_self_eq_true, Bool.and_true, Bool.true_and, if_true, Bool.false_eq_true, if_false, List.set_cons_zero, List.set_cons_succ, Bool.not_true, Bool.not_false, Bool.and_self, impl_size, in72]
  unfold okMap
  by_cases hs : okSz p q = true
  rotate_left
  · rw [Bool.not_eq_true] at hs
    simp only [hs, Bool.and_false, Bool.false_and]; rfl
  obtain ⟨r1, r2, r3, r4, r5, r6⟩ := okSz_range hs
  simp only [hs, Bool.and_true, Bool.true_and]
  cases (decide (1 ≤ ((m.length : Nat) : Int)) && decide (((m.length : Nat) : Int) ≤ 48))
  · rfl
  by_cases hl : ((t.length : Nat) : Int) = ((m.length : Nat) : Int)
  rotate_left
  · simp only [hl, decide_false, Bool.false_and, Bool.true_and]; rfl
  simp only [hl, okC_nil, okC_agg, okC_i, okC_b, okC_s, okC_imm, okL_i, okL_b, okL_s, okL_sl, okS_i, okS_b, okS_s, okS_sl, okS_agg, okS_tup, okS_nil, okS_cons, cells_agg, cells_i, cells_b, cells_s, cells_imm, toI_i, toB_b, toS_s, toL_imm, nth_agg, nth_tup, put_agg, put_i, put_b, put_s, put_imm, setCells, List.getD_cons_zero, List.getD_cons_succ, bSh_b, bSh_i, bSh_s, bSh_sl, bSh_some, cond_true, cond_false, decide_true, decide_false, Int.toNat_natCast, Nat.zero_add, Nat.reduceAdd, beq_self_eq_true, Bool.and_true, Bool.true_and, if_true, Bool.false_eq_true, if_false, List.set_cons_zero, List.set_cons_succ, Bool.not_true, Bool.not_false, Bool.and_self]
  refine (all_loop (L := fun i => f92_l1 m ((m.length : Nat) : Int) i p q m t) (n := m.length) (p := okM p q m t) (X := some (.b true)) (F := some (.b false)) (fun i hi => ?_) ?_ m.length 0 (by omega)).trans (by rw [cond_andb, Bool.and_true])
  · have h1 := hm.at hi
    have h2 := ht.at (i := i) (by omega)
    have hmt : Rw (T2 1048576) 1048576 (m.take i) := ⟨by rw [List.length_take]; omega, fun y hy => hm.2 y (List.mem_of_mem_take hy)⟩
    have h3 := has_loop hmt (iA m i)
    have hle : (m.take i).length = i := by rw [List.length_take]; omega
    have hge : ((List.range' 0 i).all fun k => !decide (iA (m.take i) k = iA m i)) = ((List.range' 0 i).all fun k => !decide (iA m k = iA m i)) := by
      have hg : ∀ k, k ∈ List.range' 0 i → iA (m.take i) k = iA m k := fun k hk => by
        unfold iA
        rw [getD_take, if_pos (by simpa [List.mem_range'_1] using hk)]
      rw [Bool.eq_iff_iff, List.all_eq_true, List.all_eq_true]
      exact ⟨fun h k hk => by rw [← hg k hk]; exact h k hk, fun h k hk => by rw [hg k hk]; exact h k hk⟩
    rw [hle, hge] at h3
    have g1 : (0 : Int) ≤ (i : Int) := by omega
    have g2 : (i : Int) < ((m.length : Nat) : Int) := by omega
    have g3 : (i : Int) < ((t.length : Nat) : Int) := by omega
    have g4 : (i : Int) ≤ ((m.length : Nat) : Int) := by omega
    try dsimp only
    rw [f92_l1_eq]
    simp only [f93_eq, okC_nil, okC_agg, okC_i, okC_b, okC_s, okC_imm, okL_i, okL_b, okL_s, okL_sl, okS_i, okS_b, okS_s, okS_sl, okS_agg, okS_tup, okS_nil, okS_cons, cells_agg, cells_i, cells_b, cells_s, cells_imm, toI_i, toB_b, toS_s, toL_imm, nth_agg, nth_tup, put_agg, put_i, put_b, put_s, put_imm, setCells, List.getD_cons_zero, List.getD_cons_succ, bSh_b, bSh_i, bSh_s, bSh_sl, bSh_some, cond_true, cond_false, decide_true, decide_false, Int.toNat_natCast, Nat.zero_add, Nat.reduceAdd, beq_self_eq_true, Bool.and_true, Bool.true_and, if_true, Bool.false_eq_true, if_false, List.set_cons_zero, List.set_cons_succ, Bool.not_true, Bool.not_false, Bool.and_self]
    rw [dT (show (i : Int) < ((m.length : Nat) : Int) by omega), cond_true, w64 (x := p * q) (by omega) (by omega), w64 (x := p * q - 1) (by omega) (by omega)]
    unfold iA at h3
    simp only [h1.ok, h2.ok, g1, g2, g3, g4, Int.le_refl, and_self, in72, f92_j2_eq, h3, okC_nil, okC_agg, okC_i, okC_b, okC_s, okC_imm, okL_i, okL_b, okL_s, okL_sl, okS_i, okS_b, okS_s, okS_sl, okS_agg, okS_tup, okS_nil, okS_cons, cells_agg, cells_i, cells_b, cells_s, cells_imm, toI_i, toB_b, toS_s, toL_imm, nth_agg, nth_tup, put_agg, put_i, put_b, put_s, put_imm, setCells, List.getD_cons_zero, List.getD_cons_succ, bSh_b, bSh_i, bSh_s, bSh_sl, bSh_some, cond_true, cond_false, decide_true, decide_false, Int.toNat_natCast, Nat.zero_add, Nat.reduceAdd, beq_self_eq_true, Bool.and_true, Bool.true_and, if_true, Bool.false_eq_true, if_false, List.set_cons_zero, List.set_cons_succ, Bool.not_true, Bool.not_false, Bool.and_self]
    rw [w64 (x := (i : Int) + 1) (by omega) (by omega)]
    unfold okM
    unfold iA bA
    by_cases hv : ((m.getD i .x).cells.getD 0 .x).toI < 0
    · have hv' : ¬ (0 : Int) ≤ ((m.getD i .x).cells.getD 0 .x).toI := by omega
      have ht : ((List.range' 0 i).all fun k => true || !decide (((m.getD k .x).cells.getD 0 .x).toI = ((m.getD i .x).cells.getD 0 .x).toI)) = true := by
        rw [List.all_eq_true]; intro k _; rfl
      simp only [hv, hv', decide_true, decide_false, ht]
      cases (decide (-1 ≤ ((m.getD i .x).cells.getD 0 .x).toI) && decide (((m.getD i .x).cells.getD 0 .x).toI ≤ p * q - 1)) <;> cases ((t.getD i .x).cells.getD 0 .x).toB <;> rfl
    · have hv' : (0 : Int) ≤ ((m.getD i .x).cells.getD 0 .x).toI := by omega
      simp only [hv, hv', decide_true, decide_false, Bool.false_or]
      generalize ((List.range' 0 i).all fun k => !decide (((m.getD k .x).cells.getD 0 .x).toI = ((m.getD i .x).cells.getD 0 .x).toI)) = z
      cases (decide (-1 ≤ ((m.getD i .x).cells.getD 0 .x).toI) && decide (((m.getD i .x).cells.getD 0 .x).toI ≤ p * q - 1)) <;> cases z <;> rfl
  · try dsimp only
    rw [f92_l1_eq, dF (Int.lt_irrefl _), cond_false]

/-- Where a physical page is told. -/
theorem at_twin {p q : Int} {m t : List AV} (hm : Rw (T2 1048576) 1048576 m) {x : Int} (hx : 0 ≤ x) : den E 88 [(.ip (.agg [(.i .i64 p), (.i .i64 q), (.imm 1 m), (.imm 1 t)]) 0), (.i .i64 x)] [] = den E 94 [(.imm 1 m), (.i .i64 x)] [] := by
  have hml := hm.1
  rw [f88_eq, f94_eq]
  refine twin_loop (L := fun i => f88_l1 (.agg [(.i .i64 p), (.i .i64 q), (.imm 1 m), (.imm 1 t)]) x i) (L' := fun i => f94_l1 m x ((m.length : Nat) : Int) i) (n := m.length) (fun i hi => ?_) ?_
  · have hT := hm.at hi
    have g1 : (0 : Int) ≤ (i : Int) := by omega
    have g2 : (i : Int) < ((m.length : Nat) : Int) := by omega
    refine ⟨decide (((m.getD i .x).cells.getD 0 .x).toI = x), some (.i .i64 (i : Int)), ?_, ?_⟩
    · try dsimp only
      rw [f88_l1_eq]
      simp only [okC_nil, okC_agg, okC_i, okC_b, okC_s, okC_imm, okL_i, okL_b, okL_s, okL_sl, okS_i, okS_b, okS_s, okS_sl, okS_agg, okS_tup, okS_nil, okS_cons, cells_agg, cells_i, cells_b, cells_s, cells_imm, toI_i, toB_b, toS_s, toL_imm, nth_agg, nth_tup, put_agg, put_i, put_b, put_s, put_imm, setCells, List.getD_cons_zero, List.getD_cons_succ, bSh_b, bSh_i, bSh_s, bSh_sl, bSh_some, cond_true, cond_false, decide_true, decide_false, Int.toNat_natCast, Nat.zero_add, Nat.reduceAdd, beq_self_eq_true, Bool.and_true, Bool.true_and, if_true, Bool.false_eq_true, if_false, List.set_cons_zero, List.set_cons_succ, Bool.not_true, Bool.not_false, Bool.and_self]
      rw [dT (show (i : Int) < ((m.length : Nat) : Int) by omega), cond_true]
      simp only [hx, hT.ok, g1, g2, and_self, f88_j2_eq, okC_nil, okC_agg, okC_i, okC_b, okC_s, okC_imm, okL_i, okL_b, okL_s, okL_sl, okS_i, okS_b, okS_s, okS_sl, okS_agg, okS_tup, okS_nil, okS_cons, cells_agg, cells_i, cells_b, cells_s, cells_imm, toI_i, toB_b, toS_s, toL_imm, nth_agg, nth_tup, put_agg, put_i, put_b, put_s, put_imm, setCells, List.getD_cons_zero, List.getD_cons_succ, bSh_b, bSh_i, bSh_s, bSh_sl, bSh_some, cond_true, cond_false, decide_true, decide_false, Int.toNat_natCast, Nat.zero_add, Nat.reduceAdd, beq_self_eq_true, Bool.and_true, Bool.true_and, if_true, Bool.false_eq_true, if_false, List.set_cons_zero, List.set_cons_succ, Bool.not_true, Bool.not_false, Bool.and_self]
      rw [w64 (x := (i : Int) + 1) (by omega) (by omega)]
    · try dsimp only
      rw [f94_l1_eq, dT (show (i : Int) < ((m.length : Nat) : Int) by omega), cond_true]
      simp only [hT.ok, g1, g2, and_self, okC_nil, okC_agg, okC_i, okC_b, okC_s, okC_imm, okL_i, okL_b, okL_s, okL_sl, okS_i, okS_b, okS_s, okS_sl, okS_agg, okS_tup, okS_nil, okS_cons, cells_agg, cells_i, cells_b, cells_s, cells_imm, toI_i, toB_b, toS_s, toL_imm, nth_agg, nth_tup, put_agg, put_i, put_b, put_s, put_imm, setCells, List.getD_cons_zero, List.getD_cons_succ, bSh_b, bSh_i, bSh_s, bSh_sl, bSh_some, cond_true, cond_false, decide_true, decide_false, Int.toNat_natCast, Nat.zero_add, Nat.reduceAdd, beq_self_eq_true, Bool.and_true, Bool.true_and, if_true, Bool.false_eq_true, if_false, List.set_cons_zero, List.set_cons_succ, Bool.not_true, Bool.not_false, Bool.and_self]
      rw [w64 (x := (i : Int) + 1) (by omega) (by omega)]
      by_cases h : ((m.getD i .x).cells.getD 0 .x).toI = x
      · simp only [h, decide_true]
      · have h' : ¬ x = ((m.getD i .x).cells.getD 0 .x).toI := fun e => h e.symm
        simp only [h, h', decide_false]
  · try dsimp only
    rw [f88_l1_eq, f94_l1_eq]
    simp only [okC_nil, okC_agg, okC_i, okC_b, okC_s, okC_imm, okL_i, okL_b, okL_s, okL_sl, okS_i, okS_b, okS_s, okS_sl, okS_agg, okS_tup, okS_nil, okS_cons, cells_agg, cells_i, cells_b, cells_s, cells_imm, toI_i, toB_b, toS_s, toL_imm, nth_agg, nth_tup, put_agg, put_i, put_b, put_s, put_imm, setCells, List.getD_cons_zero, List.getD_cons_succ, bSh_b, bSh_i, bSh_s, bSh_sl, bSh_some, cond_true, cond_false, decide_true, decide_false, Int.toNat_natCast, Nat.zero_add, Nat.reduceAdd, beq_self_eq_true, Bool.and_true, Bool.true_and, if_true, Bool.false_eq_true, if_false, List.set_cons_zero, List.set_cons_succ, Bool.not_true, Bool.not_false, Bool.and_self]
    rw [dF (Int.lt_irrefl _), cond_false, cond_false]

/-! A map is copied, marked and looked at again. -/
theorem own_map {p q : Int} {m t : List AV} (hm : Rw (T2 1048576) 1048576 m) (ht : Rw (T4 1048576) 1048576 t) : dno E 25 [(.agg [(.i .i64 p), (.i .i64 q), (.imm 1 m), (.imm 1 t)])] [] =
    some (.agg [(.i .i64 p), (.i .i64 q), (.sl 0 [] none), (.sl 1 [] none)], [(.live true false false 2 m), (.live true false false 4 t)]) := by
  rw [f25o1_eq, own_int hm, own_bool ht]
  simp only [bOwn_some, bOwnF_some, bOwnS_some, bOwnFS_some, okRs_nil, okRs_cons, okR_row, okR_same, okR_var, okR_gone, okS_so, okS_pr, okLens_nil, okLens_same, okLens_row, okLens_var, row_live, flatR_live, flatL_nil, flatL_cons, flat_i, flat_b, flat_s, flat_sl, flat_agg, flat_tup, List.all_cons, List.all_nil, List.length_cons, List.length_nil, Nat.reduceLeDiff, Nat.le_refl, decide_true, Bool.and_self, mkL_length, List.headD_cons, okC_nil, okC_agg, okC_i, okC_b, okC_s, okC_imm, okL_i, okL_b, okL_s, okL_sl, okS_i, okS_b, okS_s, okS_sl, okS_agg, okS_tup, okS_nil, okS_cons, cells_agg, cells_i, cells_b, cells_s, cells_imm, toI_i, toB_b, toS_s, toL_imm, nth_agg, nth_tup, put_agg, put_i, put_b, put_s, put_imm, setCells, List.getD_cons_zero, List.getD_cons_succ, bSh_b, bSh_i, bSh_s, bSh_sl, bSh_some, cond_true, cond_false, decide_true, decide_false, Int.toNat_natCast, Nat.zero_add, Nat.reduceAdd, beq_self_eq_true, Bool.and_true, Bool.true_and, if_true, Bool.false_eq_true, if_false, List.set_cons_zero, List.set_cons_succ, Bool.not_true, Bool.not_false, Bool.and_self]
theorem mark_map {m t : List AV} (p q : Int) (hm : Rw (T2 1048576) 1048576 m) (ht : Rw (T4 1048576) 1048576 t) :
    dno E 28 [(.agg [(.i .i64 p), (.i .i64 q), (.sl 0 [] none), (.sl 1 [] none)]), (.i .i64 1)] [(.live true false false 2 m), (.live true false false 4 t)] =
      some (.i .i64 (1 + ((m.length : Nat) : Int) + ((t.length : Nat) : Int)), [(.live true false false 2 (mkL m.length fun i => .i .i64 (1 + (i : Int)))), (.live true false false 4 (mkL t.length fun i => .b (decide ((1 + ((m.length : Nat) : Int) + (i : Int)).tmod 3 = 0))))]) := by
  have h1 := hm.1
  have h2 := ht.1
  rw [f28o1_eq, mark_int hm 1 (by omega) (by omega)]
  simp only [bOwn_some, bOwnF_some, bOwnS_some, bOwnFS_some, okRs_nil, okRs_cons, okR_row, okR_same, okR_var, okR_gone, okS_so, okS_pr, okLens_nil, okLens_same, okLens_row, okLens_var, row_live, flatR_live, flatL_nil, flatL_cons, flat_i, flat_b, flat_s, flat_sl, flat_agg, flat_tup, List.all_cons, List.all_nil, List.length_cons, List.length_nil, Nat.reduceLeDiff, Nat.le_refl, decide_true, Bool.and_self, mkL_length, List.headD_cons, okC_nil, okC_agg, okC_i, okC_b, okC_s, okC_imm, okL_i, okL_b, okL_s, okL_sl, okS_i, okS_b, okS_s, okS_sl, okS_agg, okS_tup, okS_nil, okS_cons, cells_agg, cells_i, cells_b, cells_s, cells_imm, toI_i, toB_b, toS_s, toL_imm, nth_agg, nth_tup, put_agg, put_i, put_b, put_s, put_imm, setCells, List.getD_cons_zero, List.getD_cons_succ, bSh_b, bSh_i, bSh_s, bSh_sl, bSh_some, cond_true, cond_false, decide_true, decide_false, Int.toNat_natCast, Nat.zero_add, Nat.reduceAdd, beq_self_eq_true, Bool.and_true, Bool.true_and, if_true, Bool.false_eq_true, if_false, List.set_cons_zero, List.set_cons_succ, Bool.not_true, Bool.not_false, Bool.and_self]
  rw [mark_bool ht _ (by omega) (by omega)]
  simp only [bOwn_some, bOwnF_some, bOwnS_some, bOwnFS_some, okRs_nil, okRs_cons, okR_row, okR_same, okR_var, okR_gone, okS_so, okS_pr, okLens_nil, okLens_same, okLens_row, okLens_var, row_live, flatR_live, flatL_nil, flatL_cons, flat_i, flat_b, flat_s, flat_sl, flat_agg, flat_tup, List.all_cons, List.all_nil, List.length_cons, List.length_nil, Nat.reduceLeDiff, Nat.le_refl, decide_true, Bool.and_self, mkL_length, List.headD_cons, okC_nil, okC_agg, okC_i, okC_b, okC_s, okC_imm, okL_i, okL_b, okL_s, okL_sl, okS_i, okS_b, okS_s, okS_sl, okS_agg, okS_tup, okS_nil, okS_cons, cells_agg, cells_i, cells_b, cells_s, cells_imm, toI_i, toB_b, toS_s, toL_imm, nth_agg, nth_tup, put_agg, put_i, put_b, put_s, put_imm, setCells, List.getD_cons_zero, List.getD_cons_succ, bSh_b, bSh_i, bSh_s, bSh_sl, bSh_some, cond_true, cond_false, decide_true, decide_false, Int.toNat_natCast, Nat.zero_add, Nat.reduceAdd, beq_self_eq_true, Bool.and_true, Bool.true_and, if_true, Bool.false_eq_true, if_false, List.set_cons_zero, List.set_cons_succ, Bool.not_true, Bool.not_false, Bool.and_self]
theorem held_map (a b : Nat) (p q : Int) (ha : a ≤ 1048576) (hb : b ≤ 1048576) :
    den E 29 [(.agg [(.i .i64 p), (.i .i64 q), (.imm 1 (mkL a fun i => .i .i64 (1 + (i : Int)))), (.imm 1 (mkL b fun i => .b (decide ((1 + (a : Int) + (i : Int)).tmod 3 = 0))))]), (.i .i64 1)] [] = some (.i .i64 (1 + (a : Int) + (b : Int))) := by
  have k1 : ¬ 1 + (a : Int) < 0 := by omega
  have k2 : ¬ 1 + (a : Int) + (b : Int) < 0 := by omega
  rw [f29_eq, held_int a ha 1 (by omega) (by omega)]
  simp only [k1, okC_nil, okC_agg, okC_i, okC_b, okC_s, okC_imm, okL_i, okL_b, okL_s, okL_sl, okS_i, okS_b, okS_s, okS_sl, okS_agg, okS_tup, okS_nil, okS_cons, cells_agg, cells_i, cells_b, cells_s, cells_imm, toI_i, toB_b, toS_s, toL_imm, nth_agg, nth_tup, put_agg, put_i, put_b, put_s, put_imm, setCells, List.getD_cons_zero, List.getD_cons_succ, bSh_b, bSh_i, bSh_s, bSh_sl, bSh_some, cond_true, cond_false, decide_true, decide_false, Int.toNat_natCast, Nat.zero_add, Nat.reduceAdd, beq_self_eq_true, Bool.and_true, Bool.true_and, if_true, Bool.false_eq_true, if_false, List.set_cons_zero, List.set_cons_succ, Bool.not_true, Bool.not_false, Bool.and_self]
  rw [held_bool b hb _ (by omega) (by omega)]
  simp only [k2, okC_nil, okC_agg, okC_i, okC_b, okC_s, okC_imm, okL_i, okL_b, okL_s, okL_sl, okS_i, okS_b, okS_s, okS_sl, okS_agg, okS_tup, okS_nil, okS_cons, cells_agg, cells_i, cells_b, cells_s, cells_imm, toI_i, toB_b, toS_s, toL_imm, nth_agg, nth_tup, put_agg, put_i, put_b, put_s, put_imm, setCells, List.getD_cons_zero, List.getD_cons_succ, bSh_b, bSh_i, bSh_s, bSh_sl, bSh_some, cond_true, cond_false, decide_true, decide_false, Int.toNat_natCast, Nat.zero_add, Nat.reduceAdd, beq_self_eq_true, Bool.and_true, Bool.true_and, if_true, Bool.false_eq_true, if_false, List.set_cons_zero, List.set_cons_succ, Bool.not_true, Bool.not_false, Bool.and_self]


/-- What both answer. -/
theorem setp {m t : List AV} (p q : Int) (hm : Rw (T2 1048576) 1048576 m) (ht : Rw (T4 1048576) 1048576 t) (hp : W64 p) (hq : W64 q) (l x : Int) (hx : W64 x) (u : Bool) : ∃ (a b k : Int) (r0 r1 : List AV), W64 a ∧ W64 b ∧ Rw (T2 1048576) 1048576 r0 ∧ Rw (T4 1048576) 1048576 r1 ∧
    dno E 24 [(.agg [(.i .i64 p), (.i .i64 q), (.imm 1 m), (.imm 1 t)]), (.i .i64 l), (.i .i64 x), (.b u)] [] = some (.tup [(.agg [(.i .i64 a), (.i .i64 b), (.sl 0 [] none), (.sl 1 [] none)]), (.i .i64 k)], [(.live true false false 2 r0), (.live true false false 4 r1)]) ∧
    dno E 26 [(.agg [(.i .i64 p), (.i .i64 q), (.imm 1 m), (.imm 1 t)]), (.i .i64 l), (.i .i64 x), (.b u)] [] = some (.tup [(.agg [(.i .i64 a), (.i .i64 b), (.sl 0 [] none), (.sl 1 [] none)]), (.i .i64 k)], [(.live true false false 2 r0), (.live true false false 4 r1)]) := by
  have z64 : W64 0 := by constructor <;> omega
  have hml := hm.1
  have htl := ht.1
  rw [f26o1_eq, impl_map hm ht, f24o1_eq, spec_map hm ht]
  simp only [okC_nil, okC_agg, okC_i, okC_b, okC_s, okC_imm, okL_i, okL_b, okL_s, okL_sl, okS_i, okS_b, okS_s, okS_sl, okS_agg, okS_tup, okS_nil, okS_cons, cells_agg, cells_i, cells_b, cells_s, cells_imm, toI_i, toB_b, toS_s, toL_imm, nth_agg, nth_tup, put_agg, put_i, put_b, put_s, put_imm, setCells, List.getD_cons_zero, List.getD_cons_succ, bSh_b, bSh_i, bSh_s, bSh_sl, bSh_some, cond_true, cond_false, decide_true, decide_false, Int.toNat_natCast, Nat.zero_add, Nat.reduceAdd, beq_self_eq_true, Bool.and_true, Bool.true_and, if_true, Bool.false_eq_true, if_false, List.set_cons_zero, List.set_cons_succ, Bool.not_true, Bool.not_false, Bool.and_self]
  by_cases hok : okMap p q m t = true
  rotate_left
  · rw [Bool.not_eq_true] at hok
    simp only [hok, okC_nil, okC_agg, okC_i, okC_b, okC_s, okC_imm, okL_i, okL_b, okL_s, okL_sl, okS_i, okS_b, okS_s, okS_sl, okS_agg, okS_tup, okS_nil, okS_cons, cells_agg, cells_i, cells_b, cells_s, cells_imm, toI_i, toB_b, toS_s, toL_imm, nth_agg, nth_tup, put_agg, put_i, put_b, put_s, put_imm, setCells, List.getD_cons_zero, List.getD_cons_succ, bSh_b, bSh_i, bSh_s, bSh_sl, bSh_some, cond_true, cond_false, decide_true, decide_false, Int.toNat_natCast, Nat.zero_add, Nat.reduceAdd, beq_self_eq_true, Bool.and_true, Bool.true_and, if_true, Bool.false_eq_true, if_false, List.set_cons_zero, List.set_cons_succ, Bool.not_true, Bool.not_false, Bool.and_self]
    exact ⟨0, 0, 1, [], [], z64, z64, t2_nil, t4_nil, rfl, rfl⟩
  have hok2 := hok
  simp only [okMap, Bool.and_eq_true, decide_eq_true_eq] at hok2
  obtain ⟨hsz, _, hlen, _⟩ := hok2
  obtain ⟨r1, r2, r3, r4, r5, r6⟩ := okSz_range hsz
  simp only [hok, in90, isIdx (x := l) (n := ((m.length : Nat) : Int)) (by omega) (by omega), f93_eq, okC_nil, okC_agg, okC_i, okC_b, okC_s, okC_imm, okL_i, okL_b, okL_s, okL_sl, okS_i, okS_b, okS_s, okS_sl, okS_agg, okS_tup, okS_nil, okS_cons, cells_agg, cells_i, cells_b, cells_s, cells_imm, toI_i, toB_b, toS_s, toL_imm, nth_agg, nth_tup, put_agg, put_i, put_b, put_s, put_imm, setCells, List.getD_cons_zero, List.getD_cons_succ, bSh_b, bSh_i, bSh_s, bSh_sl, bSh_some, cond_true, cond_false, decide_true, decide_false, Int.toNat_natCast, Nat.zero_add, Nat.reduceAdd, beq_self_eq_true, Bool.and_true, Bool.true_and, if_true, Bool.false_eq_true, if_false, List.set_cons_zero, List.set_cons_succ, Bool.not_true, Bool.not_false, Bool.and_self]
  rw [w64 (x := ((m.length : Nat) : Int) - 1) (by omega) (by omega), w64 (x := p * q) (by omega) (by omega), w64 (x := p * q - 1) (by omega) (by omega)]
  simp only [in72, okC_nil, okC_agg, okC_i, okC_b, okC_s, okC_imm, okL_i, okL_b, okL_s, okL_sl, okS_i, okS_b, okS_s, okS_sl, okS_agg, okS_tup, okS_nil, okS_cons, cells_agg, cells_i, cells_b, cells_s, cells_imm, toI_i, toB_b, toS_s, toL_imm, nth_agg, nth_tup, put_agg, put_i, put_b, put_s, put_imm, setCells, List.getD_cons_zero, List.getD_cons_succ, bSh_b, bSh_i, bSh_s, bSh_sl, bSh_some, cond_true, cond_false, decide_true, decide_false, Int.toNat_natCast, Nat.zero_add, Nat.reduceAdd, beq_self_eq_true, Bool.and_true, Bool.true_and, if_true, Bool.false_eq_true, if_false, List.set_cons_zero, List.set_cons_succ, Bool.not_true, Bool.not_false, Bool.and_self]
  by_cases hl : 0 ≤ l ∧ l ≤ ((m.length : Nat) : Int) - 1
  rotate_left
  · have : (decide (0 ≤ l) && decide (l ≤ ((m.length : Nat) : Int) - 1)) = false := by
      rw [Bool.and_eq_false_iff, decide_eq_false_iff_not, decide_eq_false_iff_not]
      omega
    simp only [this, okC_nil, okC_agg, okC_i, okC_b, okC_s, okC_imm, okL_i, okL_b, okL_s, okL_sl, okS_i, okS_b, okS_s, okS_sl, okS_agg, okS_tup, okS_nil, okS_cons, cells_agg, cells_i, cells_b, cells_s, cells_imm, toI_i, toB_b, toS_s, toL_imm, nth_agg, nth_tup, put_agg, put_i, put_b, put_s, put_imm, setCells, List.getD_cons_zero, List.getD_cons_succ, bSh_b, bSh_i, bSh_s, bSh_sl, bSh_some, cond_true, cond_false, decide_true, decide_false, Int.toNat_natCast, Nat.zero_add, Nat.reduceAdd, beq_self_eq_true, Bool.and_true, Bool.true_and, if_true, Bool.false_eq_true, if_false, List.set_cons_zero, List.set_cons_succ, Bool.not_true, Bool.not_false, Bool.and_self]
    exact ⟨0, 0, 2, [], [], z64, z64, t2_nil, t4_nil, rfl, rfl⟩
  have : (decide (0 ≤ l) && decide (l ≤ ((m.length : Nat) : Int) - 1)) = true := by
    rw [Bool.and_eq_true, decide_eq_true_eq, decide_eq_true_eq]
    exact hl
  simp only [this, okC_nil, okC_agg, okC_i, okC_b, okC_s, okC_imm, okL_i, okL_b, okL_s, okL_sl, okS_i, okS_b, okS_s, okS_sl, okS_agg, okS_tup, okS_nil, okS_cons, cells_agg, cells_i, cells_b, cells_s, cells_imm, toI_i, toB_b, toS_s, toL_imm, nth_agg, nth_tup, put_agg, put_i, put_b, put_s, put_imm, setCells, List.getD_cons_zero, List.getD_cons_succ, bSh_b, bSh_i, bSh_s, bSh_sl, bSh_some, cond_true, cond_false, decide_true, decide_false, Int.toNat_natCast, Nat.zero_add, Nat.reduceAdd, beq_self_eq_true, Bool.and_true, Bool.true_and, if_true, Bool.false_eq_true, if_false, List.set_cons_zero, List.set_cons_succ, Bool.not_true, Bool.not_false, Bool.and_self]
  clear this
  by_cases hx2 : 0 ≤ x ∧ x ≤ p * q - 1
  rotate_left
  · have : (decide (0 ≤ x) && decide (x ≤ p * q - 1)) = false := by
      rw [Bool.and_eq_false_iff, decide_eq_false_iff_not, decide_eq_false_iff_not]
      omega
    simp only [this, okC_nil, okC_agg, okC_i, okC_b, okC_s, okC_imm, okL_i, okL_b, okL_s, okL_sl, okS_i, okS_b, okS_s, okS_sl, okS_agg, okS_tup, okS_nil, okS_cons, cells_agg, cells_i, cells_b, cells_s, cells_imm, toI_i, toB_b, toS_s, toL_imm, nth_agg, nth_tup, put_agg, put_i, put_b, put_s, put_imm, setCells, List.getD_cons_zero, List.getD_cons_succ, bSh_b, bSh_i, bSh_s, bSh_sl, bSh_some, cond_true, cond_false, decide_true, decide_false, Int.toNat_natCast, Nat.zero_add, Nat.reduceAdd, beq_self_eq_true, Bool.and_true, Bool.true_and, if_true, Bool.false_eq_true, if_false, List.set_cons_zero, List.set_cons_succ, Bool.not_true, Bool.not_false, Bool.and_self]
    exact ⟨0, 0, 2, [], [], z64, z64, t2_nil, t4_nil, rfl, rfl⟩
  have : (decide (0 ≤ x) && decide (x ≤ p * q - 1)) = true := by
    rw [Bool.and_eq_true, decide_eq_true_eq, decide_eq_true_eq]
    exact hx2
  simp only [this, at_twin (p := p) (q := q) (t := t) hm hx2.1, okC_nil, okC_agg, okC_i, okC_b, okC_s, okC_imm, okL_i, okL_b, okL_s, okL_sl, okS_i, okS_b, okS_s, okS_sl, okS_agg, okS_tup, okS_nil, okS_cons, cells_agg, cells_i, cells_b, cells_s, cells_imm, toI_i, toB_b, toS_s, toL_imm, nth_agg, nth_tup, put_agg, put_i, put_b, put_s, put_imm, setCells, List.getD_cons_zero, List.getD_cons_succ, bSh_b, bSh_i, bSh_s, bSh_sl, bSh_some, cond_true, cond_false, decide_true, decide_false, Int.toNat_natCast, Nat.zero_add, Nat.reduceAdd, beq_self_eq_true, Bool.and_true, Bool.true_and, if_true, Bool.false_eq_true, if_false, List.set_cons_zero, List.set_cons_succ, Bool.not_true, Bool.not_false, Bool.and_self]
  clear this
  obtain ⟨i, rfl⟩ : ∃ i : Nat, l = i := ⟨l.toNat, by omega⟩
  have hi : i < m.length := by omega
  have h1 := hm.at hi
  have h2 := ht.at (i := i) (by omega)
  have g1 : (0 : Int) ≤ (i : Int) := by omega
  have g2 : (i : Int) < ((m.length : Nat) : Int) := by omega
  have g3 : (i : Int) < ((t.length : Nat) : Int) := by omega
  have f0 := t2_flat hm
  have f1 := t4_flat ht
  have hown : dno E 89 [(.ip (.agg [(.i .i64 p), (.i .i64 q), (.imm 1 m), (.imm 1 t)]) 0)] [] = some (.agg [(.i .i64 p), (.i .i64 q), (.sl 0 [] none), (.sl 1 [] none)], [(.live true false false 2 m), (.live true false false 4 t)]) := by
    rw [f89o1_eq]
    simp only [okC_nil, okC_agg, okC_i, okC_b, okC_s, okC_imm, okL_i, okL_b, okL_s, okL_sl, okS_i, okS_b, okS_s, okS_sl, okS_agg, okS_tup, okS_nil, okS_cons, cells_agg, cells_i, cells_b, cells_s, cells_imm, toI_i, toB_b, toS_s, toL_imm, nth_agg, nth_tup, put_agg, put_i, put_b, put_s, put_imm, setCells, List.getD_cons_zero, List.getD_cons_succ, bSh_b, bSh_i, bSh_s, bSh_sl, bSh_some, cond_true, cond_false, decide_true, decide_false, Int.toNat_natCast, Nat.zero_add, Nat.reduceAdd, beq_self_eq_true, Bool.and_true, Bool.true_and, if_true, Bool.false_eq_true, if_false, List.set_cons_zero, List.set_cons_succ, Bool.not_true, Bool.not_false, Bool.and_self]
    rw [f166o1_eq, if_pos (by simp only [room]; omega)]
    simp only [bOwn_some, bOwnF_some, bOwnS_some, bOwnFS_some, okRs_nil, okRs_cons, okR_row, okR_same, okR_var, okR_gone, okS_so, okS_pr, okLens_nil, okLens_same, okLens_row, okLens_var, row_live, flatR_live, flatL_nil, flatL_cons, flat_i, flat_b, flat_s, flat_sl, flat_agg, flat_tup, List.all_cons, List.all_nil, List.length_cons, List.length_nil, Nat.reduceLeDiff, Nat.le_refl, decide_true, Bool.and_self, mkL_length, List.headD_cons, okC_nil, okC_agg, okC_i, okC_b, okC_s, okC_imm, okL_i, okL_b, okL_s, okL_sl, okS_i, okS_b, okS_s, okS_sl, okS_agg, okS_tup, okS_nil, okS_cons, cells_agg, cells_i, cells_b, cells_s, cells_imm, toI_i, toB_b, toS_s, toL_imm, nth_agg, nth_tup, put_agg, put_i, put_b, put_s, put_imm, setCells, List.getD_cons_zero, List.getD_cons_succ, bSh_b, bSh_i, bSh_s, bSh_sl, bSh_some, cond_true, cond_false, decide_true, decide_false, Int.toNat_natCast, Nat.zero_add, Nat.reduceAdd, beq_self_eq_true, Bool.and_true, Bool.true_and, if_true, Bool.false_eq_true, if_false, List.set_cons_zero, List.set_cons_succ, Bool.not_true, Bool.not_false, Bool.and_self]
    rw [if_pos (by simp only [room]; omega)]
  have hcl : dno E 95 [(.agg [(.i .i64 p), (.i .i64 q), (.imm 1 m), (.imm 1 t)])] [] = some (.agg [(.i .i64 p), (.i .i64 q), (.sl 0 [] none), (.sl 1 [] none)], [(.live true false false 2 m), (.live true false false 4 t)]) := by
    rw [f95o1_eq, f134_eq, f158_eq, if_pos ⟨rfl, by simp only [room]; omega⟩, if_pos ⟨rfl, by simp only [room]; omega⟩]
    simp only [bOwn_some, bOwnF_some, bOwnS_some, bOwnFS_some, okRs_nil, okRs_cons, okR_row, okR_same, okR_var, okR_gone, okS_so, okS_pr, okLens_nil, okLens_same, okLens_row, okLens_var, row_live, flatR_live, flatL_nil, flatL_cons, flat_i, flat_b, flat_s, flat_sl, flat_agg, flat_tup, List.all_cons, List.all_nil, List.length_cons, List.length_nil, Nat.reduceLeDiff, Nat.le_refl, decide_true, Bool.and_self, mkL_length, List.headD_cons, okC_nil, okC_agg, okC_i, okC_b, okC_s, okC_imm, okL_i, okL_b, okL_s, okL_sl, okS_i, okS_b, okS_s, okS_sl, okS_agg, okS_tup, okS_nil, okS_cons, cells_agg, cells_i, cells_b, cells_s, cells_imm, toI_i, toB_b, toS_s, toL_imm, nth_agg, nth_tup, put_agg, put_i, put_b, put_s, put_imm, setCells, List.getD_cons_zero, List.getD_cons_succ, bSh_b, bSh_i, bSh_s, bSh_sl, bSh_some, cond_true, cond_false, decide_true, decide_false, Int.toNat_natCast, Nat.zero_add, Nat.reduceAdd, beq_self_eq_true, Bool.and_true, Bool.true_and, if_true, Bool.false_eq_true, if_false, List.set_cons_zero, List.set_cons_succ, Bool.not_true, Bool.not_false, Bool.and_self]
  have fin1 : f24o1_j1 (i : Int) x u p q m t 0 0 = some (.tup [(.agg [(.i .i64 p), (.i .i64 q), (.sl 0 [] none), (.sl 1 [] none)]), (.i .i64 0)], [(.live true false false 2 (m.set i (.i .i64 x))), (.live true false false 4 (t.set i (.b u)))]) := by
    rw [f24o1_j1_eq, hown]
    simp only [bOwn_some, bOwnF_some, bOwnS_some, bOwnFS_some, okRs_nil, okRs_cons, okR_row, okR_same, okR_var, okR_gone, okS_so, okS_pr, okLens_nil, okLens_same, okLens_row, okLens_var, row_live, flatR_live, flatL_nil, flatL_cons, flat_i, flat_b, flat_s, flat_sl, flat_agg, flat_tup, List.all_cons, List.all_nil, List.length_cons, List.length_nil, Nat.reduceLeDiff, Nat.le_refl, decide_true, Bool.and_self, mkL_length, List.headD_cons, okC_nil, okC_agg, okC_i, okC_b, okC_s, okC_imm, okL_i, okL_b, okL_s, okL_sl, okS_i, okS_b, okS_s, okS_sl, okS_agg, okS_tup, okS_nil, okS_cons, cells_agg, cells_i, cells_b, cells_s, cells_imm, toI_i, toB_b, toS_s, toL_imm, nth_agg, nth_tup, put_agg, put_i, put_b, put_s, put_imm, setCells, List.getD_cons_zero, List.getD_cons_succ, bSh_b, bSh_i, bSh_s, bSh_sl, bSh_some, cond_true, cond_false, decide_true, decide_false, Int.toNat_natCast, Nat.zero_add, Nat.reduceAdd, beq_self_eq_true, Bool.and_true, Bool.true_and, if_true, Bool.false_eq_true, if_false, List.set_cons_zero, List.set_cons_succ, Bool.not_true, Bool.not_false, Bool.and_self, f0, f1, g1, g2, g3, and_self, t2_put h1, t4_put h2]
  have fin2 : f26o1_j1 (i : Int) x u p q m t 0 0 = some (.tup [(.agg [(.i .i64 p), (.i .i64 q), (.sl 0 [] none), (.sl 1 [] none)]), (.i .i64 0)], [(.live true false false 2 (m.set i (.i .i64 x))), (.live true false false 4 (t.set i (.b u)))]) := by
    rw [f26o1_j1_eq, hcl]
    simp only [bOwn_some, bOwnF_some, bOwnS_some, bOwnFS_some, okRs_nil, okRs_cons, okR_row, okR_same, okR_var, okR_gone, okS_so, okS_pr, okLens_nil, okLens_same, okLens_row, okLens_var, row_live, flatR_live, flatL_nil, flatL_cons, flat_i, flat_b, flat_s, flat_sl, flat_agg, flat_tup, List.all_cons, List.all_nil, List.length_cons, List.length_nil, Nat.reduceLeDiff, Nat.le_refl, decide_true, Bool.and_self, mkL_length, List.headD_cons, okC_nil, okC_agg, okC_i, okC_b, okC_s, okC_imm, okL_i, okL_b, okL_s, okL_sl, okS_i, okS_b, okS_s, okS_sl, okS_agg, okS_tup, okS_nil, okS_cons, cells_agg, cells_i, cells_b, cells_s, cells_imm, toI_i, toB_b, toS_s, toL_imm, nth_agg, nth_tup, put_agg, put_i, put_b, put_s, put_imm, setCells, List.getD_cons_zero, List.getD_cons_succ, bSh_b, bSh_i, bSh_s, bSh_sl, bSh_some, cond_true, cond_false, decide_true, decide_false, Int.toNat_natCast, Nat.zero_add, Nat.reduceAdd, beq_self_eq_true, Bool.and_true, Bool.true_and, if_true, Bool.false_eq_true, if_false, List.set_cons_zero, List.set_cons_succ, Bool.not_true, Bool.not_false, Bool.and_self, f0, f1, g1, g2, g3, and_self, t2_put h1, t4_put h2]
  simp only [fin1, fin2]
  obtain ⟨j, hj⟩ : ∃ j : Int, den E 94 [(.imm 1 m), (.i .i64 x)] [] = some (.i .i64 j) := by
    rcases idx_loop hm x with ⟨h, _⟩ | ⟨j, _, h, _⟩
    · exact ⟨_, h⟩
    · exact ⟨_, h⟩
  simp only [hj, okC_nil, okC_agg, okC_i, okC_b, okC_s, okC_imm, okL_i, okL_b, okL_s, okL_sl, okS_i, okS_b, okS_s, okS_sl, okS_agg, okS_tup, okS_nil, okS_cons, cells_agg, cells_i, cells_b, cells_s, cells_imm, toI_i, toB_b, toS_s, toL_imm, nth_agg, nth_tup, put_agg, put_i, put_b, put_s, put_imm, setCells, List.getD_cons_zero, List.getD_cons_succ, bSh_b, bSh_i, bSh_s, bSh_sl, bSh_some, cond_true, cond_false, decide_true, decide_false, Int.toNat_natCast, Nat.zero_add, Nat.reduceAdd, beq_self_eq_true, Bool.and_true, Bool.true_and, if_true, Bool.false_eq_true, if_false, List.set_cons_zero, List.set_cons_succ, Bool.not_true, Bool.not_false, Bool.and_self]
  by_cases hj0 : 0 ≤ j
  · by_cases hji : j = (i : Int)
    · simp only [hj0, hji, g1, okC_nil, okC_agg, okC_i, okC_b, okC_s, okC_imm, okL_i, okL_b, okL_s, okL_sl, okS_i, okS_b, okS_s, okS_sl, okS_agg, okS_tup, okS_nil, okS_cons, cells_agg, cells_i, cells_b, cells_s, cells_imm, toI_i, toB_b, toS_s, toL_imm, nth_agg, nth_tup, put_agg, put_i, put_b, put_s, put_imm, setCells, List.getD_cons_zero, List.getD_cons_succ, bSh_b, bSh_i, bSh_s, bSh_sl, bSh_some, cond_true, cond_false, decide_true, decide_false, Int.toNat_natCast, Nat.zero_add, Nat.reduceAdd, beq_self_eq_true, Bool.and_true, Bool.true_and, if_true, Bool.false_eq_true, if_false, List.set_cons_zero, List.set_cons_succ, Bool.not_true, Bool.not_false, Bool.and_self]
      exact ⟨p, q, 0, _, _, hp, hq, t2_set hm _ _ hx, t4_set ht _ _, rfl, rfl⟩
    · simp only [hj0, hji, okC_nil, okC_agg, okC_i, okC_b, okC_s, okC_imm, okL_i, okL_b, okL_s, okL_sl, okS_i, okS_b, okS_s, okS_sl, okS_agg, okS_tup, okS_nil, okS_cons, cells_agg, cells_i, cells_b, cells_s, cells_imm, toI_i, toB_b, toS_s, toL_imm, nth_agg, nth_tup, put_agg, put_i, put_b, put_s, put_imm, setCells, List.getD_cons_zero, List.getD_cons_succ, bSh_b, bSh_i, bSh_s, bSh_sl, bSh_some, cond_true, cond_false, decide_true, decide_false, Int.toNat_natCast, Nat.zero_add, Nat.reduceAdd, beq_self_eq_true, Bool.and_true, Bool.true_and, if_true, Bool.false_eq_true, if_false, List.set_cons_zero, List.set_cons_succ, Bool.not_true, Bool.not_false, Bool.and_self]
      exact ⟨0, 0, 5, [], [], z64, z64, t2_nil, t4_nil, rfl, rfl⟩
  · simp only [hj0, okC_nil, okC_agg, okC_i, okC_b, okC_s, okC_imm, okL_i, okL_b, okL_s, okL_sl, okS_i, okS_b, okS_s, okS_sl, okS_agg, okS_tup, okS_nil, okS_cons, cells_agg, cells_i, cells_b, cells_s, cells_imm, toI_i, toB_b, toS_s, toL_imm, nth_agg, nth_tup, put_agg, put_i, put_b, put_s, put_imm, setCells, List.getD_cons_zero, List.getD_cons_succ, bSh_b, bSh_i, bSh_s, bSh_sl, bSh_some, cond_true, cond_false, decide_true, decide_false, Int.toNat_natCast, Nat.zero_add, Nat.reduceAdd, beq_self_eq_true, Bool.and_true, Bool.true_and, if_true, Bool.false_eq_true, if_false, List.set_cons_zero, List.set_cons_succ, Bool.not_true, Bool.not_false, Bool.and_self]
    exact ⟨p, q, 0, _, _, hp, hq, t2_set hm _ _ hx, t4_set ht _ _, rfl, rfl⟩

theorem pure (el : AV) (h : T41 9223372036854775807 el) (l : Int) (_ : W64 l) (y : Int) (hy : W64 y) (t : Bool) : den E 5 [el, (.i .i64 l), (.i .i64 y), (.b t)] [] = some (.b true) := by
  obtain ⟨r, hr, hq⟩ := sz23 h 1048576 (by omega) (by omega)
  obtain ⟨p, q, m, b, rfl, w0, w1, w2, w3, _⟩ := h
  rw [f5_eq, hr]
  simp only [bSh_i, toI_i]
  rcases hq with hq | ⟨h0, h1, hT⟩
  · simp only [hq, decide_true, cond_true]
  have hn : ¬ r < 0 := by omega
  simp only [hn, decide_false, cond_false]
  obtain ⟨p', q', m', b', he, v0, v1, v2, v3, _⟩ := hT
  cases he
  obtain ⟨a, c, k, r0, r1, u0, u1, u2, u3, hs, hi⟩ := setp p q v2 v3 v0 v1 l y hy t
  have e0 := own_map (p := p) (q := q) v2 v3
  have q0 := eq27 (el := .agg [(.i .i64 p), (.i .i64 q), (.imm 1 m), (.imm 1 b)]) ⟨p, q, m, b, rfl, v0, v1, v2, v3, trivial⟩
  have q1 := eq27 (el := .agg [(.i .i64 a), (.i .i64 c), (.imm 1 r0), (.imm 1 r1)]) ⟨a, c, r0, r1, rfl, u0, u1, u2, u3, trivial⟩
  have m0 := mark_map p q v2 v3
  have m1 := mark_map a c u2 u3
  have g1 := held_map r0.length r1.length a c u2.1 u3.1
  have k0 : ¬ 1 + ((m.length : Nat) : Int) + ((b.length : Nat) : Int) < 0 := by omega
  have k1 : ¬ 1 + ((r0.length : Nat) : Int) + ((r1.length : Nat) : Int) < 0 := by omega
  have f0 := t2_flat u2
  have f1 := t4_flat u3
  simp only [e0, hs, hi, q0, q1, m0, m1, g1, k0, k1, f0, f1, bOwn_some, bOwnF_some, bOwnS_some, bOwnFS_some, okRs_nil, okRs_cons, okR_row, okR_same, okR_var, okR_gone, okS_so, okS_pr, okLens_nil, okLens_same, okLens_row, okLens_var, row_live, flatR_live, flatL_nil, flatL_cons, flat_i, flat_b, flat_s, flat_sl, flat_agg, flat_tup, List.all_cons, List.all_nil, List.length_cons, List.length_nil, Nat.reduceLeDiff, Nat.le_refl, decide_true, Bool.and_self, mkL_length, List.headD_cons, okC_nil, okC_agg, okC_i, okC_b, okC_s, okC_imm, okL_i, okL_b, okL_s, okL_sl, okS_i, okS_b, okS_s, okS_sl, okS_agg, okS_tup, okS_nil, okS_cons, cells_agg, cells_i, cells_b, cells_s, cells_imm, toI_i, toB_b, toS_s, toL_imm, nth_agg, nth_tup, put_agg, put_i, put_b, put_s, put_imm, setCells, List.getD_cons_zero, List.getD_cons_succ, bSh_b, bSh_i, bSh_s, bSh_sl, bSh_some, cond_true, cond_false, decide_true, decide_false, Int.toNat_natCast, Nat.zero_add, Nat.reduceAdd, beq_self_eq_true, Bool.and_true, Bool.true_and, if_true, Bool.false_eq_true, if_false, List.set_cons_zero, List.set_cons_succ, Bool.not_true, Bool.not_false, Bool.and_self]
end Go.Proofs.Ytcjfeglalmlkbaa.ISetPage
