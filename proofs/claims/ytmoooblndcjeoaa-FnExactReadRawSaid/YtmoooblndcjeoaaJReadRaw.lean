/- ReadRaw: the program's answer is the reference's, for every array, block and page. No condition beyond what each theorem states. -/
import Derived.Test.YtmoooblndcjeoaaIReadRawf
import Derived.Test.YtmoooblndcjeoaaItMk
namespace Go.Proofs.Ytmoooblndcjeoaa.IReadRaw
open Go Go.Proofs.YtmoooblndcjeoaaIT
set_option linter.unusedSimpArgs false

theorem in90 (a lo hi : Int) : den E 21 [(.i .i64 a), (.i .i64 lo), (.i .i64 hi)] [] = some (.b (decide (lo ≤ a) && decide (a ≤ hi))) := by
  rw [f21_eq, beq_true, cond_andb]
theorem in72 (a lo hi : Int) : den E 28 [(.i .i64 a), (.i .i64 lo), (.i .i64 hi)] [] = some (.b (decide (lo ≤ a) && decide (a ≤ hi))) := by
  rw [f28_eq, beq_true, cond_andb]


theorem isIdx {x n : Int} (h1 : -9223372036854775808 < n) (h2 : n ≤ 9223372036854775807) : den E 39 [(.i .i64 x), (.i .i64 n)] [] = some (.b (decide (0 ≤ x) && decide (x ≤ n - 1))) := by
  rw [f39_eq, in72]
  simp only [okC_nil, okC_agg, okC_i, okC_b, okC_s, okC_imm, okL_i, okL_b, okL_s, okL_sl, okS_i, okS_b, okS_s, okS_sl, okS_agg, okS_tup, okS_nil, okS_cons, cells_agg, cells_i, cells_b, cells_s, cells_imm, toI_i, toB_b, toS_s, toL_imm, nth_agg, nth_tup, put_agg, put_i, put_b, put_s, put_imm, setCells, List.getD_cons_zero, List.getD_cons_succ, bSh_b, bSh_i, bSh_s, bSh_sl, bSh_some, cond_true, cond_false, decide_true, decide_false, Int.toNat_natCast, Nat.zero_add, Nat.reduceAdd, beq_self_eq_true, Bool.and_true, Bool.true_and, if_true, Bool.false_eq_true, if_false, List.set_cons_zero, List.set_cons_succ, Bool.not_true, Bool.not_false, Bool.and_self]
  rw [w64 (by omega) (by omega)]


theorem size0 (s : ByteArray) : s = ({ data := #[] } : ByteArray) ↔ s.size = 0 := by
  constructor
  · rintro rfl; rfl
  · intro h
    apply bytes_ext
    have : s.data.toList.length = 0 := by rw [Array.length_toList]; exact h
    rw [List.eq_nil_of_length_eq_zero this]

/-! A block is valid. -/
noncomputable def sA (m : List AV) (i : Nat) : ByteArray := ((m.getD i .x).cells.getD 0 .x).toS
noncomputable def okPg (nx : Int) (l : List AV) (i : Nat) : Bool := decide (((sA l i).size : Int) = 0) || (decide (((sA l i).size : Int) = 91) && !decide (nx ≤ (i : Int)))
noncomputable def okB (pg : Int) (el : AV) : Bool := (decide (0 ≤ (el.cells.getD 0 .x).toI) && decide ((el.cells.getD 0 .x).toI ≤ 1000)) && ((decide (0 ≤ (el.cells.getD 1 .x).toI) && decide ((el.cells.getD 1 .x).toI ≤ pg)) && (decide (((((el.cells.getD 3 .x).toL).length : Nat) : Int) = pg) && (List.range' 0 ((el.cells.getD 3 .x).toL).length).all (okPg (el.cells.getD 1 .x).toI ((el.cells.getD 3 .x).toL))))

theorem spec_block {el : AV} (h : T50 1048576 el) (pg : Int) : den E 22 [el, (.i .i64 pg)] [] = some (.b (okB pg el)) := by
  obtain ⟨a0, a1, a2, a3, rfl, w0, w1, w3, _⟩ := h
  have hl := w3.1
  rw [f22_eq]
  unfold okB
  simp only [in90, okC_nil, okC_agg, okC_i, okC_b, okC_s, okC_imm, okL_i, okL_b, okL_s, okL_sl, okS_i, okS_b, okS_s, okS_sl, okS_agg, okS_tup, okS_nil, okS_cons, cells_agg, cells_i, cells_b, cells_s, cells_imm, toI_i, toB_b, toS_s, toL_imm, nth_agg, nth_tup, put_agg, put_i, put_b, put_s, put_imm, setCells, List.getD_cons_zero, List.getD_cons_succ, bSh_b, bSh_i, bSh_s, bSh_sl, bSh_some, cond_true, cond_false, decide_true, decide_false, Int.toNat_natCast, Nat.zero_add, Nat.reduceAdd, beq_self_eq_true, Bool.and_true, Bool.true_and, if_true, Bool.false_eq_true, if_false, List.set_cons_zero, List.set_cons_succ, Bool.not_true, Bool.not_false, Bool.and_self]
  cases (decide (0 ≤ a0) && decide (a0 ≤ 1000))
  · rfl
  cases (decide (0 ≤ a1) && decide (a1 ≤ pg))
  · rfl
  by_cases hp : ((a3.length : Nat) : Int) = pg
  rotate_left
  · simp only [hp, decide_false, Bool.false_and, Bool.true_and]; rfl
  simp only [hp, okC_nil, okC_agg, okC_i, okC_b, okC_s, okC_imm, okL_i, okL_b, okL_s, okL_sl, okS_i, okS_b, okS_s, okS_sl, okS_agg, okS_tup, okS_nil, okS_cons, cells_agg, cells_i, cells_b, cells_s, cells_imm, toI_i, toB_b, toS_s, toL_imm, nth_agg, nth_tup, put_agg, put_i, put_b, put_s, put_imm, setCells, List.getD_cons_zero, List.getD_cons_succ, bSh_b, bSh_i, bSh_s, bSh_sl, bSh_some, cond_true, cond_false, decide_true, decide_false, Int.toNat_natCast, Nat.zero_add, Nat.reduceAdd, beq_self_eq_true, Bool.and_true, Bool.true_and, if_true, Bool.false_eq_true, if_false, List.set_cons_zero, List.set_cons_succ, Bool.not_true, Bool.not_false, Bool.and_self]
  have := all_loop (L := fun i => f22_l1 pg i a0 a1 a2 a3) (n := a3.length) (p := okPg a1 a3) (X := some (.b true)) (F := some (.b false)) (fun i hi => ?_) ?_ a3.length 0 (by omega)
  · refine this.trans ?_
    rw [cond_andb, Bool.and_true]
  · obtain ⟨s0, he, v0, _⟩ := w3.at hi
    have g1 : (0 : Int) ≤ (i : Int) := by omega
    have g2 : (i : Int) < ((a3.length : Nat) : Int) := by omega
    try dsimp only
    rw [f22_l1_eq, dT (show (i : Int) < pg by omega), cond_true]
    unfold okPg sA
    simp only [Int.toNat_natCast, g1, g2, and_self, he, f22_j2_eq, okC_nil, okC_agg, okC_i, okC_b, okC_s, okC_imm, okL_i, okL_b, okL_s, okL_sl, okS_i, okS_b, okS_s, okS_sl, okS_agg, okS_tup, okS_nil, okS_cons, cells_agg, cells_i, cells_b, cells_s, cells_imm, toI_i, toB_b, toS_s, toL_imm, nth_agg, nth_tup, put_agg, put_i, put_b, put_s, put_imm, setCells, List.getD_cons_zero, List.getD_cons_succ, bSh_b, bSh_i, bSh_s, bSh_sl, bSh_some, cond_true, cond_false, decide_true, decide_false, Int.toNat_natCast, Nat.zero_add, Nat.reduceAdd, beq_self_eq_true, Bool.and_true, Bool.true_and, if_true, Bool.false_eq_true, if_false, List.set_cons_zero, List.set_cons_succ, Bool.not_true, Bool.not_false, Bool.and_self]
    rw [w64 (x := (i : Int) + 1) (by omega) (by omega)]
    cases decide (((s0.size : Nat) : Int) = 0) <;> cases decide (((s0.size : Nat) : Int) = 91) <;> cases decide (a1 ≤ (i : Int)) <;> rfl
  · try dsimp only
    rw [f22_l1_eq, ← hp, dF (Int.lt_irrefl _), cond_false]
theorem impl_block {el : AV} (h : T50 1048576 el) (g0 g1 pg : Int) : den E 31 [(.agg [(.i .i64 g0), (.i .i64 g1), (.i .i64 pg)]), el] [] = some (.b (okB pg el)) := by
  obtain ⟨a0, a1, a2, a3, rfl, w0, w1, w3, _⟩ := h
  have hl := w3.1
  rw [f31_eq]
  unfold okB
  simp only [in72, okC_nil, okC_agg, okC_i, okC_b, okC_s, okC_imm, okL_i, okL_b, okL_s, okL_sl, okS_i, okS_b, okS_s, okS_sl, okS_agg, okS_tup, okS_nil, okS_cons, cells_agg, cells_i, cells_b, cells_s, cells_imm, toI_i, toB_b, toS_s, toL_imm, nth_agg, nth_tup, put_agg, put_i, put_b, put_s, put_imm, setCells, List.getD_cons_zero, List.getD_cons_succ, bSh_b, bSh_i, bSh_s, bSh_sl, bSh_some, cond_true, cond_false, decide_true, decide_false, Int.toNat_natCast, Nat.zero_add, Nat.reduceAdd, beq_self_eq_true, Bool.and_true, Bool.true_and, if_true, Bool.false_eq_true, if_false, List.set_cons_zero, List.set_cons_succ, Bool.not_true, Bool.not_false, Bool.and_self]
  cases (decide (0 ≤ a0) && decide (a0 ≤ 1000))
  · rfl
  cases (decide (0 ≤ a1) && decide (a1 ≤ pg))
  · rfl
  by_cases hp : ((a3.length : Nat) : Int) = pg
  rotate_left
  · simp only [hp, decide_false, Bool.false_and, Bool.true_and]; rfl
  simp only [hp, okC_nil, okC_agg, okC_i, okC_b, okC_s, okC_imm, okL_i, okL_b, okL_s, okL_sl, okS_i, okS_b, okS_s, okS_sl, okS_agg, okS_tup, okS_nil, okS_cons, cells_agg, cells_i, cells_b, cells_s, cells_imm, toI_i, toB_b, toS_s, toL_imm, nth_agg, nth_tup, put_agg, put_i, put_b, put_s, put_imm, setCells, List.getD_cons_zero, List.getD_cons_succ, bSh_b, bSh_i, bSh_s, bSh_sl, bSh_some, cond_true, cond_false, decide_true, decide_false, Int.toNat_natCast, Nat.zero_add, Nat.reduceAdd, beq_self_eq_true, Bool.and_true, Bool.true_and, if_true, Bool.false_eq_true, if_false, List.set_cons_zero, List.set_cons_succ, Bool.not_true, Bool.not_false, Bool.and_self]
  have := all_loop (L := fun i => f31_l1 a3 pg i g0 g1 pg a0 a1 a2 a3) (n := a3.length) (p := okPg a1 a3) (X := some (.b true)) (F := some (.b false)) (fun i hi => ?_) ?_ a3.length 0 (by omega)
  · refine this.trans ?_
    rw [cond_andb, Bool.and_true]
  · obtain ⟨s0, he, v0, _⟩ := w3.at hi
    have g1 : (0 : Int) ≤ (i : Int) := by omega
    have g2 : (i : Int) < ((a3.length : Nat) : Int) := by omega
    have hs : decide (s0 = ({ data := #[] } : ByteArray)) = decide (((s0.size : Nat) : Int) = 0) := by
      rw [Bool.eq_iff_iff, decide_eq_true_eq, decide_eq_true_eq, size0]; omega
    try dsimp only
    rw [f31_l1_eq, dT (show (i : Int) < pg by omega), cond_true]
    unfold okPg sA
    simp only [Int.toNat_natCast, g1, g2, and_self, he, hs, f31_j2_eq, okC_nil, okC_agg, okC_i, okC_b, okC_s, okC_imm, okL_i, okL_b, okL_s, okL_sl, okS_i, okS_b, okS_s, okS_sl, okS_agg, okS_tup, okS_nil, okS_cons, cells_agg, cells_i, cells_b, cells_s, cells_imm, toI_i, toB_b, toS_s, toL_imm, nth_agg, nth_tup, put_agg, put_i, put_b, put_s, put_imm, setCells, List.getD_cons_zero, List.getD_cons_succ, bSh_b, bSh_i, bSh_s, bSh_sl, bSh_some, cond_true, cond_false, decide_true, decide_false, Int.toNat_natCast, Nat.zero_add, Nat.reduceAdd, beq_self_eq_true, Bool.and_true, Bool.true_and, if_true, Bool.false_eq_true, if_false, List.set_cons_zero, List.set_cons_succ, Bool.not_true, Bool.not_false, Bool.and_self]
    rw [w64 (x := (i : Int) + 1) (by omega) (by omega)]
    cases decide (((s0.size : Nat) : Int) = 0) <;> cases decide (((s0.size : Nat) : Int) = 91) <;> cases decide (a1 ≤ (i : Int)) <;> rfl
  · try dsimp only
    rw [f31_l1_eq, ← hp, dF (Int.lt_irrefl _), cond_false]

/-! A flash is valid. -/
noncomputable def okGeo (d b p : Int) : Bool := (decide (2 ≤ d) && decide (d ≤ 3)) && ((decide (4 ≤ b) && decide (b ≤ 12)) && (decide (p = 8) || decide (p = 16)))
theorem spec_geo (d b p : Int) : den E 20 [(.agg [(.i .i64 d), (.i .i64 b), (.i .i64 p)])] [] = some (.b (okGeo d b p)) := by
  rw [f20_eq]
  unfold okGeo
  simp only [in90, okC_nil, okC_agg, okC_i, okC_b, okC_s, okC_imm, okL_i, okL_b, okL_s, okL_sl, okS_i, okS_b, okS_s, okS_sl, okS_agg, okS_tup, okS_nil, okS_cons, cells_agg, cells_i, cells_b, cells_s, cells_imm, toI_i, toB_b, toS_s, toL_imm, nth_agg, nth_tup, put_agg, put_i, put_b, put_s, put_imm, setCells, List.getD_cons_zero, List.getD_cons_succ, bSh_b, bSh_i, bSh_s, bSh_sl, bSh_some, cond_true, cond_false, decide_true, decide_false, Int.toNat_natCast, Nat.zero_add, Nat.reduceAdd, beq_self_eq_true, Bool.and_true, Bool.true_and, if_true, Bool.false_eq_true, if_false, List.set_cons_zero, List.set_cons_succ, Bool.not_true, Bool.not_false, Bool.and_self]
  cases (decide (2 ≤ d) && decide (d ≤ 3)) <;> cases (decide (4 ≤ b) && decide (b ≤ 12)) <;> cases decide (p = 8) <;> rfl
theorem impl_geo (d b p : Int) : den E 26 [(.agg [(.i .i64 d), (.i .i64 b), (.i .i64 p)])] [] = some (.b (okGeo d b p)) := by
  rw [f26_eq]
  unfold okGeo
  simp only [in72, okC_nil, okC_agg, okC_i, okC_b, okC_s, okC_imm, okL_i, okL_b, okL_s, okL_sl, okS_i, okS_b, okS_s, okS_sl, okS_agg, okS_tup, okS_nil, okS_cons, cells_agg, cells_i, cells_b, cells_s, cells_imm, toI_i, toB_b, toS_s, toL_imm, nth_agg, nth_tup, put_agg, put_i, put_b, put_s, put_imm, setCells, List.getD_cons_zero, List.getD_cons_succ, bSh_b, bSh_i, bSh_s, bSh_sl, bSh_some, cond_true, cond_false, decide_true, decide_false, Int.toNat_natCast, Nat.zero_add, Nat.reduceAdd, beq_self_eq_true, Bool.and_true, Bool.true_and, if_true, Bool.false_eq_true, if_false, List.set_cons_zero, List.set_cons_succ, Bool.not_true, Bool.not_false, Bool.and_self]
  cases (decide (2 ≤ d) && decide (d ≤ 3)) <;> cases (decide (4 ≤ b) && decide (b ≤ 12)) <;> cases decide (p = 8) <;> rfl
noncomputable def okFl (d b p : Int) (l : List AV) (fu ke op : Int) : Bool := okGeo d b p && (decide (((l.length : Nat) : Int) = IntKind.i64.wrap (d * b)) && ((decide (-1 ≤ fu) && decide (fu ≤ 1000000)) && ((decide (0 ≤ ke) && decide (ke ≤ 91)) && (!decide (op < 0) && (List.range' 0 l.length).all fun i => okB p (l.getD i .x)))))
theorem spec_flash {l : List AV} (h : Rw (T50 1048576) 1048576 l) (d b p fu ke op : Int) (of_ : Bool) : den E 10 [(.agg [(.i .i64 d), (.i .i64 b), (.i .i64 p), (.imm 4 l), (.i .i64 fu), (.i .i64 ke), (.b of_), (.i .i64 op)])] [] = some (.b (okFl d b p l fu ke op)) := by
  have hl := h.1
  rw [f10_eq]
  unfold okFl
  simp only [spec_geo, in90, okC_nil, okC_agg, okC_i, okC_b, okC_s, okC_imm, okL_i, okL_b, okL_s, okL_sl, okS_i, okS_b, okS_s, okS_sl, okS_agg, okS_tup, okS_nil, okS_cons, cells_agg, cells_i, cells_b, cells_s, cells_imm, toI_i, toB_b, toS_s, toL_imm, nth_agg, nth_tup, put_agg, put_i, put_b, put_s, put_imm, setCells, List.getD_cons_zero, List.getD_cons_succ, bSh_b, bSh_i, bSh_s, bSh_sl, bSh_some, cond_true, cond_false, decide_true, decide_false, Int.toNat_natCast, Nat.zero_add, Nat.reduceAdd, beq_self_eq_true, Bool.and_true, Bool.true_and, if_true, Bool.false_eq_true, if_false, List.set_cons_zero, List.set_cons_succ, Bool.not_true, Bool.not_false, Bool.and_self]
  have := all_loop (L := fun i => f10_l1 i d b p l fu ke of_ op) (n := l.length) (p := fun i => okB p (l.getD i .x)) (X := some (.b true)) (F := some (.b false)) (fun i hi => ?_) ?_ l.length 0 (by omega)
  · rw [show f10_l1 0 d b p l fu ke of_ op = _ from this, cond_andb, Bool.and_true]
    cases okGeo d b p <;> cases decide (((l.length : Nat) : Int) = IntKind.i64.wrap (d * b)) <;> cases (decide (-1 ≤ fu) && decide (fu ≤ 1000000)) <;> cases (decide (0 ≤ ke) && decide (ke ≤ 91)) <;> cases decide (op < 0) <;> rfl
  · have hT := h.at hi
    try dsimp only
    rw [f10_l1_eq, dT (show (i : Int) < ((l.length : Nat) : Int) by omega), cond_true, if_pos (by omega), w64 (x := (i : Int) + 1) (by omega) (by omega)]
    simp only [Int.toNat_natCast, hT.ok, hT.eta, spec_block hT, okC_nil, okC_agg, okC_i, okC_b, okC_s, okC_imm, okL_i, okL_b, okL_s, okL_sl, okS_i, okS_b, okS_s, okS_sl, okS_agg, okS_tup, okS_nil, okS_cons, cells_agg, cells_i, cells_b, cells_s, cells_imm, toI_i, toB_b, toS_s, toL_imm, nth_agg, nth_tup, put_agg, put_i, put_b, put_s, put_imm, setCells, List.getD_cons_zero, List.getD_cons_succ, bSh_b, bSh_i, bSh_s, bSh_sl, bSh_some, cond_true, cond_false, decide_true, decide_false, Int.toNat_natCast, Nat.zero_add, Nat.reduceAdd, beq_self_eq_true, Bool.and_true, Bool.true_and, if_true, Bool.false_eq_true, if_false, List.set_cons_zero, List.set_cons_succ, Bool.not_true, Bool.not_false, Bool.and_self]
    cases okB p (l.getD i .x) <;> rfl
  · try dsimp only
    rw [f10_l1_eq, dF (Int.lt_irrefl _), cond_false]
theorem has_bad {l : List AV} (h : Rw (T50 1048576) 1048576 l) (d b p fu ke op : Int) (of_ : Bool) : den E 29 [(.imm 4 l), (.fn 30 [(.ip (.agg [(.i .i64 d), (.i .i64 b), (.i .i64 p), (.imm 4 l), (.i .i64 fu), (.i .i64 ke), (.b of_), (.i .i64 op)]) 0)])] [] = some (.b (!(List.range' 0 l.length).all fun i => okB p (l.getD i .x))) := by
  have hl := h.1
  rw [f29q1_eq, f38q1_eq]
  have key := find_loop (L := fun i => f38q1_l1 l (.agg [(.i .i64 d), (.i .i64 b), (.i .i64 p), (.imm 4 l), (.i .i64 fu), (.i .i64 ke), (.b of_), (.i .i64 op)]) ((l.length : Nat) : Int) i) (n := l.length) (p := fun j => !okB p (l.getD j .x)) (F := fun i => some (.i .i64 i)) (X := some (.i .i64 (-1))) (fun i hi => ?_) ?_ l.length 0 (by omega)
  · rcases key with ⟨j, _, hj, h1, h2, h3⟩ | ⟨h1, h2⟩
    · rw [show f38q1_l1 l (.agg [(.i .i64 d), (.i .i64 b), (.i .i64 p), (.imm 4 l), (.i .i64 fu), (.i .i64 ke), (.b of_), (.i .i64 op)]) ((l.length : Nat) : Int) 0 = _ from h3]
      have hj0 : (0 : Int) ≤ (j : Int) := by omega
      have : ((List.range' 0 l.length).all fun i => okB p (l.getD i .x)) = false := by
        rw [List.all_eq_false]
        exact ⟨j, by simp [List.mem_range'_1, hj], by simpa using h1⟩
      simp only [hj0, this, okC_nil, okC_agg, okC_i, okC_b, okC_s, okC_imm, okL_i, okL_b, okL_s, okL_sl, okS_i, okS_b, okS_s, okS_sl, okS_agg, okS_tup, okS_nil, okS_cons, cells_agg, cells_i, cells_b, cells_s, cells_imm, toI_i, toB_b, toS_s, toL_imm, nth_agg, nth_tup, put_agg, put_i, put_b, put_s, put_imm, setCells, List.getD_cons_zero, List.getD_cons_succ, bSh_b, bSh_i, bSh_s, bSh_sl, bSh_some, cond_true, cond_false, decide_true, decide_false, Int.toNat_natCast, Nat.zero_add, Nat.reduceAdd, beq_self_eq_true, Bool.and_true, Bool.true_and, if_true, Bool.false_eq_true, if_false, List.set_cons_zero, List.set_cons_succ, Bool.not_true, Bool.not_false, Bool.and_self]
    · rw [show f38q1_l1 l (.agg [(.i .i64 d), (.i .i64 b), (.i .i64 p), (.imm 4 l), (.i .i64 fu), (.i .i64 ke), (.b of_), (.i .i64 op)]) ((l.length : Nat) : Int) 0 = _ from h2]
      have : ((List.range' 0 l.length).all fun i => okB p (l.getD i .x)) = true := by
        rw [List.all_eq_true]
        intro i hi
        have := h1 i (Nat.zero_le _) (by simpa [List.mem_range'_1] using hi)
        simpa using this
      simp only [this, okC_nil, okC_agg, okC_i, okC_b, okC_s, okC_imm, okL_i, okL_b, okL_s, okL_sl, okS_i, okS_b, okS_s, okS_sl, okS_agg, okS_tup, okS_nil, okS_cons, cells_agg, cells_i, cells_b, cells_s, cells_imm, toI_i, toB_b, toS_s, toL_imm, nth_agg, nth_tup, put_agg, put_i, put_b, put_s, put_imm, setCells, List.getD_cons_zero, List.getD_cons_succ, bSh_b, bSh_i, bSh_s, bSh_sl, bSh_some, cond_true, cond_false, decide_true, decide_false, Int.toNat_natCast, Nat.zero_add, Nat.reduceAdd, beq_self_eq_true, Bool.and_true, Bool.true_and, if_true, Bool.false_eq_true, if_false, List.set_cons_zero, List.set_cons_succ, Bool.not_true, Bool.not_false, Bool.and_self]
      rfl
  · have hT := h.at hi
    try dsimp only
    rw [f38q1_l1_eq, dT (show (i : Int) < ((l.length : Nat) : Int) by omega), cond_true, if_pos (by omega), w64 (x := (i : Int) + 1) (by omega) (by omega)]
    have hcl : den E 30 [l.getD i .x, (.ip (.agg [(.i .i64 d), (.i .i64 b), (.i .i64 p), (.imm 4 l), (.i .i64 fu), (.i .i64 ke), (.b of_), (.i .i64 op)]) 0)] [] = some (.b (!okB p (l.getD i .x))) := by
      have hb := impl_block hT d b p
      obtain ⟨a0, a1, a2, a3, he, _⟩ := hT
      rw [he] at hb ⊢
      rw [f30q1_eq]
      simp only [okC_nil, okC_agg, okC_i, okC_b, okC_s, okC_imm, okL_i, okL_b, okL_s, okL_sl, okS_i, okS_b, okS_s, okS_sl, okS_agg, okS_tup, okS_nil, okS_cons, cells_agg, cells_i, cells_b, cells_s, cells_imm, toI_i, toB_b, toS_s, toL_imm, nth_agg, nth_tup, put_agg, put_i, put_b, put_s, put_imm, setCells, List.getD_cons_zero, List.getD_cons_succ, bSh_b, bSh_i, bSh_s, bSh_sl, bSh_some, cond_true, cond_false, decide_true, decide_false, Int.toNat_natCast, Nat.zero_add, Nat.reduceAdd, beq_self_eq_true, Bool.and_true, Bool.true_and, if_true, Bool.false_eq_true, if_false, List.set_cons_zero, List.set_cons_succ, Bool.not_true, Bool.not_false, Bool.and_self, hb]
    simp only [Int.toNat_natCast, hT.ok, hT.eta, hcl, okC_nil, okC_agg, okC_i, okC_b, okC_s, okC_imm, okL_i, okL_b, okL_s, okL_sl, okS_i, okS_b, okS_s, okS_sl, okS_agg, okS_tup, okS_nil, okS_cons, cells_agg, cells_i, cells_b, cells_s, cells_imm, toI_i, toB_b, toS_s, toL_imm, nth_agg, nth_tup, put_agg, put_i, put_b, put_s, put_imm, setCells, List.getD_cons_zero, List.getD_cons_succ, bSh_b, bSh_i, bSh_s, bSh_sl, bSh_some, cond_true, cond_false, decide_true, decide_false, Int.toNat_natCast, Nat.zero_add, Nat.reduceAdd, beq_self_eq_true, Bool.and_true, Bool.true_and, if_true, Bool.false_eq_true, if_false, List.set_cons_zero, List.set_cons_succ, Bool.not_true, Bool.not_false, Bool.and_self]
  · try dsimp only
    rw [f38q1_l1_eq, dF (Int.lt_irrefl _), cond_false]
theorem impl_flash {l : List AV} (h : Rw (T50 1048576) 1048576 l) (d b p fu ke op : Int) (of_ : Bool) : den E 15 [(.agg [(.i .i64 d), (.i .i64 b), (.i .i64 p), (.imm 4 l), (.i .i64 fu), (.i .i64 ke), (.b of_), (.i .i64 op)])] [] = some (.b (okFl d b p l fu ke op)) := by
  rw [f15_eq]
  unfold okFl
  simp only [impl_geo, in72, has_bad h, f27_eq, Bool.not_not, okC_nil, okC_agg, okC_i, okC_b, okC_s, okC_imm, okL_i, okL_b, okL_s, okL_sl, okS_i, okS_b, okS_s, okS_sl, okS_agg, okS_tup, okS_nil, okS_cons, cells_agg, cells_i, cells_b, cells_s, cells_imm, toI_i, toB_b, toS_s, toL_imm, nth_agg, nth_tup, put_agg, put_i, put_b, put_s, put_imm, setCells, List.getD_cons_zero, List.getD_cons_succ, bSh_b, bSh_i, bSh_s, bSh_sl, bSh_some, cond_true, cond_false, decide_true, decide_false, Int.toNat_natCast, Nat.zero_add, Nat.reduceAdd, beq_self_eq_true, Bool.and_true, Bool.true_and, if_true, Bool.false_eq_true, if_false, List.set_cons_zero, List.set_cons_succ, Bool.not_true, Bool.not_false, Bool.and_self]
  generalize hL : decide (((l.length : Nat) : Int) = IntKind.i64.wrap (d * b)) = bL
  have hL2 : (((l.length : Nat) : Int) = IntKind.i64.wrap (d * b)) = (bL = true) := by rw [← hL, decide_eq_true_eq]
  simp only [hL2, Bool.decide_eq_true]
  cases okGeo d b p <;> cases bL <;> cases (decide (-1 ≤ fu) && decide (fu ≤ 1000000)) <;> cases (decide (0 ≤ ke) && decide (ke ≤ 91)) <;> cases decide (op < 0) <;> rfl

/-! An erased page. -/
theorem ones : bytesOf (mkL 91 fun _ => AV.i .u8 255) = repS ({ data := #[255] } : ByteArray) 91 := by
  apply bytes_ext
  rw [bytesOf_list, repS_list]
  generalize 91 = n
  induction n with
  | zero => rfl
  | succ n ih =>
    unfold mkL at ih ⊢
    rw [List.range_succ, List.map_append, List.map_append, ih, List.replicate_succ', List.flatten_append]
    rfl
theorem erased : den E 24 [] [] = den E 40 [] [] ∧ ∃ s, den E 40 [] [] = some (.s s) := by
  have hr : den E 42 [(.s ({ data := #[255] } : ByteArray)), (.i .i64 91)] [] = some (.s (repS ({ data := #[255] } : ByteArray) 91)) := by
    rw [f42_eq, if_pos (by omega), if_pos (by omega), if_pos (by decide)]
    rfl
  have hi : den E 40 [] [] = some (.s (repS ({ data := #[255] } : ByteArray) 91)) := by
    rw [f40_eq, hr]
    simp only [okC_nil, okC_agg, okC_i, okC_b, okC_s, okC_imm, okL_i, okL_b, okL_s, okL_sl, okS_i, okS_b, okS_s, okS_sl, okS_agg, okS_tup, okS_nil, okS_cons, cells_agg, cells_i, cells_b, cells_s, cells_imm, toI_i, toB_b, toS_s, toL_imm, nth_agg, nth_tup, put_agg, put_i, put_b, put_s, put_imm, setCells, List.getD_cons_zero, List.getD_cons_succ, bSh_b, bSh_i, bSh_s, bSh_sl, bSh_some, cond_true, cond_false, decide_true, decide_false, Int.toNat_natCast, Nat.zero_add, Nat.reduceAdd, beq_self_eq_true, Bool.and_true, Bool.true_and, if_true, Bool.false_eq_true, if_false, List.set_cons_zero, List.set_cons_succ, Bool.not_true, Bool.not_false, Bool.and_self]
  refine ⟨?_, _, hi⟩
  rw [hi, f24_eq, f36_eq]
  have := filter_loop (L := fun i r => f36_l1 255 91 i r) (m := mkL 91 fun _ => .i .u8 255) (p := fun _ => true) (F := fun r => if r.all isU8 = true then some (.s (bytesOf r)) else none) (fun i r hi hr => ?_) (fun r hr => ?_) 91 0 [] (by rw [mkL_length]) (by simp)
  · rw [show f36_l1 255 91 0 [] = _ from this]
    have hf : [] ++ ((mkL 91 fun _ => AV.i .u8 255).drop 0).filter (fun _ => true) = mkL 91 fun _ => AV.i .u8 255 := by
      rw [List.nil_append, List.drop_zero, List.filter_eq_self.2 (fun _ _ => rfl)]
    have hu : (mkL 91 fun _ => AV.i .u8 255).all isU8 = true := by
      rw [List.all_eq_true]
      intro y hy
      obtain ⟨j, _, rfl⟩ := List.mem_map.1 hy
      rfl
    rw [hf, if_pos hu]
    simp only [okC_nil, okC_agg, okC_i, okC_b, okC_s, okC_imm, okL_i, okL_b, okL_s, okL_sl, okS_i, okS_b, okS_s, okS_sl, okS_agg, okS_tup, okS_nil, okS_cons, cells_agg, cells_i, cells_b, cells_s, cells_imm, toI_i, toB_b, toS_s, toL_imm, nth_agg, nth_tup, put_agg, put_i, put_b, put_s, put_imm, setCells, List.getD_cons_zero, List.getD_cons_succ, bSh_b, bSh_i, bSh_s, bSh_sl, bSh_some, cond_true, cond_false, decide_true, decide_false, Int.toNat_natCast, Nat.zero_add, Nat.reduceAdd, beq_self_eq_true, Bool.and_true, Bool.true_and, if_true, Bool.false_eq_true, if_false, List.set_cons_zero, List.set_cons_succ, Bool.not_true, Bool.not_false, Bool.and_self]
    rw [ones]
  · rw [mkL_length] at hi
    try dsimp only
    rw [f36_l1_eq, dT (show (i : Int) < 91 by omega), cond_true, w64 (x := (i : Int) + 1) (by omega) (by omega), if_pos (show (r.length + ([(.i .u8 255)] : List AV).length) * 1 ≤ room by simp only [room, List.length_cons, List.length_nil]; omega), mkL_getD hi, if_pos rfl]
  · rw [mkL_length]
    try dsimp only
    rw [f36_l1_eq, dF (show ¬ (((91 : Nat) : Int)) < 91 by omega), cond_false]


/-- What both answer. -/
theorem reads {l : List AV} (h : Rw (T50 1048576) 1048576 l) (d b p fu ke op : Int) (wp : W64 p) (of_ : Bool) (q r : Int) : ∃ (s : ByteArray) (k : Int),
    den E 5 [(.agg [(.i .i64 d), (.i .i64 b), (.i .i64 p), (.imm 4 l), (.i .i64 fu), (.i .i64 ke), (.b of_), (.i .i64 op)]), (.i .i64 q), (.i .i64 r)] [] = some (.tup [(.s s), (.i .i64 k)]) ∧
    den E 7 [(.agg [(.i .i64 d), (.i .i64 b), (.i .i64 p), (.imm 4 l), (.i .i64 fu), (.i .i64 ke), (.b of_), (.i .i64 op)]), (.i .i64 q), (.i .i64 r)] [] = some (.tup [(.s s), (.i .i64 k)]) := by
  have hl := h.1
  rw [f5_eq, f7_eq, spec_flash h, impl_flash h, f16_eq]
  simp only [okC_nil, okC_agg, okC_i, okC_b, okC_s, okC_imm, okL_i, okL_b, okL_s, okL_sl, okS_i, okS_b, okS_s, okS_sl, okS_agg, okS_tup, okS_nil, okS_cons, cells_agg, cells_i, cells_b, cells_s, cells_imm, toI_i, toB_b, toS_s, toL_imm, nth_agg, nth_tup, put_agg, put_i, put_b, put_s, put_imm, setCells, List.getD_cons_zero, List.getD_cons_succ, bSh_b, bSh_i, bSh_s, bSh_sl, bSh_some, cond_true, cond_false, decide_true, decide_false, Int.toNat_natCast, Nat.zero_add, Nat.reduceAdd, beq_self_eq_true, Bool.and_true, Bool.true_and, if_true, Bool.false_eq_true, if_false, List.set_cons_zero, List.set_cons_succ, Bool.not_true, Bool.not_false, Bool.and_self]
  by_cases hok : okFl d b p l fu ke op = true
  rotate_left
  · rw [Bool.not_eq_true] at hok
    simp only [hok, okC_nil, okC_agg, okC_i, okC_b, okC_s, okC_imm, okL_i, okL_b, okL_s, okL_sl, okS_i, okS_b, okS_s, okS_sl, okS_agg, okS_tup, okS_nil, okS_cons, cells_agg, cells_i, cells_b, cells_s, cells_imm, toI_i, toB_b, toS_s, toL_imm, nth_agg, nth_tup, put_agg, put_i, put_b, put_s, put_imm, setCells, List.getD_cons_zero, List.getD_cons_succ, bSh_b, bSh_i, bSh_s, bSh_sl, bSh_some, cond_true, cond_false, decide_true, decide_false, Int.toNat_natCast, Nat.zero_add, Nat.reduceAdd, beq_self_eq_true, Bool.and_true, Bool.true_and, if_true, Bool.false_eq_true, if_false, List.set_cons_zero, List.set_cons_succ, Bool.not_true, Bool.not_false, Bool.and_self]
    exact ⟨_, _, rfl, rfl⟩
  simp only [hok, okC_nil, okC_agg, okC_i, okC_b, okC_s, okC_imm, okL_i, okL_b, okL_s, okL_sl, okS_i, okS_b, okS_s, okS_sl, okS_agg, okS_tup, okS_nil, okS_cons, cells_agg, cells_i, cells_b, cells_s, cells_imm, toI_i, toB_b, toS_s, toL_imm, nth_agg, nth_tup, put_agg, put_i, put_b, put_s, put_imm, setCells, List.getD_cons_zero, List.getD_cons_succ, bSh_b, bSh_i, bSh_s, bSh_sl, bSh_some, cond_true, cond_false, decide_true, decide_false, Int.toNat_natCast, Nat.zero_add, Nat.reduceAdd, beq_self_eq_true, Bool.and_true, Bool.true_and, if_true, Bool.false_eq_true, if_false, List.set_cons_zero, List.set_cons_succ, Bool.not_true, Bool.not_false, Bool.and_self]
  cases of_ with
  | true => exact ⟨_, _, rfl, rfl⟩
  | false =>
  have hok2 := hok
  simp only [okFl, okGeo, Bool.and_eq_true, Bool.or_eq_true, decide_eq_true_eq, List.all_eq_true] at hok2
  obtain ⟨⟨_, _, hp⟩, _, _, _, _, hall⟩ := hok2
  rw [f11_eq, f23_eq, f32_eq]
  simp only [in90, in72, isIdx (x := q) (n := ((l.length : Nat) : Int)) (by omega) (by omega), okC_nil, okC_agg, okC_i, okC_b, okC_s, okC_imm, okL_i, okL_b, okL_s, okL_sl, okS_i, okS_b, okS_s, okS_sl, okS_agg, okS_tup, okS_nil, okS_cons, cells_agg, cells_i, cells_b, cells_s, cells_imm, toI_i, toB_b, toS_s, toL_imm, nth_agg, nth_tup, put_agg, put_i, put_b, put_s, put_imm, setCells, List.getD_cons_zero, List.getD_cons_succ, bSh_b, bSh_i, bSh_s, bSh_sl, bSh_some, cond_true, cond_false, decide_true, decide_false, Int.toNat_natCast, Nat.zero_add, Nat.reduceAdd, beq_self_eq_true, Bool.and_true, Bool.true_and, if_true, Bool.false_eq_true, if_false, List.set_cons_zero, List.set_cons_succ, Bool.not_true, Bool.not_false, Bool.and_self]
  rw [w64 (x := ((l.length : Nat) : Int) - 1) (by omega) (by omega), w64 (x := p - 1) (by omega) (by omega)]
  by_cases hq : 0 ≤ q ∧ q ≤ ((l.length : Nat) : Int) - 1
  rotate_left
  · have : (decide (0 ≤ q) && decide (q ≤ ((l.length : Nat) : Int) - 1)) = false := by
      rw [Bool.and_eq_false_iff, decide_eq_false_iff_not, decide_eq_false_iff_not]; omega
    simp only [this, okC_nil, okC_agg, okC_i, okC_b, okC_s, okC_imm, okL_i, okL_b, okL_s, okL_sl, okS_i, okS_b, okS_s, okS_sl, okS_agg, okS_tup, okS_nil, okS_cons, cells_agg, cells_i, cells_b, cells_s, cells_imm, toI_i, toB_b, toS_s, toL_imm, nth_agg, nth_tup, put_agg, put_i, put_b, put_s, put_imm, setCells, List.getD_cons_zero, List.getD_cons_succ, bSh_b, bSh_i, bSh_s, bSh_sl, bSh_some, cond_true, cond_false, decide_true, decide_false, Int.toNat_natCast, Nat.zero_add, Nat.reduceAdd, beq_self_eq_true, Bool.and_true, Bool.true_and, if_true, Bool.false_eq_true, if_false, List.set_cons_zero, List.set_cons_succ, Bool.not_true, Bool.not_false, Bool.and_self]
    exact ⟨_, _, rfl, rfl⟩
  have : (decide (0 ≤ q) && decide (q ≤ ((l.length : Nat) : Int) - 1)) = true := by
    rw [Bool.and_eq_true, decide_eq_true_eq, decide_eq_true_eq]; exact hq
  simp only [this, okC_nil, okC_agg, okC_i, okC_b, okC_s, okC_imm, okL_i, okL_b, okL_s, okL_sl, okS_i, okS_b, okS_s, okS_sl, okS_agg, okS_tup, okS_nil, okS_cons, cells_agg, cells_i, cells_b, cells_s, cells_imm, toI_i, toB_b, toS_s, toL_imm, nth_agg, nth_tup, put_agg, put_i, put_b, put_s, put_imm, setCells, List.getD_cons_zero, List.getD_cons_succ, bSh_b, bSh_i, bSh_s, bSh_sl, bSh_some, cond_true, cond_false, decide_true, decide_false, Int.toNat_natCast, Nat.zero_add, Nat.reduceAdd, beq_self_eq_true, Bool.and_true, Bool.true_and, if_true, Bool.false_eq_true, if_false, List.set_cons_zero, List.set_cons_succ, Bool.not_true, Bool.not_false, Bool.and_self]
  clear this
  by_cases hr : 0 ≤ r ∧ r ≤ p - 1
  rotate_left
  · have : (decide (0 ≤ r) && decide (r ≤ p - 1)) = false := by
      rw [Bool.and_eq_false_iff, decide_eq_false_iff_not, decide_eq_false_iff_not]; omega
    simp only [this, okC_nil, okC_agg, okC_i, okC_b, okC_s, okC_imm, okL_i, okL_b, okL_s, okL_sl, okS_i, okS_b, okS_s, okS_sl, okS_agg, okS_tup, okS_nil, okS_cons, cells_agg, cells_i, cells_b, cells_s, cells_imm, toI_i, toB_b, toS_s, toL_imm, nth_agg, nth_tup, put_agg, put_i, put_b, put_s, put_imm, setCells, List.getD_cons_zero, List.getD_cons_succ, bSh_b, bSh_i, bSh_s, bSh_sl, bSh_some, cond_true, cond_false, decide_true, decide_false, Int.toNat_natCast, Nat.zero_add, Nat.reduceAdd, beq_self_eq_true, Bool.and_true, Bool.true_and, if_true, Bool.false_eq_true, if_false, List.set_cons_zero, List.set_cons_succ, Bool.not_true, Bool.not_false, Bool.and_self]
    exact ⟨_, _, rfl, rfl⟩
  have : (decide (0 ≤ r) && decide (r ≤ p - 1)) = true := by
    rw [Bool.and_eq_true, decide_eq_true_eq, decide_eq_true_eq]; exact hr
  simp only [this, okC_nil, okC_agg, okC_i, okC_b, okC_s, okC_imm, okL_i, okL_b, okL_s, okL_sl, okS_i, okS_b, okS_s, okS_sl, okS_agg, okS_tup, okS_nil, okS_cons, cells_agg, cells_i, cells_b, cells_s, cells_imm, toI_i, toB_b, toS_s, toL_imm, nth_agg, nth_tup, put_agg, put_i, put_b, put_s, put_imm, setCells, List.getD_cons_zero, List.getD_cons_succ, bSh_b, bSh_i, bSh_s, bSh_sl, bSh_some, cond_true, cond_false, decide_true, decide_false, Int.toNat_natCast, Nat.zero_add, Nat.reduceAdd, beq_self_eq_true, Bool.and_true, Bool.true_and, if_true, Bool.false_eq_true, if_false, List.set_cons_zero, List.set_cons_succ, Bool.not_true, Bool.not_false, Bool.and_self]
  clear this
  obtain ⟨i, rfl⟩ : ∃ i : Nat, q = i := ⟨q.toNat, by omega⟩
  obtain ⟨j, rfl⟩ : ∃ j : Nat, r = j := ⟨r.toNat, by omega⟩
  have hi : i < l.length := by omega
  have hT := h.at hi
  have hB := hall i (by simp [List.mem_range'_1, hi])
  obtain ⟨a0, a1, a2, a3, he, w0, w1, w3, _⟩ := hT
  rw [he] at hB
  simp only [okB, Bool.and_eq_true, decide_eq_true_eq, okC_nil, okC_agg, okC_i, okC_b, okC_s, okC_imm, okL_i, okL_b, okL_s, okL_sl, okS_i, okS_b, okS_s, okS_sl, okS_agg, okS_tup, okS_nil, okS_cons, cells_agg, cells_i, cells_b, cells_s, cells_imm, toI_i, toB_b, toS_s, toL_imm, nth_agg, nth_tup, put_agg, put_i, put_b, put_s, put_imm, setCells, List.getD_cons_zero, List.getD_cons_succ, bSh_b, bSh_i, bSh_s, bSh_sl, bSh_some, cond_true, cond_false, decide_true, decide_false, Int.toNat_natCast, Nat.zero_add, Nat.reduceAdd, beq_self_eq_true, Bool.and_true, Bool.true_and, if_true, Bool.false_eq_true, if_false, List.set_cons_zero, List.set_cons_succ, Bool.not_true, Bool.not_false, Bool.and_self] at hB
  have hpl : ((a3.length : Nat) : Int) = p := hB.2.2.1
  have hj : j < a3.length := by omega
  obtain ⟨s0, hs, _⟩ := w3.at hj
  obtain ⟨e1, s1, e2⟩ := erased
  rw [f12_eq, f33_eq]
  have g1 : (0 : Int) ≤ (i : Int) := by omega
  have g2 : (i : Int) < ((l.length : Nat) : Int) := by omega
  have g3 : (0 : Int) ≤ (j : Int) := by omega
  have g4 : (j : Int) < ((a3.length : Nat) : Int) := by omega
  simp only [Int.toNat_natCast, he, hs, g1, g2, g3, g4, and_self, e1, e2, okC_nil, okC_agg, okC_i, okC_b, okC_s, okC_imm, okL_i, okL_b, okL_s, okL_sl, okS_i, okS_b, okS_s, okS_sl, okS_agg, okS_tup, okS_nil, okS_cons, cells_agg, cells_i, cells_b, cells_s, cells_imm, toI_i, toB_b, toS_s, toL_imm, nth_agg, nth_tup, put_agg, put_i, put_b, put_s, put_imm, setCells, List.getD_cons_zero, List.getD_cons_succ, bSh_b, bSh_i, bSh_s, bSh_sl, bSh_some, cond_true, cond_false, decide_true, decide_false, Int.toNat_natCast, Nat.zero_add, Nat.reduceAdd, beq_self_eq_true, Bool.and_true, Bool.true_and, if_true, Bool.false_eq_true, if_false, List.set_cons_zero, List.set_cons_succ, Bool.not_true, Bool.not_false, Bool.and_self]
  by_cases h0 : s0 = ({ data := #[] } : ByteArray)
  · simp only [h0, okC_nil, okC_agg, okC_i, okC_b, okC_s, okC_imm, okL_i, okL_b, okL_s, okL_sl, okS_i, okS_b, okS_s, okS_sl, okS_agg, okS_tup, okS_nil, okS_cons, cells_agg, cells_i, cells_b, cells_s, cells_imm, toI_i, toB_b, toS_s, toL_imm, nth_agg, nth_tup, put_agg, put_i, put_b, put_s, put_imm, setCells, List.getD_cons_zero, List.getD_cons_succ, bSh_b, bSh_i, bSh_s, bSh_sl, bSh_some, cond_true, cond_false, decide_true, decide_false, Int.toNat_natCast, Nat.zero_add, Nat.reduceAdd, beq_self_eq_true, Bool.and_true, Bool.true_and, if_true, Bool.false_eq_true, if_false, List.set_cons_zero, List.set_cons_succ, Bool.not_true, Bool.not_false, Bool.and_self]
    exact ⟨_, _, rfl, rfl⟩
  · simp only [h0, okC_nil, okC_agg, okC_i, okC_b, okC_s, okC_imm, okL_i, okL_b, okL_s, okL_sl, okS_i, okS_b, okS_s, okS_sl, okS_agg, okS_tup, okS_nil, okS_cons, cells_agg, cells_i, cells_b, cells_s, cells_imm, toI_i, toB_b, toS_s, toL_imm, nth_agg, nth_tup, put_agg, put_i, put_b, put_s, put_imm, setCells, List.getD_cons_zero, List.getD_cons_succ, bSh_b, bSh_i, bSh_s, bSh_sl, bSh_some, cond_true, cond_false, decide_true, decide_false, Int.toNat_natCast, Nat.zero_add, Nat.reduceAdd, beq_self_eq_true, Bool.and_true, Bool.true_and, if_true, Bool.false_eq_true, if_false, List.set_cons_zero, List.set_cons_succ, Bool.not_true, Bool.not_false, Bool.and_self]
    exact ⟨_, _, rfl, rfl⟩

theorem pure (el : AV) (h : T26 9223372036854775807 el) (q : Int) (_ : W64 q) (r : Int) (_ : W64 r) : den E 3 [el, (.i .i64 q), (.i .i64 r)] [] = some (.b true) := by
  obtain ⟨t, ht, hq⟩ := sz4 h 1048576 (by omega) (by omega)
  obtain ⟨a0, a1, a2, a3, a4, a5, a6, a7, rfl, _⟩ := h
  rw [f3_eq, ht]
  simp only [bSh_i, toI_i]
  rcases hq with hq | ⟨h0, h1, hT⟩
  · simp only [hq, decide_true, cond_true]
  have hn : ¬ t < 0 := by omega
  simp only [hn, decide_false, cond_false]
  have e0 := to6 hT
  have q0 := eq8 hT
  obtain ⟨b0, b1, b2, b3, b4, b5, b6, b7, hb, v0, v1, v2, v3, v4, v5, v7, _⟩ := hT
  cases hb
  obtain ⟨s, k, g1, g2⟩ := reads v3 a0 a1 a2 a4 a5 a7 v2 a6 q r
  simp only [e0, q0, g1, g2, okC_nil, okC_agg, okC_i, okC_b, okC_s, okC_imm, okL_i, okL_b, okL_s, okL_sl, okS_i, okS_b, okS_s, okS_sl, okS_agg, okS_tup, okS_nil, okS_cons, cells_agg, cells_i, cells_b, cells_s, cells_imm, toI_i, toB_b, toS_s, toL_imm, nth_agg, nth_tup, put_agg, put_i, put_b, put_s, put_imm, setCells, List.getD_cons_zero, List.getD_cons_succ, bSh_b, bSh_i, bSh_s, bSh_sl, bSh_some, cond_true, cond_false, decide_true, decide_false, Int.toNat_natCast, Nat.zero_add, Nat.reduceAdd, beq_self_eq_true, Bool.and_true, Bool.true_and, if_true, Bool.false_eq_true, if_false, List.set_cons_zero, List.set_cons_succ, Bool.not_true, Bool.not_false, Bool.and_self]
end Go.Proofs.Ytmoooblndcjeoaa.IReadRaw
