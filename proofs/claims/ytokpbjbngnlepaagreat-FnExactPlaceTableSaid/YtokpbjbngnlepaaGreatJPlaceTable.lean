/- PlaceTable: the program's answer is the reference's, for every device, version, level and number of pages. No condition beyond what each theorem states. -/
import Derived.Test.YtokpbjbngnlepaaGreatIPlaceTablef
import Derived.Test.YtokpbjbngnlepaaGreatItMk
namespace Go.Proofs.YtokpbjbngnlepaaGreat.IPlaceTable
open Go Go.Proofs.YtokpbjbngnlepaaGreatIT
set_option linter.unusedSimpArgs false

theorem in90 (a lo hi : Int) : den E 54 [(.i .i64 a), (.i .i64 lo), (.i .i64 hi)] [] = some (.b (decide (lo ≤ a) && decide (a ≤ hi))) := by
  rw [f54_eq, beq_true, cond_andb]
theorem in72 (a lo hi : Int) : den E 56 [(.i .i64 a), (.i .i64 lo), (.i .i64 hi)] [] = some (.b (decide (lo ≤ a) && decide (a ≤ hi))) := by
  rw [f56_eq, beq_true, cond_andb]


theorem bytes_eq {a b : ByteArray} (h : a.data.toList = b.data.toList) : a = b := ByteArray.ext (Array.toList_inj.mp h)
theorem size0 (s : ByteArray) : s = ({ data := #[] } : ByteArray) ↔ s.size = 0 := by
  constructor
  · rintro rfl; rfl
  · intro h
    apply bytes_eq
    have : s.data.toList.length = 0 := by rw [Array.length_toList]; exact h
    rw [List.eq_nil_of_length_eq_zero this]

/-! A block is valid. -/
noncomputable def sA (m : List AV) (i : Nat) : ByteArray := ((m.getD i .x).cells.getD 0 .x).toS
noncomputable def okPg (nx : Int) (l : List AV) (i : Nat) : Bool := decide (((sA l i).size : Int) = 0) || (decide (((sA l i).size : Int) = 91) && !decide (nx ≤ (i : Int)))
noncomputable def okB (pg : Int) (el : AV) : Bool := (decide (0 ≤ (el.cells.getD 0 .x).toI) && decide ((el.cells.getD 0 .x).toI ≤ 1000)) && ((decide (0 ≤ (el.cells.getD 1 .x).toI) && decide ((el.cells.getD 1 .x).toI ≤ pg)) && (decide (((((el.cells.getD 3 .x).toL).length : Nat) : Int) = pg) && (List.range' 0 ((el.cells.getD 3 .x).toL).length).all (okPg (el.cells.getD 1 .x).toI ((el.cells.getD 3 .x).toL))))

theorem spec_block {el : AV} (h : T135 1048576 el) (pg : Int) : den E 101 [el, (.i .i64 pg)] [] = some (.b (okB pg el)) := by
  obtain ⟨a0, a1, a2, a3, rfl, w0, w1, w3, _⟩ := h
  have hl := w3.1
  rw [f101_eq]
  unfold okB
  simp only [in90, okC_nil, okC_agg, okC_i, okC_b, okC_s, okC_imm, okL_i, okL_b, okL_s, okL_sl, okS_i, okS_b, okS_s, okS_sl, okS_agg, okS_tup, okS_nil, okS_cons, cells_agg, cells_i, cells_b, cells_s, cells_imm, toI_i, toB_b, toS_s, toL_imm, nth_agg, nth_tup, put_agg, put_i, put_b, put_s, put_imm, setCells, List.getD_cons_zero, List.getD_cons_succ, bSh_b, bSh_i, bSh_s, bSh_sl, bSh_some, cond_true, cond_false, decide_true, decide_false, Int.toNat_natCast, Nat.zero_add, Nat.reduceAdd, beq_self_eq_true, Bool.and_true, Bool.true_and, if_true, Bool.false_eq_true, if_false, List.set_cons_zero, List.set_cons_succ, Bool.not_true, Bool.not_false, Bool.and_self]
  cases (decide (0 ≤ a0) && decide (a0 ≤ 1000))
  · rfl
  cases (decide (0 ≤ a1) && decide (a1 ≤ pg))
  · rfl
  by_cases hp : ((a3.length : Nat) : Int) = pg
  rotate_left
  · simp only [hp, decide_false, Bool.false_and, Bool.true_and]; rfl
  simp only [hp, okC_nil, okC_agg, okC_i, okC_b, okC_s, okC_imm, okL_i, okL_b, okL_s, okL_sl, okS_i, okS_b, okS_s, okS_sl, okS_agg, okS_tup, okS_nil, okS_cons, cells_agg, cells_i, cells_b, cells_s, cells_imm, toI_i, toB_b, toS_s, toL_imm, nth_agg, nth_tup, put_agg, put_i, put_b, put_s, put_imm, setCells, List.getD_cons_zero, List.getD_cons_succ, bSh_b, bSh_i, bSh_s, bSh_sl, bSh_some, cond_true, cond_false, decide_true, decide_false, Int.toNat_natCast, Nat.zero_add, Nat.reduceAdd, beq_self_eq_true, Bool.and_true, Bool.true_and, if_true, Bool.false_eq_true, if_false, List.set_cons_zero, List.set_cons_succ, Bool.not_true, Bool.not_false, Bool.and_self]
  have := all_loop (L := fun i => f101_l1 pg i a0 a1 a2 a3) (n := a3.length) (p := okPg a1 a3) (X := some (.b true)) (F := some (.b false)) (fun i hi => ?_) ?_ a3.length 0 (by omega)
  · refine this.trans ?_
    rw [cond_andb, Bool.and_true]
  · obtain ⟨s0, he, v0, _⟩ := w3.at hi
    have g1 : (0 : Int) ≤ (i : Int) := by omega
    have g2 : (i : Int) < ((a3.length : Nat) : Int) := by omega
    try dsimp only
    rw [f101_l1_eq, dT (show (i : Int) < pg by omega), cond_true]
    unfold okPg sA
    simp only [Int.toNat_natCast, g1, g2, and_self, he, f101_j2_eq, okC_nil, okC_agg, okC_i, okC_b, okC_s, okC_imm, okL_i, okL_b, okL_s, okL_sl, okS_i, okS_b, okS_s, okS_sl, okS_agg, okS_tup, okS_nil, okS_cons, cells_agg, cells_i, cells_b, cells_s, cells_imm, toI_i, toB_b, toS_s, toL_imm, nth_agg, nth_tup, put_agg, put_i, put_b, put_s, put_imm, setCells, List.getD_cons_zero, List.getD_cons_succ, bSh_b, bSh_i, bSh_s, bSh_sl, bSh_some, cond_true, cond_false, decide_true, decide_false, Int.toNat_natCast, Nat.zero_add, Nat.reduceAdd, beq_self_eq_true, Bool.and_true, Bool.true_and, if_true, Bool.false_eq_true, if_false, List.set_cons_zero, List.set_cons_succ, Bool.not_true, Bool.not_false, Bool.and_self]
    rw [w64 (x := (i : Int) + 1) (by omega) (by omega)]
    cases decide (((s0.size : Nat) : Int) = 0) <;> cases decide (((s0.size : Nat) : Int) = 91) <;> cases decide (a1 ≤ (i : Int)) <;> rfl
  · try dsimp only
    rw [f101_l1_eq, ← hp, dF (Int.lt_irrefl _), cond_false]
theorem impl_block {el : AV} (h : T135 1048576 el) (g0 g1 pg : Int) : den E 122 [(.agg [(.i .i64 g0), (.i .i64 g1), (.i .i64 pg)]), el] [] = some (.b (okB pg el)) := by
  obtain ⟨a0, a1, a2, a3, rfl, w0, w1, w3, _⟩ := h
  have hl := w3.1
  rw [f122_eq]
  unfold okB
  simp only [in72, okC_nil, okC_agg, okC_i, okC_b, okC_s, okC_imm, okL_i, okL_b, okL_s, okL_sl, okS_i, okS_b, okS_s, okS_sl, okS_agg, okS_tup, okS_nil, okS_cons, cells_agg, cells_i, cells_b, cells_s, cells_imm, toI_i, toB_b, toS_s, toL_imm, nth_agg, nth_tup, put_agg, put_i, put_b, put_s, put_imm, setCells, List.getD_cons_zero, List.getD_cons_succ, bSh_b, bSh_i, bSh_s, bSh_sl, bSh_some, cond_true, cond_false, decide_true, decide_false, Int.toNat_natCast, Nat.zero_add, Nat.reduceAdd, beq_self_eq_true, Bool.and_true, Bool.true_and, if_true, Bool.false_eq_true, if_false, List.set_cons_zero, List.set_cons_succ, Bool.not_true, Bool.not_false, Bool.and_self]
  cases (decide (0 ≤ a0) && decide (a0 ≤ 1000))
  · rfl
  cases (decide (0 ≤ a1) && decide (a1 ≤ pg))
  · rfl
  by_cases hp : ((a3.length : Nat) : Int) = pg
  rotate_left
  · simp only [hp, decide_false, Bool.false_and, Bool.true_and]; rfl
  simp only [hp, okC_nil, okC_agg, okC_i, okC_b, okC_s, okC_imm, okL_i, okL_b, okL_s, okL_sl, okS_i, okS_b, okS_s, okS_sl, okS_agg, okS_tup, okS_nil, okS_cons, cells_agg, cells_i, cells_b, cells_s, cells_imm, toI_i, toB_b, toS_s, toL_imm, nth_agg, nth_tup, put_agg, put_i, put_b, put_s, put_imm, setCells, List.getD_cons_zero, List.getD_cons_succ, bSh_b, bSh_i, bSh_s, bSh_sl, bSh_some, cond_true, cond_false, decide_true, decide_false, Int.toNat_natCast, Nat.zero_add, Nat.reduceAdd, beq_self_eq_true, Bool.and_true, Bool.true_and, if_true, Bool.false_eq_true, if_false, List.set_cons_zero, List.set_cons_succ, Bool.not_true, Bool.not_false, Bool.and_self]
  have := all_loop (L := fun i => f122_l1 a3 pg i g0 g1 pg a0 a1 a2 a3) (n := a3.length) (p := okPg a1 a3) (X := some (.b true)) (F := some (.b false)) (fun i hi => ?_) ?_ a3.length 0 (by omega)
  · refine this.trans ?_
    rw [cond_andb, Bool.and_true]
  · obtain ⟨s0, he, v0, _⟩ := w3.at hi
    have g1 : (0 : Int) ≤ (i : Int) := by omega
    have g2 : (i : Int) < ((a3.length : Nat) : Int) := by omega
    have hs : decide (s0 = ({ data := #[] } : ByteArray)) = decide (((s0.size : Nat) : Int) = 0) := by
      rw [Bool.eq_iff_iff, decide_eq_true_eq, decide_eq_true_eq, size0]; omega
    try dsimp only
    rw [f122_l1_eq, dT (show (i : Int) < pg by omega), cond_true]
    unfold okPg sA
    simp only [Int.toNat_natCast, g1, g2, and_self, he, hs, f122_j2_eq, okC_nil, okC_agg, okC_i, okC_b, okC_s, okC_imm, okL_i, okL_b, okL_s, okL_sl, okS_i, okS_b, okS_s, okS_sl, okS_agg, okS_tup, okS_nil, okS_cons, cells_agg, cells_i, cells_b, cells_s, cells_imm, toI_i, toB_b, toS_s, toL_imm, nth_agg, nth_tup, put_agg, put_i, put_b, put_s, put_imm, setCells, List.getD_cons_zero, List.getD_cons_succ, bSh_b, bSh_i, bSh_s, bSh_sl, bSh_some, cond_true, cond_false, decide_true, decide_false, Int.toNat_natCast, Nat.zero_add, Nat.reduceAdd, beq_self_eq_true, Bool.and_true, Bool.true_and, if_true, Bool.false_eq_true, if_false, List.set_cons_zero, List.set_cons_succ, Bool.not_true, Bool.not_false, Bool.and_self]
    rw [w64 (x := (i : Int) + 1) (by omega) (by omega)]
    cases decide (((s0.size : Nat) : Int) = 0) <;> cases decide (((s0.size : Nat) : Int) = 91) <;> cases decide (a1 ≤ (i : Int)) <;> rfl
  · try dsimp only
    rw [f122_l1_eq, ← hp, dF (Int.lt_irrefl _), cond_false]

/-! A flash is valid. -/
noncomputable def okGeo (d b p : Int) : Bool := (decide (2 ≤ d) && decide (d ≤ 3)) && ((decide (4 ≤ b) && decide (b ≤ 12)) && (decide (p = 8) || decide (p = 16)))
theorem spec_geo (d b p : Int) : den E 100 [(.agg [(.i .i64 d), (.i .i64 b), (.i .i64 p)])] [] = some (.b (okGeo d b p)) := by
  rw [f100_eq]
  unfold okGeo
  simp only [in90, okC_nil, okC_agg, okC_i, okC_b, okC_s, okC_imm, okL_i, okL_b, okL_s, okL_sl, okS_i, okS_b, okS_s, okS_sl, okS_agg, okS_tup, okS_nil, okS_cons, cells_agg, cells_i, cells_b, cells_s, cells_imm, toI_i, toB_b, toS_s, toL_imm, nth_agg, nth_tup, put_agg, put_i, put_b, put_s, put_imm, setCells, List.getD_cons_zero, List.getD_cons_succ, bSh_b, bSh_i, bSh_s, bSh_sl, bSh_some, cond_true, cond_false, decide_true, decide_false, Int.toNat_natCast, Nat.zero_add, Nat.reduceAdd, beq_self_eq_true, Bool.and_true, Bool.true_and, if_true, Bool.false_eq_true, if_false, List.set_cons_zero, List.set_cons_succ, Bool.not_true, Bool.not_false, Bool.and_self]
  cases (decide (2 ≤ d) && decide (d ≤ 3)) <;> cases (decide (4 ≤ b) && decide (b ≤ 12)) <;> cases decide (p = 8) <;> rfl
theorem impl_geo (d b p : Int) : den E 118 [(.agg [(.i .i64 d), (.i .i64 b), (.i .i64 p)])] [] = some (.b (okGeo d b p)) := by
  rw [f118_eq]
  unfold okGeo
  simp only [in72, okC_nil, okC_agg, okC_i, okC_b, okC_s, okC_imm, okL_i, okL_b, okL_s, okL_sl, okS_i, okS_b, okS_s, okS_sl, okS_agg, okS_tup, okS_nil, okS_cons, cells_agg, cells_i, cells_b, cells_s, cells_imm, toI_i, toB_b, toS_s, toL_imm, nth_agg, nth_tup, put_agg, put_i, put_b, put_s, put_imm, setCells, List.getD_cons_zero, List.getD_cons_succ, bSh_b, bSh_i, bSh_s, bSh_sl, bSh_some, cond_true, cond_false, decide_true, decide_false, Int.toNat_natCast, Nat.zero_add, Nat.reduceAdd, beq_self_eq_true, Bool.and_true, Bool.true_and, if_true, Bool.false_eq_true, if_false, List.set_cons_zero, List.set_cons_succ, Bool.not_true, Bool.not_false, Bool.and_self]
  cases (decide (2 ≤ d) && decide (d ≤ 3)) <;> cases (decide (4 ≤ b) && decide (b ≤ 12)) <;> cases decide (p = 8) <;> rfl
noncomputable def okFl (d b p : Int) (l : List AV) (fu ke op : Int) : Bool := okGeo d b p && (decide (((l.length : Nat) : Int) = IntKind.i64.wrap (d * b)) && ((decide (-1 ≤ fu) && decide (fu ≤ 1000000)) && ((decide (0 ≤ ke) && decide (ke ≤ 91)) && (!decide (op < 0) && (List.range' 0 l.length).all fun i => okB p (l.getD i .x)))))
theorem spec_flash {l : List AV} (h : Rw (T135 1048576) 1048576 l) (d b p fu ke op : Int) (of_ : Bool) : den E 61 [(.agg [(.i .i64 d), (.i .i64 b), (.i .i64 p), (.imm 4 l), (.i .i64 fu), (.i .i64 ke), (.b of_), (.i .i64 op)])] [] = some (.b (okFl d b p l fu ke op)) := by
  have hl := h.1
  rw [f61_eq]
  unfold okFl
  simp only [spec_geo, in90, okC_nil, okC_agg, okC_i, okC_b, okC_s, okC_imm, okL_i, okL_b, okL_s, okL_sl, okS_i, okS_b, okS_s, okS_sl, okS_agg, okS_tup, okS_nil, okS_cons, cells_agg, cells_i, cells_b, cells_s, cells_imm, toI_i, toB_b, toS_s, toL_imm, nth_agg, nth_tup, put_agg, put_i, put_b, put_s, put_imm, setCells, List.getD_cons_zero, List.getD_cons_succ, bSh_b, bSh_i, bSh_s, bSh_sl, bSh_some, cond_true, cond_false, decide_true, decide_false, Int.toNat_natCast, Nat.zero_add, Nat.reduceAdd, beq_self_eq_true, Bool.and_true, Bool.true_and, if_true, Bool.false_eq_true, if_false, List.set_cons_zero, List.set_cons_succ, Bool.not_true, Bool.not_false, Bool.and_self]
  have := all_loop (L := fun i => f61_l1 i d b p l fu ke of_ op) (n := l.length) (p := fun i => okB p (l.getD i .x)) (X := some (.b true)) (F := some (.b false)) (fun i hi => ?_) ?_ l.length 0 (by omega)
  · rw [show f61_l1 0 d b p l fu ke of_ op = _ from this, cond_andb, Bool.and_true]
    cases okGeo d b p <;> cases decide (((l.length : Nat) : Int) = IntKind.i64.wrap (d * b)) <;> cases (decide (-1 ≤ fu) && decide (fu ≤ 1000000)) <;> cases (decide (0 ≤ ke) && decide (ke ≤ 91)) <;> cases decide (op < 0) <;> rfl
  · have hT := h.at hi
    try dsimp only
    rw [f61_l1_eq, dT (show (i : Int) < ((l.length : Nat) : Int) by omega), cond_true, if_pos (by omega), w64 (x := (i : Int) + 1) (by omega) (by omega)]
    simp only [Int.toNat_natCast, hT.ok, hT.eta, spec_block hT, okC_nil, okC_agg, okC_i, okC_b, okC_s, okC_imm, okL_i, okL_b, okL_s, okL_sl, okS_i, okS_b, okS_s, okS_sl, okS_agg, okS_tup, okS_nil, okS_cons, cells_agg, cells_i, cells_b, cells_s, cells_imm, toI_i, toB_b, toS_s, toL_imm, nth_agg, nth_tup, put_agg, put_i, put_b, put_s, put_imm, setCells, List.getD_cons_zero, List.getD_cons_succ, bSh_b, bSh_i, bSh_s, bSh_sl, bSh_some, cond_true, cond_false, decide_true, decide_false, Int.toNat_natCast, Nat.zero_add, Nat.reduceAdd, beq_self_eq_true, Bool.and_true, Bool.true_and, if_true, Bool.false_eq_true, if_false, List.set_cons_zero, List.set_cons_succ, Bool.not_true, Bool.not_false, Bool.and_self]
    cases okB p (l.getD i .x) <;> rfl
  · try dsimp only
    rw [f61_l1_eq, dF (Int.lt_irrefl _), cond_false]
theorem has_bad {l : List AV} (h : Rw (T135 1048576) 1048576 l) (d b p fu ke op : Int) (of_ : Bool) : den E 120 [(.imm 4 l), (.fn 121 [(.ip (.agg [(.i .i64 d), (.i .i64 b), (.i .i64 p), (.imm 4 l), (.i .i64 fu), (.i .i64 ke), (.b of_), (.i .i64 op)]) 0)])] [] = some (.b (!(List.range' 0 l.length).all fun i => okB p (l.getD i .x))) := by
  have hl := h.1
  rw [f120q1_eq, f131q1_eq]
  have key := find_loop (L := fun i => f131q1_l1 l (.agg [(.i .i64 d), (.i .i64 b), (.i .i64 p), (.imm 4 l), (.i .i64 fu), (.i .i64 ke), (.b of_), (.i .i64 op)]) ((l.length : Nat) : Int) i) (n := l.length) (p := fun j => !okB p (l.getD j .x)) (F := fun i => some (.i .i64 i)) (X := some (.i .i64 (-1))) (fun i hi => ?_) ?_ l.length 0 (by omega)
  · rcases key with ⟨j, _, hj, h1, h2, h3⟩ | ⟨h1, h2⟩
    · rw [show f131q1_l1 l (.agg [(.i .i64 d), (.i .i64 b), (.i .i64 p), (.imm 4 l), (.i .i64 fu), (.i .i64 ke), (.b of_), (.i .i64 op)]) ((l.length : Nat) : Int) 0 = _ from h3]
      have hj0 : (0 : Int) ≤ (j : Int) := by omega
      have : ((List.range' 0 l.length).all fun i => okB p (l.getD i .x)) = false := by
        rw [List.all_eq_false]
        exact ⟨j, by simp [List.mem_range'_1, hj], by simpa using h1⟩
      simp only [hj0, this, okC_nil, okC_agg, okC_i, okC_b, okC_s, okC_imm, okL_i, okL_b, okL_s, okL_sl, okS_i, okS_b, okS_s, okS_sl, okS_agg, okS_tup, okS_nil, okS_cons, cells_agg, cells_i, cells_b, cells_s, cells_imm, toI_i, toB_b, toS_s, toL_imm, nth_agg, nth_tup, put_agg, put_i, put_b, put_s, put_imm, setCells, List.getD_cons_zero, List.getD_cons_succ, bSh_b, bSh_i, bSh_s, bSh_sl, bSh_some, cond_true, cond_false, decide_true, decide_false, Int.toNat_natCast, Nat.zero_add, Nat.reduceAdd, beq_self_eq_true, Bool.and_true, Bool.true_and, if_true, Bool.false_eq_true, if_false, List.set_cons_zero, List.set_cons_succ, Bool.not_true, Bool.not_false, Bool.and_self]
    · rw [show f131q1_l1 l (.agg [(.i .i64 d), (.i .i64 b), (.i .i64 p), (.imm 4 l), (.i .i64 fu), (.i .i64 ke), (.b of_), (.i .i64 op)]) ((l.length : Nat) : Int) 0 = _ from h2]
      have : ((List.range' 0 l.length).all fun i => okB p (l.getD i .x)) = true := by
        rw [List.all_eq_true]
        intro i hi
        have := h1 i (Nat.zero_le _) (by simpa [List.mem_range'_1] using hi)
        simpa using this
      simp only [this, okC_nil, okC_agg, okC_i, okC_b, okC_s, okC_imm, okL_i, okL_b, okL_s, okL_sl, okS_i, okS_b, okS_s, okS_sl, okS_agg, okS_tup, okS_nil, okS_cons, cells_agg, cells_i, cells_b, cells_s, cells_imm, toI_i, toB_b, toS_s, toL_imm, nth_agg, nth_tup, put_agg, put_i, put_b, put_s, put_imm, setCells, List.getD_cons_zero, List.getD_cons_succ, bSh_b, bSh_i, bSh_s, bSh_sl, bSh_some, cond_true, cond_false, decide_true, decide_false, Int.toNat_natCast, Nat.zero_add, Nat.reduceAdd, beq_self_eq_true, Bool.and_true, Bool.true_and, if_true, Bool.false_eq_true, if_false, List.set_cons_zero, List.set_cons_succ, Bool.not_true, Bool.not_false, Bool.and_self]
      rfl
  · have hT := h.at hi
    try dsimp only
    rw [f131q1_l1_eq, dT (show (i : Int) < ((l.length : Nat) : Int) by omega), cond_true, if_pos (by omega), w64 (x := (i : Int) + 1) (by omega) (by omega)]
    have hcl : den E 121 [l.getD i .x, (.ip (.agg [(.i .i64 d), (.i .i64 b), (.i .i64 p), (.imm 4 l), (.i .i64 fu), (.i .i64 ke), (.b of_), (.i .i64 op)]) 0)] [] = some (.b (!okB p (l.getD i .x))) := by
      have hb := impl_block hT d b p
      obtain ⟨a0, a1, a2, a3, he, _⟩ := hT
      rw [he] at hb ⊢
      rw [f121q1_eq]
      simp only [okC_nil, okC_agg, okC_i, okC_b, okC_s, okC_imm, okL_i, okL_b, okL_s, okL_sl, okS_i, okS_b, okS_s, okS_sl, okS_agg, okS_tup, okS_nil, okS_cons, cells_agg, cells_i, cells_b, cells_s, cells_imm, toI_i, toB_b, toS_s, toL_imm, nth_agg, nth_tup, put_agg, put_i, put_b, put_s, put_imm, setCells, List.getD_cons_zero, List.getD_cons_succ, bSh_b, bSh_i, bSh_s, bSh_sl, bSh_some, cond_true, cond_false, decide_true, decide_false, Int.toNat_natCast, Nat.zero_add, Nat.reduceAdd, beq_self_eq_true, Bool.and_true, Bool.true_and, if_true, Bool.false_eq_true, if_false, List.set_cons_zero, List.set_cons_succ, Bool.not_true, Bool.not_false, Bool.and_self, hb]
    simp only [Int.toNat_natCast, hT.ok, hT.eta, hcl, okC_nil, okC_agg, okC_i, okC_b, okC_s, okC_imm, okL_i, okL_b, okL_s, okL_sl, okS_i, okS_b, okS_s, okS_sl, okS_agg, okS_tup, okS_nil, okS_cons, cells_agg, cells_i, cells_b, cells_s, cells_imm, toI_i, toB_b, toS_s, toL_imm, nth_agg, nth_tup, put_agg, put_i, put_b, put_s, put_imm, setCells, List.getD_cons_zero, List.getD_cons_succ, bSh_b, bSh_i, bSh_s, bSh_sl, bSh_some, cond_true, cond_false, decide_true, decide_false, Int.toNat_natCast, Nat.zero_add, Nat.reduceAdd, beq_self_eq_true, Bool.and_true, Bool.true_and, if_true, Bool.false_eq_true, if_false, List.set_cons_zero, List.set_cons_succ, Bool.not_true, Bool.not_false, Bool.and_self]
  · try dsimp only
    rw [f131q1_l1_eq, dF (Int.lt_irrefl _), cond_false]
theorem impl_flash {l : List AV} (h : Rw (T135 1048576) 1048576 l) (d b p fu ke op : Int) (of_ : Bool) : den E 106 [(.agg [(.i .i64 d), (.i .i64 b), (.i .i64 p), (.imm 4 l), (.i .i64 fu), (.i .i64 ke), (.b of_), (.i .i64 op)])] [] = some (.b (okFl d b p l fu ke op)) := by
  rw [f106_eq]
  unfold okFl
  simp only [impl_geo, in72, has_bad h, f119_eq, Bool.not_not, okC_nil, okC_agg, okC_i, okC_b, okC_s, okC_imm, okL_i, okL_b, okL_s, okL_sl, okS_i, okS_b, okS_s, okS_sl, okS_agg, okS_tup, okS_nil, okS_cons, cells_agg, cells_i, cells_b, cells_s, cells_imm, toI_i, toB_b, toS_s, toL_imm, nth_agg, nth_tup, put_agg, put_i, put_b, put_s, put_imm, setCells, List.getD_cons_zero, List.getD_cons_succ, bSh_b, bSh_i, bSh_s, bSh_sl, bSh_some, cond_true, cond_false, decide_true, decide_false, Int.toNat_natCast, Nat.zero_add, Nat.reduceAdd, beq_self_eq_true, Bool.and_true, Bool.true_and, if_true, Bool.false_eq_true, if_false, List.set_cons_zero, List.set_cons_succ, Bool.not_true, Bool.not_false, Bool.and_self]
  generalize hL : decide (((l.length : Nat) : Int) = IntKind.i64.wrap (d * b)) = bL
  have hL2 : (((l.length : Nat) : Int) = IntKind.i64.wrap (d * b)) = (bL = true) := by rw [← hL, decide_eq_true_eq]
  simp only [hL2, Bool.decide_eq_true]
  cases okGeo d b p <;> cases bL <;> cases (decide (-1 ≤ fu) && decide (fu ≤ 1000000)) <;> cases (decide (0 ≤ ke) && decide (ke ≤ 91)) <;> cases decide (op < 0) <;> rfl



/-! A search by a condition. -/
theorem idx_loop {L : Int → Option AV} {n : Nat} {p : Nat → Bool} (step : ∀ i : Nat, i < n → L i = cond (p i) (some (.i .i64 (i : Int))) (L ((i : Int) + 1))) (last : L n = some (.i .i64 (-1))) : ∃ r, L 0 = some (.i .i64 r) ∧ decide (0 ≤ r) = !((List.range' 0 n).all fun i => !p i) := by
  have key : ∀ (k i : Nat), i + k = n → ∃ r, L i = some (.i .i64 r) ∧ decide (0 ≤ r) = !((List.range' i k).all fun j => !p j) := by
    intro k
    induction k with
    | zero =>
      intro i h
      obtain rfl : i = n := by omega
      exact ⟨-1, last, rfl⟩
    | succ k ih =>
      intro i h
      rw [step i (by omega), List.range'_succ, List.all_cons]
      cases hp : p i
      · obtain ⟨r, h1, h2⟩ := ih (i + 1) (by omega)
        exact ⟨r, h1, by rw [h2]; rfl⟩
      · exact ⟨(i : Int), rfl, by simp⟩
  exact key n 0 (by omega)

/-! A zone's parts. -/
abbrev iv (l : List AV) (i : Nat) : Int := ((l.getD i .x).cells.getD 0 .x).toI
abbrev zSt (z : AV) : Int := (z.cells.getD 0 .x).toI
abbrev zBl (z : AV) : List AV := (z.cells.getD 1 .x).toL
abbrev zWr (z : AV) : Int := (z.cells.getD 2 .x).toI
abbrev zSy (z : AV) : Int := (z.cells.getD 3 .x).toI
abbrev zRo (z : AV) : List AV := (z.cells.getD 4 .x).toL
abbrev zBu (z : AV) : List AV := (z.cells.getD 5 .x).toL

/-! A zone's blocks. -/
noncomputable def placesP (d b : Int) (bl : List AV) : Bool := decide (((bl.length : Nat) : Int) = d) && (List.range' 0 bl.length).all fun i => decide ((i : Int) * b ≤ iv bl i) && decide (iv bl i ≤ (i : Int) * b + b - 1)
theorem mul_bound {i : Nat} {b : Int} (hi : i < 3) (h0 : 0 ≤ b) (hb : b ≤ 12) : 0 ≤ (i : Int) * b ∧ (i : Int) * b ≤ 24 := by
  have : i = 0 ∨ i = 1 ∨ i = 2 := by omega
  rcases this with rfl | rfl | rfl <;> omega
theorem spec_places {z : AV} (h : T95 1048576 z) {d b : Int} (p : Int) (hd : d ≤ 3) (h4 : 4 ≤ b) (hb : b ≤ 12) : den E 63 [(.agg [(.i .i64 d), (.i .i64 b), (.i .i64 p)]), z] [] = some (.b (placesP d b (zBl z))) := by
  obtain ⟨a0, a1, a2, a3, a4, a5, rfl, _, w1, _⟩ := h
  rw [f63_eq]
  unfold placesP
  simp only [zBl, okC_nil, okC_agg, okC_i, okC_b, okC_s, okC_imm, okL_i, okL_b, okL_s, okL_sl, okS_i, okS_b, okS_s, okS_sl, okS_agg, okS_tup, okS_nil, okS_cons, cells_agg, cells_i, cells_b, cells_s, cells_imm, toI_i, toB_b, toS_s, toL_imm, nth_agg, nth_tup, put_agg, put_i, put_b, put_s, put_imm, setCells, List.getD_cons_zero, List.getD_cons_succ, bSh_b, bSh_i, bSh_s, bSh_sl, bSh_some, cond_true, cond_false, decide_true, decide_false, Int.toNat_natCast, Nat.zero_add, Nat.reduceAdd, beq_self_eq_true, Bool.and_true, Bool.true_and, if_true, Bool.false_eq_true, if_false, List.set_cons_zero, List.set_cons_succ, Bool.not_true, Bool.not_false, Bool.and_self]
  by_cases hl : ((a1.length : Nat) : Int) = d
  rotate_left
  · simp only [hl, decide_false, Bool.false_and]; rfl
  simp only [hl, okC_nil, okC_agg, okC_i, okC_b, okC_s, okC_imm, okL_i, okL_b, okL_s, okL_sl, okS_i, okS_b, okS_s, okS_sl, okS_agg, okS_tup, okS_nil, okS_cons, cells_agg, cells_i, cells_b, cells_s, cells_imm, toI_i, toB_b, toS_s, toL_imm, nth_agg, nth_tup, put_agg, put_i, put_b, put_s, put_imm, setCells, List.getD_cons_zero, List.getD_cons_succ, bSh_b, bSh_i, bSh_s, bSh_sl, bSh_some, cond_true, cond_false, decide_true, decide_false, Int.toNat_natCast, Nat.zero_add, Nat.reduceAdd, beq_self_eq_true, Bool.and_true, Bool.true_and, if_true, Bool.false_eq_true, if_false, List.set_cons_zero, List.set_cons_succ, Bool.not_true, Bool.not_false, Bool.and_self]
  have := all_loop (L := fun i => f63_l1 i d b p a0 a1 a2 a3 a4 a5) (n := a1.length) (p := fun i => decide ((i : Int) * b ≤ iv a1 i) && decide (iv a1 i ≤ (i : Int) * b + b - 1)) (X := some (.b true)) (F := some (.b false)) (fun i hi => ?_) ?_ a1.length 0 (by omega)
  · refine this.trans ?_
    rw [cond_andb, Bool.and_true]
  · obtain ⟨x, he, wx, _⟩ := w1.at hi
    have hm := mul_bound (i := i) (b := b) (by omega) (by omega) hb
    try dsimp only
    rw [f63_l1_eq, dT (show (i : Int) < d by omega), cond_true, if_pos (by omega), Int.toNat_natCast]
    unfold iv
    rw [he, if_pos (by rfl), in90, bSh_b, w64 (x := (i : Int) * b) (by omega) (by omega), w64 (x := (i : Int) + 1) (by omega) (by omega), Int.add_mul, Int.one_mul, w64 (x := (i : Int) * b + b) (by omega) (by omega), w64 (x := (i : Int) * b + b - 1) (by omega) (by omega)]
    simp only [okC_nil, okC_agg, okC_i, okC_b, okC_s, okC_imm, okL_i, okL_b, okL_s, okL_sl, okS_i, okS_b, okS_s, okS_sl, okS_agg, okS_tup, okS_nil, okS_cons, cells_agg, cells_i, cells_b, cells_s, cells_imm, toI_i, toB_b, toS_s, toL_imm, nth_agg, nth_tup, put_agg, put_i, put_b, put_s, put_imm, setCells, List.getD_cons_zero, List.getD_cons_succ, bSh_b, bSh_i, bSh_s, bSh_sl, bSh_some, cond_true, cond_false, decide_true, decide_false, Int.toNat_natCast, Nat.zero_add, Nat.reduceAdd, beq_self_eq_true, Bool.and_true, Bool.true_and, if_true, Bool.false_eq_true, if_false, List.set_cons_zero, List.set_cons_succ, Bool.not_true, Bool.not_false, Bool.and_self]
    cases (decide ((i : Int) * b ≤ x) && decide (x ≤ (i : Int) * b + b - 1)) <;> rfl
  · try dsimp only
    rw [f63_l1_eq, hl, dF (Int.lt_irrefl _), cond_false]
abbrev devV (d b p : Int) (l : List AV) (fu ke : Int) (of_ : Bool) (op : Int) (zs : List AV) : AV := .agg [(.i .i64 d), (.i .i64 b), (.i .i64 p), (.imm 4 l), (.i .i64 fu), (.i .i64 ke), (.b of_), (.i .i64 op), (.imm 6 zs)]
theorem impl_places {z : AV} (h : T95 1048576 z) {d b p fu ke op : Int} {l zs : List AV} {of_ : Bool} (hd : d ≤ 3) (h4 : 4 ≤ b) (hb : b ≤ 12) : den E 107 [(.ip (devV d b p l fu ke of_ op zs) 0), z] [] = some (.b (placesP d b (zBl z))) := by
  obtain ⟨a0, a1, a2, a3, a4, a5, rfl, _, w1, _⟩ := h
  rw [f107_eq]
  unfold placesP
  simp only [zBl, devV, okC_nil, okC_agg, okC_i, okC_b, okC_s, okC_imm, okL_i, okL_b, okL_s, okL_sl, okS_i, okS_b, okS_s, okS_sl, okS_agg, okS_tup, okS_nil, okS_cons, cells_agg, cells_i, cells_b, cells_s, cells_imm, toI_i, toB_b, toS_s, toL_imm, nth_agg, nth_tup, put_agg, put_i, put_b, put_s, put_imm, setCells, List.getD_cons_zero, List.getD_cons_succ, bSh_b, bSh_i, bSh_s, bSh_sl, bSh_some, cond_true, cond_false, decide_true, decide_false, Int.toNat_natCast, Nat.zero_add, Nat.reduceAdd, beq_self_eq_true, Bool.and_true, Bool.true_and, if_true, Bool.false_eq_true, if_false, List.set_cons_zero, List.set_cons_succ, Bool.not_true, Bool.not_false, Bool.and_self]
  by_cases hl : ((a1.length : Nat) : Int) = d
  rotate_left
  · simp only [hl, decide_false, Bool.false_and]; rfl
  simp only [hl, okC_nil, okC_agg, okC_i, okC_b, okC_s, okC_imm, okL_i, okL_b, okL_s, okL_sl, okS_i, okS_b, okS_s, okS_sl, okS_agg, okS_tup, okS_nil, okS_cons, cells_agg, cells_i, cells_b, cells_s, cells_imm, toI_i, toB_b, toS_s, toL_imm, nth_agg, nth_tup, put_agg, put_i, put_b, put_s, put_imm, setCells, List.getD_cons_zero, List.getD_cons_succ, bSh_b, bSh_i, bSh_s, bSh_sl, bSh_some, cond_true, cond_false, decide_true, decide_false, Int.toNat_natCast, Nat.zero_add, Nat.reduceAdd, beq_self_eq_true, Bool.and_true, Bool.true_and, if_true, Bool.false_eq_true, if_false, List.set_cons_zero, List.set_cons_succ, Bool.not_true, Bool.not_false, Bool.and_self]
  have := all_loop (L := fun i => f107_l1 (devV d b p l fu ke of_ op zs) a1 d i) (n := a1.length) (p := fun i => decide ((i : Int) * b ≤ iv a1 i) && decide (iv a1 i ≤ (i : Int) * b + b - 1)) (X := some (.b true)) (F := some (.b false)) (fun i hi => ?_) ?_ a1.length 0 (by omega)
  · refine this.trans ?_
    rw [cond_andb, Bool.and_true]
  · obtain ⟨x, he, wx, _⟩ := w1.at hi
    have hm := mul_bound (i := i) (b := b) (by omega) (by omega) hb
    try dsimp only
    rw [f107_l1_eq, dT (show (i : Int) < d by omega), cond_true, if_pos (by omega), Int.toNat_natCast]
    unfold iv
    rw [he, if_pos (by rfl), if_pos (by rfl), if_pos (by rfl)]
    simp only [devV, in72, okC_nil, okC_agg, okC_i, okC_b, okC_s, okC_imm, okL_i, okL_b, okL_s, okL_sl, okS_i, okS_b, okS_s, okS_sl, okS_agg, okS_tup, okS_nil, okS_cons, cells_agg, cells_i, cells_b, cells_s, cells_imm, toI_i, toB_b, toS_s, toL_imm, nth_agg, nth_tup, put_agg, put_i, put_b, put_s, put_imm, setCells, List.getD_cons_zero, List.getD_cons_succ, bSh_b, bSh_i, bSh_s, bSh_sl, bSh_some, cond_true, cond_false, decide_true, decide_false, Int.toNat_natCast, Nat.zero_add, Nat.reduceAdd, beq_self_eq_true, Bool.and_true, Bool.true_and, if_true, Bool.false_eq_true, if_false, List.set_cons_zero, List.set_cons_succ, Bool.not_true, Bool.not_false, Bool.and_self]
    rw [w64 (x := (i : Int) * b) (by omega) (by omega), w64 (x := (i : Int) + 1) (by omega) (by omega), w64 (x := (i : Int) * b + b) (by omega) (by omega), w64 (x := (i : Int) * b + b - 1) (by omega) (by omega)]
    cases (decide ((i : Int) * b ≤ x) && decide (x ≤ (i : Int) * b + b - 1)) <;> rfl
  · try dsimp only
    rw [f107_l1_eq, hl, dF (Int.lt_irrefl _), cond_false]

/-! A zone's rows and buffer. -/
noncomputable def sumTo (l : List AV) : Nat → Int
  | 0 => 0
  | i + 1 => IntKind.i64.wrap (sumTo l i + iv l i)
theorem spec_sum {l : List AV} (h : Rw (T2 1048576) 1048576 l) : den E 102 [(.imm 1 l)] [] = some (.i .i64 (sumTo l l.length)) := by
  have hl := h.1
  rw [f102_eq]
  have := loop_to (R := AV) (L := fun i => f102_l1 l (sumTo l i.toNat) i) (n := l.length) (X := some (.i .i64 (sumTo l l.length))) (fun i hi => ?_) ?_
  · exact this
  · obtain ⟨x, he, wx, _⟩ := h.at hi
    try dsimp only
    rw [f102_l1_eq, dT (show (i : Int) < ((l.length : Nat) : Int) by omega), cond_true, if_pos (by omega), Int.toNat_natCast, show ((i : Int) + 1).toNat = i + 1 by omega, w64 (x := (i : Int) + 1) (by omega) (by omega)]
    simp only [sumTo, iv, he, okC_nil, okC_agg, okC_i, okC_b, okC_s, okC_imm, okL_i, okL_b, okL_s, okL_sl, okS_i, okS_b, okS_s, okS_sl, okS_agg, okS_tup, okS_nil, okS_cons, cells_agg, cells_i, cells_b, cells_s, cells_imm, toI_i, toB_b, toS_s, toL_imm, nth_agg, nth_tup, put_agg, put_i, put_b, put_s, put_imm, setCells, List.getD_cons_zero, List.getD_cons_succ, bSh_b, bSh_i, bSh_s, bSh_sl, bSh_some, cond_true, cond_false, decide_true, decide_false, Int.toNat_natCast, Nat.zero_add, Nat.reduceAdd, beq_self_eq_true, Bool.and_true, Bool.true_and, if_true, Bool.false_eq_true, if_false, List.set_cons_zero, List.set_cons_succ, Bool.not_true, Bool.not_false, Bool.and_self]
  · try dsimp only
    rw [f102_l1_eq, dF (Int.lt_irrefl _), cond_false, Int.toNat_natCast]
theorem impl_sum {l : List AV} (h : Rw (T2 1048576) 1048576 l) : den E 124 [(.imm 1 l)] [] = some (.i .i64 (sumTo l l.length)) := by
  have hl := h.1
  rw [f124_eq]
  have := loop_to (R := AV) (L := fun i => f124_l1 (sumTo l i.toNat) l ((l.length : Nat) : Int) i) (n := l.length) (X := some (.i .i64 (sumTo l l.length))) (fun i hi => ?_) ?_
  · exact this
  · obtain ⟨x, he, wx, _⟩ := h.at hi
    try dsimp only
    rw [f124_l1_eq, dT (show (i : Int) < ((l.length : Nat) : Int) by omega), cond_true, if_pos (by omega), Int.toNat_natCast, show ((i : Int) + 1).toNat = i + 1 by omega, w64 (x := (i : Int) + 1) (by omega) (by omega)]
    simp only [sumTo, iv, he, okC_nil, okC_agg, okC_i, okC_b, okC_s, okC_imm, okL_i, okL_b, okL_s, okL_sl, okS_i, okS_b, okS_s, okS_sl, okS_agg, okS_tup, okS_nil, okS_cons, cells_agg, cells_i, cells_b, cells_s, cells_imm, toI_i, toB_b, toS_s, toL_imm, nth_agg, nth_tup, put_agg, put_i, put_b, put_s, put_imm, setCells, List.getD_cons_zero, List.getD_cons_succ, bSh_b, bSh_i, bSh_s, bSh_sl, bSh_some, cond_true, cond_false, decide_true, decide_false, Int.toNat_natCast, Nat.zero_add, Nat.reduceAdd, beq_self_eq_true, Bool.and_true, Bool.true_and, if_true, Bool.false_eq_true, if_false, List.set_cons_zero, List.set_cons_succ, Bool.not_true, Bool.not_false, Bool.and_self]
  · try dsimp only
    rw [f124_l1_eq, dF (Int.lt_irrefl _), cond_false, Int.toNat_natCast]
noncomputable def allIn (l : List AV) (lo hi : Int) : Bool := (List.range' 0 l.length).all fun i => decide (lo ≤ iv l i) && decide (iv l i ≤ hi)
noncomputable def bufOk (l : List AV) : Bool := (List.range' 0 l.length).all fun i => !decide ((64 : Int) < (((sA l i).size : Nat) : Int))
noncomputable def contP (d p : Int) (z : AV) : Bool :=
  !decide (p < (((zRo z).length : Nat) : Int)) && (allIn (zRo z) 1 (d - 1) && (!decide (d - 1 ≤ (((zBu z).length : Nat) : Int)) && (bufOk (zBu z) && (decide (zSy z = sumTo (zRo z) (zRo z).length) && decide (zWr z = IntKind.i64.wrap (zSy z + (((zBu z).length : Nat) : Int)))))))
theorem impl_allWithin {l : List AV} (h : Rw (T2 1048576) 1048576 l) (lo hi : Int) : den E 123 [(.imm 1 l), (.i .i64 lo), (.i .i64 hi)] [] = some (.b (allIn l lo hi)) := by
  have hl := h.1
  rw [f123_eq, f132q1_eq, f139q1_eq]
  have key := idx_loop (L := fun i => f139q1_l1 l (.i .i64 lo) (.i .i64 hi) ((l.length : Nat) : Int) i) (n := l.length) (p := fun i => !(decide (lo ≤ iv l i) && decide (iv l i ≤ hi))) (fun i hi => ?_) ?_
  · obtain ⟨r, h1, h2⟩ := key
    rw [h1]
    show some (AV.b (!decide (0 ≤ r))) = _
    rw [h2, Bool.not_not]
    simp only [Bool.not_not]
    rfl
  · obtain ⟨x, he, wx, _⟩ := h.at hi
    try dsimp only
    rw [f139q1_l1_eq, dT (show (i : Int) < ((l.length : Nat) : Int) by omega), cond_true, if_pos (by omega), Int.toNat_natCast, w64 (x := (i : Int) + 1) (by omega) (by omega)]
    unfold iv
    rw [he, if_pos (by rfl)]
    simp only [f133q1_eq, in72, okC_nil, okC_agg, okC_i, okC_b, okC_s, okC_imm, okL_i, okL_b, okL_s, okL_sl, okS_i, okS_b, okS_s, okS_sl, okS_agg, okS_tup, okS_nil, okS_cons, cells_agg, cells_i, cells_b, cells_s, cells_imm, toI_i, toB_b, toS_s, toL_imm, nth_agg, nth_tup, put_agg, put_i, put_b, put_s, put_imm, setCells, List.getD_cons_zero, List.getD_cons_succ, bSh_b, bSh_i, bSh_s, bSh_sl, bSh_some, cond_true, cond_false, decide_true, decide_false, Int.toNat_natCast, Nat.zero_add, Nat.reduceAdd, beq_self_eq_true, Bool.and_true, Bool.true_and, if_true, Bool.false_eq_true, if_false, List.set_cons_zero, List.set_cons_succ, Bool.not_true, Bool.not_false, Bool.and_self]
  · try dsimp only
    rw [f139q1_l1_eq, dF (Int.lt_irrefl _), cond_false]
theorem impl_buf {l : List AV} (h : Rw (T9 1048576) 1048576 l) : den E 125 [(.imm 1 l), (.fn 126 [])] [] = some (.b (!bufOk l)) := by
  have hl := h.1
  rw [f125q1_eq, f134q1_eq]
  have key := idx_loop (L := fun i => f134q1_l1 l ((l.length : Nat) : Int) i) (n := l.length) (p := fun i => decide ((64 : Int) < (((sA l i).size : Nat) : Int))) (fun i hi => ?_) ?_
  · obtain ⟨r, h1, h2⟩ := key
    rw [h1]
    show some (AV.b (decide (0 ≤ r))) = _
    rw [h2]
    rfl
  · obtain ⟨x, he, wx, _⟩ := h.at hi
    try dsimp only
    rw [f134q1_l1_eq, dT (show (i : Int) < ((l.length : Nat) : Int) by omega), cond_true, if_pos (by omega), Int.toNat_natCast, w64 (x := (i : Int) + 1) (by omega) (by omega)]
    unfold sA
    rw [he, if_pos (by rfl)]
    simp only [f126_eq, okC_nil, okC_agg, okC_i, okC_b, okC_s, okC_imm, okL_i, okL_b, okL_s, okL_sl, okS_i, okS_b, okS_s, okS_sl, okS_agg, okS_tup, okS_nil, okS_cons, cells_agg, cells_i, cells_b, cells_s, cells_imm, toI_i, toB_b, toS_s, toL_imm, nth_agg, nth_tup, put_agg, put_i, put_b, put_s, put_imm, setCells, List.getD_cons_zero, List.getD_cons_succ, bSh_b, bSh_i, bSh_s, bSh_sl, bSh_some, cond_true, cond_false, decide_true, decide_false, Int.toNat_natCast, Nat.zero_add, Nat.reduceAdd, beq_self_eq_true, Bool.and_true, Bool.true_and, if_true, Bool.false_eq_true, if_false, List.set_cons_zero, List.set_cons_succ, Bool.not_true, Bool.not_false, Bool.and_self]
  · try dsimp only
    rw [f134q1_l1_eq, dF (Int.lt_irrefl _), cond_false]
theorem spec_cont {z : AV} (h : T95 1048576 z) {d p : Int} (b : Int) (h2 : 2 ≤ d) (hd : d ≤ 3) : den E 64 [(.agg [(.i .i64 d), (.i .i64 b), (.i .i64 p)]), z] [] = some (.b (contP d p z)) := by
  obtain ⟨a0, a1, a2, a3, a4, a5, rfl, _, w1, _, _, w4, w5, _⟩ := h
  have hl4 := w4.1
  have hl5 := w5.1
  rw [f64_eq, w64 (x := d - 1) (by omega) (by omega)]
  unfold contP
  simp only [zRo, zBu, zSy, zWr, okC_nil, okC_agg, okC_i, okC_b, okC_s, okC_imm, okL_i, okL_b, okL_s, okL_sl, okS_i, okS_b, okS_s, okS_sl, okS_agg, okS_tup, okS_nil, okS_cons, cells_agg, cells_i, cells_b, cells_s, cells_imm, toI_i, toB_b, toS_s, toL_imm, nth_agg, nth_tup, put_agg, put_i, put_b, put_s, put_imm, setCells, List.getD_cons_zero, List.getD_cons_succ, bSh_b, bSh_i, bSh_s, bSh_sl, bSh_some, cond_true, cond_false, decide_true, decide_false, Int.toNat_natCast, Nat.zero_add, Nat.reduceAdd, beq_self_eq_true, Bool.and_true, Bool.true_and, if_true, Bool.false_eq_true, if_false, List.set_cons_zero, List.set_cons_succ, Bool.not_true, Bool.not_false, Bool.and_self]
  have k2 := all_loop (L := fun i => f64_l2 i d b p a0 a1 a2 a3 a4 a5) (n := a5.length) (p := fun i => !decide ((64 : Int) < (((sA a5 i).size : Nat) : Int))) (X := some (.b (decide (a3 = sumTo a4 a4.length) && decide (a2 = IntKind.i64.wrap (a3 + ((a5.length : Nat) : Int)))))) (F := some (.b false)) (fun i hi => ?_) ?_ a5.length 0 (by omega)
  have k1 := all_loop (L := fun i => f64_l1 i d b p a0 a1 a2 a3 a4 a5) (n := a4.length) (p := fun i => decide (1 ≤ iv a4 i) && decide (iv a4 i ≤ d - 1)) (X := some (.b (bufOk a5 && (decide (a3 = sumTo a4 a4.length) && decide (a2 = IntKind.i64.wrap (a3 + ((a5.length : Nat) : Int))))))) (F := some (.b false)) (fun i hi => ?_) ?_ a4.length 0 (by omega)
  · rw [show f64_l1 0 d b p a0 a1 a2 a3 a4 a5 = _ from k1, cond_andb]
    rw [show ((List.range' 0 a4.length).all fun i => decide (1 ≤ iv a4 i) && decide (iv a4 i ≤ d - 1)) = allIn a4 1 (d - 1) from rfl]
    cases decide (p < ((a4.length : Nat) : Int)) <;> cases decide (d - 1 ≤ ((a5.length : Nat) : Int)) <;> cases allIn a4 1 (d - 1) <;> rfl
  · obtain ⟨x, he, wx, _⟩ := w4.at hi
    try dsimp only
    rw [f64_l1_eq, dT (show (i : Int) < ((a4.length : Nat) : Int) by omega), cond_true, if_pos (by omega), Int.toNat_natCast, w64 (x := (i : Int) + 1) (by omega) (by omega), w64 (x := d - 1) (by omega) (by omega)]
    unfold iv
    rw [he, if_pos (by rfl), in90]
    simp only [okC_nil, okC_agg, okC_i, okC_b, okC_s, okC_imm, okL_i, okL_b, okL_s, okL_sl, okS_i, okS_b, okS_s, okS_sl, okS_agg, okS_tup, okS_nil, okS_cons, cells_agg, cells_i, cells_b, cells_s, cells_imm, toI_i, toB_b, toS_s, toL_imm, nth_agg, nth_tup, put_agg, put_i, put_b, put_s, put_imm, setCells, List.getD_cons_zero, List.getD_cons_succ, bSh_b, bSh_i, bSh_s, bSh_sl, bSh_some, cond_true, cond_false, decide_true, decide_false, Int.toNat_natCast, Nat.zero_add, Nat.reduceAdd, beq_self_eq_true, Bool.and_true, Bool.true_and, if_true, Bool.false_eq_true, if_false, List.set_cons_zero, List.set_cons_succ, Bool.not_true, Bool.not_false, Bool.and_self]
    cases (decide (1 ≤ x) && decide (x ≤ d - 1)) <;> rfl
  · try dsimp only
    rw [f64_l1_eq, dF (Int.lt_irrefl _), cond_false]
    refine (show f64_l2 0 d b p a0 a1 a2 a3 a4 a5 = _ from k2).trans ?_
    rw [cond_andb]; rfl
  · obtain ⟨x, he, wx, _⟩ := w5.at hi
    try dsimp only
    rw [f64_l2_eq, dT (show (i : Int) < ((a5.length : Nat) : Int) by omega), cond_true, if_pos (by omega), Int.toNat_natCast, w64 (x := (i : Int) + 1) (by omega) (by omega)]
    unfold sA
    rw [he, if_pos (by rfl)]
    simp only [okC_nil, okC_agg, okC_i, okC_b, okC_s, okC_imm, okL_i, okL_b, okL_s, okL_sl, okS_i, okS_b, okS_s, okS_sl, okS_agg, okS_tup, okS_nil, okS_cons, cells_agg, cells_i, cells_b, cells_s, cells_imm, toI_i, toB_b, toS_s, toL_imm, nth_agg, nth_tup, put_agg, put_i, put_b, put_s, put_imm, setCells, List.getD_cons_zero, List.getD_cons_succ, bSh_b, bSh_i, bSh_s, bSh_sl, bSh_some, cond_true, cond_false, decide_true, decide_false, Int.toNat_natCast, Nat.zero_add, Nat.reduceAdd, beq_self_eq_true, Bool.and_true, Bool.true_and, if_true, Bool.false_eq_true, if_false, List.set_cons_zero, List.set_cons_succ, Bool.not_true, Bool.not_false, Bool.and_self]
    cases decide ((64 : Int) < ((x.size : Nat) : Int)) <;> rfl
  · try dsimp only
    rw [f64_l2_eq, dF (Int.lt_irrefl _), cond_false, spec_sum w4, bSh_i]
    show cond (decide (a3 = sumTo a4 a4.length) == true) (some (AV.b (decide (a2 = IntKind.i64.wrap (a3 + ((a5.length : Nat) : Int)))))) (some (AV.b false)) = _
    cases decide (a3 = sumTo a4 a4.length) <;> rfl
theorem impl_cont {z : AV} (h : T95 1048576 z) {d p b fu ke op : Int} {l zs : List AV} {of_ : Bool} (h2 : 2 ≤ d) (hd : d ≤ 3) : den E 108 [(.ip (devV d b p l fu ke of_ op zs) 0), z] [] = some (.b (contP d p z)) := by
  obtain ⟨a0, a1, a2, a3, a4, a5, rfl, _, w1, _, _, w4, w5, _⟩ := h
  have hu : den E 116 [(.ip (devV d b p l fu ke of_ op zs) 0)] [] = some (.i .i64 (d - 1)) := by
    rw [f116_eq, if_pos (by rfl)]
    show some (AV.i .i64 (IntKind.i64.wrap (d - 1))) = _
    rw [w64 (x := d - 1) (by omega) (by omega)]
  rw [f108_eq, if_pos (by rfl), hu]
  unfold contP
  show cond (decide (p < ((a4.length : Nat) : Int)) == false) (bSh .b (den E 123 [(.imm 1 a4), (.i .i64 1), (.i .i64 (d - 1))] []) fun x2 => cond ((!x2.toB) == false) (cond (decide (d - 1 ≤ ((a5.length : Nat) : Int))) (some (AV.b false))
    (bSh (.i .i64) (den E 124 [(.imm 1 a4)] []) fun x4 => cond ((decide (a3 = x4.toI)) == true) (cond ((decide (a2 = IntKind.i64.wrap (a3 + ((a5.length : Nat) : Int)))) == true) (bSh .b (den E 125 [(.imm 1 a5), (.fn 126 [])] []) fun x5 => some (AV.b (!x5.toB))) (some (AV.b false))) (some (AV.b false)))) (some (AV.b false))) (some (AV.b false)) = _
  rw [impl_allWithin w4, bSh_b, impl_sum w4, bSh_i, impl_buf w5, bSh_b]
  show cond (decide (p < ((a4.length : Nat) : Int)) == false) (cond ((!allIn a4 1 (d - 1)) == false) (cond (decide (d - 1 ≤ ((a5.length : Nat) : Int))) (some (AV.b false))
    (cond ((decide (a3 = sumTo a4 a4.length)) == true) (cond ((decide (a2 = IntKind.i64.wrap (a3 + ((a5.length : Nat) : Int)))) == true) (some (AV.b (!(!bufOk a5)))) (some (AV.b false))) (some (AV.b false)))) (some (AV.b false))) (some (AV.b false)) =
    some (AV.b (!decide (p < ((a4.length : Nat) : Int)) && (allIn a4 1 (d - 1) && (!decide (d - 1 ≤ ((a5.length : Nat) : Int)) && (bufOk a5 && (decide (a3 = sumTo a4 a4.length) && decide (a2 = IntKind.i64.wrap (a3 + ((a5.length : Nat) : Int)))))))))
  cases decide (p < ((a4.length : Nat) : Int)) <;> cases decide (d - 1 ≤ ((a5.length : Nat) : Int)) <;> cases allIn a4 1 (d - 1) <;> cases bufOk a5 <;> cases decide (a3 = sumTo a4 a4.length) <;> cases decide (a2 = IntKind.i64.wrap (a3 + ((a5.length : Nat) : Int))) <;> rfl

/-! A zone's state. -/
abbrev nx (l : List AV) (j : Nat) : Int := ((l.getD j .x).cells.getD 1 .x).toI
noncomputable def readyP (l bl : List AV) (n : Int) : Bool := (List.range' 0 bl.length).all fun i => decide (nx l (iv bl i).toNat = n)
noncomputable def stateS (p : Int) (l : List AV) (z : AV) : Bool :=
  cond (decide (zSt z = 3)) (decide ((((zBu z).length : Nat) : Int) = 0)) (cond (decide (zSt z = 4)) (decide ((((zRo z).length : Nat) : Int) = 0) && decide ((((zBu z).length : Nat) : Int) = 0))
    (cond (decide (zSt z = 1)) (!decide (0 < (((zRo z).length : Nat) : Int)) && (!decide (0 < (((zBu z).length : Nat) : Int)) && readyP l (zBl z) (((zRo z).length : Nat) : Int)))
      (cond (decide (zSt z = 2)) (!(decide ((((zRo z).length : Nat) : Int) = 0) && decide ((((zBu z).length : Nat) : Int) = 0)) && (!decide (p ≤ (((zRo z).length : Nat) : Int)) && readyP l (zBl z) (((zRo z).length : Nat) : Int))) false)))
noncomputable def stateI (p : Int) (l : List AV) (z : AV) : Bool :=
  cond (decide (zSt z = 1)) (decide (zWr z = 0) && readyP l (zBl z) (((zRo z).length : Nat) : Int)) (cond (decide (zSt z = 2)) (decide (0 < zWr z) && (decide ((((zRo z).length : Nat) : Int) < p) && readyP l (zBl z) (((zRo z).length : Nat) : Int)))
    (cond (decide (zSt z = 3)) (decide ((((zBu z).length : Nat) : Int) = 0)) (cond (decide (zSt z = 4)) (decide (zWr z = 0)) false)))
theorem spec_state {z : AV} (h : T95 1048576 z) {d b p fu ke op : Int} {l : List AV} {of_ : Bool} (hL : Rw (T135 1048576) 1048576 l) (hb : ∀ i, i < (zBl z).length → 0 ≤ iv (zBl z) i ∧ iv (zBl z) i < ((l.length : Nat) : Int)) :
    den E 65 [(.agg [(.i .i64 d), (.i .i64 b), (.i .i64 p), (.imm 4 l), (.i .i64 fu), (.i .i64 ke), (.b of_), (.i .i64 op)]), z] [] = some (.b (stateS p l z)) := by
  obtain ⟨a0, a1, a2, a3, a4, a5, rfl, _, w1, _, _, w4, w5, _⟩ := h
  have hl1 := w1.1
  have hj : f65_j1 ((a4.length : Nat) : Int) d b p l fu ke of_ op a0 a1 a2 a3 a4 a5 = some (.b (readyP l a1 ((a4.length : Nat) : Int))) := by
    rw [f65_j1_eq]
    have := all_loop (L := fun i => f65_l2 ((a4.length : Nat) : Int) i d b p l fu ke of_ op a0 a1 a2 a3 a4 a5) (n := a1.length) (p := fun i => decide (nx l (iv a1 i).toNat = ((a4.length : Nat) : Int))) (X := some (.b true)) (F := some (.b false)) (fun i hi => ?_) ?_ a1.length 0 (by omega)
    · refine (show f65_l2 ((a4.length : Nat) : Int) 0 d b p l fu ke of_ op a0 a1 a2 a3 a4 a5 = _ from this).trans ?_
      rw [cond_andb, Bool.and_true]; rfl
    · have hbi := hb i hi
      obtain ⟨x, he, wx, _⟩ := w1.at hi
      have hx : iv a1 i = x := by unfold iv; rw [he]; rfl
      have hbi : 0 ≤ x ∧ x < ((l.length : Nat) : Int) := by rw [← hx]; exact hbi
      have hB := hL.at (show x.toNat < l.length by omega)
      try dsimp only
      rw [f65_l2_eq, dT (show (i : Int) < ((a1.length : Nat) : Int) by omega), cond_true, if_pos (by omega), Int.toNat_natCast, w64 (x := (i : Int) + 1) (by omega) (by omega), he, if_pos (by rfl)]
      show (if 0 ≤ x ∧ x < ((l.length : Nat) : Int) then if okCells false (l.getD x.toNat .x) 1 [(.i .i64)] = true then cond (!decide (nx l x.toNat = ((a4.length : Nat) : Int))) (some (.b false)) (f65_l2 ((a4.length : Nat) : Int) ((i : Int) + 1) d b p l fu ke of_ op a0 a1 a2 a3 a4 a5) else none else none) = _
      rw [if_pos hbi, hB.ok1, if_pos rfl, hx]
      cases decide (nx l x.toNat = ((a4.length : Nat) : Int)) <;> rfl
    · try dsimp only
      rw [f65_l2_eq, dF (Int.lt_irrefl _), cond_false]
  rw [f65_eq, hj]
  unfold stateS
  simp only [zSt, zBl, zRo, zBu, okC_nil, okC_agg, okC_i, okC_b, okC_s, okC_imm, okL_i, okL_b, okL_s, okL_sl, okS_i, okS_b, okS_s, okS_sl, okS_agg, okS_tup, okS_nil, okS_cons, cells_agg, cells_i, cells_b, cells_s, cells_imm, toI_i, toB_b, toS_s, toL_imm, nth_agg, nth_tup, put_agg, put_i, put_b, put_s, put_imm, setCells, List.getD_cons_zero, List.getD_cons_succ, bSh_b, bSh_i, bSh_s, bSh_sl, bSh_some, cond_true, cond_false, decide_true, decide_false, Int.toNat_natCast, Nat.zero_add, Nat.reduceAdd, beq_self_eq_true, Bool.and_true, Bool.true_and, if_true, Bool.false_eq_true, if_false, List.set_cons_zero, List.set_cons_succ, Bool.not_true, Bool.not_false, Bool.and_self]
  cases decide (a0 = 3) <;> cases decide (a0 = 4) <;> cases decide (a0 = 1) <;> cases decide (a0 = 2) <;> cases decide (((a4.length : Nat) : Int) = 0) <;> cases decide (((a5.length : Nat) : Int) = 0) <;> cases decide (0 < ((a4.length : Nat) : Int)) <;> cases decide (0 < ((a5.length : Nat) : Int)) <;> cases decide (p ≤ ((a4.length : Nat) : Int)) <;> rfl
theorem impl_ready {z : AV} (h : T95 1048576 z) {d b p fu ke op : Int} {l zs : List AV} {of_ : Bool} (hL : Rw (T135 1048576) 1048576 l) (hb : ∀ i, i < (zBl z).length → 0 ≤ iv (zBl z) i ∧ iv (zBl z) i < ((l.length : Nat) : Int)) :
    den E 127 [(.ip (devV d b p l fu ke of_ op zs) 0), z] [] = some (.b (readyP l (zBl z) (((zRo z).length : Nat) : Int))) := by
  obtain ⟨a0, a1, a2, a3, a4, a5, rfl, _, w1, _, _, w4, w5, _⟩ := h
  have hl1 := w1.1
  rw [f127_eq, f132q2_eq, f139q2_eq]
  have key := idx_loop (L := fun i => f139q2_l1 a1 (devV d b p l fu ke of_ op zs) (.agg [(.i .i64 a0), (.imm 1 a1), (.i .i64 a2), (.i .i64 a3), (.imm 1 a4), (.imm 1 a5)]) ((a1.length : Nat) : Int) i) (n := a1.length) (p := fun i => !decide (nx l (iv a1 i).toNat = ((a4.length : Nat) : Int))) (fun i hi => ?_) ?_
  · obtain ⟨r, h1, h2⟩ := key
    rw [h1]
    show some (AV.b (!decide (0 ≤ r))) = _
    rw [h2, Bool.not_not]
    simp only [Bool.not_not]
    rfl
  · have hbi := hb i hi
    obtain ⟨x, he, wx, _⟩ := w1.at hi
    have hx : iv a1 i = x := by unfold iv; rw [he]; rfl
    have hbi : 0 ≤ x ∧ x < ((l.length : Nat) : Int) := by rw [← hx]; exact hbi
    have hB := hL.at (show x.toNat < l.length by omega)
    try dsimp only
    rw [f139q2_l1_eq, dT (show (i : Int) < ((a1.length : Nat) : Int) by omega), cond_true, if_pos (by omega), Int.toNat_natCast, w64 (x := (i : Int) + 1) (by omega) (by omega), he, if_pos (by rfl), hx]
    have hc : den E 135 [(.i .i64 x), (.ip (.ip (devV d b p l fu ke of_ op zs) 0) 0), (.ip (.agg [(.i .i64 a0), (.imm 1 a1), (.i .i64 a2), (.i .i64 a3), (.imm 1 a4), (.imm 1 a5)]) 0)] [] = some (.b (!decide (nx l x.toNat = ((a4.length : Nat) : Int)))) := by
      rw [f135q1_eq, if_pos (by rfl)]
      refine (if_pos hbi).trans ?_
      refine (if_pos hB.ok1).trans ?_
      refine (if_pos (by rfl)).trans ?_
      rfl
    show bSh .b (den E 135 [(.i .i64 x), (.ip (.ip (devV d b p l fu ke of_ op zs) 0) 0), (.ip (.agg [(.i .i64 a0), (.imm 1 a1), (.i .i64 a2), (.i .i64 a3), (.imm 1 a4), (.imm 1 a5)]) 0)] []) _ = _
    rw [hc, bSh_b]
    rfl
  · try dsimp only
    rw [f139q2_l1_eq, dF (Int.lt_irrefl _), cond_false]
theorem impl_state {z : AV} (h : T95 1048576 z) {d b p fu ke op : Int} {l zs : List AV} {of_ : Bool} (hL : Rw (T135 1048576) 1048576 l) (hb : ∀ i, i < (zBl z).length → 0 ≤ iv (zBl z) i ∧ iv (zBl z) i < ((l.length : Nat) : Int)) :
    den E 109 [(.ip (devV d b p l fu ke of_ op zs) 0), z] [] = some (.b (stateI p l z)) := by
  have hr := impl_ready (d := d) (b := b) (p := p) (fu := fu) (ke := ke) (op := op) (zs := zs) (of_ := of_) h hL hb
  obtain ⟨a0, a1, a2, a3, a4, a5, rfl, _, w1, _, _, w4, w5, _⟩ := h
  rw [f109_eq, hr]
  unfold stateI
  simp only [zSt, zWr, zBl, zRo, zBu, devV, okC_nil, okC_agg, okC_i, okC_b, okC_s, okC_imm, okL_i, okL_b, okL_s, okL_sl, okS_i, okS_b, okS_s, okS_sl, okS_agg, okS_tup, okS_nil, okS_cons, cells_agg, cells_i, cells_b, cells_s, cells_imm, toI_i, toB_b, toS_s, toL_imm, nth_agg, nth_tup, put_agg, put_i, put_b, put_s, put_imm, setCells, List.getD_cons_zero, List.getD_cons_succ, bSh_b, bSh_i, bSh_s, bSh_sl, bSh_some, cond_true, cond_false, decide_true, decide_false, Int.toNat_natCast, Nat.zero_add, Nat.reduceAdd, beq_self_eq_true, Bool.and_true, Bool.true_and, if_true, Bool.false_eq_true, if_false, List.set_cons_zero, List.set_cons_succ, Bool.not_true, Bool.not_false, Bool.and_self]
  cases decide (a0 = 1) <;> cases decide (a0 = 2) <;> cases decide (a0 = 3) <;> cases decide (a0 = 4) <;> cases decide (a2 = 0) <;> cases decide (0 < a2) <;> cases decide (((a4.length : Nat) : Int) < p) <;> rfl
theorem sum_bounds {l : List AV} : ∀ {n : Nat}, (∀ i, i < n → 1 ≤ iv l i ∧ iv l i ≤ 2) → n ≤ 16 → (n : Int) ≤ sumTo l n ∧ sumTo l n ≤ 2 * n
  | 0, _, _ => by simp [sumTo]
  | n + 1, h, hn => by
    obtain ⟨h1, h2⟩ := sum_bounds (l := l) (n := n) (fun i hi => h i (by omega)) (by omega)
    obtain ⟨h3, h4⟩ := h n (by omega)
    simp only [sumTo]
    rw [w64 (by omega) (by omega)]
    omega
theorem state_eq {d p : Int} {z : AV} (l : List AV) (hd : d ≤ 3) (hp : p ≤ 16) (hc : contP d p z = true) : stateS p l z = stateI p l z := by
  unfold contP at hc
  simp only [Bool.and_eq_true, Bool.not_eq_true', decide_eq_false_iff_not, decide_eq_true_eq] at hc
  obtain ⟨h1, h2, h3, _, h5, h6⟩ := hc
  have hs := sum_bounds (l := zRo z) (n := (zRo z).length) (fun i hi => by
    have := List.all_eq_true.1 h2 i (by simp [List.mem_range'_1, hi])
    simp only [Bool.and_eq_true, decide_eq_true_eq] at this
    omega) (by omega)
  rw [w64 (by omega) (by omega)] at h6
  unfold stateS stateI
  generalize (zRo z).length = nr at *
  generalize (zBu z).length = nb at *
  have e1 : decide (zWr z = 0) = (decide (((nr : Nat) : Int) = 0) && decide (((nb : Nat) : Int) = 0)) := by
    rw [Bool.eq_iff_iff, Bool.and_eq_true, decide_eq_true_eq, decide_eq_true_eq, decide_eq_true_eq]; omega
  have e2 : decide (0 < zWr z) = !(decide (((nr : Nat) : Int) = 0) && decide (((nb : Nat) : Int) = 0)) := by
    rw [← e1, Bool.eq_iff_iff, Bool.not_eq_true', decide_eq_true_eq, decide_eq_false_iff_not]; omega
  have e3 : decide (((nr : Nat) : Int) < p) = !decide (p ≤ ((nr : Nat) : Int)) := by
    rw [Bool.eq_iff_iff, Bool.not_eq_true', decide_eq_true_eq, decide_eq_false_iff_not]; omega
  have e4 : (!decide (0 < ((nr : Nat) : Int))) = decide (((nr : Nat) : Int) = 0) := by
    rw [Bool.eq_iff_iff, Bool.not_eq_true', decide_eq_true_eq, decide_eq_false_iff_not]; omega
  have e5 : (!decide (0 < ((nb : Nat) : Int))) = decide (((nb : Nat) : Int) = 0) := by
    rw [Bool.eq_iff_iff, Bool.not_eq_true', decide_eq_true_eq, decide_eq_false_iff_not]; omega
  rw [e1, e2, e3, e4, e5]
  by_cases g1 : zSt z = 1
  · simp [g1, Bool.and_assoc]
  by_cases g2 : zSt z = 2
  · simp [g2]
  by_cases g3 : zSt z = 3
  · simp [g3]
  by_cases g4 : zSt z = 4
  · simp [g4]
  simp [g1, g2, g3, g4]

/-! No block is in two zones. -/
noncomputable def insU : List AV → List AV → Option (List AV)
  | [], u => some u
  | y :: ys, u => cond (hasI u (y.cells.getD 0 .x).toI) none (insU ys (u ++ [.i .i64 (y.cells.getD 0 .x).toI]))
noncomputable def zonesU (ok : AV → Bool) : List AV → List AV → Bool
  | [], _ => true
  | z :: zs, us => ok z && (match insU (zBl z) us with | none => false | some u2 => zonesU ok zs u2)
theorem insU_len : ∀ {ys us u2 : List AV}, insU ys us = some u2 → u2.length = us.length + ys.length
  | [], us, u2, h => by simp only [insU, Option.some.injEq] at h; subst h; rfl
  | y :: ys, us, u2, h => by
    simp only [insU] at h
    cases hh : hasI us (y.cells.getD 0 .x).toI
    · rw [hh] at h
      have := insU_len (ys := ys) h
      rw [this]; simp; omega
    · rw [hh] at h; cases h
def UI (us : List AV) : Prop := ∀ y, y ∈ us → ∃ n, y = .i .i64 n
theorem UI.push {us : List AV} (h : UI us) (n : Int) : UI (us ++ [.i .i64 n]) := by
  intro y hy
  rcases List.mem_append.1 hy with g | g
  · exact h y g
  · exact ⟨n, List.mem_singleton.1 g⟩
theorem insU_UI : ∀ {ys us u2 : List AV}, UI us → insU ys us = some u2 → UI u2
  | [], us, u2, hu, h => by simp only [insU, Option.some.injEq] at h; subst h; exact hu
  | y :: ys, us, u2, hu, h => by
    simp only [insU] at h
    cases hh : hasI us (y.cells.getD 0 .x).toI
    · rw [hh] at h; exact insU_UI (hu.push _) h
    · rw [hh] at h; cases h
theorem all_range (l : List AV) (f : AV → Bool) : l.all f = (List.range' 0 l.length).all fun i => f (l.getD i .x) := by
  rw [Bool.eq_iff_iff, List.all_eq_true, List.all_eq_true]
  constructor
  · intro h i hi
    exact h _ (getD_mem (by simpa [List.mem_range'_1] using hi))
  · intro h y hy
    obtain ⟨i, hi⟩ := List.getElem?_of_mem hy
    have hlt : i < l.length := (List.getElem?_eq_some_iff.1 hi).1
    have := h i (by simp [List.mem_range'_1, hlt])
    simpa [List.getD_eq_getElem?_getD, hi] using this
theorem spec_has {us : List AV} (hu : UI us) (hl : us.length ≤ 1000) (n : Int) : den E 66 [(.imm 1 us), (.i .i64 n)] [] = some (.b (hasI us n)) := by
  rw [f66_eq]
  have := all_loop (L := fun i => f66_l1 us n i) (n := us.length) (p := fun i => !decide ((us.getD i .x).toI = n)) (X := some (.b false)) (F := some (.b true)) (fun i hi => ?_) ?_ us.length 0 (by omega)
  · refine this.trans ?_
    have e := all_range us fun a => !decide (a.toI = n)
    rw [← e]
    unfold hasI
    rw [← List.not_any_eq_all_not]
    cases us.any fun a => decide (a.toI = n) <;> rfl
  · obtain ⟨m, he⟩ := hu _ (getD_mem hi)
    try dsimp only
    rw [f66_l1_eq, dT (show (i : Int) < ((us.length : Nat) : Int) by omega), cond_true, if_pos (by omega), Int.toNat_natCast, w64 (x := (i : Int) + 1) (by omega) (by omega), he, if_pos (by rfl)]
    show cond (decide (m = n)) _ _ = cond (!decide (m = n)) _ _
    cases decide (m = n) <;> rfl
  · try dsimp only
    rw [f66_l1_eq, dF (Int.lt_irrefl _), cond_false]

/-! A zone is valid. -/
noncomputable def zoneOk (d b p : Int) (l : List AV) (z : AV) : Bool := placesP d b (zBl z) && (contP d p z && stateI p l z)
theorem places_len {d b : Int} {bl : List AV} (h : placesP d b bl = true) : ((bl.length : Nat) : Int) = d := by
  unfold placesP at h
  rw [Bool.and_eq_true, decide_eq_true_eq] at h
  exact h.1
theorem places_in {d b : Int} {bl : List AV} (hd : d = 2 ∨ d = 3) (h4 : 4 ≤ b) (h : placesP d b bl = true) : ∀ i, i < bl.length → 0 ≤ iv bl i ∧ iv bl i < d * b := by
  have hl := places_len h
  unfold placesP at h
  rw [Bool.and_eq_true, List.all_eq_true] at h
  intro i hi
  have := h.2 i (by simp [List.mem_range'_1, hi])
  rw [Bool.and_eq_true, decide_eq_true_eq, decide_eq_true_eq] at this
  have h3 : i = 0 ∨ i = 1 ∨ i = 2 := by omega
  rcases hd with rfl | rfl <;> rcases h3 with rfl | rfl | rfl <;> omega
section
variable {d b p fu ke op : Int} {l zs : List AV} {of_ : Bool}
theorem spec_ins (t : Int) {a0 a2 a3 : Int} {a1 a4 a5 : List AV} (w1 : Rw (T2 1048576) 1048576 a1) : ∀ (k j : Nat) (us : List AV), j + k = a1.length → us.length + k ≤ 1000 → UI us →
    f32_l2 t (j : Int) d b p l fu ke of_ op zs us a0 a1 a2 a3 a4 a5 = (match insU (a1.drop j) us with | none => some (.b false) | some u2 => f32_l1 (IntKind.i64.wrap (t + 1)) d b p l fu ke of_ op zs u2) := by
  have hl1 := w1.1
  intro k
  induction k with
  | zero =>
    intro j us h _ _
    obtain rfl : j = a1.length := by omega
    rw [f32_l2_eq, dF (Int.lt_irrefl _), cond_false, List.drop_length]
    rfl
  | succ k ih =>
    intro j us h hlen hu
    have hj : j < a1.length := by omega
    obtain ⟨x, he, wx, _⟩ := w1.at hj
    rw [f32_l2_eq, dT (show (j : Int) < ((a1.length : Nat) : Int) by omega), cond_true, if_pos (by omega), Int.toNat_natCast, w64 (x := (j : Int) + 1) (by omega) (by omega), drop_getD hj, he, if_pos (by rfl)]
    show bSh .b (den E 66 [(.imm 1 us), (.i .i64 x)] []) _ = _
    rw [spec_has hu (by omega), bSh_b]
    rw [show insU (.i .i64 x :: a1.drop (j + 1)) us = cond (hasI us x) none (insU (a1.drop (j + 1)) (us ++ [.i .i64 x])) from rfl]
    show cond (hasI us x) (some (AV.b false)) _ = _
    cases hasI us x
    · simp only [cond_false]
      rw [if_pos (by omega), if_pos (by rfl)]
      refine (if_pos (show (us.length + 1) * 8 ≤ room by simp only [room]; omega)).trans ?_
      exact ih (j + 1) _ (by omega) (by simp; omega) (hu.push _)
    · rfl
theorem spec_zones (hL : Rw (T135 1048576) 1048576 l) (hz : Rw (T95 1048576) 1048576 zs) (hd : d = 2 ∨ d = 3) (h4 : 4 ≤ b) (hb : b ≤ 12) (hp : p ≤ 16) (hll : ((l.length : Nat) : Int) = d * b) (hzl : zs.length ≤ 12) :
    ∀ (k i : Nat) (us : List AV), i + k = zs.length → us.length ≤ 3 * i → UI us → f32_l1 (i : Int) d b p l fu ke of_ op zs us = some (.b (zonesU (zoneOk d b p l) (zs.drop i) us)) := by
  intro k
  induction k with
  | zero =>
    intro i us h _ _
    obtain rfl : i = zs.length := by omega
    rw [f32_l1_eq, dF (Int.lt_irrefl _), cond_false, List.drop_length]
    rfl
  | succ k ih =>
    intro i us h hlen hu
    have hi : i < zs.length := by omega
    have hT := hz.at hi
    rw [f32_l1_eq, dT (show (i : Int) < ((zs.length : Nat) : Int) by omega), cond_true, if_pos (by omega), Int.toNat_natCast, hT.ok, if_pos rfl, hT.eta, spec_places hT p (by omega) h4 hb, bSh_b, spec_cont hT b (by omega) (by omega), bSh_b, drop_getD hi]
    simp only [zonesU, zoneOk, toB_b]
    cases hP : placesP d b (zBl (zs.getD i .x))
    · rfl
    have hin := places_in hd h4 hP
    have hbl := places_len hP
    rw [spec_state hT hL (fun j hj => by have := hin j hj; omega), bSh_b]
    cases hC : contP d p (zs.getD i .x)
    · rfl
    rw [state_eq l (by omega) hp hC]
    simp only [toB_b]
    cases stateI p l (zs.getD i .x)
    · rfl
    have w1 : Rw (T2 1048576) 1048576 (zBl (zs.getD i .x)) := by
      obtain ⟨a0, a1, a2, a3, a4, a5, he, _, w1, _⟩ := hT
      rw [he]; exact w1
    have := spec_ins (d := d) (b := b) (p := p) (fu := fu) (ke := ke) (op := op) (l := l) (zs := zs) (of_ := of_) (i : Int) (a0 := zSt (zs.getD i .x)) (a2 := zWr (zs.getD i .x)) (a3 := zSy (zs.getD i .x)) (a4 := zRo (zs.getD i .x)) (a5 := zBu (zs.getD i .x)) w1 (zBl (zs.getD i .x)).length 0 us (by omega) (by omega) hu
    refine (show f32_l2 (i : Int) 0 d b p l fu ke of_ op zs us _ _ _ _ _ _ = _ from this).trans ?_
    rw [List.drop_zero, w64 (x := (i : Int) + 1) (by omega) (by omega)]
    cases hI : insU (zBl (zs.getD i .x)) us with
    | none => rfl
    | some u2 =>
      have h2 := insU_len hI
      exact ih (i + 1) u2 (by omega) (by omega) (insU_UI hu hI)
theorem impl_ins (t : Int) {a1 : List AV} (w1 : Rw (T2 1048576) 1048576 a1) : ∀ (k j : Nat) (us : List AV), j + k = a1.length →
    f74_l2 zs ((zs.length : Nat) : Int) t a1 ((a1.length : Nat) : Int) (j : Int) d b p l fu ke of_ op zs us = (match insU (a1.drop j) us with | none => some (.b false) | some u2 => f74_l1 zs ((zs.length : Nat) : Int) (IntKind.i64.wrap (t + 1)) d b p l fu ke of_ op zs u2) := by
  have hl1 := w1.1
  intro k
  induction k with
  | zero =>
    intro j us h
    obtain rfl : j = a1.length := by omega
    rw [f74_l2_eq, dF (Int.lt_irrefl _), cond_false, List.drop_length]
    rfl
  | succ k ih =>
    intro j us h
    have hj : j < a1.length := by omega
    obtain ⟨x, he, wx, _⟩ := w1.at hj
    rw [f74_l2_eq, dT (show (j : Int) < ((a1.length : Nat) : Int) by omega), cond_true, if_pos (by omega), Int.toNat_natCast, w64 (x := (j : Int) + 1) (by omega) (by omega), drop_getD hj, he, if_pos (by rfl)]
    rw [show insU (.i .i64 x :: a1.drop (j + 1)) us = cond (hasI us x) none (insU (a1.drop (j + 1)) (us ++ [.i .i64 x])) from rfl]
    show cond (hasI us x) (some (AV.b false)) _ = _
    cases hasI us x
    · simp only [cond_false]
      exact ih (j + 1) _ (by omega)
    · rfl
theorem impl_zones (hL : Rw (T135 1048576) 1048576 l) (hz : Rw (T95 1048576) 1048576 zs) (hd : d = 2 ∨ d = 3) (h4 : 4 ≤ b) (hb : b ≤ 12) (hll : ((l.length : Nat) : Int) = d * b) :
    ∀ (k i : Nat) (us : List AV), i + k = zs.length → f74_l1 zs ((zs.length : Nat) : Int) (i : Int) d b p l fu ke of_ op zs us = some (.b (zonesU (zoneOk d b p l) (zs.drop i) us)) := by
  have hzl := hz.1
  intro k
  induction k with
  | zero =>
    intro i us h
    obtain rfl : i = zs.length := by omega
    rw [f74_l1_eq, dF (Int.lt_irrefl _), cond_false, List.drop_length]
    rfl
  | succ k ih =>
    intro i us h
    have hi : i < zs.length := by omega
    have hT := hz.at hi
    rw [f74_l1_eq, dT (show (i : Int) < ((zs.length : Nat) : Int) by omega), cond_true, if_pos (by omega), Int.toNat_natCast, hT.ok, if_pos rfl, hT.eta, impl_places hT (by omega) h4 hb, bSh_b, impl_cont hT (by omega) (by omega), bSh_b, drop_getD hi]
    simp only [zonesU, zoneOk, toB_b]
    cases hP : placesP d b (zBl (zs.getD i .x))
    · rfl
    have hin := places_in hd h4 hP
    rw [impl_state hT hL (fun j hj => by have := hin j hj; omega), bSh_b]
    cases contP d p (zs.getD i .x)
    · rfl
    simp only [toB_b]
    cases stateI p l (zs.getD i .x)
    · rfl
    have w1 : Rw (T2 1048576) 1048576 (zBl (zs.getD i .x)) := by
      obtain ⟨a0, a1, a2, a3, a4, a5, he, _, w1, _⟩ := hT
      rw [he]; exact w1
    have := impl_ins (d := d) (b := b) (p := p) (fu := fu) (ke := ke) (op := op) (l := l) (zs := zs) (of_ := of_) (i : Int) w1 (zBl (zs.getD i .x)).length 0 us (by omega)
    refine (show f74_l2 zs ((zs.length : Nat) : Int) (i : Int) _ _ 0 d b p l fu ke of_ op zs us = _ from this).trans ?_
    rw [List.drop_zero, w64 (x := (i : Int) + 1) (by omega) (by omega)]
    cases hI : insU (zBl (zs.getD i .x)) us with
    | none => rfl
    | some u2 => exact ih (i + 1) u2 (by omega)

/-! A device is valid. -/
noncomputable def okDev (d b p : Int) (l : List AV) (fu ke op : Int) (zs : List AV) : Bool := okFl d b p l fu ke op && (decide ((1 : Int) ≤ ((zs.length : Nat) : Int)) && (decide (((zs.length : Nat) : Int) ≤ b) && zonesU (zoneOk d b p l) zs []))
theorem okFl_geo {d b p : Int} {l : List AV} {fu ke op : Int} (h : okFl d b p l fu ke op = true) : (d = 2 ∨ d = 3) ∧ 4 ≤ b ∧ b ≤ 12 ∧ (p = 8 ∨ p = 16) ∧ ((l.length : Nat) : Int) = d * b := by
  simp only [okFl, okGeo, Bool.and_eq_true, Bool.or_eq_true, decide_eq_true_eq] at h
  obtain ⟨⟨⟨h1, h2⟩, ⟨h3, h4⟩, h5⟩, h6, _⟩ := h
  have hd : d = 2 ∨ d = 3 := by omega
  refine ⟨hd, h3, h4, h5, ?_⟩
  rw [h6]
  rcases hd with rfl | rfl <;> exact w64 (by omega) (by omega)
theorem spec_device (hL : Rw (T135 1048576) 1048576 l) (hz : Rw (T95 1048576) 1048576 zs) : den E 32 [devV d b p l fu ke of_ op zs] [] = some (.b (okDev d b p l fu ke op zs)) := by
  rw [f32_eq, spec_flash hL, bSh_b]
  unfold okDev
  cases hF : okFl d b p l fu ke op
  · rfl
  obtain ⟨hd, h4, hb, hp, hll⟩ := okFl_geo hF
  simp only [toB_b, Bool.not_true, beq_self_eq_true, cond_true, Bool.true_and]
  rw [f62_eq, dF (show ¬ (12 : Int) < b by omega), cond_false, bSh_i]
  have e1 : (decide (((zs.length : Nat) : Int) < 1) == false) = decide ((1 : Int) ≤ ((zs.length : Nat) : Int)) := by
    by_cases g : ((zs.length : Nat) : Int) < 1
    · have g2 : ¬ (1 : Int) ≤ ((zs.length : Nat) : Int) := by omega
      simp only [g, g2, decide_true, decide_false]; rfl
    · have g2 : (1 : Int) ≤ ((zs.length : Nat) : Int) := by omega
      simp only [g, g2, decide_true, decide_false]; rfl
  rw [e1]
  cases decide ((1 : Int) ≤ ((zs.length : Nat) : Int))
  · rfl
  by_cases g : ((zs.length : Nat) : Int) ≤ b
  · rw [dT g, dF (show ¬ (AV.i IntKind.i64 b).toI < ((zs.length : Nat) : Int) from fun h => by have : b < ((zs.length : Nat) : Int) := h; omega)]
    have := spec_zones (d := d) (b := b) (p := p) (fu := fu) (ke := ke) (op := op) (l := l) (zs := zs) (of_ := of_) hL hz hd h4 hb (by omega) hll (by omega) zs.length 0 [] (by omega) (by simp) (fun y hy => by simp at hy)
    exact this
  · rw [dF g, dT (show (AV.i IntKind.i64 b).toI < ((zs.length : Nat) : Int) from by show b < _; omega)]
    rfl
theorem impl_device (hL : Rw (T135 1048576) 1048576 l) (hz : Rw (T95 1048576) 1048576 zs) : den E 74 [devV d b p l fu ke of_ op zs] [] = some (.b (okDev d b p l fu ke op zs)) := by
  rw [f74_eq, impl_flash hL, bSh_b]
  unfold okDev
  cases hF : okFl d b p l fu ke op
  · rfl
  obtain ⟨hd, h4, hb, hp, hll⟩ := okFl_geo hF
  simp only [toB_b, Bool.not_true, beq_self_eq_true, cond_true, Bool.true_and]
  have em : (if b < 12 then b else (12 : Int)) = b := by split <;> omega
  rw [em, in72, bSh_b]
  have := impl_zones (d := d) (b := b) (p := p) (fu := fu) (ke := ke) (op := op) (l := l) (zs := zs) (of_ := of_) hL hz hd h4 hb hll zs.length 0 [] (by omega)
  rw [show f74_l1 zs ((zs.length : Nat) : Int) 0 d b p l fu ke of_ op zs [] = _ from this]
  simp only [toB_b, List.drop_zero]
  cases decide ((1 : Int) ≤ ((zs.length : Nat) : Int)) <;> cases decide (((zs.length : Nat) : Int) ≤ b) <;> rfl
end


theorem zonesU_ok {ok : AV → Bool} : ∀ {zs us : List AV}, zonesU ok zs us = true → ∀ z, z ∈ zs → ok z = true
  | [], _, _, z, hz => by simp at hz
  | y :: ys, us, h, z, hz => by
    simp only [zonesU, Bool.and_eq_true] at h
    obtain ⟨h1, h2⟩ := h
    rcases List.mem_cons.1 hz with rfl | g
    · exact h1
    · split at h2
      · cases h2
      · exact zonesU_ok h2 z g
theorem okDev_zone {d b p : Int} {l : List AV} {fu ke op : Int} {zs : List AV} (h : okDev d b p l fu ke op zs = true) {i : Nat} (hi : i < zs.length) :
    ((d = 2 ∨ d = 3) ∧ 4 ≤ b ∧ b ≤ 12 ∧ (p = 8 ∨ p = 16) ∧ ((l.length : Nat) : Int) = d * b) ∧ zoneOk d b p l (zs.getD i .x) = true ∧ ∀ j, j < (zBl (zs.getD i .x)).length → 0 ≤ iv (zBl (zs.getD i .x)) j ∧ iv (zBl (zs.getD i .x)) j < ((l.length : Nat) : Int) := by
  simp only [okDev, Bool.and_eq_true] at h
  obtain ⟨h1, _, _, h2⟩ := h
  have hg := okFl_geo h1
  have hz := zonesU_ok h2 _ (getD_mem hi)
  refine ⟨hg, hz, fun j hj => ?_⟩
  simp only [zoneOk, Bool.and_eq_true] at hz
  have := places_in hg.1 hg.2.1 hz.1 j hj
  rw [hg.2.2.2.2]
  exact this


theorem tab {B : Nat} {el : AV} (h : T98 B el) : ∃ b, den E 67 [(.ip el 0)] [] = some (.b b) ∧ den E 128 [el] [] = some (.b b) := by
  obtain ⟨a0, a1, a2, a3, a4, a5, a6, a7, a8, a9, rfl, _⟩ := h
  rw [f67_eq, f128_eq]
  simp only [in90, in72, okC_nil, okC_agg, okC_i, okC_b, okC_s, okC_imm, okL_i, okL_b, okL_s, okL_sl, okS_i, okS_b, okS_s, okS_sl, okS_agg, okS_tup, okS_nil, okS_cons, cells_agg, cells_i, cells_b, cells_s, cells_imm, toI_i, toB_b, toS_s, toL_imm, nth_agg, nth_tup, put_agg, put_i, put_b, put_s, put_imm, setCells, List.getD_cons_zero, List.getD_cons_succ, bSh_b, bSh_i, bSh_s, bSh_sl, bSh_some, cond_true, cond_false, decide_true, decide_false, Int.toNat_natCast, Nat.zero_add, Nat.reduceAdd, beq_self_eq_true, Bool.and_true, Bool.true_and, if_true, Bool.false_eq_true, if_false, List.set_cons_zero, List.set_cons_succ, Bool.not_true, Bool.not_false, Bool.and_self]
  simp only [beq_true, beq_false, cond_andb, cond_notb, Bool.not_not, if_true, not_lt_b]
  exact ⟨_, rfl, rfl⟩
noncomputable def tb (el : AV) : Bool := match den E 128 [el] [] with
  | some (.b b) => b
  | _ => false
theorem tb_impl {B : Nat} {el : AV} (h : T98 B el) : den E 128 [el] [] = some (.b (tb el)) := by
  obtain ⟨b, _, h2⟩ := tab h
  unfold tb; rw [h2]
theorem tb_spec {B : Nat} {el : AV} (h : T98 B el) : den E 67 [(.ip el 0)] [] = some (.b (tb el)) := by
  obtain ⟨b, h1, h2⟩ := tab h
  unfold tb; rw [h2]; exact h1
theorem tb_level {B : Nat} {el : AV} (h : T98 B el) (ht : tb el = true) : 0 ≤ (el.cells.getD 1 .x).toI := by
  have h2 := tb_impl h
  rw [ht] at h2
  obtain ⟨a0, a1, a2, a3, a4, a5, a6, a7, a8, a9, rfl, _⟩ := h
  rw [f128_eq] at h2
  simp only [in72, okC_nil, okC_agg, okC_i, okC_b, okC_s, okC_imm, okL_i, okL_b, okL_s, okL_sl, okS_i, okS_b, okS_s, okS_sl, okS_agg, okS_tup, okS_nil, okS_cons, cells_agg, cells_i, cells_b, cells_s, cells_imm, toI_i, toB_b, toS_s, toL_imm, nth_agg, nth_tup, put_agg, put_i, put_b, put_s, put_imm, setCells, List.getD_cons_zero, List.getD_cons_succ, bSh_b, bSh_i, bSh_s, bSh_sl, bSh_some, cond_true, cond_false, decide_true, decide_false, Int.toNat_natCast, Nat.zero_add, Nat.reduceAdd, beq_self_eq_true, Bool.and_true, Bool.true_and, if_true, Bool.false_eq_true, if_false, List.set_cons_zero, List.set_cons_succ, Bool.not_true, Bool.not_false, Bool.and_self, beq_true, cond_andb, Option.some.injEq, AV.b.injEq, Bool.and_eq_true, decide_eq_true_eq] at h2
  simp only [okC_nil, okC_agg, okC_i, okC_b, okC_s, okC_imm, okL_i, okL_b, okL_s, okL_sl, okS_i, okS_b, okS_s, okS_sl, okS_agg, okS_tup, okS_nil, okS_cons, cells_agg, cells_i, cells_b, cells_s, cells_imm, toI_i, toB_b, toS_s, toL_imm, nth_agg, nth_tup, put_agg, put_i, put_b, put_s, put_imm, setCells, List.getD_cons_zero, List.getD_cons_succ, bSh_b, bSh_i, bSh_s, bSh_sl, bSh_some, cond_true, cond_false, decide_true, decide_false, Int.toNat_natCast, Nat.zero_add, Nat.reduceAdd, beq_self_eq_true, Bool.and_true, Bool.true_and, if_true, Bool.false_eq_true, if_false, List.set_cons_zero, List.set_cons_succ, Bool.not_true, Bool.not_false, Bool.and_self]
  exact h2.2.1.1


theorem cb_lt : ∀ x y : List UInt8, (Lib.compareBytes x y < 0 ↔ Op.bytesLess x y = true)
  | [], [] => by simp [Lib.compareBytes, Op.bytesLess]
  | [], _ :: _ => by simp [Lib.compareBytes, Op.bytesLess]
  | _ :: _, [] => by simp [Lib.compareBytes, Op.bytesLess]
  | a :: x, b :: y => by
    have ih := cb_lt x y
    simp only [Lib.compareBytes, Op.bytesLess]
    by_cases h1 : a < b
    · simp [h1]
    · by_cases h2 : b < a
      · have h3 : ¬ a = b := by rintro rfl; exact absurd h2 h1
        simp [h1, h2, h3]
      · have h3 : a = b := by
          apply UInt8.toNat_inj.1
          have p1 : ¬ a.toNat < b.toNat := fun h => h1 (UInt8.lt_iff_toNat_lt.2 h)
          have p2 : ¬ b.toNat < a.toNat := fun h => h2 (UInt8.lt_iff_toNat_lt.2 h)
          omega
        simp [h1, h2, h3, ih]
theorem cmpB_lt (a b : ByteArray) : cmpB a b < 0 ↔ lessS a b = true := by
  unfold cmpB lessS
  rw [Lib.toList_data, Lib.toList_data]
  exact cb_lt _ _
theorem cmp_int (a b : Int) : den E 136 [(.i .i64 a), (.i .i64 b)] [] = some (.i .i64 (if a < b then -1 else if b < a then 1 else 0)) := by
  rw [f136_eq, f140_eq, f140_eq]
  simp only [okC_nil, okC_agg, okC_i, okC_b, okC_s, okC_imm, okL_i, okL_b, okL_s, okL_sl, okS_i, okS_b, okS_s, okS_sl, okS_agg, okS_tup, okS_nil, okS_cons, cells_agg, cells_i, cells_b, cells_s, cells_imm, toI_i, toB_b, toS_s, toL_imm, nth_agg, nth_tup, put_agg, put_i, put_b, put_s, put_imm, setCells, List.getD_cons_zero, List.getD_cons_succ, bSh_b, bSh_i, bSh_s, bSh_sl, bSh_some, cond_true, cond_false, decide_true, decide_false, Int.toNat_natCast, Nat.zero_add, Nat.reduceAdd, beq_self_eq_true, Bool.and_true, Bool.true_and, if_true, Bool.false_eq_true, if_false, List.set_cons_zero, List.set_cons_succ, Bool.not_true, Bool.not_false, Bool.and_self]
  by_cases h : a < b
  · simp [h]
  · by_cases h2 : b < a
    · simp [h, h2]
    · simp [h, h2]
theorem cmp_or2 (p q : Int) : den E 137 [(.imm 1 [(.i .i64 p), (.i .i64 q)])] [] = some (.i .i64 (if p = 0 then q else p)) := by
  have e0 : f137_l1 0 [(.i .i64 p), (.i .i64 q)] 2 2 = some (.i .i64 0) := by rw [f137_l1_eq]; rfl
  have w1 : IntKind.i64.wrap 1 = 1 := by decide
  have w2 : IntKind.i64.wrap 2 = 2 := by decide
  rw [f137_eq]
  show f137_l1 0 [(.i .i64 p), (.i .i64 q)] 2 0 = _
  rw [f137_l1_eq]
  simp [okC_nil, okC_agg, okC_i, okC_b, okC_s, okC_imm, okL_i, okL_b, okL_s, okL_sl, okS_i, okS_b, okS_s, okS_sl, okS_agg, okS_tup, okS_nil, okS_cons, cells_agg, cells_i, cells_b, cells_s, cells_imm, toI_i, toB_b, toS_s, toL_imm, nth_agg, nth_tup, put_agg, put_i, put_b, put_s, put_imm, setCells, List.getD_cons_zero, List.getD_cons_succ, bSh_b, bSh_i, bSh_s, bSh_sl, bSh_some, cond_true, cond_false, decide_true, decide_false, Int.toNat_natCast, Nat.zero_add, Nat.reduceAdd, beq_self_eq_true, Bool.and_true, Bool.true_and, if_true, Bool.false_eq_true, if_false, List.set_cons_zero, List.set_cons_succ, Bool.not_true, Bool.not_false, Bool.and_self, w1]
  by_cases h : p = 0
  · simp only [h, if_true]
    rw [f137_l1_eq]
    simp [okC_nil, okC_agg, okC_i, okC_b, okC_s, okC_imm, okL_i, okL_b, okL_s, okL_sl, okS_i, okS_b, okS_s, okS_sl, okS_agg, okS_tup, okS_nil, okS_cons, cells_agg, cells_i, cells_b, cells_s, cells_imm, toI_i, toB_b, toS_s, toL_imm, nth_agg, nth_tup, put_agg, put_i, put_b, put_s, put_imm, setCells, List.getD_cons_zero, List.getD_cons_succ, bSh_b, bSh_i, bSh_s, bSh_sl, bSh_some, cond_true, cond_false, decide_true, decide_false, Int.toNat_natCast, Nat.zero_add, Nat.reduceAdd, beq_self_eq_true, Bool.and_true, Bool.true_and, if_true, Bool.false_eq_true, if_false, List.set_cons_zero, List.set_cons_succ, Bool.not_true, Bool.not_false, Bool.and_self, w2, e0]
    by_cases h2 : q = 0
    · subst h h2; simp [e0]
    · simp [h2]
  · simp [h]


/-- Each table comes before the next. -/
def bef (p t : AV) : Bool :=
  cond (decide ((p.cells.getD 1 .x).toI = (t.cells.getD 1 .x).toI))
    (cond (decide ((p.cells.getD 1 .x).toI = 0)) (decide ((t.cells.getD 0 .x).toI < (p.cells.getD 0 .x).toI))
      (lessS (p.cells.getD 5 .x).toS (t.cells.getD 5 .x).toS && (lessS (p.cells.getD 6 .x).toS (t.cells.getD 5 .x).toS || decide ((p.cells.getD 6 .x).toS = (t.cells.getD 5 .x).toS))))
    (decide ((p.cells.getD 1 .x).toI < (t.cells.getD 1 .x).toI))
theorem bef_spec {B : Nat} {p t : AV} (hp : T98 B p) (ht : T98 B t) : den E 68 [(.ip p 0), (.ip t 0)] [] = some (.b (bef p t)) := by
  rw [f68_eq]
  simp only [hp.ok0, hp.ok1, hp.ok5, hp.ok6, ht.ok0, ht.ok1, ht.ok5, if_true, bef]
  by_cases h : (p.cells.getD 1 .x).toI = (t.cells.getD 1 .x).toI
  · simp only [h, decide_true, Bool.not_true, cond_false, cond_true]
    by_cases h2 : (t.cells.getD 1 .x).toI = 0
    · simp only [h2, decide_true, cond_true]
    · simp only [h2, decide_false, cond_false, beq_true, cond_andb]
  · simp only [h, decide_false, Bool.not_false, cond_false, cond_true]
/-- The program's comparison of two tables. -/
noncomputable def cmpT (p t : AV) : Int := if (p.cells.getD 1 .x).toI = (t.cells.getD 1 .x).toI ∧ (p.cells.getD 1 .x).toI = 0 then (if (t.cells.getD 0 .x).toI < (p.cells.getD 0 .x).toI then -1 else if (p.cells.getD 0 .x).toI < (t.cells.getD 0 .x).toI then 1 else 0)
  else (if (if (p.cells.getD 1 .x).toI < (t.cells.getD 1 .x).toI then (-1 : Int) else if (t.cells.getD 1 .x).toI < (p.cells.getD 1 .x).toI then 1 else 0) = 0 then cmpB (p.cells.getD 5 .x).toS (t.cells.getD 5 .x).toS else (if (p.cells.getD 1 .x).toI < (t.cells.getD 1 .x).toI then (-1 : Int) else if (t.cells.getD 1 .x).toI < (p.cells.getD 1 .x).toI then 1 else 0))
theorem cmpT_impl {B : Nat} {p t : AV} (hp : T98 B p) (ht : T98 B t) : den E 130 [p, t] [] = some (.i .i64 (cmpT p t)) := by
  obtain ⟨a0, a1, a2, a3, a4, a5, a6, a7, a8, a9, rfl, _⟩ := hp
  obtain ⟨b0, b1, b2, b3, b4, b5, b6, b7, b8, b9, rfl, _⟩ := ht
  rw [f130_eq]
  simp only [f130_j1_eq, cmp_int, f138_eq, f141_eq, cmp_or2, cmpT, okC_nil, okC_agg, okC_i, okC_b, okC_s, okC_imm, okL_i, okL_b, okL_s, okL_sl, okS_i, okS_b, okS_s, okS_sl, okS_agg, okS_tup, okS_nil, okS_cons, cells_agg, cells_i, cells_b, cells_s, cells_imm, toI_i, toB_b, toS_s, toL_imm, nth_agg, nth_tup, put_agg, put_i, put_b, put_s, put_imm, setCells, List.getD_cons_zero, List.getD_cons_succ, bSh_b, bSh_i, bSh_s, bSh_sl, bSh_some, cond_true, cond_false, decide_true, decide_false, Int.toNat_natCast, Nat.zero_add, Nat.reduceAdd, beq_self_eq_true, Bool.and_true, Bool.true_and, if_true, Bool.false_eq_true, if_false, List.set_cons_zero, List.set_cons_succ, Bool.not_true, Bool.not_false, Bool.and_self, beq_true]
  by_cases h : a1 = b1
  · by_cases h2 : a1 = 0
    · simp only [h, decide_true, cond_true, h2, and_self, if_true]
      simp only [← h, h2, decide_true, cond_true, and_self, if_true]
    · simp only [h2, decide_false, cond_false, and_false, if_false]
      cases decide (a1 = b1) <;> rfl
  · simp only [h, decide_false, cond_false, false_and, if_false]
    rfl
theorem bef_cmp {p t : AV} (h : 0 ≤ (t.cells.getD 1 .x).toI) : bef p t = (decide (cmpT p t < 0) && !(decide (0 < (t.cells.getD 1 .x).toI) && (decide ((p.cells.getD 1 .x).toI = (t.cells.getD 1 .x).toI) && !(lessS (p.cells.getD 6 .x).toS (t.cells.getD 5 .x).toS || decide ((p.cells.getD 6 .x).toS = (t.cells.getD 5 .x).toS))))) := by
  unfold bef cmpT
  generalize (p.cells.getD 1 .x).toI = lp at *
  generalize (t.cells.getD 1 .x).toI = lt at *
  generalize (p.cells.getD 0 .x).toI = ip at *
  generalize (t.cells.getD 0 .x).toI = it at *
  generalize (lessS (p.cells.getD 6 .x).toS (t.cells.getD 5 .x).toS || decide ((p.cells.getD 6 .x).toS = (t.cells.getD 5 .x).toS)) = hl
  have hc := cmpB_lt (p.cells.getD 5 .x).toS (t.cells.getD 5 .x).toS
  generalize lessS (p.cells.getD 5 .x).toS (t.cells.getD 5 .x).toS = lo at *
  generalize cmpB (p.cells.getD 5 .x).toS (t.cells.getD 5 .x).toS = c at *
  by_cases h1 : lp = lt
  · subst h1
    by_cases h2 : lp = 0
    · subst h2
      by_cases h3 : it < ip
      · simp [h3]
      · by_cases h4 : ip < it <;> simp [h3, h4]
    · have h3 : 0 < lp := by omega
      simp only [h2, and_false, if_false, Int.lt_irrefl, if_true, decide_true, decide_false, cond_true, cond_false, h3, Bool.true_and]
      cases lo <;> cases hl <;> simp_all
  · by_cases h3 : lp < lt
    · simp [h1, h3]
    · have h4 : lt < lp := by omega
      simp [h1, h3, h4]


/-- What is asked of the i-th table of a version. -/
noncomputable def okAt (n s : Int) (m : List AV) (i : Nat) : Bool :=
  tb (m.getD i .x) && ((decide (((m.getD i .x).cells.getD 0 .x).toI < n) && decide (((m.getD i .x).cells.getD 8 .x).toI ≤ s)) && ((decide (i = 0) || bef (m.getD (i - 1) .x) (m.getD i .x)) && (List.range' 0 i).all fun j => !decide (((m.getD j .x).cells.getD 0 .x).toI = ((m.getD i .x).cells.getD 0 .x).toI)))

theorem spec_l3 (n z s : Int) (m : List AV) (hm : Rw (T98 1048576) 1048576 m) (i : Nat) (hi : i < m.length) (X : Option AV)
    (hX : f33_l1 (.agg [(.i .i64 n), (.i .i64 z), (.i .i64 s), (.imm 10 m)]) ((i : Int) + 1) = X) :
    f33_l3 (.agg [(.i .i64 n), (.i .i64 z), (.i .i64 s), (.imm 10 m)]) i (m.getD i .x) 0 = cond ((List.range' 0 i).all fun j => !decide (((m.getD j .x).cells.getD 0 .x).toI = ((m.getD i .x).cells.getD 0 .x).toI)) X (some (.b false)) := by
  have hml := hm.1
  have hT := hm.at hi
  refine all_loop (L := fun j => f33_l3 (.agg [(.i .i64 n), (.i .i64 z), (.i .i64 s), (.imm 10 m)]) i (m.getD i .x) j) (n := i) (fun j hj => ?_) ?_ i 0 (by omega)
  · have hT1 := hm.at (i := j) (by omega)
    try dsimp only
    rw [f33_l3_eq, dT (show (j : Int) < (i : Int) by omega), cond_true]
    simp only [okC_nil, okC_agg, okC_i, okC_b, okC_s, okC_imm, okL_i, okL_b, okL_s, okL_sl, okS_i, okS_b, okS_s, okS_sl, okS_agg, okS_tup, okS_nil, okS_cons, cells_agg, cells_i, cells_b, cells_s, cells_imm, toI_i, toB_b, toS_s, toL_imm, nth_agg, nth_tup, put_agg, put_i, put_b, put_s, put_imm, setCells, List.getD_cons_zero, List.getD_cons_succ, bSh_b, bSh_i, bSh_s, bSh_sl, bSh_some, cond_true, cond_false, decide_true, decide_false, Int.toNat_natCast, Nat.zero_add, Nat.reduceAdd, beq_self_eq_true, Bool.and_true, Bool.true_and, if_true, Bool.false_eq_true, if_false, List.set_cons_zero, List.set_cons_succ, Bool.not_true, Bool.not_false, Bool.and_self]
    rw [if_pos (by omega), w64 (x := (j : Int) + 1) (by omega) (by omega)]
    simp only [hT.ok0, hT1.ok0, okC_nil, okC_agg, okC_i, okC_b, okC_s, okC_imm, okL_i, okL_b, okL_s, okL_sl, okS_i, okS_b, okS_s, okS_sl, okS_agg, okS_tup, okS_nil, okS_cons, cells_agg, cells_i, cells_b, cells_s, cells_imm, toI_i, toB_b, toS_s, toL_imm, nth_agg, nth_tup, put_agg, put_i, put_b, put_s, put_imm, setCells, List.getD_cons_zero, List.getD_cons_succ, bSh_b, bSh_i, bSh_s, bSh_sl, bSh_some, cond_true, cond_false, decide_true, decide_false, Int.toNat_natCast, Nat.zero_add, Nat.reduceAdd, beq_self_eq_true, Bool.and_true, Bool.true_and, if_true, Bool.false_eq_true, if_false, List.set_cons_zero, List.set_cons_succ, Bool.not_true, Bool.not_false, Bool.and_self]
    cases decide (((m.getD j .x).cells.getD 0 .x).toI = ((m.getD i .x).cells.getD 0 .x).toI) <;> rfl
  · try dsimp only
    rw [f33_l3_eq, dF (Int.lt_irrefl _), cond_false, w64 (x := (i : Int) + 1) (by omega) (by omega)]
    exact hX

theorem spec_l1 (n z s : Int) (m : List AV) (hm : Rw (T98 1048576) 1048576 m) :
    f33_l1 (.agg [(.i .i64 n), (.i .i64 z), (.i .i64 s), (.imm 10 m)]) 0 = some (.b ((List.range' 0 m.length).all fun i => okAt n s m i)) := by
  have hml := hm.1
  have := all_loop (L := fun i => f33_l1 (.agg [(.i .i64 n), (.i .i64 z), (.i .i64 s), (.imm 10 m)]) i) (n := m.length) (p := fun i => okAt n s m i) (X := some (.b true)) (F := some (.b false)) (fun i hi => ?_) ?_ m.length 0 (by omega)
  · refine this.trans ?_
    rw [cond_andb, Bool.and_true]
  · have hT := hm.at hi
    have h3 := spec_l3 n z s m hm i hi _ rfl
    try dsimp only
    rw [f33_l1_eq]
    simp only [okC_nil, okC_agg, okC_i, okC_b, okC_s, okC_imm, okL_i, okL_b, okL_s, okL_sl, okS_i, okS_b, okS_s, okS_sl, okS_agg, okS_tup, okS_nil, okS_cons, cells_agg, cells_i, cells_b, cells_s, cells_imm, toI_i, toB_b, toS_s, toL_imm, nth_agg, nth_tup, put_agg, put_i, put_b, put_s, put_imm, setCells, List.getD_cons_zero, List.getD_cons_succ, bSh_b, bSh_i, bSh_s, bSh_sl, bSh_some, cond_true, cond_false, decide_true, decide_false, Int.toNat_natCast, Nat.zero_add, Nat.reduceAdd, beq_self_eq_true, Bool.and_true, Bool.true_and, if_true, Bool.false_eq_true, if_false, List.set_cons_zero, List.set_cons_succ, Bool.not_true, Bool.not_false, Bool.and_self, f33_j2_eq]
    rw [dT (show (i : Int) < ((m.length : Nat) : Int) by omega), cond_true, if_pos (by omega)]
    simp only [Int.toNat_natCast, tb_spec hT, hT.ok0, hT.ok8, h3, okC_nil, okC_agg, okC_i, okC_b, okC_s, okC_imm, okL_i, okL_b, okL_s, okL_sl, okS_i, okS_b, okS_s, okS_sl, okS_agg, okS_tup, okS_nil, okS_cons, cells_agg, cells_i, cells_b, cells_s, cells_imm, toI_i, toB_b, toS_s, toL_imm, nth_agg, nth_tup, put_agg, put_i, put_b, put_s, put_imm, setCells, List.getD_cons_zero, List.getD_cons_succ, bSh_b, bSh_i, bSh_s, bSh_sl, bSh_some, cond_true, cond_false, decide_true, decide_false, Int.toNat_natCast, Nat.zero_add, Nat.reduceAdd, beq_self_eq_true, Bool.and_true, Bool.true_and, if_true, Bool.false_eq_true, if_false, List.set_cons_zero, List.set_cons_succ, Bool.not_true, Bool.not_false, Bool.and_self]
    unfold okAt
    cases tb (m.getD i .x)
    · rfl
    simp only [Bool.not_true, beq_self_eq_true, cond_true, Bool.true_and]
    by_cases h1 : n ≤ ((m.getD i .x).cells.getD 0 .x).toI
    · have h1' : ¬ ((m.getD i .x).cells.getD 0 .x).toI < n := by omega
      simp only [h1, h1', decide_true, decide_false, Bool.false_and, cond_false]
      rfl
    have h1' : ((m.getD i .x).cells.getD 0 .x).toI < n := by omega
    simp only [h1, h1', decide_true, decide_false, Bool.true_and, beq_self_eq_true, cond_true]
    by_cases h2 : s < ((m.getD i .x).cells.getD 8 .x).toI
    · have h2' : ¬ ((m.getD i .x).cells.getD 8 .x).toI ≤ s := by omega
      simp only [h2, h2', decide_true, decide_false, Bool.false_and, cond_false]
      rfl
    have h2' : ((m.getD i .x).cells.getD 8 .x).toI ≤ s := by omega
    simp only [h2, h2', decide_true, decide_false, Bool.true_and, beq_self_eq_true, cond_true]
    by_cases h0 : i = 0
    · subst h0
      simp
    · have hT1 := hm.at (i := i - 1) (by omega)
      rw [w64 (x := (i : Int) - 1) (by omega) (by omega), show ((i : Int) - 1).toNat = i - 1 by omega, bef_spec hT1 hT]
      rw [dT (show (0 : Int) < (i : Int) by omega), if_pos (by omega)]
      simp only [h0, decide_false, Bool.false_or, okC_nil, okC_agg, okC_i, okC_b, okC_s, okC_imm, okL_i, okL_b, okL_s, okL_sl, okS_i, okS_b, okS_s, okS_sl, okS_agg, okS_tup, okS_nil, okS_cons, cells_agg, cells_i, cells_b, cells_s, cells_imm, toI_i, toB_b, toS_s, toL_imm, nth_agg, nth_tup, put_agg, put_i, put_b, put_s, put_imm, setCells, List.getD_cons_zero, List.getD_cons_succ, bSh_b, bSh_i, bSh_s, bSh_sl, bSh_some, cond_true, cond_false, decide_true, decide_false, Int.toNat_natCast, Nat.zero_add, Nat.reduceAdd, beq_self_eq_true, Bool.and_true, Bool.true_and, if_true, Bool.false_eq_true, if_false, List.set_cons_zero, List.set_cons_succ, Bool.not_true, Bool.not_false, Bool.and_self]
      cases bef (m.getD (i - 1) .x) (m.getD i .x) <;> rfl
  · try dsimp only
    rw [f33_l1_eq]
    simp only [okC_nil, okC_agg, okC_i, okC_b, okC_s, okC_imm, okL_i, okL_b, okL_s, okL_sl, okS_i, okS_b, okS_s, okS_sl, okS_agg, okS_tup, okS_nil, okS_cons, cells_agg, cells_i, cells_b, cells_s, cells_imm, toI_i, toB_b, toS_s, toL_imm, nth_agg, nth_tup, put_agg, put_i, put_b, put_s, put_imm, setCells, List.getD_cons_zero, List.getD_cons_succ, bSh_b, bSh_i, bSh_s, bSh_sl, bSh_some, cond_true, cond_false, decide_true, decide_false, Int.toNat_natCast, Nat.zero_add, Nat.reduceAdd, beq_self_eq_true, Bool.and_true, Bool.true_and, if_true, Bool.false_eq_true, if_false, List.set_cons_zero, List.set_cons_succ, Bool.not_true, Bool.not_false, Bool.and_self]
    rw [dF (Int.lt_irrefl _), cond_false]

noncomputable def okVersion (n z s : Int) (m : List AV) : Bool := (decide (1 ≤ n) && decide (n ≤ 1000000)) && ((decide (0 ≤ z) && decide (z ≤ 11)) && ((decide (0 ≤ s) && decide (s ≤ 1000000)) && (decide ((m.length : Int) ≤ 16) && ((List.range' 0 m.length).all fun i => okAt n s m i))))

theorem spec_ok (n z s : Int) (m : List AV) (hm : Rw (T98 1048576) 1048576 m) : den E 33 [(.ip (.agg [(.i .i64 n), (.i .i64 z), (.i .i64 s), (.imm 10 m)]) 0)] [] = some (.b (okVersion n z s m)) := by
  rw [f33_eq]
  simp only [okC_nil, okC_agg, okC_i, okC_b, okC_s, okC_imm, okL_i, okL_b, okL_s, okL_sl, okS_i, okS_b, okS_s, okS_sl, okS_agg, okS_tup, okS_nil, okS_cons, cells_agg, cells_i, cells_b, cells_s, cells_imm, toI_i, toB_b, toS_s, toL_imm, nth_agg, nth_tup, put_agg, put_i, put_b, put_s, put_imm, setCells, List.getD_cons_zero, List.getD_cons_succ, bSh_b, bSh_i, bSh_s, bSh_sl, bSh_some, cond_true, cond_false, decide_true, decide_false, Int.toNat_natCast, Nat.zero_add, Nat.reduceAdd, beq_self_eq_true, Bool.and_true, Bool.true_and, if_true, Bool.false_eq_true, if_false, List.set_cons_zero, List.set_cons_succ, Bool.not_true, Bool.not_false, Bool.and_self, in90, spec_l1 n z s m hm]
  simp only [beq_false, Bool.not_not, cond_nb, not_lt_b, cond_andb]
  rfl

/-- slices.ContainsFunc over the tables before. -/
theorem has_id (l : List AV) (hl : Rw (T98 1048576) 1048576 l) {t : AV} (ht : T98 1048576 t) : den E 94 [(.imm 10 l), (.fn 129 [(.ip t 0)])] [] =
    some (.b (!(List.range' 0 l.length).all fun j => !decide (((l.getD j .x).cells.getD 0 .x).toI = (t.cells.getD 0 .x).toI))) := by
  have hll := hl.1
  rw [f94q1_eq, f117q1_eq]
  have key := find_loop (L := fun i => f117q1_l1 l t ((l.length : Nat) : Int) i) (n := l.length) (p := fun j => decide (((l.getD j .x).cells.getD 0 .x).toI = (t.cells.getD 0 .x).toI)) (F := fun i => some (.i .i64 i)) (X := some (.i .i64 (-1))) (fun i hi => ?_) ?_ l.length 0 (by omega)
  · rcases key with ⟨j, _, hj, h1, h2, h3⟩ | ⟨h1, h2⟩
    · rw [show f117q1_l1 l t ((l.length : Nat) : Int) 0 = _ from h3]
      have hj0 : (0 : Int) ≤ (j : Int) := by omega
      simp only [bSh_i, bSh_b, toI_i, toB_b, hj0, decide_true]
      have : ((List.range' 0 l.length).all fun j => !decide (((l.getD j .x).cells.getD 0 .x).toI = (t.cells.getD 0 .x).toI)) = false := by
        rw [List.all_eq_false]
        exact ⟨j, by simp [List.mem_range'_1, hj], by simpa using h1⟩
      rw [this]; rfl
    · rw [show f117q1_l1 l t ((l.length : Nat) : Int) 0 = _ from h2]
      simp only [bSh_i, bSh_b, toI_i, toB_b]
      have : ((List.range' 0 l.length).all fun j => !decide (((l.getD j .x).cells.getD 0 .x).toI = (t.cells.getD 0 .x).toI)) = true := by
        rw [List.all_eq_true]
        intro i hi
        have := h1 i (Nat.zero_le _) (by simpa [List.mem_range'_1] using hi)
        simpa using this
      rw [this]; rfl
  · have hT := hl.at hi
    try dsimp only
    rw [f117q1_l1_eq, dT (show (i : Int) < ((l.length : Nat) : Int) by omega), cond_true, if_pos (by omega), w64 (x := (i : Int) + 1) (by omega) (by omega)]
    simp only [hT.ok, ht.ok0, okC_nil, okC_agg, okC_i, okC_b, okC_s, okC_imm, okL_i, okL_b, okL_s, okL_sl, okS_i, okS_b, okS_s, okS_sl, okS_agg, okS_tup, okS_nil, okS_cons, cells_agg, cells_i, cells_b, cells_s, cells_imm, toI_i, toB_b, toS_s, toL_imm, nth_agg, nth_tup, put_agg, put_i, put_b, put_s, put_imm, setCells, List.getD_cons_zero, List.getD_cons_succ, bSh_b, bSh_i, bSh_s, bSh_sl, bSh_some, cond_true, cond_false, decide_true, decide_false, Int.toNat_natCast, Nat.zero_add, Nat.reduceAdd, beq_self_eq_true, Bool.and_true, Bool.true_and, if_true, Bool.false_eq_true, if_false, List.set_cons_zero, List.set_cons_succ, Bool.not_true, Bool.not_false, Bool.and_self, f129q1_eq]
  · try dsimp only
    rw [f117q1_l1_eq, dF (Int.lt_irrefl _), cond_false]

theorem impl_tables (n z s : Int) (m : List AV) (hm : Rw (T98 1048576) 1048576 m) :
    den E 110 [.agg [(.i .i64 n), (.i .i64 z), (.i .i64 s), (.imm 10 m)]] [] = some (.b (((List.range' 0 m.length).all fun i => okAt n s m i) && decide ((m.length : Int) ≤ 16))) := by
  have hml := hm.1
  rw [f110_eq]
  have := all_loop (L := fun i => f110_l1 m ((m.length : Nat) : Int) i n z s m) (n := m.length) (p := fun i => okAt n s m i) (X := some (.b (decide ((m.length : Int) ≤ 16)))) (F := some (.b false)) (fun i hi => ?_) ?_ m.length 0 (by omega)
  · refine this.trans ?_
    rw [cond_andb]
  · have hT := hm.at hi
    have hlt : Rw (T98 1048576) 1048576 (m.take i) := ⟨by rw [List.length_take]; omega, fun y hy => hm.2 y (List.mem_of_mem_take hy)⟩
    have hid := has_id (m.take i) hlt hT
    have hle : (m.take i).length = i := by rw [List.length_take]; omega
    have hge : ((List.range' 0 i).all fun j => !decide ((((m.take i).getD j .x).cells.getD 0 .x).toI = ((m.getD i .x).cells.getD 0 .x).toI)) = ((List.range' 0 i).all fun j => !decide (((m.getD j .x).cells.getD 0 .x).toI = ((m.getD i .x).cells.getD 0 .x).toI)) := by
      rw [Bool.eq_iff_iff, List.all_eq_true, List.all_eq_true]
      have hg : ∀ j, j ∈ List.range' 0 i → (m.take i).getD j .x = m.getD j .x := fun j hj => by
        rw [getD_take, if_pos (by simpa [List.mem_range'_1] using hj)]
      exact ⟨fun h j hj => by rw [← hg j hj]; exact h j hj, fun h j hj => by rw [hg j hj]; exact h j hj⟩
    rw [hle, hge] at hid
    try dsimp only
    rw [f110_l1_eq, dT (show (i : Int) < ((m.length : Nat) : Int) by omega), cond_true, if_pos (by omega)]
    simp only [Int.toNat_natCast, hT.ok, hT.eta, tb_impl hT, f110_j2_eq, hid, okC_nil, okC_agg, okC_i, okC_b, okC_s, okC_imm, okL_i, okL_b, okL_s, okL_sl, okS_i, okS_b, okS_s, okS_sl, okS_agg, okS_tup, okS_nil, okS_cons, cells_agg, cells_i, cells_b, cells_s, cells_imm, toI_i, toB_b, toS_s, toL_imm, nth_agg, nth_tup, put_agg, put_i, put_b, put_s, put_imm, setCells, List.getD_cons_zero, List.getD_cons_succ, bSh_b, bSh_i, bSh_s, bSh_sl, bSh_some, cond_true, cond_false, decide_true, decide_false, Int.toNat_natCast, Nat.zero_add, Nat.reduceAdd, beq_self_eq_true, Bool.and_true, Bool.true_and, if_true, Bool.false_eq_true, if_false, List.set_cons_zero, List.set_cons_succ, Bool.not_true, Bool.not_false, Bool.and_self]
    rw [w64 (x := (i : Int) + 1) (by omega) (by omega), if_pos (by omega)]
    unfold okAt
    cases htb : tb (m.getD i .x)
    · rfl
    have hlev := tb_level hT htb
    simp only [Bool.not_true, beq_self_eq_true, cond_true, Bool.true_and]
    by_cases h1 : n ≤ ((m.getD i .x).cells.getD 0 .x).toI
    · have h1' : ¬ ((m.getD i .x).cells.getD 0 .x).toI < n := by omega
      simp only [h1, h1', decide_true, decide_false, Bool.false_and, cond_false]
      rfl
    have h1' : ((m.getD i .x).cells.getD 0 .x).toI < n := by omega
    simp only [h1, h1', decide_true, decide_false, Bool.true_and, beq_self_eq_true, cond_true]
    by_cases h2 : s < ((m.getD i .x).cells.getD 8 .x).toI
    · have h2' : ¬ ((m.getD i .x).cells.getD 8 .x).toI ≤ s := by omega
      simp only [h2, h2', decide_true, decide_false, Bool.false_and, cond_false]
      rfl
    have h2' : ((m.getD i .x).cells.getD 8 .x).toI ≤ s := by omega
    simp only [h2, h2', decide_true, decide_false, Bool.true_and, beq_self_eq_true, cond_true]
    generalize ((List.range' 0 i).all fun j => !decide (((m.getD j .x).cells.getD 0 .x).toI = ((m.getD i .x).cells.getD 0 .x).toI)) = u
    cases u
    · simp
    simp only [Bool.not_true, cond_false, Bool.and_true]
    by_cases h0 : i = 0
    · subst h0
      simp
    · have hT1 := hm.at (i := i - 1) (by omega)
      have h0' : ¬ (i : Int) = 0 := by omega
      rw [w64 (x := (i : Int) - 1) (by omega) (by omega), show ((i : Int) - 1).toNat = i - 1 by omega]
      simp only [h0, h0', decide_false, Bool.false_or, cond_false]
      rw [if_pos (by omega), if_pos hT1.ok]
      simp only [hT1.eta, cmpT_impl hT1 hT, okC_nil, okC_agg, okC_i, okC_b, okC_s, okC_imm, okL_i, okL_b, okL_s, okL_sl, okS_i, okS_b, okS_s, okS_sl, okS_agg, okS_tup, okS_nil, okS_cons, cells_agg, cells_i, cells_b, cells_s, cells_imm, toI_i, toB_b, toS_s, toL_imm, nth_agg, nth_tup, put_agg, put_i, put_b, put_s, put_imm, setCells, List.getD_cons_zero, List.getD_cons_succ, bSh_b, bSh_i, bSh_s, bSh_sl, bSh_some, cond_true, cond_false, decide_true, decide_false, Int.toNat_natCast, Nat.zero_add, Nat.reduceAdd, beq_self_eq_true, Bool.and_true, Bool.true_and, if_true, Bool.false_eq_true, if_false, List.set_cons_zero, List.set_cons_succ, Bool.not_true, Bool.not_false, Bool.and_self]
      rw [bef_cmp hlev]
      by_cases h3 : cmpT (m.getD (i - 1) .x) (m.getD i .x) < 0
      · have h3' : ¬ 0 ≤ cmpT (m.getD (i - 1) .x) (m.getD i .x) := by omega
        simp only [h3, h3', decide_true, decide_false, beq_self_eq_true, cond_true, Bool.true_and]
        generalize (lessS ((m.getD (i - 1) .x).cells.getD 6 .x).toS ((m.getD i .x).cells.getD 5 .x).toS || decide (((m.getD (i - 1) .x).cells.getD 6 .x).toS = ((m.getD i .x).cells.getD 5 .x).toS)) = q1
        cases decide (0 < ((m.getD i .x).cells.getD 1 .x).toI) <;> cases decide (((m.getD (i - 1) .x).cells.getD 1 .x).toI = ((m.getD i .x).cells.getD 1 .x).toI) <;> cases q1 <;> rfl
      · have h3' : 0 ≤ cmpT (m.getD (i - 1) .x) (m.getD i .x) := by omega
        simp only [h3, h3', decide_true, decide_false, Bool.false_and, cond_false]
        rfl
  · try dsimp only
    rw [f110_l1_eq, dF (Int.lt_irrefl _), cond_false]

theorem impl_ok (n z s : Int) (m : List AV) (hm : Rw (T98 1048576) 1048576 m) : den E 75 [.agg [(.i .i64 n), (.i .i64 z), (.i .i64 s), (.imm 10 m)]] [] = some (.b (okVersion n z s m)) := by
  rw [f75_eq]
  simp only [okC_nil, okC_agg, okC_i, okC_b, okC_s, okC_imm, okL_i, okL_b, okL_s, okL_sl, okS_i, okS_b, okS_s, okS_sl, okS_agg, okS_tup, okS_nil, okS_cons, cells_agg, cells_i, cells_b, cells_s, cells_imm, toI_i, toB_b, toS_s, toL_imm, nth_agg, nth_tup, put_agg, put_i, put_b, put_s, put_imm, setCells, List.getD_cons_zero, List.getD_cons_succ, bSh_b, bSh_i, bSh_s, bSh_sl, bSh_some, cond_true, cond_false, decide_true, decide_false, Int.toNat_natCast, Nat.zero_add, Nat.reduceAdd, beq_self_eq_true, Bool.and_true, Bool.true_and, if_true, Bool.false_eq_true, if_false, List.set_cons_zero, List.set_cons_succ, Bool.not_true, Bool.not_false, Bool.and_self, in72, impl_tables n z s m hm]
  simp only [beq_true, cond_andb, okVersion]
  congr 2
  ac_rfl


/-- The tables of a zone. -/
noncomputable def inZone (q : Int) (el : AV) : Bool := decide ((el.cells.getD 2 .x).toI = q)

theorem spec_tables (n z s q : Int) (m : List AV) (hm : Rw (T98 1048576) 1048576 m) : den E 69 [(.ip (.agg [(.i .i64 n), (.i .i64 z), (.i .i64 s), (.imm 10 m)]) 0), (.i .i64 q)] [] = some (.imm 10 (m.filter (inZone q))) := by
  have hml := hm.1
  rw [f69_eq]
  have := filter_loop (L := fun i r => f69_l1 (.agg [(.i .i64 n), (.i .i64 z), (.i .i64 s), (.imm 10 m)]) q i [] r) (m := m) (p := inZone q) (F := fun r => some (.imm 10 r)) (fun i r hi hr => ?_) (fun r hr => ?_) m.length 0 [] (by omega) (by simp)
  · simpa using this
  · have hT := hm.at hi
    try dsimp only
    rw [f69_l1_eq]
    simp only [okC_nil, okC_agg, okC_i, okC_b, okC_s, okC_imm, okL_i, okL_b, okL_s, okL_sl, okS_i, okS_b, okS_s, okS_sl, okS_agg, okS_tup, okS_nil, okS_cons, cells_agg, cells_i, cells_b, cells_s, cells_imm, toI_i, toB_b, toS_s, toL_imm, nth_agg, nth_tup, put_agg, put_i, put_b, put_s, put_imm, setCells, List.getD_cons_zero, List.getD_cons_succ, bSh_b, bSh_i, bSh_s, bSh_sl, bSh_some, cond_true, cond_false, decide_true, decide_false, Int.toNat_natCast, Nat.zero_add, Nat.reduceAdd, beq_self_eq_true, Bool.and_true, Bool.true_and, if_true, Bool.false_eq_true, if_false, List.set_cons_zero, List.set_cons_succ, Bool.not_true, Bool.not_false, Bool.and_self]
    rw [dT (show (i : Int) < ((m.length : Nat) : Int) by omega), cond_true, if_pos (by omega)]
    simp only [hT.ok2, hT.ok, hT.eta, f69_j2_eq, if_true, List.length_cons, List.length_nil]
    rw [w64 (x := (i : Int) + 1) (by omega) (by omega)]
    unfold inZone
    by_cases hc : ((m.getD i .x).cells.getD 2 .x).toI = q
    · rw [if_pos (show (r.length + (0 + 1)) * 96 ≤ room by simp only [room]; omega)]
      simp only [hc, decide_true, cond_true, if_true]
      rw [if_pos (by omega)]
    · simp only [hc, decide_false, cond_false, Bool.false_eq_true, if_false]
  · try dsimp only
    rw [f69_l1_eq]
    simp only [okC_nil, okC_agg, okC_i, okC_b, okC_s, okC_imm, okL_i, okL_b, okL_s, okL_sl, okS_i, okS_b, okS_s, okS_sl, okS_agg, okS_tup, okS_nil, okS_cons, cells_agg, cells_i, cells_b, cells_s, cells_imm, toI_i, toB_b, toS_s, toL_imm, nth_agg, nth_tup, put_agg, put_i, put_b, put_s, put_imm, setCells, List.getD_cons_zero, List.getD_cons_succ, bSh_b, bSh_i, bSh_s, bSh_sl, bSh_some, cond_true, cond_false, decide_true, decide_false, Int.toNat_natCast, Nat.zero_add, Nat.reduceAdd, beq_self_eq_true, Bool.and_true, Bool.true_and, if_true, Bool.false_eq_true, if_false, List.set_cons_zero, List.set_cons_succ, Bool.not_true, Bool.not_false, Bool.and_self]
    rw [dF (Int.lt_irrefl _), cond_false]

theorem del_q {t : AV} (ht : T98 1048576 t) (q : Int) : den E 113 [t, (.ip (.i .i64 q) 0)] [] = some (.b (!inZone q t)) := by
  obtain ⟨a0, a1, a2, a3, a4, a5, a6, a7, a8, a9, rfl, _⟩ := ht
  rw [f113q1_eq]
  simp only [okC_nil, okC_agg, okC_i, okC_b, okC_s, okC_imm, okL_i, okL_b, okL_s, okL_sl, okS_i, okS_b, okS_s, okS_sl, okS_agg, okS_tup, okS_nil, okS_cons, cells_agg, cells_i, cells_b, cells_s, cells_imm, toI_i, toB_b, toS_s, toL_imm, nth_agg, nth_tup, put_agg, put_i, put_b, put_s, put_imm, setCells, List.getD_cons_zero, List.getD_cons_succ, bSh_b, bSh_i, bSh_s, bSh_sl, bSh_some, cond_true, cond_false, decide_true, decide_false, Int.toNat_natCast, Nat.zero_add, Nat.reduceAdd, beq_self_eq_true, Bool.and_true, Bool.true_and, if_true, Bool.false_eq_true, if_false, List.set_cons_zero, List.set_cons_succ, Bool.not_true, Bool.not_false, Bool.and_self]
  rfl

theorem first_del (m : List AV) (hm : Rw (T98 1048576) 1048576 m) (q : Int) :
    (den E 117 [(.imm 10 m), (.fn 113 [(.ip (.i .i64 q) 0)])] [] = some (.i .i64 (-1)) ∧ ∀ i, i < m.length → inZone q (m.getD i .x) = true) ∨
    ∃ j : Nat, j < m.length ∧ den E 117 [(.imm 10 m), (.fn 113 [(.ip (.i .i64 q) 0)])] [] = some (.i .i64 j) ∧ inZone q (m.getD j .x) = false ∧ ∀ i, i < j → inZone q (m.getD i .x) = true := by
  have hll := hm.1
  have key := find_loop (L := fun i => f117q2_l1 m (.i .i64 q) ((m.length : Nat) : Int) i) (n := m.length) (p := fun j => !inZone q (m.getD j .x)) (F := fun i => some (.i .i64 i)) (X := some (.i .i64 (-1))) (fun i hi => ?_) ?_ m.length 0 (by omega)
  · rw [f117q2_eq]
    rcases key with ⟨j, _, hj, h1, h2, h3⟩ | ⟨h1, h2⟩
    · exact .inr ⟨j, hj, h3, by simpa using h1, fun i hi => by simpa using h2 i (Nat.zero_le _) hi⟩
    · exact .inl ⟨h2, fun i hi => by simpa using h1 i (Nat.zero_le _) hi⟩
  · have hT := hm.at hi
    try dsimp only
    rw [f117q2_l1_eq, dT (show (i : Int) < ((m.length : Nat) : Int) by omega), cond_true, if_pos (by omega), w64 (x := (i : Int) + 1) (by omega) (by omega)]
    simp only [Int.toNat_natCast, hT.ok, hT.eta, del_q hT, okC_nil, okC_agg, okC_i, okC_b, okC_s, okC_imm, okL_i, okL_b, okL_s, okL_sl, okS_i, okS_b, okS_s, okS_sl, okS_agg, okS_tup, okS_nil, okS_cons, cells_agg, cells_i, cells_b, cells_s, cells_imm, toI_i, toB_b, toS_s, toL_imm, nth_agg, nth_tup, put_agg, put_i, put_b, put_s, put_imm, setCells, List.getD_cons_zero, List.getD_cons_succ, bSh_b, bSh_i, bSh_s, bSh_sl, bSh_some, cond_true, cond_false, decide_true, decide_false, Int.toNat_natCast, Nat.zero_add, Nat.reduceAdd, beq_self_eq_true, Bool.and_true, Bool.true_and, if_true, Bool.false_eq_true, if_false, List.set_cons_zero, List.set_cons_succ, Bool.not_true, Bool.not_false, Bool.and_self]
  · try dsimp only
    rw [f117q2_l1_eq, dF (Int.lt_irrefl _), cond_false]

theorem impl_del (m : List AV) (hm : Rw (T98 1048576) 1048576 m) (q : Int) :
    ∃ r : List AV, dno E 111 [(.sl 0 [] none), (.fn 113 [(.ip (.i .i64 q) 0)])] [(.live true false false 106 m)] =
      some (.sl 0 [] (some (0, (m.filter (inZone q)).length)), [.live true false false 106 r]) ∧ r.length = m.length ∧ (∀ y, y ∈ r → flatV y = true) ∧ r.take (m.filter (inZone q)).length = m.filter (inZone q) := by
  have hml := hm.1
  have hfl : ∀ y, T98 1048576 y → flatV y = true := fun y hy => by
    obtain ⟨a0, a1, a2, a3, a4, a5, a6, a7, a8, a9, rfl, _⟩ := hy; rfl
  rw [f111o1_eq]
  rcases first_del m hm q with ⟨h1, h2⟩ | ⟨j, hj, h1, h2, h3⟩
  · have hf : m.filter (inZone q) = m := List.filter_eq_self.2 fun y hy => by
      obtain ⟨i, hi, rfl⟩ := List.getElem_of_mem hy
      have := h2 i hi
      rwa [List.getD_eq_getElem?_getD, List.getElem?_eq_getElem hi] at this
    rw [h1, hf]
    exact ⟨m, rfl, rfl, fun y hy => hfl y (hm.2 y hy), by simp⟩
  · rw [h1]
    simp only [bSh_i, toI_i]
    have hj1 : ¬ (j : Int) = -1 := by omega
    have hjn : (m.take j).filter (inZone q) = m.take j := List.filter_eq_self.2 fun y hy => by
      obtain ⟨i, hi, rfl⟩ := List.getElem_of_mem hy
      have hij : i < j := by rw [List.length_take] at hi; omega
      have := h3 i hij
      rw [List.getD_eq_getElem?_getD, List.getElem?_eq_getElem (by omega)] at this
      rw [List.getElem_take]; exact this
    simp only [hj1, decide_false, cond_false]
    rw [w64 (x := (j : Int) + 1) (by omega) (by omega), show ((j : Int) + 1) = ((j + 1 : Nat) : Int) by omega]
    let W : Nat → List AV → List AV := fun k r => r.take k ++ List.replicate (r.length - k) (.agg [(.i .i64 (0 : Int)), (.i .i64 (0 : Int)), (.i .i64 (0 : Int)), (.i .i64 (0 : Int)), (.i .i64 (0 : Int)), (.s .empty), (.s .empty), (.i .i64 (0 : Int)), (.i .i64 (0 : Int)), (.i .i64 (0 : Int))]) ++ r.drop (k + (r.length - k))
    have key : ∃ r', f111o1_l1 (.i .i64 q) (j : Int) ((j + 1 : Nat) : Int) m = some (.sl 0 [] (some (0, (m.filter (inZone q)).length)), [.live true false false 106 (W (m.filter (inZone q)).length r')]) ∧ r'.length = m.length ∧ r'.take (m.filter (inZone q)).length = m.filter (inZone q) := by
      refine del_loop (L := fun k i r => f111o1_l1 (.i .i64 q) k i r) (m := m) (p := inZone q) (T := T98 1048576) (F := fun k r => some (.sl 0 [] (some (0, k)), [.live true false false 106 (W k r)])) hm.2 (fun i k r hi hk hl hg hr => ?_) (fun k r hk hl => ?_) (m.length - (j + 1)) (j + 1) j m (by omega) (by omega) rfl hm.2 ?_ rfl
      · have hT := hm.at hi
        have hT' : T98 1048576 (r.getD k .x) := hr _ (getD_mem (by omega))
        try dsimp only
        rw [f111o1_l1_eq, dT (show (i : Int) < ((r.length : Nat) : Int) by omega), cond_true, if_pos (by omega)]
        simp only [Nat.zero_add, Int.toNat_natCast, hg, hT.ok, hT.eta, del_q hT, okC_nil, okC_agg, okC_i, okC_b, okC_s, okC_imm, okL_i, okL_b, okL_s, okL_sl, okS_i, okS_b, okS_s, okS_sl, okS_agg, okS_tup, okS_nil, okS_cons, cells_agg, cells_i, cells_b, cells_s, cells_imm, toI_i, toB_b, toS_s, toL_imm, nth_agg, nth_tup, put_agg, put_i, put_b, put_s, put_imm, setCells, List.getD_cons_zero, List.getD_cons_succ, bSh_b, bSh_i, bSh_s, bSh_sl, bSh_some, cond_true, cond_false, decide_true, decide_false, Int.toNat_natCast, Nat.zero_add, Nat.reduceAdd, beq_self_eq_true, Bool.and_true, Bool.true_and, if_true, Bool.false_eq_true, if_false, List.set_cons_zero, List.set_cons_succ, Bool.not_true, Bool.not_false, Bool.and_self, f111o1_j2_eq]
        rw [w64 (x := (k : Int) + 1) (by omega) (by omega), if_pos (by omega), w64 (x := (i : Int) + 1) (by omega) (by omega)]
        have hput : (r.getD k .x).putCells 0 (m.getD i .x).cells = m.getD i .x := by
          obtain ⟨a0, a1, a2, a3, a4, a5, a6, a7, a8, a9, e1, _⟩ := hT'
          obtain ⟨b0, b1, b2, b3, b4, b5, b6, b7, b8, b9, e2, _⟩ := hT
          rw [e1, e2]; rfl
        have hcl : [(.i .i64 ((m.getD i .x).cells.getD 0 .x).toI), (.i .i64 ((m.getD i .x).cells.getD 1 .x).toI), (.i .i64 ((m.getD i .x).cells.getD 2 .x).toI), (.i .i64 ((m.getD i .x).cells.getD 3 .x).toI), (.i .i64 ((m.getD i .x).cells.getD 4 .x).toI), (.s ((m.getD i .x).cells.getD 5 .x).toS), (.s ((m.getD i .x).cells.getD 6 .x).toS), (.i .i64 ((m.getD i .x).cells.getD 7 .x).toI), (.i .i64 ((m.getD i .x).cells.getD 8 .x).toI), (.i .i64 ((m.getD i .x).cells.getD 9 .x).toI)] = (m.getD i .x).cells := by
          obtain ⟨b0, b1, b2, b3, b4, b5, b6, b7, b8, b9, e2, _⟩ := hT
          rw [e2]; rfl
        rw [hcl, hput]
        cases inZone q (m.getD i .x) <;> simp
      · try dsimp only
        rw [f111o1_l1_eq, dF (show ¬ ((m.length : Nat) : Int) < ((r.length : Nat) : Int) by omega), cond_false, if_pos (by omega)]
        simp only [Int.toNat_natCast]
        rw [if_pos (by simp only [List.length_append, List.length_take, List.length_replicate, List.length_drop]; omega)]
        rfl
      · rw [take_getD hj, List.filter_append, hjn, List.filter_cons, if_neg (by rw [h2]; decide)]
        simp
    obtain ⟨r', g1, g2, g3⟩ := key
    have hWl : (W (m.filter (inZone q)).length r').length = m.length := by
      have : (m.filter (inZone q)).length ≤ m.length := List.length_filter_le _ _
      simp only [W, List.length_append, List.length_take, List.length_replicate, List.length_drop]
      omega
    have hle : (m.filter (inZone q)).length ≤ r'.length := by rw [g2]; exact List.length_filter_le _ _
    refine ⟨W (m.filter (inZone q)).length r', g1, hWl, fun y hy => ?_, ?_⟩
    · simp only [W, List.mem_append] at hy
      rcases hy with (hy | hy) | hy
      · rw [g3] at hy
        exact hfl y (hm.2 y (List.mem_filter.1 hy).1)
      · rw [(List.mem_replicate.1 hy).2]; rfl
      · rw [List.drop_eq_nil_of_le (by omega)] at hy; cases hy
    · simp only [W, List.append_assoc]
      rw [List.take_append_of_le_length (by rw [List.length_take]; omega), List.take_take, Nat.min_self, g3]

theorem impl_in (n z s q : Int) (m : List AV) (hm : Rw (T98 1048576) 1048576 m) : den E 76 [.agg [(.i .i64 n), (.i .i64 z), (.i .i64 s), (.imm 10 m)], (.i .i64 q)] [] = some (.imm 10 (m.filter (inZone q))) := by
  have hml := hm.1
  obtain ⟨r, h1, h2, h3, h4⟩ := impl_del m hm q
  rw [f76_eq, f112_eq, if_pos ⟨rfl, by simp only [room]; omega⟩]
  rw [bOwn_so]
  show bOwnFS _ _ _ _ (dno E _ _ [.live true false false 106 m]) _ = _
  rw [h1, bOwnFS_some, if_pos (by simp only [okS_pr, okRs_cons, okRs_nil, okR_same, flat_sl, flatR_live, List.all_cons, List.all_nil, flatVL_of h3, List.length_cons, List.length_nil, Bool.and_self, Nat.reduceLeDiff, decide_true, Nat.le_refl, Nat.zero_add])]
  refine (if_pos (show okLens [.same 106] [.live true false false 106 m] [.live true false false 106 r] = true by rw [okLens_same, okLens_nil]; simp only [row_live, h2, decide_true, Bool.and_self])).trans ?_
  show some (AV.imm 10 ((r.drop 0).take (m.filter (inZone q)).length)) = _
  rw [List.drop_zero, h4]


theorem rw_filt {T : AV → Prop} {B : Nat} {l : List AV} (h : Rw T B l) (f : AV → Bool) : Rw T B (l.filter f) := ⟨Nat.le_trans (List.length_filter_le _ _) h.1, fun y hy => h.2 y (List.mem_filter.1 hy).1⟩


/-! A zone's role. -/
abbrev verV (n z s : Int) (m : List AV) : AV := .agg [(.i .i64 n), (.i .i64 z), (.i .i64 s), (.imm 10 m)]
noncomputable def roleV (i z st : Int) (cnt : Nat) : Int := cond (decide (i < 2)) 1 (cond (decide (st = 4)) 6 (cond (decide (i = z)) 2 (cond (decide ((0 : Int) < ((cnt : Nat) : Int))) 3 (cond (decide (st = 1)) 4 5))))
noncomputable def roleAt (z : Int) (m zs : List AV) (i : Nat) : Int := roleV (i : Int) z (zSt (zs.getD i .x)) (m.filter (inZone (i : Int))).length
theorem spec_role {d b p fu ke op n z s : Int} {l zs m : List AV} {of_ : Bool} (hz : Rw (T95 1048576) 1048576 zs) (hm : Rw (T98 1048576) 1048576 m) {i : Nat} (hi : i < zs.length) :
    den E 35 [(.ip (devV d b p l fu ke of_ op zs) 0), (.ip (verV n z s m) 0), (.i .i64 (i : Int))] [] = some (.i .i64 (roleAt z m zs i)) := by
  have hT := hz.at hi
  have hb : (0 : Int) ≤ (i : Int) ∧ (i : Int) < ((zs.length : Nat) : Int) := by omega
  have hst := spec_tables n z s (i : Int) m hm
  rw [f35_eq, Int.toNat_natCast, hst, bSh_sl]
  unfold roleAt roleV
  cases decide ((i : Int) < 2)
  rotate_left
  · rfl
  simp only [cond_false]
  refine (if_pos (by rfl)).trans ((if_pos hb).trans ((if_pos hT.ok0).trans ?_))
  show cond (decide (zSt (zs.getD i .x) = 4)) _ _ = _
  cases decide (zSt (zs.getD i .x) = 4)
  rotate_left
  · rfl
  simp only [cond_false]
  refine (if_pos (by rfl)).trans ?_
  show cond (decide ((i : Int) = z)) _ (cond (decide ((0 : Int) < (((m.filter (inZone (i : Int))).length : Nat) : Int))) _ _) = _
  cases decide ((i : Int) = z)
  rotate_left
  · rfl
  simp only [cond_false]
  cases decide ((0 : Int) < (((m.filter (inZone (i : Int))).length : Nat) : Int))
  rotate_left
  · rfl
  simp only [cond_false]
  refine (if_pos (by rfl)).trans ((if_pos hb).trans ((if_pos hT.ok0).trans ?_))
  show cond (decide (zSt (zs.getD i .x) = 1)) _ _ = _
  cases decide (zSt (zs.getD i .x) = 1) <;> rfl
theorem impl_role {d b p fu ke op n z s : Int} {l zs m : List AV} {of_ : Bool} (hz : Rw (T95 1048576) 1048576 zs) (hm : Rw (T98 1048576) 1048576 m) {i : Nat} (hi : i < zs.length) :
    den E 41 [(.ip (devV d b p l fu ke of_ op zs) 0), (verV n z s m), (.i .i64 (i : Int))] [] = some (.i .i64 (roleAt z m zs i)) := by
  have hT := hz.at hi
  have hb : (0 : Int) ≤ (i : Int) ∧ (i : Int) < ((zs.length : Nat) : Int) := by omega
  have hst := impl_in n z s (i : Int) m hm
  rw [f41_eq, Int.toNat_natCast, hst, bSh_sl]
  unfold roleAt roleV
  cases decide ((i : Int) < 2)
  rotate_left
  · rfl
  simp only [cond_false]
  refine (if_pos (by rfl)).trans ((if_pos hb).trans ((if_pos hT.ok0).trans ?_))
  show cond (decide (zSt (zs.getD i .x) = 4)) _ _ = _
  cases decide (zSt (zs.getD i .x) = 4)
  rotate_left
  · rfl
  simp only [cond_false]
  show cond (decide ((i : Int) = z)) _ (cond (decide ((0 : Int) < (((m.filter (inZone (i : Int))).length : Nat) : Int))) _ _) = _
  cases decide ((i : Int) = z)
  rotate_left
  · rfl
  simp only [cond_false]
  cases decide ((0 : Int) < (((m.filter (inZone (i : Int))).length : Nat) : Int))
  rotate_left
  · rfl
  simp only [cond_false]
  refine (if_pos (by rfl)).trans ((if_pos hb).trans ((if_pos hT.ok0).trans ?_))
  show cond (decide (zSt (zs.getD i .x) = 1)) _ _ = _
  cases decide (zSt (zs.getD i .x) = 1) <;> rfl


/-! The zones of a role. -/
noncomputable def withTo (role z : Int) (m zs : List AV) : Nat → List AV
  | 0 => []
  | i + 1 => cond (decide (roleAt z m zs i = role)) (withTo role z m zs i ++ [.i .i64 (i : Int)]) (withTo role z m zs i)
theorem withTo_mem {role z : Int} {m zs : List AV} : ∀ {i : Nat} {y : AV}, y ∈ withTo role z m zs i → ∃ k : Nat, k < i ∧ y = .i .i64 (k : Int)
  | 0, _, h => by simp [withTo] at h
  | i + 1, y, h => by
    simp only [withTo] at h
    cases hc : decide (roleAt z m zs i = role)
    · rw [hc] at h
      obtain ⟨k, h1, h2⟩ := withTo_mem h
      exact ⟨k, by omega, h2⟩
    · rw [hc] at h
      rcases List.mem_append.1 h with g | g
      · obtain ⟨k, h1, h2⟩ := withTo_mem g
        exact ⟨k, by omega, h2⟩
      · exact ⟨i, by omega, List.mem_singleton.1 g⟩
theorem withTo_len {role z : Int} {m zs : List AV} : ∀ (i : Nat), (withTo role z m zs i).length ≤ i
  | 0 => by simp [withTo]
  | i + 1 => by
    have := withTo_len (role := role) (z := z) (m := m) (zs := zs) i
    simp only [withTo]
    cases decide (roleAt z m zs i = role)
    · simp only [cond_false]; omega
    · simp only [cond_true, List.length_append, List.length_cons, List.length_nil]; omega
theorem with_at {role z : Int} {m zs : List AV} {j : Nat} (hj : j < (withTo role z m zs zs.length).length) : ∃ k : Nat, k < zs.length ∧ (withTo role z m zs zs.length).getD j .x = .i .i64 (k : Int) := withTo_mem (getD_mem hj)
section
variable {d b p fu ke op n z s : Int} {l zs m : List AV} {of_ : Bool}
theorem spec_with (hz : Rw (T95 1048576) 1048576 zs) (hm : Rw (T98 1048576) 1048576 m) (role : Int) :
    den E 49 [(.ip (devV d b p l fu ke of_ op zs) 0), (.ip (verV n z s m) 0), (.i .i64 role)] [] = some (.imm 1 (withTo role z m zs zs.length)) := by
  have hzl := hz.1
  rw [f49_eq]
  have := loop_to (R := AV) (L := fun i => f49_l1 (devV d b p l fu ke of_ op zs) (verV n z s m) role i [] (withTo role z m zs i.toNat)) (n := zs.length) (X := some (.imm 1 (withTo role z m zs zs.length))) (fun i hi => ?_) ?_
  · exact this
  · try dsimp only
    have hlen := withTo_len (role := role) (z := z) (m := m) (zs := zs) i
    rw [f49_l1_eq, Int.toNat_natCast, show ((i : Int) + 1).toNat = i + 1 by omega]
    refine (if_pos (by rfl)).trans ?_
    show cond (decide ((i : Int) < ((zs.length : Nat) : Int))) _ _ = _
    rw [dT (show (i : Int) < ((zs.length : Nat) : Int) by omega), cond_true, spec_role hz hm hi, bSh_i]
    show cond (decide (roleAt z m zs i = role)) _ _ = _
    simp only [withTo]
    cases decide (roleAt z m zs i = role)
    · rw [cond_false, cond_false, f49_j2_eq, w64 (x := (i : Int) + 1) (by omega) (by omega)]
    · rw [cond_true, cond_true, if_pos (show ((withTo role z m zs i).length + ([(.i .i64 (i : Int))] : List AV).length) * 8 ≤ room by simp only [room, List.length_cons, List.length_nil]; omega), f49_j2_eq, w64 (x := (i : Int) + 1) (by omega) (by omega)]
  · try dsimp only
    rw [f49_l1_eq, Int.toNat_natCast]
    refine (if_pos (by rfl)).trans ?_
    show cond (decide (((zs.length : Nat) : Int) < ((zs.length : Nat) : Int))) _ _ = _
    rw [dF (Int.lt_irrefl _), cond_false]
theorem impl_with (hz : Rw (T95 1048576) 1048576 zs) (hm : Rw (T98 1048576) 1048576 m) (role : Int) :
    den E 50 [(.ip (devV d b p l fu ke of_ op zs) 0), (verV n z s m), (.i .i64 role)] [] = some (.imm 1 (withTo role z m zs zs.length)) := by
  have hzl := hz.1
  rw [f50_eq]
  refine (if_pos (by rfl)).trans ?_
  have := loop_to (R := AV) (L := fun i => f50_l1 (devV d b p l fu ke of_ op zs) role ((zs.length : Nat) : Int) i n z s m [] (withTo role z m zs i.toNat)) (n := zs.length) (X := some (.imm 1 (withTo role z m zs zs.length))) (fun i hi => ?_) ?_
  · exact this
  · try dsimp only
    have hlen := withTo_len (role := role) (z := z) (m := m) (zs := zs) i
    rw [f50_l1_eq, Int.toNat_natCast, show ((i : Int) + 1).toNat = i + 1 by omega, dT (show (i : Int) < ((zs.length : Nat) : Int) by omega), cond_true, impl_role hz hm hi, bSh_i]
    show cond (decide (roleAt z m zs i = role)) _ _ = _
    simp only [withTo]
    cases decide (roleAt z m zs i = role)
    · rw [cond_false, cond_false, f50_j2_eq, w64 (x := (i : Int) + 1) (by omega) (by omega)]
    · rw [cond_true, cond_true, if_pos (show ((withTo role z m zs i).length + ([(.i .i64 (i : Int))] : List AV).length) * 8 ≤ room by simp only [room, List.length_cons, List.length_nil]; omega), f50_j2_eq, w64 (x := (i : Int) + 1) (by omega) (by omega)]
  · try dsimp only
    rw [f50_l1_eq, Int.toNat_natCast, dF (Int.lt_irrefl _), cond_false]
end


/-! A zone's wear. -/
noncomputable def wearTo (l bl : List AV) : Nat → Int
  | 0 => 0
  | i + 1 => IntKind.i64.wrap (wearTo l bl i + iv l (iv bl i).toNat)
theorem spec_wearz {d b p fu ke op : Int} {l zs : List AV} {of_ : Bool} (hL : Rw (T135 1048576) 1048576 l) (hz : Rw (T95 1048576) 1048576 zs) {i : Nat} (hi : i < zs.length)
    (hb : ∀ j, j < (zBl (zs.getD i .x)).length → 0 ≤ iv (zBl (zs.getD i .x)) j ∧ iv (zBl (zs.getD i .x)) j < ((l.length : Nat) : Int)) :
    den E 83 [(.ip (devV d b p l fu ke of_ op zs) 0), (.i .i64 (i : Int))] [] = some (.i .i64 (wearTo l (zBl (zs.getD i .x)) (zBl (zs.getD i .x)).length)) := by
  have hT := hz.at hi
  obtain ⟨a0, a1, a2, a3, a4, a5, he, _, w1, _⟩ := hT
  rw [he] at hb ⊢
  have hl1 := w1.1
  have hlen : ((zs.getD (i : Int).toNat .x).cells.getD 1 .x).toL = a1 := by rw [Int.toNat_natCast, he]; rfl
  rw [f83_eq]
  have := loop_to (R := AV) (L := fun j => f83_l1 (devV d b p l fu ke of_ op zs) (i : Int) (wearTo l a1 j.toNat) j) (n := a1.length) (X := some (.i .i64 (wearTo l a1 a1.length))) (fun j hj => ?_) ?_
  · exact this
  · obtain ⟨x, hx, wx, _⟩ := w1.at hj
    have hbj := hb j hj
    have hv : iv a1 j = x := by unfold iv; rw [hx]; rfl
    have hbx : 0 ≤ x ∧ x < ((l.length : Nat) : Int) := by rw [← hv]; exact hbj
    have hB := hL.at (show x.toNat < l.length by omega)
    try dsimp only
    rw [f83_l1_eq]
    refine (if_pos (by rfl)).trans ((if_pos (show 0 ≤ (i : Int) ∧ (i : Int) < ((zs.length : Nat) : Int) by omega)).trans ((if_pos (show okCells false (zs.getD (i : Int).toNat .x) 1 _ = true by rw [Int.toNat_natCast, he]; rfl)).trans ?_))
    show cond (decide ((j : Int) < (((((zs.getD (i : Int).toNat .x).cells.getD 1 .x).toL).length : Nat) : Int))) _ _ = _
    rw [dT (show (j : Int) < (((((zs.getD (i : Int).toNat .x).cells.getD 1 .x).toL).length : Nat) : Int) by rw [hlen]; omega), cond_true]
    refine (if_pos (by rfl)).trans ((if_pos (by rfl)).trans ((if_pos (show 0 ≤ (i : Int) ∧ (i : Int) < ((zs.length : Nat) : Int) by omega)).trans ((if_pos (show okCells false (zs.getD (i : Int).toNat .x) 1 _ = true by rw [Int.toNat_natCast, he]; rfl)).trans ?_)))
    refine (if_pos (show 0 ≤ (j : Int) ∧ (j : Int) < (((((zs.getD (i : Int).toNat .x).cells.getD 1 .x).toL).length : Nat) : Int) by rw [hlen]; omega)).trans ?_
    refine (if_pos (show okCells false ((((zs.getD (i : Int).toNat .x).cells.getD 1 .x).toL).getD (j : Int).toNat .x) 0 _ = true by rw [hlen, Int.toNat_natCast, hx]; rfl)).trans ?_
    refine (if_pos (show 0 ≤ iv (((zs.getD (i : Int).toNat .x).cells.getD 1 .x).toL) (j : Int).toNat ∧ iv (((zs.getD (i : Int).toNat .x).cells.getD 1 .x).toL) (j : Int).toNat < ((l.length : Nat) : Int) by rw [hlen, Int.toNat_natCast, hv]; exact hbx)).trans ?_
    refine (if_pos (show okCells false (l.getD (iv (((zs.getD (i : Int).toNat .x).cells.getD 1 .x).toL) (j : Int).toNat).toNat .x) 0 _ = true by rw [hlen, Int.toNat_natCast, hv]; exact hB.ok0)).trans ?_
    show f83_l1 _ _ (IntKind.i64.wrap (wearTo l a1 (j : Int).toNat + iv l (iv (((zs.getD (i : Int).toNat .x).cells.getD 1 .x).toL) (j : Int).toNat).toNat)) _ = _
    rw [hlen, Int.toNat_natCast, w64 (x := (j : Int) + 1) (by omega) (by omega), show ((j : Int) + 1).toNat = j + 1 by omega]
    rfl
  · try dsimp only
    rw [f83_l1_eq]
    refine (if_pos (by rfl)).trans ((if_pos (show 0 ≤ (i : Int) ∧ (i : Int) < ((zs.length : Nat) : Int) by omega)).trans ((if_pos (show okCells false (zs.getD (i : Int).toNat .x) 1 _ = true by rw [Int.toNat_natCast, he]; rfl)).trans ?_))
    show cond (decide (((a1.length : Nat) : Int) < (((((zs.getD (i : Int).toNat .x).cells.getD 1 .x).toL).length : Nat) : Int))) _ _ = _
    rw [dF (show ¬ ((a1.length : Nat) : Int) < (((((zs.getD (i : Int).toNat .x).cells.getD 1 .x).toL).length : Nat) : Int) by rw [hlen]; omega), cond_false, Int.toNat_natCast]
theorem impl_wearz {d b p fu ke op : Int} {l zs : List AV} {of_ : Bool} (hL : Rw (T135 1048576) 1048576 l) (hz : Rw (T95 1048576) 1048576 zs) {i : Nat} (hi : i < zs.length)
    (hb : ∀ j, j < (zBl (zs.getD i .x)).length → 0 ≤ iv (zBl (zs.getD i .x)) j ∧ iv (zBl (zs.getD i .x)) j < ((l.length : Nat) : Int)) :
    den E 86 [(.ip (devV d b p l fu ke of_ op zs) 0), (.i .i64 (i : Int))] [] = some (.i .i64 (wearTo l (zBl (zs.getD i .x)) (zBl (zs.getD i .x)).length)) := by
  have hT := hz.at hi
  obtain ⟨a0, a1, a2, a3, a4, a5, he, _, w1, _⟩ := hT
  rw [he] at hb ⊢
  have hl1 := w1.1
  have hlen : ((zs.getD (i : Int).toNat .x).cells.getD 1 .x).toL = a1 := by rw [Int.toNat_natCast, he]; rfl
  rw [f86_eq]
  refine (if_pos (by rfl)).trans ((if_pos (show 0 ≤ (i : Int) ∧ (i : Int) < ((zs.length : Nat) : Int) by omega)).trans ((if_pos (show okCells false (zs.getD (i : Int).toNat .x) 1 _ = true by rw [Int.toNat_natCast, he]; rfl)).trans ?_))
  show f86_l1 (devV d b p l fu ke of_ op zs) 0 (((zs.getD (i : Int).toNat .x).cells.getD 1 .x).toL) (((((zs.getD (i : Int).toNat .x).cells.getD 1 .x).toL).length : Nat) : Int) 0 = _
  rw [hlen]
  have := loop_to (R := AV) (L := fun j => f86_l1 (devV d b p l fu ke of_ op zs) (wearTo l a1 j.toNat) a1 ((a1.length : Nat) : Int) j) (n := a1.length) (X := some (.i .i64 (wearTo l a1 a1.length))) (fun j hj => ?_) ?_
  · exact this
  · obtain ⟨x, hx, wx, _⟩ := w1.at hj
    have hbj := hb j hj
    have hv : iv a1 j = x := by unfold iv; rw [hx]; rfl
    have hbx : 0 ≤ x ∧ x < ((l.length : Nat) : Int) := by rw [← hv]; exact hbj
    have hB := hL.at (show x.toNat < l.length by omega)
    try dsimp only
    rw [f86_l1_eq, dT (show (j : Int) < ((a1.length : Nat) : Int) by omega), cond_true, if_pos (by omega), Int.toNat_natCast, w64 (x := (j : Int) + 1) (by omega) (by omega), show ((j : Int) + 1).toNat = j + 1 by omega]
    refine (if_pos (show okCells false (a1.getD j .x) 0 _ = true by rw [hx]; rfl)).trans ((if_pos (by rfl)).trans ?_)
    refine (if_pos (show 0 ≤ iv a1 j ∧ iv a1 j < ((l.length : Nat) : Int) by rw [hv]; exact hbx)).trans ?_
    refine (if_pos (show okCells false (l.getD (iv a1 j).toNat .x) 0 _ = true by rw [hv]; exact hB.ok0)).trans ?_
    rfl
  · try dsimp only
    rw [f86_l1_eq, dF (Int.lt_irrefl _), cond_false, Int.toNat_natCast]


/-! The free zone with the least wear. -/
noncomputable def wearZ (l zs : List AV) (q : Int) : Int := wearTo l (zBl (zs.getD q.toNat .x)) (zBl (zs.getD q.toNat .x)).length
theorem wear_bound {l bl : List AV} : ∀ {k : Nat}, (∀ j, j < k → 0 ≤ iv l (iv bl j).toNat ∧ iv l (iv bl j).toNat ≤ 1000) → k ≤ 1000 → 0 ≤ wearTo l bl k ∧ wearTo l bl k ≤ 1000 * k
  | 0, _, _ => by simp [wearTo]
  | k + 1, h, hk => by
    obtain ⟨h1, h2⟩ := wear_bound (l := l) (bl := bl) (k := k) (fun j hj => h j (by omega)) (by omega)
    obtain ⟨h3, h4⟩ := h k (by omega)
    simp only [wearTo]
    rw [w64 (by omega) (by omega)]
    omega
theorem okDev_wear {d b p : Int} {l : List AV} {fu ke op : Int} {zs : List AV} (h : okDev d b p l fu ke op zs = true) {k : Nat} (hk : k < zs.length) : 0 ≤ wearZ l zs (k : Int) ∧ wearZ l zs (k : Int) ≤ 3000 := by
  obtain ⟨hg, hz, hb⟩ := okDev_zone h hk
  simp only [okDev, Bool.and_eq_true] at h
  obtain ⟨h1, _⟩ := h
  simp only [okFl, Bool.and_eq_true, List.all_eq_true] at h1
  obtain ⟨_, _, _, _, _, h2⟩ := h1
  simp only [zoneOk, Bool.and_eq_true] at hz
  have hlen := places_len hz.1
  unfold wearZ
  rw [Int.toNat_natCast]
  have := wear_bound (l := l) (bl := zBl (zs.getD k .x)) (k := (zBl (zs.getD k .x)).length) (fun j hj => by
    obtain ⟨g1, g2⟩ := hb j hj
    have g3 := h2 (iv (zBl (zs.getD k .x)) j).toNat (by simp only [List.mem_range'_1]; omega)
    simp only [okB, Bool.and_eq_true, decide_eq_true_eq] at g3
    exact g3.1) (by omega)
  omega
noncomputable def least (l zs L : List AV) : Nat → Int
  | 0 => iv L 0
  | j + 1 => cond (decide (wearZ l zs (iv L (j + 1)) < wearZ l zs (least l zs L j))) (iv L (j + 1)) (least l zs L j)
theorem least_mem {l zs L : List AV} {n : Nat} (hL : ∀ j, j < L.length → ∃ k : Nat, k < n ∧ iv L j = (k : Int)) : ∀ {j : Nat}, j < L.length → ∃ k : Nat, k < n ∧ least l zs L j = (k : Int)
  | 0, hj => hL 0 hj
  | j + 1, hj => by
    simp only [least]
    cases decide (wearZ l zs (iv L (j + 1)) < wearZ l zs (least l zs L j))
    · exact least_mem hL (by omega)
    · exact hL (j + 1) hj
section
variable {d b p fu ke op n z s : Int} {l zs m : List AV} {of_ : Bool}
theorem spec_wz (hL : Rw (T135 1048576) 1048576 l) (hz : Rw (T95 1048576) 1048576 zs) (hD : okDev d b p l fu ke op zs = true) {k : Nat} (hk : k < zs.length) :
    den E 83 [(.ip (devV d b p l fu ke of_ op zs) 0), (.i .i64 (k : Int))] [] = some (.i .i64 (wearZ l zs (k : Int))) := by
  obtain ⟨_, _, hb⟩ := okDev_zone hD hk
  rw [spec_wearz hL hz hk hb]
  unfold wearZ
  rw [Int.toNat_natCast]
theorem impl_wz (hL : Rw (T135 1048576) 1048576 l) (hz : Rw (T95 1048576) 1048576 zs) (hD : okDev d b p l fu ke op zs = true) {k : Nat} (hk : k < zs.length) :
    den E 86 [(.ip (devV d b p l fu ke of_ op zs) 0), (.i .i64 (k : Int))] [] = some (.i .i64 (wearZ l zs (k : Int))) := by
  obtain ⟨_, _, hb⟩ := okDev_zone hD hk
  rw [impl_wearz hL hz hk hb]
  unfold wearZ
  rw [Int.toNat_natCast]
noncomputable def freshV (l zs L : List AV) : Int := cond (decide (((L.length : Nat) : Int) = 0)) (-1) (least l zs L (L.length - 1))
theorem spec_fresh (hL : Rw (T135 1048576) 1048576 l) (hz : Rw (T95 1048576) 1048576 zs) (hm : Rw (T98 1048576) 1048576 m) (hD : okDev d b p l fu ke op zs = true) :
    den E 47 [(.ip (devV d b p l fu ke of_ op zs) 0), (.ip (verV n z s m) 0)] [] = some (.i .i64 (freshV l zs (withTo 4 z m zs zs.length))) := by
  have hzl := hz.1
  rw [f47_eq, spec_with hz hm, bSh_sl]
  have hW := fun j hj => with_at (role := 4) (z := z) (m := m) (zs := zs) (j := j) hj
  have hll := withTo_len (role := 4) (z := z) (m := m) (zs := zs) zs.length
  generalize withTo 4 z m zs zs.length = L at hW hll ⊢
  have hI : ∀ j, j < L.length → ∃ k : Nat, k < zs.length ∧ iv L j = (k : Int) := fun j hj => by
    obtain ⟨k, hk, he⟩ := hW j hj
    exact ⟨k, hk, by unfold iv; rw [he]; rfl⟩
  show f47_l1 (devV d b p l fu ke of_ op zs) (-1) L 0 = _
  have key : ∀ (k j : Nat), j + k = L.length → f47_l1 (devV d b p l fu ke of_ op zs) (cond (decide (j = 0)) (-1) (least l zs L (j - 1))) L (j : Int) = some (.i .i64 (freshV l zs L)) := by
    intro k
    induction k with
    | zero =>
      intro j h
      obtain rfl : j = L.length := by omega
      rw [f47_l1_eq, dF (Int.lt_irrefl _), cond_false]
      unfold freshV
      by_cases h0 : L.length = 0
      · rw [dT h0, dT (show ((L.length : Nat) : Int) = 0 by omega)]
      · rw [dF h0, dF (show ¬ ((L.length : Nat) : Int) = 0 by omega)]
    | succ k ih =>
      intro j h
      have hj : j < L.length := by omega
      obtain ⟨q, hq, he⟩ := hW j hj
      have hiv : iv L j = (q : Int) := by unfold iv; rw [he]; rfl
      have hb : (0 : Int) ≤ (j : Int) ∧ (j : Int) < ((L.length : Nat) : Int) := by omega
      have hok : okCells false (L.getD j .x) 0 [(.i .i64)] = true := by rw [he]; rfl
      have hs := ih (j + 1) (by omega)
      rw [dF (show ¬ j + 1 = 0 by omega), cond_false, show j + 1 - 1 = j by omega] at hs
      have j3 : ∀ v : Int, f47_j3 (devV d b p l fu ke of_ op zs) v L (j : Int) = f47_l1 (devV d b p l fu ke of_ op zs) v L ((j : Int) + 1) := fun v => by
        rw [f47_j3_eq, w64 (x := (j : Int) + 1) (by omega) (by omega)]
      have j2 : f47_j2 (devV d b p l fu ke of_ op zs) L (j : Int) = f47_l1 (devV d b p l fu ke of_ op zs) (iv L j) L ((j : Int) + 1) := by
        rw [f47_j2_eq, Int.toNat_natCast]
        refine (if_pos hb).trans ((if_pos hok).trans ?_)
        exact j3 _
      rw [f47_l1_eq, dT (show (j : Int) < ((L.length : Nat) : Int) by omega), cond_true]
      by_cases h0 : j = 0
      · subst h0
        rw [dT rfl, cond_true, dT (show (-1 : Int) < 0 by decide)]
        show f47_j2 _ _ _ = _
        rw [j2]
        exact hs
      · rw [dF h0, cond_false, Int.toNat_natCast]
        obtain ⟨j', rfl⟩ : ∃ j', j = j' + 1 := ⟨j - 1, by omega⟩
        rw [show j' + 1 - 1 = j' by omega]
        obtain ⟨r, hr, hle⟩ := least_mem (l := l) (zs := zs) hI (j := j') (by omega)
        rw [dF (show ¬ least l zs L j' < 0 by omega)]
        show (if _ then _ else _) = _
        refine (if_pos hb).trans ((if_pos hok).trans ?_)
        show bSh (.i .i64) (den E 83 [(.ip (devV d b p l fu ke of_ op zs) 0), (.i .i64 (iv L (j' + 1)))] []) (fun a1 => bSh (.i .i64) (den E 83 [(.ip (devV d b p l fu ke of_ op zs) 0), (.i .i64 (least l zs L j'))] []) fun a2 => cond (decide (a1.toI < a2.toI)) (f47_j2 (devV d b p l fu ke of_ op zs) L ((j' + 1 : Nat) : Int)) (f47_j3 (devV d b p l fu ke of_ op zs) (least l zs L j') L ((j' + 1 : Nat) : Int))) = _
        simp only [least] at hs
        rw [hiv, hle] at hs ⊢
        rw [spec_wz hL hz hD hq, bSh_i, spec_wz hL hz hD hr, bSh_i]
        show cond (decide (wearZ l zs (q : Int) < wearZ l zs (r : Int))) _ _ = _
        rw [← hs, j2, j3, hiv]
        cases decide (wearZ l zs (q : Int) < wearZ l zs (r : Int)) <;> rfl
  exact key L.length 0 (by omega)
theorem impl_fresh (hL : Rw (T135 1048576) 1048576 l) (hz : Rw (T95 1048576) 1048576 zs) (hm : Rw (T98 1048576) 1048576 m) (hD : okDev d b p l fu ke op zs = true) :
    den E 48 [(.ip (devV d b p l fu ke of_ op zs) 0), (verV n z s m)] [] = some (cond (decide ((((withTo 4 z m zs zs.length).length : Nat) : Int) = 0)) (.tup [(.i .i64 0), (.b false)]) (.tup [(.i .i64 (freshV l zs (withTo 4 z m zs zs.length))), (.b true)])) := by
  have hzl := hz.1
  rw [f48_eq, impl_with hz hm, bSh_sl]
  have hW := fun j hj => with_at (role := 4) (z := z) (m := m) (zs := zs) (j := j) hj
  have hll := withTo_len (role := 4) (z := z) (m := m) (zs := zs) zs.length
  generalize withTo 4 z m zs zs.length = L at hW hll ⊢
  have hI : ∀ j, j < L.length → ∃ k : Nat, k < zs.length ∧ iv L j = (k : Int) := fun j hj => by
    obtain ⟨k, hk, he⟩ := hW j hj
    exact ⟨k, hk, by unfold iv; rw [he]; rfl⟩
  show cond (decide (((L.length : Nat) : Int) = 0)) _ (bSh (.i .i64) (den E 84 [(.imm 1 L), (.fn 85 [(.ip (.ip (devV d b p l fu ke of_ op zs) 0) 0)])] []) fun a2 => some (AV.tup [(.i .i64 a2.toI), (.b true)])) = _
  by_cases h0 : ((L.length : Nat) : Int) = 0
  · rw [dT h0]; rfl
  rw [dF h0, cond_false, cond_false]
  have h00 : 0 < L.length := by omega
  have hmin : den E 84 [(.imm 1 L), (.fn 85 [(.ip (.ip (devV d b p l fu ke of_ op zs) 0) 0)])] [] = some (.i .i64 (least l zs L (L.length - 1))) := by
    rw [f84q1_eq, dF (show ¬ ((L.length : Nat) : Int) < 1 by omega), cond_false, if_pos (by omega)]
    obtain ⟨q0, hq0, he0⟩ := hW 0 h00
    refine (if_pos (show okCells false (L.getD 0 .x) 0 [(.i .i64)] = true by rw [he0]; rfl)).trans ?_
    show f84q1_l1 L (devV d b p l fu ke of_ op zs) (least l zs L 0) 1 = _
    have key : ∀ (k j : Nat), j + k + 1 = L.length → f84q1_l1 L (devV d b p l fu ke of_ op zs) (least l zs L j) ((j : Int) + 1) = some (.i .i64 (least l zs L (L.length - 1))) := by
      intro k
      induction k with
      | zero =>
        intro j h
        rw [f84q1_l1_eq, dF (show ¬ (j : Int) + 1 < ((L.length : Nat) : Int) by omega), cond_false, show L.length - 1 = j by omega]
      | succ k ih =>
        intro j h
        obtain ⟨q, hq, he⟩ := hW (j + 1) (by omega)
        have hiv : iv L (j + 1) = (q : Int) := by unfold iv; rw [he]; rfl
        obtain ⟨r, hr, hle⟩ := least_mem (l := l) (zs := zs) hI (j := j) (by omega)
        have hb : (0 : Int) ≤ (j : Int) + 1 ∧ (j : Int) + 1 < ((L.length : Nat) : Int) := by omega
        have htn : ((j : Int) + 1).toNat = j + 1 := by omega
        have hok : okCells false (L.getD (j + 1) .x) 0 [(.i .i64)] = true := by rw [he]; rfl
        have hs := ih (j + 1) (by omega)
        have hw1 := okDev_wear hD hq
        have hw2 := okDev_wear hD hr
        have hc : den E 85 [(.i .i64 (q : Int)), (.i .i64 (r : Int)), (.ip (.ip (devV d b p l fu ke of_ op zs) 0) 0)] [] = some (.i .i64 (wearZ l zs (q : Int) - wearZ l zs (r : Int))) := by
          rw [f85q1_eq, impl_wz hL hz hD hq, bSh_i, impl_wz hL hz hD hr, bSh_i]
          show some (AV.i .i64 (IntKind.i64.wrap (wearZ l zs (q : Int) - wearZ l zs (r : Int)))) = _
          rw [w64 (by omega) (by omega)]
        rw [f84q1_l1_eq, dT hb.2, cond_true, htn]
        refine (if_pos hb).trans ((if_pos hok).trans ?_)
        show bSh (.i .i64) (den E 85 [(.i .i64 (iv L (j + 1))), (.i .i64 (least l zs L j)), (.ip (.ip (devV d b p l fu ke of_ op zs) 0) 0)] []) _ = _
        simp only [least] at hs
        rw [hiv, hle] at hs ⊢
        rw [hc, bSh_i]
        show cond (decide (wearZ l zs (q : Int) - wearZ l zs (r : Int) < 0)) _ _ = _
        have e : decide (wearZ l zs (q : Int) - wearZ l zs (r : Int) < 0) = decide (wearZ l zs (q : Int) < wearZ l zs (r : Int)) := by
          rw [Bool.eq_iff_iff, decide_eq_true_eq, decide_eq_true_eq]; omega
        rw [e, ← hs]
        cases decide (wearZ l zs (q : Int) < wearZ l zs (r : Int))
        · rw [cond_false, cond_false, f84q1_j2_eq, w64 (x := (j : Int) + 1 + 1) (by omega) (by omega)]
          rfl
        · rw [cond_true, cond_true]
          refine (if_pos hb).trans ((if_pos hok).trans ?_)
          rw [f84q1_j2_eq, w64 (x := (j : Int) + 1 + 1) (by omega) (by omega)]
          show f84q1_l1 _ _ (iv L (j + 1)) _ = _
          rw [hiv]
          rfl
    exact key (L.length - 1) 0 (by omega)
  rw [hmin, bSh_i]
  unfold freshV
  rw [dF h0]
  rfl
end


/-! Room in a zone. -/
noncomputable def roomV (d p : Int) (z : AV) : Int := IntKind.i64.wrap ((IntKind.i64.wrap ((IntKind.i64.wrap (p - (((zRo z).length : Nat) : Int))) * (IntKind.i64.wrap (d - 1)))) - (((zBu z).length : Nat) : Int))
noncomputable def roomAt (d p : Int) (z : AV) : Int := cond (decide (zSt z = 1) || decide (zSt z = 2)) (roomV d p z) 0
/-- What both answer. -/
theorem rooms {d b p fu ke op : Int} {l zs : List AV} {of_ : Bool} (hz : Rw (T95 1048576) 1048576 zs) {i : Nat} (hi : i < zs.length) :
    den E 91 [(.ip (devV d b p l fu ke of_ op zs) 0), (.i .i64 (i : Int))] [] = some (.i .i64 (roomAt d p (zs.getD i .x))) ∧ den E 93 [(.ip (devV d b p l fu ke of_ op zs) 0), (.i .i64 (i : Int))] [] = some (.i .i64 (roomAt d p (zs.getD i .x))) := by
  have hT := hz.at hi
  have hu : den E 116 [(.ip (devV d b p l fu ke of_ op zs) 0)] [] = some (.i .i64 (IntKind.i64.wrap (d - 1))) := by
    rw [f116_eq, if_pos (by rfl)]
    rfl
  have hj : ∀ (c0 c2 c3 : Int) (c1 c4 c5 : List AV), f91_j1 (devV d b p l fu ke of_ op zs) c0 c1 c2 c3 c4 c5 = some (.i .i64 (IntKind.i64.wrap ((IntKind.i64.wrap ((IntKind.i64.wrap (p - ((c4.length : Nat) : Int))) * (IntKind.i64.wrap (d - 1)))) - ((c5.length : Nat) : Int)))) := by
    intro c0 c2 c3 c1 c4 c5
    rw [f91_j1_eq, if_pos (by rfl), if_pos (by rfl)]
    rfl
  have hk : ∀ (c0 c2 c3 : Int) (c1 c4 c5 : List AV), f93_j1 (devV d b p l fu ke of_ op zs) c0 c1 c2 c3 c4 c5 = some (.i .i64 (IntKind.i64.wrap ((IntKind.i64.wrap ((IntKind.i64.wrap (p - ((c4.length : Nat) : Int))) * (IntKind.i64.wrap (d - 1)))) - ((c5.length : Nat) : Int)))) := by
    intro c0 c2 c3 c1 c4 c5
    rw [f93_j1_eq, if_pos (by rfl), hu, bSh_i]
    rfl
  have hb : (0 : Int) ≤ (i : Int) ∧ (i : Int) < ((zs.length : Nat) : Int) := by omega
  have hok : okCells false (zs.getD (i : Int).toNat .x) 0 [(.i .i64), (.sl 2 1), (.i .i64), (.i .i64), (.sl 2 1), (.sl 9 1)] = true := by
    rw [Int.toNat_natCast]
    obtain ⟨a0, a1, a2, a3, a4, a5, he, _⟩ := hT
    rw [he]; rfl
  obtain ⟨a0, a1, a2, a3, a4, a5, he, _⟩ := hT
  rw [f91_eq, f93_eq]
  simp only [hj, hk]
  unfold roomAt
  refine ⟨?_, ?_⟩
  · refine (if_pos (by rfl)).trans ((if_pos hb).trans ((if_pos hok).trans ?_))
    show cond ((!decide (zSt (zs.getD (i : Int).toNat .x) = 1)) == true) (cond (!decide (zSt (zs.getD (i : Int).toNat .x) = 2)) (some (AV.i .i64 0)) (some (AV.i .i64 (roomV d p (zs.getD (i : Int).toNat .x))))) (some (AV.i .i64 (roomV d p (zs.getD (i : Int).toNat .x)))) = _
    rw [Int.toNat_natCast, he]
    show _ = some (AV.i .i64 (cond (decide (a0 = 1) || decide (a0 = 2)) (roomV d p (.agg [(.i .i64 a0), (.imm 1 a1), (.i .i64 a2), (.i .i64 a3), (.imm 1 a4), (.imm 1 a5)])) 0))
    show cond ((!decide (a0 = 1)) == true) (cond (!decide (a0 = 2)) (some (AV.i .i64 0)) (some (AV.i .i64 (roomV d p (.agg [(.i .i64 a0), (.imm 1 a1), (.i .i64 a2), (.i .i64 a3), (.imm 1 a4), (.imm 1 a5)]))))) (some (AV.i .i64 (roomV d p (.agg [(.i .i64 a0), (.imm 1 a1), (.i .i64 a2), (.i .i64 a3), (.imm 1 a4), (.imm 1 a5)])))) = _
    cases decide (a0 = 1) <;> cases decide (a0 = 2) <;> rfl
  · refine (if_pos (by rfl)).trans ((if_pos hb).trans ((if_pos hok).trans ?_))
    show cond ((!decide (zSt (zs.getD (i : Int).toNat .x) = 1)) == true) (cond (!decide (zSt (zs.getD (i : Int).toNat .x) = 2)) (some (AV.i .i64 0)) (some (AV.i .i64 (roomV d p (zs.getD (i : Int).toNat .x))))) (some (AV.i .i64 (roomV d p (zs.getD (i : Int).toNat .x)))) = _
    rw [Int.toNat_natCast, he]
    show _ = some (AV.i .i64 (cond (decide (a0 = 1) || decide (a0 = 2)) (roomV d p (.agg [(.i .i64 a0), (.imm 1 a1), (.i .i64 a2), (.i .i64 a3), (.imm 1 a4), (.imm 1 a5)])) 0))
    show cond ((!decide (a0 = 1)) == true) (cond (!decide (a0 = 2)) (some (AV.i .i64 0)) (some (AV.i .i64 (roomV d p (.agg [(.i .i64 a0), (.imm 1 a1), (.i .i64 a2), (.i .i64 a3), (.imm 1 a4), (.imm 1 a5)]))))) (some (AV.i .i64 (roomV d p (.agg [(.i .i64 a0), (.imm 1 a1), (.i .i64 a2), (.i .i64 a3), (.imm 1 a4), (.imm 1 a5)])))) = _
    cases decide (a0 = 1) <;> cases decide (a0 = 2) <;> rfl



/-! A zone for a table. -/
def pk (p : Nat → Bool) : Nat → Nat → Option Nat
  | 0, _ => none
  | d + 1, i => cond (p i) (some i) (pk p d (i + 1))
theorem pk_lt {p : Nat → Bool} : ∀ {d i j : Nat}, pk p d i = some j → j < i + d
  | 0, _, _, h => by cases h
  | d + 1, i, j, h => by
    simp only [pk] at h
    cases hp : p i
    · rw [hp] at h
      have := pk_lt (show pk p d (i + 1) = some j from h)
      omega
    · rw [hp] at h
      cases h
      omega
theorem pk_loop {L F : Int → Option AV} {n : Nat} {X : Option AV} {p : Nat → Bool} (step : ∀ i : Nat, i < n → L i = cond (p i) (F i) (L ((i : Int) + 1))) (last : L n = X) : ∀ (d i : Nat), i + d = n → L i = (pk p d i).elim X fun j => F j
  | 0, i, h => by
    have : i = n := by omega
    subst this
    exact last
  | d + 1, i, h => by
    rw [step i (by omega), show ((i : Int) + 1) = ((i + 1 : Nat) : Int) by omega, pk_loop step last d (i + 1) (by omega)]
    simp only [pk]
    cases p i <;> rfl
def lvB (lv : Int) (t : AV) : Bool := decide ((t.cells.getD 1 .x).toI = lv)
theorem all_getD {p : AV → Bool} (l : List AV) : ((List.range' 0 l.length).all fun i => p (l.getD i .x)) = l.all p := by
  rw [Bool.eq_iff_iff, List.all_eq_true, List.all_eq_true]
  constructor
  · intro h y hy
    obtain ⟨i, hi, rfl⟩ := List.getElem_of_mem hy
    have := h i (by simp [List.mem_range'_1, hi])
    rwa [List.getD_eq_getElem?_getD, List.getElem?_eq_getElem hi] at this
  · intro h i hi
    exact h _ (getD_mem (by simpa [List.mem_range'_1] using hi))
section
variable {d b p fu ke op n z s : Int} {l zs m : List AV} {of_ : Bool}
theorem spec_same (hm : Rw (T98 1048576) 1048576 m) (q lv : Int) : den E 90 [(.ip (verV n z s m) 0), (.i .i64 q), (.i .i64 lv)] [] = some (.b ((m.filter (inZone q)).all (lvB lv))) := by
  rw [f90_eq, spec_tables n z s q m hm]
  refine (bSh_sl ..).trans ?_
  show f90_l1 lv (m.filter (inZone q)) 0 = _
  have hk := rw_filt hm (inZone q)
  generalize m.filter (inZone q) = ts at hk
  have hkl := hk.1
  have := all_loop (L := fun i => f90_l1 lv ts i) (n := ts.length) (p := fun i => lvB lv (ts.getD i .x)) (X := some (.b true)) (F := some (.b false)) (fun i hi => ?_) ?_ ts.length 0 (by omega)
  · refine this.trans ?_
    rw [cond_andb, Bool.and_true, all_getD]
  · have hT := hk.at hi
    try dsimp only
    rw [f90_l1_eq, dT (show (i : Int) < ((ts.length : Nat) : Int) by omega), cond_true, if_pos (by omega), Int.toNat_natCast, hT.ok1, if_pos rfl, w64 (x := (i : Int) + 1) (by omega) (by omega)]
    show cond (!lvB lv (ts.getD i .x)) _ _ = _
    cases lvB lv (ts.getD i .x) <;> rfl
  · try dsimp only
    rw [f90_l1_eq, dF (Int.lt_irrefl _), cond_false]
theorem impl_same {ts : List AV} (hk : Rw (T98 1048576) 1048576 ts) (lv : Int) : den E 94 [(.imm 10 ts), (.fn 95 [(.ip (.i .i64 lv) 0)])] [] = some (.b (!ts.all (lvB lv))) := by
  have hkl := hk.1
  have cl : ∀ t, T98 1048576 t → den E 95 [t, (.ip (.i .i64 lv) 0)] [] = some (.b (!lvB lv t)) := fun t ht => by
    obtain ⟨a0, a1, a2, a3, a4, a5, a6, a7, a8, a9, rfl, _⟩ := ht
    have o1 : okCells false (.i .i64 lv) 0 [(.i .i64)] = true := by rfl
    rw [f95q1_eq, if_pos o1]
    rfl
  rw [f94q2_eq, f117q3_eq]
  have key := find_loop (L := fun i => f117q3_l1 ts (.i .i64 lv) ((ts.length : Nat) : Int) i) (n := ts.length) (p := fun j => !lvB lv (ts.getD j .x)) (F := fun i => some (.i .i64 i)) (X := some (.i .i64 (-1))) (fun i hi => ?_) ?_ ts.length 0 (by omega)
  · rcases key with ⟨j, _, hj, h1, h2, h3⟩ | ⟨h1, h2⟩
    · rw [show f117q3_l1 ts (.i .i64 lv) ((ts.length : Nat) : Int) 0 = _ from h3]
      have hj0 : (0 : Int) ≤ (j : Int) := by omega
      have : ts.all (lvB lv) = false := List.all_eq_false.2 ⟨_, getD_mem hj, by simpa using h1⟩
      simp only [bSh_i, toI_i, hj0, decide_true, this]
      rfl
    · rw [show f117q3_l1 ts (.i .i64 lv) ((ts.length : Nat) : Int) 0 = _ from h2]
      have : ts.all (lvB lv) = true := by
        rw [List.all_eq_true]
        intro y hy
        obtain ⟨i, hi, rfl⟩ := List.getElem_of_mem hy
        have := h1 i (Nat.zero_le _) hi
        rw [List.getD_eq_getElem?_getD, List.getElem?_eq_getElem hi] at this
        simpa using this
      simp only [bSh_i, toI_i, this]
      rfl
  · have hT := hk.at hi
    try dsimp only
    rw [f117q3_l1_eq, dT (show (i : Int) < ((ts.length : Nat) : Int) by omega), cond_true, if_pos (by omega), w64 (x := (i : Int) + 1) (by omega) (by omega)]
    simp only [Int.toNat_natCast, hT.ok, hT.eta, if_true, cl _ hT, bSh_b, toB_b]
  · try dsimp only
    rw [f117q3_l1_eq, dF (Int.lt_irrefl _), cond_false]
/-- Does the j-th zone of a list suit? -/
noncomputable def suit (d p : Int) (zs m L : List AV) (lv pg : Int) (j : Nat) : Bool := decide (pg ≤ roomAt d p (zs.getD (iv L j).toNat .x)) && (m.filter (inZone (iv L j))).all (lvB lv)
noncomputable def capV (d p : Int) : Int := IntKind.i64.wrap (IntKind.i64.wrap (d - 1) * p)
noncomputable def placeV (d p : Int) (l zs m L3 L4 : List AV) (lv pg : Int) : Int × Bool :=
  match pk (suit d p zs m L3 lv pg) L3.length 0 with
  | some j => (iv L3 j, true)
  | none => cond (decide (((L4.length : Nat) : Int) < 2) || decide (capV d p < pg)) (0, false) (freshV l zs L4, true)
theorem spec_place (hL : Rw (T135 1048576) 1048576 l) (hz : Rw (T95 1048576) 1048576 zs) (hm : Rw (T98 1048576) 1048576 m) (hD : okDev d b p l fu ke op zs = true) (lv pg : Int) :
    den E 55 [(.ip (devV d b p l fu ke of_ op zs) 0), (.ip (verV n z s m) 0), (.i .i64 lv), (.i .i64 pg), (.i .i64 (-1))] [] =
      some (cond (placeV d p l zs m (withTo 3 z m zs zs.length) (withTo 4 z m zs zs.length) lv pg).2 (.tup [(.i .i64 (placeV d p l zs m (withTo 3 z m zs zs.length) (withTo 4 z m zs zs.length) lv pg).1), (.i .i64 0)]) (.tup [(.i .i64 0), (.i .i64 4)])) := by
  have hzl := hz.1
  rw [f55_eq, spec_with hz hm]
  refine (bSh_sl ..).trans ?_
  have hW := fun j hj => with_at (role := 3) (z := z) (m := m) (zs := zs) (j := j) hj
  have hll := withTo_len (role := 3) (z := z) (m := m) (zs := zs) zs.length
  show f55_l1 (devV d b p l fu ke of_ op zs) (verV n z s m) lv pg (-1) (withTo 3 z m zs zs.length) 0 = _
  generalize withTo 3 z m zs zs.length = L3 at hW hll ⊢
  have last : f55_l1 (devV d b p l fu ke of_ op zs) (verV n z s m) lv pg (-1) L3 ((L3.length : Nat) : Int) =
      some (cond (decide ((((withTo 4 z m zs zs.length).length : Nat) : Int) < 2) || decide (capV d p < pg)) (.tup [(.i .i64 0), (.i .i64 4)]) (.tup [(.i .i64 (freshV l zs (withTo 4 z m zs zs.length))), (.i .i64 0)])) := by
    have hc : den E 92 [(.ip (devV d b p l fu ke of_ op zs) 0)] [] = some (.i .i64 (capV d p)) := by
      have o1 : okCells false (devV d b p l fu ke of_ op zs) 0 [(.i .i64)] = true := by rfl
      have o2 : okCells false (devV d b p l fu ke of_ op zs) 2 [(.i .i64)] = true := by rfl
      rw [f92_eq, if_pos o1, if_pos o2]; rfl
    rw [f55_l1_eq, dF (Int.lt_irrefl _), cond_false, spec_with hz hm]
    refine (bSh_sl ..).trans ?_
    rw [hc, spec_fresh hL hz hm hD]
    simp only [bSh_i, toI_i]
    show cond (decide ((((withTo 4 z m zs zs.length).length : Nat) : Int) < 2) == false) _ _ = _
    by_cases h2 : (((withTo 4 z m zs zs.length).length : Nat) : Int) < 2 <;> by_cases h3 : capV d p < pg <;> simp only [h2, h3, decide_true, decide_false] <;> rfl
  have := pk_loop (L := fun i => f55_l1 (devV d b p l fu ke of_ op zs) (verV n z s m) lv pg (-1) L3 i) (F := fun i => some (.tup [(.i .i64 (iv L3 i.toNat)), (.i .i64 0)])) (n := L3.length) (p := suit d p zs m L3 lv pg) (fun i hi => ?_) last L3.length 0 (by omega)
  · refine this.trans ?_
    unfold placeV
    cases pk (suit d p zs m L3 lv pg) L3.length 0 with
    | none =>
      show some _ = some _
      cases (decide ((((withTo 4 z m zs zs.length).length : Nat) : Int) < 2) || decide (capV d p < pg)) <;> rfl
    | some j => rfl
  · obtain ⟨k, hk, hkk⟩ := hW i hi
    have hiv : iv L3 i = (k : Int) := by unfold iv; rw [hkk]; rfl
    have hok : okCells false (L3.getD i .x) 0 [(.i .i64)] = true := by rw [hkk]; rfl
    have hiv' : ((L3.getD i .x).cells.getD 0 .x).toI = (k : Int) := by rw [hkk]; rfl
    have hb : (0 : Int) ≤ (i : Int) ∧ (i : Int) < ((L3.length : Nat) : Int) := by omega
    have hne : decide ((k : Int) = -1) = false := dF (by omega)
    try dsimp only
    rw [f55_l1_eq, dT (show (i : Int) < ((L3.length : Nat) : Int) by omega), cond_true]
    simp only [if_pos hb, Int.toNat_natCast, hok, if_true, hiv', hne, spec_same hm, (rooms hz hk).1, bSh_b, bSh_i, toB_b, toI_i, f55_j2_eq]
    rw [w64 (x := (i : Int) + 1) (by omega) (by omega)]
    unfold suit
    rw [hiv, Int.toNat_natCast]
    show cond ((m.filter (inZone (k : Int))).all (lvB lv) == true) (cond (decide (pg ≤ roomAt d p (zs.getD k .x))) _ _) _ = _
    cases (m.filter (inZone (k : Int))).all (lvB lv) <;> cases decide (pg ≤ roomAt d p (zs.getD k .x)) <;> rfl
theorem impl_place (hL : Rw (T135 1048576) 1048576 l) (hz : Rw (T95 1048576) 1048576 zs) (hm : Rw (T98 1048576) 1048576 m) (hD : okDev d b p l fu ke op zs = true) (lv pg : Int) :
    den E 57 [(.ip (devV d b p l fu ke of_ op zs) 0), (verV n z s m), (.i .i64 lv), (.i .i64 pg)] [] =
      some (.tup [(.i .i64 (placeV d p l zs m (withTo 3 z m zs zs.length) (withTo 4 z m zs zs.length) lv pg).1), (.b (placeV d p l zs m (withTo 3 z m zs zs.length) (withTo 4 z m zs zs.length) lv pg).2)]) := by
  have hzl := hz.1
  rw [f57_eq, impl_with hz hm]
  refine (bSh_sl ..).trans ?_
  have hW := fun j hj => with_at (role := 3) (z := z) (m := m) (zs := zs) (j := j) hj
  have hll := withTo_len (role := 3) (z := z) (m := m) (zs := zs) zs.length
  show f57_l1 (devV d b p l fu ke of_ op zs) pg (withTo 3 z m zs zs.length) (((withTo 3 z m zs zs.length).length : Nat) : Int) 0 n z s m lv = _
  generalize withTo 3 z m zs zs.length = L3 at hW hll ⊢
  have hu : den E 116 [(.ip (devV d b p l fu ke of_ op zs) 0)] [] = some (.i .i64 (IntKind.i64.wrap (d - 1))) := by
    have o1 : okCells false (devV d b p l fu ke of_ op zs) 0 [(.i .i64)] = true := by rfl
    rw [f116_eq, if_pos o1]
    rfl
  have last : f57_l1 (devV d b p l fu ke of_ op zs) pg L3 ((L3.length : Nat) : Int) ((L3.length : Nat) : Int) n z s m lv =
      some (cond (decide ((((withTo 4 z m zs zs.length).length : Nat) : Int) < 2) || decide (capV d p < pg)) (.tup [(.i .i64 0), (.b false)]) (.tup [(.i .i64 (freshV l zs (withTo 4 z m zs zs.length))), (.b true)])) := by
    have hc : den E 96 [(.ip (devV d b p l fu ke of_ op zs) 0)] [] = some (.i .i64 (capV d p)) := by
      have o2 : okCells false (devV d b p l fu ke of_ op zs) 2 [(.i .i64)] = true := by rfl
      rw [f96_eq, hu, bSh_i, if_pos o2]; rfl
    have hf := impl_fresh (n := n) (s := s) (z := z) (of_ := of_) hL hz hm hD
    simp only [verV] at hf
    rw [f57_l1_eq, dF (Int.lt_irrefl _), cond_false]
    have hw := impl_with (d := d) (b := b) (p := p) (l := l) (fu := fu) (ke := ke) (of_ := of_) (op := op) (n := n) (s := s) (z := z) hz hm 4
    simp only [verV] at hw
    rw [hw]
    refine (bSh_sl ..).trans ?_
    rw [hc, hf]
    simp only [bSh_i, toI_i]
    show cond (decide ((((withTo 4 z m zs zs.length).length : Nat) : Int) < 2) == false) _ _ = _
    by_cases h2 : (((withTo 4 z m zs zs.length).length : Nat) : Int) < 2
    · rw [dT h2]; rfl
    · rw [dF h2, dF (show ¬ (((withTo 4 z m zs zs.length).length : Nat) : Int) = 0 by omega)]
      by_cases h3 : capV d p < pg <;> simp only [h3, decide_true, decide_false] <;> rfl
  have := pk_loop (L := fun i => f57_l1 (devV d b p l fu ke of_ op zs) pg L3 ((L3.length : Nat) : Int) i n z s m lv) (F := fun i => some (.tup [(.i .i64 (iv L3 i.toNat)), (.b true)])) (n := L3.length) (p := suit d p zs m L3 lv pg) (fun i hi => ?_) last L3.length 0 (by omega)
  · refine this.trans ?_
    unfold placeV
    cases pk (suit d p zs m L3 lv pg) L3.length 0 with
    | none =>
      show some _ = some _
      cases (decide ((((withTo 4 z m zs zs.length).length : Nat) : Int) < 2) || decide (capV d p < pg)) <;> rfl
    | some j => rfl
  · obtain ⟨k, hk, hkk⟩ := hW i hi
    have hiv : iv L3 i = (k : Int) := by unfold iv; rw [hkk]; rfl
    have hok : okCells false (L3.getD i .x) 0 [(.i .i64)] = true := by rw [hkk]; rfl
    have hiv' : ((L3.getD i .x).cells.getD 0 .x).toI = (k : Int) := by rw [hkk]; rfl
    have hb : (0 : Int) ≤ (i : Int) ∧ (i : Int) < ((L3.length : Nat) : Int) := by omega
    have hi2 := impl_in n z s (k : Int) m hm
    have hs2 := impl_same (rw_filt hm (inZone (k : Int))) lv
    try dsimp only
    rw [f57_l1_eq, dT (show (i : Int) < ((L3.length : Nat) : Int) by omega), cond_true]
    simp only [if_pos hb, Int.toNat_natCast, hok, if_true, hiv', (rooms hz hk).2, hi2, hs2, bSh_b, bSh_i, bSh_sl, toB_b, toI_i, AV.toL, f57_j2_eq]
    rw [w64 (x := (i : Int) + 1) (by omega) (by omega)]
    unfold suit
    rw [hiv, Int.toNat_natCast]
    show cond (decide (pg ≤ roomAt d p (zs.getD k .x)) == true) (cond (!!(m.filter (inZone (k : Int))).all (lvB lv)) _ _) _ = _
    cases (m.filter (inZone (k : Int))).all (lvB lv) <;> cases decide (pg ≤ roomAt d p (zs.getD k .x)) <;> rfl
end


theorem answers {d b p fu ke op n z s : Int} {l zs m : List AV} {of_ : Bool} (hL : Rw (T135 1048576) 1048576 l) (hz : Rw (T95 1048576) 1048576 zs) (hm : Rw (T98 1048576) 1048576 m) (lv pg : Int) :
    ∃ v c : Int, den E 27 [devV d b p l fu ke of_ op zs, verV n z s m, (.i .i64 lv), (.i .i64 pg)] [] = some (.tup [(.i .i64 v), (.i .i64 c)]) ∧ den E 28 [devV d b p l fu ke of_ op zs, verV n z s m, (.i .i64 lv), (.i .i64 pg)] [] = some (.tup [(.i .i64 v), (.i .i64 c)]) := by
  rw [f27_eq, f28_eq, f39_eq, spec_device hL hz, impl_device hL hz, spec_ok n z s m hm, impl_ok n z s m hm, in90, in72]
  simp only [bSh_b, toB_b]
  cases hD : okDev d b p l fu ke op zs
  · exact ⟨_, _, rfl, rfl⟩
  cases okVersion n z s m
  · exact ⟨_, _, rfl, rfl⟩
  cases (decide (0 ≤ lv) && decide (lv ≤ 2))
  · exact ⟨_, _, rfl, rfl⟩
  cases decide (pg < 1)
  rotate_left
  · exact ⟨_, _, rfl, rfl⟩
  have g1 := spec_place (of_ := of_) (n := n) (z := z) (s := s) hL hz hm hD lv pg
  have g2 := impl_place (of_ := of_) (n := n) (z := z) (s := s) hL hz hm hD lv pg
  simp only [devV, verV] at g1 g2
  rw [g1, g2]
  generalize placeV d p l zs m (withTo 3 z m zs zs.length) (withTo 4 z m zs zs.length) lv pg = q
  obtain ⟨v, c⟩ := q
  cases c
  · exact ⟨_, _, rfl, rfl⟩
  · exact ⟨_, _, rfl, rfl⟩

theorem pure (el : AV) (h : T29 9223372036854775807 el) (ev : AV) (g : T32 9223372036854775807 ev) (lv : Int) (_ : W64 lv) (pg : Int) (_ : W64 pg) : den E 7 [el, ev, (.i .i64 lv), (.i .i64 pg)] [] = some (.b true) := by
  obtain ⟨t, ht, hq⟩ := sz8 h 1048576 (by omega) (by omega)
  have gg := g
  obtain ⟨a0, a1, a2, a3, a4, a5, a6, a7, a8, rfl, _⟩ := h
  obtain ⟨c0, c1, c2, c3, rfl, _⟩ := g
  rw [f7_eq, ht]
  simp only [bSh_i, toI_i]
  rcases hq with hq | ⟨h0, h1, hT⟩
  · simp only [hq, decide_true, cond_true]
  have hn : ¬ t < 0 := by omega
  simp only [hn, decide_false, cond_false]
  obtain ⟨t2, ht2, hq2⟩ := sz9 gg t (by omega) (by omega)
  rw [ht2]
  simp only [bSh_i, toI_i]
  rcases hq2 with hq2 | ⟨h2, h3, hV⟩
  · simp only [hq2, decide_true, cond_true]
  have hn2 : ¬ t2 < 0 := by omega
  simp only [hn2, decide_false, cond_false]
  have e0 := to11 hT
  have q0 := eq14 hT
  have e1 := to12 hV
  have q1 := eq15 hV
  obtain ⟨b0, b1, b2, b3, b4, b5, b6, b7, b8, hb, v0, v1, v2, v3, v4, v5, v7, v8, _⟩ := hT
  cases hb
  obtain ⟨b0, b1, b2, b3, hb, u0, u1, u2, u3, _⟩ := hV
  cases hb
  obtain ⟨v, c, g1, g2⟩ := answers (d := a0) (b := a1) (p := a2) (fu := a4) (ke := a5) (op := a7) (of_ := a6) (n := c0) (z := c1) (s := c2) v3 v8 u3 lv pg
  simp only [devV, verV] at g1 g2
  simp only [e0, q0, e1, q1, g1, g2, okC_nil, okC_agg, okC_i, okC_b, okC_s, okC_imm, okL_i, okL_b, okL_s, okL_sl, okS_i, okS_b, okS_s, okS_sl, okS_agg, okS_tup, okS_nil, okS_cons, cells_agg, cells_i, cells_b, cells_s, cells_imm, toI_i, toB_b, toS_s, toL_imm, nth_agg, nth_tup, put_agg, put_i, put_b, put_s, put_imm, setCells, List.getD_cons_zero, List.getD_cons_succ, bSh_b, bSh_i, bSh_s, bSh_sl, bSh_some, cond_true, cond_false, decide_true, decide_false, Int.toNat_natCast, Nat.zero_add, Nat.reduceAdd, beq_self_eq_true, Bool.and_true, Bool.true_and, if_true, Bool.false_eq_true, if_false, List.set_cons_zero, List.set_cons_succ, Bool.not_true, Bool.not_false, Bool.and_self]
end Go.Proofs.YtokpbjbngnlepaaGreat.IPlaceTable
