/- WearOfZone: the program's answer is the reference's, for every device and zone. No condition beyond what each theorem states. -/
import Derived.Test.YtokpbjbngnlepaaIWearOfZonef
import Derived.Test.YtokpbjbngnlepaaItMk
namespace Go.Proofs.Ytokpbjbngnlepaa.IWearOfZone
open Go Go.Proofs.YtokpbjbngnlepaaIT
set_option linter.unusedSimpArgs false

theorem in90 (a lo hi : Int) : den E 97 [(.i .i64 a), (.i .i64 lo), (.i .i64 hi)] [] = some (.b (decide (lo ≤ a) && decide (a ≤ hi))) := by
  rw [f97_eq, beq_true, cond_andb]
theorem in72 (a lo hi : Int) : den E 102 [(.i .i64 a), (.i .i64 lo), (.i .i64 hi)] [] = some (.b (decide (lo ≤ a) && decide (a ≤ hi))) := by
  rw [f102_eq, beq_true, cond_andb]


theorem isIdx {x n : Int} (h1 : -9223372036854775808 < n) (h2 : n ≤ 9223372036854775807) : den E 55 [(.i .i64 x), (.i .i64 n)] [] = some (.b (decide (0 ≤ x) && decide (x ≤ n - 1))) := by
  rw [f55_eq, in72]
  simp only [okC_nil, okC_agg, okC_i, okC_b, okC_s, okC_imm, okL_i, okL_b, okL_s, okL_sl, okS_i, okS_b, okS_s, okS_sl, okS_agg, okS_tup, okS_nil, okS_cons, cells_agg, cells_i, cells_b, cells_s, cells_imm, toI_i, toB_b, toS_s, toL_imm, nth_agg, nth_tup, put_agg, put_i, put_b, put_s, put_imm, setCells, List.getD_cons_zero, List.getD_cons_succ, bSh_b, bSh_i, bSh_s, bSh_sl, bSh_some, cond_true, cond_false, decide_true, decide_false, Int.toNat_natCast, Nat.zero_add, Nat.reduceAdd, beq_self_eq_true, Bool.and_true, Bool.true_and, if_true, Bool.false_eq_true, if_false, List.set_cons_zero, List.set_cons_succ, Bool.not_true, Bool.not_false, Bool.and_self]
  rw [w64 (by omega) (by omega)]


theorem bytes_eq {a b : ByteArray} (h : a.data.toList = b.data.toList) : a = b := ByteArray.ext (Array.toList_inj.mp h)
theorem size0 (s : ByteArray) : s = ({ data := #[] } : ByteArray) ↔ s.size = 0 := by
  constructor
  · rintro rfl; rfl
  · intro h
    apply bytes_eq
    have : s.data.toList.length = 0 := by rw [Array.length_toList]; exact h
    rw [List.eq_nil_of_length_eq_zero this]

/-! A block is valid. -/
noncomputable def sA (m : List AV) (i : Nat) : ByteArray := ((m.getD i .x).cells.getD 0 .x).toS
noncomputable def okPg (nx : Int) (l : List AV) (i : Nat) : Bool := decide (((sA l i).size : Int) = 0) || (decide (((sA l i).size : Int) = 91) && !decide (nx ≤ (i : Int)))
noncomputable def okB (pg : Int) (el : AV) : Bool := (decide (0 ≤ (el.cells.getD 0 .x).toI) && decide ((el.cells.getD 0 .x).toI ≤ 1000)) && ((decide (0 ≤ (el.cells.getD 1 .x).toI) && decide ((el.cells.getD 1 .x).toI ≤ pg)) && (decide (((((el.cells.getD 3 .x).toL).length : Nat) : Int) = pg) && (List.range' 0 ((el.cells.getD 3 .x).toL).length).all (okPg (el.cells.getD 1 .x).toI ((el.cells.getD 3 .x).toL))))

theorem spec_block {el : AV} (h : T159 1048576 el) (pg : Int) : den E 145 [el, (.i .i64 pg)] [] = some (.b (okB pg el)) := by
  obtain ⟨a0, a1, a2, a3, rfl, w0, w1, w3, _⟩ := h
  have hl := w3.1
  rw [f145_eq]
  unfold okB
  simp only [in90, okC_nil, okC_agg, okC_i, okC_b, okC_s, okC_imm, okL_i, okL_b, okL_s, okL_sl, okS_i, okS_b, okS_s, okS_sl, okS_agg, okS_tup, okS_nil, okS_cons, cells_agg, cells_i, cells_b, cells_s, cells_imm, toI_i, toB_b, toS_s, toL_imm, nth_agg, nth_tup, put_agg, put_i, put_b, put_s, put_imm, setCells, List.getD_cons_zero, List.getD_cons_succ, bSh_b, bSh_i, bSh_s, bSh_sl, bSh_some, cond_true, cond_false, decide_true, decide_false, Int.toNat_natCast, Nat.zero_add, Nat.reduceAdd, beq_self_eq_true, Bool.and_true, Bool.true_and, if_true, Bool.false_eq_true, if_false, List.set_cons_zero, List.set_cons_succ, Bool.not_true, Bool.not_false, Bool.and_self]
  cases (decide (0 ≤ a0) && decide (a0 ≤ 1000))
  · rfl
  cases (decide (0 ≤ a1) && decide (a1 ≤ pg))
  · rfl
  by_cases hp : ((a3.length : Nat) : Int) = pg
  rotate_left
  · simp only [hp, decide_false, Bool.false_and, Bool.true_and]; rfl
  simp only [hp, okC_nil, okC_agg, okC_i, okC_b, okC_s, okC_imm, okL_i, okL_b, okL_s, okL_sl, okS_i, okS_b, okS_s, okS_sl, okS_agg, okS_tup, okS_nil, okS_cons, cells_agg, cells_i, cells_b, cells_s, cells_imm, toI_i, toB_b, toS_s, toL_imm, nth_agg, nth_tup, put_agg, put_i, put_b, put_s, put_imm, setCells, List.getD_cons_zero, List.getD_cons_succ, bSh_b, bSh_i, bSh_s, bSh_sl, bSh_some, cond_true, cond_false, decide_true, decide_false, Int.toNat_natCast, Nat.zero_add, Nat.reduceAdd, beq_self_eq_true, Bool.and_true, Bool.true_and, if_true, Bool.false_eq_true, if_false, List.set_cons_zero, List.set_cons_succ, Bool.not_true, Bool.not_false, Bool.and_self]
  have := all_loop (L := fun i => f145_l1 pg i a0 a1 a2 a3) (n := a3.length) (p := okPg a1 a3) (X := some (.b true)) (F := some (.b false)) (fun i hi => ?_) ?_ a3.length 0 (by omega)
  · refine this.trans ?_
    rw [cond_andb, Bool.and_true]
  · obtain ⟨s0, he, v0, _⟩ := w3.at hi
    have g1 : (0 : Int) ≤ (i : Int) := by omega
    have g2 : (i : Int) < ((a3.length : Nat) : Int) := by omega
    try dsimp only
    rw [f145_l1_eq, dT (show (i : Int) < pg by omega), cond_true]
    unfold okPg sA
    simp only [Int.toNat_natCast, g1, g2, and_self, he, f145_j2_eq, okC_nil, okC_agg, okC_i, okC_b, okC_s, okC_imm, okL_i, okL_b, okL_s, okL_sl, okS_i, okS_b, okS_s, okS_sl, okS_agg, okS_tup, okS_nil, okS_cons, cells_agg, cells_i, cells_b, cells_s, cells_imm, toI_i, toB_b, toS_s, toL_imm, nth_agg, nth_tup, put_agg, put_i, put_b, put_s, put_imm, setCells, List.getD_cons_zero, List.getD_cons_succ, bSh_b, bSh_i, bSh_s, bSh_sl, bSh_some, cond_true, cond_false, decide_true, decide_false, Int.toNat_natCast, Nat.zero_add, Nat.reduceAdd, beq_self_eq_true, Bool.and_true, Bool.true_and, if_true, Bool.false_eq_true, if_false, List.set_cons_zero, List.set_cons_succ, Bool.not_true, Bool.not_false, Bool.and_self]
    rw [w64 (x := (i : Int) + 1) (by omega) (by omega)]
    cases decide (((s0.size : Nat) : Int) = 0) <;> cases decide (((s0.size : Nat) : Int) = 91) <;> cases decide (a1 ≤ (i : Int)) <;> rfl
  · try dsimp only
    rw [f145_l1_eq, ← hp, dF (Int.lt_irrefl _), cond_false]
theorem impl_block {el : AV} (h : T159 1048576 el) (g0 g1 pg : Int) : den E 153 [(.agg [(.i .i64 g0), (.i .i64 g1), (.i .i64 pg)]), el] [] = some (.b (okB pg el)) := by
  obtain ⟨a0, a1, a2, a3, rfl, w0, w1, w3, _⟩ := h
  have hl := w3.1
  rw [f153_eq]
  unfold okB
  simp only [in72, okC_nil, okC_agg, okC_i, okC_b, okC_s, okC_imm, okL_i, okL_b, okL_s, okL_sl, okS_i, okS_b, okS_s, okS_sl, okS_agg, okS_tup, okS_nil, okS_cons, cells_agg, cells_i, cells_b, cells_s, cells_imm, toI_i, toB_b, toS_s, toL_imm, nth_agg, nth_tup, put_agg, put_i, put_b, put_s, put_imm, setCells, List.getD_cons_zero, List.getD_cons_succ, bSh_b, bSh_i, bSh_s, bSh_sl, bSh_some, cond_true, cond_false, decide_true, decide_false, Int.toNat_natCast, Nat.zero_add, Nat.reduceAdd, beq_self_eq_true, Bool.and_true, Bool.true_and, if_true, Bool.false_eq_true, if_false, List.set_cons_zero, List.set_cons_succ, Bool.not_true, Bool.not_false, Bool.and_self]
  cases (decide (0 ≤ a0) && decide (a0 ≤ 1000))
  · rfl
  cases (decide (0 ≤ a1) && decide (a1 ≤ pg))
  · rfl
  by_cases hp : ((a3.length : Nat) : Int) = pg
  rotate_left
  · simp only [hp, decide_false, Bool.false_and, Bool.true_and]; rfl
  simp only [hp, okC_nil, okC_agg, okC_i, okC_b, okC_s, okC_imm, okL_i, okL_b, okL_s, okL_sl, okS_i, okS_b, okS_s, okS_sl, okS_agg, okS_tup, okS_nil, okS_cons, cells_agg, cells_i, cells_b, cells_s, cells_imm, toI_i, toB_b, toS_s, toL_imm, nth_agg, nth_tup, put_agg, put_i, put_b, put_s, put_imm, setCells, List.getD_cons_zero, List.getD_cons_succ, bSh_b, bSh_i, bSh_s, bSh_sl, bSh_some, cond_true, cond_false, decide_true, decide_false, Int.toNat_natCast, Nat.zero_add, Nat.reduceAdd, beq_self_eq_true, Bool.and_true, Bool.true_and, if_true, Bool.false_eq_true, if_false, List.set_cons_zero, List.set_cons_succ, Bool.not_true, Bool.not_false, Bool.and_self]
  have := all_loop (L := fun i => f153_l1 a3 pg i g0 g1 pg a0 a1 a2 a3) (n := a3.length) (p := okPg a1 a3) (X := some (.b true)) (F := some (.b false)) (fun i hi => ?_) ?_ a3.length 0 (by omega)
  · refine this.trans ?_
    rw [cond_andb, Bool.and_true]
  · obtain ⟨s0, he, v0, _⟩ := w3.at hi
    have g1 : (0 : Int) ≤ (i : Int) := by omega
    have g2 : (i : Int) < ((a3.length : Nat) : Int) := by omega
    have hs : decide (s0 = ({ data := #[] } : ByteArray)) = decide (((s0.size : Nat) : Int) = 0) := by
      rw [Bool.eq_iff_iff, decide_eq_true_eq, decide_eq_true_eq, size0]; omega
    try dsimp only
    rw [f153_l1_eq, dT (show (i : Int) < pg by omega), cond_true]
    unfold okPg sA
    simp only [Int.toNat_natCast, g1, g2, and_self, he, hs, f153_j2_eq, okC_nil, okC_agg, okC_i, okC_b, okC_s, okC_imm, okL_i, okL_b, okL_s, okL_sl, okS_i, okS_b, okS_s, okS_sl, okS_agg, okS_tup, okS_nil, okS_cons, cells_agg, cells_i, cells_b, cells_s, cells_imm, toI_i, toB_b, toS_s, toL_imm, nth_agg, nth_tup, put_agg, put_i, put_b, put_s, put_imm, setCells, List.getD_cons_zero, List.getD_cons_succ, bSh_b, bSh_i, bSh_s, bSh_sl, bSh_some, cond_true, cond_false, decide_true, decide_false, Int.toNat_natCast, Nat.zero_add, Nat.reduceAdd, beq_self_eq_true, Bool.and_true, Bool.true_and, if_true, Bool.false_eq_true, if_false, List.set_cons_zero, List.set_cons_succ, Bool.not_true, Bool.not_false, Bool.and_self]
    rw [w64 (x := (i : Int) + 1) (by omega) (by omega)]
    cases decide (((s0.size : Nat) : Int) = 0) <;> cases decide (((s0.size : Nat) : Int) = 91) <;> cases decide (a1 ≤ (i : Int)) <;> rfl
  · try dsimp only
    rw [f153_l1_eq, ← hp, dF (Int.lt_irrefl _), cond_false]

/-! A flash is valid. -/
noncomputable def okGeo (d b p : Int) : Bool := (decide (2 ≤ d) && decide (d ≤ 3)) && ((decide (4 ≤ b) && decide (b ≤ 12)) && (decide (p = 8) || decide (p = 16)))
theorem spec_geo (d b p : Int) : den E 144 [(.agg [(.i .i64 d), (.i .i64 b), (.i .i64 p)])] [] = some (.b (okGeo d b p)) := by
  rw [f144_eq]
  unfold okGeo
  simp only [in90, okC_nil, okC_agg, okC_i, okC_b, okC_s, okC_imm, okL_i, okL_b, okL_s, okL_sl, okS_i, okS_b, okS_s, okS_sl, okS_agg, okS_tup, okS_nil, okS_cons, cells_agg, cells_i, cells_b, cells_s, cells_imm, toI_i, toB_b, toS_s, toL_imm, nth_agg, nth_tup, put_agg, put_i, put_b, put_s, put_imm, setCells, List.getD_cons_zero, List.getD_cons_succ, bSh_b, bSh_i, bSh_s, bSh_sl, bSh_some, cond_true, cond_false, decide_true, decide_false, Int.toNat_natCast, Nat.zero_add, Nat.reduceAdd, beq_self_eq_true, Bool.and_true, Bool.true_and, if_true, Bool.false_eq_true, if_false, List.set_cons_zero, List.set_cons_succ, Bool.not_true, Bool.not_false, Bool.and_self]
  cases (decide (2 ≤ d) && decide (d ≤ 3)) <;> cases (decide (4 ≤ b) && decide (b ≤ 12)) <;> cases decide (p = 8) <;> rfl
theorem impl_geo (d b p : Int) : den E 149 [(.agg [(.i .i64 d), (.i .i64 b), (.i .i64 p)])] [] = some (.b (okGeo d b p)) := by
  rw [f149_eq]
  unfold okGeo
  simp only [in72, okC_nil, okC_agg, okC_i, okC_b, okC_s, okC_imm, okL_i, okL_b, okL_s, okL_sl, okS_i, okS_b, okS_s, okS_sl, okS_agg, okS_tup, okS_nil, okS_cons, cells_agg, cells_i, cells_b, cells_s, cells_imm, toI_i, toB_b, toS_s, toL_imm, nth_agg, nth_tup, put_agg, put_i, put_b, put_s, put_imm, setCells, List.getD_cons_zero, List.getD_cons_succ, bSh_b, bSh_i, bSh_s, bSh_sl, bSh_some, cond_true, cond_false, decide_true, decide_false, Int.toNat_natCast, Nat.zero_add, Nat.reduceAdd, beq_self_eq_true, Bool.and_true, Bool.true_and, if_true, Bool.false_eq_true, if_false, List.set_cons_zero, List.set_cons_succ, Bool.not_true, Bool.not_false, Bool.and_self]
  cases (decide (2 ≤ d) && decide (d ≤ 3)) <;> cases (decide (4 ≤ b) && decide (b ≤ 12)) <;> cases decide (p = 8) <;> rfl
noncomputable def okFl (d b p : Int) (l : List AV) (fu ke op : Int) : Bool := okGeo d b p && (decide (((l.length : Nat) : Int) = IntKind.i64.wrap (d * b)) && ((decide (-1 ≤ fu) && decide (fu ≤ 1000000)) && ((decide (0 ≤ ke) && decide (ke ≤ 91)) && (!decide (op < 0) && (List.range' 0 l.length).all fun i => okB p (l.getD i .x)))))
theorem spec_flash {l : List AV} (h : Rw (T159 1048576) 1048576 l) (d b p fu ke op : Int) (of_ : Bool) : den E 91 [(.agg [(.i .i64 d), (.i .i64 b), (.i .i64 p), (.imm 4 l), (.i .i64 fu), (.i .i64 ke), (.b of_), (.i .i64 op)])] [] = some (.b (okFl d b p l fu ke op)) := by
  have hl := h.1
  rw [f91_eq]
  unfold okFl
  simp only [spec_geo, in90, okC_nil, okC_agg, okC_i, okC_b, okC_s, okC_imm, okL_i, okL_b, okL_s, okL_sl, okS_i, okS_b, okS_s, okS_sl, okS_agg, okS_tup, okS_nil, okS_cons, cells_agg, cells_i, cells_b, cells_s, cells_imm, toI_i, toB_b, toS_s, toL_imm, nth_agg, nth_tup, put_agg, put_i, put_b, put_s, put_imm, setCells, List.getD_cons_zero, List.getD_cons_succ, bSh_b, bSh_i, bSh_s, bSh_sl, bSh_some, cond_true, cond_false, decide_true, decide_false, Int.toNat_natCast, Nat.zero_add, Nat.reduceAdd, beq_self_eq_true, Bool.and_true, Bool.true_and, if_true, Bool.false_eq_true, if_false, List.set_cons_zero, List.set_cons_succ, Bool.not_true, Bool.not_false, Bool.and_self]
  have := all_loop (L := fun i => f91_l1 i d b p l fu ke of_ op) (n := l.length) (p := fun i => okB p (l.getD i .x)) (X := some (.b true)) (F := some (.b false)) (fun i hi => ?_) ?_ l.length 0 (by omega)
  · rw [show f91_l1 0 d b p l fu ke of_ op = _ from this, cond_andb, Bool.and_true]
    cases okGeo d b p <;> cases decide (((l.length : Nat) : Int) = IntKind.i64.wrap (d * b)) <;> cases (decide (-1 ≤ fu) && decide (fu ≤ 1000000)) <;> cases (decide (0 ≤ ke) && decide (ke ≤ 91)) <;> cases decide (op < 0) <;> rfl
  · have hT := h.at hi
    try dsimp only
    rw [f91_l1_eq, dT (show (i : Int) < ((l.length : Nat) : Int) by omega), cond_true, if_pos (by omega), w64 (x := (i : Int) + 1) (by omega) (by omega)]
    simp only [Int.toNat_natCast, hT.ok, hT.eta, spec_block hT, okC_nil, okC_agg, okC_i, okC_b, okC_s, okC_imm, okL_i, okL_b, okL_s, okL_sl, okS_i, okS_b, okS_s, okS_sl, okS_agg, okS_tup, okS_nil, okS_cons, cells_agg, cells_i, cells_b, cells_s, cells_imm, toI_i, toB_b, toS_s, toL_imm, nth_agg, nth_tup, put_agg, put_i, put_b, put_s, put_imm, setCells, List.getD_cons_zero, List.getD_cons_succ, bSh_b, bSh_i, bSh_s, bSh_sl, bSh_some, cond_true, cond_false, decide_true, decide_false, Int.toNat_natCast, Nat.zero_add, Nat.reduceAdd, beq_self_eq_true, Bool.and_true, Bool.true_and, if_true, Bool.false_eq_true, if_false, List.set_cons_zero, List.set_cons_succ, Bool.not_true, Bool.not_false, Bool.and_self]
    cases okB p (l.getD i .x) <;> rfl
  · try dsimp only
    rw [f91_l1_eq, dF (Int.lt_irrefl _), cond_false]
theorem has_bad {l : List AV} (h : Rw (T159 1048576) 1048576 l) (d b p fu ke op : Int) (of_ : Bool) : den E 151 [(.imm 4 l), (.fn 152 [(.ip (.agg [(.i .i64 d), (.i .i64 b), (.i .i64 p), (.imm 4 l), (.i .i64 fu), (.i .i64 ke), (.b of_), (.i .i64 op)]) 0)])] [] = some (.b (!(List.range' 0 l.length).all fun i => okB p (l.getD i .x))) := by
  have hl := h.1
  rw [f151q1_eq, f176q1_eq]
  have key := find_loop (L := fun i => f176q1_l1 l (.agg [(.i .i64 d), (.i .i64 b), (.i .i64 p), (.imm 4 l), (.i .i64 fu), (.i .i64 ke), (.b of_), (.i .i64 op)]) ((l.length : Nat) : Int) i) (n := l.length) (p := fun j => !okB p (l.getD j .x)) (F := fun i => some (.i .i64 i)) (X := some (.i .i64 (-1))) (fun i hi => ?_) ?_ l.length 0 (by omega)
  · rcases key with ⟨j, _, hj, h1, h2, h3⟩ | ⟨h1, h2⟩
    · rw [show f176q1_l1 l (.agg [(.i .i64 d), (.i .i64 b), (.i .i64 p), (.imm 4 l), (.i .i64 fu), (.i .i64 ke), (.b of_), (.i .i64 op)]) ((l.length : Nat) : Int) 0 = _ from h3]
      have hj0 : (0 : Int) ≤ (j : Int) := by omega
      have : ((List.range' 0 l.length).all fun i => okB p (l.getD i .x)) = false := by
        rw [List.all_eq_false]
        exact ⟨j, by simp [List.mem_range'_1, hj], by simpa using h1⟩
      simp only [hj0, this, okC_nil, okC_agg, okC_i, okC_b, okC_s, okC_imm, okL_i, okL_b, okL_s, okL_sl, okS_i, okS_b, okS_s, okS_sl, okS_agg, okS_tup, okS_nil, okS_cons, cells_agg, cells_i, cells_b, cells_s, cells_imm, toI_i, toB_b, toS_s, toL_imm, nth_agg, nth_tup, put_agg, put_i, put_b, put_s, put_imm, setCells, List.getD_cons_zero, List.getD_cons_succ, bSh_b, bSh_i, bSh_s, bSh_sl, bSh_some, cond_true, cond_false, decide_true, decide_false, Int.toNat_natCast, Nat.zero_add, Nat.reduceAdd, beq_self_eq_true, Bool.and_true, Bool.true_and, if_true, Bool.false_eq_true, if_false, List.set_cons_zero, List.set_cons_succ, Bool.not_true, Bool.not_false, Bool.and_self]
    · rw [show f176q1_l1 l (.agg [(.i .i64 d), (.i .i64 b), (.i .i64 p), (.imm 4 l), (.i .i64 fu), (.i .i64 ke), (.b of_), (.i .i64 op)]) ((l.length : Nat) : Int) 0 = _ from h2]
      have : ((List.range' 0 l.length).all fun i => okB p (l.getD i .x)) = true := by
        rw [List.all_eq_true]
        intro i hi
        have := h1 i (Nat.zero_le _) (by simpa [List.mem_range'_1] using hi)
        simpa using this
      simp only [this, okC_nil, okC_agg, okC_i, okC_b, okC_s, okC_imm, okL_i, okL_b, okL_s, okL_sl, okS_i, okS_b, okS_s, okS_sl, okS_agg, okS_tup, okS_nil, okS_cons, cells_agg, cells_i, cells_b, cells_s, cells_imm, toI_i, toB_b, toS_s, toL_imm, nth_agg, nth_tup, put_agg, put_i, put_b, put_s, put_imm, setCells, List.getD_cons_zero, List.getD_cons_succ, bSh_b, bSh_i, bSh_s, bSh_sl, bSh_some, cond_true, cond_false, decide_true, decide_false, Int.toNat_natCast, Nat.zero_add, Nat.reduceAdd, beq_self_eq_true, Bool.and_true, Bool.true_and, if_true, Bool.false_eq_true, if_false, List.set_cons_zero, List.set_cons_succ, Bool.not_true, Bool.not_false, Bool.and_self]
      rfl
  · have hT := h.at hi
    try dsimp only
    rw [f176q1_l1_eq, dT (show (i : Int) < ((l.length : Nat) : Int) by omega), cond_true, if_pos (by omega), w64 (x := (i : Int) + 1) (by omega) (by omega)]
    have hcl : den E 152 [l.getD i .x, (.ip (.agg [(.i .i64 d), (.i .i64 b), (.i .i64 p), (.imm 4 l), (.i .i64 fu), (.i .i64 ke), (.b of_), (.i .i64 op)]) 0)] [] = some (.b (!okB p (l.getD i .x))) := by
      have hb := impl_block hT d b p
      obtain ⟨a0, a1, a2, a3, he, _⟩ := hT
      rw [he] at hb ⊢
      rw [f152q1_eq]
      simp only [okC_nil, okC_agg, okC_i, okC_b, okC_s, okC_imm, okL_i, okL_b, okL_s, okL_sl, okS_i, okS_b, okS_s, okS_sl, okS_agg, okS_tup, okS_nil, okS_cons, cells_agg, cells_i, cells_b, cells_s, cells_imm, toI_i, toB_b, toS_s, toL_imm, nth_agg, nth_tup, put_agg, put_i, put_b, put_s, put_imm, setCells, List.getD_cons_zero, List.getD_cons_succ, bSh_b, bSh_i, bSh_s, bSh_sl, bSh_some, cond_true, cond_false, decide_true, decide_false, Int.toNat_natCast, Nat.zero_add, Nat.reduceAdd, beq_self_eq_true, Bool.and_true, Bool.true_and, if_true, Bool.false_eq_true, if_false, List.set_cons_zero, List.set_cons_succ, Bool.not_true, Bool.not_false, Bool.and_self, hb]
    simp only [Int.toNat_natCast, hT.ok, hT.eta, hcl, okC_nil, okC_agg, okC_i, okC_b, okC_s, okC_imm, okL_i, okL_b, okL_s, okL_sl, okS_i, okS_b, okS_s, okS_sl, okS_agg, okS_tup, okS_nil, okS_cons, cells_agg, cells_i, cells_b, cells_s, cells_imm, toI_i, toB_b, toS_s, toL_imm, nth_agg, nth_tup, put_agg, put_i, put_b, put_s, put_imm, setCells, List.getD_cons_zero, List.getD_cons_succ, bSh_b, bSh_i, bSh_s, bSh_sl, bSh_some, cond_true, cond_false, decide_true, decide_false, Int.toNat_natCast, Nat.zero_add, Nat.reduceAdd, beq_self_eq_true, Bool.and_true, Bool.true_and, if_true, Bool.false_eq_true, if_false, List.set_cons_zero, List.set_cons_succ, Bool.not_true, Bool.not_false, Bool.and_self]
  · try dsimp only
    rw [f176q1_l1_eq, dF (Int.lt_irrefl _), cond_false]
theorem impl_flash {l : List AV} (h : Rw (T159 1048576) 1048576 l) (d b p fu ke op : Int) (of_ : Bool) : den E 101 [(.agg [(.i .i64 d), (.i .i64 b), (.i .i64 p), (.imm 4 l), (.i .i64 fu), (.i .i64 ke), (.b of_), (.i .i64 op)])] [] = some (.b (okFl d b p l fu ke op)) := by
  rw [f101_eq]
  unfold okFl
  simp only [impl_geo, in72, has_bad h, f150_eq, Bool.not_not, okC_nil, okC_agg, okC_i, okC_b, okC_s, okC_imm, okL_i, okL_b, okL_s, okL_sl, okS_i, okS_b, okS_s, okS_sl, okS_agg, okS_tup, okS_nil, okS_cons, cells_agg, cells_i, cells_b, cells_s, cells_imm, toI_i, toB_b, toS_s, toL_imm, nth_agg, nth_tup, put_agg, put_i, put_b, put_s, put_imm, setCells, List.getD_cons_zero, List.getD_cons_succ, bSh_b, bSh_i, bSh_s, bSh_sl, bSh_some, cond_true, cond_false, decide_true, decide_false, Int.toNat_natCast, Nat.zero_add, Nat.reduceAdd, beq_self_eq_true, Bool.and_true, Bool.true_and, if_true, Bool.false_eq_true, if_false, List.set_cons_zero, List.set_cons_succ, Bool.not_true, Bool.not_false, Bool.and_self]
  generalize hL : decide (((l.length : Nat) : Int) = IntKind.i64.wrap (d * b)) = bL
  have hL2 : (((l.length : Nat) : Int) = IntKind.i64.wrap (d * b)) = (bL = true) := by rw [← hL, decide_eq_true_eq]
  simp only [hL2, Bool.decide_eq_true]
  cases okGeo d b p <;> cases bL <;> cases (decide (-1 ≤ fu) && decide (fu ≤ 1000000)) <;> cases (decide (0 ≤ ke) && decide (ke ≤ 91)) <;> cases decide (op < 0) <;> rfl



/-! A search by a condition. -/
theorem idx_loop {L : Int → Option AV} {n : Nat} {p : Nat → Bool} (step : ∀ i : Nat, i < n → L i = cond (p i) (some (.i .i64 (i : Int))) (L ((i : Int) + 1))) (last : L n = some (.i .i64 (-1))) : ∃ r, L 0 = some (.i .i64 r) ∧ decide (0 ≤ r) = !((List.range' 0 n).all fun i => !p i) := by
  have key : ∀ (k i : Nat), i + k = n → ∃ r, L i = some (.i .i64 r) ∧ decide (0 ≤ r) = !((List.range' i k).all fun j => !p j) := by
    intro k
    induction k with
    | zero =>
      intro i h
      obtain rfl : i = n := by omega
      exact ⟨-1, last, rfl⟩
    | succ k ih =>
      intro i h
      rw [step i (by omega), List.range'_succ, List.all_cons]
      cases hp : p i
      · obtain ⟨r, h1, h2⟩ := ih (i + 1) (by omega)
        exact ⟨r, h1, by rw [h2]; rfl⟩
      · exact ⟨(i : Int), rfl, by simp⟩
  exact key n 0 (by omega)

/-! A zone's parts. -/
abbrev iv (l : List AV) (i : Nat) : Int := ((l.getD i .x).cells.getD 0 .x).toI
abbrev zSt (z : AV) : Int := (z.cells.getD 0 .x).toI
abbrev zBl (z : AV) : List AV := (z.cells.getD 1 .x).toL
abbrev zWr (z : AV) : Int := (z.cells.getD 2 .x).toI
abbrev zSy (z : AV) : Int := (z.cells.getD 3 .x).toI
abbrev zRo (z : AV) : List AV := (z.cells.getD 4 .x).toL
abbrev zBu (z : AV) : List AV := (z.cells.getD 5 .x).toL

/-! A zone's blocks. -/
noncomputable def placesP (d b : Int) (bl : List AV) : Bool := decide (((bl.length : Nat) : Int) = d) && (List.range' 0 bl.length).all fun i => decide ((i : Int) * b ≤ iv bl i) && decide (iv bl i ≤ (i : Int) * b + b - 1)
theorem mul_bound {i : Nat} {b : Int} (hi : i < 3) (h0 : 0 ≤ b) (hb : b ≤ 12) : 0 ≤ (i : Int) * b ∧ (i : Int) * b ≤ 24 := by
  have : i = 0 ∨ i = 1 ∨ i = 2 := by omega
  rcases this with rfl | rfl | rfl <;> omega
theorem spec_places {z : AV} (h : T121 1048576 z) {d b : Int} (p : Int) (hd : d ≤ 3) (h4 : 4 ≤ b) (hb : b ≤ 12) : den E 93 [(.agg [(.i .i64 d), (.i .i64 b), (.i .i64 p)]), z] [] = some (.b (placesP d b (zBl z))) := by
  obtain ⟨a0, a1, a2, a3, a4, a5, rfl, _, w1, _⟩ := h
  rw [f93_eq]
  unfold placesP
  simp only [zBl, okC_nil, okC_agg, okC_i, okC_b, okC_s, okC_imm, okL_i, okL_b, okL_s, okL_sl, okS_i, okS_b, okS_s, okS_sl, okS_agg, okS_tup, okS_nil, okS_cons, cells_agg, cells_i, cells_b, cells_s, cells_imm, toI_i, toB_b, toS_s, toL_imm, nth_agg, nth_tup, put_agg, put_i, put_b, put_s, put_imm, setCells, List.getD_cons_zero, List.getD_cons_succ, bSh_b, bSh_i, bSh_s, bSh_sl, bSh_some, cond_true, cond_false, decide_true, decide_false, Int.toNat_natCast, Nat.zero_add, Nat.reduceAdd, beq_self_eq_true, Bool.and_true, Bool.true_and, if_true, Bool.false_eq_true, if_false, List.set_cons_zero, List.set_cons_succ, Bool.not_true, Bool.not_false, Bool.and_self]
  by_cases hl : ((a1.length : Nat) : Int) = d
  rotate_left
  · simp only [hl, decide_false, Bool.false_and]; rfl
  simp only [hl, okC_nil, okC_agg, okC_i, okC_b, okC_s, okC_imm, okL_i, okL_b, okL_s, okL_sl, okS_i, okS_b, okS_s, okS_sl, okS_agg, okS_tup, okS_nil, okS_cons, cells_agg, cells_i, cells_b, cells_s, cells_imm, toI_i, toB_b, toS_s, toL_imm, nth_agg, nth_tup, put_agg, put_i, put_b, put_s, put_imm, setCells, List.getD_cons_zero, List.getD_cons_succ, bSh_b, bSh_i, bSh_s, bSh_sl, bSh_some, cond_true, cond_false, decide_true, decide_false, Int.toNat_natCast, Nat.zero_add, Nat.reduceAdd, beq_self_eq_true, Bool.and_true, Bool.true_and, if_true, Bool.false_eq_true, if_false, List.set_cons_zero, List.set_cons_succ, Bool.not_true, Bool.not_false, Bool.and_self]
  have := all_loop (L := fun i => f93_l1 i d b p a0 a1 a2 a3 a4 a5) (n := a1.length) (p := fun i => decide ((i : Int) * b ≤ iv a1 i) && decide (iv a1 i ≤ (i : Int) * b + b - 1)) (X := some (.b true)) (F := some (.b false)) (fun i hi => ?_) ?_ a1.length 0 (by omega)
  · refine this.trans ?_
    rw [cond_andb, Bool.and_true]
  · obtain ⟨x, he, wx, _⟩ := w1.at hi
    have hm := mul_bound (i := i) (b := b) (by omega) (by omega) hb
    try dsimp only
    rw [f93_l1_eq, dT (show (i : Int) < d by omega), cond_true, if_pos (by omega), Int.toNat_natCast]
    unfold iv
    rw [he, if_pos (by rfl), in90, bSh_b, w64 (x := (i : Int) * b) (by omega) (by omega), w64 (x := (i : Int) + 1) (by omega) (by omega), Int.add_mul, Int.one_mul, w64 (x := (i : Int) * b + b) (by omega) (by omega), w64 (x := (i : Int) * b + b - 1) (by omega) (by omega)]
    simp only [okC_nil, okC_agg, okC_i, okC_b, okC_s, okC_imm, okL_i, okL_b, okL_s, okL_sl, okS_i, okS_b, okS_s, okS_sl, okS_agg, okS_tup, okS_nil, okS_cons, cells_agg, cells_i, cells_b, cells_s, cells_imm, toI_i, toB_b, toS_s, toL_imm, nth_agg, nth_tup, put_agg, put_i, put_b, put_s, put_imm, setCells, List.getD_cons_zero, List.getD_cons_succ, bSh_b, bSh_i, bSh_s, bSh_sl, bSh_some, cond_true, cond_false, decide_true, decide_false, Int.toNat_natCast, Nat.zero_add, Nat.reduceAdd, beq_self_eq_true, Bool.and_true, Bool.true_and, if_true, Bool.false_eq_true, if_false, List.set_cons_zero, List.set_cons_succ, Bool.not_true, Bool.not_false, Bool.and_self]
    cases (decide ((i : Int) * b ≤ x) && decide (x ≤ (i : Int) * b + b - 1)) <;> rfl
  · try dsimp only
    rw [f93_l1_eq, hl, dF (Int.lt_irrefl _), cond_false]
abbrev devV (d b p : Int) (l : List AV) (fu ke : Int) (of_ : Bool) (op : Int) (zs : List AV) : AV := .agg [(.i .i64 d), (.i .i64 b), (.i .i64 p), (.imm 4 l), (.i .i64 fu), (.i .i64 ke), (.b of_), (.i .i64 op), (.imm 6 zs)]
theorem impl_places {z : AV} (h : T121 1048576 z) {d b p fu ke op : Int} {l zs : List AV} {of_ : Bool} (hd : d ≤ 3) (h4 : 4 ≤ b) (hb : b ≤ 12) : den E 103 [(.ip (devV d b p l fu ke of_ op zs) 0), z] [] = some (.b (placesP d b (zBl z))) := by
  obtain ⟨a0, a1, a2, a3, a4, a5, rfl, _, w1, _⟩ := h
  rw [f103_eq]
  unfold placesP
  simp only [zBl, devV, okC_nil, okC_agg, okC_i, okC_b, okC_s, okC_imm, okL_i, okL_b, okL_s, okL_sl, okS_i, okS_b, okS_s, okS_sl, okS_agg, okS_tup, okS_nil, okS_cons, cells_agg, cells_i, cells_b, cells_s, cells_imm, toI_i, toB_b, toS_s, toL_imm, nth_agg, nth_tup, put_agg, put_i, put_b, put_s, put_imm, setCells, List.getD_cons_zero, List.getD_cons_succ, bSh_b, bSh_i, bSh_s, bSh_sl, bSh_some, cond_true, cond_false, decide_true, decide_false, Int.toNat_natCast, Nat.zero_add, Nat.reduceAdd, beq_self_eq_true, Bool.and_true, Bool.true_and, if_true, Bool.false_eq_true, if_false, List.set_cons_zero, List.set_cons_succ, Bool.not_true, Bool.not_false, Bool.and_self]
  by_cases hl : ((a1.length : Nat) : Int) = d
  rotate_left
  · simp only [hl, decide_false, Bool.false_and]; rfl
  simp only [hl, okC_nil, okC_agg, okC_i, okC_b, okC_s, okC_imm, okL_i, okL_b, okL_s, okL_sl, okS_i, okS_b, okS_s, okS_sl, okS_agg, okS_tup, okS_nil, okS_cons, cells_agg, cells_i, cells_b, cells_s, cells_imm, toI_i, toB_b, toS_s, toL_imm, nth_agg, nth_tup, put_agg, put_i, put_b, put_s, put_imm, setCells, List.getD_cons_zero, List.getD_cons_succ, bSh_b, bSh_i, bSh_s, bSh_sl, bSh_some, cond_true, cond_false, decide_true, decide_false, Int.toNat_natCast, Nat.zero_add, Nat.reduceAdd, beq_self_eq_true, Bool.and_true, Bool.true_and, if_true, Bool.false_eq_true, if_false, List.set_cons_zero, List.set_cons_succ, Bool.not_true, Bool.not_false, Bool.and_self]
  have := all_loop (L := fun i => f103_l1 (devV d b p l fu ke of_ op zs) a1 d i) (n := a1.length) (p := fun i => decide ((i : Int) * b ≤ iv a1 i) && decide (iv a1 i ≤ (i : Int) * b + b - 1)) (X := some (.b true)) (F := some (.b false)) (fun i hi => ?_) ?_ a1.length 0 (by omega)
  · refine this.trans ?_
    rw [cond_andb, Bool.and_true]
  · obtain ⟨x, he, wx, _⟩ := w1.at hi
    have hm := mul_bound (i := i) (b := b) (by omega) (by omega) hb
    try dsimp only
    rw [f103_l1_eq, dT (show (i : Int) < d by omega), cond_true, if_pos (by omega), Int.toNat_natCast]
    unfold iv
    rw [he, if_pos (by rfl), if_pos (by rfl), if_pos (by rfl)]
    simp only [devV, in72, okC_nil, okC_agg, okC_i, okC_b, okC_s, okC_imm, okL_i, okL_b, okL_s, okL_sl, okS_i, okS_b, okS_s, okS_sl, okS_agg, okS_tup, okS_nil, okS_cons, cells_agg, cells_i, cells_b, cells_s, cells_imm, toI_i, toB_b, toS_s, toL_imm, nth_agg, nth_tup, put_agg, put_i, put_b, put_s, put_imm, setCells, List.getD_cons_zero, List.getD_cons_succ, bSh_b, bSh_i, bSh_s, bSh_sl, bSh_some, cond_true, cond_false, decide_true, decide_false, Int.toNat_natCast, Nat.zero_add, Nat.reduceAdd, beq_self_eq_true, Bool.and_true, Bool.true_and, if_true, Bool.false_eq_true, if_false, List.set_cons_zero, List.set_cons_succ, Bool.not_true, Bool.not_false, Bool.and_self]
    rw [w64 (x := (i : Int) * b) (by omega) (by omega), w64 (x := (i : Int) + 1) (by omega) (by omega), w64 (x := (i : Int) * b + b) (by omega) (by omega), w64 (x := (i : Int) * b + b - 1) (by omega) (by omega)]
    cases (decide ((i : Int) * b ≤ x) && decide (x ≤ (i : Int) * b + b - 1)) <;> rfl
  · try dsimp only
    rw [f103_l1_eq, hl, dF (Int.lt_irrefl _), cond_false]

/-! A zone's rows and buffer. -/
noncomputable def sumTo (l : List AV) : Nat → Int
  | 0 => 0
  | i + 1 => IntKind.i64.wrap (sumTo l i + iv l i)
theorem spec_sum {l : List AV} (h : Rw (T2 1048576) 1048576 l) : den E 146 [(.imm 1 l)] [] = some (.i .i64 (sumTo l l.length)) := by
  have hl := h.1
  rw [f146_eq]
  have := loop_to (R := AV) (L := fun i => f146_l1 l (sumTo l i.toNat) i) (n := l.length) (X := some (.i .i64 (sumTo l l.length))) (fun i hi => ?_) ?_
  · exact this
  · obtain ⟨x, he, wx, _⟩ := h.at hi
    try dsimp only
    rw [f146_l1_eq, dT (show (i : Int) < ((l.length : Nat) : Int) by omega), cond_true, if_pos (by omega), Int.toNat_natCast, show ((i : Int) + 1).toNat = i + 1 by omega, w64 (x := (i : Int) + 1) (by omega) (by omega)]
    simp only [sumTo, iv, he, okC_nil, okC_agg, okC_i, okC_b, okC_s, okC_imm, okL_i, okL_b, okL_s, okL_sl, okS_i, okS_b, okS_s, okS_sl, okS_agg, okS_tup, okS_nil, okS_cons, cells_agg, cells_i, cells_b, cells_s, cells_imm, toI_i, toB_b, toS_s, toL_imm, nth_agg, nth_tup, put_agg, put_i, put_b, put_s, put_imm, setCells, List.getD_cons_zero, List.getD_cons_succ, bSh_b, bSh_i, bSh_s, bSh_sl, bSh_some, cond_true, cond_false, decide_true, decide_false, Int.toNat_natCast, Nat.zero_add, Nat.reduceAdd, beq_self_eq_true, Bool.and_true, Bool.true_and, if_true, Bool.false_eq_true, if_false, List.set_cons_zero, List.set_cons_succ, Bool.not_true, Bool.not_false, Bool.and_self]
  · try dsimp only
    rw [f146_l1_eq, dF (Int.lt_irrefl _), cond_false, Int.toNat_natCast]
theorem impl_sum {l : List AV} (h : Rw (T2 1048576) 1048576 l) : den E 155 [(.imm 1 l)] [] = some (.i .i64 (sumTo l l.length)) := by
  have hl := h.1
  rw [f155_eq]
  have := loop_to (R := AV) (L := fun i => f155_l1 (sumTo l i.toNat) l ((l.length : Nat) : Int) i) (n := l.length) (X := some (.i .i64 (sumTo l l.length))) (fun i hi => ?_) ?_
  · exact this
  · obtain ⟨x, he, wx, _⟩ := h.at hi
    try dsimp only
    rw [f155_l1_eq, dT (show (i : Int) < ((l.length : Nat) : Int) by omega), cond_true, if_pos (by omega), Int.toNat_natCast, show ((i : Int) + 1).toNat = i + 1 by omega, w64 (x := (i : Int) + 1) (by omega) (by omega)]
    simp only [sumTo, iv, he, okC_nil, okC_agg, okC_i, okC_b, okC_s, okC_imm, okL_i, okL_b, okL_s, okL_sl, okS_i, okS_b, okS_s, okS_sl, okS_agg, okS_tup, okS_nil, okS_cons, cells_agg, cells_i, cells_b, cells_s, cells_imm, toI_i, toB_b, toS_s, toL_imm, nth_agg, nth_tup, put_agg, put_i, put_b, put_s, put_imm, setCells, List.getD_cons_zero, List.getD_cons_succ, bSh_b, bSh_i, bSh_s, bSh_sl, bSh_some, cond_true, cond_false, decide_true, decide_false, Int.toNat_natCast, Nat.zero_add, Nat.reduceAdd, beq_self_eq_true, Bool.and_true, Bool.true_and, if_true, Bool.false_eq_true, if_false, List.set_cons_zero, List.set_cons_succ, Bool.not_true, Bool.not_false, Bool.and_self]
  · try dsimp only
    rw [f155_l1_eq, dF (Int.lt_irrefl _), cond_false, Int.toNat_natCast]
noncomputable def allIn (l : List AV) (lo hi : Int) : Bool := (List.range' 0 l.length).all fun i => decide (lo ≤ iv l i) && decide (iv l i ≤ hi)
noncomputable def bufOk (l : List AV) : Bool := (List.range' 0 l.length).all fun i => !decide ((64 : Int) < (((sA l i).size : Nat) : Int))
noncomputable def contP (d p : Int) (z : AV) : Bool :=
  !decide (p < (((zRo z).length : Nat) : Int)) && (allIn (zRo z) 1 (d - 1) && (!decide (d - 1 ≤ (((zBu z).length : Nat) : Int)) && (bufOk (zBu z) && (decide (zSy z = sumTo (zRo z) (zRo z).length) && decide (zWr z = IntKind.i64.wrap (zSy z + (((zBu z).length : Nat) : Int)))))))
theorem impl_allWithin {l : List AV} (h : Rw (T2 1048576) 1048576 l) (lo hi : Int) : den E 120 [(.imm 1 l), (.i .i64 lo), (.i .i64 hi)] [] = some (.b (allIn l lo hi)) := by
  have hl := h.1
  rw [f120_eq, f166q1_eq, f179q1_eq]
  have key := idx_loop (L := fun i => f179q1_l1 l (.i .i64 lo) (.i .i64 hi) ((l.length : Nat) : Int) i) (n := l.length) (p := fun i => !(decide (lo ≤ iv l i) && decide (iv l i ≤ hi))) (fun i hi => ?_) ?_
  · obtain ⟨r, h1, h2⟩ := key
    rw [h1]
    show some (AV.b (!decide (0 ≤ r))) = _
    rw [h2, Bool.not_not]
    simp only [Bool.not_not]
    rfl
  · obtain ⟨x, he, wx, _⟩ := h.at hi
    try dsimp only
    rw [f179q1_l1_eq, dT (show (i : Int) < ((l.length : Nat) : Int) by omega), cond_true, if_pos (by omega), Int.toNat_natCast, w64 (x := (i : Int) + 1) (by omega) (by omega)]
    unfold iv
    rw [he, if_pos (by rfl)]
    simp only [f167q1_eq, in72, okC_nil, okC_agg, okC_i, okC_b, okC_s, okC_imm, okL_i, okL_b, okL_s, okL_sl, okS_i, okS_b, okS_s, okS_sl, okS_agg, okS_tup, okS_nil, okS_cons, cells_agg, cells_i, cells_b, cells_s, cells_imm, toI_i, toB_b, toS_s, toL_imm, nth_agg, nth_tup, put_agg, put_i, put_b, put_s, put_imm, setCells, List.getD_cons_zero, List.getD_cons_succ, bSh_b, bSh_i, bSh_s, bSh_sl, bSh_some, cond_true, cond_false, decide_true, decide_false, Int.toNat_natCast, Nat.zero_add, Nat.reduceAdd, beq_self_eq_true, Bool.and_true, Bool.true_and, if_true, Bool.false_eq_true, if_false, List.set_cons_zero, List.set_cons_succ, Bool.not_true, Bool.not_false, Bool.and_self]
  · try dsimp only
    rw [f179q1_l1_eq, dF (Int.lt_irrefl _), cond_false]
theorem impl_buf {l : List AV} (h : Rw (T9 1048576) 1048576 l) : den E 156 [(.imm 1 l), (.fn 157 [])] [] = some (.b (!bufOk l)) := by
  have hl := h.1
  rw [f156q1_eq, f177q1_eq]
  have key := idx_loop (L := fun i => f177q1_l1 l ((l.length : Nat) : Int) i) (n := l.length) (p := fun i => decide ((64 : Int) < (((sA l i).size : Nat) : Int))) (fun i hi => ?_) ?_
  · obtain ⟨r, h1, h2⟩ := key
    rw [h1]
    show some (AV.b (decide (0 ≤ r))) = _
    rw [h2]
    rfl
  · obtain ⟨x, he, wx, _⟩ := h.at hi
    try dsimp only
    rw [f177q1_l1_eq, dT (show (i : Int) < ((l.length : Nat) : Int) by omega), cond_true, if_pos (by omega), Int.toNat_natCast, w64 (x := (i : Int) + 1) (by omega) (by omega)]
    unfold sA
    rw [he, if_pos (by rfl)]
    simp only [f157_eq, okC_nil, okC_agg, okC_i, okC_b, okC_s, okC_imm, okL_i, okL_b, okL_s, okL_sl, okS_i, okS_b, okS_s, okS_sl, okS_agg, okS_tup, okS_nil, okS_cons, cells_agg, cells_i, cells_b, cells_s, cells_imm, toI_i, toB_b, toS_s, toL_imm, nth_agg, nth_tup, put_agg, put_i, put_b, put_s, put_imm, setCells, List.getD_cons_zero, List.getD_cons_succ, bSh_b, bSh_i, bSh_s, bSh_sl, bSh_some, cond_true, cond_false, decide_true, decide_false, Int.toNat_natCast, Nat.zero_add, Nat.reduceAdd, beq_self_eq_true, Bool.and_true, Bool.true_and, if_true, Bool.false_eq_true, if_false, List.set_cons_zero, List.set_cons_succ, Bool.not_true, Bool.not_false, Bool.and_self]
  · try dsimp only
    rw [f177q1_l1_eq, dF (Int.lt_irrefl _), cond_false]
theorem spec_cont {z : AV} (h : T121 1048576 z) {d p : Int} (b : Int) (h2 : 2 ≤ d) (hd : d ≤ 3) : den E 94 [(.agg [(.i .i64 d), (.i .i64 b), (.i .i64 p)]), z] [] = some (.b (contP d p z)) := by
  obtain ⟨a0, a1, a2, a3, a4, a5, rfl, _, w1, _, _, w4, w5, _⟩ := h
  have hl4 := w4.1
  have hl5 := w5.1
  rw [f94_eq, w64 (x := d - 1) (by omega) (by omega)]
  unfold contP
  simp only [zRo, zBu, zSy, zWr, okC_nil, okC_agg, okC_i, okC_b, okC_s, okC_imm, okL_i, okL_b, okL_s, okL_sl, okS_i, okS_b, okS_s, okS_sl, okS_agg, okS_tup, okS_nil, okS_cons, cells_agg, cells_i, cells_b, cells_s, cells_imm, toI_i, toB_b, toS_s, toL_imm, nth_agg, nth_tup, put_agg, put_i, put_b, put_s, put_imm, setCells, List.getD_cons_zero, List.getD_cons_succ, bSh_b, bSh_i, bSh_s, bSh_sl, bSh_some, cond_true, cond_false, decide_true, decide_false, Int.toNat_natCast, Nat.zero_add, Nat.reduceAdd, beq_self_eq_true, Bool.and_true, Bool.true_and, if_true, Bool.false_eq_true, if_false, List.set_cons_zero, List.set_cons_succ, Bool.not_true, Bool.not_false, Bool.and_self]
  have k2 := all_loop (L := fun i => f94_l2 i d b p a0 a1 a2 a3 a4 a5) (n := a5.length) (p := fun i => !decide ((64 : Int) < (((sA a5 i).size : Nat) : Int))) (X := some (.b (decide (a3 = sumTo a4 a4.length) && decide (a2 = IntKind.i64.wrap (a3 + ((a5.length : Nat) : Int)))))) (F := some (.b false)) (fun i hi => ?_) ?_ a5.length 0 (by omega)
  have k1 := all_loop (L := fun i => f94_l1 i d b p a0 a1 a2 a3 a4 a5) (n := a4.length) (p := fun i => decide (1 ≤ iv a4 i) && decide (iv a4 i ≤ d - 1)) (X := some (.b (bufOk a5 && (decide (a3 = sumTo a4 a4.length) && decide (a2 = IntKind.i64.wrap (a3 + ((a5.length : Nat) : Int))))))) (F := some (.b false)) (fun i hi => ?_) ?_ a4.length 0 (by omega)
  · rw [show f94_l1 0 d b p a0 a1 a2 a3 a4 a5 = _ from k1, cond_andb]
    rw [show ((List.range' 0 a4.length).all fun i => decide (1 ≤ iv a4 i) && decide (iv a4 i ≤ d - 1)) = allIn a4 1 (d - 1) from rfl]
    cases decide (p < ((a4.length : Nat) : Int)) <;> cases decide (d - 1 ≤ ((a5.length : Nat) : Int)) <;> cases allIn a4 1 (d - 1) <;> rfl
  · obtain ⟨x, he, wx, _⟩ := w4.at hi
    try dsimp only
    rw [f94_l1_eq, dT (show (i : Int) < ((a4.length : Nat) : Int) by omega), cond_true, if_pos (by omega), Int.toNat_natCast, w64 (x := (i : Int) + 1) (by omega) (by omega), w64 (x := d - 1) (by omega) (by omega)]
    unfold iv
    rw [he, if_pos (by rfl), in90]
    simp only [okC_nil, okC_agg, okC_i, okC_b, okC_s, okC_imm, okL_i, okL_b, okL_s, okL_sl, okS_i, okS_b, okS_s, okS_sl, okS_agg, okS_tup, okS_nil, okS_cons, cells_agg, cells_i, cells_b, cells_s, cells_imm, toI_i, toB_b, toS_s, toL_imm, nth_agg, nth_tup, put_agg, put_i, put_b, put_s, put_imm, setCells, List.getD_cons_zero, List.getD_cons_succ, bSh_b, bSh_i, bSh_s, bSh_sl, bSh_some, cond_true, cond_false, decide_true, decide_false, Int.toNat_natCast, Nat.zero_add, Nat.reduceAdd, beq_self_eq_true, Bool.and_true, Bool.true_and, if_true, Bool.false_eq_true, if_false, List.set_cons_zero, List.set_cons_succ, Bool.not_true, Bool.not_false, Bool.and_self]
    cases (decide (1 ≤ x) && decide (x ≤ d - 1)) <;> rfl
  · try dsimp only
    rw [f94_l1_eq, dF (Int.lt_irrefl _), cond_false]
    refine (show f94_l2 0 d b p a0 a1 a2 a3 a4 a5 = _ from k2).trans ?_
    rw [cond_andb]; rfl
  · obtain ⟨x, he, wx, _⟩ := w5.at hi
    try dsimp only
    rw [f94_l2_eq, dT (show (i : Int) < ((a5.length : Nat) : Int) by omega), cond_true, if_pos (by omega), Int.toNat_natCast, w64 (x := (i : Int) + 1) (by omega) (by omega)]
    unfold sA
    rw [he, if_pos (by rfl)]
    simp only [okC_nil, okC_agg, okC_i, okC_b, okC_s, okC_imm, okL_i, okL_b, okL_s, okL_sl, okS_i, okS_b, okS_s, okS_sl, okS_agg, okS_tup, okS_nil, okS_cons, cells_agg, cells_i, cells_b, cells_s, cells_imm, toI_i, toB_b, toS_s, toL_imm, nth_agg, nth_tup, put_agg, put_i, put_b, put_s, put_imm, setCells, List.getD_cons_zero, List.getD_cons_succ, bSh_b, bSh_i, bSh_s, bSh_sl, bSh_some, cond_true, cond_false, decide_true, decide_false, Int.toNat_natCast, Nat.zero_add, Nat.reduceAdd, beq_self_eq_true, Bool.and_true, Bool.true_and, if_true, Bool.false_eq_true, if_false, List.set_cons_zero, List.set_cons_succ, Bool.not_true, Bool.not_false, Bool.and_self]
    cases decide ((64 : Int) < ((x.size : Nat) : Int)) <;> rfl
  · try dsimp only
    rw [f94_l2_eq, dF (Int.lt_irrefl _), cond_false, spec_sum w4, bSh_i]
    show cond (decide (a3 = sumTo a4 a4.length) == true) (some (AV.b (decide (a2 = IntKind.i64.wrap (a3 + ((a5.length : Nat) : Int)))))) (some (AV.b false)) = _
    cases decide (a3 = sumTo a4 a4.length) <;> rfl
theorem impl_cont {z : AV} (h : T121 1048576 z) {d p b fu ke op : Int} {l zs : List AV} {of_ : Bool} (h2 : 2 ≤ d) (hd : d ≤ 3) : den E 104 [(.ip (devV d b p l fu ke of_ op zs) 0), z] [] = some (.b (contP d p z)) := by
  obtain ⟨a0, a1, a2, a3, a4, a5, rfl, _, w1, _, _, w4, w5, _⟩ := h
  have hu : den E 154 [(.ip (devV d b p l fu ke of_ op zs) 0)] [] = some (.i .i64 (d - 1)) := by
    rw [f154_eq, if_pos (by rfl)]
    show some (AV.i .i64 (IntKind.i64.wrap (d - 1))) = _
    rw [w64 (x := d - 1) (by omega) (by omega)]
  rw [f104_eq, if_pos (by rfl), hu]
  unfold contP
  show cond (decide (p < ((a4.length : Nat) : Int)) == false) (bSh .b (den E 120 [(.imm 1 a4), (.i .i64 1), (.i .i64 (d - 1))] []) fun x2 => cond ((!x2.toB) == false) (cond (decide (d - 1 ≤ ((a5.length : Nat) : Int))) (some (AV.b false))
    (bSh (.i .i64) (den E 155 [(.imm 1 a4)] []) fun x4 => cond ((decide (a3 = x4.toI)) == true) (cond ((decide (a2 = IntKind.i64.wrap (a3 + ((a5.length : Nat) : Int)))) == true) (bSh .b (den E 156 [(.imm 1 a5), (.fn 157 [])] []) fun x5 => some (AV.b (!x5.toB))) (some (AV.b false))) (some (AV.b false)))) (some (AV.b false))) (some (AV.b false)) = _
  rw [impl_allWithin w4, bSh_b, impl_sum w4, bSh_i, impl_buf w5, bSh_b]
  show cond (decide (p < ((a4.length : Nat) : Int)) == false) (cond ((!allIn a4 1 (d - 1)) == false) (cond (decide (d - 1 ≤ ((a5.length : Nat) : Int))) (some (AV.b false))
    (cond ((decide (a3 = sumTo a4 a4.length)) == true) (cond ((decide (a2 = IntKind.i64.wrap (a3 + ((a5.length : Nat) : Int)))) == true) (some (AV.b (!(!bufOk a5)))) (some (AV.b false))) (some (AV.b false)))) (some (AV.b false))) (some (AV.b false)) =
    some (AV.b (!decide (p < ((a4.length : Nat) : Int)) && (allIn a4 1 (d - 1) && (!decide (d - 1 ≤ ((a5.length : Nat) : Int)) && (bufOk a5 && (decide (a3 = sumTo a4 a4.length) && decide (a2 = IntKind.i64.wrap (a3 + ((a5.length : Nat) : Int)))))))))
  cases decide (p < ((a4.length : Nat) : Int)) <;> cases decide (d - 1 ≤ ((a5.length : Nat) : Int)) <;> cases allIn a4 1 (d - 1) <;> cases bufOk a5 <;> cases decide (a3 = sumTo a4 a4.length) <;> cases decide (a2 = IntKind.i64.wrap (a3 + ((a5.length : Nat) : Int))) <;> rfl

/-! A zone's state. -/
abbrev nx (l : List AV) (j : Nat) : Int := ((l.getD j .x).cells.getD 1 .x).toI
noncomputable def readyP (l bl : List AV) (n : Int) : Bool := (List.range' 0 bl.length).all fun i => decide (nx l (iv bl i).toNat = n)
noncomputable def stateS (p : Int) (l : List AV) (z : AV) : Bool :=
  cond (decide (zSt z = 3)) (decide ((((zBu z).length : Nat) : Int) = 0)) (cond (decide (zSt z = 4)) (decide ((((zRo z).length : Nat) : Int) = 0) && decide ((((zBu z).length : Nat) : Int) = 0))
    (cond (decide (zSt z = 1)) (!decide (0 < (((zRo z).length : Nat) : Int)) && (!decide (0 < (((zBu z).length : Nat) : Int)) && readyP l (zBl z) (((zRo z).length : Nat) : Int)))
      (cond (decide (zSt z = 2)) (!(decide ((((zRo z).length : Nat) : Int) = 0) && decide ((((zBu z).length : Nat) : Int) = 0)) && (!decide (p ≤ (((zRo z).length : Nat) : Int)) && readyP l (zBl z) (((zRo z).length : Nat) : Int))) false)))
noncomputable def stateI (p : Int) (l : List AV) (z : AV) : Bool :=
  cond (decide (zSt z = 1)) (decide (zWr z = 0) && readyP l (zBl z) (((zRo z).length : Nat) : Int)) (cond (decide (zSt z = 2)) (decide (0 < zWr z) && (decide ((((zRo z).length : Nat) : Int) < p) && readyP l (zBl z) (((zRo z).length : Nat) : Int)))
    (cond (decide (zSt z = 3)) (decide ((((zBu z).length : Nat) : Int) = 0)) (cond (decide (zSt z = 4)) (decide (zWr z = 0)) false)))
theorem spec_state {z : AV} (h : T121 1048576 z) {d b p fu ke op : Int} {l : List AV} {of_ : Bool} (hL : Rw (T159 1048576) 1048576 l) (hb : ∀ i, i < (zBl z).length → 0 ≤ iv (zBl z) i ∧ iv (zBl z) i < ((l.length : Nat) : Int)) :
    den E 95 [(.agg [(.i .i64 d), (.i .i64 b), (.i .i64 p), (.imm 4 l), (.i .i64 fu), (.i .i64 ke), (.b of_), (.i .i64 op)]), z] [] = some (.b (stateS p l z)) := by
  obtain ⟨a0, a1, a2, a3, a4, a5, rfl, _, w1, _, _, w4, w5, _⟩ := h
  have hl1 := w1.1
  have hj : f95_j1 ((a4.length : Nat) : Int) d b p l fu ke of_ op a0 a1 a2 a3 a4 a5 = some (.b (readyP l a1 ((a4.length : Nat) : Int))) := by
    rw [f95_j1_eq]
    have := all_loop (L := fun i => f95_l2 ((a4.length : Nat) : Int) i d b p l fu ke of_ op a0 a1 a2 a3 a4 a5) (n := a1.length) (p := fun i => decide (nx l (iv a1 i).toNat = ((a4.length : Nat) : Int))) (X := some (.b true)) (F := some (.b false)) (fun i hi => ?_) ?_ a1.length 0 (by omega)
    · refine (show f95_l2 ((a4.length : Nat) : Int) 0 d b p l fu ke of_ op a0 a1 a2 a3 a4 a5 = _ from this).trans ?_
      rw [cond_andb, Bool.and_true]; rfl
    · have hbi := hb i hi
      obtain ⟨x, he, wx, _⟩ := w1.at hi
      have hx : iv a1 i = x := by unfold iv; rw [he]; rfl
      have hbi : 0 ≤ x ∧ x < ((l.length : Nat) : Int) := by rw [← hx]; exact hbi
      have hB := hL.at (show x.toNat < l.length by omega)
      try dsimp only
      rw [f95_l2_eq, dT (show (i : Int) < ((a1.length : Nat) : Int) by omega), cond_true, if_pos (by omega), Int.toNat_natCast, w64 (x := (i : Int) + 1) (by omega) (by omega), he, if_pos (by rfl)]
      show (if 0 ≤ x ∧ x < ((l.length : Nat) : Int) then if okCells false (l.getD x.toNat .x) 1 [(.i .i64)] = true then cond (!decide (nx l x.toNat = ((a4.length : Nat) : Int))) (some (.b false)) (f95_l2 ((a4.length : Nat) : Int) ((i : Int) + 1) d b p l fu ke of_ op a0 a1 a2 a3 a4 a5) else none else none) = _
      rw [if_pos hbi, hB.ok1, if_pos rfl, hx]
      cases decide (nx l x.toNat = ((a4.length : Nat) : Int)) <;> rfl
    · try dsimp only
      rw [f95_l2_eq, dF (Int.lt_irrefl _), cond_false]
  rw [f95_eq, hj]
  unfold stateS
  simp only [zSt, zBl, zRo, zBu, okC_nil, okC_agg, okC_i, okC_b, okC_s, okC_imm, okL_i, okL_b, okL_s, okL_sl, okS_i, okS_b, okS_s, okS_sl, okS_agg, okS_tup, okS_nil, okS_cons, cells_agg, cells_i, cells_b, cells_s, cells_imm, toI_i, toB_b, toS_s, toL_imm, nth_agg, nth_tup, put_agg, put_i, put_b, put_s, put_imm, setCells, List.getD_cons_zero, List.getD_cons_succ, bSh_b, bSh_i, bSh_s, bSh_sl, bSh_some, cond_true, cond_false, decide_true, decide_false, Int.toNat_natCast, Nat.zero_add, Nat.reduceAdd, beq_self_eq_true, Bool.and_true, Bool.true_and, if_true, Bool.false_eq_true, if_false, List.set_cons_zero, List.set_cons_succ, Bool.not_true, Bool.not_false, Bool.and_self]
  cases decide (a0 = 3) <;> cases decide (a0 = 4) <;> cases decide (a0 = 1) <;> cases decide (a0 = 2) <;> cases decide (((a4.length : Nat) : Int) = 0) <;> cases decide (((a5.length : Nat) : Int) = 0) <;> cases decide (0 < ((a4.length : Nat) : Int)) <;> cases decide (0 < ((a5.length : Nat) : Int)) <;> cases decide (p ≤ ((a4.length : Nat) : Int)) <;> rfl
theorem impl_ready {z : AV} (h : T121 1048576 z) {d b p fu ke op : Int} {l zs : List AV} {of_ : Bool} (hL : Rw (T159 1048576) 1048576 l) (hb : ∀ i, i < (zBl z).length → 0 ≤ iv (zBl z) i ∧ iv (zBl z) i < ((l.length : Nat) : Int)) :
    den E 158 [(.ip (devV d b p l fu ke of_ op zs) 0), z] [] = some (.b (readyP l (zBl z) (((zRo z).length : Nat) : Int))) := by
  obtain ⟨a0, a1, a2, a3, a4, a5, rfl, _, w1, _, _, w4, w5, _⟩ := h
  have hl1 := w1.1
  rw [f158_eq, f166q2_eq, f179q2_eq]
  have key := idx_loop (L := fun i => f179q2_l1 a1 (devV d b p l fu ke of_ op zs) (.agg [(.i .i64 a0), (.imm 1 a1), (.i .i64 a2), (.i .i64 a3), (.imm 1 a4), (.imm 1 a5)]) ((a1.length : Nat) : Int) i) (n := a1.length) (p := fun i => !decide (nx l (iv a1 i).toNat = ((a4.length : Nat) : Int))) (fun i hi => ?_) ?_
  · obtain ⟨r, h1, h2⟩ := key
    rw [h1]
    show some (AV.b (!decide (0 ≤ r))) = _
    rw [h2, Bool.not_not]
    simp only [Bool.not_not]
    rfl
  · have hbi := hb i hi
    obtain ⟨x, he, wx, _⟩ := w1.at hi
    have hx : iv a1 i = x := by unfold iv; rw [he]; rfl
    have hbi : 0 ≤ x ∧ x < ((l.length : Nat) : Int) := by rw [← hx]; exact hbi
    have hB := hL.at (show x.toNat < l.length by omega)
    try dsimp only
    rw [f179q2_l1_eq, dT (show (i : Int) < ((a1.length : Nat) : Int) by omega), cond_true, if_pos (by omega), Int.toNat_natCast, w64 (x := (i : Int) + 1) (by omega) (by omega), he, if_pos (by rfl), hx]
    have hc : den E 178 [(.i .i64 x), (.ip (.ip (devV d b p l fu ke of_ op zs) 0) 0), (.ip (.agg [(.i .i64 a0), (.imm 1 a1), (.i .i64 a2), (.i .i64 a3), (.imm 1 a4), (.imm 1 a5)]) 0)] [] = some (.b (!decide (nx l x.toNat = ((a4.length : Nat) : Int)))) := by
      rw [f178q1_eq, if_pos (by rfl)]
      refine (if_pos hbi).trans ?_
      refine (if_pos hB.ok1).trans ?_
      refine (if_pos (by rfl)).trans ?_
      rfl
    show bSh .b (den E 178 [(.i .i64 x), (.ip (.ip (devV d b p l fu ke of_ op zs) 0) 0), (.ip (.agg [(.i .i64 a0), (.imm 1 a1), (.i .i64 a2), (.i .i64 a3), (.imm 1 a4), (.imm 1 a5)]) 0)] []) _ = _
    rw [hc, bSh_b]
    rfl
  · try dsimp only
    rw [f179q2_l1_eq, dF (Int.lt_irrefl _), cond_false]
theorem impl_state {z : AV} (h : T121 1048576 z) {d b p fu ke op : Int} {l zs : List AV} {of_ : Bool} (hL : Rw (T159 1048576) 1048576 l) (hb : ∀ i, i < (zBl z).length → 0 ≤ iv (zBl z) i ∧ iv (zBl z) i < ((l.length : Nat) : Int)) :
    den E 105 [(.ip (devV d b p l fu ke of_ op zs) 0), z] [] = some (.b (stateI p l z)) := by
  have hr := impl_ready (d := d) (b := b) (p := p) (fu := fu) (ke := ke) (op := op) (zs := zs) (of_ := of_) h hL hb
  obtain ⟨a0, a1, a2, a3, a4, a5, rfl, _, w1, _, _, w4, w5, _⟩ := h
  rw [f105_eq, hr]
  unfold stateI
  simp only [zSt, zWr, zBl, zRo, zBu, devV, okC_nil, okC_agg, okC_i, okC_b, okC_s, okC_imm, okL_i, okL_b, okL_s, okL_sl, okS_i, okS_b, okS_s, okS_sl, okS_agg, okS_tup, okS_nil, okS_cons, cells_agg, cells_i, cells_b, cells_s, cells_imm, toI_i, toB_b, toS_s, toL_imm, nth_agg, nth_tup, put_agg, put_i, put_b, put_s, put_imm, setCells, List.getD_cons_zero, List.getD_cons_succ, bSh_b, bSh_i, bSh_s, bSh_sl, bSh_some, cond_true, cond_false, decide_true, decide_false, Int.toNat_natCast, Nat.zero_add, Nat.reduceAdd, beq_self_eq_true, Bool.and_true, Bool.true_and, if_true, Bool.false_eq_true, if_false, List.set_cons_zero, List.set_cons_succ, Bool.not_true, Bool.not_false, Bool.and_self]
  cases decide (a0 = 1) <;> cases decide (a0 = 2) <;> cases decide (a0 = 3) <;> cases decide (a0 = 4) <;> cases decide (a2 = 0) <;> cases decide (0 < a2) <;> cases decide (((a4.length : Nat) : Int) < p) <;> rfl
theorem sum_bounds {l : List AV} : ∀ {n : Nat}, (∀ i, i < n → 1 ≤ iv l i ∧ iv l i ≤ 2) → n ≤ 16 → (n : Int) ≤ sumTo l n ∧ sumTo l n ≤ 2 * n
  | 0, _, _ => by simp [sumTo]
  | n + 1, h, hn => by
    obtain ⟨h1, h2⟩ := sum_bounds (l := l) (n := n) (fun i hi => h i (by omega)) (by omega)
    obtain ⟨h3, h4⟩ := h n (by omega)
    simp only [sumTo]
    rw [w64 (by omega) (by omega)]
    omega
theorem state_eq {d p : Int} {z : AV} (l : List AV) (hd : d ≤ 3) (hp : p ≤ 16) (hc : contP d p z = true) : stateS p l z = stateI p l z := by
  unfold contP at hc
  simp only [Bool.and_eq_true, Bool.not_eq_true', decide_eq_false_iff_not, decide_eq_true_eq] at hc
  obtain ⟨h1, h2, h3, _, h5, h6⟩ := hc
  have hs := sum_bounds (l := zRo z) (n := (zRo z).length) (fun i hi => by
    have := List.all_eq_true.1 h2 i (by simp [List.mem_range'_1, hi])
    simp only [Bool.and_eq_true, decide_eq_true_eq] at this
    omega) (by omega)
  rw [w64 (by omega) (by omega)] at h6
  unfold stateS stateI
  generalize (zRo z).length = nr at *
  generalize (zBu z).length = nb at *
  have e1 : decide (zWr z = 0) = (decide (((nr : Nat) : Int) = 0) && decide (((nb : Nat) : Int) = 0)) := by
    rw [Bool.eq_iff_iff, Bool.and_eq_true, decide_eq_true_eq, decide_eq_true_eq, decide_eq_true_eq]; omega
  have e2 : decide (0 < zWr z) = !(decide (((nr : Nat) : Int) = 0) && decide (((nb : Nat) : Int) = 0)) := by
    rw [← e1, Bool.eq_iff_iff, Bool.not_eq_true', decide_eq_true_eq, decide_eq_false_iff_not]; omega
  have e3 : decide (((nr : Nat) : Int) < p) = !decide (p ≤ ((nr : Nat) : Int)) := by
    rw [Bool.eq_iff_iff, Bool.not_eq_true', decide_eq_true_eq, decide_eq_false_iff_not]; omega
  have e4 : (!decide (0 < ((nr : Nat) : Int))) = decide (((nr : Nat) : Int) = 0) := by
    rw [Bool.eq_iff_iff, Bool.not_eq_true', decide_eq_true_eq, decide_eq_false_iff_not]; omega
  have e5 : (!decide (0 < ((nb : Nat) : Int))) = decide (((nb : Nat) : Int) = 0) := by
    rw [Bool.eq_iff_iff, Bool.not_eq_true', decide_eq_true_eq, decide_eq_false_iff_not]; omega
  rw [e1, e2, e3, e4, e5]
  by_cases g1 : zSt z = 1
  · simp [g1, Bool.and_assoc]
  by_cases g2 : zSt z = 2
  · simp [g2]
  by_cases g3 : zSt z = 3
  · simp [g3]
  by_cases g4 : zSt z = 4
  · simp [g4]
  simp [g1, g2, g3, g4]

/-! No block is in two zones. -/
noncomputable def insU : List AV → List AV → Option (List AV)
  | [], u => some u
  | y :: ys, u => cond (hasI u (y.cells.getD 0 .x).toI) none (insU ys (u ++ [.i .i64 (y.cells.getD 0 .x).toI]))
noncomputable def zonesU (ok : AV → Bool) : List AV → List AV → Bool
  | [], _ => true
  | z :: zs, us => ok z && (match insU (zBl z) us with | none => false | some u2 => zonesU ok zs u2)
theorem insU_len : ∀ {ys us u2 : List AV}, insU ys us = some u2 → u2.length = us.length + ys.length
  | [], us, u2, h => by simp only [insU, Option.some.injEq] at h; subst h; rfl
  | y :: ys, us, u2, h => by
    simp only [insU] at h
    cases hh : hasI us (y.cells.getD 0 .x).toI
    · rw [hh] at h
      have := insU_len (ys := ys) h
      rw [this]; simp; omega
    · rw [hh] at h; cases h
def UI (us : List AV) : Prop := ∀ y, y ∈ us → ∃ n, y = .i .i64 n
theorem UI.push {us : List AV} (h : UI us) (n : Int) : UI (us ++ [.i .i64 n]) := by
  intro y hy
  rcases List.mem_append.1 hy with g | g
  · exact h y g
  · exact ⟨n, List.mem_singleton.1 g⟩
theorem insU_UI : ∀ {ys us u2 : List AV}, UI us → insU ys us = some u2 → UI u2
  | [], us, u2, hu, h => by simp only [insU, Option.some.injEq] at h; subst h; exact hu
  | y :: ys, us, u2, hu, h => by
    simp only [insU] at h
    cases hh : hasI us (y.cells.getD 0 .x).toI
    · rw [hh] at h; exact insU_UI (hu.push _) h
    · rw [hh] at h; cases h
theorem all_range (l : List AV) (f : AV → Bool) : l.all f = (List.range' 0 l.length).all fun i => f (l.getD i .x) := by
  rw [Bool.eq_iff_iff, List.all_eq_true, List.all_eq_true]
  constructor
  · intro h i hi
    exact h _ (getD_mem (by simpa [List.mem_range'_1] using hi))
  · intro h y hy
    obtain ⟨i, hi⟩ := List.getElem?_of_mem hy
    have hlt : i < l.length := (List.getElem?_eq_some_iff.1 hi).1
    have := h i (by simp [List.mem_range'_1, hlt])
    simpa [List.getD_eq_getElem?_getD, hi] using this
theorem spec_has {us : List AV} (hu : UI us) (hl : us.length ≤ 1000) (n : Int) : den E 96 [(.imm 1 us), (.i .i64 n)] [] = some (.b (hasI us n)) := by
  rw [f96_eq]
  have := all_loop (L := fun i => f96_l1 us n i) (n := us.length) (p := fun i => !decide ((us.getD i .x).toI = n)) (X := some (.b false)) (F := some (.b true)) (fun i hi => ?_) ?_ us.length 0 (by omega)
  · refine this.trans ?_
    have e := all_range us fun a => !decide (a.toI = n)
    rw [← e]
    unfold hasI
    rw [← List.not_any_eq_all_not]
    cases us.any fun a => decide (a.toI = n) <;> rfl
  · obtain ⟨m, he⟩ := hu _ (getD_mem hi)
    try dsimp only
    rw [f96_l1_eq, dT (show (i : Int) < ((us.length : Nat) : Int) by omega), cond_true, if_pos (by omega), Int.toNat_natCast, w64 (x := (i : Int) + 1) (by omega) (by omega), he, if_pos (by rfl)]
    show cond (decide (m = n)) _ _ = cond (!decide (m = n)) _ _
    cases decide (m = n) <;> rfl
  · try dsimp only
    rw [f96_l1_eq, dF (Int.lt_irrefl _), cond_false]

/-! A zone is valid. -/
noncomputable def zoneOk (d b p : Int) (l : List AV) (z : AV) : Bool := placesP d b (zBl z) && (contP d p z && stateI p l z)
theorem places_len {d b : Int} {bl : List AV} (h : placesP d b bl = true) : ((bl.length : Nat) : Int) = d := by
  unfold placesP at h
  rw [Bool.and_eq_true, decide_eq_true_eq] at h
  exact h.1
theorem places_in {d b : Int} {bl : List AV} (hd : d = 2 ∨ d = 3) (h4 : 4 ≤ b) (h : placesP d b bl = true) : ∀ i, i < bl.length → 0 ≤ iv bl i ∧ iv bl i < d * b := by
  have hl := places_len h
  unfold placesP at h
  rw [Bool.and_eq_true, List.all_eq_true] at h
  intro i hi
  have := h.2 i (by simp [List.mem_range'_1, hi])
  rw [Bool.and_eq_true, decide_eq_true_eq, decide_eq_true_eq] at this
  have h3 : i = 0 ∨ i = 1 ∨ i = 2 := by omega
  rcases hd with rfl | rfl <;> rcases h3 with rfl | rfl | rfl <;> omega
section
variable {d b p fu ke op : Int} {l zs : List AV} {of_ : Bool}
theorem spec_ins (t : Int) {a0 a2 a3 : Int} {a1 a4 a5 : List AV} (w1 : Rw (T2 1048576) 1048576 a1) : ∀ (k j : Nat) (us : List AV), j + k = a1.length → us.length + k ≤ 1000 → UI us →
    f49_l2 t (j : Int) d b p l fu ke of_ op zs us a0 a1 a2 a3 a4 a5 = (match insU (a1.drop j) us with | none => some (.b false) | some u2 => f49_l1 (IntKind.i64.wrap (t + 1)) d b p l fu ke of_ op zs u2) := by
  have hl1 := w1.1
  intro k
  induction k with
  | zero =>
    intro j us h _ _
    obtain rfl : j = a1.length := by omega
    rw [f49_l2_eq, dF (Int.lt_irrefl _), cond_false, List.drop_length]
    rfl
  | succ k ih =>
    intro j us h hlen hu
    have hj : j < a1.length := by omega
    obtain ⟨x, he, wx, _⟩ := w1.at hj
    rw [f49_l2_eq, dT (show (j : Int) < ((a1.length : Nat) : Int) by omega), cond_true, if_pos (by omega), Int.toNat_natCast, w64 (x := (j : Int) + 1) (by omega) (by omega), drop_getD hj, he, if_pos (by rfl)]
    show bSh .b (den E 96 [(.imm 1 us), (.i .i64 x)] []) _ = _
    rw [spec_has hu (by omega), bSh_b]
    rw [show insU (.i .i64 x :: a1.drop (j + 1)) us = cond (hasI us x) none (insU (a1.drop (j + 1)) (us ++ [.i .i64 x])) from rfl]
    show cond (hasI us x) (some (AV.b false)) _ = _
    cases hasI us x
    · simp only [cond_false]
      rw [if_pos (by omega), if_pos (by rfl)]
      refine (if_pos (show (us.length + 1) * 8 ≤ room by simp only [room]; omega)).trans ?_
      exact ih (j + 1) _ (by omega) (by simp; omega) (hu.push _)
    · rfl
theorem spec_zones (hL : Rw (T159 1048576) 1048576 l) (hz : Rw (T121 1048576) 1048576 zs) (hd : d = 2 ∨ d = 3) (h4 : 4 ≤ b) (hb : b ≤ 12) (hp : p ≤ 16) (hll : ((l.length : Nat) : Int) = d * b) (hzl : zs.length ≤ 12) :
    ∀ (k i : Nat) (us : List AV), i + k = zs.length → us.length ≤ 3 * i → UI us → f49_l1 (i : Int) d b p l fu ke of_ op zs us = some (.b (zonesU (zoneOk d b p l) (zs.drop i) us)) := by
  intro k
  induction k with
  | zero =>
    intro i us h _ _
    obtain rfl : i = zs.length := by omega
    rw [f49_l1_eq, dF (Int.lt_irrefl _), cond_false, List.drop_length]
    rfl
  | succ k ih =>
    intro i us h hlen hu
    have hi : i < zs.length := by omega
    have hT := hz.at hi
    rw [f49_l1_eq, dT (show (i : Int) < ((zs.length : Nat) : Int) by omega), cond_true, if_pos (by omega), Int.toNat_natCast, hT.ok, if_pos rfl, hT.eta, spec_places hT p (by omega) h4 hb, bSh_b, spec_cont hT b (by omega) (by omega), bSh_b, drop_getD hi]
    simp only [zonesU, zoneOk, toB_b]
    cases hP : placesP d b (zBl (zs.getD i .x))
    · rfl
    have hin := places_in hd h4 hP
    have hbl := places_len hP
    rw [spec_state hT hL (fun j hj => by have := hin j hj; omega), bSh_b]
    cases hC : contP d p (zs.getD i .x)
    · rfl
    rw [state_eq l (by omega) hp hC]
    simp only [toB_b]
    cases stateI p l (zs.getD i .x)
    · rfl
    have w1 : Rw (T2 1048576) 1048576 (zBl (zs.getD i .x)) := by
      obtain ⟨a0, a1, a2, a3, a4, a5, he, _, w1, _⟩ := hT
      rw [he]; exact w1
    have := spec_ins (d := d) (b := b) (p := p) (fu := fu) (ke := ke) (op := op) (l := l) (zs := zs) (of_ := of_) (i : Int) (a0 := zSt (zs.getD i .x)) (a2 := zWr (zs.getD i .x)) (a3 := zSy (zs.getD i .x)) (a4 := zRo (zs.getD i .x)) (a5 := zBu (zs.getD i .x)) w1 (zBl (zs.getD i .x)).length 0 us (by omega) (by omega) hu
    refine (show f49_l2 (i : Int) 0 d b p l fu ke of_ op zs us _ _ _ _ _ _ = _ from this).trans ?_
    rw [List.drop_zero, w64 (x := (i : Int) + 1) (by omega) (by omega)]
    cases hI : insU (zBl (zs.getD i .x)) us with
    | none => rfl
    | some u2 =>
      have h2 := insU_len hI
      exact ih (i + 1) u2 (by omega) (by omega) (insU_UI hu hI)
theorem impl_ins (t : Int) {a1 : List AV} (w1 : Rw (T2 1048576) 1048576 a1) : ∀ (k j : Nat) (us : List AV), j + k = a1.length →
    f54_l2 zs ((zs.length : Nat) : Int) t a1 ((a1.length : Nat) : Int) (j : Int) d b p l fu ke of_ op zs us = (match insU (a1.drop j) us with | none => some (.b false) | some u2 => f54_l1 zs ((zs.length : Nat) : Int) (IntKind.i64.wrap (t + 1)) d b p l fu ke of_ op zs u2) := by
  have hl1 := w1.1
  intro k
  induction k with
  | zero =>
    intro j us h
    obtain rfl : j = a1.length := by omega
    rw [f54_l2_eq, dF (Int.lt_irrefl _), cond_false, List.drop_length]
    rfl
  | succ k ih =>
    intro j us h
    have hj : j < a1.length := by omega
    obtain ⟨x, he, wx, _⟩ := w1.at hj
    rw [f54_l2_eq, dT (show (j : Int) < ((a1.length : Nat) : Int) by omega), cond_true, if_pos (by omega), Int.toNat_natCast, w64 (x := (j : Int) + 1) (by omega) (by omega), drop_getD hj, he, if_pos (by rfl)]
    rw [show insU (.i .i64 x :: a1.drop (j + 1)) us = cond (hasI us x) none (insU (a1.drop (j + 1)) (us ++ [.i .i64 x])) from rfl]
    show cond (hasI us x) (some (AV.b false)) _ = _
    cases hasI us x
    · simp only [cond_false]
      exact ih (j + 1) _ (by omega)
    · rfl
theorem impl_zones (hL : Rw (T159 1048576) 1048576 l) (hz : Rw (T121 1048576) 1048576 zs) (hd : d = 2 ∨ d = 3) (h4 : 4 ≤ b) (hb : b ≤ 12) (hll : ((l.length : Nat) : Int) = d * b) :
    ∀ (k i : Nat) (us : List AV), i + k = zs.length → f54_l1 zs ((zs.length : Nat) : Int) (i : Int) d b p l fu ke of_ op zs us = some (.b (zonesU (zoneOk d b p l) (zs.drop i) us)) := by
  have hzl := hz.1
  intro k
  induction k with
  | zero =>
    intro i us h
    obtain rfl : i = zs.length := by omega
    rw [f54_l1_eq, dF (Int.lt_irrefl _), cond_false, List.drop_length]
    rfl
  | succ k ih =>
    intro i us h
    have hi : i < zs.length := by omega
    have hT := hz.at hi
    rw [f54_l1_eq, dT (show (i : Int) < ((zs.length : Nat) : Int) by omega), cond_true, if_pos (by omega), Int.toNat_natCast, hT.ok, if_pos rfl, hT.eta, impl_places hT (by omega) h4 hb, bSh_b, impl_cont hT (by omega) (by omega), bSh_b, drop_getD hi]
    simp only [zonesU, zoneOk, toB_b]
    cases hP : placesP d b (zBl (zs.getD i .x))
    · rfl
    have hin := places_in hd h4 hP
    rw [impl_state hT hL (fun j hj => by have := hin j hj; omega), bSh_b]
    cases contP d p (zs.getD i .x)
    · rfl
    simp only [toB_b]
    cases stateI p l (zs.getD i .x)
    · rfl
    have w1 : Rw (T2 1048576) 1048576 (zBl (zs.getD i .x)) := by
      obtain ⟨a0, a1, a2, a3, a4, a5, he, _, w1, _⟩ := hT
      rw [he]; exact w1
    have := impl_ins (d := d) (b := b) (p := p) (fu := fu) (ke := ke) (op := op) (l := l) (zs := zs) (of_ := of_) (i : Int) w1 (zBl (zs.getD i .x)).length 0 us (by omega)
    refine (show f54_l2 zs ((zs.length : Nat) : Int) (i : Int) _ _ 0 d b p l fu ke of_ op zs us = _ from this).trans ?_
    rw [List.drop_zero, w64 (x := (i : Int) + 1) (by omega) (by omega)]
    cases hI : insU (zBl (zs.getD i .x)) us with
    | none => rfl
    | some u2 => exact ih (i + 1) u2 (by omega)

/-! A device is valid. -/
noncomputable def okDev (d b p : Int) (l : List AV) (fu ke op : Int) (zs : List AV) : Bool := okFl d b p l fu ke op && (decide ((1 : Int) ≤ ((zs.length : Nat) : Int)) && (decide (((zs.length : Nat) : Int) ≤ b) && zonesU (zoneOk d b p l) zs []))
theorem okFl_geo {d b p : Int} {l : List AV} {fu ke op : Int} (h : okFl d b p l fu ke op = true) : (d = 2 ∨ d = 3) ∧ 4 ≤ b ∧ b ≤ 12 ∧ (p = 8 ∨ p = 16) ∧ ((l.length : Nat) : Int) = d * b := by
  simp only [okFl, okGeo, Bool.and_eq_true, Bool.or_eq_true, decide_eq_true_eq] at h
  obtain ⟨⟨⟨h1, h2⟩, ⟨h3, h4⟩, h5⟩, h6, _⟩ := h
  have hd : d = 2 ∨ d = 3 := by omega
  refine ⟨hd, h3, h4, h5, ?_⟩
  rw [h6]
  rcases hd with rfl | rfl <;> exact w64 (by omega) (by omega)
theorem spec_device (hL : Rw (T159 1048576) 1048576 l) (hz : Rw (T121 1048576) 1048576 zs) : den E 49 [devV d b p l fu ke of_ op zs] [] = some (.b (okDev d b p l fu ke op zs)) := by
  rw [f49_eq, spec_flash hL, bSh_b]
  unfold okDev
  cases hF : okFl d b p l fu ke op
  · rfl
  obtain ⟨hd, h4, hb, hp, hll⟩ := okFl_geo hF
  simp only [toB_b, Bool.not_true, beq_self_eq_true, cond_true, Bool.true_and]
  rw [f92_eq, dF (show ¬ (12 : Int) < b by omega), cond_false, bSh_i]
  have e1 : (decide (((zs.length : Nat) : Int) < 1) == false) = decide ((1 : Int) ≤ ((zs.length : Nat) : Int)) := by
    by_cases g : ((zs.length : Nat) : Int) < 1
    · have g2 : ¬ (1 : Int) ≤ ((zs.length : Nat) : Int) := by omega
      simp only [g, g2, decide_true, decide_false]; rfl
    · have g2 : (1 : Int) ≤ ((zs.length : Nat) : Int) := by omega
      simp only [g, g2, decide_true, decide_false]; rfl
  rw [e1]
  cases decide ((1 : Int) ≤ ((zs.length : Nat) : Int))
  · rfl
  by_cases g : ((zs.length : Nat) : Int) ≤ b
  · rw [dT g, dF (show ¬ (AV.i IntKind.i64 b).toI < ((zs.length : Nat) : Int) from fun h => by have : b < ((zs.length : Nat) : Int) := h; omega)]
    have := spec_zones (d := d) (b := b) (p := p) (fu := fu) (ke := ke) (op := op) (l := l) (zs := zs) (of_ := of_) hL hz hd h4 hb (by omega) hll (by omega) zs.length 0 [] (by omega) (by simp) (fun y hy => by simp at hy)
    exact this
  · rw [dF g, dT (show (AV.i IntKind.i64 b).toI < ((zs.length : Nat) : Int) from by show b < _; omega)]
    rfl
theorem impl_device (hL : Rw (T159 1048576) 1048576 l) (hz : Rw (T121 1048576) 1048576 zs) : den E 54 [devV d b p l fu ke of_ op zs] [] = some (.b (okDev d b p l fu ke op zs)) := by
  rw [f54_eq, impl_flash hL, bSh_b]
  unfold okDev
  cases hF : okFl d b p l fu ke op
  · rfl
  obtain ⟨hd, h4, hb, hp, hll⟩ := okFl_geo hF
  simp only [toB_b, Bool.not_true, beq_self_eq_true, cond_true, Bool.true_and]
  have em : (if b < 12 then b else (12 : Int)) = b := by split <;> omega
  rw [em, in72, bSh_b]
  have := impl_zones (d := d) (b := b) (p := p) (fu := fu) (ke := ke) (op := op) (l := l) (zs := zs) (of_ := of_) hL hz hd h4 hb hll zs.length 0 [] (by omega)
  rw [show f54_l1 zs ((zs.length : Nat) : Int) 0 d b p l fu ke of_ op zs [] = _ from this]
  simp only [toB_b, List.drop_zero]
  cases decide ((1 : Int) ≤ ((zs.length : Nat) : Int)) <;> cases decide (((zs.length : Nat) : Int) ≤ b) <;> rfl
end


theorem zonesU_ok {ok : AV → Bool} : ∀ {zs us : List AV}, zonesU ok zs us = true → ∀ z, z ∈ zs → ok z = true
  | [], _, _, z, hz => by simp at hz
  | y :: ys, us, h, z, hz => by
    simp only [zonesU, Bool.and_eq_true] at h
    obtain ⟨h1, h2⟩ := h
    rcases List.mem_cons.1 hz with rfl | g
    · exact h1
    · split at h2
      · cases h2
      · exact zonesU_ok h2 z g
theorem okDev_zone {d b p : Int} {l : List AV} {fu ke op : Int} {zs : List AV} (h : okDev d b p l fu ke op zs = true) {i : Nat} (hi : i < zs.length) :
    ((d = 2 ∨ d = 3) ∧ 4 ≤ b ∧ b ≤ 12 ∧ (p = 8 ∨ p = 16) ∧ ((l.length : Nat) : Int) = d * b) ∧ zoneOk d b p l (zs.getD i .x) = true ∧ ∀ j, j < (zBl (zs.getD i .x)).length → 0 ≤ iv (zBl (zs.getD i .x)) j ∧ iv (zBl (zs.getD i .x)) j < ((l.length : Nat) : Int) := by
  simp only [okDev, Bool.and_eq_true] at h
  obtain ⟨h1, _, _, h2⟩ := h
  have hg := okFl_geo h1
  have hz := zonesU_ok h2 _ (getD_mem hi)
  refine ⟨hg, hz, fun j hj => ?_⟩
  simp only [zoneOk, Bool.and_eq_true] at hz
  have := places_in hg.1 hg.2.1 hz.1 j hj
  rw [hg.2.2.2.2]
  exact this


theorem spec_zone {zs : List AV} (hzl : zs.length ≤ 1048576) (d b p : Int) (l : List AV) (fu ke op : Int) (of_ : Bool) (x : Int) : den E 50 [(.ip (devV d b p l fu ke of_ op zs) 0), (.i .i64 x)] [] = some (.b (decide (0 ≤ x) && decide (x ≤ ((zs.length : Nat) : Int) - 1))) := by
  rw [f50_eq, if_pos (by rfl)]
  show bSh .b (den E 97 [(.i .i64 x), (.i .i64 0), (.i .i64 (IntKind.i64.wrap (((zs.length : Nat) : Int) - 1)))] []) _ = _
  rw [in90, bSh_b, w64 (by omega) (by omega)]
  rfl
/-! A zone's wear. -/
noncomputable def wearTo (l bl : List AV) : Nat → Int
  | 0 => 0
  | i + 1 => IntKind.i64.wrap (wearTo l bl i + iv l (iv bl i).toNat)
theorem spec_wearz {d b p fu ke op : Int} {l zs : List AV} {of_ : Bool} (hL : Rw (T159 1048576) 1048576 l) (hz : Rw (T121 1048576) 1048576 zs) {i : Nat} (hi : i < zs.length)
    (hb : ∀ j, j < (zBl (zs.getD i .x)).length → 0 ≤ iv (zBl (zs.getD i .x)) j ∧ iv (zBl (zs.getD i .x)) j < ((l.length : Nat) : Int)) :
    den E 51 [(.ip (devV d b p l fu ke of_ op zs) 0), (.i .i64 (i : Int))] [] = some (.i .i64 (wearTo l (zBl (zs.getD i .x)) (zBl (zs.getD i .x)).length)) := by
  have hT := hz.at hi
  obtain ⟨a0, a1, a2, a3, a4, a5, he, _, w1, _⟩ := hT
  rw [he] at hb ⊢
  have hl1 := w1.1
  have hlen : ((zs.getD (i : Int).toNat .x).cells.getD 1 .x).toL = a1 := by rw [Int.toNat_natCast, he]; rfl
  rw [f51_eq]
  have := loop_to (R := AV) (L := fun j => f51_l1 (devV d b p l fu ke of_ op zs) (i : Int) (wearTo l a1 j.toNat) j) (n := a1.length) (X := some (.i .i64 (wearTo l a1 a1.length))) (fun j hj => ?_) ?_
  · exact this
  · obtain ⟨x, hx, wx, _⟩ := w1.at hj
    have hbj := hb j hj
    have hv : iv a1 j = x := by unfold iv; rw [hx]; rfl
    have hbx : 0 ≤ x ∧ x < ((l.length : Nat) : Int) := by rw [← hv]; exact hbj
    have hB := hL.at (show x.toNat < l.length by omega)
    try dsimp only
    rw [f51_l1_eq]
    refine (if_pos (by rfl)).trans ((if_pos (show 0 ≤ (i : Int) ∧ (i : Int) < ((zs.length : Nat) : Int) by omega)).trans ((if_pos (show okCells false (zs.getD (i : Int).toNat .x) 1 _ = true by rw [Int.toNat_natCast, he]; rfl)).trans ?_))
    show cond (decide ((j : Int) < (((((zs.getD (i : Int).toNat .x).cells.getD 1 .x).toL).length : Nat) : Int))) _ _ = _
    rw [dT (show (j : Int) < (((((zs.getD (i : Int).toNat .x).cells.getD 1 .x).toL).length : Nat) : Int) by rw [hlen]; omega), cond_true]
    refine (if_pos (by rfl)).trans ((if_pos (by rfl)).trans ((if_pos (show 0 ≤ (i : Int) ∧ (i : Int) < ((zs.length : Nat) : Int) by omega)).trans ((if_pos (show okCells false (zs.getD (i : Int).toNat .x) 1 _ = true by rw [Int.toNat_natCast, he]; rfl)).trans ?_)))
    refine (if_pos (show 0 ≤ (j : Int) ∧ (j : Int) < (((((zs.getD (i : Int).toNat .x).cells.getD 1 .x).toL).length : Nat) : Int) by rw [hlen]; omega)).trans ?_
    refine (if_pos (show okCells false ((((zs.getD (i : Int).toNat .x).cells.getD 1 .x).toL).getD (j : Int).toNat .x) 0 _ = true by rw [hlen, Int.toNat_natCast, hx]; rfl)).trans ?_
    refine (if_pos (show 0 ≤ iv (((zs.getD (i : Int).toNat .x).cells.getD 1 .x).toL) (j : Int).toNat ∧ iv (((zs.getD (i : Int).toNat .x).cells.getD 1 .x).toL) (j : Int).toNat < ((l.length : Nat) : Int) by rw [hlen, Int.toNat_natCast, hv]; exact hbx)).trans ?_
    refine (if_pos (show okCells false (l.getD (iv (((zs.getD (i : Int).toNat .x).cells.getD 1 .x).toL) (j : Int).toNat).toNat .x) 0 _ = true by rw [hlen, Int.toNat_natCast, hv]; exact hB.ok0)).trans ?_
    show f51_l1 _ _ (IntKind.i64.wrap (wearTo l a1 (j : Int).toNat + iv l (iv (((zs.getD (i : Int).toNat .x).cells.getD 1 .x).toL) (j : Int).toNat).toNat)) _ = _
    rw [hlen, Int.toNat_natCast, w64 (x := (j : Int) + 1) (by omega) (by omega), show ((j : Int) + 1).toNat = j + 1 by omega]
    rfl
  · try dsimp only
    rw [f51_l1_eq]
    refine (if_pos (by rfl)).trans ((if_pos (show 0 ≤ (i : Int) ∧ (i : Int) < ((zs.length : Nat) : Int) by omega)).trans ((if_pos (show okCells false (zs.getD (i : Int).toNat .x) 1 _ = true by rw [Int.toNat_natCast, he]; rfl)).trans ?_))
    show cond (decide (((a1.length : Nat) : Int) < (((((zs.getD (i : Int).toNat .x).cells.getD 1 .x).toL).length : Nat) : Int))) _ _ = _
    rw [dF (show ¬ ((a1.length : Nat) : Int) < (((((zs.getD (i : Int).toNat .x).cells.getD 1 .x).toL).length : Nat) : Int) by rw [hlen]; omega), cond_false, Int.toNat_natCast]
theorem impl_wearz {d b p fu ke op : Int} {l zs : List AV} {of_ : Bool} (hL : Rw (T159 1048576) 1048576 l) (hz : Rw (T121 1048576) 1048576 zs) {i : Nat} (hi : i < zs.length)
    (hb : ∀ j, j < (zBl (zs.getD i .x)).length → 0 ≤ iv (zBl (zs.getD i .x)) j ∧ iv (zBl (zs.getD i .x)) j < ((l.length : Nat) : Int)) :
    den E 56 [(.ip (devV d b p l fu ke of_ op zs) 0), (.i .i64 (i : Int))] [] = some (.i .i64 (wearTo l (zBl (zs.getD i .x)) (zBl (zs.getD i .x)).length)) := by
  have hT := hz.at hi
  obtain ⟨a0, a1, a2, a3, a4, a5, he, _, w1, _⟩ := hT
  rw [he] at hb ⊢
  have hl1 := w1.1
  have hlen : ((zs.getD (i : Int).toNat .x).cells.getD 1 .x).toL = a1 := by rw [Int.toNat_natCast, he]; rfl
  rw [f56_eq]
  refine (if_pos (by rfl)).trans ((if_pos (show 0 ≤ (i : Int) ∧ (i : Int) < ((zs.length : Nat) : Int) by omega)).trans ((if_pos (show okCells false (zs.getD (i : Int).toNat .x) 1 _ = true by rw [Int.toNat_natCast, he]; rfl)).trans ?_))
  show f56_l1 (devV d b p l fu ke of_ op zs) 0 (((zs.getD (i : Int).toNat .x).cells.getD 1 .x).toL) (((((zs.getD (i : Int).toNat .x).cells.getD 1 .x).toL).length : Nat) : Int) 0 = _
  rw [hlen]
  have := loop_to (R := AV) (L := fun j => f56_l1 (devV d b p l fu ke of_ op zs) (wearTo l a1 j.toNat) a1 ((a1.length : Nat) : Int) j) (n := a1.length) (X := some (.i .i64 (wearTo l a1 a1.length))) (fun j hj => ?_) ?_
  · exact this
  · obtain ⟨x, hx, wx, _⟩ := w1.at hj
    have hbj := hb j hj
    have hv : iv a1 j = x := by unfold iv; rw [hx]; rfl
    have hbx : 0 ≤ x ∧ x < ((l.length : Nat) : Int) := by rw [← hv]; exact hbj
    have hB := hL.at (show x.toNat < l.length by omega)
    try dsimp only
    rw [f56_l1_eq, dT (show (j : Int) < ((a1.length : Nat) : Int) by omega), cond_true, if_pos (by omega), Int.toNat_natCast, w64 (x := (j : Int) + 1) (by omega) (by omega), show ((j : Int) + 1).toNat = j + 1 by omega]
    refine (if_pos (show okCells false (a1.getD j .x) 0 _ = true by rw [hx]; rfl)).trans ((if_pos (by rfl)).trans ?_)
    refine (if_pos (show 0 ≤ iv a1 j ∧ iv a1 j < ((l.length : Nat) : Int) by rw [hv]; exact hbx)).trans ?_
    refine (if_pos (show okCells false (l.getD (iv a1 j).toNat .x) 0 _ = true by rw [hv]; exact hB.ok0)).trans ?_
    rfl
  · try dsimp only
    rw [f56_l1_eq, dF (Int.lt_irrefl _), cond_false, Int.toNat_natCast]


theorem pure (el : AV) (h : T29 9223372036854775807 el) (x : Int) (_ : W64 x) : den E 3 [el, (.i .i64 x)] [] = some (.b true) := by
  obtain ⟨t, ht, hq⟩ := sz10 h 1048576 (by omega) (by omega)
  obtain ⟨a0, a1, a2, a3, a4, a5, a6, a7, a8, rfl, _⟩ := h
  rw [f3_eq, ht]
  simp only [bSh_i, toI_i]
  rcases hq with hq | ⟨h0, h1, hT⟩
  · simp only [hq, decide_true, cond_true]
  have hn : ¬ t < 0 := by omega
  simp only [hn, decide_false, cond_false]
  have e0 := to12 hT
  have q0 := eq14 hT
  obtain ⟨b0, b1, b2, b3, b4, b5, b6, b7, b8, hb, v0, v1, v2, v3, v4, v5, v7, v8, _⟩ := hT
  cases hb
  have s : ∃ v : Int, den E 11 [devV a0 a1 a2 a3 a4 a5 a6 a7 a8, (.i .i64 x)] [] = some (.i .i64 v) ∧ den E 13 [devV a0 a1 a2 a3 a4 a5 a6 a7 a8, (.i .i64 x)] [] = some (.i .i64 v) := by
    rw [f11_eq, f13_eq, spec_device v3 v8, impl_device v3 v8, bSh_b, bSh_b]
    cases hD : okDev a0 a1 a2 a3 a4 a5 a7 a8
    · exact ⟨_, rfl, rfl⟩
    have hzl := v8.1
    rw [spec_zone hzl, isIdx (by omega) (by omega)]
    simp only [bSh_b, toB_b, Bool.not_true, beq_self_eq_true, cond_true]
    cases hX : (decide (0 ≤ x) && decide (x ≤ ((a8.length : Nat) : Int) - 1))
    · exact ⟨_, rfl, rfl⟩
    simp only [Bool.and_eq_true, decide_eq_true_eq] at hX
    obtain ⟨i, rfl⟩ : ∃ i : Nat, x = i := ⟨x.toNat, by omega⟩
    have hi : i < a8.length := by omega
    obtain ⟨_, _, hb⟩ := okDev_zone hD hi
    rw [spec_wearz v3 v8 hi hb, impl_wearz v3 v8 hi hb]
    exact ⟨_, rfl, rfl⟩
  obtain ⟨v, g1, g2⟩ := s
  simp only [devV] at g1 g2
  simp only [e0, q0, g1, g2, okC_nil, okC_agg, okC_i, okC_b, okC_s, okC_imm, okL_i, okL_b, okL_s, okL_sl, okS_i, okS_b, okS_s, okS_sl, okS_agg, okS_tup, okS_nil, okS_cons, cells_agg, cells_i, cells_b, cells_s, cells_imm, toI_i, toB_b, toS_s, toL_imm, nth_agg, nth_tup, put_agg, put_i, put_b, put_s, put_imm, setCells, List.getD_cons_zero, List.getD_cons_succ, bSh_b, bSh_i, bSh_s, bSh_sl, bSh_some, cond_true, cond_false, decide_true, decide_false, Int.toNat_natCast, Nat.zero_add, Nat.reduceAdd, beq_self_eq_true, Bool.and_true, Bool.true_and, if_true, Bool.false_eq_true, if_false, List.set_cons_zero, List.set_cons_succ, Bool.not_true, Bool.not_false, Bool.and_self]
end Go.Proofs.Ytokpbjbngnlepaa.IWearOfZone
