/- ValidEdit: the program's answer is the reference's, for every edit. No condition beyond what each theorem states. -/
import Derived.Test.YthlmjmejnlalaaaIValidEditf
namespace Go.Proofs.Ythlmjmejnlalaaa.IValidEdit
open Go Go.Proofs.YthlmjmejnlalaaaIT
set_option linter.unusedSimpArgs false

theorem in90 (a lo hi : Int) : den E 90 [(.i .i64 a), (.i .i64 lo), (.i .i64 hi)] [] = some (.b (decide (lo ≤ a) && decide (a ≤ hi))) := by
  rw [f90_eq, beq_true, cond_andb]
theorem in72 (a lo hi : Int) : den E 72 [(.i .i64 a), (.i .i64 lo), (.i .i64 hi)] [] = some (.b (decide (lo ≤ a) && decide (a ≤ hi))) := by
  rw [f72_eq, beq_true, cond_andb]

theorem tab {B : Nat} {el : AV} (h : T176 B el) : ∃ b, den E 142 [(.ip el 0)] [] = some (.b b) ∧ den E 81 [el] [] = some (.b b) := by
  obtain ⟨a0, a1, a2, a3, a4, a5, a6, a7, a8, a9, rfl, _⟩ := h
  rw [f142_eq, f81_eq]
  simp only [in90, in72, okC_nil, okC_agg, okC_i, okC_b, okC_s, okC_imm, okL_i, okL_b, okL_s, okL_sl, okS_i, okS_b, okS_s, okS_sl, okS_agg, okS_tup, okS_nil, okS_cons, cells_agg, cells_i, cells_b, cells_s, cells_imm, toI_i, toB_b, toS_s, toL_imm, nth_agg, nth_tup, put_agg, put_i, put_b, put_s, put_imm, setCells, List.getD_cons_zero, List.getD_cons_succ, bSh_b, bSh_i, bSh_s, bSh_sl, bSh_some, cond_true, cond_false, decide_true, decide_false, Int.toNat_natCast, Nat.zero_add, Nat.reduceAdd, beq_self_eq_true, Bool.and_true, Bool.true_and, if_true, Bool.false_eq_true, if_false, List.set_cons_zero, List.set_cons_succ, Bool.not_true, Bool.not_false, Bool.and_self]
  simp only [beq_true, beq_false, cond_andb, cond_notb, Bool.not_not, if_true, not_lt_b]
  exact ⟨_, rfl, rfl⟩
noncomputable def tb (el : AV) : Bool := match den E 81 [el] [] with
  | some (.b b) => b
  | _ => false
theorem tb_impl {B : Nat} {el : AV} (h : T176 B el) : den E 81 [el] [] = some (.b (tb el)) := by
  obtain ⟨b, _, h2⟩ := tab h
  unfold tb; rw [h2]
theorem tb_spec {B : Nat} {el : AV} (h : T176 B el) : den E 142 [(.ip el 0)] [] = some (.b (tb el)) := by
  obtain ⟨b, h1, h2⟩ := tab h
  unfold tb; rw [h2]; exact h1

def inr (l : List AV) (i : Nat) : Bool := decide (1 ≤ ((l.getD i .x).cells.getD 0 .x).toI) && decide (((l.getD i .x).cells.getD 0 .x).toI ≤ 1000000)

theorem spec_loop3 (a0 a1 : Int) (l m : List AV) (hm : Rw (T176 1048576) 1048576 m) :
    f79_l3 (.agg [(.i .i64 a0), (.i .i64 a1), (.imm 1 l), (.imm 10 m)]) 0 = cond ((List.range' 0 m.length).all fun i => tb (m.getD i .x) && incr m 0 i) (some (.b true)) (some (.b false)) := by
  have hml := hm.1
  refine all_loop (L := fun i => f79_l3 (.agg [(.i .i64 a0), (.i .i64 a1), (.imm 1 l), (.imm 10 m)]) i) (n := m.length) (fun i hi => ?_) ?_ m.length 0 (by omega)
  · have hT := hm.at hi
    try dsimp only
    rw [f79_l3_eq]
    simp only [okC_nil, okC_agg, okC_i, okC_b, okC_s, okC_imm, okL_i, okL_b, okL_s, okL_sl, okS_i, okS_b, okS_s, okS_sl, okS_agg, okS_tup, okS_nil, okS_cons, cells_agg, cells_i, cells_b, cells_s, cells_imm, toI_i, toB_b, toS_s, toL_imm, nth_agg, nth_tup, put_agg, put_i, put_b, put_s, put_imm, setCells, List.getD_cons_zero, List.getD_cons_succ, bSh_b, bSh_i, bSh_s, bSh_sl, bSh_some, cond_true, cond_false, decide_true, decide_false, Int.toNat_natCast, Nat.zero_add, Nat.reduceAdd, beq_self_eq_true, Bool.and_true, Bool.true_and, if_true, Bool.false_eq_true, if_false, List.set_cons_zero, List.set_cons_succ, Bool.not_true, Bool.not_false, Bool.and_self, f79_j4_eq]
    rw [dT (show (i : Int) < ((m.length : Nat) : Int) by omega), cond_true, if_pos (by omega), w64 (x := (i : Int) + 1) (by omega) (by omega)]
    simp only [Int.toNat_natCast, tb_spec hT, okC_nil, okC_agg, okC_i, okC_b, okC_s, okC_imm, okL_i, okL_b, okL_s, okL_sl, okS_i, okS_b, okS_s, okS_sl, okS_agg, okS_tup, okS_nil, okS_cons, cells_agg, cells_i, cells_b, cells_s, cells_imm, toI_i, toB_b, toS_s, toL_imm, nth_agg, nth_tup, put_agg, put_i, put_b, put_s, put_imm, setCells, List.getD_cons_zero, List.getD_cons_succ, bSh_b, bSh_i, bSh_s, bSh_sl, bSh_some, cond_true, cond_false, decide_true, decide_false, Int.toNat_natCast, Nat.zero_add, Nat.reduceAdd, beq_self_eq_true, Bool.and_true, Bool.true_and, if_true, Bool.false_eq_true, if_false, List.set_cons_zero, List.set_cons_succ, Bool.not_true, Bool.not_false, Bool.and_self]
    by_cases h0 : i = 0
    · subst h0
      cases tb (m.getD 0 .x) <;> simp [incr]
    · have hT1 := hm.at (i := i - 1) (by omega)
      rw [w64 (x := (i : Int) - 1) (by omega) (by omega), dT (show (0 : Int) < (i : Int) by omega), if_pos (by omega), show ((i : Int) - 1).toNat = i - 1 by omega]
      simp only [hT.ok0, hT1.ok0, okC_nil, okC_agg, okC_i, okC_b, okC_s, okC_imm, okL_i, okL_b, okL_s, okL_sl, okS_i, okS_b, okS_s, okS_sl, okS_agg, okS_tup, okS_nil, okS_cons, cells_agg, cells_i, cells_b, cells_s, cells_imm, toI_i, toB_b, toS_s, toL_imm, nth_agg, nth_tup, put_agg, put_i, put_b, put_s, put_imm, setCells, List.getD_cons_zero, List.getD_cons_succ, bSh_b, bSh_i, bSh_s, bSh_sl, bSh_some, cond_true, cond_false, decide_true, decide_false, Int.toNat_natCast, Nat.zero_add, Nat.reduceAdd, beq_self_eq_true, Bool.and_true, Bool.true_and, if_true, Bool.false_eq_true, if_false, List.set_cons_zero, List.set_cons_succ, Bool.not_true, Bool.not_false, Bool.and_self]
      cases tb (m.getD i .x)
      · rfl
      · simp only [Bool.not_true, beq_self_eq_true, cond_true, incr, dF h0, Bool.false_or, Bool.true_and]
        rw [if_pos (by omega)]
        by_cases hc : ((m.getD i .x).cells.getD 0 .x).toI ≤ ((m.getD (i - 1) .x).cells.getD 0 .x).toI
        · rw [dT hc, dF (by omega)]; rfl
        · rw [dF hc, dT (by omega)]; rfl
  · try dsimp only
    rw [f79_l3_eq]
    simp only [okC_nil, okC_agg, okC_i, okC_b, okC_s, okC_imm, okL_i, okL_b, okL_s, okL_sl, okS_i, okS_b, okS_s, okS_sl, okS_agg, okS_tup, okS_nil, okS_cons, cells_agg, cells_i, cells_b, cells_s, cells_imm, toI_i, toB_b, toS_s, toL_imm, nth_agg, nth_tup, put_agg, put_i, put_b, put_s, put_imm, setCells, List.getD_cons_zero, List.getD_cons_succ, bSh_b, bSh_i, bSh_s, bSh_sl, bSh_some, cond_true, cond_false, decide_true, decide_false, Int.toNat_natCast, Nat.zero_add, Nat.reduceAdd, beq_self_eq_true, Bool.and_true, Bool.true_and, if_true, Bool.false_eq_true, if_false, List.set_cons_zero, List.set_cons_succ, Bool.not_true, Bool.not_false, Bool.and_self]
    rw [dF (Int.lt_irrefl _), cond_false]

theorem spec_loop1 (a0 a1 : Int) (l m : List AV) (hl : Rw (T2 1048576) 1048576 l) (hm : Rw (T176 1048576) 1048576 m) :
    f79_l1 (.agg [(.i .i64 a0), (.i .i64 a1), (.imm 1 l), (.imm 10 m)]) 0 = some (.b (((List.range' 0 l.length).all fun i => inr l i && incr l 0 i) && ((List.range' 0 m.length).all fun i => tb (m.getD i .x) && incr m 0 i))) := by
  have hll := hl.1
  have := all_loop (L := fun i => f79_l1 (.agg [(.i .i64 a0), (.i .i64 a1), (.imm 1 l), (.imm 10 m)]) i) (n := l.length) (p := fun i => inr l i && incr l 0 i) (X := f79_l3 (.agg [(.i .i64 a0), (.i .i64 a1), (.imm 1 l), (.imm 10 m)]) 0) (F := some (.b false)) (fun i hi => ?_) ?_ l.length 0 (by omega)
  · refine this.trans ?_
    rw [spec_loop3 a0 a1 l m hm, cond_andb, cond_andb, Bool.and_true]
  · have hT := hl.at hi
    try dsimp only
    rw [f79_l1_eq]
    simp only [okC_nil, okC_agg, okC_i, okC_b, okC_s, okC_imm, okL_i, okL_b, okL_s, okL_sl, okS_i, okS_b, okS_s, okS_sl, okS_agg, okS_tup, okS_nil, okS_cons, cells_agg, cells_i, cells_b, cells_s, cells_imm, toI_i, toB_b, toS_s, toL_imm, nth_agg, nth_tup, put_agg, put_i, put_b, put_s, put_imm, setCells, List.getD_cons_zero, List.getD_cons_succ, bSh_b, bSh_i, bSh_s, bSh_sl, bSh_some, cond_true, cond_false, decide_true, decide_false, Int.toNat_natCast, Nat.zero_add, Nat.reduceAdd, beq_self_eq_true, Bool.and_true, Bool.true_and, if_true, Bool.false_eq_true, if_false, List.set_cons_zero, List.set_cons_succ, Bool.not_true, Bool.not_false, Bool.and_self, f79_j2_eq]
    rw [dT (show (i : Int) < ((l.length : Nat) : Int) by omega), cond_true, if_pos (by omega), w64 (x := (i : Int) + 1) (by omega) (by omega)]
    simp only [Int.toNat_natCast, hT.ok, in90, okC_nil, okC_agg, okC_i, okC_b, okC_s, okC_imm, okL_i, okL_b, okL_s, okL_sl, okS_i, okS_b, okS_s, okS_sl, okS_agg, okS_tup, okS_nil, okS_cons, cells_agg, cells_i, cells_b, cells_s, cells_imm, toI_i, toB_b, toS_s, toL_imm, nth_agg, nth_tup, put_agg, put_i, put_b, put_s, put_imm, setCells, List.getD_cons_zero, List.getD_cons_succ, bSh_b, bSh_i, bSh_s, bSh_sl, bSh_some, cond_true, cond_false, decide_true, decide_false, Int.toNat_natCast, Nat.zero_add, Nat.reduceAdd, beq_self_eq_true, Bool.and_true, Bool.true_and, if_true, Bool.false_eq_true, if_false, List.set_cons_zero, List.set_cons_succ, Bool.not_true, Bool.not_false, Bool.and_self]
    by_cases h0 : i = 0
    · subst h0
      simp only [incr, inr]
      cases (decide (1 ≤ ((l.getD 0 .x).cells.getD 0 .x).toI) && decide (((l.getD 0 .x).cells.getD 0 .x).toI ≤ 1000000)) <;> simp
    · have hT1 := hl.at (i := i - 1) (by omega)
      rw [w64 (x := (i : Int) - 1) (by omega) (by omega), dT (show (0 : Int) < (i : Int) by omega), if_pos (by omega), show ((i : Int) - 1).toNat = i - 1 by omega]
      simp only [hT.ok, hT1.ok, okC_nil, okC_agg, okC_i, okC_b, okC_s, okC_imm, okL_i, okL_b, okL_s, okL_sl, okS_i, okS_b, okS_s, okS_sl, okS_agg, okS_tup, okS_nil, okS_cons, cells_agg, cells_i, cells_b, cells_s, cells_imm, toI_i, toB_b, toS_s, toL_imm, nth_agg, nth_tup, put_agg, put_i, put_b, put_s, put_imm, setCells, List.getD_cons_zero, List.getD_cons_succ, bSh_b, bSh_i, bSh_s, bSh_sl, bSh_some, cond_true, cond_false, decide_true, decide_false, Int.toNat_natCast, Nat.zero_add, Nat.reduceAdd, beq_self_eq_true, Bool.and_true, Bool.true_and, if_true, Bool.false_eq_true, if_false, List.set_cons_zero, List.set_cons_succ, Bool.not_true, Bool.not_false, Bool.and_self]
      rw [if_pos (by omega)]
      simp only [incr, inr, dF h0, Bool.false_or]
      cases (decide (1 ≤ ((l.getD i .x).cells.getD 0 .x).toI) && decide (((l.getD i .x).cells.getD 0 .x).toI ≤ 1000000))
      · rfl
      · simp only [Bool.not_true, beq_self_eq_true, cond_true, Bool.true_and]
        by_cases hc : ((l.getD i .x).cells.getD 0 .x).toI ≤ ((l.getD (i - 1) .x).cells.getD 0 .x).toI
        · rw [dT hc, dF (by omega)]; rfl
        · rw [dF hc, dT (by omega)]; rfl
  · try dsimp only
    rw [f79_l1_eq]
    simp only [okC_nil, okC_agg, okC_i, okC_b, okC_s, okC_imm, okL_i, okL_b, okL_s, okL_sl, okS_i, okS_b, okS_s, okS_sl, okS_agg, okS_tup, okS_nil, okS_cons, cells_agg, cells_i, cells_b, cells_s, cells_imm, toI_i, toB_b, toS_s, toL_imm, nth_agg, nth_tup, put_agg, put_i, put_b, put_s, put_imm, setCells, List.getD_cons_zero, List.getD_cons_succ, bSh_b, bSh_i, bSh_s, bSh_sl, bSh_some, cond_true, cond_false, decide_true, decide_false, Int.toNat_natCast, Nat.zero_add, Nat.reduceAdd, beq_self_eq_true, Bool.and_true, Bool.true_and, if_true, Bool.false_eq_true, if_false, List.set_cons_zero, List.set_cons_succ, Bool.not_true, Bool.not_false, Bool.and_self]
    rw [dF (Int.lt_irrefl _), cond_false]

/-- What both ask. -/
noncomputable def okEdit (a0 a1 : Int) (l m : List AV) : Bool := (decide (0 ≤ a0) && decide (a0 ≤ 11)) && ((decide (0 ≤ a1) && decide (a1 ≤ 1000000)) && (decide ((m.length : Int) ≤ 16) && (((List.range' 0 l.length).all fun i => inr l i && incr l 0 i) && ((List.range' 0 m.length).all fun i => tb (m.getD i .x) && incr m 0 i))))

theorem spec_edit (a0 a1 : Int) (l m : List AV) (hl : Rw (T2 1048576) 1048576 l) (hm : Rw (T176 1048576) 1048576 m) :
    den E 24 [.agg [(.i .i64 a0), (.i .i64 a1), (.imm 1 l), (.imm 10 m)]] [] = some (.b (okEdit a0 a1 l m)) := by
  rw [f24_eq, f79_eq]
  simp only [okC_nil, okC_agg, okC_i, okC_b, okC_s, okC_imm, okL_i, okL_b, okL_s, okL_sl, okS_i, okS_b, okS_s, okS_sl, okS_agg, okS_tup, okS_nil, okS_cons, cells_agg, cells_i, cells_b, cells_s, cells_imm, toI_i, toB_b, toS_s, toL_imm, nth_agg, nth_tup, put_agg, put_i, put_b, put_s, put_imm, setCells, List.getD_cons_zero, List.getD_cons_succ, bSh_b, bSh_i, bSh_s, bSh_sl, bSh_some, cond_true, cond_false, decide_true, decide_false, Int.toNat_natCast, Nat.zero_add, Nat.reduceAdd, beq_self_eq_true, Bool.and_true, Bool.true_and, if_true, Bool.false_eq_true, if_false, List.set_cons_zero, List.set_cons_succ, Bool.not_true, Bool.not_false, Bool.and_self, in90, spec_loop1 a0 a1 l m hl hm]
  simp only [beq_false, Bool.not_not, cond_nb, not_lt_b, cond_andb, okC_nil, okC_agg, okC_i, okC_b, okC_s, okC_imm, okL_i, okL_b, okL_s, okL_sl, okS_i, okS_b, okS_s, okS_sl, okS_agg, okS_tup, okS_nil, okS_cons, cells_agg, cells_i, cells_b, cells_s, cells_imm, toI_i, toB_b, toS_s, toL_imm, nth_agg, nth_tup, put_agg, put_i, put_b, put_s, put_imm, setCells, List.getD_cons_zero, List.getD_cons_succ, bSh_b, bSh_i, bSh_s, bSh_sl, bSh_some, cond_true, cond_false, decide_true, decide_false, Int.toNat_natCast, Nat.zero_add, Nat.reduceAdd, beq_self_eq_true, Bool.and_true, Bool.true_and, if_true, Bool.false_eq_true, if_false, List.set_cons_zero, List.set_cons_succ, Bool.not_true, Bool.not_false, Bool.and_self]
  rfl

theorem incr_loop (l : List AV) (hl : Rw (T2 1048576) 1048576 l) : den E 82 [(.imm 1 l)] [] = some (.b ((List.range' 0 l.length).all fun i => incr l 0 i)) := by
  have hll := hl.1
  rw [f82_eq]
  have last : ∀ n : Nat, l.length ≤ n → f82_l1 l n = some (.b true) := fun n hn => by
    rw [f82_l1_eq, dF (by omega), cond_false]
  by_cases h0 : l.length = 0
  · have := last 1 (by omega)
    rw [h0]; exact this
  obtain ⟨n, hn⟩ : ∃ n, l.length = n + 1 := ⟨l.length - 1, by omega⟩
  have := all_loop_from (L := fun i => f82_l1 l i) (n := l.length) (p := fun i => incr l 0 i) (X := some (.b true)) (F := some (.b false)) 1 (fun i h1 hi => ?_) (last _ (Nat.le_refl _)) n 1 (Nat.le_refl _) (by omega)
  · refine this.trans ?_
    rw [hn, List.range'_succ, List.all_cons, cond_andb, Bool.and_true]
    have h1 : incr l 0 0 = true := by simp [incr]
    rw [h1, Bool.true_and]
  · have hT := hl.at hi
    have hT1 := hl.at (i := i - 1) (by omega)
    try dsimp only
    rw [f82_l1_eq, dT (show (i : Int) < ((l.length : Nat) : Int) by omega), cond_true, if_pos (by omega), w64 (x := (i : Int) + 1) (by omega) (by omega), w64 (x := (i : Int) - 1) (by omega) (by omega), show ((i : Int) - 1).toNat = i - 1 by omega]
    simp only [hT.ok, hT1.ok, okC_nil, okC_agg, okC_i, okC_b, okC_s, okC_imm, okL_i, okL_b, okL_s, okL_sl, okS_i, okS_b, okS_s, okS_sl, okS_agg, okS_tup, okS_nil, okS_cons, cells_agg, cells_i, cells_b, cells_s, cells_imm, toI_i, toB_b, toS_s, toL_imm, nth_agg, nth_tup, put_agg, put_i, put_b, put_s, put_imm, setCells, List.getD_cons_zero, List.getD_cons_succ, bSh_b, bSh_i, bSh_s, bSh_sl, bSh_some, cond_true, cond_false, decide_true, decide_false, Int.toNat_natCast, Nat.zero_add, Nat.reduceAdd, beq_self_eq_true, Bool.and_true, Bool.true_and, if_true, Bool.false_eq_true, if_false, List.set_cons_zero, List.set_cons_succ, Bool.not_true, Bool.not_false, Bool.and_self]
    rw [if_pos (by omega)]
    simp only [incr, dF (show ¬ i = 0 by omega), Bool.false_or]
    by_cases hc : ((l.getD i .x).cells.getD 0 .x).toI ≤ ((l.getD (i - 1) .x).cells.getD 0 .x).toI
    · rw [dT hc, dF (by omega)]; rfl
    · rw [dF hc, dT (by omega)]; rfl

theorem within_all (l : List AV) (hl : Rw (T2 1048576) 1048576 l) : den E 83 [(.imm 1 l), (.i .i64 1), (.i .i64 1000000)] [] = some (.b ((List.range' 0 l.length).all fun i => inr l i)) := by
  have hll := hl.1
  rw [f83_eq, f144q1_eq, f192q1_eq]
  have key := find_loop (L := fun i => f192q1_l1 l (.i .i64 1) (.i .i64 1000000) ((l.length : Nat) : Int) i) (n := l.length) (p := fun i => !inr l i) (F := fun i => some (.i .i64 i)) (X := some (.i .i64 (-1))) (fun i hi => ?_) ?_ l.length 0 (by omega)
  · rcases key with ⟨j, _, hj, h1, h2, h3⟩ | ⟨h1, h2⟩
    · rw [show f192q1_l1 l (.i .i64 1) (.i .i64 1000000) ((l.length : Nat) : Int) 0 = _ from h3]
      simp only [bSh_i, bSh_b, toI_i, toB_b]
      have hj0 : (0 : Int) ≤ (j : Int) := by omega
      simp only [hj0, decide_true]
      have : ((List.range' 0 l.length).all fun i => inr l i) = false := by
        rw [List.all_eq_false]
        exact ⟨j, by simp [List.mem_range'_1, hj], by simpa using h1⟩
      rw [this]; rfl
    · rw [show f192q1_l1 l (.i .i64 1) (.i .i64 1000000) ((l.length : Nat) : Int) 0 = _ from h2]
      simp only [bSh_i, bSh_b, toI_i, toB_b]
      have : ((List.range' 0 l.length).all fun i => inr l i) = true := by
        rw [List.all_eq_true]
        intro i hi
        have := h1 i (Nat.zero_le _) (by simpa [List.mem_range'_1] using hi)
        simpa using this
      rw [this]; rfl
  · have hT := hl.at hi
    try dsimp only
    rw [f192q1_l1_eq, dT (show (i : Int) < ((l.length : Nat) : Int) by omega), cond_true, if_pos (by omega), w64 (x := (i : Int) + 1) (by omega) (by omega)]
    simp only [hT.ok, okC_nil, okC_agg, okC_i, okC_b, okC_s, okC_imm, okL_i, okL_b, okL_s, okL_sl, okS_i, okS_b, okS_s, okS_sl, okS_agg, okS_tup, okS_nil, okS_cons, cells_agg, cells_i, cells_b, cells_s, cells_imm, toI_i, toB_b, toS_s, toL_imm, nth_agg, nth_tup, put_agg, put_i, put_b, put_s, put_imm, setCells, List.getD_cons_zero, List.getD_cons_succ, bSh_b, bSh_i, bSh_s, bSh_sl, bSh_some, cond_true, cond_false, decide_true, decide_false, Int.toNat_natCast, Nat.zero_add, Nat.reduceAdd, beq_self_eq_true, Bool.and_true, Bool.true_and, if_true, Bool.false_eq_true, if_false, List.set_cons_zero, List.set_cons_succ, Bool.not_true, Bool.not_false, Bool.and_self, f145q1_eq, in72]
    rfl
  · try dsimp only
    rw [f192q1_l1_eq, dF (Int.lt_irrefl _), cond_false]

theorem impl_edit (a0 a1 : Int) (l m : List AV) (hl : Rw (T2 1048576) 1048576 l) (hm : Rw (T176 1048576) 1048576 m) :
    den E 26 [.agg [(.i .i64 a0), (.i .i64 a1), (.imm 1 l), (.imm 10 m)]] [] = some (.b (okEdit a0 a1 l m)) := by
  have hml := hm.1
  rw [f26_eq]
  have := all_loop (L := fun i => f26_l1 m ((m.length : Nat) : Int) i a0 a1 l m) (n := m.length) (p := fun i => tb (m.getD i .x) && incr m 0 i) (X := some (.b ((decide (0 ≤ a0) && decide (a0 ≤ 11)) && ((decide (0 ≤ a1) && decide (a1 ≤ 1000000)) && (((List.range' 0 l.length).all fun i => incr l 0 i) && (((List.range' 0 l.length).all fun i => inr l i) && decide ((m.length : Int) ≤ 16))))))) (F := some (.b false)) (fun i hi => ?_) ?_ m.length 0 (by omega)
  · refine this.trans ?_
    rw [cond_andb]
    congr 2
    unfold okEdit
    have hsplit : ((List.range' 0 l.length).all fun i => inr l i && incr l 0 i) = (((List.range' 0 l.length).all fun i => inr l i) && ((List.range' 0 l.length).all fun i => incr l 0 i)) := by
      generalize List.range' 0 l.length = r
      induction r with
      | nil => rfl
      | cons a r ih => simp only [List.all_cons, ih]; cases inr l a <;> cases incr l 0 a <;> simp
    rw [hsplit]
    ac_rfl
  · have hT := hm.at hi
    try dsimp only
    rw [f26_l1_eq, dT (show (i : Int) < ((m.length : Nat) : Int) by omega), cond_true, if_pos (by omega)]
    simp only [Int.toNat_natCast, hT.ok, hT.eta, tb_impl hT, f26_j2_eq, okC_nil, okC_agg, okC_i, okC_b, okC_s, okC_imm, okL_i, okL_b, okL_s, okL_sl, okS_i, okS_b, okS_s, okS_sl, okS_agg, okS_tup, okS_nil, okS_cons, cells_agg, cells_i, cells_b, cells_s, cells_imm, toI_i, toB_b, toS_s, toL_imm, nth_agg, nth_tup, put_agg, put_i, put_b, put_s, put_imm, setCells, List.getD_cons_zero, List.getD_cons_succ, bSh_b, bSh_i, bSh_s, bSh_sl, bSh_some, cond_true, cond_false, decide_true, decide_false, Int.toNat_natCast, Nat.zero_add, Nat.reduceAdd, beq_self_eq_true, Bool.and_true, Bool.true_and, if_true, Bool.false_eq_true, if_false, List.set_cons_zero, List.set_cons_succ, Bool.not_true, Bool.not_false, Bool.and_self]
    rw [w64 (x := (i : Int) + 1) (by omega) (by omega)]
    by_cases h0 : i = 0
    · subst h0
      cases tb (m.getD 0 .x) <;> simp [incr]
    · have hT1 := hm.at (i := i - 1) (by omega)
      rw [w64 (x := (i : Int) - 1) (by omega) (by omega), dT (show (0 : Int) < (i : Int) by omega), if_pos (by omega), show ((i : Int) - 1).toNat = i - 1 by omega]
      simp only [hT.ok0, hT1.ok0, okC_nil, okC_agg, okC_i, okC_b, okC_s, okC_imm, okL_i, okL_b, okL_s, okL_sl, okS_i, okS_b, okS_s, okS_sl, okS_agg, okS_tup, okS_nil, okS_cons, cells_agg, cells_i, cells_b, cells_s, cells_imm, toI_i, toB_b, toS_s, toL_imm, nth_agg, nth_tup, put_agg, put_i, put_b, put_s, put_imm, setCells, List.getD_cons_zero, List.getD_cons_succ, bSh_b, bSh_i, bSh_s, bSh_sl, bSh_some, cond_true, cond_false, decide_true, decide_false, Int.toNat_natCast, Nat.zero_add, Nat.reduceAdd, beq_self_eq_true, Bool.and_true, Bool.true_and, if_true, Bool.false_eq_true, if_false, List.set_cons_zero, List.set_cons_succ, Bool.not_true, Bool.not_false, Bool.and_self]
      cases tb (m.getD i .x)
      · rfl
      · simp only [Bool.not_true, beq_self_eq_true, cond_true, incr, dF h0, Bool.false_or, Bool.true_and]
        by_cases hc : ((m.getD i .x).cells.getD 0 .x).toI ≤ ((m.getD (i - 1) .x).cells.getD 0 .x).toI
        · rw [dT hc, dF (by omega)]; rfl
        · rw [dF hc, dT (by omega)]; rfl
  · try dsimp only
    rw [f26_l1_eq, dF (Int.lt_irrefl _), cond_false]
    simp only [in72, incr_loop l hl, within_all l hl, okC_nil, okC_agg, okC_i, okC_b, okC_s, okC_imm, okL_i, okL_b, okL_s, okL_sl, okS_i, okS_b, okS_s, okS_sl, okS_agg, okS_tup, okS_nil, okS_cons, cells_agg, cells_i, cells_b, cells_s, cells_imm, toI_i, toB_b, toS_s, toL_imm, nth_agg, nth_tup, put_agg, put_i, put_b, put_s, put_imm, setCells, List.getD_cons_zero, List.getD_cons_succ, bSh_b, bSh_i, bSh_s, bSh_sl, bSh_some, cond_true, cond_false, decide_true, decide_false, Int.toNat_natCast, Nat.zero_add, Nat.reduceAdd, beq_self_eq_true, Bool.and_true, Bool.true_and, if_true, Bool.false_eq_true, if_false, List.set_cons_zero, List.set_cons_succ, Bool.not_true, Bool.not_false, Bool.and_self]
    simp only [beq_true, cond_andb]

theorem pure (el : AV) (h : T37 9223372036854775807 el) : den E 6 [el] [] = some (.b true) := by
  obtain ⟨r, hr, hq⟩ := sz23 h 1048576 (by omega) (by omega)
  obtain ⟨a0, a1, l, m, rfl, w0, w1, w2, w3, _⟩ := h
  rw [f6_eq, hr]
  simp only [bSh_i, toI_i]
  rcases hq with hq | ⟨h0, h1, hT⟩
  · simp only [hq, decide_true, cond_true]
  have hn : ¬ r < 0 := by omega
  simp only [hn, decide_false, cond_false]
  have ht := to25 hT
  have he := eq27 hT
  obtain ⟨b0, b1, b2, b3, hb, v0, v1, v2, v3, _⟩ := hT
  cases hb
  simp only [ht, he, okC_nil, okC_agg, okC_i, okC_b, okC_s, okC_imm, okL_i, okL_b, okL_s, okL_sl, okS_i, okS_b, okS_s, okS_sl, okS_agg, okS_tup, okS_nil, okS_cons, cells_agg, cells_i, cells_b, cells_s, cells_imm, toI_i, toB_b, toS_s, toL_imm, nth_agg, nth_tup, put_agg, put_i, put_b, put_s, put_imm, setCells, List.getD_cons_zero, List.getD_cons_succ, bSh_b, bSh_i, bSh_s, bSh_sl, bSh_some, cond_true, cond_false, decide_true, decide_false, Int.toNat_natCast, Nat.zero_add, Nat.reduceAdd, beq_self_eq_true, Bool.and_true, Bool.true_and, if_true, Bool.false_eq_true, if_false, List.set_cons_zero, List.set_cons_succ, Bool.not_true, Bool.not_false, Bool.and_self, spec_edit a0 a1 l m v2 v3, impl_edit a0 a1 l m v2 v3]
end Go.Proofs.Ythlmjmejnlalaaa.IValidEdit
