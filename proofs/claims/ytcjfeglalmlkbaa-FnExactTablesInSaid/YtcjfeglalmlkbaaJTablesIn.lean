/- TablesIn: the program's answer is the reference's, for every version and zone. No condition beyond what each theorem states. -/
import Derived.Test.YtcjfeglalmlkbaaITablesInf
import Derived.Test.YtcjfeglalmlkbaaItMk
namespace Go.Proofs.Ytcjfeglalmlkbaa.ITablesIn
open Go Go.Proofs.YtcjfeglalmlkbaaIT
set_option linter.unusedSimpArgs false

theorem in90 (a lo hi : Int) : den E 77 [(.i .i64 a), (.i .i64 lo), (.i .i64 hi)] [] = some (.b (decide (lo ≤ a) && decide (a ≤ hi))) := by
  rw [f77_eq, beq_true, cond_andb]
theorem in72 (a lo hi : Int) : den E 70 [(.i .i64 a), (.i .i64 lo), (.i .i64 hi)] [] = some (.b (decide (lo ≤ a) && decide (a ≤ hi))) := by
  rw [f70_eq, beq_true, cond_andb]


theorem tab {B : Nat} {el : AV} (h : T193 B el) : ∃ b, den E 169 [(.ip el 0)] [] = some (.b b) ∧ den E 210 [el] [] = some (.b b) := by
  obtain ⟨a0, a1, a2, a3, a4, a5, a6, a7, a8, a9, rfl, _⟩ := h
  rw [f169_eq, f210_eq]
  simp only [in90, in72, okC_nil, okC_agg, okC_i, okC_b, okC_s, okC_imm, okL_i, okL_b, okL_s, okL_sl, okS_i, okS_b, okS_s, okS_sl, okS_agg, okS_tup, okS_nil, okS_cons, cells_agg, cells_i, cells_b, cells_s, cells_imm, toI_i, toB_b, toS_s, toL_imm, nth_agg, nth_tup, put_agg, put_i, put_b, put_s, put_imm, setCells, List.getD_cons_zero, List.getD_cons_succ, bSh_b, bSh_i, bSh_s, bSh_sl, bSh_some, cond_true, cond_false, decide_true, decide_false, Int.toNat_natCast, Nat.zero_add, Nat.reduceAdd, beq_self_eq_true, Bool.and_true, Bool.true_and, if_true, Bool.false_eq_true, if_false, List.set_cons_zero, List.set_cons_succ, Bool.not_true, Bool.not_false, Bool.and_self]
  simp only [beq_true, beq_false, cond_andb, cond_notb, Bool.not_not, if_true, not_lt_b]
  exact ⟨_, rfl, rfl⟩
noncomputable def tb (el : AV) : Bool := match den E 210 [el] [] with
  | some (.b b) => b
  | _ => false
theorem tb_impl {B : Nat} {el : AV} (h : T193 B el) : den E 210 [el] [] = some (.b (tb el)) := by
  obtain ⟨b, _, h2⟩ := tab h
  unfold tb; rw [h2]
theorem tb_spec {B : Nat} {el : AV} (h : T193 B el) : den E 169 [(.ip el 0)] [] = some (.b (tb el)) := by
  obtain ⟨b, h1, h2⟩ := tab h
  unfold tb; rw [h2]; exact h1
theorem tb_level {B : Nat} {el : AV} (h : T193 B el) (ht : tb el = true) : 0 ≤ (el.cells.getD 1 .x).toI := by
  have h2 := tb_impl h
  rw [ht] at h2
  obtain ⟨a0, a1, a2, a3, a4, a5, a6, a7, a8, a9, rfl, _⟩ := h
  rw [f210_eq] at h2
  simp only [in72, okC_nil, okC_agg, okC_i, okC_b, okC_s, okC_imm, okL_i, okL_b, okL_s, okL_sl, okS_i, okS_b, okS_s, okS_sl, okS_agg, okS_tup, okS_nil, okS_cons, cells_agg, cells_i, cells_b, cells_s, cells_imm, toI_i, toB_b, toS_s, toL_imm, nth_agg, nth_tup, put_agg, put_i, put_b, put_s, put_imm, setCells, List.getD_cons_zero, List.getD_cons_succ, bSh_b, bSh_i, bSh_s, bSh_sl, bSh_some, cond_true, cond_false, decide_true, decide_false, Int.toNat_natCast, Nat.zero_add, Nat.reduceAdd, beq_self_eq_true, Bool.and_true, Bool.true_and, if_true, Bool.false_eq_true, if_false, List.set_cons_zero, List.set_cons_succ, Bool.not_true, Bool.not_false, Bool.and_self, beq_true, cond_andb, Option.some.injEq, AV.b.injEq, Bool.and_eq_true, decide_eq_true_eq] at h2
  simp only [okC_nil, okC_agg, okC_i, okC_b, okC_s, okC_imm, okL_i, okL_b, okL_s, okL_sl, okS_i, okS_b, okS_s, okS_sl, okS_agg, okS_tup, okS_nil, okS_cons, cells_agg, cells_i, cells_b, cells_s, cells_imm, toI_i, toB_b, toS_s, toL_imm, nth_agg, nth_tup, put_agg, put_i, put_b, put_s, put_imm, setCells, List.getD_cons_zero, List.getD_cons_succ, bSh_b, bSh_i, bSh_s, bSh_sl, bSh_some, cond_true, cond_false, decide_true, decide_false, Int.toNat_natCast, Nat.zero_add, Nat.reduceAdd, beq_self_eq_true, Bool.and_true, Bool.true_and, if_true, Bool.false_eq_true, if_false, List.set_cons_zero, List.set_cons_succ, Bool.not_true, Bool.not_false, Bool.and_self]
  exact h2.2.1.1


theorem cb_lt : ∀ x y : List UInt8, (Lib.compareBytes x y < 0 ↔ Op.bytesLess x y = true)
  | [], [] => by simp [Lib.compareBytes, Op.bytesLess]
  | [], _ :: _ => by simp [Lib.compareBytes, Op.bytesLess]
  | _ :: _, [] => by simp [Lib.compareBytes, Op.bytesLess]
  | a :: x, b :: y => by
    have ih := cb_lt x y
    simp only [Lib.compareBytes, Op.bytesLess]
    by_cases h1 : a < b
    · simp [h1]
    · by_cases h2 : b < a
      · have h3 : ¬ a = b := by rintro rfl; exact absurd h2 h1
        simp [h1, h2, h3]
      · have h3 : a = b := by
          apply UInt8.toNat_inj.1
          have p1 : ¬ a.toNat < b.toNat := fun h => h1 (UInt8.lt_iff_toNat_lt.2 h)
          have p2 : ¬ b.toNat < a.toNat := fun h => h2 (UInt8.lt_iff_toNat_lt.2 h)
          omega
        simp [h1, h2, h3, ih]
theorem cmpB_lt (a b : ByteArray) : cmpB a b < 0 ↔ lessS a b = true := by
  unfold cmpB lessS
  rw [Lib.toList_data, Lib.toList_data]
  exact cb_lt _ _
theorem cmp_int (a b : Int) : den E 227 [(.i .i64 a), (.i .i64 b)] [] = some (.i .i64 (if a < b then -1 else if b < a then 1 else 0)) := by
  rw [f227_eq, f230_eq, f230_eq]
  simp only [okC_nil, okC_agg, okC_i, okC_b, okC_s, okC_imm, okL_i, okL_b, okL_s, okL_sl, okS_i, okS_b, okS_s, okS_sl, okS_agg, okS_tup, okS_nil, okS_cons, cells_agg, cells_i, cells_b, cells_s, cells_imm, toI_i, toB_b, toS_s, toL_imm, nth_agg, nth_tup, put_agg, put_i, put_b, put_s, put_imm, setCells, List.getD_cons_zero, List.getD_cons_succ, bSh_b, bSh_i, bSh_s, bSh_sl, bSh_some, cond_true, cond_false, decide_true, decide_false, Int.toNat_natCast, Nat.zero_add, Nat.reduceAdd, beq_self_eq_true, Bool.and_true, Bool.true_and, if_true, Bool.false_eq_true, if_false, List.set_cons_zero, List.set_cons_succ, Bool.not_true, Bool.not_false, Bool.and_self]
  by_cases h : a < b
  · simp [h]
  · by_cases h2 : b < a
    · simp [h, h2]
    · simp [h, h2]
theorem cmp_or2 (p q : Int) : den E 228 [(.imm 1 [(.i .i64 p), (.i .i64 q)])] [] = some (.i .i64 (if p = 0 then q else p)) := by
  have e0 : f228_l1 0 [(.i .i64 p), (.i .i64 q)] 2 2 = some (.i .i64 0) := by rw [f228_l1_eq]; rfl
  have w1 : IntKind.i64.wrap 1 = 1 := by decide
  have w2 : IntKind.i64.wrap 2 = 2 := by decide
  rw [f228_eq]
  show f228_l1 0 [(.i .i64 p), (.i .i64 q)] 2 0 = _
  rw [f228_l1_eq]
  simp [okC_nil, okC_agg, okC_i, okC_b, okC_s, okC_imm, okL_i, okL_b, okL_s, okL_sl, okS_i, okS_b, okS_s, okS_sl, okS_agg, okS_tup, okS_nil, okS_cons, cells_agg, cells_i, cells_b, cells_s, cells_imm, toI_i, toB_b, toS_s, toL_imm, nth_agg, nth_tup, put_agg, put_i, put_b, put_s, put_imm, setCells, List.getD_cons_zero, List.getD_cons_succ, bSh_b, bSh_i, bSh_s, bSh_sl, bSh_some, cond_true, cond_false, decide_true, decide_false, Int.toNat_natCast, Nat.zero_add, Nat.reduceAdd, beq_self_eq_true, Bool.and_true, Bool.true_and, if_true, Bool.false_eq_true, if_false, List.set_cons_zero, List.set_cons_succ, Bool.not_true, Bool.not_false, Bool.and_self, w1]
  by_cases h : p = 0
  · simp only [h, if_true]
    rw [f228_l1_eq]
    simp [okC_nil, okC_agg, okC_i, okC_b, okC_s, okC_imm, okL_i, okL_b, okL_s, okL_sl, okS_i, okS_b, okS_s, okS_sl, okS_agg, okS_tup, okS_nil, okS_cons, cells_agg, cells_i, cells_b, cells_s, cells_imm, toI_i, toB_b, toS_s, toL_imm, nth_agg, nth_tup, put_agg, put_i, put_b, put_s, put_imm, setCells, List.getD_cons_zero, List.getD_cons_succ, bSh_b, bSh_i, bSh_s, bSh_sl, bSh_some, cond_true, cond_false, decide_true, decide_false, Int.toNat_natCast, Nat.zero_add, Nat.reduceAdd, beq_self_eq_true, Bool.and_true, Bool.true_and, if_true, Bool.false_eq_true, if_false, List.set_cons_zero, List.set_cons_succ, Bool.not_true, Bool.not_false, Bool.and_self, w2, e0]
    by_cases h2 : q = 0
    · subst h h2; simp [e0]
    · simp [h2]
  · simp [h]


/-- Each table comes before the next. -/
def bef (p t : AV) : Bool :=
  cond (decide ((p.cells.getD 1 .x).toI = (t.cells.getD 1 .x).toI))
    (cond (decide ((p.cells.getD 1 .x).toI = 0)) (decide ((t.cells.getD 0 .x).toI < (p.cells.getD 0 .x).toI))
      (lessS (p.cells.getD 5 .x).toS (t.cells.getD 5 .x).toS && (lessS (p.cells.getD 6 .x).toS (t.cells.getD 5 .x).toS || decide ((p.cells.getD 6 .x).toS = (t.cells.getD 5 .x).toS))))
    (decide ((p.cells.getD 1 .x).toI < (t.cells.getD 1 .x).toI))
theorem bef_spec {B : Nat} {p t : AV} (hp : T193 B p) (ht : T193 B t) : den E 170 [(.ip p 0), (.ip t 0)] [] = some (.b (bef p t)) := by
  rw [f170_eq]
  simp only [hp.ok0, hp.ok1, hp.ok5, hp.ok6, ht.ok0, ht.ok1, ht.ok5, if_true, bef]
  by_cases h : (p.cells.getD 1 .x).toI = (t.cells.getD 1 .x).toI
  · simp only [h, decide_true, Bool.not_true, cond_false, cond_true]
    by_cases h2 : (t.cells.getD 1 .x).toI = 0
    · simp only [h2, decide_true, cond_true]
    · simp only [h2, decide_false, cond_false, beq_true, cond_andb]
  · simp only [h, decide_false, Bool.not_false, cond_false, cond_true]
/-- The program's comparison of two tables. -/
noncomputable def cmpT (p t : AV) : Int := if (p.cells.getD 1 .x).toI = (t.cells.getD 1 .x).toI ∧ (p.cells.getD 1 .x).toI = 0 then (if (t.cells.getD 0 .x).toI < (p.cells.getD 0 .x).toI then -1 else if (p.cells.getD 0 .x).toI < (t.cells.getD 0 .x).toI then 1 else 0)
  else (if (if (p.cells.getD 1 .x).toI < (t.cells.getD 1 .x).toI then (-1 : Int) else if (t.cells.getD 1 .x).toI < (p.cells.getD 1 .x).toI then 1 else 0) = 0 then cmpB (p.cells.getD 5 .x).toS (t.cells.getD 5 .x).toS else (if (p.cells.getD 1 .x).toI < (t.cells.getD 1 .x).toI then (-1 : Int) else if (t.cells.getD 1 .x).toI < (p.cells.getD 1 .x).toI then 1 else 0))
theorem cmpT_impl {B : Nat} {p t : AV} (hp : T193 B p) (ht : T193 B t) : den E 213 [p, t] [] = some (.i .i64 (cmpT p t)) := by
  obtain ⟨a0, a1, a2, a3, a4, a5, a6, a7, a8, a9, rfl, _⟩ := hp
  obtain ⟨b0, b1, b2, b3, b4, b5, b6, b7, b8, b9, rfl, _⟩ := ht
  rw [f213_eq]
  simp only [f213_j1_eq, cmp_int, f229_eq, f232_eq, cmp_or2, cmpT, okC_nil, okC_agg, okC_i, okC_b, okC_s, okC_imm, okL_i, okL_b, okL_s, okL_sl, okS_i, okS_b, okS_s, okS_sl, okS_agg, okS_tup, okS_nil, okS_cons, cells_agg, cells_i, cells_b, cells_s, cells_imm, toI_i, toB_b, toS_s, toL_imm, nth_agg, nth_tup, put_agg, put_i, put_b, put_s, put_imm, setCells, List.getD_cons_zero, List.getD_cons_succ, bSh_b, bSh_i, bSh_s, bSh_sl, bSh_some, cond_true, cond_false, decide_true, decide_false, Int.toNat_natCast, Nat.zero_add, Nat.reduceAdd, beq_self_eq_true, Bool.and_true, Bool.true_and, if_true, Bool.false_eq_true, if_false, List.set_cons_zero, List.set_cons_succ, Bool.not_true, Bool.not_false, Bool.and_self, beq_true]
  by_cases h : a1 = b1
  · by_cases h2 : a1 = 0
    · simp only [h, decide_true, cond_true, h2, and_self, if_true]
      simp only [← h, h2, decide_true, cond_true, and_self, if_true]
    · simp only [h2, decide_false, cond_false, and_false, if_false]
      cases decide (a1 = b1) <;> rfl
  · simp only [h, decide_false, cond_false, false_and, if_false]
    rfl
theorem bef_cmp {p t : AV} (h : 0 ≤ (t.cells.getD 1 .x).toI) : bef p t = (decide (cmpT p t < 0) && !(decide (0 < (t.cells.getD 1 .x).toI) && (decide ((p.cells.getD 1 .x).toI = (t.cells.getD 1 .x).toI) && !(lessS (p.cells.getD 6 .x).toS (t.cells.getD 5 .x).toS || decide ((p.cells.getD 6 .x).toS = (t.cells.getD 5 .x).toS))))) := by
  unfold bef cmpT
  generalize (p.cells.getD 1 .x).toI = lp at *
  generalize (t.cells.getD 1 .x).toI = lt at *
  generalize (p.cells.getD 0 .x).toI = ip at *
  generalize (t.cells.getD 0 .x).toI = it at *
  generalize (lessS (p.cells.getD 6 .x).toS (t.cells.getD 5 .x).toS || decide ((p.cells.getD 6 .x).toS = (t.cells.getD 5 .x).toS)) = hl
  have hc := cmpB_lt (p.cells.getD 5 .x).toS (t.cells.getD 5 .x).toS
  generalize lessS (p.cells.getD 5 .x).toS (t.cells.getD 5 .x).toS = lo at *
  generalize cmpB (p.cells.getD 5 .x).toS (t.cells.getD 5 .x).toS = c at *
  by_cases h1 : lp = lt
  · subst h1
    by_cases h2 : lp = 0
    · subst h2
      by_cases h3 : it < ip
      · simp [h3]
      · by_cases h4 : ip < it <;> simp [h3, h4]
    · have h3 : 0 < lp := by omega
      simp only [h2, and_false, if_false, Int.lt_irrefl, if_true, decide_true, decide_false, cond_true, cond_false, h3, Bool.true_and]
      cases lo <;> cases hl <;> simp_all
  · by_cases h3 : lp < lt
    · simp [h1, h3]
    · have h4 : lt < lp := by omega
      simp [h1, h3, h4]


/-- What is asked of the i-th table of a version. -/
noncomputable def okAt (n s : Int) (m : List AV) (i : Nat) : Bool :=
  tb (m.getD i .x) && ((decide (((m.getD i .x).cells.getD 0 .x).toI < n) && decide (((m.getD i .x).cells.getD 8 .x).toI ≤ s)) && ((decide (i = 0) || bef (m.getD (i - 1) .x) (m.getD i .x)) && (List.range' 0 i).all fun j => !decide (((m.getD j .x).cells.getD 0 .x).toI = ((m.getD i .x).cells.getD 0 .x).toI)))

theorem spec_l3 (n z s : Int) (m : List AV) (hm : Rw (T193 1048576) 1048576 m) (i : Nat) (hi : i < m.length) (X : Option AV)
    (hX : f107_l1 (.agg [(.i .i64 n), (.i .i64 z), (.i .i64 s), (.imm 10 m)]) ((i : Int) + 1) = X) :
    f107_l3 (.agg [(.i .i64 n), (.i .i64 z), (.i .i64 s), (.imm 10 m)]) i (m.getD i .x) 0 = cond ((List.range' 0 i).all fun j => !decide (((m.getD j .x).cells.getD 0 .x).toI = ((m.getD i .x).cells.getD 0 .x).toI)) X (some (.b false)) := by
  have hml := hm.1
  have hT := hm.at hi
  refine all_loop (L := fun j => f107_l3 (.agg [(.i .i64 n), (.i .i64 z), (.i .i64 s), (.imm 10 m)]) i (m.getD i .x) j) (n := i) (fun j hj => ?_) ?_ i 0 (by omega)
  · have hT1 := hm.at (i := j) (by omega)
    try dsimp only
    rw [f107_l3_eq, dT (show (j : Int) < (i : Int) by omega), cond_true]
    simp only [okC_nil, okC_agg, okC_i, okC_b, okC_s, okC_imm, okL_i, okL_b, okL_s, okL_sl, okS_i, okS_b, okS_s, okS_sl, okS_agg, okS_tup, okS_nil, okS_cons, cells_agg, cells_i, cells_b, cells_s, cells_imm, toI_i, toB_b, toS_s, toL_imm, nth_agg, nth_tup, put_agg, put_i, put_b, put_s, put_imm, setCells, List.getD_cons_zero, List.getD_cons_succ, bSh_b, bSh_i, bSh_s, bSh_sl, bSh_some, cond_true, cond_false, decide_true, decide_false, Int.toNat_natCast, Nat.zero_add, Nat.reduceAdd, beq_self_eq_true, Bool.and_true, Bool.true_and, if_true, Bool.false_eq_true, if_false, List.set_cons_zero, List.set_cons_succ, Bool.not_true, Bool.not_false, Bool.and_self]
    rw [if_pos (by omega), w64 (x := (j : Int) + 1) (by omega) (by omega)]
    simp only [hT.ok0, hT1.ok0, okC_nil, okC_agg, okC_i, okC_b, okC_s, okC_imm, okL_i, okL_b, okL_s, okL_sl, okS_i, okS_b, okS_s, okS_sl, okS_agg, okS_tup, okS_nil, okS_cons, cells_agg, cells_i, cells_b, cells_s, cells_imm, toI_i, toB_b, toS_s, toL_imm, nth_agg, nth_tup, put_agg, put_i, put_b, put_s, put_imm, setCells, List.getD_cons_zero, List.getD_cons_succ, bSh_b, bSh_i, bSh_s, bSh_sl, bSh_some, cond_true, cond_false, decide_true, decide_false, Int.toNat_natCast, Nat.zero_add, Nat.reduceAdd, beq_self_eq_true, Bool.and_true, Bool.true_and, if_true, Bool.false_eq_true, if_false, List.set_cons_zero, List.set_cons_succ, Bool.not_true, Bool.not_false, Bool.and_self]
    cases decide (((m.getD j .x).cells.getD 0 .x).toI = ((m.getD i .x).cells.getD 0 .x).toI) <;> rfl
  · try dsimp only
    rw [f107_l3_eq, dF (Int.lt_irrefl _), cond_false, w64 (x := (i : Int) + 1) (by omega) (by omega)]
    exact hX

theorem spec_l1 (n z s : Int) (m : List AV) (hm : Rw (T193 1048576) 1048576 m) :
    f107_l1 (.agg [(.i .i64 n), (.i .i64 z), (.i .i64 s), (.imm 10 m)]) 0 = some (.b ((List.range' 0 m.length).all fun i => okAt n s m i)) := by
  have hml := hm.1
  have := all_loop (L := fun i => f107_l1 (.agg [(.i .i64 n), (.i .i64 z), (.i .i64 s), (.imm 10 m)]) i) (n := m.length) (p := fun i => okAt n s m i) (X := some (.b true)) (F := some (.b false)) (fun i hi => ?_) ?_ m.length 0 (by omega)
  · refine this.trans ?_
    rw [cond_andb, Bool.and_true]
  · have hT := hm.at hi
    have h3 := spec_l3 n z s m hm i hi _ rfl
    try dsimp only
    rw [f107_l1_eq]
    simp only [okC_nil, okC_agg, okC_i, okC_b, okC_s, okC_imm, okL_i, okL_b, okL_s, okL_sl, okS_i, okS_b, okS_s, okS_sl, okS_agg, okS_tup, okS_nil, okS_cons, cells_agg, cells_i, cells_b, cells_s, cells_imm, toI_i, toB_b, toS_s, toL_imm, nth_agg, nth_tup, put_agg, put_i, put_b, put_s, put_imm, setCells, List.getD_cons_zero, List.getD_cons_succ, bSh_b, bSh_i, bSh_s, bSh_sl, bSh_some, cond_true, cond_false, decide_true, decide_false, Int.toNat_natCast, Nat.zero_add, Nat.reduceAdd, beq_self_eq_true, Bool.and_true, Bool.true_and, if_true, Bool.false_eq_true, if_false, List.set_cons_zero, List.set_cons_succ, Bool.not_true, Bool.not_false, Bool.and_self, f107_j2_eq]
    rw [dT (show (i : Int) < ((m.length : Nat) : Int) by omega), cond_true, if_pos (by omega)]
    simp only [Int.toNat_natCast, tb_spec hT, hT.ok0, hT.ok8, h3, okC_nil, okC_agg, okC_i, okC_b, okC_s, okC_imm, okL_i, okL_b, okL_s, okL_sl, okS_i, okS_b, okS_s, okS_sl, okS_agg, okS_tup, okS_nil, okS_cons, cells_agg, cells_i, cells_b, cells_s, cells_imm, toI_i, toB_b, toS_s, toL_imm, nth_agg, nth_tup, put_agg, put_i, put_b, put_s, put_imm, setCells, List.getD_cons_zero, List.getD_cons_succ, bSh_b, bSh_i, bSh_s, bSh_sl, bSh_some, cond_true, cond_false, decide_true, decide_false, Int.toNat_natCast, Nat.zero_add, Nat.reduceAdd, beq_self_eq_true, Bool.and_true, Bool.true_and, if_true, Bool.false_eq_true, if_false, List.set_cons_zero, List.set_cons_succ, Bool.not_true, Bool.not_false, Bool.and_self]
    unfold okAt
    cases tb (m.getD i .x)
    · rfl
    simp only [Bool.not_true, beq_self_eq_true, cond_true, Bool.true_and]
    by_cases h1 : n ≤ ((m.getD i .x).cells.getD 0 .x).toI
    · have h1' : ¬ ((m.getD i .x).cells.getD 0 .x).toI < n := by omega
      simp only [h1, h1', decide_true, decide_false, Bool.false_and, cond_false]
      rfl
    have h1' : ((m.getD i .x).cells.getD 0 .x).toI < n := by omega
    simp only [h1, h1', decide_true, decide_false, Bool.true_and, beq_self_eq_true, cond_true]
    by_cases h2 : s < ((m.getD i .x).cells.getD 8 .x).toI
    · have h2' : ¬ ((m.getD i .x).cells.getD 8 .x).toI ≤ s := by omega
      simp only [h2, h2', decide_true, decide_false, Bool.false_and, cond_false]
      rfl
    have h2' : ((m.getD i .x).cells.getD 8 .x).toI ≤ s := by omega
    simp only [h2, h2', decide_true, decide_false, Bool.true_and, beq_self_eq_true, cond_true]
    by_cases h0 : i = 0
    · subst h0
      simp
    · have hT1 := hm.at (i := i - 1) (by omega)
      rw [w64 (x := (i : Int) - 1) (by omega) (by omega), show ((i : Int) - 1).toNat = i - 1 by omega, bef_spec hT1 hT]
      rw [dT (show (0 : Int) < (i : Int) by omega), if_pos (by omega)]
      simp only [h0, decide_false, Bool.false_or, okC_nil, okC_agg, okC_i, okC_b, okC_s, okC_imm, okL_i, okL_b, okL_s, okL_sl, okS_i, okS_b, okS_s, okS_sl, okS_agg, okS_tup, okS_nil, okS_cons, cells_agg, cells_i, cells_b, cells_s, cells_imm, toI_i, toB_b, toS_s, toL_imm, nth_agg, nth_tup, put_agg, put_i, put_b, put_s, put_imm, setCells, List.getD_cons_zero, List.getD_cons_succ, bSh_b, bSh_i, bSh_s, bSh_sl, bSh_some, cond_true, cond_false, decide_true, decide_false, Int.toNat_natCast, Nat.zero_add, Nat.reduceAdd, beq_self_eq_true, Bool.and_true, Bool.true_and, if_true, Bool.false_eq_true, if_false, List.set_cons_zero, List.set_cons_succ, Bool.not_true, Bool.not_false, Bool.and_self]
      cases bef (m.getD (i - 1) .x) (m.getD i .x) <;> rfl
  · try dsimp only
    rw [f107_l1_eq]
    simp only [okC_nil, okC_agg, okC_i, okC_b, okC_s, okC_imm, okL_i, okL_b, okL_s, okL_sl, okS_i, okS_b, okS_s, okS_sl, okS_agg, okS_tup, okS_nil, okS_cons, cells_agg, cells_i, cells_b, cells_s, cells_imm, toI_i, toB_b, toS_s, toL_imm, nth_agg, nth_tup, put_agg, put_i, put_b, put_s, put_imm, setCells, List.getD_cons_zero, List.getD_cons_succ, bSh_b, bSh_i, bSh_s, bSh_sl, bSh_some, cond_true, cond_false, decide_true, decide_false, Int.toNat_natCast, Nat.zero_add, Nat.reduceAdd, beq_self_eq_true, Bool.and_true, Bool.true_and, if_true, Bool.false_eq_true, if_false, List.set_cons_zero, List.set_cons_succ, Bool.not_true, Bool.not_false, Bool.and_self]
    rw [dF (Int.lt_irrefl _), cond_false]

noncomputable def okVersion (n z s : Int) (m : List AV) : Bool := (decide (1 ≤ n) && decide (n ≤ 1000000)) && ((decide (0 ≤ z) && decide (z ≤ 11)) && ((decide (0 ≤ s) && decide (s ≤ 1000000)) && (decide ((m.length : Int) ≤ 16) && ((List.range' 0 m.length).all fun i => okAt n s m i))))

theorem spec_ok (n z s : Int) (m : List AV) (hm : Rw (T193 1048576) 1048576 m) : den E 107 [(.ip (.agg [(.i .i64 n), (.i .i64 z), (.i .i64 s), (.imm 10 m)]) 0)] [] = some (.b (okVersion n z s m)) := by
  rw [f107_eq]
  simp only [okC_nil, okC_agg, okC_i, okC_b, okC_s, okC_imm, okL_i, okL_b, okL_s, okL_sl, okS_i, okS_b, okS_s, okS_sl, okS_agg, okS_tup, okS_nil, okS_cons, cells_agg, cells_i, cells_b, cells_s, cells_imm, toI_i, toB_b, toS_s, toL_imm, nth_agg, nth_tup, put_agg, put_i, put_b, put_s, put_imm, setCells, List.getD_cons_zero, List.getD_cons_succ, bSh_b, bSh_i, bSh_s, bSh_sl, bSh_some, cond_true, cond_false, decide_true, decide_false, Int.toNat_natCast, Nat.zero_add, Nat.reduceAdd, beq_self_eq_true, Bool.and_true, Bool.true_and, if_true, Bool.false_eq_true, if_false, List.set_cons_zero, List.set_cons_succ, Bool.not_true, Bool.not_false, Bool.and_self, in90, spec_l1 n z s m hm]
  simp only [beq_false, Bool.not_not, cond_nb, not_lt_b, cond_andb]
  rfl

/-- slices.ContainsFunc over the tables before. -/
theorem has_id (l : List AV) (hl : Rw (T193 1048576) 1048576 l) {t : AV} (ht : T193 1048576 t) : den E 211 [(.imm 10 l), (.fn 212 [(.ip t 0)])] [] =
    some (.b (!(List.range' 0 l.length).all fun j => !decide (((l.getD j .x).cells.getD 0 .x).toI = (t.cells.getD 0 .x).toI))) := by
  have hll := hl.1
  rw [f211q1_eq, f214q1_eq]
  have key := find_loop (L := fun i => f214q1_l1 l t ((l.length : Nat) : Int) i) (n := l.length) (p := fun j => decide (((l.getD j .x).cells.getD 0 .x).toI = (t.cells.getD 0 .x).toI)) (F := fun i => some (.i .i64 i)) (X := some (.i .i64 (-1))) (fun i hi => ?_) ?_ l.length 0 (by omega)
  · rcases key with ⟨j, _, hj, h1, h2, h3⟩ | ⟨h1, h2⟩
    · rw [show f214q1_l1 l t ((l.length : Nat) : Int) 0 = _ from h3]
      have hj0 : (0 : Int) ≤ (j : Int) := by omega
      simp only [bSh_i, bSh_b, toI_i, toB_b, hj0, decide_true]
      have : ((List.range' 0 l.length).all fun j => !decide (((l.getD j .x).cells.getD 0 .x).toI = (t.cells.getD 0 .x).toI)) = false := by
        rw [List.all_eq_false]
        exact ⟨j, by simp [List.mem_range'_1, hj], by simpa using h1⟩
      rw [this]; rfl
    · rw [show f214q1_l1 l t ((l.length : Nat) : Int) 0 = _ from h2]
      simp only [bSh_i, bSh_b, toI_i, toB_b]
      have : ((List.range' 0 l.length).all fun j => !decide (((l.getD j .x).cells.getD 0 .x).toI = (t.cells.getD 0 .x).toI)) = true := by
        rw [List.all_eq_true]
        intro i hi
        have := h1 i (Nat.zero_le _) (by simpa [List.mem_range'_1] using hi)
        simpa using this
      rw [this]; rfl
  · have hT := hl.at hi
    try dsimp only
    rw [f214q1_l1_eq, dT (show (i : Int) < ((l.length : Nat) : Int) by omega), cond_true, if_pos (by omega), w64 (x := (i : Int) + 1) (by omega) (by omega)]
    simp only [hT.ok, ht.ok0, okC_nil, okC_agg, okC_i, okC_b, okC_s, okC_imm, okL_i, okL_b, okL_s, okL_sl, okS_i, okS_b, okS_s, okS_sl, okS_agg, okS_tup, okS_nil, okS_cons, cells_agg, cells_i, cells_b, cells_s, cells_imm, toI_i, toB_b, toS_s, toL_imm, nth_agg, nth_tup, put_agg, put_i, put_b, put_s, put_imm, setCells, List.getD_cons_zero, List.getD_cons_succ, bSh_b, bSh_i, bSh_s, bSh_sl, bSh_some, cond_true, cond_false, decide_true, decide_false, Int.toNat_natCast, Nat.zero_add, Nat.reduceAdd, beq_self_eq_true, Bool.and_true, Bool.true_and, if_true, Bool.false_eq_true, if_false, List.set_cons_zero, List.set_cons_succ, Bool.not_true, Bool.not_false, Bool.and_self, f212q1_eq]
  · try dsimp only
    rw [f214q1_l1_eq, dF (Int.lt_irrefl _), cond_false]

theorem impl_tables (n z s : Int) (m : List AV) (hm : Rw (T193 1048576) 1048576 m) :
    den E 172 [.agg [(.i .i64 n), (.i .i64 z), (.i .i64 s), (.imm 10 m)]] [] = some (.b (((List.range' 0 m.length).all fun i => okAt n s m i) && decide ((m.length : Int) ≤ 16))) := by
  have hml := hm.1
  rw [f172_eq]
  have := all_loop (L := fun i => f172_l1 m ((m.length : Nat) : Int) i n z s m) (n := m.length) (p := fun i => okAt n s m i) (X := some (.b (decide ((m.length : Int) ≤ 16)))) (F := some (.b false)) (fun i hi => ?_) ?_ m.length 0 (by omega)
  · refine this.trans ?_
    rw [cond_andb]
  · have hT := hm.at hi
    have hlt : Rw (T193 1048576) 1048576 (m.take i) := ⟨by rw [List.length_take]; omega, fun y hy => hm.2 y (List.mem_of_mem_take hy)⟩
    have hid := has_id (m.take i) hlt hT
    have hle : (m.take i).length = i := by rw [List.length_take]; omega
    have hge : ((List.range' 0 i).all fun j => !decide ((((m.take i).getD j .x).cells.getD 0 .x).toI = ((m.getD i .x).cells.getD 0 .x).toI)) = ((List.range' 0 i).all fun j => !decide (((m.getD j .x).cells.getD 0 .x).toI = ((m.getD i .x).cells.getD 0 .x).toI)) := by
      rw [Bool.eq_iff_iff, List.all_eq_true, List.all_eq_true]
      have hg : ∀ j, j ∈ List.range' 0 i → (m.take i).getD j .x = m.getD j .x := fun j hj => by
        rw [getD_take, if_pos (by simpa [List.mem_range'_1] using hj)]
      exact ⟨fun h j hj => by rw [← hg j hj]; exact h j hj, fun h j hj => by rw [hg j hj]; exact h j hj⟩
    rw [hle, hge] at hid
    try dsimp only
    rw [f172_l1_eq, dT (show (i : Int) < ((m.length : Nat) : Int) by omega), cond_true, if_pos (by omega)]
    simp only [Int.toNat_natCast, hT.ok, hT.eta, tb_impl hT, f172_j2_eq, hid, okC_nil, okC_agg, okC_i, okC_b, okC_s, okC_imm, okL_i, okL_b, okL_s, okL_sl, okS_i, okS_b, okS_s, okS_sl, okS_agg, okS_tup, okS_nil, okS_cons, cells_agg, cells_i, cells_b, cells_s, cells_imm, toI_i, toB_b, toS_s, toL_imm, nth_agg, nth_tup, put_agg, put_i, put_b, put_s, put_imm, setCells, List.getD_cons_zero, List.getD_cons_succ, bSh_b, bSh_i, bSh_s, bSh_sl, bSh_some, cond_true, cond_false, decide_true, decide_false, Int.toNat_natCast, Nat.zero_add, Nat.reduceAdd, beq_self_eq_true, Bool.and_true, Bool.true_and, if_true, Bool.false_eq_true, if_false, List.set_cons_zero, List.set_cons_succ, Bool.not_true, Bool.not_false, Bool.and_self]
    rw [w64 (x := (i : Int) + 1) (by omega) (by omega), if_pos (by omega)]
    unfold okAt
    cases htb : tb (m.getD i .x)
    · rfl
    have hlev := tb_level hT htb
    simp only [Bool.not_true, beq_self_eq_true, cond_true, Bool.true_and]
    by_cases h1 : n ≤ ((m.getD i .x).cells.getD 0 .x).toI
    · have h1' : ¬ ((m.getD i .x).cells.getD 0 .x).toI < n := by omega
      simp only [h1, h1', decide_true, decide_false, Bool.false_and, cond_false]
      rfl
    have h1' : ((m.getD i .x).cells.getD 0 .x).toI < n := by omega
    simp only [h1, h1', decide_true, decide_false, Bool.true_and, beq_self_eq_true, cond_true]
    by_cases h2 : s < ((m.getD i .x).cells.getD 8 .x).toI
    · have h2' : ¬ ((m.getD i .x).cells.getD 8 .x).toI ≤ s := by omega
      simp only [h2, h2', decide_true, decide_false, Bool.false_and, cond_false]
      rfl
    have h2' : ((m.getD i .x).cells.getD 8 .x).toI ≤ s := by omega
    simp only [h2, h2', decide_true, decide_false, Bool.true_and, beq_self_eq_true, cond_true]
    generalize ((List.range' 0 i).all fun j => !decide (((m.getD j .x).cells.getD 0 .x).toI = ((m.getD i .x).cells.getD 0 .x).toI)) = u
    cases u
    · simp
    simp only [Bool.not_true, cond_false, Bool.and_true]
    by_cases h0 : i = 0
    · subst h0
      simp
    · have hT1 := hm.at (i := i - 1) (by omega)
      have h0' : ¬ (i : Int) = 0 := by omega
      rw [w64 (x := (i : Int) - 1) (by omega) (by omega), show ((i : Int) - 1).toNat = i - 1 by omega]
      simp only [h0, h0', decide_false, Bool.false_or, cond_false]
      rw [if_pos (by omega), if_pos hT1.ok]
      simp only [hT1.eta, cmpT_impl hT1 hT, okC_nil, okC_agg, okC_i, okC_b, okC_s, okC_imm, okL_i, okL_b, okL_s, okL_sl, okS_i, okS_b, okS_s, okS_sl, okS_agg, okS_tup, okS_nil, okS_cons, cells_agg, cells_i, cells_b, cells_s, cells_imm, toI_i, toB_b, toS_s, toL_imm, nth_agg, nth_tup, put_agg, put_i, put_b, put_s, put_imm, setCells, List.getD_cons_zero, List.getD_cons_succ, bSh_b, bSh_i, bSh_s, bSh_sl, bSh_some, cond_true, cond_false, decide_true, decide_false, Int.toNat_natCast, Nat.zero_add, Nat.reduceAdd, beq_self_eq_true, Bool.and_true, Bool.true_and, if_true, Bool.false_eq_true, if_false, List.set_cons_zero, List.set_cons_succ, Bool.not_true, Bool.not_false, Bool.and_self]
      rw [bef_cmp hlev]
      by_cases h3 : cmpT (m.getD (i - 1) .x) (m.getD i .x) < 0
      · have h3' : ¬ 0 ≤ cmpT (m.getD (i - 1) .x) (m.getD i .x) := by omega
        simp only [h3, h3', decide_true, decide_false, beq_self_eq_true, cond_true, Bool.true_and]
        generalize (lessS ((m.getD (i - 1) .x).cells.getD 6 .x).toS ((m.getD i .x).cells.getD 5 .x).toS || decide (((m.getD (i - 1) .x).cells.getD 6 .x).toS = ((m.getD i .x).cells.getD 5 .x).toS)) = q1
        cases decide (0 < ((m.getD i .x).cells.getD 1 .x).toI) <;> cases decide (((m.getD (i - 1) .x).cells.getD 1 .x).toI = ((m.getD i .x).cells.getD 1 .x).toI) <;> cases q1 <;> rfl
      · have h3' : 0 ≤ cmpT (m.getD (i - 1) .x) (m.getD i .x) := by omega
        simp only [h3, h3', decide_true, decide_false, Bool.false_and, cond_false]
        rfl
  · try dsimp only
    rw [f172_l1_eq, dF (Int.lt_irrefl _), cond_false]

theorem impl_ok (n z s : Int) (m : List AV) (hm : Rw (T193 1048576) 1048576 m) : den E 110 [.agg [(.i .i64 n), (.i .i64 z), (.i .i64 s), (.imm 10 m)]] [] = some (.b (okVersion n z s m)) := by
  rw [f110_eq]
  simp only [okC_nil, okC_agg, okC_i, okC_b, okC_s, okC_imm, okL_i, okL_b, okL_s, okL_sl, okS_i, okS_b, okS_s, okS_sl, okS_agg, okS_tup, okS_nil, okS_cons, cells_agg, cells_i, cells_b, cells_s, cells_imm, toI_i, toB_b, toS_s, toL_imm, nth_agg, nth_tup, put_agg, put_i, put_b, put_s, put_imm, setCells, List.getD_cons_zero, List.getD_cons_succ, bSh_b, bSh_i, bSh_s, bSh_sl, bSh_some, cond_true, cond_false, decide_true, decide_false, Int.toNat_natCast, Nat.zero_add, Nat.reduceAdd, beq_self_eq_true, Bool.and_true, Bool.true_and, if_true, Bool.false_eq_true, if_false, List.set_cons_zero, List.set_cons_succ, Bool.not_true, Bool.not_false, Bool.and_self, in72, impl_tables n z s m hm]
  simp only [beq_true, cond_andb, okVersion]
  congr 2
  ac_rfl


/-- The tables of a zone. -/
noncomputable def inZone (q : Int) (el : AV) : Bool := decide ((el.cells.getD 2 .x).toI = q)

theorem spec_tables (n z s q : Int) (m : List AV) (hm : Rw (T193 1048576) 1048576 m) : dno E 108 [(.ip (.agg [(.i .i64 n), (.i .i64 z), (.i .i64 s), (.imm 10 m)]) 0), (.i .i64 q)] [] = some (.sl 0 [] none, [.live true false false 148 (m.filter (inZone q))]) := by
  have hml := hm.1
  rw [f108o1_eq]
  have := filter_loop (L := fun i r => f108o1_l1 (.agg [(.i .i64 n), (.i .i64 z), (.i .i64 s), (.imm 10 m)]) q i [] r) (m := m) (p := inZone q) (F := fun r => some (.sl 0 [] none, [.live true false false 148 r])) (fun i r hi hr => ?_) (fun r hr => ?_) m.length 0 [] (by omega) (by simp)
  · simpa using this
  · have hT := hm.at hi
    try dsimp only
    rw [f108o1_l1_eq]
    simp only [okC_nil, okC_agg, okC_i, okC_b, okC_s, okC_imm, okL_i, okL_b, okL_s, okL_sl, okS_i, okS_b, okS_s, okS_sl, okS_agg, okS_tup, okS_nil, okS_cons, cells_agg, cells_i, cells_b, cells_s, cells_imm, toI_i, toB_b, toS_s, toL_imm, nth_agg, nth_tup, put_agg, put_i, put_b, put_s, put_imm, setCells, List.getD_cons_zero, List.getD_cons_succ, bSh_b, bSh_i, bSh_s, bSh_sl, bSh_some, cond_true, cond_false, decide_true, decide_false, Int.toNat_natCast, Nat.zero_add, Nat.reduceAdd, beq_self_eq_true, Bool.and_true, Bool.true_and, if_true, Bool.false_eq_true, if_false, List.set_cons_zero, List.set_cons_succ, Bool.not_true, Bool.not_false, Bool.and_self]
    rw [dT (show (i : Int) < ((m.length : Nat) : Int) by omega), cond_true, if_pos (by omega)]
    simp only [hT.ok2, hT.ok, hT.eta, f108o1_j2_eq, if_true, List.length_cons, List.length_nil]
    rw [w64 (x := (i : Int) + 1) (by omega) (by omega)]
    unfold inZone
    by_cases hc : ((m.getD i .x).cells.getD 2 .x).toI = q
    · rw [if_pos (show (r.length + (0 + 1)) * 96 ≤ room by simp only [room]; omega)]
      simp only [hc, decide_true, cond_true, if_true]
      rw [if_pos (by omega)]
    · simp only [hc, decide_false, cond_false, Bool.false_eq_true, if_false]
  · try dsimp only
    rw [f108o1_l1_eq]
    simp only [okC_nil, okC_agg, okC_i, okC_b, okC_s, okC_imm, okL_i, okL_b, okL_s, okL_sl, okS_i, okS_b, okS_s, okS_sl, okS_agg, okS_tup, okS_nil, okS_cons, cells_agg, cells_i, cells_b, cells_s, cells_imm, toI_i, toB_b, toS_s, toL_imm, nth_agg, nth_tup, put_agg, put_i, put_b, put_s, put_imm, setCells, List.getD_cons_zero, List.getD_cons_succ, bSh_b, bSh_i, bSh_s, bSh_sl, bSh_some, cond_true, cond_false, decide_true, decide_false, Int.toNat_natCast, Nat.zero_add, Nat.reduceAdd, beq_self_eq_true, Bool.and_true, Bool.true_and, if_true, Bool.false_eq_true, if_false, List.set_cons_zero, List.set_cons_succ, Bool.not_true, Bool.not_false, Bool.and_self]
    rw [dF (Int.lt_irrefl _), cond_false]

theorem del_q {t : AV} (ht : T193 1048576 t) (q : Int) : den E 175 [t, (.ip (.i .i64 q) 0)] [] = some (.b (!inZone q t)) := by
  obtain ⟨a0, a1, a2, a3, a4, a5, a6, a7, a8, a9, rfl, _⟩ := ht
  rw [f175q1_eq]
  simp only [okC_nil, okC_agg, okC_i, okC_b, okC_s, okC_imm, okL_i, okL_b, okL_s, okL_sl, okS_i, okS_b, okS_s, okS_sl, okS_agg, okS_tup, okS_nil, okS_cons, cells_agg, cells_i, cells_b, cells_s, cells_imm, toI_i, toB_b, toS_s, toL_imm, nth_agg, nth_tup, put_agg, put_i, put_b, put_s, put_imm, setCells, List.getD_cons_zero, List.getD_cons_succ, bSh_b, bSh_i, bSh_s, bSh_sl, bSh_some, cond_true, cond_false, decide_true, decide_false, Int.toNat_natCast, Nat.zero_add, Nat.reduceAdd, beq_self_eq_true, Bool.and_true, Bool.true_and, if_true, Bool.false_eq_true, if_false, List.set_cons_zero, List.set_cons_succ, Bool.not_true, Bool.not_false, Bool.and_self]
  rfl

theorem first_del (m : List AV) (hm : Rw (T193 1048576) 1048576 m) (q : Int) :
    (den E 214 [(.imm 10 m), (.fn 175 [(.ip (.i .i64 q) 0)])] [] = some (.i .i64 (-1)) ∧ ∀ i, i < m.length → inZone q (m.getD i .x) = true) ∨
    ∃ j : Nat, j < m.length ∧ den E 214 [(.imm 10 m), (.fn 175 [(.ip (.i .i64 q) 0)])] [] = some (.i .i64 j) ∧ inZone q (m.getD j .x) = false ∧ ∀ i, i < j → inZone q (m.getD i .x) = true := by
  have hll := hm.1
  have key := find_loop (L := fun i => f214q2_l1 m (.i .i64 q) ((m.length : Nat) : Int) i) (n := m.length) (p := fun j => !inZone q (m.getD j .x)) (F := fun i => some (.i .i64 i)) (X := some (.i .i64 (-1))) (fun i hi => ?_) ?_ m.length 0 (by omega)
  · rw [f214q2_eq]
    rcases key with ⟨j, _, hj, h1, h2, h3⟩ | ⟨h1, h2⟩
    · exact .inr ⟨j, hj, h3, by simpa using h1, fun i hi => by simpa using h2 i (Nat.zero_le _) hi⟩
    · exact .inl ⟨h2, fun i hi => by simpa using h1 i (Nat.zero_le _) hi⟩
  · have hT := hm.at hi
    try dsimp only
    rw [f214q2_l1_eq, dT (show (i : Int) < ((m.length : Nat) : Int) by omega), cond_true, if_pos (by omega), w64 (x := (i : Int) + 1) (by omega) (by omega)]
    simp only [Int.toNat_natCast, hT.ok, hT.eta, del_q hT, okC_nil, okC_agg, okC_i, okC_b, okC_s, okC_imm, okL_i, okL_b, okL_s, okL_sl, okS_i, okS_b, okS_s, okS_sl, okS_agg, okS_tup, okS_nil, okS_cons, cells_agg, cells_i, cells_b, cells_s, cells_imm, toI_i, toB_b, toS_s, toL_imm, nth_agg, nth_tup, put_agg, put_i, put_b, put_s, put_imm, setCells, List.getD_cons_zero, List.getD_cons_succ, bSh_b, bSh_i, bSh_s, bSh_sl, bSh_some, cond_true, cond_false, decide_true, decide_false, Int.toNat_natCast, Nat.zero_add, Nat.reduceAdd, beq_self_eq_true, Bool.and_true, Bool.true_and, if_true, Bool.false_eq_true, if_false, List.set_cons_zero, List.set_cons_succ, Bool.not_true, Bool.not_false, Bool.and_self]
  · try dsimp only
    rw [f214q2_l1_eq, dF (Int.lt_irrefl _), cond_false]

theorem impl_del (m : List AV) (hm : Rw (T193 1048576) 1048576 m) (q : Int) :
    ∃ r : List AV, dno E 173 [(.sl 0 [] none), (.fn 175 [(.ip (.i .i64 q) 0)])] [(.live true false false 148 m)] =
      some (.sl 0 [] (some (0, (m.filter (inZone q)).length)), [.live true false false 148 r]) ∧ r.length = m.length ∧ (∀ y, y ∈ r → T193 1048576 y) ∧ r.take (m.filter (inZone q)).length = m.filter (inZone q) := by
  have hml := hm.1
  have hfl : ∀ y, T193 1048576 y → flatV y = true := fun y hy => by
    obtain ⟨a0, a1, a2, a3, a4, a5, a6, a7, a8, a9, rfl, _⟩ := hy; rfl
  rw [f173o1_eq]
  rcases first_del m hm q with ⟨h1, h2⟩ | ⟨j, hj, h1, h2, h3⟩
  · have hf : m.filter (inZone q) = m := List.filter_eq_self.2 fun y hy => by
      obtain ⟨i, hi, rfl⟩ := List.getElem_of_mem hy
      have := h2 i hi
      rwa [List.getD_eq_getElem?_getD, List.getElem?_eq_getElem hi] at this
    rw [h1, hf]
    exact ⟨m, rfl, rfl, hm.2, by simp⟩
  · rw [h1]
    simp only [bSh_i, toI_i]
    have hj1 : ¬ (j : Int) = -1 := by omega
    have hjn : (m.take j).filter (inZone q) = m.take j := List.filter_eq_self.2 fun y hy => by
      obtain ⟨i, hi, rfl⟩ := List.getElem_of_mem hy
      have hij : i < j := by rw [List.length_take] at hi; omega
      have := h3 i hij
      rw [List.getD_eq_getElem?_getD, List.getElem?_eq_getElem (by omega)] at this
      rw [List.getElem_take]; exact this
    simp only [hj1, decide_false, cond_false]
    rw [w64 (x := (j : Int) + 1) (by omega) (by omega), show ((j : Int) + 1) = ((j + 1 : Nat) : Int) by omega]
    let W : Nat → List AV → List AV := fun k r => r.take k ++ List.replicate (r.length - k) (.agg [(.i .i64 (0 : Int)), (.i .i64 (0 : Int)), (.i .i64 (0 : Int)), (.i .i64 (0 : Int)), (.i .i64 (0 : Int)), (.s .empty), (.s .empty), (.i .i64 (0 : Int)), (.i .i64 (0 : Int)), (.i .i64 (0 : Int))]) ++ r.drop (k + (r.length - k))
    have key : ∃ r', f173o1_l1 (.i .i64 q) (j : Int) ((j + 1 : Nat) : Int) m = some (.sl 0 [] (some (0, (m.filter (inZone q)).length)), [.live true false false 148 (W (m.filter (inZone q)).length r')]) ∧ r'.length = m.length ∧ r'.take (m.filter (inZone q)).length = m.filter (inZone q) := by
      refine del_loop (L := fun k i r => f173o1_l1 (.i .i64 q) k i r) (m := m) (p := inZone q) (T := T193 1048576) (F := fun k r => some (.sl 0 [] (some (0, k)), [.live true false false 148 (W k r)])) hm.2 (fun i k r hi hk hl hg hr => ?_) (fun k r hk hl => ?_) (m.length - (j + 1)) (j + 1) j m (by omega) (by omega) rfl hm.2 ?_ rfl
      · have hT := hm.at hi
        have hT' : T193 1048576 (r.getD k .x) := hr _ (getD_mem (by omega))
        try dsimp only
        rw [f173o1_l1_eq, dT (show (i : Int) < ((r.length : Nat) : Int) by omega), cond_true, if_pos (by omega)]
        simp only [Nat.zero_add, Int.toNat_natCast, hg, hT.ok, hT.eta, del_q hT, okC_nil, okC_agg, okC_i, okC_b, okC_s, okC_imm, okL_i, okL_b, okL_s, okL_sl, okS_i, okS_b, okS_s, okS_sl, okS_agg, okS_tup, okS_nil, okS_cons, cells_agg, cells_i, cells_b, cells_s, cells_imm, toI_i, toB_b, toS_s, toL_imm, nth_agg, nth_tup, put_agg, put_i, put_b, put_s, put_imm, setCells, List.getD_cons_zero, List.getD_cons_succ, bSh_b, bSh_i, bSh_s, bSh_sl, bSh_some, cond_true, cond_false, decide_true, decide_false, Int.toNat_natCast, Nat.zero_add, Nat.reduceAdd, beq_self_eq_true, Bool.and_true, Bool.true_and, if_true, Bool.false_eq_true, if_false, List.set_cons_zero, List.set_cons_succ, Bool.not_true, Bool.not_false, Bool.and_self, f173o1_j2_eq]
        rw [w64 (x := (k : Int) + 1) (by omega) (by omega), if_pos (by omega), w64 (x := (i : Int) + 1) (by omega) (by omega)]
        have hput : (r.getD k .x).putCells 0 (m.getD i .x).cells = m.getD i .x := by
          obtain ⟨a0, a1, a2, a3, a4, a5, a6, a7, a8, a9, e1, _⟩ := hT'
          obtain ⟨b0, b1, b2, b3, b4, b5, b6, b7, b8, b9, e2, _⟩ := hT
          rw [e1, e2]; rfl
        have hcl : [(.i .i64 ((m.getD i .x).cells.getD 0 .x).toI), (.i .i64 ((m.getD i .x).cells.getD 1 .x).toI), (.i .i64 ((m.getD i .x).cells.getD 2 .x).toI), (.i .i64 ((m.getD i .x).cells.getD 3 .x).toI), (.i .i64 ((m.getD i .x).cells.getD 4 .x).toI), (.s ((m.getD i .x).cells.getD 5 .x).toS), (.s ((m.getD i .x).cells.getD 6 .x).toS), (.i .i64 ((m.getD i .x).cells.getD 7 .x).toI), (.i .i64 ((m.getD i .x).cells.getD 8 .x).toI), (.i .i64 ((m.getD i .x).cells.getD 9 .x).toI)] = (m.getD i .x).cells := by
          obtain ⟨b0, b1, b2, b3, b4, b5, b6, b7, b8, b9, e2, _⟩ := hT
          rw [e2]; rfl
        rw [hcl, hput]
        cases inZone q (m.getD i .x) <;> simp
      · try dsimp only
        rw [f173o1_l1_eq, dF (show ¬ ((m.length : Nat) : Int) < ((r.length : Nat) : Int) by omega), cond_false, if_pos (by omega)]
        simp only [Int.toNat_natCast]
        rw [if_pos (by simp only [List.length_append, List.length_take, List.length_replicate, List.length_drop]; omega)]
        rfl
      · rw [take_getD hj, List.filter_append, hjn, List.filter_cons, if_neg (by rw [h2]; decide)]
        simp
    obtain ⟨r', g1, g2, g3⟩ := key
    have hWl : (W (m.filter (inZone q)).length r').length = m.length := by
      have : (m.filter (inZone q)).length ≤ m.length := List.length_filter_le _ _
      simp only [W, List.length_append, List.length_take, List.length_replicate, List.length_drop]
      omega
    have hle : (m.filter (inZone q)).length ≤ r'.length := by rw [g2]; exact List.length_filter_le _ _
    have z64 : W64 0 := by constructor <;> omega
    have ze : ByteArray.empty.size ≤ 1048576 := Nat.zero_le _
    refine ⟨W (m.filter (inZone q)).length r', g1, hWl, fun y hy => ?_, ?_⟩
    · simp only [W, List.mem_append] at hy
      rcases hy with (hy | hy) | hy
      · rw [g3] at hy
        exact hm.2 y (List.mem_filter.1 hy).1
      · rw [(List.mem_replicate.1 hy).2]; exact ⟨0, 0, 0, 0, 0, .empty, .empty, 0, 0, 0, rfl, z64, z64, z64, z64, z64, ze, ze, z64, z64, z64, trivial⟩
      · rw [List.drop_eq_nil_of_le (by omega)] at hy; cases hy
    · simp only [W, List.append_assoc]
      rw [List.take_append_of_le_length (by rw [List.length_take]; omega), List.take_take, Nat.min_self, g3]

theorem impl_in (n z s q : Int) (m : List AV) (hm : Rw (T193 1048576) 1048576 m) : ∃ r : List AV, dno E 111 [.agg [(.i .i64 n), (.i .i64 z), (.i .i64 s), (.imm 10 m)], (.i .i64 q)] [] = some (.sl 0 [] (some (0, (m.filter (inZone q)).length)), [.live true false false 148 r]) ∧ flatVL r = true ∧ r.length = m.length ∧ r.take (m.filter (inZone q)).length = m.filter (inZone q) ∧ ∀ i, i < r.length → T193 1048576 (r.getD i .x) := by
  have hml := hm.1
  obtain ⟨r, h1, h2, h3, h4⟩ := impl_del m hm q
  have hfl : flatVL m = true := flatVL_of fun y hy => by
    obtain ⟨a0, a1, a2, a3, a4, a5, a6, a7, a8, a9, rfl, _⟩ := hm.2 y hy; rfl
  have h5 : flatVL r = true := flatVL_of fun y hy => by
    obtain ⟨a0, a1, a2, a3, a4, a5, a6, a7, a8, a9, rfl, _⟩ := h3 y hy; rfl
  refine ⟨r, ?_, h5, h2, h4, fun i hi => h3 _ (getD_mem hi)⟩
  rw [f111o1_eq, f174_eq, if_pos ⟨rfl, by simp only [room]; omega⟩]
  simp only [bOwn_some, bOwnF_some, bOwnS_some, bOwnFS_some, okRs_nil, okRs_cons, okR_row, okR_same, okR_var, okR_gone, okS_so, okS_pr, okLens_nil, okLens_same, okLens_row, okLens_var, row_live, flatR_live, flatL_nil, flatL_cons, flat_i, flat_b, flat_s, flat_sl, flat_agg, flat_tup, List.all_cons, List.all_nil, List.length_cons, List.length_nil, Nat.reduceLeDiff, Nat.le_refl, decide_true, Bool.and_self, mkL_length, List.headD_cons, okC_nil, okC_agg, okC_i, okC_b, okC_s, okC_imm, okL_i, okL_b, okL_s, okL_sl, okS_i, okS_b, okS_s, okS_sl, okS_agg, okS_tup, okS_nil, okS_cons, cells_agg, cells_i, cells_b, cells_s, cells_imm, toI_i, toB_b, toS_s, toL_imm, nth_agg, nth_tup, put_agg, put_i, put_b, put_s, put_imm, setCells, List.getD_cons_zero, List.getD_cons_succ, bSh_b, bSh_i, bSh_s, bSh_sl, bSh_some, cond_true, cond_false, decide_true, decide_false, Int.toNat_natCast, Nat.zero_add, Nat.reduceAdd, beq_self_eq_true, Bool.and_true, Bool.true_and, if_true, Bool.false_eq_true, if_false, List.set_cons_zero, List.set_cons_succ, Bool.not_true, Bool.not_false, Bool.and_self, h1, h2, h5]
  rfl


/-! Marks of tables. -/
theorem text_ok : ∀ (n : Nat) (k : Int) (s : ByteArray), k.toNat ≤ n → 0 ≤ k → k ≤ 1099511627776 → (s.size : Int) + k ≤ 2199023255552 → ∃ r, f113_l1 k s = some (.s r) := by
  intro n
  induction n with
  | zero =>
    intro k s h1 h2 h3 h4
    have : k = 0 := by omega
    subst this
    have h5 : ((({ data := #[109] } : ByteArray).size + s.size : Nat) : Int) ≤ 9223372036854775807 := by
      have : ({ data := #[109] } : ByteArray).size = 1 := rfl
      rw [this]; omega
    rw [f113_l1_eq, dF (Int.lt_irrefl _), cond_false, if_pos h5]
    exact ⟨_, rfl⟩
  | succ n ih =>
    intro k s h1 h2 h3 h4
    by_cases hk : k = 0
    · subst hk
      exact ih 0 s (by omega) (by omega) (by omega) h4
    have hd : k.tdiv 10 = k / 10 := Int.tdiv_eq_ediv_of_nonneg h2
    have hsz : ∀ y0 : AV, (bytesOf [y0]).size = 1 := fun y0 => rfl
    have hu : ([(.i .u8 (IntKind.u8.wrap (IntKind.i64.wrap ((48 : Int) + (k.tmod (10 : Int))))))] : List AV).all isU8 = true := rfl
    rw [f113_l1_eq, dT (show (0 : Int) < k by omega), cond_true, if_pos hu, hd, w64 (x := k / 10) (by omega) (by omega), if_pos (by rw [hsz]; omega)]
    refine ih (k / 10) _ (by omega) (by omega) (by omega) ?_
    rw [ByteArray.size_append, hsz]
    omega
noncomputable def mt (k : Int) : ByteArray := match den E 113 [(.i .i64 k)] [] with
  | some (.s r) => r
  | _ => .empty
theorem mt_ok {k : Int} (h0 : 0 < k) (h1 : k ≤ 1099511627776) : den E 113 [(.i .i64 k)] [] = some (.s (mt k)) := by
  have : ∃ r, den E 113 [(.i .i64 k)] [] = some (.s r) := by
    rw [f113_eq, dF (show ¬ k ≤ 0 by omega), cond_false]
    refine text_ok k.toNat k _ (Nat.le_refl _) (by omega) h1 ?_
    have : ({ data := #[] } : ByteArray).size = 0 := rfl
    rw [this]; omega
  obtain ⟨r, hr⟩ := this
  unfold mt
  rw [hr]
noncomputable def mk (x : Int) : AV := (.agg [(.i .i64 x), (.i .i64 (x + 1)), (.i .i64 ((x + 1) + 1)), (.i .i64 (((x + 1) + 1) + 1)), (.i .i64 ((((x + 1) + 1) + 1) + 1)), (.s (mt (((((x + 1) + 1) + 1) + 1) + 1))), (.s (mt ((((((x + 1) + 1) + 1) + 1) + 1) + 1))), (.i .i64 (((((((x + 1) + 1) + 1) + 1) + 1) + 1) + 1)), (.i .i64 ((((((((x + 1) + 1) + 1) + 1) + 1) + 1) + 1) + 1)), (.i .i64 (((((((((x + 1) + 1) + 1) + 1) + 1) + 1) + 1) + 1) + 1))])
theorem mk_flat1 (x : Int) : flatV (mk x) = true := rfl
theorem mark_tabs {l : List AV} (h : Rw (T193 1048576) 1048576 l) (k : Int) (hk : 0 < k) (hk2 : k ≤ 549755813888) : dno E 45 [(.sl 0 [] none), (.i .i64 k)] [(.live true false false 148 l)] =
    some (.i .i64 (k + 10 * ((l.length : Nat) : Int)), [.live true false false 148 (mkL l.length fun i => mk (k + 10 * (i : Int)))]) := by
  have hl := h.1
  rw [f45o1_eq]
  have := fill_loop (L := fun i ys => f45o1_l1 (k + 10 * i) i ys) (xs := mkL l.length fun i => mk (k + 10 * (i : Int))) (ys0 := l) (F := fun ys => some (AV.i .i64 (k + 10 * ((l.length : Nat) : Int)), [.live true false false 148 ys])) (by rw [mkL_length]) (fun i r hi hr hz => ?_) ?_
  · simpa using this
  · rw [mkL_length] at hi hr
    obtain ⟨a0, a1, a2, a3, a4, a5, a6, a7, a8, a9, he, _⟩ := h.at hi
    have hge : r.getD i .x = _ := hz.trans he
    have hgs : ∀ y, (r.set i y).getD i .x = y := fun y => by
      rw [List.getD_eq_getElem?_getD, List.getElem?_set_self (by omega)]; rfl
    generalize hx : k + 10 * (i : Int) = x
    have hnext : ((((((((((x + 1) + 1) + 1) + 1) + 1) + 1) + 1) + 1) + 1) + 1) = k + 10 * ((i : Int) + 1) := by omega
    have g1 : (0 : Int) ≤ (i : Int) := by omega
    have g2 : (i : Int) < ((r.length : Nat) : Int) := by omega
    have w1 : IntKind.i64.wrap (x + 1) = (x + 1) := w64 (by omega) (by omega)
    have w2 : IntKind.i64.wrap ((x + 1) + 1) = ((x + 1) + 1) := w64 (by omega) (by omega)
    have w3 : IntKind.i64.wrap (((x + 1) + 1) + 1) = (((x + 1) + 1) + 1) := w64 (by omega) (by omega)
    have w4 : IntKind.i64.wrap ((((x + 1) + 1) + 1) + 1) = ((((x + 1) + 1) + 1) + 1) := w64 (by omega) (by omega)
    have w5 : IntKind.i64.wrap (((((x + 1) + 1) + 1) + 1) + 1) = (((((x + 1) + 1) + 1) + 1) + 1) := w64 (by omega) (by omega)
    have w6 : IntKind.i64.wrap ((((((x + 1) + 1) + 1) + 1) + 1) + 1) = ((((((x + 1) + 1) + 1) + 1) + 1) + 1) := w64 (by omega) (by omega)
    have w7 : IntKind.i64.wrap (((((((x + 1) + 1) + 1) + 1) + 1) + 1) + 1) = (((((((x + 1) + 1) + 1) + 1) + 1) + 1) + 1) := w64 (by omega) (by omega)
    have w8 : IntKind.i64.wrap ((((((((x + 1) + 1) + 1) + 1) + 1) + 1) + 1) + 1) = ((((((((x + 1) + 1) + 1) + 1) + 1) + 1) + 1) + 1) := w64 (by omega) (by omega)
    have w9 : IntKind.i64.wrap (((((((((x + 1) + 1) + 1) + 1) + 1) + 1) + 1) + 1) + 1) = (((((((((x + 1) + 1) + 1) + 1) + 1) + 1) + 1) + 1) + 1) := w64 (by omega) (by omega)
    have w10 : IntKind.i64.wrap ((((((((((x + 1) + 1) + 1) + 1) + 1) + 1) + 1) + 1) + 1) + 1) = ((((((((((x + 1) + 1) + 1) + 1) + 1) + 1) + 1) + 1) + 1) + 1) := w64 (by omega) (by omega)
    have m5 := mt_ok (k := (((((x + 1) + 1) + 1) + 1) + 1)) (by omega) (by omega)
    have m6 := mt_ok (k := ((((((x + 1) + 1) + 1) + 1) + 1) + 1)) (by omega) (by omega)
    try dsimp only
    rw [f45o1_l1_eq, dT g2, cond_true, w64 (x := (i : Int) + 1) (by omega) (by omega)]
    simp only [Int.toNat_natCast, Nat.zero_add, putAt, hge, hgs, List.set_set, List.length_set, g1, g2, and_self, w1, w2, w3, w4, w5, w6, w7, w8, w9, w10, m5, m6, okC_nil, okC_agg, okC_i, okC_b, okC_s, okC_imm, okL_i, okL_b, okL_s, okL_sl, okS_i, okS_b, okS_s, okS_sl, okS_agg, okS_tup, okS_nil, okS_cons, cells_agg, cells_i, cells_b, cells_s, cells_imm, toI_i, toB_b, toS_s, toL_imm, nth_agg, nth_tup, put_agg, put_i, put_b, put_s, put_imm, setCells, List.getD_cons_zero, List.getD_cons_succ, bSh_b, bSh_i, bSh_s, bSh_sl, bSh_some, cond_true, cond_false, decide_true, decide_false, Int.toNat_natCast, Nat.zero_add, Nat.reduceAdd, beq_self_eq_true, Bool.and_true, Bool.true_and, if_true, Bool.false_eq_true, if_false, List.set_cons_zero, List.set_cons_succ, Bool.not_true, Bool.not_false, Bool.and_self]
    rw [hnext, mkL_getD hi, hx]
    rfl
  · rw [mkL_length]
    try dsimp only
    rw [f45o1_l1_eq, dF (by rw [mkL_length]; omega), cond_false]
theorem mark_win {l : List AV} (h : ∀ i, i < l.length → T193 1048576 (l.getD i .x)) (hl : l.length ≤ 1048576) (n : Nat) (hn : n ≤ l.length) (k : Int) (hk : 0 < k) (hk2 : k ≤ 549755813888) : ∃ r : List AV, dno E 45 [(.sl 0 [] (some (0, n))), (.i .i64 k)] [(.live true false false 148 l)] =
    some (.i .i64 (k + 10 * (n : Int)), [.live true false false 148 r]) ∧ r.length = l.length ∧ r.take n = mkL n fun i => mk (k + 10 * (i : Int)) := by
  rw [f45o2_eq]
  let xs : List AV := (mkL n fun i => mk (k + 10 * (i : Int)))
  have key : ∀ (d i : Nat) (r : List AV), i + d = n → r.length = l.length → r.take i = xs.take i → r.drop i = l.drop i → ∃ r', f45o2_l1 0 n (k + 10 * i) i r = some (.i .i64 (k + 10 * (n : Int)), [.live true false false 148 r']) ∧ r'.length = l.length ∧ r'.take n = xs := by
    intro d
    induction d with
    | zero =>
      intro i r h1 h2 h3 h4
      have : i = n := by omega
      subst this
      refine ⟨r, ?_, h2, ?_⟩
      · rw [f45o2_l1_eq, dF (Int.lt_irrefl _), cond_false]
      · rw [h3, List.take_of_length_le (by rw [mkL_length]; exact Nat.le_refl _)]
    | succ d ih =>
      intro i r h1 h2 h3 h4
      have hi : i < l.length := by omega
      have hz : r.getD i .x = l.getD i .x := by
        have h5 := congrArg (fun l => l.getD 0 AV.x) h4
        simpa [List.getD_eq_getElem?_getD, List.getElem?_drop] using h5
      obtain ⟨a0, a1, a2, a3, a4, a5, a6, a7, a8, a9, he, _⟩ := h i hi
      have hge : r.getD i .x = _ := hz.trans he
      have hgs : ∀ y, (r.set i y).getD i .x = y := fun y => by
        rw [List.getD_eq_getElem?_getD, List.getElem?_set_self (by omega)]; rfl
      have hrec : f45o2_l1 0 n (k + 10 * i) i r = f45o2_l1 0 n (k + 10 * ((i + 1 : Nat) : Int)) ((i + 1 : Nat) : Int) (r.set i (mk (k + 10 * (i : Int)))) := by
        generalize hx : k + 10 * (i : Int) = x
        have hnext : ((((((((((x + 1) + 1) + 1) + 1) + 1) + 1) + 1) + 1) + 1) + 1) = k + 10 * ((i + 1 : Nat) : Int) := by omega
        have g1 : (0 : Int) ≤ (i : Int) := by omega
        have g2 : (i : Int) < ((n : Nat) : Int) := by omega
        have w1 : IntKind.i64.wrap (x + 1) = (x + 1) := w64 (by omega) (by omega)
        have w2 : IntKind.i64.wrap ((x + 1) + 1) = ((x + 1) + 1) := w64 (by omega) (by omega)
        have w3 : IntKind.i64.wrap (((x + 1) + 1) + 1) = (((x + 1) + 1) + 1) := w64 (by omega) (by omega)
        have w4 : IntKind.i64.wrap ((((x + 1) + 1) + 1) + 1) = ((((x + 1) + 1) + 1) + 1) := w64 (by omega) (by omega)
        have w5 : IntKind.i64.wrap (((((x + 1) + 1) + 1) + 1) + 1) = (((((x + 1) + 1) + 1) + 1) + 1) := w64 (by omega) (by omega)
        have w6 : IntKind.i64.wrap ((((((x + 1) + 1) + 1) + 1) + 1) + 1) = ((((((x + 1) + 1) + 1) + 1) + 1) + 1) := w64 (by omega) (by omega)
        have w7 : IntKind.i64.wrap (((((((x + 1) + 1) + 1) + 1) + 1) + 1) + 1) = (((((((x + 1) + 1) + 1) + 1) + 1) + 1) + 1) := w64 (by omega) (by omega)
        have w8 : IntKind.i64.wrap ((((((((x + 1) + 1) + 1) + 1) + 1) + 1) + 1) + 1) = ((((((((x + 1) + 1) + 1) + 1) + 1) + 1) + 1) + 1) := w64 (by omega) (by omega)
        have w9 : IntKind.i64.wrap (((((((((x + 1) + 1) + 1) + 1) + 1) + 1) + 1) + 1) + 1) = (((((((((x + 1) + 1) + 1) + 1) + 1) + 1) + 1) + 1) + 1) := w64 (by omega) (by omega)
        have w10 : IntKind.i64.wrap ((((((((((x + 1) + 1) + 1) + 1) + 1) + 1) + 1) + 1) + 1) + 1) = ((((((((((x + 1) + 1) + 1) + 1) + 1) + 1) + 1) + 1) + 1) + 1) := w64 (by omega) (by omega)
        have m5 := mt_ok (k := (((((x + 1) + 1) + 1) + 1) + 1)) (by omega) (by omega)
        have m6 := mt_ok (k := ((((((x + 1) + 1) + 1) + 1) + 1) + 1)) (by omega) (by omega)
        rw [f45o2_l1_eq, dT g2, cond_true, w64 (x := (i : Int) + 1) (by omega) (by omega)]
        simp only [Int.toNat_natCast, Nat.zero_add, putAt, hge, hgs, List.set_set, List.length_set, g1, g2, and_self, w1, w2, w3, w4, w5, w6, w7, w8, w9, w10, m5, m6, okC_nil, okC_agg, okC_i, okC_b, okC_s, okC_imm, okL_i, okL_b, okL_s, okL_sl, okS_i, okS_b, okS_s, okS_sl, okS_agg, okS_tup, okS_nil, okS_cons, cells_agg, cells_i, cells_b, cells_s, cells_imm, toI_i, toB_b, toS_s, toL_imm, nth_agg, nth_tup, put_agg, put_i, put_b, put_s, put_imm, setCells, List.getD_cons_zero, List.getD_cons_succ, bSh_b, bSh_i, bSh_s, bSh_sl, bSh_some, cond_true, cond_false, decide_true, decide_false, Int.toNat_natCast, Nat.zero_add, Nat.reduceAdd, beq_self_eq_true, Bool.and_true, Bool.true_and, if_true, Bool.false_eq_true, if_false, List.set_cons_zero, List.set_cons_succ, Bool.not_true, Bool.not_false, Bool.and_self]
        rw [hnext, show ((i : Int) + 1) = ((i + 1 : Nat) : Int) by omega]
        rfl
      rw [hrec]
      refine ih (i + 1) _ (by omega) (by simpa using h2) ?_ ?_
      · have hxi : i < xs.length := by rw [mkL_length]; omega
        rw [take_getD (by simp; omega), take_getD hxi, List.take_set_of_le (Nat.le_refl i), h3, hgs, mkL_getD (by omega)]
      · rw [List.drop_set_of_lt (by omega)]
        have := congrArg (List.drop 1) h4
        simpa [List.drop_drop] using this
  have := key n 0 l (by omega) rfl (by simp) (by simp)
  simpa using this
theorem held_tabs (n : Nat) (hn : n ≤ 1048576) (k : Int) (hk : 0 < k) (hk2 : k ≤ 549755813888) : den E 46 [(.imm 10 (mkL n fun i => mk (k + 10 * (i : Int)))), (.i .i64 k)] [] = some (.i .i64 (k + 10 * (n : Int))) := by
  rw [f46_eq]
  have := loop_to (L := fun i => f46_l1 (mkL n fun i => mk (k + 10 * (i : Int))) (k + 10 * i) i) (n := n) (X := some (.i .i64 (k + 10 * (n : Int)))) (fun i hi => ?_) ?_
  · simpa using this
  · generalize hx : k + 10 * (i : Int) = x
    have hg : (mkL n fun i => mk (k + 10 * (i : Int))).getD i .x = (.agg [(.i .i64 x), (.i .i64 (x + 1)), (.i .i64 ((x + 1) + 1)), (.i .i64 (((x + 1) + 1) + 1)), (.i .i64 ((((x + 1) + 1) + 1) + 1)), (.s (mt (((((x + 1) + 1) + 1) + 1) + 1))), (.s (mt ((((((x + 1) + 1) + 1) + 1) + 1) + 1))), (.i .i64 (((((((x + 1) + 1) + 1) + 1) + 1) + 1) + 1)), (.i .i64 ((((((((x + 1) + 1) + 1) + 1) + 1) + 1) + 1) + 1)), (.i .i64 (((((((((x + 1) + 1) + 1) + 1) + 1) + 1) + 1) + 1) + 1))]) := by rw [mkL_getD hi, hx]; rfl
    have hnext : ((((((((((x + 1) + 1) + 1) + 1) + 1) + 1) + 1) + 1) + 1) + 1) = k + 10 * ((i : Int) + 1) := by omega
    have g1 : (0 : Int) ≤ (i : Int) := by omega
    have g2 : (i : Int) < (n : Int) := by omega
    have w1 : IntKind.i64.wrap (x + 1) = (x + 1) := w64 (by omega) (by omega)
    have w2 : IntKind.i64.wrap ((x + 1) + 1) = ((x + 1) + 1) := w64 (by omega) (by omega)
    have w3 : IntKind.i64.wrap (((x + 1) + 1) + 1) = (((x + 1) + 1) + 1) := w64 (by omega) (by omega)
    have w4 : IntKind.i64.wrap ((((x + 1) + 1) + 1) + 1) = ((((x + 1) + 1) + 1) + 1) := w64 (by omega) (by omega)
    have w5 : IntKind.i64.wrap (((((x + 1) + 1) + 1) + 1) + 1) = (((((x + 1) + 1) + 1) + 1) + 1) := w64 (by omega) (by omega)
    have w6 : IntKind.i64.wrap ((((((x + 1) + 1) + 1) + 1) + 1) + 1) = ((((((x + 1) + 1) + 1) + 1) + 1) + 1) := w64 (by omega) (by omega)
    have w7 : IntKind.i64.wrap (((((((x + 1) + 1) + 1) + 1) + 1) + 1) + 1) = (((((((x + 1) + 1) + 1) + 1) + 1) + 1) + 1) := w64 (by omega) (by omega)
    have w8 : IntKind.i64.wrap ((((((((x + 1) + 1) + 1) + 1) + 1) + 1) + 1) + 1) = ((((((((x + 1) + 1) + 1) + 1) + 1) + 1) + 1) + 1) := w64 (by omega) (by omega)
    have w9 : IntKind.i64.wrap (((((((((x + 1) + 1) + 1) + 1) + 1) + 1) + 1) + 1) + 1) = (((((((((x + 1) + 1) + 1) + 1) + 1) + 1) + 1) + 1) + 1) := w64 (by omega) (by omega)
    have w10 : IntKind.i64.wrap ((((((((((x + 1) + 1) + 1) + 1) + 1) + 1) + 1) + 1) + 1) + 1) = ((((((((((x + 1) + 1) + 1) + 1) + 1) + 1) + 1) + 1) + 1) + 1) := w64 (by omega) (by omega)
    have m5 := mt_ok (k := (((((x + 1) + 1) + 1) + 1) + 1)) (by omega) (by omega)
    have m6 := mt_ok (k := ((((((x + 1) + 1) + 1) + 1) + 1) + 1)) (by omega) (by omega)
    try dsimp only
    rw [f46_l1_eq, mkL_length, dT g2, cond_true, w64 (x := (i : Int) + 1) (by omega) (by omega)]
    simp only [Int.toNat_natCast, hg, g1, g2, and_self, w1, w2, w3, w4, w5, w6, w7, w8, w9, w10, m5, m6, okC_nil, okC_agg, okC_i, okC_b, okC_s, okC_imm, okL_i, okL_b, okL_s, okL_sl, okS_i, okS_b, okS_s, okS_sl, okS_agg, okS_tup, okS_nil, okS_cons, cells_agg, cells_i, cells_b, cells_s, cells_imm, toI_i, toB_b, toS_s, toL_imm, nth_agg, nth_tup, put_agg, put_i, put_b, put_s, put_imm, setCells, List.getD_cons_zero, List.getD_cons_succ, bSh_b, bSh_i, bSh_s, bSh_sl, bSh_some, cond_true, cond_false, decide_true, decide_false, Int.toNat_natCast, Nat.zero_add, Nat.reduceAdd, beq_self_eq_true, Bool.and_true, Bool.true_and, if_true, Bool.false_eq_true, if_false, List.set_cons_zero, List.set_cons_succ, Bool.not_true, Bool.not_false, Bool.and_self]
    rw [hnext]
  · try dsimp only
    rw [f46_l1_eq, mkL_length, dF (Int.lt_irrefl _), cond_false]


theorem tr_flat {B C : Nat} {l : List AV} (h : Rw (T193 B) C l) : flatVL l = true := flatVL_of fun y hy => by
  obtain ⟨a0, a1, a2, a3, a4, a5, a6, a7, a8, a9, rfl, _⟩ := h.2 y hy; rfl
theorem own_tabs {l : List AV} (h : Rw (T193 1048576) 1048576 l) : dno E 109 [(.imm 10 l)] [] = some (.sl 0 [] none, [.live true false false 148 l]) := by
  have hl := h.1
  rw [f109o1_eq, if_pos (by simp only [room]; omega), Int.toNat_natCast]
  refine fill_loop (L := fun i ys => f109o1_l1 l i [] ys) (xs := l) (ys0 := List.replicate l.length (.agg [(.i .i64 (0 : Int)), (.i .i64 (0 : Int)), (.i .i64 (0 : Int)), (.i .i64 (0 : Int)), (.i .i64 (0 : Int)), (.s .empty), (.s .empty), (.i .i64 (0 : Int)), (.i .i64 (0 : Int)), (.i .i64 (0 : Int))])) (F := fun ys => some (.sl 0 [] none, [.live true false false 148 ys])) (by simp) (fun i ys hi hy hz => ?_) ?_
  · have hT := h.at hi
    have ht := to171 hT
    have hz' : ys.getD i .x = .agg [(.i .i64 (0 : Int)), (.i .i64 (0 : Int)), (.i .i64 (0 : Int)), (.i .i64 (0 : Int)), (.i .i64 (0 : Int)), (.s .empty), (.s .empty), (.i .i64 (0 : Int)), (.i .i64 (0 : Int)), (.i .i64 (0 : Int))] := by rw [hz]; simp [List.getD_eq_getElem?_getD, hi]
    try dsimp only
    rw [f109o1_l1_eq, dT (show (i : Int) < ((l.length : Nat) : Int) by omega), cond_true, if_pos (by omega), w64 (x := (i : Int) + 1) (by omega) (by omega)]
    simp only [Int.toNat_natCast, Nat.zero_add, hT.ok, hT.eta, if_true, hz', ht]
    obtain ⟨a0, a1, a2, a3, a4, a5, a6, a7, a8, a9, he, _⟩ := hT
    rw [he]
    simp only [okC_nil, okC_agg, okC_i, okC_b, okC_s, okC_imm, okL_i, okL_b, okL_s, okL_sl, okS_i, okS_b, okS_s, okS_sl, okS_agg, okS_tup, okS_nil, okS_cons, cells_agg, cells_i, cells_b, cells_s, cells_imm, toI_i, toB_b, toS_s, toL_imm, nth_agg, nth_tup, put_agg, put_i, put_b, put_s, put_imm, setCells, List.getD_cons_zero, List.getD_cons_succ, bSh_b, bSh_i, bSh_s, bSh_sl, bSh_some, cond_true, cond_false, decide_true, decide_false, Int.toNat_natCast, Nat.zero_add, Nat.reduceAdd, beq_self_eq_true, Bool.and_true, Bool.true_and, if_true, Bool.false_eq_true, if_false, List.set_cons_zero, List.set_cons_succ, Bool.not_true, Bool.not_false, Bool.and_self]
    rw [if_pos (by omega)]
  · try dsimp only
    rw [f109o1_l1_eq, dF (Int.lt_irrefl _), cond_false]
theorem own_version (n z s : Int) {m : List AV} (hm : Rw (T193 1048576) 1048576 m) : dno E 40 [(.agg [(.i .i64 n), (.i .i64 z), (.i .i64 s), (.imm 10 m)])] [] = some (.agg [(.i .i64 n), (.i .i64 z), (.i .i64 s), (.sl 0 [] none)], [.live true false false 148 m]) := by
  rw [f40o1_eq, own_tabs hm]
  simp only [bOwn_some, bOwnF_some, bOwnS_some, bOwnFS_some, okRs_nil, okRs_cons, okR_row, okR_same, okR_var, okR_gone, okS_so, okS_pr, okLens_nil, okLens_same, okLens_row, okLens_var, row_live, flatR_live, flatL_nil, flatL_cons, flat_i, flat_b, flat_s, flat_sl, flat_agg, flat_tup, List.all_cons, List.all_nil, List.length_cons, List.length_nil, Nat.reduceLeDiff, Nat.le_refl, decide_true, Bool.and_self, mkL_length, List.headD_cons, okC_nil, okC_agg, okC_i, okC_b, okC_s, okC_imm, okL_i, okL_b, okL_s, okL_sl, okS_i, okS_b, okS_s, okS_sl, okS_agg, okS_tup, okS_nil, okS_cons, cells_agg, cells_i, cells_b, cells_s, cells_imm, toI_i, toB_b, toS_s, toL_imm, nth_agg, nth_tup, put_agg, put_i, put_b, put_s, put_imm, setCells, List.getD_cons_zero, List.getD_cons_succ, bSh_b, bSh_i, bSh_s, bSh_sl, bSh_some, cond_true, cond_false, decide_true, decide_false, Int.toNat_natCast, Nat.zero_add, Nat.reduceAdd, beq_self_eq_true, Bool.and_true, Bool.true_and, if_true, Bool.false_eq_true, if_false, List.set_cons_zero, List.set_cons_succ, Bool.not_true, Bool.not_false, Bool.and_self]
theorem mark_version (n z s : Int) {m : List AV} (hm : Rw (T193 1048576) 1048576 m) : dno E 44 [(.agg [(.i .i64 n), (.i .i64 z), (.i .i64 s), (.sl 0 [] none)]), (.i .i64 1)] [(.live true false false 148 m)] = some (.i .i64 (1 + 10 * ((m.length : Nat) : Int)), [.live true false false 148 (mkL m.length fun i => mk (1 + 10 * (i : Int)))]) := by
  rw [f44o1_eq, mark_tabs hm 1 (by omega) (by omega)]
  simp only [bOwn_some, bOwnF_some, bOwnS_some, bOwnFS_some, okRs_nil, okRs_cons, okR_row, okR_same, okR_var, okR_gone, okS_so, okS_pr, okLens_nil, okLens_same, okLens_row, okLens_var, row_live, flatR_live, flatL_nil, flatL_cons, flat_i, flat_b, flat_s, flat_sl, flat_agg, flat_tup, List.all_cons, List.all_nil, List.length_cons, List.length_nil, Nat.reduceLeDiff, Nat.le_refl, decide_true, Bool.and_self, mkL_length, List.headD_cons, okC_nil, okC_agg, okC_i, okC_b, okC_s, okC_imm, okL_i, okL_b, okL_s, okL_sl, okS_i, okS_b, okS_s, okS_sl, okS_agg, okS_tup, okS_nil, okS_cons, cells_agg, cells_i, cells_b, cells_s, cells_imm, toI_i, toB_b, toS_s, toL_imm, nth_agg, nth_tup, put_agg, put_i, put_b, put_s, put_imm, setCells, List.getD_cons_zero, List.getD_cons_succ, bSh_b, bSh_i, bSh_s, bSh_sl, bSh_some, cond_true, cond_false, decide_true, decide_false, Int.toNat_natCast, Nat.zero_add, Nat.reduceAdd, beq_self_eq_true, Bool.and_true, Bool.true_and, if_true, Bool.false_eq_true, if_false, List.set_cons_zero, List.set_cons_succ, Bool.not_true, Bool.not_false, Bool.and_self]

/-- What both answer. -/
theorem tabs_in (n z s q : Int) {m : List AV} (hm : Rw (T193 1048576) 1048576 m) : ∃ (w r : List AV), Rw (T193 1048576) 1048576 w ∧ w.length ≤ r.length ∧ r.length ≤ 1048576 ∧ (∀ i, i < r.length → T193 1048576 (r.getD i .x)) ∧ r.take w.length = w ∧
    dno E 39 [(.agg [(.i .i64 n), (.i .i64 z), (.i .i64 s), (.imm 10 m)]), (.i .i64 q)] [] = some (.sl 0 [] none, [.live true false false 148 w]) ∧
    dno E 41 [(.agg [(.i .i64 n), (.i .i64 z), (.i .i64 s), (.imm 10 m)]), (.i .i64 q)] [] = some (.sl 0 [] (some (0, w.length)), [.live true false false 148 r]) := by
  have hml := hm.1
  rw [f39o1_eq, f41o1_eq, spec_ok n z s m hm, impl_ok n z s m hm]
  simp only [okC_nil, okC_agg, okC_i, okC_b, okC_s, okC_imm, okL_i, okL_b, okL_s, okL_sl, okS_i, okS_b, okS_s, okS_sl, okS_agg, okS_tup, okS_nil, okS_cons, cells_agg, cells_i, cells_b, cells_s, cells_imm, toI_i, toB_b, toS_s, toL_imm, nth_agg, nth_tup, put_agg, put_i, put_b, put_s, put_imm, setCells, List.getD_cons_zero, List.getD_cons_succ, bSh_b, bSh_i, bSh_s, bSh_sl, bSh_some, cond_true, cond_false, decide_true, decide_false, Int.toNat_natCast, Nat.zero_add, Nat.reduceAdd, beq_self_eq_true, Bool.and_true, Bool.true_and, if_true, Bool.false_eq_true, if_false, List.set_cons_zero, List.set_cons_succ, Bool.not_true, Bool.not_false, Bool.and_self]
  cases okVersion n z s m
  · exact ⟨[], [], ⟨by simp, fun y hy => by cases hy⟩, by simp, by simp, fun i hi => absurd hi (by simp), rfl, rfl, rfl⟩
  · have hw : Rw (T193 1048576) 1048576 (m.filter (inZone q)) := ⟨Nat.le_trans (List.length_filter_le _ _) hm.1, fun y hy => hm.2 y (List.mem_filter.1 hy).1⟩
    obtain ⟨r, h1, h2, h3, h4, h5⟩ := impl_in n z s q m hm
    refine ⟨m.filter (inZone q), r, hw, by rw [h3]; exact List.length_filter_le _ _, by rw [h3]; exact hml, h5, h4, ?_, ?_⟩
    · simp only [Bool.not_true, cond_false, spec_tables n z s q m hm, tr_flat hw, bOwn_some, bOwnF_some, bOwnS_some, bOwnFS_some, okRs_nil, okRs_cons, okR_row, okR_same, okR_var, okR_gone, okS_so, okS_pr, okLens_nil, okLens_same, okLens_row, okLens_var, row_live, flatR_live, flatL_nil, flatL_cons, flat_i, flat_b, flat_s, flat_sl, flat_agg, flat_tup, List.all_cons, List.all_nil, List.length_cons, List.length_nil, Nat.reduceLeDiff, Nat.le_refl, decide_true, Bool.and_self, mkL_length, List.headD_cons, okC_nil, okC_agg, okC_i, okC_b, okC_s, okC_imm, okL_i, okL_b, okL_s, okL_sl, okS_i, okS_b, okS_s, okS_sl, okS_agg, okS_tup, okS_nil, okS_cons, cells_agg, cells_i, cells_b, cells_s, cells_imm, toI_i, toB_b, toS_s, toL_imm, nth_agg, nth_tup, put_agg, put_i, put_b, put_s, put_imm, setCells, List.getD_cons_zero, List.getD_cons_succ, bSh_b, bSh_i, bSh_s, bSh_sl, bSh_some, cond_true, cond_false, decide_true, decide_false, Int.toNat_natCast, Nat.zero_add, Nat.reduceAdd, beq_self_eq_true, Bool.and_true, Bool.true_and, if_true, Bool.false_eq_true, if_false, List.set_cons_zero, List.set_cons_succ, Bool.not_true, Bool.not_false, Bool.and_self]
    · simp only [Bool.not_true, cond_false, h1, AV.off, AV.cnt, bOwn_some, bOwnF_some, bOwnS_some, bOwnFS_some, okRs_nil, okRs_cons, okR_row, okR_same, okR_var, okR_gone, okS_so, okS_pr, okLens_nil, okLens_same, okLens_row, okLens_var, row_live, flatR_live, flatL_nil, flatL_cons, flat_i, flat_b, flat_s, flat_sl, flat_agg, flat_tup, List.all_cons, List.all_nil, List.length_cons, List.length_nil, Nat.reduceLeDiff, Nat.le_refl, decide_true, Bool.and_self, mkL_length, List.headD_cons, okC_nil, okC_agg, okC_i, okC_b, okC_s, okC_imm, okL_i, okL_b, okL_s, okL_sl, okS_i, okS_b, okS_s, okS_sl, okS_agg, okS_tup, okS_nil, okS_cons, cells_agg, cells_i, cells_b, cells_s, cells_imm, toI_i, toB_b, toS_s, toL_imm, nth_agg, nth_tup, put_agg, put_i, put_b, put_s, put_imm, setCells, List.getD_cons_zero, List.getD_cons_succ, bSh_b, bSh_i, bSh_s, bSh_sl, bSh_some, cond_true, cond_false, decide_true, decide_false, Int.toNat_natCast, Nat.zero_add, Nat.reduceAdd, beq_self_eq_true, Bool.and_true, Bool.true_and, if_true, Bool.false_eq_true, if_false, List.set_cons_zero, List.set_cons_succ, Bool.not_true, Bool.not_false, Bool.and_self]

theorem pure (el : AV) (h : T60 9223372036854775807 el) (q : Int) (_ : W64 q) : den E 8 [el, (.i .i64 q)] [] = some (.b true) := by
  obtain ⟨r, hr, hq⟩ := sz38 h 1048576 (by omega) (by omega)
  obtain ⟨n, z, s, m, rfl, w0, w1, w2, w3, _⟩ := h
  rw [f8_eq, hr]
  simp only [bSh_i, toI_i]
  rcases hq with hq | ⟨h0, h1, hT⟩
  · simp only [hq, decide_true, cond_true]
  have hn : ¬ r < 0 := by omega
  simp only [hn, decide_false, cond_false]
  have q0 := eq43 hT
  obtain ⟨b0, b1, b2, b3, hb, v0, v1, v2, v3, _⟩ := hT
  cases hb
  obtain ⟨w, r, u0, u1, u2, u3, u4, hs, hi⟩ := tabs_in n z s q v3
  have e0 := own_version n z s v3
  have q1 := eq42 u0
  have m0 := mark_version n z s v3
  obtain ⟨r', m1, l1, l2⟩ := mark_win u3 u2 w.length u1 1 (by omega) (by omega)
  have g1 := held_tabs w.length u0.1 1 (by omega) (by omega)
  have k0 : ¬ 1 + 10 * ((m.length : Nat) : Int) < 0 := by omega
  have k1 : ¬ 1 + 10 * ((w.length : Nat) : Int) < 0 := by omega
  have f0 := tr_flat u0
  have f1 : flatVL r = true := flatVL_of fun y hy => by
    obtain ⟨i, hi, rfl⟩ := List.getElem_of_mem hy
    have := u3 i hi
    rw [List.getD_eq_getElem?_getD, List.getElem?_eq_getElem hi] at this
    obtain ⟨a0, a1, a2, a3, a4, a5, a6, a7, a8, a9, he, _⟩ := this
    have he' : r[i] = _ := he
    rw [he']; rfl
  simp only [e0, hs, hi, q0, q1, m0, m1, g1, k0, k1, f0, f1, u4, l1, l2, AV.off, AV.cnt, List.drop_zero, bOwn_some, bOwnF_some, bOwnS_some, bOwnFS_some, okRs_nil, okRs_cons, okR_row, okR_same, okR_var, okR_gone, okS_so, okS_pr, okLens_nil, okLens_same, okLens_row, okLens_var, row_live, flatR_live, flatL_nil, flatL_cons, flat_i, flat_b, flat_s, flat_sl, flat_agg, flat_tup, List.all_cons, List.all_nil, List.length_cons, List.length_nil, Nat.reduceLeDiff, Nat.le_refl, decide_true, Bool.and_self, mkL_length, List.headD_cons, okC_nil, okC_agg, okC_i, okC_b, okC_s, okC_imm, okL_i, okL_b, okL_s, okL_sl, okS_i, okS_b, okS_s, okS_sl, okS_agg, okS_tup, okS_nil, okS_cons, cells_agg, cells_i, cells_b, cells_s, cells_imm, toI_i, toB_b, toS_s, toL_imm, nth_agg, nth_tup, put_agg, put_i, put_b, put_s, put_imm, setCells, List.getD_cons_zero, List.getD_cons_succ, bSh_b, bSh_i, bSh_s, bSh_sl, bSh_some, cond_true, cond_false, decide_true, decide_false, Int.toNat_natCast, Nat.zero_add, Nat.reduceAdd, beq_self_eq_true, Bool.and_true, Bool.true_and, if_true, Bool.false_eq_true, if_false, List.set_cons_zero, List.set_cons_succ, Bool.not_true, Bool.not_false, Bool.and_self]
end Go.Proofs.Ytcjfeglalmlkbaa.ITablesIn
