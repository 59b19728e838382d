/- PotentialOf: the program's answer is the reference's, for every version. No condition beyond what each theorem states. -/
import Derived.Test.YthlmjmejnlalaaaIPotentialOff
namespace Go.Proofs.Ythlmjmejnlalaaa.IPotentialOf
open Go Go.Proofs.YthlmjmejnlalaaaIT
set_option linter.unusedSimpArgs false

theorem in90 (a lo hi : Int) : den E 90 [(.i .i64 a), (.i .i64 lo), (.i .i64 hi)] [] = some (.b (decide (lo ≤ a) && decide (a ≤ hi))) := by
  rw [f90_eq, beq_true, cond_andb]
theorem in72 (a lo hi : Int) : den E 72 [(.i .i64 a), (.i .i64 lo), (.i .i64 hi)] [] = some (.b (decide (lo ≤ a) && decide (a ≤ hi))) := by
  rw [f72_eq, beq_true, cond_andb]


theorem tab {B : Nat} {el : AV} (h : T176 B el) : ∃ b, den E 142 [(.ip el 0)] [] = some (.b b) ∧ den E 81 [el] [] = some (.b b) := by
  obtain ⟨a0, a1, a2, a3, a4, a5, a6, a7, a8, a9, rfl, _⟩ := h
  rw [f142_eq, f81_eq]
  simp only [in90, in72, okC_nil, okC_agg, okC_i, okC_b, okC_s, okC_imm, okL_i, okL_b, okL_s, okL_sl, okS_i, okS_b, okS_s, okS_sl, okS_agg, okS_tup, okS_nil, okS_cons, cells_agg, cells_i, cells_b, cells_s, cells_imm, toI_i, toB_b, toS_s, toL_imm, nth_agg, nth_tup, put_agg, put_i, put_b, put_s, put_imm, setCells, List.getD_cons_zero, List.getD_cons_succ, bSh_b, bSh_i, bSh_s, bSh_sl, bSh_some, cond_true, cond_false, decide_true, decide_false, Int.toNat_natCast, Nat.zero_add, Nat.reduceAdd, beq_self_eq_true, Bool.and_true, Bool.true_and, if_true, Bool.false_eq_true, if_false, List.set_cons_zero, List.set_cons_succ, Bool.not_true, Bool.not_false, Bool.and_self]
  simp only [beq_true, beq_false, cond_andb, cond_notb, Bool.not_not, if_true, not_lt_b]
  exact ⟨_, rfl, rfl⟩
noncomputable def tb (el : AV) : Bool := match den E 81 [el] [] with
  | some (.b b) => b
  | _ => false
theorem tb_impl {B : Nat} {el : AV} (h : T176 B el) : den E 81 [el] [] = some (.b (tb el)) := by
  obtain ⟨b, _, h2⟩ := tab h
  unfold tb; rw [h2]
theorem tb_spec {B : Nat} {el : AV} (h : T176 B el) : den E 142 [(.ip el 0)] [] = some (.b (tb el)) := by
  obtain ⟨b, h1, h2⟩ := tab h
  unfold tb; rw [h2]; exact h1
theorem tb_level {B : Nat} {el : AV} (h : T176 B el) (ht : tb el = true) : 0 ≤ (el.cells.getD 1 .x).toI := by
  have h2 := tb_impl h
  rw [ht] at h2
  obtain ⟨a0, a1, a2, a3, a4, a5, a6, a7, a8, a9, rfl, _⟩ := h
  rw [f81_eq] at h2
  simp only [in72, okC_nil, okC_agg, okC_i, okC_b, okC_s, okC_imm, okL_i, okL_b, okL_s, okL_sl, okS_i, okS_b, okS_s, okS_sl, okS_agg, okS_tup, okS_nil, okS_cons, cells_agg, cells_i, cells_b, cells_s, cells_imm, toI_i, toB_b, toS_s, toL_imm, nth_agg, nth_tup, put_agg, put_i, put_b, put_s, put_imm, setCells, List.getD_cons_zero, List.getD_cons_succ, bSh_b, bSh_i, bSh_s, bSh_sl, bSh_some, cond_true, cond_false, decide_true, decide_false, Int.toNat_natCast, Nat.zero_add, Nat.reduceAdd, beq_self_eq_true, Bool.and_true, Bool.true_and, if_true, Bool.false_eq_true, if_false, List.set_cons_zero, List.set_cons_succ, Bool.not_true, Bool.not_false, Bool.and_self, beq_true, cond_andb, Option.some.injEq, AV.b.injEq, Bool.and_eq_true, decide_eq_true_eq] at h2
  simp only [okC_nil, okC_agg, okC_i, okC_b, okC_s, okC_imm, okL_i, okL_b, okL_s, okL_sl, okS_i, okS_b, okS_s, okS_sl, okS_agg, okS_tup, okS_nil, okS_cons, cells_agg, cells_i, cells_b, cells_s, cells_imm, toI_i, toB_b, toS_s, toL_imm, nth_agg, nth_tup, put_agg, put_i, put_b, put_s, put_imm, setCells, List.getD_cons_zero, List.getD_cons_succ, bSh_b, bSh_i, bSh_s, bSh_sl, bSh_some, cond_true, cond_false, decide_true, decide_false, Int.toNat_natCast, Nat.zero_add, Nat.reduceAdd, beq_self_eq_true, Bool.and_true, Bool.true_and, if_true, Bool.false_eq_true, if_false, List.set_cons_zero, List.set_cons_succ, Bool.not_true, Bool.not_false, Bool.and_self]
  exact h2.2.1.1


theorem cb_lt : ∀ x y : List UInt8, (Lib.compareBytes x y < 0 ↔ Op.bytesLess x y = true)
  | [], [] => by simp [Lib.compareBytes, Op.bytesLess]
  | [], _ :: _ => by simp [Lib.compareBytes, Op.bytesLess]
  | _ :: _, [] => by simp [Lib.compareBytes, Op.bytesLess]
  | a :: x, b :: y => by
    have ih := cb_lt x y
    simp only [Lib.compareBytes, Op.bytesLess]
    by_cases h1 : a < b
    · simp [h1]
    · by_cases h2 : b < a
      · have h3 : ¬ a = b := by rintro rfl; exact absurd h2 h1
        simp [h1, h2, h3]
      · have h3 : a = b := by
          apply UInt8.toNat_inj.1
          have p1 : ¬ a.toNat < b.toNat := fun h => h1 (UInt8.lt_iff_toNat_lt.2 h)
          have p2 : ¬ b.toNat < a.toNat := fun h => h2 (UInt8.lt_iff_toNat_lt.2 h)
          omega
        simp [h1, h2, h3, ih]
theorem cmpB_lt (a b : ByteArray) : cmpB a b < 0 ↔ lessS a b = true := by
  unfold cmpB lessS
  rw [Lib.toList_data, Lib.toList_data]
  exact cb_lt _ _
theorem cmp_int (a b : Int) : den E 197 [(.i .i64 a), (.i .i64 b)] [] = some (.i .i64 (if a < b then -1 else if b < a then 1 else 0)) := by
  rw [f197_eq, f211_eq, f211_eq]
  simp only [okC_nil, okC_agg, okC_i, okC_b, okC_s, okC_imm, okL_i, okL_b, okL_s, okL_sl, okS_i, okS_b, okS_s, okS_sl, okS_agg, okS_tup, okS_nil, okS_cons, cells_agg, cells_i, cells_b, cells_s, cells_imm, toI_i, toB_b, toS_s, toL_imm, nth_agg, nth_tup, put_agg, put_i, put_b, put_s, put_imm, setCells, List.getD_cons_zero, List.getD_cons_succ, bSh_b, bSh_i, bSh_s, bSh_sl, bSh_some, cond_true, cond_false, decide_true, decide_false, Int.toNat_natCast, Nat.zero_add, Nat.reduceAdd, beq_self_eq_true, Bool.and_true, Bool.true_and, if_true, Bool.false_eq_true, if_false, List.set_cons_zero, List.set_cons_succ, Bool.not_true, Bool.not_false, Bool.and_self]
  by_cases h : a < b
  · simp [h]
  · by_cases h2 : b < a
    · simp [h, h2]
    · simp [h, h2]
theorem cmp_or2 (p q : Int) : den E 198 [(.imm 1 [(.i .i64 p), (.i .i64 q)])] [] = some (.i .i64 (if p = 0 then q else p)) := by
  have e0 : f198_l1 0 [(.i .i64 p), (.i .i64 q)] 2 2 = some (.i .i64 0) := by rw [f198_l1_eq]; rfl
  have w1 : IntKind.i64.wrap 1 = 1 := by decide
  have w2 : IntKind.i64.wrap 2 = 2 := by decide
  rw [f198_eq]
  show f198_l1 0 [(.i .i64 p), (.i .i64 q)] 2 0 = _
  rw [f198_l1_eq]
  simp [okC_nil, okC_agg, okC_i, okC_b, okC_s, okC_imm, okL_i, okL_b, okL_s, okL_sl, okS_i, okS_b, okS_s, okS_sl, okS_agg, okS_tup, okS_nil, okS_cons, cells_agg, cells_i, cells_b, cells_s, cells_imm, toI_i, toB_b, toS_s, toL_imm, nth_agg, nth_tup, put_agg, put_i, put_b, put_s, put_imm, setCells, List.getD_cons_zero, List.getD_cons_succ, bSh_b, bSh_i, bSh_s, bSh_sl, bSh_some, cond_true, cond_false, decide_true, decide_false, Int.toNat_natCast, Nat.zero_add, Nat.reduceAdd, beq_self_eq_true, Bool.and_true, Bool.true_and, if_true, Bool.false_eq_true, if_false, List.set_cons_zero, List.set_cons_succ, Bool.not_true, Bool.not_false, Bool.and_self, w1]
  by_cases h : p = 0
  · simp only [h, if_true]
    rw [f198_l1_eq]
    simp [okC_nil, okC_agg, okC_i, okC_b, okC_s, okC_imm, okL_i, okL_b, okL_s, okL_sl, okS_i, okS_b, okS_s, okS_sl, okS_agg, okS_tup, okS_nil, okS_cons, cells_agg, cells_i, cells_b, cells_s, cells_imm, toI_i, toB_b, toS_s, toL_imm, nth_agg, nth_tup, put_agg, put_i, put_b, put_s, put_imm, setCells, List.getD_cons_zero, List.getD_cons_succ, bSh_b, bSh_i, bSh_s, bSh_sl, bSh_some, cond_true, cond_false, decide_true, decide_false, Int.toNat_natCast, Nat.zero_add, Nat.reduceAdd, beq_self_eq_true, Bool.and_true, Bool.true_and, if_true, Bool.false_eq_true, if_false, List.set_cons_zero, List.set_cons_succ, Bool.not_true, Bool.not_false, Bool.and_self, w2, e0]
    by_cases h2 : q = 0
    · subst h h2; simp [e0]
    · simp [h2]
  · simp [h]


/-- Each table comes before the next. -/
def bef (p t : AV) : Bool :=
  cond (decide ((p.cells.getD 1 .x).toI = (t.cells.getD 1 .x).toI))
    (cond (decide ((p.cells.getD 1 .x).toI = 0)) (decide ((t.cells.getD 0 .x).toI < (p.cells.getD 0 .x).toI))
      (lessS (p.cells.getD 5 .x).toS (t.cells.getD 5 .x).toS && (lessS (p.cells.getD 6 .x).toS (t.cells.getD 5 .x).toS || decide ((p.cells.getD 6 .x).toS = (t.cells.getD 5 .x).toS))))
    (decide ((p.cells.getD 1 .x).toI < (t.cells.getD 1 .x).toI))
theorem bef_spec {B : Nat} {p t : AV} (hp : T176 B p) (ht : T176 B t) : den E 157 [(.ip p 0), (.ip t 0)] [] = some (.b (bef p t)) := by
  rw [f157_eq]
  simp only [hp.ok0, hp.ok1, hp.ok5, hp.ok6, ht.ok0, ht.ok1, ht.ok5, if_true, bef]
  by_cases h : (p.cells.getD 1 .x).toI = (t.cells.getD 1 .x).toI
  · simp only [h, decide_true, Bool.not_true, cond_false, cond_true]
    by_cases h2 : (t.cells.getD 1 .x).toI = 0
    · simp only [h2, decide_true, cond_true]
    · simp only [h2, decide_false, cond_false, beq_true, cond_andb]
  · simp only [h, decide_false, Bool.not_false, cond_false, cond_true]
/-- The program's comparison of two tables. -/
noncomputable def cmpT (p t : AV) : Int := if (p.cells.getD 1 .x).toI = (t.cells.getD 1 .x).toI ∧ (p.cells.getD 1 .x).toI = 0 then (if (t.cells.getD 0 .x).toI < (p.cells.getD 0 .x).toI then -1 else if (p.cells.getD 0 .x).toI < (t.cells.getD 0 .x).toI then 1 else 0)
  else (if (if (p.cells.getD 1 .x).toI < (t.cells.getD 1 .x).toI then (-1 : Int) else if (t.cells.getD 1 .x).toI < (p.cells.getD 1 .x).toI then 1 else 0) = 0 then cmpB (p.cells.getD 5 .x).toS (t.cells.getD 5 .x).toS else (if (p.cells.getD 1 .x).toI < (t.cells.getD 1 .x).toI then (-1 : Int) else if (t.cells.getD 1 .x).toI < (p.cells.getD 1 .x).toI then 1 else 0))
theorem cmpT_impl {B : Nat} {p t : AV} (hp : T176 B p) (ht : T176 B t) : den E 160 [p, t] [] = some (.i .i64 (cmpT p t)) := by
  obtain ⟨a0, a1, a2, a3, a4, a5, a6, a7, a8, a9, rfl, _⟩ := hp
  obtain ⟨b0, b1, b2, b3, b4, b5, b6, b7, b8, b9, rfl, _⟩ := ht
  rw [f160_eq]
  simp only [f160_j1_eq, cmp_int, f199_eq, f212_eq, cmp_or2, cmpT, okC_nil, okC_agg, okC_i, okC_b, okC_s, okC_imm, okL_i, okL_b, okL_s, okL_sl, okS_i, okS_b, okS_s, okS_sl, okS_agg, okS_tup, okS_nil, okS_cons, cells_agg, cells_i, cells_b, cells_s, cells_imm, toI_i, toB_b, toS_s, toL_imm, nth_agg, nth_tup, put_agg, put_i, put_b, put_s, put_imm, setCells, List.getD_cons_zero, List.getD_cons_succ, bSh_b, bSh_i, bSh_s, bSh_sl, bSh_some, cond_true, cond_false, decide_true, decide_false, Int.toNat_natCast, Nat.zero_add, Nat.reduceAdd, beq_self_eq_true, Bool.and_true, Bool.true_and, if_true, Bool.false_eq_true, if_false, List.set_cons_zero, List.set_cons_succ, Bool.not_true, Bool.not_false, Bool.and_self, beq_true]
  by_cases h : a1 = b1
  · by_cases h2 : a1 = 0
    · simp only [h, decide_true, cond_true, h2, and_self, if_true]
      simp only [← h, h2, decide_true, cond_true, and_self, if_true]
    · simp only [h2, decide_false, cond_false, and_false, if_false]
      cases decide (a1 = b1) <;> rfl
  · simp only [h, decide_false, cond_false, false_and, if_false]
    rfl
theorem bef_cmp {p t : AV} (h : 0 ≤ (t.cells.getD 1 .x).toI) : bef p t = (decide (cmpT p t < 0) && !(decide (0 < (t.cells.getD 1 .x).toI) && (decide ((p.cells.getD 1 .x).toI = (t.cells.getD 1 .x).toI) && !(lessS (p.cells.getD 6 .x).toS (t.cells.getD 5 .x).toS || decide ((p.cells.getD 6 .x).toS = (t.cells.getD 5 .x).toS))))) := by
  unfold bef cmpT
  generalize (p.cells.getD 1 .x).toI = lp at *
  generalize (t.cells.getD 1 .x).toI = lt at *
  generalize (p.cells.getD 0 .x).toI = ip at *
  generalize (t.cells.getD 0 .x).toI = it at *
  generalize (lessS (p.cells.getD 6 .x).toS (t.cells.getD 5 .x).toS || decide ((p.cells.getD 6 .x).toS = (t.cells.getD 5 .x).toS)) = hl
  have hc := cmpB_lt (p.cells.getD 5 .x).toS (t.cells.getD 5 .x).toS
  generalize lessS (p.cells.getD 5 .x).toS (t.cells.getD 5 .x).toS = lo at *
  generalize cmpB (p.cells.getD 5 .x).toS (t.cells.getD 5 .x).toS = c at *
  by_cases h1 : lp = lt
  · subst h1
    by_cases h2 : lp = 0
    · subst h2
      by_cases h3 : it < ip
      · simp [h3]
      · by_cases h4 : ip < it <;> simp [h3, h4]
    · have h3 : 0 < lp := by omega
      simp only [h2, and_false, if_false, Int.lt_irrefl, if_true, decide_true, decide_false, cond_true, cond_false, h3, Bool.true_and]
      cases lo <;> cases hl <;> simp_all
  · by_cases h3 : lp < lt
    · simp [h1, h3]
    · have h4 : lt < lp := by omega
      simp [h1, h3, h4]


/-- What is asked of the i-th table of a version. -/
noncomputable def okAt (n s : Int) (m : List AV) (i : Nat) : Bool :=
  tb (m.getD i .x) && ((decide (((m.getD i .x).cells.getD 0 .x).toI < n) && decide (((m.getD i .x).cells.getD 8 .x).toI ≤ s)) && ((decide (i = 0) || bef (m.getD (i - 1) .x) (m.getD i .x)) && (List.range' 0 i).all fun j => !decide (((m.getD j .x).cells.getD 0 .x).toI = ((m.getD i .x).cells.getD 0 .x).toI)))

theorem spec_l3 (n z s : Int) (m : List AV) (hm : Rw (T176 1048576) 1048576 m) (i : Nat) (hi : i < m.length) (X : Option AV)
    (hX : f104_l1 (.agg [(.i .i64 n), (.i .i64 z), (.i .i64 s), (.imm 10 m)]) ((i : Int) + 1) = X) :
    f104_l3 (.agg [(.i .i64 n), (.i .i64 z), (.i .i64 s), (.imm 10 m)]) i (m.getD i .x) 0 = cond ((List.range' 0 i).all fun j => !decide (((m.getD j .x).cells.getD 0 .x).toI = ((m.getD i .x).cells.getD 0 .x).toI)) X (some (.b false)) := by
  have hml := hm.1
  have hT := hm.at hi
  refine all_loop (L := fun j => f104_l3 (.agg [(.i .i64 n), (.i .i64 z), (.i .i64 s), (.imm 10 m)]) i (m.getD i .x) j) (n := i) (fun j hj => ?_) ?_ i 0 (by omega)
  · have hT1 := hm.at (i := j) (by omega)
    try dsimp only
    rw [f104_l3_eq, dT (show (j : Int) < (i : Int) by omega), cond_true]
    simp only [okC_nil, okC_agg, okC_i, okC_b, okC_s, okC_imm, okL_i, okL_b, okL_s, okL_sl, okS_i, okS_b, okS_s, okS_sl, okS_agg, okS_tup, okS_nil, okS_cons, cells_agg, cells_i, cells_b, cells_s, cells_imm, toI_i, toB_b, toS_s, toL_imm, nth_agg, nth_tup, put_agg, put_i, put_b, put_s, put_imm, setCells, List.getD_cons_zero, List.getD_cons_succ, bSh_b, bSh_i, bSh_s, bSh_sl, bSh_some, cond_true, cond_false, decide_true, decide_false, Int.toNat_natCast, Nat.zero_add, Nat.reduceAdd, beq_self_eq_true, Bool.and_true, Bool.true_and, if_true, Bool.false_eq_true, if_false, List.set_cons_zero, List.set_cons_succ, Bool.not_true, Bool.not_false, Bool.and_self]
    rw [if_pos (by omega), w64 (x := (j : Int) + 1) (by omega) (by omega)]
    simp only [hT.ok0, hT1.ok0, okC_nil, okC_agg, okC_i, okC_b, okC_s, okC_imm, okL_i, okL_b, okL_s, okL_sl, okS_i, okS_b, okS_s, okS_sl, okS_agg, okS_tup, okS_nil, okS_cons, cells_agg, cells_i, cells_b, cells_s, cells_imm, toI_i, toB_b, toS_s, toL_imm, nth_agg, nth_tup, put_agg, put_i, put_b, put_s, put_imm, setCells, List.getD_cons_zero, List.getD_cons_succ, bSh_b, bSh_i, bSh_s, bSh_sl, bSh_some, cond_true, cond_false, decide_true, decide_false, Int.toNat_natCast, Nat.zero_add, Nat.reduceAdd, beq_self_eq_true, Bool.and_true, Bool.true_and, if_true, Bool.false_eq_true, if_false, List.set_cons_zero, List.set_cons_succ, Bool.not_true, Bool.not_false, Bool.and_self]
    cases decide (((m.getD j .x).cells.getD 0 .x).toI = ((m.getD i .x).cells.getD 0 .x).toI) <;> rfl
  · try dsimp only
    rw [f104_l3_eq, dF (Int.lt_irrefl _), cond_false, w64 (x := (i : Int) + 1) (by omega) (by omega)]
    exact hX

theorem spec_l1 (n z s : Int) (m : List AV) (hm : Rw (T176 1048576) 1048576 m) :
    f104_l1 (.agg [(.i .i64 n), (.i .i64 z), (.i .i64 s), (.imm 10 m)]) 0 = some (.b ((List.range' 0 m.length).all fun i => okAt n s m i)) := by
  have hml := hm.1
  have := all_loop (L := fun i => f104_l1 (.agg [(.i .i64 n), (.i .i64 z), (.i .i64 s), (.imm 10 m)]) i) (n := m.length) (p := fun i => okAt n s m i) (X := some (.b true)) (F := some (.b false)) (fun i hi => ?_) ?_ m.length 0 (by omega)
  · refine this.trans ?_
    rw [cond_andb, Bool.and_true]
  · have hT := hm.at hi
    have h3 := spec_l3 n z s m hm i hi _ rfl
    try dsimp only
    rw [f104_l1_eq]
    simp only [okC_nil, okC_agg, okC_i, okC_b, okC_s, okC_imm, okL_i, okL_b, okL_s, okL_sl, okS_i, okS_b, okS_s, okS_sl, okS_agg, okS_tup, okS_nil, okS_cons, cells_agg, cells_i, cells_b, cells_s, cells_imm, toI_i, toB_b, toS_s, toL_imm, nth_agg, nth_tup, put_agg, put_i, put_b, put_s, put_imm, setCells, List.getD_cons_zero, List.getD_cons_succ, bSh_b, bSh_i, bSh_s, bSh_sl, bSh_some, cond_true, cond_false, decide_true, decide_false, Int.toNat_natCast, Nat.zero_add, Nat.reduceAdd, beq_self_eq_true, Bool.and_true, Bool.true_and, if_true, Bool.false_eq_true, if_false, List.set_cons_zero, List.set_cons_succ, Bool.not_true, Bool.not_false, Bool.and_self, f104_j2_eq]
    rw [dT (show (i : Int) < ((m.length : Nat) : Int) by omega), cond_true, if_pos (by omega)]
    simp only [Int.toNat_natCast, tb_spec hT, hT.ok0, hT.ok8, h3, okC_nil, okC_agg, okC_i, okC_b, okC_s, okC_imm, okL_i, okL_b, okL_s, okL_sl, okS_i, okS_b, okS_s, okS_sl, okS_agg, okS_tup, okS_nil, okS_cons, cells_agg, cells_i, cells_b, cells_s, cells_imm, toI_i, toB_b, toS_s, toL_imm, nth_agg, nth_tup, put_agg, put_i, put_b, put_s, put_imm, setCells, List.getD_cons_zero, List.getD_cons_succ, bSh_b, bSh_i, bSh_s, bSh_sl, bSh_some, cond_true, cond_false, decide_true, decide_false, Int.toNat_natCast, Nat.zero_add, Nat.reduceAdd, beq_self_eq_true, Bool.and_true, Bool.true_and, if_true, Bool.false_eq_true, if_false, List.set_cons_zero, List.set_cons_succ, Bool.not_true, Bool.not_false, Bool.and_self]
    unfold okAt
    cases tb (m.getD i .x)
    · rfl
    simp only [Bool.not_true, beq_self_eq_true, cond_true, Bool.true_and]
    by_cases h1 : n ≤ ((m.getD i .x).cells.getD 0 .x).toI
    · have h1' : ¬ ((m.getD i .x).cells.getD 0 .x).toI < n := by omega
      simp only [h1, h1', decide_true, decide_false, Bool.false_and, cond_false]
      rfl
    have h1' : ((m.getD i .x).cells.getD 0 .x).toI < n := by omega
    simp only [h1, h1', decide_true, decide_false, Bool.true_and, beq_self_eq_true, cond_true]
    by_cases h2 : s < ((m.getD i .x).cells.getD 8 .x).toI
    · have h2' : ¬ ((m.getD i .x).cells.getD 8 .x).toI ≤ s := by omega
      simp only [h2, h2', decide_true, decide_false, Bool.false_and, cond_false]
      rfl
    have h2' : ((m.getD i .x).cells.getD 8 .x).toI ≤ s := by omega
    simp only [h2, h2', decide_true, decide_false, Bool.true_and, beq_self_eq_true, cond_true]
    by_cases h0 : i = 0
    · subst h0
      simp
    · have hT1 := hm.at (i := i - 1) (by omega)
      rw [w64 (x := (i : Int) - 1) (by omega) (by omega), show ((i : Int) - 1).toNat = i - 1 by omega, bef_spec hT1 hT]
      rw [dT (show (0 : Int) < (i : Int) by omega), if_pos (by omega)]
      simp only [h0, decide_false, Bool.false_or, okC_nil, okC_agg, okC_i, okC_b, okC_s, okC_imm, okL_i, okL_b, okL_s, okL_sl, okS_i, okS_b, okS_s, okS_sl, okS_agg, okS_tup, okS_nil, okS_cons, cells_agg, cells_i, cells_b, cells_s, cells_imm, toI_i, toB_b, toS_s, toL_imm, nth_agg, nth_tup, put_agg, put_i, put_b, put_s, put_imm, setCells, List.getD_cons_zero, List.getD_cons_succ, bSh_b, bSh_i, bSh_s, bSh_sl, bSh_some, cond_true, cond_false, decide_true, decide_false, Int.toNat_natCast, Nat.zero_add, Nat.reduceAdd, beq_self_eq_true, Bool.and_true, Bool.true_and, if_true, Bool.false_eq_true, if_false, List.set_cons_zero, List.set_cons_succ, Bool.not_true, Bool.not_false, Bool.and_self]
      cases bef (m.getD (i - 1) .x) (m.getD i .x) <;> rfl
  · try dsimp only
    rw [f104_l1_eq]
    simp only [okC_nil, okC_agg, okC_i, okC_b, okC_s, okC_imm, okL_i, okL_b, okL_s, okL_sl, okS_i, okS_b, okS_s, okS_sl, okS_agg, okS_tup, okS_nil, okS_cons, cells_agg, cells_i, cells_b, cells_s, cells_imm, toI_i, toB_b, toS_s, toL_imm, nth_agg, nth_tup, put_agg, put_i, put_b, put_s, put_imm, setCells, List.getD_cons_zero, List.getD_cons_succ, bSh_b, bSh_i, bSh_s, bSh_sl, bSh_some, cond_true, cond_false, decide_true, decide_false, Int.toNat_natCast, Nat.zero_add, Nat.reduceAdd, beq_self_eq_true, Bool.and_true, Bool.true_and, if_true, Bool.false_eq_true, if_false, List.set_cons_zero, List.set_cons_succ, Bool.not_true, Bool.not_false, Bool.and_self]
    rw [dF (Int.lt_irrefl _), cond_false]

noncomputable def okVersion (n z s : Int) (m : List AV) : Bool := (decide (1 ≤ n) && decide (n ≤ 1000000)) && ((decide (0 ≤ z) && decide (z ≤ 11)) && ((decide (0 ≤ s) && decide (s ≤ 1000000)) && (decide ((m.length : Int) ≤ 16) && ((List.range' 0 m.length).all fun i => okAt n s m i))))

theorem spec_ok (n z s : Int) (m : List AV) (hm : Rw (T176 1048576) 1048576 m) : den E 104 [(.ip (.agg [(.i .i64 n), (.i .i64 z), (.i .i64 s), (.imm 10 m)]) 0)] [] = some (.b (okVersion n z s m)) := by
  rw [f104_eq]
  simp only [okC_nil, okC_agg, okC_i, okC_b, okC_s, okC_imm, okL_i, okL_b, okL_s, okL_sl, okS_i, okS_b, okS_s, okS_sl, okS_agg, okS_tup, okS_nil, okS_cons, cells_agg, cells_i, cells_b, cells_s, cells_imm, toI_i, toB_b, toS_s, toL_imm, nth_agg, nth_tup, put_agg, put_i, put_b, put_s, put_imm, setCells, List.getD_cons_zero, List.getD_cons_succ, bSh_b, bSh_i, bSh_s, bSh_sl, bSh_some, cond_true, cond_false, decide_true, decide_false, Int.toNat_natCast, Nat.zero_add, Nat.reduceAdd, beq_self_eq_true, Bool.and_true, Bool.true_and, if_true, Bool.false_eq_true, if_false, List.set_cons_zero, List.set_cons_succ, Bool.not_true, Bool.not_false, Bool.and_self, in90, spec_l1 n z s m hm]
  simp only [beq_false, Bool.not_not, cond_nb, not_lt_b, cond_andb]
  rfl

/-- slices.ContainsFunc over the tables before. -/
theorem has_id (l : List AV) (hl : Rw (T176 1048576) 1048576 l) {t : AV} (ht : T176 1048576 t) : den E 158 [(.imm 10 l), (.fn 159 [(.ip t 0)])] [] =
    some (.b (!(List.range' 0 l.length).all fun j => !decide (((l.getD j .x).cells.getD 0 .x).toI = (t.cells.getD 0 .x).toI))) := by
  have hll := hl.1
  rw [f158q1_eq, f196q1_eq]
  have key := find_loop (L := fun i => f196q1_l1 l t ((l.length : Nat) : Int) i) (n := l.length) (p := fun j => decide (((l.getD j .x).cells.getD 0 .x).toI = (t.cells.getD 0 .x).toI)) (F := fun i => some (.i .i64 i)) (X := some (.i .i64 (-1))) (fun i hi => ?_) ?_ l.length 0 (by omega)
  · rcases key with ⟨j, _, hj, h1, h2, h3⟩ | ⟨h1, h2⟩
    · rw [show f196q1_l1 l t ((l.length : Nat) : Int) 0 = _ from h3]
      have hj0 : (0 : Int) ≤ (j : Int) := by omega
      simp only [bSh_i, bSh_b, toI_i, toB_b, hj0, decide_true]
      have : ((List.range' 0 l.length).all fun j => !decide (((l.getD j .x).cells.getD 0 .x).toI = (t.cells.getD 0 .x).toI)) = false := by
        rw [List.all_eq_false]
        exact ⟨j, by simp [List.mem_range'_1, hj], by simpa using h1⟩
      rw [this]; rfl
    · rw [show f196q1_l1 l t ((l.length : Nat) : Int) 0 = _ from h2]
      simp only [bSh_i, bSh_b, toI_i, toB_b]
      have : ((List.range' 0 l.length).all fun j => !decide (((l.getD j .x).cells.getD 0 .x).toI = (t.cells.getD 0 .x).toI)) = true := by
        rw [List.all_eq_true]
        intro i hi
        have := h1 i (Nat.zero_le _) (by simpa [List.mem_range'_1] using hi)
        simpa using this
      rw [this]; rfl
  · have hT := hl.at hi
    try dsimp only
    rw [f196q1_l1_eq, dT (show (i : Int) < ((l.length : Nat) : Int) by omega), cond_true, if_pos (by omega), w64 (x := (i : Int) + 1) (by omega) (by omega)]
    simp only [hT.ok, ht.ok0, okC_nil, okC_agg, okC_i, okC_b, okC_s, okC_imm, okL_i, okL_b, okL_s, okL_sl, okS_i, okS_b, okS_s, okS_sl, okS_agg, okS_tup, okS_nil, okS_cons, cells_agg, cells_i, cells_b, cells_s, cells_imm, toI_i, toB_b, toS_s, toL_imm, nth_agg, nth_tup, put_agg, put_i, put_b, put_s, put_imm, setCells, List.getD_cons_zero, List.getD_cons_succ, bSh_b, bSh_i, bSh_s, bSh_sl, bSh_some, cond_true, cond_false, decide_true, decide_false, Int.toNat_natCast, Nat.zero_add, Nat.reduceAdd, beq_self_eq_true, Bool.and_true, Bool.true_and, if_true, Bool.false_eq_true, if_false, List.set_cons_zero, List.set_cons_succ, Bool.not_true, Bool.not_false, Bool.and_self, f159q1_eq]
  · try dsimp only
    rw [f196q1_l1_eq, dF (Int.lt_irrefl _), cond_false]

theorem impl_tables (n z s : Int) (m : List AV) (hm : Rw (T176 1048576) 1048576 m) :
    den E 105 [.agg [(.i .i64 n), (.i .i64 z), (.i .i64 s), (.imm 10 m)]] [] = some (.b (((List.range' 0 m.length).all fun i => okAt n s m i) && decide ((m.length : Int) ≤ 16))) := by
  have hml := hm.1
  rw [f105_eq]
  have := all_loop (L := fun i => f105_l1 m ((m.length : Nat) : Int) i n z s m) (n := m.length) (p := fun i => okAt n s m i) (X := some (.b (decide ((m.length : Int) ≤ 16)))) (F := some (.b false)) (fun i hi => ?_) ?_ m.length 0 (by omega)
  · refine this.trans ?_
    rw [cond_andb]
  · have hT := hm.at hi
    have hlt : Rw (T176 1048576) 1048576 (m.take i) := ⟨by rw [List.length_take]; omega, fun y hy => hm.2 y (List.mem_of_mem_take hy)⟩
    have hid := has_id (m.take i) hlt hT
    have hle : (m.take i).length = i := by rw [List.length_take]; omega
    have hge : ((List.range' 0 i).all fun j => !decide ((((m.take i).getD j .x).cells.getD 0 .x).toI = ((m.getD i .x).cells.getD 0 .x).toI)) = ((List.range' 0 i).all fun j => !decide (((m.getD j .x).cells.getD 0 .x).toI = ((m.getD i .x).cells.getD 0 .x).toI)) := by
      rw [Bool.eq_iff_iff, List.all_eq_true, List.all_eq_true]
      have hg : ∀ j, j ∈ List.range' 0 i → (m.take i).getD j .x = m.getD j .x := fun j hj => by
        rw [getD_take, if_pos (by simpa [List.mem_range'_1] using hj)]
      exact ⟨fun h j hj => by rw [← hg j hj]; exact h j hj, fun h j hj => by rw [hg j hj]; exact h j hj⟩
    rw [hle, hge] at hid
    try dsimp only
    rw [f105_l1_eq, dT (show (i : Int) < ((m.length : Nat) : Int) by omega), cond_true, if_pos (by omega)]
    simp only [Int.toNat_natCast, hT.ok, hT.eta, tb_impl hT, f105_j2_eq, hid, okC_nil, okC_agg, okC_i, okC_b, okC_s, okC_imm, okL_i, okL_b, okL_s, okL_sl, okS_i, okS_b, okS_s, okS_sl, okS_agg, okS_tup, okS_nil, okS_cons, cells_agg, cells_i, cells_b, cells_s, cells_imm, toI_i, toB_b, toS_s, toL_imm, nth_agg, nth_tup, put_agg, put_i, put_b, put_s, put_imm, setCells, List.getD_cons_zero, List.getD_cons_succ, bSh_b, bSh_i, bSh_s, bSh_sl, bSh_some, cond_true, cond_false, decide_true, decide_false, Int.toNat_natCast, Nat.zero_add, Nat.reduceAdd, beq_self_eq_true, Bool.and_true, Bool.true_and, if_true, Bool.false_eq_true, if_false, List.set_cons_zero, List.set_cons_succ, Bool.not_true, Bool.not_false, Bool.and_self]
    rw [w64 (x := (i : Int) + 1) (by omega) (by omega), if_pos (by omega)]
    unfold okAt
    cases htb : tb (m.getD i .x)
    · rfl
    have hlev := tb_level hT htb
    simp only [Bool.not_true, beq_self_eq_true, cond_true, Bool.true_and]
    by_cases h1 : n ≤ ((m.getD i .x).cells.getD 0 .x).toI
    · have h1' : ¬ ((m.getD i .x).cells.getD 0 .x).toI < n := by omega
      simp only [h1, h1', decide_true, decide_false, Bool.false_and, cond_false]
      rfl
    have h1' : ((m.getD i .x).cells.getD 0 .x).toI < n := by omega
    simp only [h1, h1', decide_true, decide_false, Bool.true_and, beq_self_eq_true, cond_true]
    by_cases h2 : s < ((m.getD i .x).cells.getD 8 .x).toI
    · have h2' : ¬ ((m.getD i .x).cells.getD 8 .x).toI ≤ s := by omega
      simp only [h2, h2', decide_true, decide_false, Bool.false_and, cond_false]
      rfl
    have h2' : ((m.getD i .x).cells.getD 8 .x).toI ≤ s := by omega
    simp only [h2, h2', decide_true, decide_false, Bool.true_and, beq_self_eq_true, cond_true]
    generalize ((List.range' 0 i).all fun j => !decide (((m.getD j .x).cells.getD 0 .x).toI = ((m.getD i .x).cells.getD 0 .x).toI)) = u
    cases u
    · simp
    simp only [Bool.not_true, cond_false, Bool.and_true]
    by_cases h0 : i = 0
    · subst h0
      simp
    · have hT1 := hm.at (i := i - 1) (by omega)
      have h0' : ¬ (i : Int) = 0 := by omega
      rw [w64 (x := (i : Int) - 1) (by omega) (by omega), show ((i : Int) - 1).toNat = i - 1 by omega]
      simp only [h0, h0', decide_false, Bool.false_or, cond_false]
      rw [if_pos (by omega), if_pos hT1.ok]
      simp only [hT1.eta, cmpT_impl hT1 hT, okC_nil, okC_agg, okC_i, okC_b, okC_s, okC_imm, okL_i, okL_b, okL_s, okL_sl, okS_i, okS_b, okS_s, okS_sl, okS_agg, okS_tup, okS_nil, okS_cons, cells_agg, cells_i, cells_b, cells_s, cells_imm, toI_i, toB_b, toS_s, toL_imm, nth_agg, nth_tup, put_agg, put_i, put_b, put_s, put_imm, setCells, List.getD_cons_zero, List.getD_cons_succ, bSh_b, bSh_i, bSh_s, bSh_sl, bSh_some, cond_true, cond_false, decide_true, decide_false, Int.toNat_natCast, Nat.zero_add, Nat.reduceAdd, beq_self_eq_true, Bool.and_true, Bool.true_and, if_true, Bool.false_eq_true, if_false, List.set_cons_zero, List.set_cons_succ, Bool.not_true, Bool.not_false, Bool.and_self]
      rw [bef_cmp hlev]
      by_cases h3 : cmpT (m.getD (i - 1) .x) (m.getD i .x) < 0
      · have h3' : ¬ 0 ≤ cmpT (m.getD (i - 1) .x) (m.getD i .x) := by omega
        simp only [h3, h3', decide_true, decide_false, beq_self_eq_true, cond_true, Bool.true_and]
        generalize (lessS ((m.getD (i - 1) .x).cells.getD 6 .x).toS ((m.getD i .x).cells.getD 5 .x).toS || decide (((m.getD (i - 1) .x).cells.getD 6 .x).toS = ((m.getD i .x).cells.getD 5 .x).toS)) = q1
        cases decide (0 < ((m.getD i .x).cells.getD 1 .x).toI) <;> cases decide (((m.getD (i - 1) .x).cells.getD 1 .x).toI = ((m.getD i .x).cells.getD 1 .x).toI) <;> cases q1 <;> rfl
      · have h3' : 0 ≤ cmpT (m.getD (i - 1) .x) (m.getD i .x) := by omega
        simp only [h3, h3', decide_true, decide_false, Bool.false_and, cond_false]
        rfl
  · try dsimp only
    rw [f105_l1_eq, dF (Int.lt_irrefl _), cond_false]

theorem impl_ok (n z s : Int) (m : List AV) (hm : Rw (T176 1048576) 1048576 m) : den E 43 [.agg [(.i .i64 n), (.i .i64 z), (.i .i64 s), (.imm 10 m)]] [] = some (.b (okVersion n z s m)) := by
  rw [f43_eq]
  simp only [okC_nil, okC_agg, okC_i, okC_b, okC_s, okC_imm, okL_i, okL_b, okL_s, okL_sl, okS_i, okS_b, okS_s, okS_sl, okS_agg, okS_tup, okS_nil, okS_cons, cells_agg, cells_i, cells_b, cells_s, cells_imm, toI_i, toB_b, toS_s, toL_imm, nth_agg, nth_tup, put_agg, put_i, put_b, put_s, put_imm, setCells, List.getD_cons_zero, List.getD_cons_succ, bSh_b, bSh_i, bSh_s, bSh_sl, bSh_some, cond_true, cond_false, decide_true, decide_false, Int.toNat_natCast, Nat.zero_add, Nat.reduceAdd, beq_self_eq_true, Bool.and_true, Bool.true_and, if_true, Bool.false_eq_true, if_false, List.set_cons_zero, List.set_cons_succ, Bool.not_true, Bool.not_false, Bool.and_self, in72, impl_tables n z s m hm]
  simp only [beq_true, cond_andb, okVersion]
  congr 2
  ac_rfl


theorem pot (n z s : Int) (m : List AV) (hm : Rw (T176 1048576) 1048576 m) : ∀ (k i : Nat) (x : Int), i + k = m.length →
    ∃ r, f54_l1 x i n z s m = some (.i .i64 r) ∧ f55_l1 x m ((m.length : Nat) : Int) i = some (.i .i64 r)
  | 0, i, x, h => by
    have : i = m.length := by omega
    subst this
    rw [f54_l1_eq, f55_l1_eq, dF (Int.lt_irrefl _)]
    exact ⟨_, rfl, rfl⟩
  | k + 1, i, x, h => by
    have hml := hm.1
    have hT := hm.at (i := i) (by omega)
    rw [f54_l1_eq, f55_l1_eq, dT (show (i : Int) < ((m.length : Nat) : Int) by omega), cond_true, cond_true]
    have hb : (0 : Int) ≤ (i : Int) ∧ (i : Int) < ((m.length : Nat) : Int) := by omega
    simp only [Int.toNat_natCast, hT.ok, hT.ok9, hT.ok1, if_true, hb.1, hb.2, and_self]
    rw [w64 (x := (i : Int) + 1) (by omega) (by omega), show ((i : Int) + 1) = ((i + 1 : Nat) : Int) by omega]
    exact pot n z s m hm k (i + 1) _ (by omega)

theorem pure (el : AV) (h : T69 9223372036854775807 el) : den E 12 [el] [] = some (.b true) := by
  obtain ⟨r, hr, hq⟩ := sz40 h 1048576 (by omega) (by omega)
  obtain ⟨n, z, s, m, rfl, w0, w1, w2, w3, _⟩ := h
  rw [f12_eq, hr]
  simp only [bSh_i, toI_i]
  rcases hq with hq | ⟨h0, h1, hT⟩
  · simp only [hq, decide_true, cond_true]
  have hn : ¬ r < 0 := by omega
  simp only [hn, decide_false, cond_false]
  have ht := to42 hT
  have he := eq44 hT
  obtain ⟨b0, b1, b2, b3, hb, v0, v1, v2, v3, _⟩ := hT
  cases hb
  obtain ⟨q, g1, g2⟩ := pot n z s m v3 m.length 0 0 (by omega)
  have g1 : f54_l1 0 0 n z s m = _ := g1
  have g2 : f55_l1 0 m ((m.length : Nat) : Int) 0 = _ := g2
  simp only [ht, he, okC_nil, okC_agg, okC_i, okC_b, okC_s, okC_imm, okL_i, okL_b, okL_s, okL_sl, okS_i, okS_b, okS_s, okS_sl, okS_agg, okS_tup, okS_nil, okS_cons, cells_agg, cells_i, cells_b, cells_s, cells_imm, toI_i, toB_b, toS_s, toL_imm, nth_agg, nth_tup, put_agg, put_i, put_b, put_s, put_imm, setCells, List.getD_cons_zero, List.getD_cons_succ, bSh_b, bSh_i, bSh_s, bSh_sl, bSh_some, cond_true, cond_false, decide_true, decide_false, Int.toNat_natCast, Nat.zero_add, Nat.reduceAdd, beq_self_eq_true, Bool.and_true, Bool.true_and, if_true, Bool.false_eq_true, if_false, List.set_cons_zero, List.set_cons_succ, Bool.not_true, Bool.not_false, Bool.and_self, f54_eq, f55_eq, spec_ok n z s m v3, impl_ok n z s m v3, g1, g2]
  cases okVersion n z s m <;> simp [bSh_i, bSh_b, toI_i, toB_b]
end Go.Proofs.Ythlmjmejnlalaaa.IPotentialOf
