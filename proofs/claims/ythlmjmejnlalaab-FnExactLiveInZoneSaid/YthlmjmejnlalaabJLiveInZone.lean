/- LiveInZone: the program's answer is the reference's, for every version and zone. No condition beyond what each theorem states. -/
import Derived.Test.YthlmjmejnlalaabILiveInZonef
import Derived.Test.YthlmjmejnlalaabIt9
namespace Go.Proofs.Ythlmjmejnlalaab.ILiveInZone
open Go Go.Proofs.YthlmjmejnlalaabIT
set_option linter.unusedSimpArgs false

theorem in90 (a lo hi : Int) : den E 135 [(.i .i64 a), (.i .i64 lo), (.i .i64 hi)] [] = some (.b (decide (lo ≤ a) && decide (a ≤ hi))) := by
  rw [f135_eq, beq_true, cond_andb]
theorem in72 (a lo hi : Int) : den E 155 [(.i .i64 a), (.i .i64 lo), (.i .i64 hi)] [] = some (.b (decide (lo ≤ a) && decide (a ≤ hi))) := by
  rw [f155_eq, beq_true, cond_andb]


theorem tab {B : Nat} {el : AV} (h : T183 B el) : ∃ b, den E 159 [(.ip el 0)] [] = some (.b b) ∧ den E 167 [el] [] = some (.b b) := by
  obtain ⟨a0, a1, a2, a3, a4, a5, a6, a7, a8, a9, rfl, _⟩ := h
  rw [f159_eq, f167_eq]
  simp only [in90, in72, okC_nil, okC_agg, okC_i, okC_b, okC_s, okC_imm, okL_i, okL_b, okL_s, okL_sl, okS_i, okS_b, okS_s, okS_sl, okS_agg, okS_tup, okS_nil, okS_cons, cells_agg, cells_i, cells_b, cells_s, cells_imm, toI_i, toB_b, toS_s, toL_imm, nth_agg, nth_tup, put_agg, put_i, put_b, put_s, put_imm, setCells, List.getD_cons_zero, List.getD_cons_succ, bSh_b, bSh_i, bSh_s, bSh_sl, bSh_some, cond_true, cond_false, decide_true, decide_false, Int.toNat_natCast, Nat.zero_add, Nat.reduceAdd, beq_self_eq_true, Bool.and_true, Bool.true_and, if_true, Bool.false_eq_true, if_false, List.set_cons_zero, List.set_cons_succ, Bool.not_true, Bool.not_false, Bool.and_self]
  simp only [beq_true, beq_false, cond_andb, cond_notb, Bool.not_not, if_true, not_lt_b]
  exact ⟨_, rfl, rfl⟩
noncomputable def tb (el : AV) : Bool := match den E 167 [el] [] with
  | some (.b b) => b
  | _ => false
theorem tb_impl {B : Nat} {el : AV} (h : T183 B el) : den E 167 [el] [] = some (.b (tb el)) := by
  obtain ⟨b, _, h2⟩ := tab h
  unfold tb; rw [h2]
theorem tb_spec {B : Nat} {el : AV} (h : T183 B el) : den E 159 [(.ip el 0)] [] = some (.b (tb el)) := by
  obtain ⟨b, h1, h2⟩ := tab h
  unfold tb; rw [h2]; exact h1
theorem tb_level {B : Nat} {el : AV} (h : T183 B el) (ht : tb el = true) : 0 ≤ (el.cells.getD 1 .x).toI := by
  have h2 := tb_impl h
  rw [ht] at h2
  obtain ⟨a0, a1, a2, a3, a4, a5, a6, a7, a8, a9, rfl, _⟩ := h
  rw [f167_eq] at h2
  simp only [in72, okC_nil, okC_agg, okC_i, okC_b, okC_s, okC_imm, okL_i, okL_b, okL_s, okL_sl, okS_i, okS_b, okS_s, okS_sl, okS_agg, okS_tup, okS_nil, okS_cons, cells_agg, cells_i, cells_b, cells_s, cells_imm, toI_i, toB_b, toS_s, toL_imm, nth_agg, nth_tup, put_agg, put_i, put_b, put_s, put_imm, setCells, List.getD_cons_zero, List.getD_cons_succ, bSh_b, bSh_i, bSh_s, bSh_sl, bSh_some, cond_true, cond_false, decide_true, decide_false, Int.toNat_natCast, Nat.zero_add, Nat.reduceAdd, beq_self_eq_true, Bool.and_true, Bool.true_and, if_true, Bool.false_eq_true, if_false, List.set_cons_zero, List.set_cons_succ, Bool.not_true, Bool.not_false, Bool.and_self, beq_true, cond_andb, Option.some.injEq, AV.b.injEq, Bool.and_eq_true, decide_eq_true_eq] at h2
  simp only [okC_nil, okC_agg, okC_i, okC_b, okC_s, okC_imm, okL_i, okL_b, okL_s, okL_sl, okS_i, okS_b, okS_s, okS_sl, okS_agg, okS_tup, okS_nil, okS_cons, cells_agg, cells_i, cells_b, cells_s, cells_imm, toI_i, toB_b, toS_s, toL_imm, nth_agg, nth_tup, put_agg, put_i, put_b, put_s, put_imm, setCells, List.getD_cons_zero, List.getD_cons_succ, bSh_b, bSh_i, bSh_s, bSh_sl, bSh_some, cond_true, cond_false, decide_true, decide_false, Int.toNat_natCast, Nat.zero_add, Nat.reduceAdd, beq_self_eq_true, Bool.and_true, Bool.true_and, if_true, Bool.false_eq_true, if_false, List.set_cons_zero, List.set_cons_succ, Bool.not_true, Bool.not_false, Bool.and_self]
  exact h2.2.1.1


theorem cb_lt : ∀ x y : List UInt8, (Lib.compareBytes x y < 0 ↔ Op.bytesLess x y = true)
  | [], [] => by simp [Lib.compareBytes, Op.bytesLess]
  | [], _ :: _ => by simp [Lib.compareBytes, Op.bytesLess]
  | _ :: _, [] => by simp [Lib.compareBytes, Op.bytesLess]
  | a :: x, b :: y => by
    have ih := cb_lt x y
    simp only [Lib.compareBytes, Op.bytesLess]
    by_cases h1 : a < b
    · simp [h1]
    · by_cases h2 : b < a
      · have h3 : ¬ a = b := by rintro rfl; exact absurd h2 h1
        simp [h1, h2, h3]
      · have h3 : a = b := by
          apply UInt8.toNat_inj.1
          have p1 : ¬ a.toNat < b.toNat := fun h => h1 (UInt8.lt_iff_toNat_lt.2 h)
          have p2 : ¬ b.toNat < a.toNat := fun h => h2 (UInt8.lt_iff_toNat_lt.2 h)
          omega
        simp [h1, h2, h3, ih]
theorem cmpB_lt (a b : ByteArray) : cmpB a b < 0 ↔ lessS a b = true := by
  unfold cmpB lessS
  rw [Lib.toList_data, Lib.toList_data]
  exact cb_lt _ _
theorem cmp_int (a b : Int) : den E 233 [(.i .i64 a), (.i .i64 b)] [] = some (.i .i64 (if a < b then -1 else if b < a then 1 else 0)) := by
  rw [f233_eq, f238_eq, f238_eq]
  simp only [okC_nil, okC_agg, okC_i, okC_b, okC_s, okC_imm, okL_i, okL_b, okL_s, okL_sl, okS_i, okS_b, okS_s, okS_sl, okS_agg, okS_tup, okS_nil, okS_cons, cells_agg, cells_i, cells_b, cells_s, cells_imm, toI_i, toB_b, toS_s, toL_imm, nth_agg, nth_tup, put_agg, put_i, put_b, put_s, put_imm, setCells, List.getD_cons_zero, List.getD_cons_succ, bSh_b, bSh_i, bSh_s, bSh_sl, bSh_some, cond_true, cond_false, decide_true, decide_false, Int.toNat_natCast, Nat.zero_add, Nat.reduceAdd, beq_self_eq_true, Bool.and_true, Bool.true_and, if_true, Bool.false_eq_true, if_false, List.set_cons_zero, List.set_cons_succ, Bool.not_true, Bool.not_false, Bool.and_self]
  by_cases h : a < b
  · simp [h]
  · by_cases h2 : b < a
    · simp [h, h2]
    · simp [h, h2]
theorem cmp_or2 (p q : Int) : den E 234 [(.imm 1 [(.i .i64 p), (.i .i64 q)])] [] = some (.i .i64 (if p = 0 then q else p)) := by
  have e0 : f234_l1 0 [(.i .i64 p), (.i .i64 q)] 2 2 = some (.i .i64 0) := by rw [f234_l1_eq]; rfl
  have w1 : IntKind.i64.wrap 1 = 1 := by decide
  have w2 : IntKind.i64.wrap 2 = 2 := by decide
  rw [f234_eq]
  show f234_l1 0 [(.i .i64 p), (.i .i64 q)] 2 0 = _
  rw [f234_l1_eq]
  simp [okC_nil, okC_agg, okC_i, okC_b, okC_s, okC_imm, okL_i, okL_b, okL_s, okL_sl, okS_i, okS_b, okS_s, okS_sl, okS_agg, okS_tup, okS_nil, okS_cons, cells_agg, cells_i, cells_b, cells_s, cells_imm, toI_i, toB_b, toS_s, toL_imm, nth_agg, nth_tup, put_agg, put_i, put_b, put_s, put_imm, setCells, List.getD_cons_zero, List.getD_cons_succ, bSh_b, bSh_i, bSh_s, bSh_sl, bSh_some, cond_true, cond_false, decide_true, decide_false, Int.toNat_natCast, Nat.zero_add, Nat.reduceAdd, beq_self_eq_true, Bool.and_true, Bool.true_and, if_true, Bool.false_eq_true, if_false, List.set_cons_zero, List.set_cons_succ, Bool.not_true, Bool.not_false, Bool.and_self, w1]
  by_cases h : p = 0
  · simp only [h, if_true]
    rw [f234_l1_eq]
    simp [okC_nil, okC_agg, okC_i, okC_b, okC_s, okC_imm, okL_i, okL_b, okL_s, okL_sl, okS_i, okS_b, okS_s, okS_sl, okS_agg, okS_tup, okS_nil, okS_cons, cells_agg, cells_i, cells_b, cells_s, cells_imm, toI_i, toB_b, toS_s, toL_imm, nth_agg, nth_tup, put_agg, put_i, put_b, put_s, put_imm, setCells, List.getD_cons_zero, List.getD_cons_succ, bSh_b, bSh_i, bSh_s, bSh_sl, bSh_some, cond_true, cond_false, decide_true, decide_false, Int.toNat_natCast, Nat.zero_add, Nat.reduceAdd, beq_self_eq_true, Bool.and_true, Bool.true_and, if_true, Bool.false_eq_true, if_false, List.set_cons_zero, List.set_cons_succ, Bool.not_true, Bool.not_false, Bool.and_self, w2, e0]
    by_cases h2 : q = 0
    · subst h h2; simp [e0]
    · simp [h2]
  · simp [h]


/-- Each table comes before the next. -/
def bef (p t : AV) : Bool :=
  cond (decide ((p.cells.getD 1 .x).toI = (t.cells.getD 1 .x).toI))
    (cond (decide ((p.cells.getD 1 .x).toI = 0)) (decide ((t.cells.getD 0 .x).toI < (p.cells.getD 0 .x).toI))
      (lessS (p.cells.getD 5 .x).toS (t.cells.getD 5 .x).toS && (lessS (p.cells.getD 6 .x).toS (t.cells.getD 5 .x).toS || decide ((p.cells.getD 6 .x).toS = (t.cells.getD 5 .x).toS))))
    (decide ((p.cells.getD 1 .x).toI < (t.cells.getD 1 .x).toI))
theorem bef_spec {B : Nat} {p t : AV} (hp : T183 B p) (ht : T183 B t) : den E 160 [(.ip p 0), (.ip t 0)] [] = some (.b (bef p t)) := by
  rw [f160_eq]
  simp only [hp.ok0, hp.ok1, hp.ok5, hp.ok6, ht.ok0, ht.ok1, ht.ok5, if_true, bef]
  by_cases h : (p.cells.getD 1 .x).toI = (t.cells.getD 1 .x).toI
  · simp only [h, decide_true, Bool.not_true, cond_false, cond_true]
    by_cases h2 : (t.cells.getD 1 .x).toI = 0
    · simp only [h2, decide_true, cond_true]
    · simp only [h2, decide_false, cond_false, beq_true, cond_andb]
  · simp only [h, decide_false, Bool.not_false, cond_false, cond_true]
/-- The program's comparison of two tables. -/
noncomputable def cmpT (p t : AV) : Int := if (p.cells.getD 1 .x).toI = (t.cells.getD 1 .x).toI ∧ (p.cells.getD 1 .x).toI = 0 then (if (t.cells.getD 0 .x).toI < (p.cells.getD 0 .x).toI then -1 else if (p.cells.getD 0 .x).toI < (t.cells.getD 0 .x).toI then 1 else 0)
  else (if (if (p.cells.getD 1 .x).toI < (t.cells.getD 1 .x).toI then (-1 : Int) else if (t.cells.getD 1 .x).toI < (p.cells.getD 1 .x).toI then 1 else 0) = 0 then cmpB (p.cells.getD 5 .x).toS (t.cells.getD 5 .x).toS else (if (p.cells.getD 1 .x).toI < (t.cells.getD 1 .x).toI then (-1 : Int) else if (t.cells.getD 1 .x).toI < (p.cells.getD 1 .x).toI then 1 else 0))
theorem cmpT_impl {B : Nat} {p t : AV} (hp : T183 B p) (ht : T183 B t) : den E 206 [p, t] [] = some (.i .i64 (cmpT p t)) := by
  obtain ⟨a0, a1, a2, a3, a4, a5, a6, a7, a8, a9, rfl, _⟩ := hp
  obtain ⟨b0, b1, b2, b3, b4, b5, b6, b7, b8, b9, rfl, _⟩ := ht
  rw [f206_eq]
  simp only [f206_j1_eq, cmp_int, f235_eq, f239_eq, cmp_or2, cmpT, okC_nil, okC_agg, okC_i, okC_b, okC_s, okC_imm, okL_i, okL_b, okL_s, okL_sl, okS_i, okS_b, okS_s, okS_sl, okS_agg, okS_tup, okS_nil, okS_cons, cells_agg, cells_i, cells_b, cells_s, cells_imm, toI_i, toB_b, toS_s, toL_imm, nth_agg, nth_tup, put_agg, put_i, put_b, put_s, put_imm, setCells, List.getD_cons_zero, List.getD_cons_succ, bSh_b, bSh_i, bSh_s, bSh_sl, bSh_some, cond_true, cond_false, decide_true, decide_false, Int.toNat_natCast, Nat.zero_add, Nat.reduceAdd, beq_self_eq_true, Bool.and_true, Bool.true_and, if_true, Bool.false_eq_true, if_false, List.set_cons_zero, List.set_cons_succ, Bool.not_true, Bool.not_false, Bool.and_self, beq_true]
  by_cases h : a1 = b1
  · by_cases h2 : a1 = 0
    · simp only [h, decide_true, cond_true, h2, and_self, if_true]
      simp only [← h, h2, decide_true, cond_true, and_self, if_true]
    · simp only [h2, decide_false, cond_false, and_false, if_false]
      cases decide (a1 = b1) <;> rfl
  · simp only [h, decide_false, cond_false, false_and, if_false]
    rfl
theorem bef_cmp {p t : AV} (h : 0 ≤ (t.cells.getD 1 .x).toI) : bef p t = (decide (cmpT p t < 0) && !(decide (0 < (t.cells.getD 1 .x).toI) && (decide ((p.cells.getD 1 .x).toI = (t.cells.getD 1 .x).toI) && !(lessS (p.cells.getD 6 .x).toS (t.cells.getD 5 .x).toS || decide ((p.cells.getD 6 .x).toS = (t.cells.getD 5 .x).toS))))) := by
  unfold bef cmpT
  generalize (p.cells.getD 1 .x).toI = lp at *
  generalize (t.cells.getD 1 .x).toI = lt at *
  generalize (p.cells.getD 0 .x).toI = ip at *
  generalize (t.cells.getD 0 .x).toI = it at *
  generalize (lessS (p.cells.getD 6 .x).toS (t.cells.getD 5 .x).toS || decide ((p.cells.getD 6 .x).toS = (t.cells.getD 5 .x).toS)) = hl
  have hc := cmpB_lt (p.cells.getD 5 .x).toS (t.cells.getD 5 .x).toS
  generalize lessS (p.cells.getD 5 .x).toS (t.cells.getD 5 .x).toS = lo at *
  generalize cmpB (p.cells.getD 5 .x).toS (t.cells.getD 5 .x).toS = c at *
  by_cases h1 : lp = lt
  · subst h1
    by_cases h2 : lp = 0
    · subst h2
      by_cases h3 : it < ip
      · simp [h3]
      · by_cases h4 : ip < it <;> simp [h3, h4]
    · have h3 : 0 < lp := by omega
      simp only [h2, and_false, if_false, Int.lt_irrefl, if_true, decide_true, decide_false, cond_true, cond_false, h3, Bool.true_and]
      cases lo <;> cases hl <;> simp_all
  · by_cases h3 : lp < lt
    · simp [h1, h3]
    · have h4 : lt < lp := by omega
      simp [h1, h3, h4]


/-- What is asked of the i-th table of a version. -/
noncomputable def okAt (n s : Int) (m : List AV) (i : Nat) : Bool :=
  tb (m.getD i .x) && ((decide (((m.getD i .x).cells.getD 0 .x).toI < n) && decide (((m.getD i .x).cells.getD 8 .x).toI ≤ s)) && ((decide (i = 0) || bef (m.getD (i - 1) .x) (m.getD i .x)) && (List.range' 0 i).all fun j => !decide (((m.getD j .x).cells.getD 0 .x).toI = ((m.getD i .x).cells.getD 0 .x).toI)))

theorem spec_l3 (n z s : Int) (m : List AV) (hm : Rw (T183 1048576) 1048576 m) (i : Nat) (hi : i < m.length) (X : Option AV)
    (hX : f99_l1 (.agg [(.i .i64 n), (.i .i64 z), (.i .i64 s), (.imm 10 m)]) ((i : Int) + 1) = X) :
    f99_l3 (.agg [(.i .i64 n), (.i .i64 z), (.i .i64 s), (.imm 10 m)]) i (m.getD i .x) 0 = cond ((List.range' 0 i).all fun j => !decide (((m.getD j .x).cells.getD 0 .x).toI = ((m.getD i .x).cells.getD 0 .x).toI)) X (some (.b false)) := by
  have hml := hm.1
  have hT := hm.at hi
  refine all_loop (L := fun j => f99_l3 (.agg [(.i .i64 n), (.i .i64 z), (.i .i64 s), (.imm 10 m)]) i (m.getD i .x) j) (n := i) (fun j hj => ?_) ?_ i 0 (by omega)
  · have hT1 := hm.at (i := j) (by omega)
    try dsimp only
    rw [f99_l3_eq, dT (show (j : Int) < (i : Int) by omega), cond_true]
    simp only [okC_nil, okC_agg, okC_i, okC_b, okC_s, okC_imm, okL_i, okL_b, okL_s, okL_sl, okS_i, okS_b, okS_s, okS_sl, okS_agg, okS_tup, okS_nil, okS_cons, cells_agg, cells_i, cells_b, cells_s, cells_imm, toI_i, toB_b, toS_s, toL_imm, nth_agg, nth_tup, put_agg, put_i, put_b, put_s, put_imm, setCells, List.getD_cons_zero, List.getD_cons_succ, bSh_b, bSh_i, bSh_s, bSh_sl, bSh_some, cond_true, cond_false, decide_true, decide_false, Int.toNat_natCast, Nat.zero_add, Nat.reduceAdd, beq_self_eq_true, Bool.and_true, Bool.true_and, if_true, Bool.false_eq_true, if_false, List.set_cons_zero, List.set_cons_succ, Bool.not_true, Bool.not_false, Bool.and_self]
    rw [if_pos (by omega), w64 (x := (j : Int) + 1) (by omega) (by omega)]
    simp only [hT.ok0, hT1.ok0, okC_nil, okC_agg, okC_i, okC_b, okC_s, okC_imm, okL_i, okL_b, okL_s, okL_sl, okS_i, okS_b, okS_s, okS_sl, okS_agg, okS_tup, okS_nil, okS_cons, cells_agg, cells_i, cells_b, cells_s, cells_imm, toI_i, toB_b, toS_s, toL_imm, nth_agg, nth_tup, put_agg, put_i, put_b, put_s, put_imm, setCells, List.getD_cons_zero, List.getD_cons_succ, bSh_b, bSh_i, bSh_s, bSh_sl, bSh_some, cond_true, cond_false, decide_true, decide_false, Int.toNat_natCast, Nat.zero_add, Nat.reduceAdd, beq_self_eq_true, Bool.and_true, Bool.true_and, if_true, Bool.false_eq_true, if_false, List.set_cons_zero, List.set_cons_succ, Bool.not_true, Bool.not_false, Bool.and_self]
    cases decide (((m.getD j .x).cells.getD 0 .x).toI = ((m.getD i .x).cells.getD 0 .x).toI) <;> rfl
  · try dsimp only
    rw [f99_l3_eq, dF (Int.lt_irrefl _), cond_false, w64 (x := (i : Int) + 1) (by omega) (by omega)]
    exact hX

theorem spec_l1 (n z s : Int) (m : List AV) (hm : Rw (T183 1048576) 1048576 m) :
    f99_l1 (.agg [(.i .i64 n), (.i .i64 z), (.i .i64 s), (.imm 10 m)]) 0 = some (.b ((List.range' 0 m.length).all fun i => okAt n s m i)) := by
  have hml := hm.1
  have := all_loop (L := fun i => f99_l1 (.agg [(.i .i64 n), (.i .i64 z), (.i .i64 s), (.imm 10 m)]) i) (n := m.length) (p := fun i => okAt n s m i) (X := some (.b true)) (F := some (.b false)) (fun i hi => ?_) ?_ m.length 0 (by omega)
  · refine this.trans ?_
    rw [cond_andb, Bool.and_true]
  · have hT := hm.at hi
    have h3 := spec_l3 n z s m hm i hi _ rfl
    try dsimp only
    rw [f99_l1_eq]
    simp only [okC_nil, okC_agg, okC_i, okC_b, okC_s, okC_imm, okL_i, okL_b, okL_s, okL_sl, okS_i, okS_b, okS_s, okS_sl, okS_agg, okS_tup, okS_nil, okS_cons, cells_agg, cells_i, cells_b, cells_s, cells_imm, toI_i, toB_b, toS_s, toL_imm, nth_agg, nth_tup, put_agg, put_i, put_b, put_s, put_imm, setCells, List.getD_cons_zero, List.getD_cons_succ, bSh_b, bSh_i, bSh_s, bSh_sl, bSh_some, cond_true, cond_false, decide_true, decide_false, Int.toNat_natCast, Nat.zero_add, Nat.reduceAdd, beq_self_eq_true, Bool.and_true, Bool.true_and, if_true, Bool.false_eq_true, if_false, List.set_cons_zero, List.set_cons_succ, Bool.not_true, Bool.not_false, Bool.and_self, f99_j2_eq]
    rw [dT (show (i : Int) < ((m.length : Nat) : Int) by omega), cond_true, if_pos (by omega)]
    simp only [Int.toNat_natCast, tb_spec hT, hT.ok0, hT.ok8, h3, okC_nil, okC_agg, okC_i, okC_b, okC_s, okC_imm, okL_i, okL_b, okL_s, okL_sl, okS_i, okS_b, okS_s, okS_sl, okS_agg, okS_tup, okS_nil, okS_cons, cells_agg, cells_i, cells_b, cells_s, cells_imm, toI_i, toB_b, toS_s, toL_imm, nth_agg, nth_tup, put_agg, put_i, put_b, put_s, put_imm, setCells, List.getD_cons_zero, List.getD_cons_succ, bSh_b, bSh_i, bSh_s, bSh_sl, bSh_some, cond_true, cond_false, decide_true, decide_false, Int.toNat_natCast, Nat.zero_add, Nat.reduceAdd, beq_self_eq_true, Bool.and_true, Bool.true_and, if_true, Bool.false_eq_true, if_false, List.set_cons_zero, List.set_cons_succ, Bool.not_true, Bool.not_false, Bool.and_self]
    unfold okAt
    cases tb (m.getD i .x)
    · rfl
    simp only [Bool.not_true, beq_self_eq_true, cond_true, Bool.true_and]
    by_cases h1 : n ≤ ((m.getD i .x).cells.getD 0 .x).toI
    · have h1' : ¬ ((m.getD i .x).cells.getD 0 .x).toI < n := by omega
      simp only [h1, h1', decide_true, decide_false, Bool.false_and, cond_false]
      rfl
    have h1' : ((m.getD i .x).cells.getD 0 .x).toI < n := by omega
    simp only [h1, h1', decide_true, decide_false, Bool.true_and, beq_self_eq_true, cond_true]
    by_cases h2 : s < ((m.getD i .x).cells.getD 8 .x).toI
    · have h2' : ¬ ((m.getD i .x).cells.getD 8 .x).toI ≤ s := by omega
      simp only [h2, h2', decide_true, decide_false, Bool.false_and, cond_false]
      rfl
    have h2' : ((m.getD i .x).cells.getD 8 .x).toI ≤ s := by omega
    simp only [h2, h2', decide_true, decide_false, Bool.true_and, beq_self_eq_true, cond_true]
    by_cases h0 : i = 0
    · subst h0
      simp
    · have hT1 := hm.at (i := i - 1) (by omega)
      rw [w64 (x := (i : Int) - 1) (by omega) (by omega), show ((i : Int) - 1).toNat = i - 1 by omega, bef_spec hT1 hT]
      rw [dT (show (0 : Int) < (i : Int) by omega), if_pos (by omega)]
      simp only [h0, decide_false, Bool.false_or, okC_nil, okC_agg, okC_i, okC_b, okC_s, okC_imm, okL_i, okL_b, okL_s, okL_sl, okS_i, okS_b, okS_s, okS_sl, okS_agg, okS_tup, okS_nil, okS_cons, cells_agg, cells_i, cells_b, cells_s, cells_imm, toI_i, toB_b, toS_s, toL_imm, nth_agg, nth_tup, put_agg, put_i, put_b, put_s, put_imm, setCells, List.getD_cons_zero, List.getD_cons_succ, bSh_b, bSh_i, bSh_s, bSh_sl, bSh_some, cond_true, cond_false, decide_true, decide_false, Int.toNat_natCast, Nat.zero_add, Nat.reduceAdd, beq_self_eq_true, Bool.and_true, Bool.true_and, if_true, Bool.false_eq_true, if_false, List.set_cons_zero, List.set_cons_succ, Bool.not_true, Bool.not_false, Bool.and_self]
      cases bef (m.getD (i - 1) .x) (m.getD i .x) <;> rfl
  · try dsimp only
    rw [f99_l1_eq]
    simp only [okC_nil, okC_agg, okC_i, okC_b, okC_s, okC_imm, okL_i, okL_b, okL_s, okL_sl, okS_i, okS_b, okS_s, okS_sl, okS_agg, okS_tup, okS_nil, okS_cons, cells_agg, cells_i, cells_b, cells_s, cells_imm, toI_i, toB_b, toS_s, toL_imm, nth_agg, nth_tup, put_agg, put_i, put_b, put_s, put_imm, setCells, List.getD_cons_zero, List.getD_cons_succ, bSh_b, bSh_i, bSh_s, bSh_sl, bSh_some, cond_true, cond_false, decide_true, decide_false, Int.toNat_natCast, Nat.zero_add, Nat.reduceAdd, beq_self_eq_true, Bool.and_true, Bool.true_and, if_true, Bool.false_eq_true, if_false, List.set_cons_zero, List.set_cons_succ, Bool.not_true, Bool.not_false, Bool.and_self]
    rw [dF (Int.lt_irrefl _), cond_false]

noncomputable def okVersion (n z s : Int) (m : List AV) : Bool := (decide (1 ≤ n) && decide (n ≤ 1000000)) && ((decide (0 ≤ z) && decide (z ≤ 11)) && ((decide (0 ≤ s) && decide (s ≤ 1000000)) && (decide ((m.length : Int) ≤ 16) && ((List.range' 0 m.length).all fun i => okAt n s m i))))

theorem spec_ok (n z s : Int) (m : List AV) (hm : Rw (T183 1048576) 1048576 m) : den E 99 [(.ip (.agg [(.i .i64 n), (.i .i64 z), (.i .i64 s), (.imm 10 m)]) 0)] [] = some (.b (okVersion n z s m)) := by
  rw [f99_eq]
  simp only [okC_nil, okC_agg, okC_i, okC_b, okC_s, okC_imm, okL_i, okL_b, okL_s, okL_sl, okS_i, okS_b, okS_s, okS_sl, okS_agg, okS_tup, okS_nil, okS_cons, cells_agg, cells_i, cells_b, cells_s, cells_imm, toI_i, toB_b, toS_s, toL_imm, nth_agg, nth_tup, put_agg, put_i, put_b, put_s, put_imm, setCells, List.getD_cons_zero, List.getD_cons_succ, bSh_b, bSh_i, bSh_s, bSh_sl, bSh_some, cond_true, cond_false, decide_true, decide_false, Int.toNat_natCast, Nat.zero_add, Nat.reduceAdd, beq_self_eq_true, Bool.and_true, Bool.true_and, if_true, Bool.false_eq_true, if_false, List.set_cons_zero, List.set_cons_succ, Bool.not_true, Bool.not_false, Bool.and_self, in90, spec_l1 n z s m hm]
  simp only [beq_false, Bool.not_not, cond_nb, not_lt_b, cond_andb]
  rfl

/-- slices.ContainsFunc over the tables before. -/
theorem has_id (l : List AV) (hl : Rw (T183 1048576) 1048576 l) {t : AV} (ht : T183 1048576 t) : den E 204 [(.imm 10 l), (.fn 205 [(.ip t 0)])] [] =
    some (.b (!(List.range' 0 l.length).all fun j => !decide (((l.getD j .x).cells.getD 0 .x).toI = (t.cells.getD 0 .x).toI))) := by
  have hll := hl.1
  rw [f204q1_eq, f232q1_eq]
  have key := find_loop (L := fun i => f232q1_l1 l t ((l.length : Nat) : Int) i) (n := l.length) (p := fun j => decide (((l.getD j .x).cells.getD 0 .x).toI = (t.cells.getD 0 .x).toI)) (F := fun i => some (.i .i64 i)) (X := some (.i .i64 (-1))) (fun i hi => ?_) ?_ l.length 0 (by omega)
  · rcases key with ⟨j, _, hj, h1, h2, h3⟩ | ⟨h1, h2⟩
    · rw [show f232q1_l1 l t ((l.length : Nat) : Int) 0 = _ from h3]
      have hj0 : (0 : Int) ≤ (j : Int) := by omega
      simp only [bSh_i, bSh_b, toI_i, toB_b, hj0, decide_true]
      have : ((List.range' 0 l.length).all fun j => !decide (((l.getD j .x).cells.getD 0 .x).toI = (t.cells.getD 0 .x).toI)) = false := by
        rw [List.all_eq_false]
        exact ⟨j, by simp [List.mem_range'_1, hj], by simpa using h1⟩
      rw [this]; rfl
    · rw [show f232q1_l1 l t ((l.length : Nat) : Int) 0 = _ from h2]
      simp only [bSh_i, bSh_b, toI_i, toB_b]
      have : ((List.range' 0 l.length).all fun j => !decide (((l.getD j .x).cells.getD 0 .x).toI = (t.cells.getD 0 .x).toI)) = true := by
        rw [List.all_eq_true]
        intro i hi
        have := h1 i (Nat.zero_le _) (by simpa [List.mem_range'_1] using hi)
        simpa using this
      rw [this]; rfl
  · have hT := hl.at hi
    try dsimp only
    rw [f232q1_l1_eq, dT (show (i : Int) < ((l.length : Nat) : Int) by omega), cond_true, if_pos (by omega), w64 (x := (i : Int) + 1) (by omega) (by omega)]
    simp only [hT.ok, ht.ok0, okC_nil, okC_agg, okC_i, okC_b, okC_s, okC_imm, okL_i, okL_b, okL_s, okL_sl, okS_i, okS_b, okS_s, okS_sl, okS_agg, okS_tup, okS_nil, okS_cons, cells_agg, cells_i, cells_b, cells_s, cells_imm, toI_i, toB_b, toS_s, toL_imm, nth_agg, nth_tup, put_agg, put_i, put_b, put_s, put_imm, setCells, List.getD_cons_zero, List.getD_cons_succ, bSh_b, bSh_i, bSh_s, bSh_sl, bSh_some, cond_true, cond_false, decide_true, decide_false, Int.toNat_natCast, Nat.zero_add, Nat.reduceAdd, beq_self_eq_true, Bool.and_true, Bool.true_and, if_true, Bool.false_eq_true, if_false, List.set_cons_zero, List.set_cons_succ, Bool.not_true, Bool.not_false, Bool.and_self, f205q1_eq]
  · try dsimp only
    rw [f232q1_l1_eq, dF (Int.lt_irrefl _), cond_false]

theorem impl_tables (n z s : Int) (m : List AV) (hm : Rw (T183 1048576) 1048576 m) :
    den E 163 [.agg [(.i .i64 n), (.i .i64 z), (.i .i64 s), (.imm 10 m)]] [] = some (.b (((List.range' 0 m.length).all fun i => okAt n s m i) && decide ((m.length : Int) ≤ 16))) := by
  have hml := hm.1
  rw [f163_eq]
  have := all_loop (L := fun i => f163_l1 m ((m.length : Nat) : Int) i n z s m) (n := m.length) (p := fun i => okAt n s m i) (X := some (.b (decide ((m.length : Int) ≤ 16)))) (F := some (.b false)) (fun i hi => ?_) ?_ m.length 0 (by omega)
  · refine this.trans ?_
    rw [cond_andb]
  · have hT := hm.at hi
    have hlt : Rw (T183 1048576) 1048576 (m.take i) := ⟨by rw [List.length_take]; omega, fun y hy => hm.2 y (List.mem_of_mem_take hy)⟩
    have hid := has_id (m.take i) hlt hT
    have hle : (m.take i).length = i := by rw [List.length_take]; omega
    have hge : ((List.range' 0 i).all fun j => !decide ((((m.take i).getD j .x).cells.getD 0 .x).toI = ((m.getD i .x).cells.getD 0 .x).toI)) = ((List.range' 0 i).all fun j => !decide (((m.getD j .x).cells.getD 0 .x).toI = ((m.getD i .x).cells.getD 0 .x).toI)) := by
      rw [Bool.eq_iff_iff, List.all_eq_true, List.all_eq_true]
      have hg : ∀ j, j ∈ List.range' 0 i → (m.take i).getD j .x = m.getD j .x := fun j hj => by
        rw [getD_take, if_pos (by simpa [List.mem_range'_1] using hj)]
      exact ⟨fun h j hj => by rw [← hg j hj]; exact h j hj, fun h j hj => by rw [hg j hj]; exact h j hj⟩
    rw [hle, hge] at hid
    try dsimp only
    rw [f163_l1_eq, dT (show (i : Int) < ((m.length : Nat) : Int) by omega), cond_true, if_pos (by omega)]
    simp only [Int.toNat_natCast, hT.ok, hT.eta, tb_impl hT, f163_j2_eq, hid, okC_nil, okC_agg, okC_i, okC_b, okC_s, okC_imm, okL_i, okL_b, okL_s, okL_sl, okS_i, okS_b, okS_s, okS_sl, okS_agg, okS_tup, okS_nil, okS_cons, cells_agg, cells_i, cells_b, cells_s, cells_imm, toI_i, toB_b, toS_s, toL_imm, nth_agg, nth_tup, put_agg, put_i, put_b, put_s, put_imm, setCells, List.getD_cons_zero, List.getD_cons_succ, bSh_b, bSh_i, bSh_s, bSh_sl, bSh_some, cond_true, cond_false, decide_true, decide_false, Int.toNat_natCast, Nat.zero_add, Nat.reduceAdd, beq_self_eq_true, Bool.and_true, Bool.true_and, if_true, Bool.false_eq_true, if_false, List.set_cons_zero, List.set_cons_succ, Bool.not_true, Bool.not_false, Bool.and_self]
    rw [w64 (x := (i : Int) + 1) (by omega) (by omega), if_pos (by omega)]
    unfold okAt
    cases htb : tb (m.getD i .x)
    · rfl
    have hlev := tb_level hT htb
    simp only [Bool.not_true, beq_self_eq_true, cond_true, Bool.true_and]
    by_cases h1 : n ≤ ((m.getD i .x).cells.getD 0 .x).toI
    · have h1' : ¬ ((m.getD i .x).cells.getD 0 .x).toI < n := by omega
      simp only [h1, h1', decide_true, decide_false, Bool.false_and, cond_false]
      rfl
    have h1' : ((m.getD i .x).cells.getD 0 .x).toI < n := by omega
    simp only [h1, h1', decide_true, decide_false, Bool.true_and, beq_self_eq_true, cond_true]
    by_cases h2 : s < ((m.getD i .x).cells.getD 8 .x).toI
    · have h2' : ¬ ((m.getD i .x).cells.getD 8 .x).toI ≤ s := by omega
      simp only [h2, h2', decide_true, decide_false, Bool.false_and, cond_false]
      rfl
    have h2' : ((m.getD i .x).cells.getD 8 .x).toI ≤ s := by omega
    simp only [h2, h2', decide_true, decide_false, Bool.true_and, beq_self_eq_true, cond_true]
    generalize ((List.range' 0 i).all fun j => !decide (((m.getD j .x).cells.getD 0 .x).toI = ((m.getD i .x).cells.getD 0 .x).toI)) = u
    cases u
    · simp
    simp only [Bool.not_true, cond_false, Bool.and_true]
    by_cases h0 : i = 0
    · subst h0
      simp
    · have hT1 := hm.at (i := i - 1) (by omega)
      have h0' : ¬ (i : Int) = 0 := by omega
      rw [w64 (x := (i : Int) - 1) (by omega) (by omega), show ((i : Int) - 1).toNat = i - 1 by omega]
      simp only [h0, h0', decide_false, Bool.false_or, cond_false]
      rw [if_pos (by omega), if_pos hT1.ok]
      simp only [hT1.eta, cmpT_impl hT1 hT, okC_nil, okC_agg, okC_i, okC_b, okC_s, okC_imm, okL_i, okL_b, okL_s, okL_sl, okS_i, okS_b, okS_s, okS_sl, okS_agg, okS_tup, okS_nil, okS_cons, cells_agg, cells_i, cells_b, cells_s, cells_imm, toI_i, toB_b, toS_s, toL_imm, nth_agg, nth_tup, put_agg, put_i, put_b, put_s, put_imm, setCells, List.getD_cons_zero, List.getD_cons_succ, bSh_b, bSh_i, bSh_s, bSh_sl, bSh_some, cond_true, cond_false, decide_true, decide_false, Int.toNat_natCast, Nat.zero_add, Nat.reduceAdd, beq_self_eq_true, Bool.and_true, Bool.true_and, if_true, Bool.false_eq_true, if_false, List.set_cons_zero, List.set_cons_succ, Bool.not_true, Bool.not_false, Bool.and_self]
      rw [bef_cmp hlev]
      by_cases h3 : cmpT (m.getD (i - 1) .x) (m.getD i .x) < 0
      · have h3' : ¬ 0 ≤ cmpT (m.getD (i - 1) .x) (m.getD i .x) := by omega
        simp only [h3, h3', decide_true, decide_false, beq_self_eq_true, cond_true, Bool.true_and]
        generalize (lessS ((m.getD (i - 1) .x).cells.getD 6 .x).toS ((m.getD i .x).cells.getD 5 .x).toS || decide (((m.getD (i - 1) .x).cells.getD 6 .x).toS = ((m.getD i .x).cells.getD 5 .x).toS)) = q1
        cases decide (0 < ((m.getD i .x).cells.getD 1 .x).toI) <;> cases decide (((m.getD (i - 1) .x).cells.getD 1 .x).toI = ((m.getD i .x).cells.getD 1 .x).toI) <;> cases q1 <;> rfl
      · have h3' : 0 ≤ cmpT (m.getD (i - 1) .x) (m.getD i .x) := by omega
        simp only [h3, h3', decide_true, decide_false, Bool.false_and, cond_false]
        rfl
  · try dsimp only
    rw [f163_l1_eq, dF (Int.lt_irrefl _), cond_false]

theorem impl_ok (n z s : Int) (m : List AV) (hm : Rw (T183 1048576) 1048576 m) : den E 102 [.agg [(.i .i64 n), (.i .i64 z), (.i .i64 s), (.imm 10 m)]] [] = some (.b (okVersion n z s m)) := by
  rw [f102_eq]
  simp only [okC_nil, okC_agg, okC_i, okC_b, okC_s, okC_imm, okL_i, okL_b, okL_s, okL_sl, okS_i, okS_b, okS_s, okS_sl, okS_agg, okS_tup, okS_nil, okS_cons, cells_agg, cells_i, cells_b, cells_s, cells_imm, toI_i, toB_b, toS_s, toL_imm, nth_agg, nth_tup, put_agg, put_i, put_b, put_s, put_imm, setCells, List.getD_cons_zero, List.getD_cons_succ, bSh_b, bSh_i, bSh_s, bSh_sl, bSh_some, cond_true, cond_false, decide_true, decide_false, Int.toNat_natCast, Nat.zero_add, Nat.reduceAdd, beq_self_eq_true, Bool.and_true, Bool.true_and, if_true, Bool.false_eq_true, if_false, List.set_cons_zero, List.set_cons_succ, Bool.not_true, Bool.not_false, Bool.and_self, in72, impl_tables n z s m hm]
  simp only [beq_true, cond_andb, okVersion]
  congr 2
  ac_rfl


/-- The tables of a zone. -/
noncomputable def inZone (q : Int) (el : AV) : Bool := decide ((el.cells.getD 2 .x).toI = q)

theorem spec_tables (n z s q : Int) (m : List AV) (hm : Rw (T183 1048576) 1048576 m) : den E 161 [(.ip (.agg [(.i .i64 n), (.i .i64 z), (.i .i64 s), (.imm 10 m)]) 0), (.i .i64 q)] [] = some (.imm 10 (m.filter (inZone q))) := by
  have hml := hm.1
  rw [f161_eq]
  have := filter_loop (L := fun i r => f161_l1 (.agg [(.i .i64 n), (.i .i64 z), (.i .i64 s), (.imm 10 m)]) q i [] r) (m := m) (p := inZone q) (F := fun r => some (.imm 10 r)) (fun i r hi hr => ?_) (fun r hr => ?_) m.length 0 [] (by omega) (by simp)
  · simpa using this
  · have hT := hm.at hi
    try dsimp only
    rw [f161_l1_eq]
    simp only [okC_nil, okC_agg, okC_i, okC_b, okC_s, okC_imm, okL_i, okL_b, okL_s, okL_sl, okS_i, okS_b, okS_s, okS_sl, okS_agg, okS_tup, okS_nil, okS_cons, cells_agg, cells_i, cells_b, cells_s, cells_imm, toI_i, toB_b, toS_s, toL_imm, nth_agg, nth_tup, put_agg, put_i, put_b, put_s, put_imm, setCells, List.getD_cons_zero, List.getD_cons_succ, bSh_b, bSh_i, bSh_s, bSh_sl, bSh_some, cond_true, cond_false, decide_true, decide_false, Int.toNat_natCast, Nat.zero_add, Nat.reduceAdd, beq_self_eq_true, Bool.and_true, Bool.true_and, if_true, Bool.false_eq_true, if_false, List.set_cons_zero, List.set_cons_succ, Bool.not_true, Bool.not_false, Bool.and_self]
    rw [dT (show (i : Int) < ((m.length : Nat) : Int) by omega), cond_true, if_pos (by omega)]
    simp only [hT.ok2, hT.ok, hT.eta, f161_j2_eq, if_true, List.length_cons, List.length_nil]
    rw [w64 (x := (i : Int) + 1) (by omega) (by omega)]
    unfold inZone
    by_cases hc : ((m.getD i .x).cells.getD 2 .x).toI = q
    · rw [if_pos (show (r.length + (0 + 1)) * 96 ≤ room by simp only [room]; omega)]
      simp only [hc, decide_true, cond_true, if_true]
      rw [if_pos (by omega)]
    · simp only [hc, decide_false, cond_false, Bool.false_eq_true, if_false]
  · try dsimp only
    rw [f161_l1_eq]
    simp only [okC_nil, okC_agg, okC_i, okC_b, okC_s, okC_imm, okL_i, okL_b, okL_s, okL_sl, okS_i, okS_b, okS_s, okS_sl, okS_agg, okS_tup, okS_nil, okS_cons, cells_agg, cells_i, cells_b, cells_s, cells_imm, toI_i, toB_b, toS_s, toL_imm, nth_agg, nth_tup, put_agg, put_i, put_b, put_s, put_imm, setCells, List.getD_cons_zero, List.getD_cons_succ, bSh_b, bSh_i, bSh_s, bSh_sl, bSh_some, cond_true, cond_false, decide_true, decide_false, Int.toNat_natCast, Nat.zero_add, Nat.reduceAdd, beq_self_eq_true, Bool.and_true, Bool.true_and, if_true, Bool.false_eq_true, if_false, List.set_cons_zero, List.set_cons_succ, Bool.not_true, Bool.not_false, Bool.and_self]
    rw [dF (Int.lt_irrefl _), cond_false]

theorem del_q {t : AV} (ht : T183 1048576 t) (q : Int) : den E 209 [t, (.ip (.i .i64 q) 0)] [] = some (.b (!inZone q t)) := by
  obtain ⟨a0, a1, a2, a3, a4, a5, a6, a7, a8, a9, rfl, _⟩ := ht
  rw [f209q1_eq]
  simp only [okC_nil, okC_agg, okC_i, okC_b, okC_s, okC_imm, okL_i, okL_b, okL_s, okL_sl, okS_i, okS_b, okS_s, okS_sl, okS_agg, okS_tup, okS_nil, okS_cons, cells_agg, cells_i, cells_b, cells_s, cells_imm, toI_i, toB_b, toS_s, toL_imm, nth_agg, nth_tup, put_agg, put_i, put_b, put_s, put_imm, setCells, List.getD_cons_zero, List.getD_cons_succ, bSh_b, bSh_i, bSh_s, bSh_sl, bSh_some, cond_true, cond_false, decide_true, decide_false, Int.toNat_natCast, Nat.zero_add, Nat.reduceAdd, beq_self_eq_true, Bool.and_true, Bool.true_and, if_true, Bool.false_eq_true, if_false, List.set_cons_zero, List.set_cons_succ, Bool.not_true, Bool.not_false, Bool.and_self]
  rfl

theorem first_del (m : List AV) (hm : Rw (T183 1048576) 1048576 m) (q : Int) :
    (den E 232 [(.imm 10 m), (.fn 209 [(.ip (.i .i64 q) 0)])] [] = some (.i .i64 (-1)) ∧ ∀ i, i < m.length → inZone q (m.getD i .x) = true) ∨
    ∃ j : Nat, j < m.length ∧ den E 232 [(.imm 10 m), (.fn 209 [(.ip (.i .i64 q) 0)])] [] = some (.i .i64 j) ∧ inZone q (m.getD j .x) = false ∧ ∀ i, i < j → inZone q (m.getD i .x) = true := by
  have hll := hm.1
  have key := find_loop (L := fun i => f232q2_l1 m (.i .i64 q) ((m.length : Nat) : Int) i) (n := m.length) (p := fun j => !inZone q (m.getD j .x)) (F := fun i => some (.i .i64 i)) (X := some (.i .i64 (-1))) (fun i hi => ?_) ?_ m.length 0 (by omega)
  · rw [f232q2_eq]
    rcases key with ⟨j, _, hj, h1, h2, h3⟩ | ⟨h1, h2⟩
    · exact .inr ⟨j, hj, h3, by simpa using h1, fun i hi => by simpa using h2 i (Nat.zero_le _) hi⟩
    · exact .inl ⟨h2, fun i hi => by simpa using h1 i (Nat.zero_le _) hi⟩
  · have hT := hm.at hi
    try dsimp only
    rw [f232q2_l1_eq, dT (show (i : Int) < ((m.length : Nat) : Int) by omega), cond_true, if_pos (by omega), w64 (x := (i : Int) + 1) (by omega) (by omega)]
    simp only [Int.toNat_natCast, hT.ok, hT.eta, del_q hT, okC_nil, okC_agg, okC_i, okC_b, okC_s, okC_imm, okL_i, okL_b, okL_s, okL_sl, okS_i, okS_b, okS_s, okS_sl, okS_agg, okS_tup, okS_nil, okS_cons, cells_agg, cells_i, cells_b, cells_s, cells_imm, toI_i, toB_b, toS_s, toL_imm, nth_agg, nth_tup, put_agg, put_i, put_b, put_s, put_imm, setCells, List.getD_cons_zero, List.getD_cons_succ, bSh_b, bSh_i, bSh_s, bSh_sl, bSh_some, cond_true, cond_false, decide_true, decide_false, Int.toNat_natCast, Nat.zero_add, Nat.reduceAdd, beq_self_eq_true, Bool.and_true, Bool.true_and, if_true, Bool.false_eq_true, if_false, List.set_cons_zero, List.set_cons_succ, Bool.not_true, Bool.not_false, Bool.and_self]
  · try dsimp only
    rw [f232q2_l1_eq, dF (Int.lt_irrefl _), cond_false]

theorem impl_del (m : List AV) (hm : Rw (T183 1048576) 1048576 m) (q : Int) :
    ∃ r : List AV, dno E 207 [(.sl 0 [] none), (.fn 209 [(.ip (.i .i64 q) 0)])] [(.live true false false 185 m)] =
      some (.sl 0 [] (some (0, (m.filter (inZone q)).length)), [.live true false false 185 r]) ∧ r.length = m.length ∧ (∀ y, y ∈ r → flatV y = true) ∧ r.take (m.filter (inZone q)).length = m.filter (inZone q) := by
  have hml := hm.1
  have hfl : ∀ y, T183 1048576 y → flatV y = true := fun y hy => by
    obtain ⟨a0, a1, a2, a3, a4, a5, a6, a7, a8, a9, rfl, _⟩ := hy; rfl
  rw [f207o1_eq]
  rcases first_del m hm q with ⟨h1, h2⟩ | ⟨j, hj, h1, h2, h3⟩
  · have hf : m.filter (inZone q) = m := List.filter_eq_self.2 fun y hy => by
      obtain ⟨i, hi, rfl⟩ := List.getElem_of_mem hy
      have := h2 i hi
      rwa [List.getD_eq_getElem?_getD, List.getElem?_eq_getElem hi] at this
    rw [h1, hf]
    exact ⟨m, rfl, rfl, fun y hy => hfl y (hm.2 y hy), by simp⟩
  · rw [h1]
    simp only [bSh_i, toI_i]
    have hj1 : ¬ (j : Int) = -1 := by omega
    have hjn : (m.take j).filter (inZone q) = m.take j := List.filter_eq_self.2 fun y hy => by
      obtain ⟨i, hi, rfl⟩ := List.getElem_of_mem hy
      have hij : i < j := by rw [List.length_take] at hi; omega
      have := h3 i hij
      rw [List.getD_eq_getElem?_getD, List.getElem?_eq_getElem (by omega)] at this
      rw [List.getElem_take]; exact this
    simp only [hj1, decide_false, cond_false]
    rw [w64 (x := (j : Int) + 1) (by omega) (by omega), show ((j : Int) + 1) = ((j + 1 : Nat) : Int) by omega]
    let W : Nat → List AV → List AV := fun k r => r.take k ++ List.replicate (r.length - k) (.agg [(.i .i64 (0 : Int)), (.i .i64 (0 : Int)), (.i .i64 (0 : Int)), (.i .i64 (0 : Int)), (.i .i64 (0 : Int)), (.s .empty), (.s .empty), (.i .i64 (0 : Int)), (.i .i64 (0 : Int)), (.i .i64 (0 : Int))]) ++ r.drop (k + (r.length - k))
    have key : ∃ r', f207o1_l1 (.i .i64 q) (j : Int) ((j + 1 : Nat) : Int) m = some (.sl 0 [] (some (0, (m.filter (inZone q)).length)), [.live true false false 185 (W (m.filter (inZone q)).length r')]) ∧ r'.length = m.length ∧ r'.take (m.filter (inZone q)).length = m.filter (inZone q) := by
      refine del_loop (L := fun k i r => f207o1_l1 (.i .i64 q) k i r) (m := m) (p := inZone q) (T := T183 1048576) (F := fun k r => some (.sl 0 [] (some (0, k)), [.live true false false 185 (W k r)])) hm.2 (fun i k r hi hk hl hg hr => ?_) (fun k r hk hl => ?_) (m.length - (j + 1)) (j + 1) j m (by omega) (by omega) rfl hm.2 ?_ rfl
      · have hT := hm.at hi
        have hT' : T183 1048576 (r.getD k .x) := hr _ (getD_mem (by omega))
        try dsimp only
        rw [f207o1_l1_eq, dT (show (i : Int) < ((r.length : Nat) : Int) by omega), cond_true, if_pos (by omega)]
        simp only [Nat.zero_add, Int.toNat_natCast, hg, hT.ok, hT.eta, del_q hT, okC_nil, okC_agg, okC_i, okC_b, okC_s, okC_imm, okL_i, okL_b, okL_s, okL_sl, okS_i, okS_b, okS_s, okS_sl, okS_agg, okS_tup, okS_nil, okS_cons, cells_agg, cells_i, cells_b, cells_s, cells_imm, toI_i, toB_b, toS_s, toL_imm, nth_agg, nth_tup, put_agg, put_i, put_b, put_s, put_imm, setCells, List.getD_cons_zero, List.getD_cons_succ, bSh_b, bSh_i, bSh_s, bSh_sl, bSh_some, cond_true, cond_false, decide_true, decide_false, Int.toNat_natCast, Nat.zero_add, Nat.reduceAdd, beq_self_eq_true, Bool.and_true, Bool.true_and, if_true, Bool.false_eq_true, if_false, List.set_cons_zero, List.set_cons_succ, Bool.not_true, Bool.not_false, Bool.and_self, f207o1_j2_eq]
        rw [w64 (x := (k : Int) + 1) (by omega) (by omega), if_pos (by omega), w64 (x := (i : Int) + 1) (by omega) (by omega)]
        have hput : (r.getD k .x).putCells 0 (m.getD i .x).cells = m.getD i .x := by
          obtain ⟨a0, a1, a2, a3, a4, a5, a6, a7, a8, a9, e1, _⟩ := hT'
          obtain ⟨b0, b1, b2, b3, b4, b5, b6, b7, b8, b9, e2, _⟩ := hT
          rw [e1, e2]; rfl
        have hcl : [(.i .i64 ((m.getD i .x).cells.getD 0 .x).toI), (.i .i64 ((m.getD i .x).cells.getD 1 .x).toI), (.i .i64 ((m.getD i .x).cells.getD 2 .x).toI), (.i .i64 ((m.getD i .x).cells.getD 3 .x).toI), (.i .i64 ((m.getD i .x).cells.getD 4 .x).toI), (.s ((m.getD i .x).cells.getD 5 .x).toS), (.s ((m.getD i .x).cells.getD 6 .x).toS), (.i .i64 ((m.getD i .x).cells.getD 7 .x).toI), (.i .i64 ((m.getD i .x).cells.getD 8 .x).toI), (.i .i64 ((m.getD i .x).cells.getD 9 .x).toI)] = (m.getD i .x).cells := by
          obtain ⟨b0, b1, b2, b3, b4, b5, b6, b7, b8, b9, e2, _⟩ := hT
          rw [e2]; rfl
        rw [hcl, hput]
        cases inZone q (m.getD i .x) <;> simp
      · try dsimp only
        rw [f207o1_l1_eq, dF (show ¬ ((m.length : Nat) : Int) < ((r.length : Nat) : Int) by omega), cond_false, if_pos (by omega)]
        simp only [Int.toNat_natCast]
        rw [if_pos (by simp only [List.length_append, List.length_take, List.length_replicate, List.length_drop]; omega)]
        rfl
      · rw [take_getD hj, List.filter_append, hjn, List.filter_cons, if_neg (by rw [h2]; decide)]
        simp
    obtain ⟨r', g1, g2, g3⟩ := key
    have hWl : (W (m.filter (inZone q)).length r').length = m.length := by
      have : (m.filter (inZone q)).length ≤ m.length := List.length_filter_le _ _
      simp only [W, List.length_append, List.length_take, List.length_replicate, List.length_drop]
      omega
    have hle : (m.filter (inZone q)).length ≤ r'.length := by rw [g2]; exact List.length_filter_le _ _
    refine ⟨W (m.filter (inZone q)).length r', g1, hWl, fun y hy => ?_, ?_⟩
    · simp only [W, List.mem_append] at hy
      rcases hy with (hy | hy) | hy
      · rw [g3] at hy
        exact hfl y (hm.2 y (List.mem_filter.1 hy).1)
      · rw [(List.mem_replicate.1 hy).2]; rfl
      · rw [List.drop_eq_nil_of_le (by omega)] at hy; cases hy
    · simp only [W, List.append_assoc]
      rw [List.take_append_of_le_length (by rw [List.length_take]; omega), List.take_take, Nat.min_self, g3]

theorem impl_in (n z s q : Int) (m : List AV) (hm : Rw (T183 1048576) 1048576 m) : den E 164 [.agg [(.i .i64 n), (.i .i64 z), (.i .i64 s), (.imm 10 m)], (.i .i64 q)] [] = some (.imm 10 (m.filter (inZone q))) := by
  have hml := hm.1
  obtain ⟨r, h1, h2, h3, h4⟩ := impl_del m hm q
  rw [f164_eq, f208_eq, if_pos ⟨rfl, by simp only [room]; omega⟩]
  rw [bOwn_so]
  show bOwnF _ _ _ (dno E _ _ [.live true false false 185 m]) _ = _
  rw [h1, bOwnF_pr _ _ _ _ (flatVL_of h3)]
  show some (AV.imm 10 ((r.drop 0).take (m.filter (inZone q)).length)) = _
  rw [List.drop_zero, h4]


theorem live (n z s q : Int) (m : List AV) (hm : Rw (T183 1048576) 1048576 m) : ∃ a : Int, den E 100 [(.ip (.agg [(.i .i64 n), (.i .i64 z), (.i .i64 s), (.imm 10 m)]) 0), (.i .i64 q)] [] = some (.i .i64 a) ∧
    den E 103 [.agg [(.i .i64 n), (.i .i64 z), (.i .i64 s), (.imm 10 m)], (.i .i64 q)] [] = some (.i .i64 a) := by
  have hF : Rw (T183 1048576) 1048576 (m.filter (inZone q)) := ⟨Nat.le_trans (List.length_filter_le _ _) hm.1, fun y hy => hm.2 y (List.mem_filter.1 hy).1⟩
  rw [f100_eq, f103_eq, spec_tables n z s q m hm, impl_in n z s q m hm]
  simp only [bSh_sl, toL_imm]
  generalize m.filter (inZone q) = l at hF
  have hl := hF.1
  refine same_loop (L := fun a i => f100_l1 l a i) (L' := fun a i => f103_l1 a l ((l.length : Nat) : Int) i) (n := l.length) (F := fun a => some (.i .i64 a)) (F' := fun a => some (.i .i64 a)) (fun a i hi => ?_) (fun a => ?_) l.length 0 0 (by omega)
  · have hT := hF.at hi
    refine ⟨IntKind.i64.wrap (a + ((l.getD i .x).cells.getD 4 .x).toI), ?_, ?_⟩
    · try dsimp only
      rw [f100_l1_eq, dT (show (i : Int) < ((l.length : Nat) : Int) by omega), cond_true, if_pos (by omega), w64 (x := (i : Int) + 1) (by omega) (by omega)]
      simp only [Int.toNat_natCast, hT.ok4, if_true]
    · try dsimp only
      rw [f103_l1_eq, dT (show (i : Int) < ((l.length : Nat) : Int) by omega), cond_true, if_pos (by omega), w64 (x := (i : Int) + 1) (by omega) (by omega)]
      simp only [Int.toNat_natCast, hT.ok, if_true]
  · try dsimp only
    rw [f100_l1_eq, f103_l1_eq, dF (Int.lt_irrefl _), cond_false, cond_false]
    exact ⟨rfl, rfl⟩

theorem pure (el : AV) (h : T51 9223372036854775807 el) (q : Int) (_ : W64 q) : den E 7 [el, (.i .i64 q)] [] = some (.b true) := by
  obtain ⟨r, hr, hq⟩ := sz37 h 1048576 (by omega) (by omega)
  obtain ⟨n, z, s, m, rfl, w0, w1, w2, w3, _⟩ := h
  rw [f7_eq, hr]
  simp only [bSh_i, toI_i]
  rcases hq with hq | ⟨h0, h1, hT⟩
  · simp only [hq, decide_true, cond_true]
  have hn : ¬ r < 0 := by omega
  simp only [hn, decide_false, cond_false]
  have ht := to39 hT
  have he := eq41 hT
  obtain ⟨b0, b1, b2, b3, hb, v0, v1, v2, v3, _⟩ := hT
  cases hb
  obtain ⟨a, g1, g2⟩ := live n z s q m v3
  simp only [ht, he, okC_nil, okC_agg, okC_i, okC_b, okC_s, okC_imm, okL_i, okL_b, okL_s, okL_sl, okS_i, okS_b, okS_s, okS_sl, okS_agg, okS_tup, okS_nil, okS_cons, cells_agg, cells_i, cells_b, cells_s, cells_imm, toI_i, toB_b, toS_s, toL_imm, nth_agg, nth_tup, put_agg, put_i, put_b, put_s, put_imm, setCells, List.getD_cons_zero, List.getD_cons_succ, bSh_b, bSh_i, bSh_s, bSh_sl, bSh_some, cond_true, cond_false, decide_true, decide_false, Int.toNat_natCast, Nat.zero_add, Nat.reduceAdd, beq_self_eq_true, Bool.and_true, Bool.true_and, if_true, Bool.false_eq_true, if_false, List.set_cons_zero, List.set_cons_succ, Bool.not_true, Bool.not_false, Bool.and_self, f38_eq, f40_eq, spec_ok n z s m v3, impl_ok n z s m v3]
  cases okVersion n z s m
  · simp only [Bool.not_false, cond_true, okC_nil, okC_agg, okC_i, okC_b, okC_s, okC_imm, okL_i, okL_b, okL_s, okL_sl, okS_i, okS_b, okS_s, okS_sl, okS_agg, okS_tup, okS_nil, okS_cons, cells_agg, cells_i, cells_b, cells_s, cells_imm, toI_i, toB_b, toS_s, toL_imm, nth_agg, nth_tup, put_agg, put_i, put_b, put_s, put_imm, setCells, List.getD_cons_zero, List.getD_cons_succ, bSh_b, bSh_i, bSh_s, bSh_sl, bSh_some, cond_true, cond_false, decide_true, decide_false, Int.toNat_natCast, Nat.zero_add, Nat.reduceAdd, beq_self_eq_true, Bool.and_true, Bool.true_and, if_true, Bool.false_eq_true, if_false, List.set_cons_zero, List.set_cons_succ, Bool.not_true, Bool.not_false, Bool.and_self]
  · simp only [Bool.not_true, cond_false, g1, g2, okC_nil, okC_agg, okC_i, okC_b, okC_s, okC_imm, okL_i, okL_b, okL_s, okL_sl, okS_i, okS_b, okS_s, okS_sl, okS_agg, okS_tup, okS_nil, okS_cons, cells_agg, cells_i, cells_b, cells_s, cells_imm, toI_i, toB_b, toS_s, toL_imm, nth_agg, nth_tup, put_agg, put_i, put_b, put_s, put_imm, setCells, List.getD_cons_zero, List.getD_cons_succ, bSh_b, bSh_i, bSh_s, bSh_sl, bSh_some, cond_true, cond_false, decide_true, decide_false, Int.toNat_natCast, Nat.zero_add, Nat.reduceAdd, beq_self_eq_true, Bool.and_true, Bool.true_and, if_true, Bool.false_eq_true, if_false, List.set_cons_zero, List.set_cons_succ, Bool.not_true, Bool.not_false, Bool.and_self]
end Go.Proofs.Ythlmjmejnlalaab.ILiveInZone
