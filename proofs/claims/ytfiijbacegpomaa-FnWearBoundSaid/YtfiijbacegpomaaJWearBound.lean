--#dropmissing
/- WearBound: after every round no erase count exceeds the bound. No condition beyond what each theorem states. -/
import Derived.Test.YtfiijbacegpomaaIWearBoundf
import Derived.Test.YtfiijbacegpomaaItMk
namespace Go.Proofs.Ytfiijbacegpomaa.IWearBound
open Go Go.Proofs.YtfiijbacegpomaaIT
set_option linter.unusedSimpArgs false
set_option linter.unusedVariables false

theorem in90 (a lo hi : Int) : den E 59 [(.i .i64 a), (.i .i64 lo), (.i .i64 hi)] [] = some (.b (decide (lo ≤ a) && decide (a ≤ hi))) := by
  rw [f59_eq, beq_true, cond_andb]
theorem in72 (a lo hi : Int) : den E 75 [(.i .i64 a), (.i .i64 lo), (.i .i64 hi)] [] = some (.b (decide (lo ≤ a) && decide (a ≤ hi))) := by
  rw [f75_eq, beq_true, cond_andb]


theorem t2_put {B : Nat} {y v : AV} (h : T2 B y) : y.putCells 0 [v] = v := by obtain ⟨_, rfl, _⟩ := h; rfl
theorem t4_put {B : Nat} {y v : AV} (h : T4 B y) : y.putCells 0 [v] = v := by obtain ⟨_, rfl, _⟩ := h; rfl
theorem t2_flat {B C : Nat} {l : List AV} (h : Rw (T2 B) C l) : flatVL l = true := flatVL_of fun y hy => by obtain ⟨_, rfl, _⟩ := h.2 y hy; rfl
theorem t4_flat {B C : Nat} {l : List AV} (h : Rw (T4 B) C l) : flatVL l = true := flatVL_of fun y hy => by obtain ⟨_, rfl, _⟩ := h.2 y hy; rfl

/-! Copies in memory of the call's own. -/
/-! Marks. -/
/-! Rows of numbers. -/
noncomputable def iA (m : List AV) (i : Nat) : Int := ((m.getD i .x).cells.getD 0 .x).toI
noncomputable def bA (m : List AV) (i : Nat) : Bool := ((m.getD i .x).cells.getD 0 .x).toB

def idxL (n : Nat) : List AV := mkL n fun i => .i .i64 (i : Int)
theorem idxL_length (n : Nat) : (idxL n).length = n := mkL_length _ _
theorem idxL_getD {n i : Nat} (h : i < n) : (idxL n).getD i .x = .i .i64 (i : Int) := mkL_getD h

/-! A wear state is valid. -/
noncomputable def okW (e b c : List AV) (i : Nat) : Bool := (decide (0 ≤ iA e i) && decide (iA e i ≤ 1000)) && ((decide (0 ≤ iA c i) && decide (iA c i ≤ 2)) && !(bA b i && !decide (iA c i = 0)))
noncomputable def okWear (e b c : List AV) (n : Int) : Bool := (decide (1 ≤ ((e.length : Nat) : Int)) && decide (((e.length : Nat) : Int) ≤ 36)) && (decide (((b.length : Nat) : Int) = ((e.length : Nat) : Int)) && (decide (((c.length : Nat) : Int) = ((e.length : Nat) : Int)) && ((decide (1 ≤ n) && decide (n ≤ 100)) && (List.range' 0 e.length).all (okW e b c))))

theorem spec_wl {e b c : List AV} (n : Int) (he : Rw (T2 1048576) 1048576 e) (hb : Rw (T4 1048576) 1048576 b) (hc : Rw (T2 1048576) 1048576 c) (hbl : b.length = e.length) (hcl : c.length = e.length) :
    f13_l1 ((e.length : Nat) : Int) 0 e b c n = some (.b ((List.range' 0 e.length).all (okW e b c))) := by
  have hel := he.1
  refine (all_loop (L := fun i => f13_l1 ((e.length : Nat) : Int) i e b c n) (n := e.length) (p := okW e b c) (X := some (.b true)) (F := some (.b false)) (fun i hi => ?_) ?_ e.length 0 (by omega)).trans (by rw [cond_andb, Bool.and_true])
  · have h1 := he.at hi
    have h2 := hb.at (i := i) (by omega)
    have h3 := hc.at (i := i) (by omega)
    try dsimp only
    have g1 : (0 : Int) ≤ (i : Int) := by omega
    have g2 : (i : Int) < ((e.length : Nat) : Int) := by omega
    have g3 : (i : Int) < ((b.length : Nat) : Int) := by omega
    have g4 : (i : Int) < ((c.length : Nat) : Int) := by omega
    rw [f13_l1_eq, dT (show (i : Int) < ((e.length : Nat) : Int) by omega), cond_true]
    simp only [Int.toNat_natCast, h1.ok, h2.ok, h3.ok, in90, f13_j2_eq, g1, g2, g3, g4, and_self, okC_nil, okC_agg, okC_i, okC_b, okC_s, okC_imm, okL_i, okL_b, okL_s, okL_sl, okS_i, okS_b, okS_s, okS_sl, okS_agg, okS_tup, okS_nil, okS_cons, cells_agg, cells_i, cells_b, cells_s, cells_imm, toI_i, toB_b, toS_s, toL_imm, nth_agg, nth_tup, put_agg, put_i, put_b, put_s, put_imm, setCells, List.getD_cons_zero, List.getD_cons_succ, bSh_b, bSh_i, bSh_s, bSh_sl, bSh_some, cond_true, cond_false, decide_true, decide_false, Int.toNat_natCast, Nat.zero_add, Nat.reduceAdd, beq_self_eq_true, Bool.and_true, Bool.true_and, if_true, Bool.false_eq_true, if_false, List.set_cons_zero, List.set_cons_succ, Bool.not_true, Bool.not_false, Bool.and_self]
    rw [w64 (x := (i : Int) + 1) (by omega) (by omega)]
    unfold okW iA bA
    cases (decide (0 ≤ ((e.getD i .x).cells.getD 0 .x).toI) && decide (((e.getD i .x).cells.getD 0 .x).toI ≤ 1000)) <;>
      cases (decide (0 ≤ ((c.getD i .x).cells.getD 0 .x).toI) && decide (((c.getD i .x).cells.getD 0 .x).toI ≤ 2)) <;>
      cases ((b.getD i .x).cells.getD 0 .x).toB <;> cases decide (((c.getD i .x).cells.getD 0 .x).toI = 0) <;> rfl
  · try dsimp only
    rw [f13_l1_eq, dF (Int.lt_irrefl _), cond_false]
theorem impl_wl {e b c : List AV} (n : Int) (he : Rw (T2 1048576) 1048576 e) (hb : Rw (T4 1048576) 1048576 b) (hc : Rw (T2 1048576) 1048576 c) (hbl : b.length = e.length) (hcl : c.length = e.length) :
    f54_l1 c ((c.length : Nat) : Int) 0 e b c n = some (.b ((List.range' 0 e.length).all (okW e b c))) := by
  have hel := he.1
  refine (all_loop (L := fun i => f54_l1 c ((c.length : Nat) : Int) i e b c n) (n := e.length) (p := okW e b c) (X := some (.b true)) (F := some (.b false)) (fun i hi => ?_) ?_ e.length 0 (by omega)).trans (by rw [cond_andb, Bool.and_true])
  · have h1 := he.at hi
    have h2 := hb.at (i := i) (by omega)
    have h3 := hc.at (i := i) (by omega)
    try dsimp only
    have g1 : (0 : Int) ≤ (i : Int) := by omega
    have g2 : (i : Int) < ((e.length : Nat) : Int) := by omega
    have g3 : (i : Int) < ((b.length : Nat) : Int) := by omega
    have g4 : (i : Int) < ((c.length : Nat) : Int) := by omega
    rw [f54_l1_eq, dT (show (i : Int) < ((c.length : Nat) : Int) by omega), cond_true]
    simp only [Int.toNat_natCast, h1.ok, h2.ok, h3.ok, in72, f54_j2_eq, g1, g2, g3, g4, and_self, okC_nil, okC_agg, okC_i, okC_b, okC_s, okC_imm, okL_i, okL_b, okL_s, okL_sl, okS_i, okS_b, okS_s, okS_sl, okS_agg, okS_tup, okS_nil, okS_cons, cells_agg, cells_i, cells_b, cells_s, cells_imm, toI_i, toB_b, toS_s, toL_imm, nth_agg, nth_tup, put_agg, put_i, put_b, put_s, put_imm, setCells, List.getD_cons_zero, List.getD_cons_succ, bSh_b, bSh_i, bSh_s, bSh_sl, bSh_some, cond_true, cond_false, decide_true, decide_false, Int.toNat_natCast, Nat.zero_add, Nat.reduceAdd, beq_self_eq_true, Bool.and_true, Bool.true_and, if_true, Bool.false_eq_true, if_false, List.set_cons_zero, List.set_cons_succ, Bool.not_true, Bool.not_false, Bool.and_self]
    rw [w64 (x := (i : Int) + 1) (by omega) (by omega)]
    unfold okW iA bA
    cases (decide (0 ≤ ((e.getD i .x).cells.getD 0 .x).toI) && decide (((e.getD i .x).cells.getD 0 .x).toI ≤ 1000)) <;>
      cases (decide (0 ≤ ((c.getD i .x).cells.getD 0 .x).toI) && decide (((c.getD i .x).cells.getD 0 .x).toI ≤ 2)) <;>
      cases ((b.getD i .x).cells.getD 0 .x).toB <;> cases decide (((c.getD i .x).cells.getD 0 .x).toI = 0) <;> rfl
  · try dsimp only
    rw [f54_l1_eq, hcl, dF (Int.lt_irrefl _), cond_false]

theorem spec_wear {e b c : List AV} (n : Int) (he : Rw (T2 1048576) 1048576 e) (hb : Rw (T4 1048576) 1048576 b) (hc : Rw (T2 1048576) 1048576 c) :
    den E 13 [(.agg [(.imm 1 e), (.imm 1 b), (.imm 1 c), (.i .i64 n)])] [] = some (.b (okWear e b c n)) := by
  rw [f13_eq]
  unfold okWear
  by_cases h1 : ((e.length : Nat) : Int) < 1
  · have h1' : ¬ (1 : Int) ≤ ((e.length : Nat) : Int) := by omega
    simp only [h1, h1', decide_true, decide_false, Bool.false_and]; rfl
  have h1' : (1 : Int) ≤ ((e.length : Nat) : Int) := by omega
  by_cases h2 : (36 : Int) < ((e.length : Nat) : Int)
  · have h2' : ¬ ((e.length : Nat) : Int) ≤ 36 := by omega
    simp only [h1, h1', h2, h2', decide_true, decide_false, Bool.false_and, Bool.true_and]; rfl
  have h2' : ((e.length : Nat) : Int) ≤ 36 := by omega
  by_cases hbl : ((b.length : Nat) : Int) = ((e.length : Nat) : Int)
  rotate_left
  · simp only [h1, h1', h2, h2', hbl, decide_true, decide_false, Bool.false_and, Bool.true_and]; rfl
  by_cases hcl : ((c.length : Nat) : Int) = ((e.length : Nat) : Int)
  rotate_left
  · simp only [h1, h1', h2, h2', hbl, hcl, decide_true, decide_false, Bool.false_and, Bool.true_and]; rfl
  rw [spec_wl n he hb hc (by omega) (by omega)]
  simp only [h1, h1', h2, h2', hbl, hcl, in90, okC_nil, okC_agg, okC_i, okC_b, okC_s, okC_imm, okL_i, okL_b, okL_s, okL_sl, okS_i, okS_b, okS_s, okS_sl, okS_agg, okS_tup, okS_nil, okS_cons, cells_agg, cells_i, cells_b, cells_s, cells_imm, toI_i, toB_b, toS_s, toL_imm, nth_agg, nth_tup, put_agg, put_i, put_b, put_s, put_imm, setCells, List.getD_cons_zero, List.getD_cons_succ, bSh_b, bSh_i, bSh_s, bSh_sl, bSh_some, cond_true, cond_false, decide_true, decide_false, Int.toNat_natCast, Nat.zero_add, Nat.reduceAdd, beq_self_eq_true, Bool.and_true, Bool.true_and, if_true, Bool.false_eq_true, if_false, List.set_cons_zero, List.set_cons_succ, Bool.not_true, Bool.not_false, Bool.and_self]
  cases (decide (1 ≤ n) && decide (n ≤ 100)) <;> rfl
theorem impl_wear {e b c : List AV} (n : Int) (he : Rw (T2 1048576) 1048576 e) (hb : Rw (T4 1048576) 1048576 b) (hc : Rw (T2 1048576) 1048576 c) :
    den E 54 [(.agg [(.imm 1 e), (.imm 1 b), (.imm 1 c), (.i .i64 n)])] [] = some (.b (okWear e b c n)) := by
  rw [f54_eq]
  unfold okWear
  simp only [in72, okC_nil, okC_agg, okC_i, okC_b, okC_s, okC_imm, okL_i, okL_b, okL_s, okL_sl, okS_i, okS_b, okS_s, okS_sl, okS_agg, okS_tup, okS_nil, okS_cons, cells_agg, cells_i, cells_b, cells_s, cells_imm, toI_i, toB_b, toS_s, toL_imm, nth_agg, nth_tup, put_agg, put_i, put_b, put_s, put_imm, setCells, List.getD_cons_zero, List.getD_cons_succ, bSh_b, bSh_i, bSh_s, bSh_sl, bSh_some, cond_true, cond_false, decide_true, decide_false, Int.toNat_natCast, Nat.zero_add, Nat.reduceAdd, beq_self_eq_true, Bool.and_true, Bool.true_and, if_true, Bool.false_eq_true, if_false, List.set_cons_zero, List.set_cons_succ, Bool.not_true, Bool.not_false, Bool.and_self]
  cases (decide (1 ≤ ((e.length : Nat) : Int)) && decide (((e.length : Nat) : Int) ≤ 36))
  · rfl
  by_cases hbl : ((b.length : Nat) : Int) = ((e.length : Nat) : Int)
  rotate_left
  · simp only [hbl, decide_false, Bool.false_and, Bool.true_and]; rfl
  by_cases hcl : ((c.length : Nat) : Int) = ((e.length : Nat) : Int)
  rotate_left
  · simp only [hbl, hcl, decide_true, decide_false, Bool.false_and, Bool.true_and]; rfl
  rw [impl_wl n he hb hc (by omega) (by omega)]
  simp only [hbl, hcl, okC_nil, okC_agg, okC_i, okC_b, okC_s, okC_imm, okL_i, okL_b, okL_s, okL_sl, okS_i, okS_b, okS_s, okS_sl, okS_agg, okS_tup, okS_nil, okS_cons, cells_agg, cells_i, cells_b, cells_s, cells_imm, toI_i, toB_b, toS_s, toL_imm, nth_agg, nth_tup, put_agg, put_i, put_b, put_s, put_imm, setCells, List.getD_cons_zero, List.getD_cons_succ, bSh_b, bSh_i, bSh_s, bSh_sl, bSh_some, cond_true, cond_false, decide_true, decide_false, Int.toNat_natCast, Nat.zero_add, Nat.reduceAdd, beq_self_eq_true, Bool.and_true, Bool.true_and, if_true, Bool.false_eq_true, if_false, List.set_cons_zero, List.set_cons_succ, Bool.not_true, Bool.not_false, Bool.and_self]
  cases (decide (1 ≤ n) && decide (n ≤ 100)) <;> rfl

/-! The good free blocks. -/
noncomputable def goodB (b : List AV) (y : AV) : Bool := !bA b y.toI.toNat
noncomputable def freeB (c : List AV) (y : AV) : Bool := decide (iA c y.toI.toNat = 0)
noncomputable def freeL (e b c : List AV) : List AV := ((idxL e.length).filter (goodB b)).filter (freeB c)
/-- Numbers of blocks. -/
def Blk (n : Nat) (y : AV) : Prop := ∃ j : Nat, j < n ∧ y = .i .i64 (j : Int)
theorem idxL_blk (n : Nat) : ∀ y, y ∈ idxL n → Blk n y := by
  intro y hy
  obtain ⟨i, hi, rfl⟩ := List.mem_map.1 hy
  exact ⟨i, List.mem_range.1 hi, rfl⟩
theorem Blk.t2 {n : Nat} {y : AV} (h : Blk n y) (hn : n ≤ 1048576) : T2 1048576 y := by
  obtain ⟨j, hj, rfl⟩ := h
  exact ⟨_, rfl, by constructor <;> omega, trivial⟩

theorem impl_good {e b : List AV} (he : e.length ≤ 1048576) (hb : Rw (T4 1048576) 1048576 b) (hbl : b.length = e.length) :
    dno E 62 [(.imm 1 e), (.imm 1 b)] [] = some (.sl 0 [] none, [.live true false false 2 ((idxL e.length).filter (goodB b))]) := by
  rw [f62o1_eq]
  have := filter_loop (L := fun i r => f62o1_l1 b ((e.length : Nat) : Int) i r) (m := idxL e.length) (p := goodB b) (F := fun r => some (.sl 0 [] none, [.live true false false 2 r])) (fun i r hi hr => ?_) (fun r hr => ?_) e.length 0 [] (by rw [idxL_length]; omega) (by simp)
  · refine Eq.trans ?_ (this.trans ?_)
    · rfl
    · simp only [List.nil_append, List.drop_zero]
  · rw [idxL_length] at hi
    have h2 := hb.at (i := i) (by omega)
    try dsimp only
    rw [f62o1_l1_eq, dT (show (i : Int) < ((e.length : Nat) : Int) by omega), cond_true, dF (show ¬ ((b.length : Nat) : Int) ≤ (i : Int) by omega), if_pos (by omega)]
    simp only [Int.toNat_natCast, h2.ok, f62o1_j2_eq, f62o1_j3_eq, if_true, beq_self_eq_true, cond_true]
    rw [if_pos (show (r.length + ([(.i .i64 (i : Int))] : List AV).length) * 8 ≤ room by simp only [room, List.length_cons, List.length_nil]; omega), w64 (x := (i : Int) + 1) (by omega) (by omega), idxL_getD hi]
    unfold goodB bA
    simp only [toI_i, Int.toNat_natCast]
    by_cases hbv : ((b.getD i .x).cells.getD 0 .x).toB = true
    · simp only [hbv, Bool.not_true, Bool.false_eq_true, if_false, cond_false]
    · rw [Bool.not_eq_true] at hbv
      simp only [hbv, Bool.not_false, if_true, cond_true]
  · rw [idxL_length]
    try dsimp only
    rw [f62o1_l1_eq, dF (Int.lt_irrefl _), cond_false]

theorem del_w {e b c : List AV} {n : Int} (hc : Rw (T2 1048576) 1048576 c) {y : AV} (hy : Blk c.length y) : den E 181 [y, (.ip (.agg [(.imm 1 e), (.imm 1 b), (.imm 1 c), (.i .i64 n)]) 0)] [] = some (.b (!freeB c y)) := by
  obtain ⟨j, hj, rfl⟩ := hy
  have h3 := hc.at hj
  rw [f181q1_eq]
  simp only [okC_nil, okC_agg, okC_i, okC_b, okC_s, okC_imm, okL_i, okL_b, okL_s, okL_sl, okS_i, okS_b, okS_s, okS_sl, okS_agg, okS_tup, okS_nil, okS_cons, cells_agg, cells_i, cells_b, cells_s, cells_imm, toI_i, toB_b, toS_s, toL_imm, nth_agg, nth_tup, put_agg, put_i, put_b, put_s, put_imm, setCells, List.getD_cons_zero, List.getD_cons_succ, bSh_b, bSh_i, bSh_s, bSh_sl, bSh_some, cond_true, cond_false, decide_true, decide_false, Int.toNat_natCast, Nat.zero_add, Nat.reduceAdd, beq_self_eq_true, Bool.and_true, Bool.true_and, if_true, Bool.false_eq_true, if_false, List.set_cons_zero, List.set_cons_succ, Bool.not_true, Bool.not_false, Bool.and_self, h3.ok]
  rw [if_pos (by omega)]
  rfl

theorem first_w {e b c : List AV} {n : Int} (hc : Rw (T2 1048576) 1048576 c) (m : List AV) (hml : m.length ≤ 1048576) (hm : ∀ y, y ∈ m → Blk c.length y) :
    (den E 183 [(.imm 1 m), (.fn 181 [(.ip (.agg [(.imm 1 e), (.imm 1 b), (.imm 1 c), (.i .i64 n)]) 0)])] [] = some (.i .i64 (-1)) ∧ ∀ i, i < m.length → freeB c (m.getD i .x) = true) ∨
    ∃ j : Nat, j < m.length ∧ den E 183 [(.imm 1 m), (.fn 181 [(.ip (.agg [(.imm 1 e), (.imm 1 b), (.imm 1 c), (.i .i64 n)]) 0)])] [] = some (.i .i64 j) ∧ freeB c (m.getD j .x) = false ∧ ∀ i, i < j → freeB c (m.getD i .x) = true := by
  have key := find_loop (L := fun i => f183q1_l1 m (.agg [(.imm 1 e), (.imm 1 b), (.imm 1 c), (.i .i64 n)]) ((m.length : Nat) : Int) i) (n := m.length) (p := fun j => !freeB c (m.getD j .x)) (F := fun i => some (.i .i64 i)) (X := some (.i .i64 (-1))) (fun i hi => ?_) ?_ m.length 0 (by omega)
  · rw [f183q1_eq]
    rcases key with ⟨j, _, hj, h1, h2, h3⟩ | ⟨h1, h2⟩
    · exact .inr ⟨j, hj, h3, by simpa using h1, fun i hi => by simpa using h2 i (Nat.zero_le _) hi⟩
    · exact .inl ⟨h2, fun i hi => by simpa using h1 i (Nat.zero_le _) hi⟩
  · have hB := hm _ (getD_mem hi)
    have hT := hB.t2 hc.1
    try dsimp only
    rw [f183q1_l1_eq, dT (show (i : Int) < ((m.length : Nat) : Int) by omega), cond_true, if_pos (by omega), w64 (x := (i : Int) + 1) (by omega) (by omega)]
    simp only [Int.toNat_natCast, hT.ok, hT.eta, del_w hc hB, okC_nil, okC_agg, okC_i, okC_b, okC_s, okC_imm, okL_i, okL_b, okL_s, okL_sl, okS_i, okS_b, okS_s, okS_sl, okS_agg, okS_tup, okS_nil, okS_cons, cells_agg, cells_i, cells_b, cells_s, cells_imm, toI_i, toB_b, toS_s, toL_imm, nth_agg, nth_tup, put_agg, put_i, put_b, put_s, put_imm, setCells, List.getD_cons_zero, List.getD_cons_succ, bSh_b, bSh_i, bSh_s, bSh_sl, bSh_some, cond_true, cond_false, decide_true, decide_false, Int.toNat_natCast, Nat.zero_add, Nat.reduceAdd, beq_self_eq_true, Bool.and_true, Bool.true_and, if_true, Bool.false_eq_true, if_false, List.set_cons_zero, List.set_cons_succ, Bool.not_true, Bool.not_false, Bool.and_self]
  · try dsimp only
    rw [f183q1_l1_eq, dF (Int.lt_irrefl _), cond_false]

theorem impl_delw {e b c : List AV} {n : Int} (hc : Rw (T2 1048576) 1048576 c) (m : List AV) (hml : m.length ≤ 1048576) (hm : ∀ y, y ∈ m → Blk c.length y) :
    ∃ r : List AV, dno E 145 [(.sl 0 [] none), (.fn 181 [(.ip (.agg [(.imm 1 e), (.imm 1 b), (.imm 1 c), (.i .i64 n)]) 0)])] [(.live true false false 2 m)] =
      some (.sl 0 [] (some (0, (m.filter (freeB c)).length)), [.live true false false 2 r]) ∧ r.length = m.length ∧ flatVL r = true ∧ r.take (m.filter (freeB c)).length = m.filter (freeB c) := by
  have hfl : ∀ y, Blk c.length y → flatV y = true := fun y hy => by
    obtain ⟨j, _, rfl⟩ := hy; rfl
  rw [f145o1_eq]
  rcases first_w (e := e) (b := b) (n := n) hc m hml hm with ⟨h1, h2⟩ | ⟨j, hj, h1, h2, h3⟩
  · have hf : m.filter (freeB c) = m := List.filter_eq_self.2 fun y hy => by
      obtain ⟨i, hi, rfl⟩ := List.getElem_of_mem hy
      have := h2 i hi
      rwa [List.getD_eq_getElem?_getD, List.getElem?_eq_getElem hi] at this
    rw [h1, hf]
    exact ⟨m, rfl, rfl, flatVL_of fun y hy => hfl y (hm y hy), by simp⟩
  · rw [h1]
    simp only [bSh_i, toI_i]
    have hj1 : ¬ (j : Int) = -1 := by omega
    have hjn : (m.take j).filter (freeB c) = m.take j := List.filter_eq_self.2 fun y hy => by
      obtain ⟨i, hi, rfl⟩ := List.getElem_of_mem hy
      have hij : i < j := by rw [List.length_take] at hi; omega
      have := h3 i hij
      rw [List.getD_eq_getElem?_getD, List.getElem?_eq_getElem (by omega)] at this
      rw [List.getElem_take]; exact this
    simp only [hj1, decide_false, cond_false]
    rw [w64 (x := (j : Int) + 1) (by omega) (by omega), show ((j : Int) + 1) = ((j + 1 : Nat) : Int) by omega]
    let W : Nat → List AV → List AV := fun k r => r.take k ++ List.replicate (r.length - k) (.i .i64 (0 : Int)) ++ r.drop (k + (r.length - k))
    have key : ∃ r', f145o1_l1 (.agg [(.imm 1 e), (.imm 1 b), (.imm 1 c), (.i .i64 n)]) (j : Int) ((j + 1 : Nat) : Int) m = some (.sl 0 [] (some (0, (m.filter (freeB c)).length)), [.live true false false 2 (W (m.filter (freeB c)).length r')]) ∧ r'.length = m.length ∧ r'.take (m.filter (freeB c)).length = m.filter (freeB c) := by
      refine del_loop (L := fun k i r => f145o1_l1 (.agg [(.imm 1 e), (.imm 1 b), (.imm 1 c), (.i .i64 n)]) k i r) (m := m) (p := freeB c) (T := Blk c.length) (F := fun k r => some (.sl 0 [] (some (0, k)), [.live true false false 2 (W k r)])) hm (fun i k r hi hk hl hg hr => ?_) (fun k r hk hl => ?_) (m.length - (j + 1)) (j + 1) j m (by omega) (by omega) rfl hm ?_ rfl
      · have hB := hm _ (getD_mem hi)
        have hT := hB.t2 hc.1
        have hT' := (hr _ (getD_mem (show k < r.length by omega))).t2 hc.1
        try dsimp only
        rw [f145o1_l1_eq, dT (show (i : Int) < ((r.length : Nat) : Int) by omega), cond_true, if_pos (by omega)]
        simp only [Nat.zero_add, Int.toNat_natCast, hg, hT.ok, hT.eta, del_w hc hB, okC_nil, okC_agg, okC_i, okC_b, okC_s, okC_imm, okL_i, okL_b, okL_s, okL_sl, okS_i, okS_b, okS_s, okS_sl, okS_agg, okS_tup, okS_nil, okS_cons, cells_agg, cells_i, cells_b, cells_s, cells_imm, toI_i, toB_b, toS_s, toL_imm, nth_agg, nth_tup, put_agg, put_i, put_b, put_s, put_imm, setCells, List.getD_cons_zero, List.getD_cons_succ, bSh_b, bSh_i, bSh_s, bSh_sl, bSh_some, cond_true, cond_false, decide_true, decide_false, Int.toNat_natCast, Nat.zero_add, Nat.reduceAdd, beq_self_eq_true, Bool.and_true, Bool.true_and, if_true, Bool.false_eq_true, if_false, List.set_cons_zero, List.set_cons_succ, Bool.not_true, Bool.not_false, Bool.and_self, f145o1_j2_eq, t2_put hT']
        rw [w64 (x := (k : Int) + 1) (by omega) (by omega), if_pos (by omega), w64 (x := (i : Int) + 1) (by omega) (by omega)]
        cases freeB c (m.getD i .x) <;> simp
      · try dsimp only
        rw [f145o1_l1_eq, dF (show ¬ ((m.length : Nat) : Int) < ((r.length : Nat) : Int) by omega), cond_false, if_pos (by omega)]
        simp only [Int.toNat_natCast]
        rw [if_pos (by simp only [List.length_append, List.length_take, List.length_replicate, List.length_drop]; omega)]
        rfl
      · rw [take_getD hj, List.filter_append, hjn, List.filter_cons, if_neg (by rw [h2]; decide)]
        simp
    obtain ⟨r', g1, g2, g3⟩ := key
    have hWl : (W (m.filter (freeB c)).length r').length = m.length := by
      have : (m.filter (freeB c)).length ≤ m.length := List.length_filter_le _ _
      simp only [W, List.length_append, List.length_take, List.length_replicate, List.length_drop]
      omega
    have hle : (m.filter (freeB c)).length ≤ r'.length := by rw [g2]; exact List.length_filter_le _ _
    refine ⟨W (m.filter (freeB c)).length r', g1, hWl, flatVL_of fun y hy => ?_, ?_⟩
    · simp only [W, List.mem_append] at hy
      rcases hy with (hy | hy) | hy
      · rw [g3] at hy
        exact hfl y (hm y (List.mem_filter.1 hy).1)
      · rw [(List.mem_replicate.1 hy).2]; rfl
      · rw [List.drop_eq_nil_of_le (by omega)] at hy; cases hy
    · simp only [W, List.append_assoc]
      rw [List.take_append_of_le_length (by rw [List.length_take]; omega), List.take_take, Nat.min_self, g3]

theorem impl_free {e b c : List AV} (n : Int) (he : Rw (T2 1048576) 1048576 e) (hb : Rw (T4 1048576) 1048576 b) (hc : Rw (T2 1048576) 1048576 c) (hbl : b.length = e.length) (hcl : c.length = e.length) :
    ∃ r : List AV, dno E 138 [(.agg [(.imm 1 e), (.imm 1 b), (.imm 1 c), (.i .i64 n)])] [] = some (.sl 0 [] (some (0, (freeL e b c).length)), [.live true false false 2 r]) ∧ flatVL r = true ∧ r.take (freeL e b c).length = freeL e b c := by
  have hml : ((idxL e.length).filter (goodB b)).length ≤ 1048576 := Nat.le_trans (List.length_filter_le _ _) (by rw [idxL_length]; exact he.1)
  have hm : ∀ y, y ∈ (idxL e.length).filter (goodB b) → Blk c.length y := fun y hy => by rw [hcl]; exact idxL_blk _ y (List.mem_filter.1 hy).1
  obtain ⟨r, h1, h2, h3, h4⟩ := impl_delw (e := e) (b := b) (n := n) hc _ hml hm
  have hfg : flatVL ((idxL e.length).filter (goodB b)) = true := flatVL_of fun y hy => by
    obtain ⟨j, _, rfl⟩ := hm y hy; rfl
  refine ⟨r, ?_, h3, h4⟩
  rw [f138o1_eq, impl_good he.1 hb hbl]
  simp only [bOwn_some, bOwnF_some, bOwnS_some, bOwnFS_some, okRs_nil, okRs_cons, okR_row, okR_same, okR_var, okR_gone, okS_so, okS_pr, okS_po, okLens_nil, okLens_same, okLens_row, okLens_var, row_live, flatR_live, flatL_nil, flatL_cons, flat_i, flat_b, flat_s, flat_sl, flat_agg, flat_tup, List.all_cons, List.all_nil, List.length_cons, List.length_nil, Nat.reduceLeDiff, Nat.le_refl, decide_true, Bool.and_self, mkL_length, List.headD_cons, okC_nil, okC_agg, okC_i, okC_b, okC_s, okC_imm, okL_i, okL_b, okL_s, okL_sl, okS_i, okS_b, okS_s, okS_sl, okS_agg, okS_tup, okS_nil, okS_cons, cells_agg, cells_i, cells_b, cells_s, cells_imm, toI_i, toB_b, toS_s, toL_imm, nth_agg, nth_tup, put_agg, put_i, put_b, put_s, put_imm, setCells, List.getD_cons_zero, List.getD_cons_succ, bSh_b, bSh_i, bSh_s, bSh_sl, bSh_some, cond_true, cond_false, decide_true, decide_false, Int.toNat_natCast, Nat.zero_add, Nat.reduceAdd, beq_self_eq_true, Bool.and_true, Bool.true_and, if_true, Bool.false_eq_true, if_false, List.set_cons_zero, List.set_cons_succ, Bool.not_true, Bool.not_false, Bool.and_self, h1, h2, h3]
  rfl

/-! The best block. -/
theorem freeL_blk {e b c : List AV} : ∀ y, y ∈ freeL e b c → Blk e.length y := fun y hy => idxL_blk _ y (List.mem_filter.1 (List.mem_filter.1 hy).1).1
theorem freeL_length (e b c : List AV) : (freeL e b c).length ≤ e.length := Nat.le_trans (List.length_filter_le _ _) (Nat.le_trans (List.length_filter_le _ _) (by rw [idxL_length]; exact Nat.le_refl _))
theorem t2_set {l : List AV} (h : Rw (T2 1048576) 1048576 l) (i : Nat) (x : Int) (hx : W64 x) : Rw (T2 1048576) 1048576 (l.set i (.i .i64 x)) := by
  refine ⟨by rw [List.length_set]; exact h.1, fun y hy => ?_⟩
  rcases List.mem_or_eq_of_mem_set hy with h1 | h1
  · exact h.2 y h1
  · rw [h1]; exact ⟨_, rfl, hx, trivial⟩
theorem t2_nil {B : Nat} : Rw (T2 B) 1048576 [] := ⟨by simp, fun y hy => by cases hy⟩
theorem t4_nil {B : Nat} : Rw (T4 B) 1048576 [] := ⟨by simp, fun y hy => by cases hy⟩
theorem t4_set {l : List AV} (h : Rw (T4 1048576) 1048576 l) (i : Nat) (x : Bool) : Rw (T4 1048576) 1048576 (l.set i (.b x)) := by
  refine ⟨by rw [List.length_set]; exact h.1, fun y hy => ?_⟩
  rcases List.mem_or_eq_of_mem_set hy with h1 | h1
  · exact h.2 y h1
  · rw [h1]; exact ⟨_, rfl, trivial⟩


/-- New memory. -/
theorem impl_clone {e b c : List AV} (n : Int) (he : Rw (T2 1048576) 1048576 e) (hb : Rw (T4 1048576) 1048576 b) (hc : Rw (T2 1048576) 1048576 c) : dno E 56 [(.agg [(.imm 1 e), (.imm 1 b), (.imm 1 c), (.i .i64 n)])] [] = some (.agg [(.sl 0 [] none), (.sl 1 [] none), (.sl 2 [] none), (.i .i64 n)], [(.live true false false 2 e), (.live true false false 4 b), (.live true false false 2 c)]) := by
  have hel := he.1
  have hbl1 := hb.1
  have hcl1 := hc.1
  rw [f56o1_eq, f70_eq, f70_eq, f136_eq, if_pos ⟨rfl, by simp only [room]; omega⟩, if_pos ⟨rfl, by simp only [room]; omega⟩, if_pos ⟨rfl, by simp only [room]; omega⟩]
  simp only [bOwn_some, bOwnF_some, bOwnS_some, bOwnFS_some, okRs_nil, okRs_cons, okR_row, okR_same, okR_var, okR_gone, okS_so, okS_pr, okS_po, okLens_nil, okLens_same, okLens_row, okLens_var, row_live, flatR_live, flatL_nil, flatL_cons, flat_i, flat_b, flat_s, flat_sl, flat_agg, flat_tup, List.all_cons, List.all_nil, List.length_cons, List.length_nil, Nat.reduceLeDiff, Nat.le_refl, decide_true, Bool.and_self, mkL_length, List.headD_cons, okC_nil, okC_agg, okC_i, okC_b, okC_s, okC_imm, okL_i, okL_b, okL_s, okL_sl, okS_i, okS_b, okS_s, okS_sl, okS_agg, okS_tup, okS_nil, okS_cons, cells_agg, cells_i, cells_b, cells_s, cells_imm, toI_i, toB_b, toS_s, toL_imm, nth_agg, nth_tup, put_agg, put_i, put_b, put_s, put_imm, setCells, List.getD_cons_zero, List.getD_cons_succ, bSh_b, bSh_i, bSh_s, bSh_sl, bSh_some, cond_true, cond_false, decide_true, decide_false, Int.toNat_natCast, Nat.zero_add, Nat.reduceAdd, beq_self_eq_true, Bool.and_true, Bool.true_and, if_true, Bool.false_eq_true, if_false, List.set_cons_zero, List.set_cons_succ, Bool.not_true, Bool.not_false, Bool.and_self]
theorem okWear_len {e b c : List AV} {n : Int} (h : okWear e b c n = true) : 1 ≤ e.length ∧ e.length ≤ 36 ∧ b.length = e.length ∧ c.length = e.length ∧ (1 ≤ n ∧ n ≤ 100) ∧ ∀ i, i < e.length → (0 ≤ iA e i ∧ iA e i ≤ 1000) ∧ 0 ≤ iA c i ∧ iA c i ≤ 2 := by
  simp only [okWear, Bool.and_eq_true, decide_eq_true_eq, List.all_eq_true] at h
  obtain ⟨⟨h1, h2⟩, h3, h4, h5, h6⟩ := h
  refine ⟨by omega, by omega, by omega, by omega, h5, fun i hi => ?_⟩
  have := h6 i (by simp [List.mem_range'_1, hi])
  simp only [okW, Bool.and_eq_true, decide_eq_true_eq] at this
  exact ⟨this.1, this.2.1⟩


/-- (*Wear).place: data are laid into the best free block. -/
theorem impl_place {e b c : List AV} (n : Int) (he : Rw (T2 1048576) 1048576 e) (hb : Rw (T4 1048576) 1048576 b) (hc : Rw (T2 1048576) 1048576 c) (hbl : b.length = e.length) (hcl : c.length = e.length) (t : Bool) {a : Int}
    (ha : a = -1 ∨ ∃ j : Nat, a = j ∧ .i .i64 a ∈ freeL e b c) (hp : den E 137 [(.imm 1 e), (.imm 1 (freeL e b c)), (.b t)] [] = some (.i .i64 a)) :
    dno E 57 [(.pt 0 [] 0 0), (.b t)] [(.live false true false 30 [(.agg [(.sl 1 [] none), (.sl 2 [] none), (.sl 3 [] none), (.i .i64 n)])]), (.live true false false 2 e), (.live true false false 4 b), (.live true false false 2 c)] =
      if a = -1 then some ((.tup [(.i .i64 (0 : Int)), (.b false)]), [(.live false true false 30 [(.agg [(.sl 1 [] none), (.sl 2 [] none), (.sl 3 [] none), (.i .i64 n)])]), (.live true false false 2 e), (.live true false false 4 b), (.live true false false 2 c)])
      else some ((.tup [(.i .i64 a), (.b true)]), [(.live false true false 30 [(.agg [(.sl 1 [] none), (.sl 2 [] none), (.sl 3 [] none), (.i .i64 n)])]), (.live true false false 2 e), (.live true false false 4 b), (.live true false false 2 (c.set a.toNat (.i .i64 (if t then 2 else 1))))]) := by
  obtain ⟨r, h1, h2, h3⟩ := impl_free n he hb hc hbl hcl
  rw [f57o1_eq, h1]
  simp only [bOwn_some, bOwnF_some, bOwnS_some, bOwnFS_some, okRs_nil, okRs_cons, okR_row, okR_same, okR_var, okR_gone, okS_so, okS_pr, okS_po, okLens_nil, okLens_same, okLens_row, okLens_var, row_live, flatR_live, flatL_nil, flatL_cons, flat_i, flat_b, flat_s, flat_sl, flat_agg, flat_tup, List.all_cons, List.all_nil, List.length_cons, List.length_nil, Nat.reduceLeDiff, Nat.le_refl, decide_true, Bool.and_self, mkL_length, List.headD_cons, okC_nil, okC_agg, okC_i, okC_b, okC_s, okC_imm, okL_i, okL_b, okL_s, okL_sl, okS_i, okS_b, okS_s, okS_sl, okS_agg, okS_tup, okS_nil, okS_cons, cells_agg, cells_i, cells_b, cells_s, cells_imm, toI_i, toB_b, toS_s, toL_imm, nth_agg, nth_tup, put_agg, put_i, put_b, put_s, put_imm, setCells, List.getD_cons_zero, List.getD_cons_succ, bSh_b, bSh_i, bSh_s, bSh_sl, bSh_some, cond_true, cond_false, decide_true, decide_false, Int.toNat_natCast, Nat.zero_add, Nat.reduceAdd, beq_self_eq_true, Bool.and_true, Bool.true_and, if_true, Bool.false_eq_true, if_false, List.set_cons_zero, List.set_cons_succ, Bool.not_true, Bool.not_false, Bool.and_self, h2, AV.off, AV.cnt, List.drop_zero, h3, hp]
  rcases ha with rfl | ⟨j, rfl, hj⟩
  · simp only [show (-1 : Int) < 0 from by decide, decide_true, cond_true, if_true]
  · obtain ⟨k, hk, hjk⟩ := freeL_blk _ hj
    have hjc : j < c.length := by
      simp only [AV.i.injEq] at hjk
      omega
    have hT := hc.at hjc
    have g1 : (0 : Int) ≤ (j : Int) := by omega
    have g2 : (j : Int) < ((c.length : Nat) : Int) := by omega
    have g3 : ¬ (j : Int) < 0 := by omega
    have g4 : ¬ (j : Int) = -1 := by omega
    have hgs : (c.set j (.i .i64 1)).getD j .x = .i .i64 1 := by simp [List.getD_eq_getElem?_getD, hjc]
    simp only [g1, g2, g3, g4, Int.toNat_natCast, Nat.zero_add, t2_put hT, List.length_set, hgs, put_i, List.set_set, and_self, f57o1_j1_eq, okC_nil, okC_agg, okC_i, okC_b, okC_s, okC_imm, okL_i, okL_b, okL_s, okL_sl, okS_i, okS_b, okS_s, okS_sl, okS_agg, okS_tup, okS_nil, okS_cons, cells_agg, cells_i, cells_b, cells_s, cells_imm, toI_i, toB_b, toS_s, toL_imm, nth_agg, nth_tup, put_agg, put_i, put_b, put_s, put_imm, setCells, List.getD_cons_zero, List.getD_cons_succ, bSh_b, bSh_i, bSh_s, bSh_sl, bSh_some, cond_true, cond_false, decide_true, decide_false, Int.toNat_natCast, Nat.zero_add, Nat.reduceAdd, beq_self_eq_true, Bool.and_true, Bool.true_and, if_true, Bool.false_eq_true, if_false, List.set_cons_zero, List.set_cons_succ, Bool.not_true, Bool.not_false, Bool.and_self]
    cases t <;> rfl

theorem isIdx {x n : Int} (h1 : -9223372036854775808 < n) (h2 : n ≤ 9223372036854775807) : den E 55 [(.i .i64 x), (.i .i64 n)] [] = some (.b (decide (0 ≤ x) && decide (x ≤ n - 1))) := by
  rw [f55_eq, in72]
  simp only [okC_nil, okC_agg, okC_i, okC_b, okC_s, okC_imm, okL_i, okL_b, okL_s, okL_sl, okS_i, okS_b, okS_s, okS_sl, okS_agg, okS_tup, okS_nil, okS_cons, cells_agg, cells_i, cells_b, cells_s, cells_imm, toI_i, toB_b, toS_s, toL_imm, nth_agg, nth_tup, put_agg, put_i, put_b, put_s, put_imm, setCells, List.getD_cons_zero, List.getD_cons_succ, bSh_b, bSh_i, bSh_s, bSh_sl, bSh_some, cond_true, cond_false, decide_true, decide_false, Int.toNat_natCast, Nat.zero_add, Nat.reduceAdd, beq_self_eq_true, Bool.and_true, Bool.true_and, if_true, Bool.false_eq_true, if_false, List.set_cons_zero, List.set_cons_succ, Bool.not_true, Bool.not_false, Bool.and_self]
  rw [w64 (by omega) (by omega)]


/-! A block is erased. -/
theorem impl_clear {e c : List AV} (n : Int) (he : Rw (T2 1048576) 1048576 e) (hc : Rw (T2 1048576) 1048576 c) (hcl : c.length = e.length) {i : Nat} (hi : i < e.length) (b : List AV) (h0 : 0 ≤ ((e.getD i .x).cells.getD 0 .x).toI) (h1 : ((e.getD i .x).cells.getD 0 .x).toI ≤ 1000) :
    dno E 58 [(.pt 0 [] 0 0), (.i .i64 (i : Int))] [(.live false true false 30 [(.agg [(.sl 1 [] none), (.sl 2 [] none), (.sl 3 [] none), (.i .i64 n)])]), (.live true false false 2 e), (.live true false false 4 b), (.live true false false 2 c)] =
      some (.tup [], [(.live false true false 30 [(.agg [(.sl 1 [] none), (.sl 2 [] none), (.sl 3 [] none), (.i .i64 n)])]), (.live true false false 2 (e.set i (.i .i64 (((e.getD i .x).cells.getD 0 .x).toI + 1)))), (.live true false false 4 b), (.live true false false 2 (c.set i (.i .i64 0)))]) := by
  have q1 := he.at hi
  have q2 := hc.at (i := i) (by omega)
  have g1 : (0 : Int) ≤ (i : Int) := by omega
  have g2 : (i : Int) < ((e.length : Nat) : Int) := by omega
  have g3 : (i : Int) < ((c.length : Nat) : Int) := by omega
  rw [f58o1_eq]
  simp only [Int.toNat_natCast, Nat.zero_add, g1, g2, g3, and_self, q1.ok, t2_put q1, t2_put q2, if_true]
  rw [w64 (by omega) (by omega)]


/-- A loop that folds. -/
theorem fold_loop {R A : Type} {L : A → Int → Option R} {m : List AV} {f : A → AV → A} {I : A → Prop} {F : A → Option R}
    (step : ∀ (a : A) (i : Nat), i < m.length → I a → L a i = L (f a (m.getD i .x)) ((i : Int) + 1) ∧ I (f a (m.getD i .x))) (last : ∀ a, L a m.length = F a) :
    ∀ (k i : Nat) (a : A), i + k = m.length → I a → L a i = F ((m.drop i).foldl f a) ∧ I ((m.drop i).foldl f a)
  | 0, i, a, h, ha => by
    have : i = m.length := by omega
    subst this
    rw [List.drop_length]
    exact ⟨last a, ha⟩
  | k + 1, i, a, h, ha => by
    obtain ⟨h1, h2⟩ := step a i (by omega) ha
    rw [h1, drop_getD (show i < m.length by omega), show ((i : Int) + 1) = ((i + 1 : Nat) : Int) by omega]
    exact fold_loop step last k (i + 1) _ (by omega) h2

/-- An erase count. -/
noncomputable def eC (e : List AV) (a : Int) : Int := iA e a.toNat
noncomputable def stepL (e : List AV) (a : Int) (y : AV) : Int := if a < 0 ∨ eC e y.toI < eC e a ∨ eC e y.toI = eC e a ∧ y.toI < a then y.toI else a
noncomputable def stepM (e : List AV) (a : Int) (y : AV) : Int := if a < 0 ∨ eC e a < eC e y.toI ∨ eC e y.toI = eC e a ∧ y.toI < a then y.toI else a
def InR (n : Nat) (a : Int) : Prop := a = -1 ∨ ∃ j : Nat, a = j ∧ j < n

theorem best_less {e l : List AV} (he : Rw (T2 1048576) 1048576 e) (hl1 : l.length ≤ 1048576) (hl : ∀ y, y ∈ l → Blk e.length y) :
    den E 64 [(.imm 1 e), (.imm 1 l), (.fn 66 [])] [] = some (.i .i64 (l.foldl (stepL e) (-1))) ∧ InR e.length (l.foldl (stepL e) (-1)) := by
  have hel := he.1
  have hE : ∀ {j : Nat}, j < e.length → okCells false (e.getD j .x) 0 [(.i .i64)] = true := fun hj => (he.at hj).ok
  rw [f64q1_eq]
  have := fold_loop (L := fun a i => f64q1_l1 e a l ((l.length : Nat) : Int) i) (m := l) (f := stepL e) (I := InR e.length) (F := fun a => some (.i .i64 a)) (fun a i hi ha => ?_) (fun a => ?_) l.length 0 (-1) (by omega) (.inl rfl)
  · simpa using this
  · obtain ⟨j, hj, hlj⟩ := hl _ (getD_mem hi)
    have hT := (hl _ (getD_mem hi)).t2 hel
    have g1 : (0 : Int) ≤ (j : Int) := by omega
    have g3 : (j : Int) < ((e.length : Nat) : Int) := by omega
    have g6 : (0 : Int) ≤ (i : Int) := by omega
    have g7 : (i : Int) < ((l.length : Nat) : Int) := by omega
    try dsimp only
    rw [f64q1_l1_eq, dT g7, cond_true]
    simp only [Int.toNat_natCast, hlj, f64q1_j2_eq, g1, g3, g6, g7, hE hj, okC_nil, okC_agg, okC_i, okC_b, okC_s, okC_imm, okL_i, okL_b, okL_s, okL_sl, okS_i, okS_b, okS_s, okS_sl, okS_agg, okS_tup, okS_nil, okS_cons, cells_agg, cells_i, cells_b, cells_s, cells_imm, toI_i, toB_b, toS_s, toL_imm, nth_agg, nth_tup, put_agg, put_i, put_b, put_s, put_imm, setCells, List.getD_cons_zero, List.getD_cons_succ, bSh_b, bSh_i, bSh_s, bSh_sl, bSh_some, cond_true, cond_false, decide_true, decide_false, Int.toNat_natCast, Nat.zero_add, Nat.reduceAdd, beq_self_eq_true, Bool.and_true, Bool.true_and, if_true, Bool.false_eq_true, if_false, List.set_cons_zero, List.set_cons_succ, Bool.not_true, Bool.not_false, Bool.and_self, and_self, f66_eq]
    rw [w64 (x := (i : Int) + 1) (by omega) (by omega)]
    unfold stepL eC iA
    rcases ha with rfl | ⟨k, rfl, hkk⟩
    · simp only [show (-1 : Int) < 0 from by decide, decide_true, true_or, if_true, toI_i]
      exact ⟨rfl, .inr ⟨j, rfl, hj⟩⟩
    · have g4 : ¬ (k : Int) < 0 := by omega
      have g5 : (0 : Int) ≤ (k : Int) ∧ (k : Int) < ((e.length : Nat) : Int) := by omega
      simp only [g4, g5, and_self, hE hkk, Int.toNat_natCast, okC_nil, okC_agg, okC_i, okC_b, okC_s, okC_imm, okL_i, okL_b, okL_s, okL_sl, okS_i, okS_b, okS_s, okS_sl, okS_agg, okS_tup, okS_nil, okS_cons, cells_agg, cells_i, cells_b, cells_s, cells_imm, toI_i, toB_b, toS_s, toL_imm, nth_agg, nth_tup, put_agg, put_i, put_b, put_s, put_imm, setCells, List.getD_cons_zero, List.getD_cons_succ, bSh_b, bSh_i, bSh_s, bSh_sl, bSh_some, cond_true, cond_false, decide_true, decide_false, Int.toNat_natCast, Nat.zero_add, Nat.reduceAdd, beq_self_eq_true, Bool.and_true, Bool.true_and, if_true, Bool.false_eq_true, if_false, List.set_cons_zero, List.set_cons_succ, Bool.not_true, Bool.not_false, Bool.and_self]
      by_cases q1 : ((e.getD j .x).cells.getD 0 .x).toI < ((e.getD k .x).cells.getD 0 .x).toI
      · simp only [q1, decide_true, true_or, or_true, if_true]
        exact ⟨rfl, .inr ⟨j, rfl, hj⟩⟩
      · by_cases q2 : ((e.getD j .x).cells.getD 0 .x).toI = ((e.getD k .x).cells.getD 0 .x).toI
        · by_cases q3 : (j : Int) < (k : Int)
          · simp only [q2, q3, Int.lt_irrefl, decide_true, decide_false, true_and, or_true, if_true]
            exact ⟨rfl, .inr ⟨j, rfl, hj⟩⟩
          · simp only [q2, q3, Int.lt_irrefl, decide_true, decide_false, and_false, or_self, if_false]
            exact ⟨rfl, .inr ⟨k, rfl, hkk⟩⟩
        · simp only [q1, q2, decide_false, false_and, or_self, if_false]
          exact ⟨rfl, .inr ⟨k, rfl, hkk⟩⟩
  · try dsimp only
    rw [f64q1_l1_eq, dF (Int.lt_irrefl _), cond_false]
theorem best_more {e l : List AV} (he : Rw (T2 1048576) 1048576 e) (hl1 : l.length ≤ 1048576) (hl : ∀ y, y ∈ l → Blk e.length y) :
    den E 64 [(.imm 1 e), (.imm 1 l), (.fn 65 [])] [] = some (.i .i64 (l.foldl (stepM e) (-1))) ∧ InR e.length (l.foldl (stepM e) (-1)) := by
  have hel := he.1
  have hE : ∀ {j : Nat}, j < e.length → okCells false (e.getD j .x) 0 [(.i .i64)] = true := fun hj => (he.at hj).ok
  rw [f64q2_eq]
  have := fold_loop (L := fun a i => f64q2_l1 e a l ((l.length : Nat) : Int) i) (m := l) (f := stepM e) (I := InR e.length) (F := fun a => some (.i .i64 a)) (fun a i hi ha => ?_) (fun a => ?_) l.length 0 (-1) (by omega) (.inl rfl)
  · simpa using this
  · obtain ⟨j, hj, hlj⟩ := hl _ (getD_mem hi)
    have hT := (hl _ (getD_mem hi)).t2 hel
    have g1 : (0 : Int) ≤ (j : Int) := by omega
    have g3 : (j : Int) < ((e.length : Nat) : Int) := by omega
    have g6 : (0 : Int) ≤ (i : Int) := by omega
    have g7 : (i : Int) < ((l.length : Nat) : Int) := by omega
    try dsimp only
    rw [f64q2_l1_eq, dT g7, cond_true]
    simp only [Int.toNat_natCast, hlj, f64q2_j2_eq, g1, g3, g6, g7, hE hj, okC_nil, okC_agg, okC_i, okC_b, okC_s, okC_imm, okL_i, okL_b, okL_s, okL_sl, okS_i, okS_b, okS_s, okS_sl, okS_agg, okS_tup, okS_nil, okS_cons, cells_agg, cells_i, cells_b, cells_s, cells_imm, toI_i, toB_b, toS_s, toL_imm, nth_agg, nth_tup, put_agg, put_i, put_b, put_s, put_imm, setCells, List.getD_cons_zero, List.getD_cons_succ, bSh_b, bSh_i, bSh_s, bSh_sl, bSh_some, cond_true, cond_false, decide_true, decide_false, Int.toNat_natCast, Nat.zero_add, Nat.reduceAdd, beq_self_eq_true, Bool.and_true, Bool.true_and, if_true, Bool.false_eq_true, if_false, List.set_cons_zero, List.set_cons_succ, Bool.not_true, Bool.not_false, Bool.and_self, and_self, f65_eq]
    rw [w64 (x := (i : Int) + 1) (by omega) (by omega)]
    unfold stepM eC iA
    rcases ha with rfl | ⟨k, rfl, hkk⟩
    · simp only [show (-1 : Int) < 0 from by decide, decide_true, true_or, if_true, toI_i]
      exact ⟨rfl, .inr ⟨j, rfl, hj⟩⟩
    · have g4 : ¬ (k : Int) < 0 := by omega
      have g5 : (0 : Int) ≤ (k : Int) ∧ (k : Int) < ((e.length : Nat) : Int) := by omega
      simp only [g4, g5, and_self, hE hkk, Int.toNat_natCast, okC_nil, okC_agg, okC_i, okC_b, okC_s, okC_imm, okL_i, okL_b, okL_s, okL_sl, okS_i, okS_b, okS_s, okS_sl, okS_agg, okS_tup, okS_nil, okS_cons, cells_agg, cells_i, cells_b, cells_s, cells_imm, toI_i, toB_b, toS_s, toL_imm, nth_agg, nth_tup, put_agg, put_i, put_b, put_s, put_imm, setCells, List.getD_cons_zero, List.getD_cons_succ, bSh_b, bSh_i, bSh_s, bSh_sl, bSh_some, cond_true, cond_false, decide_true, decide_false, Int.toNat_natCast, Nat.zero_add, Nat.reduceAdd, beq_self_eq_true, Bool.and_true, Bool.true_and, if_true, Bool.false_eq_true, if_false, List.set_cons_zero, List.set_cons_succ, Bool.not_true, Bool.not_false, Bool.and_self]
      by_cases q1 : ((e.getD k .x).cells.getD 0 .x).toI < ((e.getD j .x).cells.getD 0 .x).toI
      · simp only [q1, decide_true, true_or, or_true, if_true]
        exact ⟨rfl, .inr ⟨j, rfl, hj⟩⟩
      · by_cases q2 : ((e.getD j .x).cells.getD 0 .x).toI = ((e.getD k .x).cells.getD 0 .x).toI
        · by_cases q3 : (j : Int) < (k : Int)
          · simp only [q2, q3, Int.lt_irrefl, decide_true, decide_false, true_and, or_true, if_true]
            exact ⟨rfl, .inr ⟨j, rfl, hj⟩⟩
          · simp only [q2, q3, Int.lt_irrefl, decide_true, decide_false, and_false, or_self, if_false]
            exact ⟨rfl, .inr ⟨k, rfl, hkk⟩⟩
        · simp only [q1, q2, decide_false, false_and, or_self, if_false]
          exact ⟨rfl, .inr ⟨k, rfl, hkk⟩⟩
  · try dsimp only
    rw [f64q2_l1_eq, dF (Int.lt_irrefl _), cond_false]

/-- The good blocks. -/
noncomputable def goodL (e b : List AV) : List AV := (idxL e.length).filter (goodB b)
theorem goodL_blk {e b : List AV} : ∀ y, y ∈ goodL e b → Blk e.length y := fun y hy => idxL_blk _ y (List.mem_filter.1 hy).1
theorem goodL_length (e b : List AV) : (goodL e b).length ≤ e.length := Nat.le_trans (List.length_filter_le _ _) (by rw [idxL_length]; exact Nat.le_refl _)
theorem goodL_flat (e b : List AV) : flatVL (goodL e b) = true := flatVL_of fun y hy => by
  obtain ⟨j, _, rfl⟩ := goodL_blk y hy; rfl

/-! The extremes. -/
noncomputable def upd (e : List AV) (s : Int × Int × Bool) (y : AV) : Int × Int × Bool := (if s.2.2 = false ∨ eC e y.toI < s.1 then eC e y.toI else s.1, if s.2.2 = false ∨ s.2.1 < eC e y.toI then eC e y.toI else s.2.1, true)
/-- The extremes are those of the best blocks. -/
def RelX (e : List AV) (s : Int × Int × Bool) (a b : Int) : Prop := s = (0, 0, false) ∧ a = -1 ∧ b = -1 ∨ (∃ j k : Nat, a = j ∧ b = k ∧ j < e.length ∧ k < e.length) ∧ s = (eC e a, eC e b, true)
theorem relX_fold {e : List AV} : ∀ (l : List AV) (s : Int × Int × Bool) (a b : Int), (∀ y, y ∈ l → Blk e.length y) → RelX e s a b → RelX e (l.foldl (upd e) s) (l.foldl (stepL e) a) (l.foldl (stepM e) b)
  | [], _, _, _, _, h => h
  | y :: l, s, a, b, hl, h => by
    refine relX_fold l _ _ _ (fun y hy => hl y (by simp [hy])) ?_
    obtain ⟨j, hj, rfl⟩ := hl y (by simp)
    rcases h with ⟨rfl, rfl, rfl⟩ | ⟨⟨p, q, rfl, rfl, hp, hq⟩, rfl⟩
    · right
      have h1 : stepL e (-1) (.i .i64 (j : Int)) = j := by unfold stepL; rw [if_pos (.inl (by decide))]; rfl
      have h2 : stepM e (-1) (.i .i64 (j : Int)) = j := by unfold stepM; rw [if_pos (.inl (by decide))]; rfl
      rw [h1, h2]
      exact ⟨⟨j, j, rfl, rfl, hj, hj⟩, rfl⟩
    · right
      have hp0 : ¬ (p : Int) < 0 := by omega
      have hq0 : ¬ (q : Int) < 0 := by omega
      unfold stepL stepM upd
      simp only [toI_i, hp0, hq0, false_or, Bool.true_eq_false]
      constructor
      · refine ⟨if eC e (j : Int) < eC e (p : Int) ∨ eC e (j : Int) = eC e (p : Int) ∧ (j : Int) < (p : Int) then j else p, if eC e (q : Int) < eC e (j : Int) ∨ eC e (j : Int) = eC e (q : Int) ∧ (j : Int) < (q : Int) then j else q, ?_, ?_, ?_, ?_⟩ <;> split <;> first | rfl | assumption
      · congr 1
        · by_cases c1 : eC e (j : Int) < eC e (p : Int)
          · rw [if_pos c1, if_pos (.inl c1)]
          · rw [if_neg c1]
            by_cases c2 : eC e (j : Int) = eC e (p : Int) ∧ (j : Int) < (p : Int)
            · rw [if_pos (.inr c2)]; exact c2.1.symm
            · rw [if_neg (fun h => h.elim c1 c2)]
        · congr 1
          by_cases c1 : eC e (q : Int) < eC e (j : Int)
          · rw [if_pos c1, if_pos (.inl c1)]
          · rw [if_neg c1]
            by_cases c2 : eC e (j : Int) = eC e (q : Int) ∧ (j : Int) < (q : Int)
            · rw [if_pos (.inr c2)]; exact c2.1.symm
            · rw [if_neg (fun h => h.elim c1 c2)]

theorem fold_ge {e : List AV} {f : Int → AV → Int} (hf : ∀ a y, f a y = a ∨ f a y = y.toI) (h0 : ∀ y, f (-1) y = y.toI) : ∀ (l : List AV) (a : Int), (∀ y, y ∈ l → Blk e.length y) → l ≠ [] ∨ 0 ≤ a → 0 ≤ a ∨ a = -1 → 0 ≤ l.foldl f a
  | [], a, _, h, _ => h.resolve_left (by simp)
  | y :: l, a, hl, _, ha => by
    obtain ⟨j, hj, rfl⟩ := hl y (by simp)
    have : 0 ≤ f a (.i .i64 (j : Int)) := by
      rcases ha with ha | rfl
      · rcases hf a (.i .i64 (j : Int)) with h | h <;> rw [h]
        · exact ha
        · rw [toI_i]; omega
      · rw [h0, toI_i]; omega
    exact fold_ge (e := e) hf h0 l _ (fun y hy => hl y (by simp [hy])) (.inr this) (.inl this)

/-! The gap. -/
theorem all_in {l : List AV} (hl : Rw (T2 1048576) 1048576 l) (lo hi : Int) (h : ∀ i, i < l.length → lo ≤ iA l i ∧ iA l i ≤ hi) : den E 63 [(.imm 1 l), (.i .i64 lo), (.i .i64 hi)] [] = some (.b true) := by
  have hll := hl.1
  rw [f63_eq, f141q1_eq, f183q2_eq]
  have := loop_to (L := fun i => f183q2_l1 l (.i .i64 lo) (.i .i64 hi) ((l.length : Nat) : Int) i) (n := l.length) (X := some (.i .i64 (-1))) (fun i hi' => ?_) ?_
  · rw [show f183q2_l1 l (.i .i64 lo) (.i .i64 hi) ((l.length : Nat) : Int) 0 = _ from this]
    simp only [okC_nil, okC_agg, okC_i, okC_b, okC_s, okC_imm, okL_i, okL_b, okL_s, okL_sl, okS_i, okS_b, okS_s, okS_sl, okS_agg, okS_tup, okS_nil, okS_cons, cells_agg, cells_i, cells_b, cells_s, cells_imm, toI_i, toB_b, toS_s, toL_imm, nth_agg, nth_tup, put_agg, put_i, put_b, put_s, put_imm, setCells, List.getD_cons_zero, List.getD_cons_succ, bSh_b, bSh_i, bSh_s, bSh_sl, bSh_some, cond_true, cond_false, decide_true, decide_false, Int.toNat_natCast, Nat.zero_add, Nat.reduceAdd, beq_self_eq_true, Bool.and_true, Bool.true_and, if_true, Bool.false_eq_true, if_false, List.set_cons_zero, List.set_cons_succ, Bool.not_true, Bool.not_false, Bool.and_self]
    rfl
  · have hT := hl.at hi'
    obtain ⟨g1, g2⟩ := h i hi'
    unfold iA at g1 g2
    try dsimp only
    rw [f183q2_l1_eq, dT (show (i : Int) < ((l.length : Nat) : Int) by omega), cond_true, if_pos (by omega), w64 (x := (i : Int) + 1) (by omega) (by omega)]
    simp only [Int.toNat_natCast, hT.ok, f142q1_eq, in72, g1, g2, okC_nil, okC_agg, okC_i, okC_b, okC_s, okC_imm, okL_i, okL_b, okL_s, okL_sl, okS_i, okS_b, okS_s, okS_sl, okS_agg, okS_tup, okS_nil, okS_cons, cells_agg, cells_i, cells_b, cells_s, cells_imm, toI_i, toB_b, toS_s, toL_imm, nth_agg, nth_tup, put_agg, put_i, put_b, put_s, put_imm, setCells, List.getD_cons_zero, List.getD_cons_succ, bSh_b, bSh_i, bSh_s, bSh_sl, bSh_some, cond_true, cond_false, decide_true, decide_false, Int.toNat_natCast, Nat.zero_add, Nat.reduceAdd, beq_self_eq_true, Bool.and_true, Bool.true_and, if_true, Bool.false_eq_true, if_false, List.set_cons_zero, List.set_cons_succ, Bool.not_true, Bool.not_false, Bool.and_self]
  · try dsimp only
    rw [f183q2_l1_eq, dF (Int.lt_irrefl _), cond_false]
noncomputable def gap (e b : List AV) : Int := if goodL e b = [] then 0 else eC e ((goodL e b).foldl (stepM e) (-1)) - eC e ((goodL e b).foldl (stepL e) (-1))
theorem stepL_or (e : List AV) (a : Int) (y : AV) : stepL e a y = a ∨ stepL e a y = y.toI := by unfold stepL; split <;> simp
theorem stepM_or (e : List AV) (a : Int) (y : AV) : stepM e a y = a ∨ stepM e a y = y.toI := by unfold stepM; split <;> simp
theorem stepL_0 (e : List AV) (y : AV) : stepL e (-1) y = y.toI := by unfold stepL; rw [if_pos (.inl (by decide))]
theorem stepM_0 (e : List AV) (y : AV) : stepM e (-1) y = y.toI := by unfold stepM; rw [if_pos (.inl (by decide))]

/-! The block that is moved. -/
noncomputable def stepP (e : List AV) (a : Int) (y : AV) : Int := if a < 0 ∨ eC e y.toI < eC e a then y.toI else a
theorem fold_asc {e : List AV} : ∀ (l : List AV) (a : Int), (∀ y, y ∈ l → a < y.toI) → l.Pairwise (fun y z => y.toI < z.toI) → l.foldl (stepL e) a = l.foldl (stepP e) a
  | [], _, _, _ => rfl
  | y :: l, a, h1, h2 => by
    have hy := h1 y (by simp)
    have hs : stepL e a y = stepP e a y := by
      unfold stepL stepP
      have : ¬ (eC e y.toI = eC e a ∧ y.toI < a) := fun h => by omega
      simp only [this, or_false]
    rw [List.foldl_cons, List.foldl_cons, hs]
    rw [List.pairwise_cons] at h2
    refine fold_asc l _ (fun z hz => ?_) h2.2
    have h3 := h2.1 z hz
    unfold stepP
    split
    · exact h3
    · exact h1 z (by simp [hz])
theorem goodL_asc (e b : List AV) : (goodL e b).Pairwise (fun y z => y.toI < z.toI) := by
  refine List.Pairwise.filter _ ?_
  unfold idxL mkL
  rw [List.pairwise_map]
  refine List.pairwise_lt_range.imp fun {x y} h => ?_
  simp only [toI_i]
  omega
theorem impl_static {e b : List AV} (he : Rw (T2 1048576) 1048576 e) (hb : Rw (T4 1048576) 1048576 b) (hbl : b.length = e.length) :
    den E 140 [(.imm 1 e), (.imm 1 b), (.imm 0 [])] [] = some (.i .i64 ((goodL e b).foldl (stepL e) (-1))) := by
  have hel := he.1
  have hgl := goodL_length e b
  obtain ⟨b1, _⟩ := best_less he (Nat.le_trans hgl hel) (goodL_blk (e := e) (b := b))
  have hgood' : dno E 62 [(.imm 1 e), (.imm 1 b)] [] = some (.sl 0 [] none, [.live true false false 2 (goodL e b)]) := impl_good hel hb hbl
  have hno : ∀ i : Int, den E 182 [(.i .i64 i), (.ip (.imm 0 []) 0)] [] = some (.b false) := fun i => by
    have h0 : okCells false (.imm 0 []) 0 [(.sl 2 1)] = true := rfl
    rw [f182q1_eq, if_pos h0]
    simp only [okC_nil, okC_agg, okC_i, okC_b, okC_s, okC_imm, okL_i, okL_b, okL_s, okL_sl, okS_i, okS_b, okS_s, okS_sl, okS_agg, okS_tup, okS_nil, okS_cons, cells_agg, cells_i, cells_b, cells_s, cells_imm, toI_i, toB_b, toS_s, toL_imm, nth_agg, nth_tup, put_agg, put_i, put_b, put_s, put_imm, setCells, List.getD_cons_zero, List.getD_cons_succ, bSh_b, bSh_i, bSh_s, bSh_sl, bSh_some, cond_true, cond_false, decide_true, decide_false, Int.toNat_natCast, Nat.zero_add, Nat.reduceAdd, beq_self_eq_true, Bool.and_true, Bool.true_and, if_true, Bool.false_eq_true, if_false, List.set_cons_zero, List.set_cons_succ, Bool.not_true, Bool.not_false, Bool.and_self]
    rw [f88_eq, f89_eq, f89_l1_eq]
    rfl
  have hidx : den E 183 [(.imm 1 (goodL e b)), (.fn 182 [(.ip (.imm 0 []) 0)])] [] = some (.i .i64 (-1)) := by
    rw [f183q3_eq]
    have := loop_to (L := fun i => f183q3_l1 (goodL e b) (.imm 0 []) (((goodL e b).length : Nat) : Int) i) (n := (goodL e b).length) (X := some (.i .i64 (-1))) (fun i hi => ?_) ?_
    · exact this
    · have hT := (goodL_blk _ (getD_mem hi)).t2 hel
      try dsimp only
      rw [f183q3_l1_eq, dT (show (i : Int) < (((goodL e b).length : Nat) : Int) by omega), cond_true, if_pos (by omega), w64 (x := (i : Int) + 1) (by omega) (by omega)]
      simp only [Int.toNat_natCast, hT.ok, hno, okC_nil, okC_agg, okC_i, okC_b, okC_s, okC_imm, okL_i, okL_b, okL_s, okL_sl, okS_i, okS_b, okS_s, okS_sl, okS_agg, okS_tup, okS_nil, okS_cons, cells_agg, cells_i, cells_b, cells_s, cells_imm, toI_i, toB_b, toS_s, toL_imm, nth_agg, nth_tup, put_agg, put_i, put_b, put_s, put_imm, setCells, List.getD_cons_zero, List.getD_cons_succ, bSh_b, bSh_i, bSh_s, bSh_sl, bSh_some, cond_true, cond_false, decide_true, decide_false, Int.toNat_natCast, Nat.zero_add, Nat.reduceAdd, beq_self_eq_true, Bool.and_true, Bool.true_and, if_true, Bool.false_eq_true, if_false, List.set_cons_zero, List.set_cons_succ, Bool.not_true, Bool.not_false, Bool.and_self]
    · try dsimp only
      rw [f183q3_l1_eq, dF (Int.lt_irrefl _), cond_false]
  have hdel : dno E 145 [(.sl 0 [] none), (.fn 182 [(.ip (.imm 0 []) 0)])] [(.live true false false 2 (goodL e b))] = some (.sl 0 [] (some (0, (goodL e b).length)), [.live true false false 2 (goodL e b)]) := by
    rw [f145o2_eq, hidx]
    simp only [okC_nil, okC_agg, okC_i, okC_b, okC_s, okC_imm, okL_i, okL_b, okL_s, okL_sl, okS_i, okS_b, okS_s, okS_sl, okS_agg, okS_tup, okS_nil, okS_cons, cells_agg, cells_i, cells_b, cells_s, cells_imm, toI_i, toB_b, toS_s, toL_imm, nth_agg, nth_tup, put_agg, put_i, put_b, put_s, put_imm, setCells, List.getD_cons_zero, List.getD_cons_succ, bSh_b, bSh_i, bSh_s, bSh_sl, bSh_some, cond_true, cond_false, decide_true, decide_false, Int.toNat_natCast, Nat.zero_add, Nat.reduceAdd, beq_self_eq_true, Bool.and_true, Bool.true_and, if_true, Bool.false_eq_true, if_false, List.set_cons_zero, List.set_cons_succ, Bool.not_true, Bool.not_false, Bool.and_self]
  rw [f140q1_eq, hgood']
  simp only [bOwn_some, bOwnF_some, bOwnS_some, bOwnFS_some, okRs_nil, okRs_cons, okR_row, okR_same, okR_var, okR_gone, okS_so, okS_pr, okS_po, okLens_nil, okLens_same, okLens_row, okLens_var, row_live, flatR_live, flatL_nil, flatL_cons, flat_i, flat_b, flat_s, flat_sl, flat_agg, flat_tup, List.all_cons, List.all_nil, List.length_cons, List.length_nil, Nat.reduceLeDiff, Nat.le_refl, decide_true, Bool.and_self, mkL_length, List.headD_cons, okC_nil, okC_agg, okC_i, okC_b, okC_s, okC_imm, okL_i, okL_b, okL_s, okL_sl, okS_i, okS_b, okS_s, okS_sl, okS_agg, okS_tup, okS_nil, okS_cons, cells_agg, cells_i, cells_b, cells_s, cells_imm, toI_i, toB_b, toS_s, toL_imm, nth_agg, nth_tup, put_agg, put_i, put_b, put_s, put_imm, setCells, List.getD_cons_zero, List.getD_cons_succ, bSh_b, bSh_i, bSh_s, bSh_sl, bSh_some, cond_true, cond_false, decide_true, decide_false, Int.toNat_natCast, Nat.zero_add, Nat.reduceAdd, beq_self_eq_true, Bool.and_true, Bool.true_and, if_true, Bool.false_eq_true, if_false, List.set_cons_zero, List.set_cons_succ, Bool.not_true, Bool.not_false, Bool.and_self, hdel, goodL_flat e b, AV.off, AV.cnt, List.drop_zero, List.take_length, b1]


/-! One move. -/
noncomputable def mu (e : List AV) : Nat := (e.map fun y => (1000 - (y.cells.getD 0 .x).toI).toNat).sum
theorem sum_set {f : AV → Nat} : ∀ (l : List AV) (i : Nat) (y : AV), i < l.length → f y < f (l.getD i .x) → ((l.set i y).map f).sum < (l.map f).sum
  | [], i, _, h, _ => by simp at h
  | z :: l, 0, y, _, h => by
    simp only [List.getD_cons_zero] at h
    simp only [List.set_cons_zero, List.map_cons, List.sum_cons]
    omega
  | z :: l, i + 1, y, hi, h => by
    simp only [List.getD_cons_succ] at h
    have := sum_set (f := f) l i y (by simpa using hi) h
    simp only [List.set_cons_succ, List.map_cons, List.sum_cons]
    omega
theorem iA_set {l : List AV} {i k : Nat} {n : Int} (hi : i < l.length) : iA (l.set i (.i .i64 n)) k = if k = i then n else iA l k := by
  unfold iA
  by_cases h : k = i
  · subst h
    have : (l.set k (.i .i64 n)).getD k .x = .i .i64 n := by rw [List.getD_eq_getElem?_getD, List.getElem?_set_self hi]; rfl
    rw [if_pos rfl, this]; rfl
  · have : (l.set i (.i .i64 n)).getD k .x = l.getD k .x := by rw [List.getD_eq_getElem?_getD, List.getD_eq_getElem?_getD, List.getElem?_set_ne (fun e => h e.symm)]
    rw [if_neg h, this]
theorem fold_mem {f : Int → AV → Int} (hf : ∀ a y, f a y = a ∨ f a y = y.toI) : ∀ (l : List AV) (a : Int), l.foldl f a = a ∨ ∃ y, y ∈ l ∧ l.foldl f a = y.toI
  | [], a => .inl rfl
  | y :: l, a => by
    rw [List.foldl_cons]
    rcases fold_mem hf l (f a y) with h | ⟨z, h1, h2⟩
    · rw [h]
      rcases hf a y with h3 | h3
      · exact .inl h3
      · exact .inr ⟨y, by simp, h3⟩
    · exact .inr ⟨z, by simp [h1], h2⟩
theorem okWear_all {e b c : List AV} {n : Int} (h : okWear e b c n = true) : ∀ i, i < e.length → okW e b c i = true := by
  intro i hi
  simp only [okWear, Bool.and_eq_true, decide_eq_true_eq, List.all_eq_true] at h
  exact h.2.2.2.2 i (by simp [List.mem_range'_1, hi])
theorem okWear_mk {e b c e' c' : List AV} {n : Int} (h : okWear e b c n = true) (h1 : e'.length = e.length) (h2 : c'.length = c.length) (h3 : ∀ i, i < e.length → okW e' b c' i = true) : okWear e' b c' n = true := by
  simp only [okWear, Bool.and_eq_true, decide_eq_true_eq, List.all_eq_true] at h ⊢
  rw [h1, h2]
  exact ⟨h.1, h.2.1, h.2.2.1, h.2.2.2.1, fun i hi => h3 i (by simpa [List.mem_range'_1] using hi)⟩

/-! What the program alone answers. -/
theorem blk_rows {n : Nat} {l : List AV} (hn : n ≤ 1048576) (hl1 : l.length ≤ 1048576) (hl : ∀ y, y ∈ l → Blk n y) : Rw (T2 1048576) 1048576 l ∧ ∀ i, i < l.length → 0 ≤ iA l i ∧ iA l i ≤ (n : Int) - 1 := by
  refine ⟨⟨hl1, fun y hy => (hl y hy).t2 hn⟩, fun i hi => ?_⟩
  obtain ⟨j, hj, hlj⟩ := hl _ (getD_mem hi)
  unfold iA
  rw [hlj]
  simp only [okC_nil, okC_agg, okC_i, okC_b, okC_s, okC_imm, okL_i, okL_b, okL_s, okL_sl, okS_i, okS_b, okS_s, okS_sl, okS_agg, okS_tup, okS_nil, okS_cons, cells_agg, cells_i, cells_b, cells_s, cells_imm, toI_i, toB_b, toS_s, toL_imm, nth_agg, nth_tup, put_agg, put_i, put_b, put_s, put_imm, setCells, List.getD_cons_zero, List.getD_cons_succ, bSh_b, bSh_i, bSh_s, bSh_sl, bSh_some, cond_true, cond_false, decide_true, decide_false, Int.toNat_natCast, Nat.zero_add, Nat.reduceAdd, beq_self_eq_true, Bool.and_true, Bool.true_and, if_true, Bool.false_eq_true, if_false, List.set_cons_zero, List.set_cons_succ, Bool.not_true, Bool.not_false, Bool.and_self]
  omega
theorem pickI {e l : List AV} (he : Rw (T2 1048576) 1048576 e) (hl1 : l.length ≤ 1048576) (hl : ∀ y, y ∈ l → Blk e.length y) (t : Bool) :
    ∃ a : Int, (a = -1 ∨ ∃ j : Nat, a = j ∧ .i .i64 a ∈ l) ∧ (l ≠ [] → 0 ≤ a) ∧ den E 137 [(.imm 1 e), (.imm 1 l), (.b t)] [] = some (.i .i64 a) := by
  have hel := he.1
  obtain ⟨hr, hin⟩ := blk_rows hel hl1 hl
  have hmem : ∀ (f : Int → AV → Int), (∀ a y, f a y = a ∨ f a y = y.toI) → (l.foldl f (-1) = -1 ∨ ∃ j : Nat, l.foldl f (-1) = j ∧ .i .i64 (l.foldl f (-1)) ∈ l) := fun f hf => by
    rcases fold_mem hf l (-1) with h | ⟨y, h1, h2⟩
    · exact .inl h
    · obtain ⟨j, hj, rfl⟩ := hl y h1
      rw [h2]
      exact .inr ⟨j, rfl, h1⟩
  rw [f137_eq, w64 (x := ((e.length : Nat) : Int) - 1) (by omega) (by omega), all_in hr 0 (((e.length : Nat) : Int) - 1) hin]
  cases t with
  | true =>
    simp only [okC_nil, okC_agg, okC_i, okC_b, okC_s, okC_imm, okL_i, okL_b, okL_s, okL_sl, okS_i, okS_b, okS_s, okS_sl, okS_agg, okS_tup, okS_nil, okS_cons, cells_agg, cells_i, cells_b, cells_s, cells_imm, toI_i, toB_b, toS_s, toL_imm, nth_agg, nth_tup, put_agg, put_i, put_b, put_s, put_imm, setCells, List.getD_cons_zero, List.getD_cons_succ, bSh_b, bSh_i, bSh_s, bSh_sl, bSh_some, cond_true, cond_false, decide_true, decide_false, Int.toNat_natCast, Nat.zero_add, Nat.reduceAdd, beq_self_eq_true, Bool.and_true, Bool.true_and, if_true, Bool.false_eq_true, if_false, List.set_cons_zero, List.set_cons_succ, Bool.not_true, Bool.not_false, Bool.and_self, (best_less he hl1 hl).1]
    exact ⟨_, hmem _ (stepL_or e), fun hne => fold_ge (e := e) (stepL_or e) (stepL_0 e) l (-1) hl (.inl hne) (.inr rfl), rfl⟩
  | false =>
    simp only [okC_nil, okC_agg, okC_i, okC_b, okC_s, okC_imm, okL_i, okL_b, okL_s, okL_sl, okS_i, okS_b, okS_s, okS_sl, okS_agg, okS_tup, okS_nil, okS_cons, cells_agg, cells_i, cells_b, cells_s, cells_imm, toI_i, toB_b, toS_s, toL_imm, nth_agg, nth_tup, put_agg, put_i, put_b, put_s, put_imm, setCells, List.getD_cons_zero, List.getD_cons_succ, bSh_b, bSh_i, bSh_s, bSh_sl, bSh_some, cond_true, cond_false, decide_true, decide_false, Int.toNat_natCast, Nat.zero_add, Nat.reduceAdd, beq_self_eq_true, Bool.and_true, Bool.true_and, if_true, Bool.false_eq_true, if_false, List.set_cons_zero, List.set_cons_succ, Bool.not_true, Bool.not_false, Bool.and_self, (best_more he hl1 hl).1]
    exact ⟨_, hmem _ (stepM_or e), fun hne => fold_ge (e := e) (stepM_or e) (stepM_0 e) l (-1) hl (.inl hne) (.inr rfl), rfl⟩

theorem gapI {e b : List AV} (he : Rw (T2 1048576) 1048576 e) (hb : Rw (T4 1048576) 1048576 b) (hbl : b.length = e.length) (h : ∀ i, i < e.length → 0 ≤ iA e i ∧ iA e i ≤ 1000) :
    den E 15 [(.imm 1 e), (.imm 1 b)] [] = some (.i .i64 (gap e b)) := by
  have hel := he.1
  have hgl := goodL_length e b
  obtain ⟨b1, r1⟩ := best_less he (Nat.le_trans hgl hel) (goodL_blk (e := e) (b := b))
  obtain ⟨b2, r2⟩ := best_more he (Nat.le_trans hgl hel) (goodL_blk (e := e) (b := b))
  have hgood' : dno E 62 [(.imm 1 e), (.imm 1 b)] [] = some (.sl 0 [] none, [.live true false false 2 (goodL e b)]) := impl_good hel hb hbl
  rw [f15_eq, hgood']
  by_cases hn : goodL e b = []
  · rw [hn]
    simp only [bOwn_some, bOwnF_some, bOwnS_some, bOwnFS_some, okRs_nil, okRs_cons, okR_row, okR_same, okR_var, okR_gone, okS_so, okS_pr, okS_po, okLens_nil, okLens_same, okLens_row, okLens_var, row_live, flatR_live, flatL_nil, flatL_cons, flat_i, flat_b, flat_s, flat_sl, flat_agg, flat_tup, List.all_cons, List.all_nil, List.length_cons, List.length_nil, Nat.reduceLeDiff, Nat.le_refl, decide_true, Bool.and_self, mkL_length, List.headD_cons, okC_nil, okC_agg, okC_i, okC_b, okC_s, okC_imm, okL_i, okL_b, okL_s, okL_sl, okS_i, okS_b, okS_s, okS_sl, okS_agg, okS_tup, okS_nil, okS_cons, cells_agg, cells_i, cells_b, cells_s, cells_imm, toI_i, toB_b, toS_s, toL_imm, nth_agg, nth_tup, put_agg, put_i, put_b, put_s, put_imm, setCells, List.getD_cons_zero, List.getD_cons_succ, bSh_b, bSh_i, bSh_s, bSh_sl, bSh_some, cond_true, cond_false, decide_true, decide_false, Int.toNat_natCast, Nat.zero_add, Nat.reduceAdd, beq_self_eq_true, Bool.and_true, Bool.true_and, if_true, Bool.false_eq_true, if_false, List.set_cons_zero, List.set_cons_succ, Bool.not_true, Bool.not_false, Bool.and_self]
    unfold gap
    rw [if_pos hn]
    rfl
  · have hl0 : ¬ (((goodL e b).length : Nat) : Int) = 0 := by
      have := List.length_pos_iff.2 hn
      omega
    have c1 := fold_ge (e := e) (stepL_or e) (stepL_0 e) (goodL e b) (-1) goodL_blk (.inl hn) (.inr rfl)
    have c2 := fold_ge (e := e) (stepM_or e) (stepM_0 e) (goodL e b) (-1) goodL_blk (.inl hn) (.inr rfl)
    unfold gap
    rw [if_neg hn]
    generalize hA : (goodL e b).foldl (stepL e) (-1) = A at *
    generalize hB : (goodL e b).foldl (stepM e) (-1) = B at *
    obtain ⟨j, rfl, hj⟩ := r1.resolve_left (by omega)
    obtain ⟨k, rfl, hk⟩ := r2.resolve_left (by omega)
    have t1 := he.at hj
    have t2 := he.at hk
    have v1 := h j hj
    have v2 := h k hk
    have g1 : (0 : Int) ≤ (j : Int) := by omega
    have g2 : (j : Int) < ((e.length : Nat) : Int) := by omega
    have g3 : (0 : Int) ≤ (k : Int) := by omega
    have g4 : (k : Int) < ((e.length : Nat) : Int) := by omega
    have e1 : eC e (j : Int) = iA e j := rfl
    have e2 : eC e (k : Int) = iA e k := rfl
    simp only [bOwn_some, bOwnF_some, bOwnS_some, bOwnFS_some, okRs_nil, okRs_cons, okR_row, okR_same, okR_var, okR_gone, okS_so, okS_pr, okS_po, okLens_nil, okLens_same, okLens_row, okLens_var, row_live, flatR_live, flatL_nil, flatL_cons, flat_i, flat_b, flat_s, flat_sl, flat_agg, flat_tup, List.all_cons, List.all_nil, List.length_cons, List.length_nil, Nat.reduceLeDiff, Nat.le_refl, decide_true, Bool.and_self, mkL_length, List.headD_cons, okC_nil, okC_agg, okC_i, okC_b, okC_s, okC_imm, okL_i, okL_b, okL_s, okL_sl, okS_i, okS_b, okS_s, okS_sl, okS_agg, okS_tup, okS_nil, okS_cons, cells_agg, cells_i, cells_b, cells_s, cells_imm, toI_i, toB_b, toS_s, toL_imm, nth_agg, nth_tup, put_agg, put_i, put_b, put_s, put_imm, setCells, List.getD_cons_zero, List.getD_cons_succ, bSh_b, bSh_i, bSh_s, bSh_sl, bSh_some, cond_true, cond_false, decide_true, decide_false, Int.toNat_natCast, Nat.zero_add, Nat.reduceAdd, beq_self_eq_true, Bool.and_true, Bool.true_and, if_true, Bool.false_eq_true, if_false, List.set_cons_zero, List.set_cons_succ, Bool.not_true, Bool.not_false, Bool.and_self, hl0, all_in he 0 1000 h, b1, b2, g1, g2, g3, g4, and_self, Int.toNat_natCast, t1.ok, t2.ok]
    rw [e1, e2]
    unfold iA at v1 v2 ⊢
    rw [w64 (by omega) (by omega)]

/-! The extremes bound all. -/
theorem fold_max {e : List AV} : ∀ (l : List AV) (a : Int), (∀ y, y ∈ l → 0 ≤ y.toI) → (0 ≤ a → eC e a ≤ eC e (l.foldl (stepM e) a)) ∧ ∀ y, y ∈ l → eC e y.toI ≤ eC e (l.foldl (stepM e) a)
  | [], a, _ => ⟨fun _ => Int.le_refl _, fun y h => by cases h⟩
  | z :: l, a, hl => by
    obtain ⟨h1, h2⟩ := fold_max (e := e) l (stepM e a z) (fun y hy => hl y (by simp [hy]))
    have hz := hl z (by simp)
    have h3 : eC e z.toI ≤ eC e (stepM e a z) ∧ (0 ≤ a → eC e a ≤ eC e (stepM e a z)) := by
      unfold stepM
      split <;> rename_i h
      · refine ⟨Int.le_refl _, fun ha => ?_⟩
        rcases h with h | h | h <;> omega
      · refine ⟨?_, fun _ => Int.le_refl _⟩
        have h' := fun q => h (.inr (.inl q))
        omega
    have h4 : 0 ≤ stepM e a z := by
      unfold stepM
      split <;> rename_i h
      · exact hz
      · have h' := fun q => h (.inl q)
        omega
    refine ⟨fun ha => Int.le_trans (h3.2 ha) (h1 h4), fun y hy => ?_⟩
    rcases List.mem_cons.1 hy with rfl | hy
    · exact Int.le_trans h3.1 (h1 h4)
    · exact h2 y hy
theorem fold_min {e : List AV} : ∀ (l : List AV) (a : Int), (∀ y, y ∈ l → 0 ≤ y.toI) → (0 ≤ a → eC e (l.foldl (stepL e) a) ≤ eC e a) ∧ ∀ y, y ∈ l → eC e (l.foldl (stepL e) a) ≤ eC e y.toI
  | [], a, _ => ⟨fun _ => Int.le_refl _, fun y h => by cases h⟩
  | z :: l, a, hl => by
    obtain ⟨h1, h2⟩ := fold_min (e := e) l (stepL e a z) (fun y hy => hl y (by simp [hy]))
    have hz := hl z (by simp)
    have h3 : eC e (stepL e a z) ≤ eC e z.toI ∧ (0 ≤ a → eC e (stepL e a z) ≤ eC e a) := by
      unfold stepL
      split <;> rename_i h
      · refine ⟨Int.le_refl _, fun ha => ?_⟩
        rcases h with h | h | h <;> omega
      · refine ⟨?_, fun _ => Int.le_refl _⟩
        have h' := fun q => h (.inr (.inl q))
        omega
    have h4 : 0 ≤ stepL e a z := by
      unfold stepL
      split <;> rename_i h
      · exact hz
      · have h' := fun q => h (.inl q)
        omega
    refine ⟨fun ha => Int.le_trans (h1 h4) (h3.2 ha), fun y hy => ?_⟩
    rcases List.mem_cons.1 hy with rfl | hy
    · exact Int.le_trans (h1 h4) h3.1
    · exact h2 y hy
theorem goodL_mem {e b : List AV} {k : Nat} (hk : k < e.length) (hb : bA b k = false) : .i .i64 (k : Int) ∈ goodL e b := by
  refine List.mem_filter.2 ⟨List.mem_map.2 ⟨k, List.mem_range.2 hk, rfl⟩, ?_⟩
  unfold goodB
  simp only [toI_i, Int.toNat_natCast, hb, Bool.not_false]
theorem goodL_good {e b : List AV} {k : Nat} (h : .i .i64 (k : Int) ∈ goodL e b) : bA b k = false := by
  have := (List.mem_filter.1 h).2
  unfold goodB at this
  simpa only [toI_i, Int.toNat_natCast, Bool.not_eq_true'] using this
theorem goodL_pos {e b : List AV} : ∀ y, y ∈ goodL e b → 0 ≤ y.toI := fun y hy => by
  obtain ⟨j, _, rfl⟩ := goodL_blk y hy
  rw [toI_i]; omega
/-- The least worn good block and the most worn one. -/
theorem extremes {e b : List AV} (he : Rw (T2 1048576) 1048576 e) (hne : goodL e b ≠ []) : ∃ i j : Nat, i < e.length ∧ j < e.length ∧ bA b i = false ∧ bA b j = false ∧
    (goodL e b).foldl (stepL e) (-1) = i ∧ (goodL e b).foldl (stepM e) (-1) = j ∧ gap e b = iA e j - iA e i ∧ ∀ k, k < e.length → bA b k = false → iA e i ≤ iA e k ∧ iA e k ≤ iA e j := by
  have c1 := fold_ge (e := e) (stepL_or e) (stepL_0 e) (goodL e b) (-1) goodL_blk (.inl hne) (.inr rfl)
  have c2 := fold_ge (e := e) (stepM_or e) (stepM_0 e) (goodL e b) (-1) goodL_blk (.inl hne) (.inr rfl)
  obtain ⟨y1, m1, q1⟩ := (fold_mem (stepL_or e) (goodL e b) (-1)).resolve_left (by omega)
  obtain ⟨y2, m2, q2⟩ := (fold_mem (stepM_or e) (goodL e b) (-1)).resolve_left (by omega)
  obtain ⟨i, hi, rfl⟩ := goodL_blk y1 m1
  obtain ⟨j, hj, rfl⟩ := goodL_blk y2 m2
  rw [toI_i] at q1 q2
  refine ⟨i, j, hi, hj, goodL_good m1, goodL_good m2, q1, q2, ?_, fun k hk hbk => ?_⟩
  · unfold gap
    rw [if_neg hne, q1, q2]
    rfl
  · have h1 := (fold_min (e := e) (goodL e b) (-1) goodL_pos).2 _ (goodL_mem hk hbk)
    have h2 := (fold_max (e := e) (goodL e b) (-1) goodL_pos).2 _ (goodL_mem hk hbk)
    rw [q1, toI_i] at h1
    rw [q2, toI_i] at h2
    exact ⟨h1, h2⟩

/-! The state between two rounds. -/
structure Inv (n K g : Int) (e b c : List AV) (h q : Nat) : Prop where
  he : Rw (T2 1048576) 1048576 e
  hb : Rw (T4 1048576) 1048576 b
  hc : Rw (T2 1048576) 1048576 c
  ok : okWear e b c n = true
  four : 4 ≤ e.length
  good : ∀ k, k < 4 → bA b k = false
  hh : h < e.length
  hq : q < e.length
  ch : iA c h = 2
  cq : iA c q = 1
  other : ∀ k, k < e.length → k ≠ h → k ≠ q → iA c k = 0
  le : ∀ k, k < e.length → iA e k ≤ K
  sp : ∀ i j, i < e.length → j < e.length → bA b i = false → bA b j = false → iA e i ≤ iA e j + g
theorem Inv.hne {n K g : Int} {e b c : List AV} {h q : Nat} (x : Inv n K g e b c h q) : goodL e b ≠ [] := fun hn => by
  have := goodL_mem (e := e) (b := b) (k := 0) (by have := x.four; omega) (x.good 0 (by omega))
  rw [hn] at this
  cases this
theorem Inv.bad {n K g : Int} {e b c : List AV} {h q : Nat} (x : Inv n K g e b c h q) : ∀ k, k < e.length → bA b k = true → iA c k = 0 := fun k hk hbk => by
  have h0 := okWear_all x.ok k hk
  unfold okW at h0
  simp only [hbk, Bool.true_and, Bool.not_not, Bool.and_eq_true, decide_eq_true_eq] at h0
  exact h0.2.2
theorem Inv.free {n K g : Int} {e b c : List AV} {h q : Nat} (x : Inv n K g e b c h q) : freeL e b c ≠ [] := fun hn => by
  have four := x.four
  obtain ⟨k, hk, h1, h2⟩ : ∃ k, k < 4 ∧ k ≠ h ∧ k ≠ q := by
    by_cases a1 : 0 ≠ h ∧ 0 ≠ q
    · exact ⟨0, by omega, a1⟩
    · by_cases a2 : 1 ≠ h ∧ 1 ≠ q
      · exact ⟨1, by omega, a2⟩
      · exact ⟨2, by omega, by omega, by omega⟩
  have : .i .i64 (k : Int) ∈ freeL e b c := by
    refine List.mem_filter.2 ⟨goodL_mem (by omega) (x.good k hk), ?_⟩
    unfold freeB
    simp only [toI_i, Int.toNat_natCast, x.other k (by omega) h1 h2, decide_true]
  rw [hn] at this
  cases this
theorem free_good {e b c : List AV} {j : Nat} (h : .i .i64 (j : Int) ∈ freeL e b c) : j < e.length ∧ bA b j = false ∧ iA c j = 0 := by
  have h1 := List.mem_filter.1 h
  obtain ⟨k, hk, hjk⟩ := goodL_blk _ h1.1
  have h2 := h1.2
  unfold freeB at h2
  simp only [AV.i.injEq, toI_i, Int.toNat_natCast, decide_eq_true_eq] at hjk h2
  exact ⟨by omega, goodL_good h1.1, of_decide_eq_true h2⟩
theorem okW_mk {e b c : List AV} {k : Nat} (h1 : 0 ≤ iA e k ∧ iA e k ≤ 1000) (h2 : 0 ≤ iA c k ∧ iA c k ≤ 2) (h3 : bA b k = true → iA c k = 0) : okW e b c k = true := by
  unfold okW
  simp only [Bool.and_eq_true, decide_eq_true_eq]
  refine ⟨h1, h2, ?_⟩
  cases hb : bA b k with
  | false => rfl
  | true => simp [h3 hb]

/-- A rewrite. -/
theorem rewriteI {n K : Int} {e b c : List AV} {h q : Nat} (x : Inv n K n e b c h q) (hK : K < 1000) : ∃ (e' c' : List AV) (a : Nat),
    dno E 12 [(.agg [(.imm 1 e), (.imm 1 b), (.imm 1 c), (.i .i64 n)]), (.i .i64 (h : Int))] [] = some (.tup [(.agg [(.sl 0 [] none), (.sl 1 [] none), (.sl 2 [] none), (.i .i64 n)]), (.i .i64 (a : Int)), (.i .i64 0)], [(.live true false false 2 e'), (.live true false false 4 b), (.live true false false 2 c')]) ∧
    Inv n (K + 1) (n + 1) e' b c' a q := by
  have he := x.he
  have hb := x.hb
  have hc := x.hc
  have hel := he.1
  have hi := x.hh
  obtain ⟨_, _, hbl, hcl, hnr, hall⟩ := okWear_len x.ok
  have z64 : W64 0 := by constructor <;> omega
  have h1 := he.at hi
  have h3 := hc.at (i := h) (by omega)
  have g1 : (0 : Int) ≤ (h : Int) := by omega
  have g2 : (h : Int) < ((e.length : Nat) : Int) := by omega
  have g3 : (h : Int) < ((c.length : Nat) : Int) := by omega
  have g4 : (h : Int) ≤ ((e.length : Nat) : Int) - 1 := by omega
  have ha := hall h hi
  have hle := x.le h hi
  have hch := x.ch
  obtain ⟨⟨ha1, ha2⟩, _⟩ := ha
  unfold iA at ha1 ha2 hle hch
  have hmax : ¬ (1000 : Int) ≤ ((e.getD h .x).cells.getD 0 .x).toI := by omega
  obtain ⟨a, hA, hpos, p2⟩ := pickI he (Nat.le_trans (freeL_length e b c) he.1) (freeL_blk (e := e) (b := b) (c := c)) true
  have hpos := hpos x.free
  have hm1 : ¬ a = -1 := by omega
  obtain ⟨j, rfl, hj⟩ := hA.resolve_left hm1
  obtain ⟨hjl, hjb, hjc⟩ := free_good hj
  have hjh : j ≠ h := fun hq => by rw [hq, x.ch] at hjc; omega
  have hjq : j ≠ q := fun hq => by rw [hq, x.cq] at hjc; omega
  have hhq : h ≠ q := fun hq => by have := x.ch; rw [hq, x.cq] at this; omega
  have hc2 : Rw (T2 1048576) 1048576 (c.set j (.i .i64 2)) := t2_set hc _ _ (by constructor <;> decide)
  have hl2 : (c.set j (.i .i64 2)).length = e.length := by rw [List.length_set]; exact hcl
  have te : Rw (T2 1048576) 1048576 (e.set h (.i .i64 (((e.getD h .x).cells.getD 0 .x).toI + 1))) := t2_set he _ _ (by constructor <;> omega)
  have ie : ∀ k, iA (e.set h (.i .i64 (((e.getD h .x).cells.getD 0 .x).toI + 1))) k = if k = h then iA e h + 1 else iA e k := fun k => iA_set hi
  have ic : ∀ k, iA ((c.set j (.i .i64 2)).set h (.i .i64 0)) k = if k = h then 0 else if k = j then 2 else iA c k := fun k => by
    rw [iA_set (by omega), iA_set (by omega)]
  refine ⟨e.set h (.i .i64 (((e.getD h .x).cells.getD 0 .x).toI + 1)), (c.set j (.i .i64 2)).set h (.i .i64 0), j, ?_, te, hb, t2_set hc2 _ _ z64, ?_, by rw [List.length_set]; exact x.four, x.good, by rw [List.length_set]; exact hjl, by rw [List.length_set]; exact x.hq, ?_, ?_, fun k hk k1 k2 => ?_, fun k hk => ?_, fun i k hi' hk b1 b2 => ?_⟩
  · rw [f12o1_eq, impl_wear n he hb hc]
    simp only [x.ok, isIdx (x := (h : Int)) (n := ((e.length : Nat) : Int)) (by omega) (by omega), g1, g2, g3, g4, okC_nil, okC_agg, okC_i, okC_b, okC_s, okC_imm, okL_i, okL_b, okL_s, okL_sl, okS_i, okS_b, okS_s, okS_sl, okS_agg, okS_tup, okS_nil, okS_cons, cells_agg, cells_i, cells_b, cells_s, cells_imm, toI_i, toB_b, toS_s, toL_imm, nth_agg, nth_tup, put_agg, put_i, put_b, put_s, put_imm, setCells, List.getD_cons_zero, List.getD_cons_succ, bSh_b, bSh_i, bSh_s, bSh_sl, bSh_some, cond_true, cond_false, decide_true, decide_false, Int.toNat_natCast, Nat.zero_add, Nat.reduceAdd, beq_self_eq_true, Bool.and_true, Bool.true_and, if_true, Bool.false_eq_true, if_false, List.set_cons_zero, List.set_cons_succ, Bool.not_true, Bool.not_false, Bool.and_self]
    simp only [Bool.and_self, and_self, if_true, Int.toNat_natCast, h1.ok, h3.ok, hch, hmax, okC_nil, okC_agg, okC_i, okC_b, okC_s, okC_imm, okL_i, okL_b, okL_s, okL_sl, okS_i, okS_b, okS_s, okS_sl, okS_agg, okS_tup, okS_nil, okS_cons, cells_agg, cells_i, cells_b, cells_s, cells_imm, toI_i, toB_b, toS_s, toL_imm, nth_agg, nth_tup, put_agg, put_i, put_b, put_s, put_imm, setCells, List.getD_cons_zero, List.getD_cons_succ, bSh_b, bSh_i, bSh_s, bSh_sl, bSh_some, cond_true, cond_false, decide_true, decide_false, Int.toNat_natCast, Nat.zero_add, Nat.reduceAdd, beq_self_eq_true, Bool.and_true, Bool.true_and, if_true, Bool.false_eq_true, if_false, List.set_cons_zero, List.set_cons_succ, Bool.not_true, Bool.not_false, Bool.and_self]
    simp only [impl_clone n he hb hc, bOwn_some, bOwnF_some, bOwnS_some, bOwnFS_some, okRs_nil, okRs_cons, okR_row, okR_same, okR_var, okR_gone, okS_so, okS_pr, okS_po, okLens_nil, okLens_same, okLens_row, okLens_var, row_live, flatR_live, flatL_nil, flatL_cons, flat_i, flat_b, flat_s, flat_sl, flat_agg, flat_tup, List.all_cons, List.all_nil, List.length_cons, List.length_nil, Nat.reduceLeDiff, Nat.le_refl, decide_true, Bool.and_self, mkL_length, List.headD_cons, okC_nil, okC_agg, okC_i, okC_b, okC_s, okC_imm, okL_i, okL_b, okL_s, okL_sl, okS_i, okS_b, okS_s, okS_sl, okS_agg, okS_tup, okS_nil, okS_cons, cells_agg, cells_i, cells_b, cells_s, cells_imm, toI_i, toB_b, toS_s, toL_imm, nth_agg, nth_tup, put_agg, put_i, put_b, put_s, put_imm, setCells, List.getD_cons_zero, List.getD_cons_succ, bSh_b, bSh_i, bSh_s, bSh_sl, bSh_some, cond_true, cond_false, decide_true, decide_false, Int.toNat_natCast, Nat.zero_add, Nat.reduceAdd, beq_self_eq_true, Bool.and_true, Bool.true_and, if_true, Bool.false_eq_true, if_false, List.set_cons_zero, List.set_cons_succ, Bool.not_true, Bool.not_false, Bool.and_self]
    rw [impl_place n he hb hc hbl hcl true (.inr ⟨j, rfl, hj⟩) p2]
    simp only [hm1, if_false, if_true, Int.toNat_natCast, bOwn_some, bOwnF_some, bOwnS_some, bOwnFS_some, okRs_nil, okRs_cons, okR_row, okR_same, okR_var, okR_gone, okS_so, okS_pr, okS_po, okLens_nil, okLens_same, okLens_row, okLens_var, row_live, flatR_live, flatL_nil, flatL_cons, flat_i, flat_b, flat_s, flat_sl, flat_agg, flat_tup, List.all_cons, List.all_nil, List.length_cons, List.length_nil, Nat.reduceLeDiff, Nat.le_refl, decide_true, Bool.and_self, mkL_length, List.headD_cons, okC_nil, okC_agg, okC_i, okC_b, okC_s, okC_imm, okL_i, okL_b, okL_s, okL_sl, okS_i, okS_b, okS_s, okS_sl, okS_agg, okS_tup, okS_nil, okS_cons, cells_agg, cells_i, cells_b, cells_s, cells_imm, toI_i, toB_b, toS_s, toL_imm, nth_agg, nth_tup, put_agg, put_i, put_b, put_s, put_imm, setCells, List.getD_cons_zero, List.getD_cons_succ, bSh_b, bSh_i, bSh_s, bSh_sl, bSh_some, cond_true, cond_false, decide_true, decide_false, Int.toNat_natCast, Nat.zero_add, Nat.reduceAdd, beq_self_eq_true, Bool.and_true, Bool.true_and, if_true, Bool.false_eq_true, if_false, List.set_cons_zero, List.set_cons_succ, Bool.not_true, Bool.not_false, Bool.and_self, List.length_set, impl_clear n he hc2 hl2 hi b ha1 ha2]
  · refine okWear_mk x.ok (by rw [List.length_set]) (by rw [List.length_set, List.length_set]) fun k hk => ?_
    have ha := hall k hk
    have hle := x.le k hk
    have hle2 := x.le h hi
    have ha0 := (hall h hi).1
    refine okW_mk ?_ ?_ fun hbk => ?_
    · rw [ie]; split <;> omega
    · rw [ic]; split
      · omega
      · split
        · omega
        · exact ha.2
    · rw [ic]; split
      · rfl
      · split
        · rename_i hkj; rw [hkj, hjb] at hbk; cases hbk
        · exact x.bad k hk hbk
  · rw [ic, if_neg hjh, if_pos rfl]
  · rw [ic, if_neg (Ne.symm hhq), if_neg (Ne.symm hjq)]; exact x.cq
  · rw [List.length_set] at hk
    rw [ic]
    by_cases k3 : k = h
    · rw [if_pos k3]
    · rw [if_neg k3, if_neg k1]; exact x.other k hk k3 k2
  · rw [List.length_set] at hk
    rw [ie]
    have := x.le k hk
    have := x.le h hi
    split <;> omega
  · rw [List.length_set] at hi' hk
    rw [ie, ie]
    have := x.sp i k hi' hk b1 b2
    split <;> split <;> rename_i q1 q2
    · omega
    · rw [q1] at this; omega
    · rw [q2] at this; omega
    · omega

/-- A move. -/
theorem moveI {n K : Int} {e b c : List AV} {h q : Nat} (x : Inv n K (n + 1) e b c h q) (hK : K ≤ 1000) (hgap : n < gap e b) :
    ∃ (e' c' : List AV) (h' q' : Nat), mu e' < mu e ∧ e'.length = e.length ∧ c'.length = c.length ∧ Inv n K (n + 1) e' b c' h' q' ∧
      dno E 61 [(.pt 0 [] 0 0)] [(.live false true false 30 [(.agg [(.sl 1 [] none), (.sl 2 [] none), (.sl 3 [] none), (.i .i64 n)])]), (.live true false false 2 e), (.live true false false 4 b), (.live true false false 2 c)] = some ((.i .i64 0), [(.live false true false 30 [(.agg [(.sl 1 [] none), (.sl 2 [] none), (.sl 3 [] none), (.i .i64 n)])]), (.live true false false 2 e'), (.live true false false 4 b), (.live true false false 2 c')]) := by
  have he := x.he
  have hb := x.hb
  have hc := x.hc
  have hel := he.1
  obtain ⟨_, _, hbl, hcl, hnr, hall⟩ := okWear_len x.ok
  have z64 : W64 0 := by constructor <;> omega
  obtain ⟨i, m, hi, hm, hmem, hmb, hA, _, hg, hex⟩ := extremes he x.hne
  have s2 := impl_static he hb hbl
  rw [hA] at s2
  have t1 := he.at hi
  have t3 := hc.at (i := i) (by omega)
  have g1 : (0 : Int) ≤ (i : Int) := by omega
  have g2 : (i : Int) < ((c.length : Nat) : Int) := by omega
  have hlm := x.le m hm
  obtain ⟨⟨ha1, ha2⟩, hb1, hb2⟩ := hall i hi
  have hK1 : iA e i + 1 ≤ K := by omega
  unfold iA at ha1 ha2 hb1 hb2
  have te : Rw (T2 1048576) 1048576 (e.set i (.i .i64 (((e.getD i .x).cells.getD 0 .x).toI + 1))) := t2_set he _ _ (by constructor <;> omega)
  have ie : ∀ k, iA (e.set i (.i .i64 (((e.getD i .x).cells.getD 0 .x).toI + 1))) k = if k = i then iA e i + 1 else iA e k := fun k => iA_set hi
  have hmu : mu (e.set i (.i .i64 (((e.getD i .x).cells.getD 0 .x).toI + 1))) < mu e := by
    refine sum_set e i _ hi ?_
    unfold iA at hK1
    simp only [okC_nil, okC_agg, okC_i, okC_b, okC_s, okC_imm, okL_i, okL_b, okL_s, okL_sl, okS_i, okS_b, okS_s, okS_sl, okS_agg, okS_tup, okS_nil, okS_cons, cells_agg, cells_i, cells_b, cells_s, cells_imm, toI_i, toB_b, toS_s, toL_imm, nth_agg, nth_tup, put_agg, put_i, put_b, put_s, put_imm, setCells, List.getD_cons_zero, List.getD_cons_succ, bSh_b, bSh_i, bSh_s, bSh_sl, bSh_some, cond_true, cond_false, decide_true, decide_false, Int.toNat_natCast, Nat.zero_add, Nat.reduceAdd, beq_self_eq_true, Bool.and_true, Bool.true_and, if_true, Bool.false_eq_true, if_false, List.set_cons_zero, List.set_cons_succ, Bool.not_true, Bool.not_false, Bool.and_self]
    omega
  have fin2 : ∀ c' : List AV, Rw (T2 1048576) 1048576 c' → c'.length = e.length → f61o1_j1 (i : Int) n e b c' = some ((.i .i64 0), [(.live false true false 30 [(.agg [(.sl 1 [] none), (.sl 2 [] none), (.sl 3 [] none), (.i .i64 n)])]), (.live true false false 2 (e.set i (.i .i64 (((e.getD i .x).cells.getD 0 .x).toI + 1)))), (.live true false false 4 b), (.live true false false 2 (c'.set i (.i .i64 0)))]) := fun c' h1 h2 => by
    rw [f61o1_j1_eq, impl_clear n he h1 h2 hi b ha1 ha2]
    simp only [bOwn_some, bOwnF_some, bOwnS_some, bOwnFS_some, okRs_nil, okRs_cons, okR_row, okR_same, okR_var, okR_gone, okS_so, okS_pr, okS_po, okLens_nil, okLens_same, okLens_row, okLens_var, row_live, flatR_live, flatL_nil, flatL_cons, flat_i, flat_b, flat_s, flat_sl, flat_agg, flat_tup, List.all_cons, List.all_nil, List.length_cons, List.length_nil, Nat.reduceLeDiff, Nat.le_refl, decide_true, Bool.and_self, mkL_length, List.headD_cons, okC_nil, okC_agg, okC_i, okC_b, okC_s, okC_imm, okL_i, okL_b, okL_s, okL_sl, okS_i, okS_b, okS_s, okS_sl, okS_agg, okS_tup, okS_nil, okS_cons, cells_agg, cells_i, cells_b, cells_s, cells_imm, toI_i, toB_b, toS_s, toL_imm, nth_agg, nth_tup, put_agg, put_i, put_b, put_s, put_imm, setCells, List.getD_cons_zero, List.getD_cons_succ, bSh_b, bSh_i, bSh_s, bSh_sl, bSh_some, cond_true, cond_false, decide_true, decide_false, Int.toNat_natCast, Nat.zero_add, Nat.reduceAdd, beq_self_eq_true, Bool.and_true, Bool.true_and, if_true, Bool.false_eq_true, if_false, List.set_cons_zero, List.set_cons_succ, Bool.not_true, Bool.not_false, Bool.and_self, List.length_set]
  -- the counts
  have hle : ∀ k, k < (e.set i (.i .i64 (((e.getD i .x).cells.getD 0 .x).toI + 1))).length → iA (e.set i (.i .i64 (((e.getD i .x).cells.getD 0 .x).toI + 1))) k ≤ K := fun k hk => by
    rw [List.length_set] at hk
    rw [ie]
    have := x.le k hk
    split <;> omega
  have hsp : ∀ a k, a < (e.set i (.i .i64 (((e.getD i .x).cells.getD 0 .x).toI + 1))).length → k < (e.set i (.i .i64 (((e.getD i .x).cells.getD 0 .x).toI + 1))).length → bA b a = false → bA b k = false → iA (e.set i (.i .i64 (((e.getD i .x).cells.getD 0 .x).toI + 1))) a ≤ iA (e.set i (.i .i64 (((e.getD i .x).cells.getD 0 .x).toI + 1))) k + (n + 1) := fun a k ha hk b1 b2 => by
    rw [List.length_set] at ha hk
    rw [ie, ie]
    have h1 := x.sp a k ha hk b1 b2
    have h2 := (hex k hk b2).1
    split <;> split <;> rename_i q1 q2
    · omega
    · omega
    · rw [q2] at h1; omega
    · omega
  have okc : ∀ c' : List AV, c'.length = c.length → (∀ k, k < e.length → (0 ≤ iA c' k ∧ iA c' k ≤ 2) ∧ (bA b k = true → iA c' k = 0)) → okWear (e.set i (.i .i64 (((e.getD i .x).cells.getD 0 .x).toI + 1))) b c' n = true := by
    intro c' hl hk
    refine okWear_mk x.ok (by rw [List.length_set]) hl fun k hk1 => ?_
    have hr := (hall k hk1).1
    refine okW_mk ?_ (hk k hk1).1 (hk k hk1).2
    rw [ie]
    have hr2 := (hall i hi).1
    split <;> omega
  rw [f61o1_eq, s2]
  simp only [g1, g2, Int.toNat_natCast, t3.ok, bOwn_some, bOwnF_some, bOwnS_some, bOwnFS_some, okRs_nil, okRs_cons, okR_row, okR_same, okR_var, okR_gone, okS_so, okS_pr, okS_po, okLens_nil, okLens_same, okLens_row, okLens_var, row_live, flatR_live, flatL_nil, flatL_cons, flat_i, flat_b, flat_s, flat_sl, flat_agg, flat_tup, List.all_cons, List.all_nil, List.length_cons, List.length_nil, Nat.reduceLeDiff, Nat.le_refl, decide_true, Bool.and_self, mkL_length, List.headD_cons, okC_nil, okC_agg, okC_i, okC_b, okC_s, okC_imm, okL_i, okL_b, okL_s, okL_sl, okS_i, okS_b, okS_s, okS_sl, okS_agg, okS_tup, okS_nil, okS_cons, cells_agg, cells_i, cells_b, cells_s, cells_imm, toI_i, toB_b, toS_s, toL_imm, nth_agg, nth_tup, put_agg, put_i, put_b, put_s, put_imm, setCells, List.getD_cons_zero, List.getD_cons_succ, bSh_b, bSh_i, bSh_s, bSh_sl, bSh_some, cond_true, cond_false, decide_true, decide_false, Int.toNat_natCast, Nat.zero_add, Nat.reduceAdd, beq_self_eq_true, Bool.and_true, Bool.true_and, if_true, Bool.false_eq_true, if_false, List.set_cons_zero, List.set_cons_succ, Bool.not_true, Bool.not_false, Bool.and_self]
  have hhq : h ≠ q := fun hq => by have := x.ch; rw [hq, x.cq] at this; omega
  by_cases hfree : ((c.getD i .x).cells.getD 0 .x).toI = 0
  · have hfi : iA c i = 0 := hfree
    have ic : ∀ k, iA (c.set i (.i .i64 0)) k = iA c k := fun k => by
      rw [iA_set (by omega)]
      split
      · rename_i hk; rw [hk, hfi]
      · rfl
    refine ⟨_, c.set i (.i .i64 0), h, q, hmu, by rw [List.length_set], by rw [List.length_set], ⟨te, hb, t2_set hc _ _ z64, okc _ (by rw [List.length_set]) fun k hk => ?_, by rw [List.length_set]; exact x.four, x.good, by rw [List.length_set]; exact x.hh, by rw [List.length_set]; exact x.hq, by rw [ic]; exact x.ch, by rw [ic]; exact x.cq, fun k hk k1 k2 => ?_, hle, hsp⟩, ?_⟩
    · rw [ic]; exact ⟨(hall k hk).2, x.bad k hk⟩
    · rw [List.length_set] at hk; rw [ic]; exact x.other k hk k1 k2
    · simp only [hfree, fin2 c hc hcl, true_and, if_true, bOwn_some, bOwnF_some, bOwnS_some, bOwnFS_some, okRs_nil, okRs_cons, okR_row, okR_same, okR_var, okR_gone, okS_so, okS_pr, okS_po, okLens_nil, okLens_same, okLens_row, okLens_var, row_live, flatR_live, flatL_nil, flatL_cons, flat_i, flat_b, flat_s, flat_sl, flat_agg, flat_tup, List.all_cons, List.all_nil, List.length_cons, List.length_nil, Nat.reduceLeDiff, Nat.le_refl, decide_true, Bool.and_self, mkL_length, List.headD_cons, okC_nil, okC_agg, okC_i, okC_b, okC_s, okC_imm, okL_i, okL_b, okL_s, okL_sl, okS_i, okS_b, okS_s, okS_sl, okS_agg, okS_tup, okS_nil, okS_cons, cells_agg, cells_i, cells_b, cells_s, cells_imm, toI_i, toB_b, toS_s, toL_imm, nth_agg, nth_tup, put_agg, put_i, put_b, put_s, put_imm, setCells, List.getD_cons_zero, List.getD_cons_succ, bSh_b, bSh_i, bSh_s, bSh_sl, bSh_some, cond_true, cond_false, decide_true, decide_false, Int.toNat_natCast, Nat.zero_add, Nat.reduceAdd, beq_self_eq_true, Bool.and_true, Bool.true_and, if_true, Bool.false_eq_true, if_false, List.set_cons_zero, List.set_cons_succ, Bool.not_true, Bool.not_false, Bool.and_self]
  · obtain ⟨a, hA', hpos, p2⟩ := pickI he (Nat.le_trans (freeL_length e b c) he.1) (freeL_blk (e := e) (b := b) (c := c)) false
    obtain ⟨r, f1, f2, f3⟩ := impl_free n he hb hc hbl hcl
    have hpos := hpos x.free
    obtain ⟨j, rfl, hj⟩ := hA'.resolve_left (by omega)
    obtain ⟨hjl, hjb, hjc⟩ := free_good hj
    have hij : j ≠ i := fun hq => hfree (by rw [hq] at hjc; exact hjc)
    have hjc' : j < c.length := by omega
    have t4 := hc.at hjc'
    have g3 : (0 : Int) ≤ (j : Int) := by omega
    have g4 : (j : Int) < ((c.length : Nat) : Int) := by omega
    have g5 : ¬ (j : Int) < 0 := by omega
    have tc : Rw (T2 1048576) 1048576 (c.set j (.i .i64 ((c.getD i .x).cells.getD 0 .x).toI)) := t2_set hc _ _ (by constructor <;> omega)
    have lc : (c.set j (.i .i64 ((c.getD i .x).cells.getD 0 .x).toI)).length = e.length := by rw [List.length_set]; exact hcl
    have ic : ∀ k, iA ((c.set j (.i .i64 ((c.getD i .x).cells.getD 0 .x).toI)).set i (.i .i64 0)) k = if k = i then 0 else if k = j then iA c i else iA c k := fun k => by
      rw [iA_set (by omega), iA_set (by omega)]
      rfl
    have hbi : iA c i ≠ 0 := hfree
    refine ⟨_, (c.set j (.i .i64 ((c.getD i .x).cells.getD 0 .x).toI)).set i (.i .i64 0), if i = h then j else h, if i = q then j else q, hmu, by rw [List.length_set], by rw [List.length_set, List.length_set], ⟨te, hb, t2_set tc _ _ z64, okc _ (by rw [List.length_set, List.length_set]) fun k hk => ?_, by rw [List.length_set]; exact x.four, x.good, ?_, ?_, ?_, ?_, fun k hk k1 k2 => ?_, hle, hsp⟩, ?_⟩
    · rw [ic]
      have hr := (hall k hk).2
      have hr2 := (hall i hi).2
      refine ⟨by split <;> (try split) <;> omega, fun hbk => ?_⟩
      split
      · rfl
      · split
        · rename_i hkj; rw [hkj, hjb] at hbk; cases hbk
        · exact x.bad k hk hbk
    · rw [List.length_set]; split
      · exact hjl
      · exact x.hh
    · rw [List.length_set]; split
      · exact hjl
      · exact x.hq
    · rw [ic]
      by_cases hih : i = h
      · rw [if_pos hih, if_neg hij, if_pos rfl, hih]; exact x.ch
      · have : h ≠ j := fun hq => by rw [← hq, x.ch] at hjc; omega
        rw [if_neg hih, if_neg (Ne.symm hih), if_neg this]; exact x.ch
    · rw [ic]
      by_cases hiq : i = q
      · rw [if_pos hiq, if_neg hij, if_pos rfl, hiq]; exact x.cq
      · have : q ≠ j := fun hq => by rw [← hq, x.cq] at hjc; omega
        rw [if_neg hiq, if_neg (Ne.symm hiq), if_neg this]; exact x.cq
    · rw [List.length_set] at hk
      have hiw : i = h ∨ i = q := by
        by_cases a1 : i = h
        · exact .inl a1
        · by_cases a2 : i = q
          · exact .inr a2
          · exact absurd (x.other i hi a1 a2) hbi
      rw [ic]
      by_cases k3 : k = i
      · rw [if_pos k3]
      · rw [if_neg k3]
        rcases hiw with hiw | hiw
        · have : i ≠ q := fun hq => hhq (hiw ▸ hq)
          rw [if_pos hiw] at k1
          rw [if_neg this] at k2
          rw [if_neg k1]
          exact x.other k hk (fun hq => k3 (hq.trans hiw.symm)) k2
        · have : i ≠ h := fun hq => hhq (hq ▸ hiw)
          rw [if_neg this] at k1
          rw [if_pos hiw] at k2
          rw [if_neg k2]
          exact x.other k hk k1 (fun hq => k3 (hq.trans hiw.symm))
    · simp only [hfree, f1, f2, f3, p2, AV.off, AV.cnt, List.drop_zero, g1, g2, g3, g4, g5, true_and, if_true, Int.toNat_natCast, Nat.zero_add, t3.ok, t2_put t4, fin2 _ tc lc, bOwn_some, bOwnF_some, bOwnS_some, bOwnFS_some, okRs_nil, okRs_cons, okR_row, okR_same, okR_var, okR_gone, okS_so, okS_pr, okS_po, okLens_nil, okLens_same, okLens_row, okLens_var, row_live, flatR_live, flatL_nil, flatL_cons, flat_i, flat_b, flat_s, flat_sl, flat_agg, flat_tup, List.all_cons, List.all_nil, List.length_cons, List.length_nil, Nat.reduceLeDiff, Nat.le_refl, decide_true, Bool.and_self, mkL_length, List.headD_cons, okC_nil, okC_agg, okC_i, okC_b, okC_s, okC_imm, okL_i, okL_b, okL_s, okL_sl, okS_i, okS_b, okS_s, okS_sl, okS_agg, okS_tup, okS_nil, okS_cons, cells_agg, cells_i, cells_b, cells_s, cells_imm, toI_i, toB_b, toS_s, toL_imm, nth_agg, nth_tup, put_agg, put_i, put_b, put_s, put_imm, setCells, List.getD_cons_zero, List.getD_cons_succ, bSh_b, bSh_i, bSh_s, bSh_sl, bSh_some, cond_true, cond_false, decide_true, decide_false, Int.toNat_natCast, Nat.zero_add, Nat.reduceAdd, beq_self_eq_true, Bool.and_true, Bool.true_and, if_true, Bool.false_eq_true, if_false, List.set_cons_zero, List.set_cons_succ, Bool.not_true, Bool.not_false, Bool.and_self]

theorem needsI {e b c : List AV} (n : Int) (he : Rw (T2 1048576) 1048576 e) (hb : Rw (T4 1048576) 1048576 b) (hok : okWear e b c n = true) :
    den E 60 [(.agg [(.imm 1 e), (.imm 1 b), (.imm 1 c), (.i .i64 n)])] [] = some (.b (decide (n < gap e b))) := by
  obtain ⟨_, _, hbl, hcl, hnr, hall⟩ := okWear_len hok
  rw [f60_eq, f139_eq, gapI he hb hbl fun i hi => (hall i hi).1]; simp only [okC_nil, okC_agg, okC_i, okC_b, okC_s, okC_imm, okL_i, okL_b, okL_s, okL_sl, okS_i, okS_b, okS_s, okS_sl, okS_agg, okS_tup, okS_nil, okS_cons, cells_agg, cells_i, cells_b, cells_s, cells_imm, toI_i, toB_b, toS_s, toL_imm, nth_agg, nth_tup, put_agg, put_i, put_b, put_s, put_imm, setCells, List.getD_cons_zero, List.getD_cons_succ, bSh_b, bSh_i, bSh_s, bSh_sl, bSh_some, cond_true, cond_false, decide_true, decide_false, Int.toNat_natCast, Nat.zero_add, Nat.reduceAdd, beq_self_eq_true, Bool.and_true, Bool.true_and, if_true, Bool.false_eq_true, if_false, List.set_cons_zero, List.set_cons_succ, Bool.not_true, Bool.not_false, Bool.and_self]; rfl

/-- All moves. -/
theorem levelI {n K : Int} {b : List AV} (hK : K ≤ 1000) : ∀ (N : Nat) (t : Int) (e c : List AV) (h q : Nat), mu e ≤ N → 0 ≤ t → t + (N : Int) ≤ 1000000 → Inv n K (n + 1) e b c h q →
    ∃ (e' c' : List AV) (h' q' : Nat) (t' : Int), 0 ≤ t' ∧ f14o1_l1 t 0 n [] [] [] e b c = some (.tup [(.agg [(.sl 0 [] none), (.sl 1 [] none), (.sl 2 [] none), (.i .i64 n)]), (.i .i64 t'), (.i .i64 0)], [(.live true false false 2 e'), (.live true false false 4 b), (.live true false false 2 c')]) ∧ Inv n K n e' b c' h' q' := by
  intro N
  induction N with
  | zero =>
    intro t e c h q hm h0 h1 x
    rw [f14o1_l1_eq, needsI (c := c) n x.he x.hb x.ok]
    by_cases hgap : n < gap e b
    · obtain ⟨_, _, _, _, hmu, _⟩ := moveI x hK hgap
      omega
    · simp only [hgap, okC_nil, okC_agg, okC_i, okC_b, okC_s, okC_imm, okL_i, okL_b, okL_s, okL_sl, okS_i, okS_b, okS_s, okS_sl, okS_agg, okS_tup, okS_nil, okS_cons, cells_agg, cells_i, cells_b, cells_s, cells_imm, toI_i, toB_b, toS_s, toL_imm, nth_agg, nth_tup, put_agg, put_i, put_b, put_s, put_imm, setCells, List.getD_cons_zero, List.getD_cons_succ, bSh_b, bSh_i, bSh_s, bSh_sl, bSh_some, cond_true, cond_false, decide_true, decide_false, Int.toNat_natCast, Nat.zero_add, Nat.reduceAdd, beq_self_eq_true, Bool.and_true, Bool.true_and, if_true, Bool.false_eq_true, if_false, List.set_cons_zero, List.set_cons_succ, Bool.not_true, Bool.not_false, Bool.and_self]
      refine ⟨e, c, h, q, t, h0, rfl, x.he, x.hb, x.hc, x.ok, x.four, x.good, x.hh, x.hq, x.ch, x.cq, x.other, x.le, fun i j hi hj b1 b2 => ?_⟩
      obtain ⟨_, _, _, _, _, _, _, _, hg, hex⟩ := extremes x.he x.hne
      have := hex i hi b1
      have := hex j hj b2
      omega
  | succ N ih =>
    intro t e c h q hm h0 h1 x
    rw [f14o1_l1_eq, needsI (c := c) n x.he x.hb x.ok]
    by_cases hgap : n < gap e b
    · obtain ⟨e', c', h', q', hmu, l1, l2, x', hmv⟩ := moveI x hK hgap
      have f0 := t2_flat x'.he
      have f1 := t4_flat x.hb
      have f2 := t2_flat x'.hc
      have l1' : e.length = e'.length := l1.symm
      have l2' : c.length = c'.length := l2.symm
      simp only [hgap, hmv, f0, f1, f2, l1', l2', bOwn_some, bOwnF_some, bOwnS_some, bOwnFS_some, okRs_nil, okRs_cons, okR_row, okR_same, okR_var, okR_gone, okS_so, okS_pr, okS_po, okLens_nil, okLens_same, okLens_row, okLens_var, row_live, flatR_live, flatL_nil, flatL_cons, flat_i, flat_b, flat_s, flat_sl, flat_agg, flat_tup, List.all_cons, List.all_nil, List.length_cons, List.length_nil, Nat.reduceLeDiff, Nat.le_refl, decide_true, Bool.and_self, mkL_length, List.headD_cons, okC_nil, okC_agg, okC_i, okC_b, okC_s, okC_imm, okL_i, okL_b, okL_s, okL_sl, okS_i, okS_b, okS_s, okS_sl, okS_agg, okS_tup, okS_nil, okS_cons, cells_agg, cells_i, cells_b, cells_s, cells_imm, toI_i, toB_b, toS_s, toL_imm, nth_agg, nth_tup, put_agg, put_i, put_b, put_s, put_imm, setCells, List.getD_cons_zero, List.getD_cons_succ, bSh_b, bSh_i, bSh_s, bSh_sl, bSh_some, cond_true, cond_false, decide_true, decide_false, Int.toNat_natCast, Nat.zero_add, Nat.reduceAdd, beq_self_eq_true, Bool.and_true, Bool.true_and, if_true, Bool.false_eq_true, if_false, List.set_cons_zero, List.set_cons_succ, Bool.not_true, Bool.not_false, Bool.and_self]
      rw [w64 (x := t + 1) (by omega) (by omega)]
      exact ih (t + 1) e' c' h' q' (by omega) (by omega) (by omega) x'
    · simp only [hgap, okC_nil, okC_agg, okC_i, okC_b, okC_s, okC_imm, okL_i, okL_b, okL_s, okL_sl, okS_i, okS_b, okS_s, okS_sl, okS_agg, okS_tup, okS_nil, okS_cons, cells_agg, cells_i, cells_b, cells_s, cells_imm, toI_i, toB_b, toS_s, toL_imm, nth_agg, nth_tup, put_agg, put_i, put_b, put_s, put_imm, setCells, List.getD_cons_zero, List.getD_cons_succ, bSh_b, bSh_i, bSh_s, bSh_sl, bSh_some, cond_true, cond_false, decide_true, decide_false, Int.toNat_natCast, Nat.zero_add, Nat.reduceAdd, beq_self_eq_true, Bool.and_true, Bool.true_and, if_true, Bool.false_eq_true, if_false, List.set_cons_zero, List.set_cons_succ, Bool.not_true, Bool.not_false, Bool.and_self]
      refine ⟨e, c, h, q, t, h0, rfl, x.he, x.hb, x.hc, x.ok, x.four, x.good, x.hh, x.hq, x.ch, x.cq, x.other, x.le, fun i j hi hj b1 b2 => ?_⟩
      obtain ⟨_, _, _, _, _, _, _, _, hg, hex⟩ := extremes x.he x.hne
      have := hex i hi b1
      have := hex j hj b2
      omega
theorem mu_le : ∀ (l : List AV), (∀ i, i < l.length → 0 ≤ iA l i) → mu l ≤ 1000 * l.length
  | [], _ => by simp [mu]
  | y :: l, h => by
    have h1 := mu_le l fun i hi => by simpa [iA] using h (i + 1) (by simpa using hi)
    have h2 : 0 ≤ (y.cells.getD 0 .x).toI := by simpa only [iA, List.getD_cons_zero] using h 0 (by simp)
    unfold mu at h1 ⊢
    simp only [List.map_cons, List.sum_cons, List.length_cons]
    omega
theorem levelsI {n K : Int} {e b c : List AV} {h q : Nat} (x : Inv n K (n + 1) e b c h q) (hK : K ≤ 1000) :
    ∃ (e' c' : List AV) (h' q' : Nat) (t' : Int), 0 ≤ t' ∧ dno E 14 [(.agg [(.imm 1 e), (.imm 1 b), (.imm 1 c), (.i .i64 n)])] [] = some (.tup [(.agg [(.sl 0 [] none), (.sl 1 [] none), (.sl 2 [] none), (.i .i64 n)]), (.i .i64 t'), (.i .i64 0)], [(.live true false false 2 e'), (.live true false false 4 b), (.live true false false 2 c')]) ∧ Inv n K n e' b c' h' q' := by
  obtain ⟨_, h36, _, _, _, hall⟩ := okWear_len x.ok
  have := mu_le e fun i hi => (hall i hi).1.1
  rw [f14o1_eq, impl_wear n x.he x.hb x.hc, impl_clone n x.he x.hb x.hc]
  simp only [x.ok, bOwn_some, bOwnF_some, bOwnS_some, bOwnFS_some, okRs_nil, okRs_cons, okR_row, okR_same, okR_var, okR_gone, okS_so, okS_pr, okS_po, okLens_nil, okLens_same, okLens_row, okLens_var, row_live, flatR_live, flatL_nil, flatL_cons, flat_i, flat_b, flat_s, flat_sl, flat_agg, flat_tup, List.all_cons, List.all_nil, List.length_cons, List.length_nil, Nat.reduceLeDiff, Nat.le_refl, decide_true, Bool.and_self, mkL_length, List.headD_cons, okC_nil, okC_agg, okC_i, okC_b, okC_s, okC_imm, okL_i, okL_b, okL_s, okL_sl, okS_i, okS_b, okS_s, okS_sl, okS_agg, okS_tup, okS_nil, okS_cons, cells_agg, cells_i, cells_b, cells_s, cells_imm, toI_i, toB_b, toS_s, toL_imm, nth_agg, nth_tup, put_agg, put_i, put_b, put_s, put_imm, setCells, List.getD_cons_zero, List.getD_cons_succ, bSh_b, bSh_i, bSh_s, bSh_sl, bSh_some, cond_true, cond_false, decide_true, decide_false, Int.toNat_natCast, Nat.zero_add, Nat.reduceAdd, beq_self_eq_true, Bool.and_true, Bool.true_and, if_true, Bool.false_eq_true, if_false, List.set_cons_zero, List.set_cons_succ, Bool.not_true, Bool.not_false, Bool.and_self]
  exact levelI hK (mu e) 0 e c h q (Nat.le_refl _) (by omega) (by omega) x

/-! The excess. -/
noncomputable def sumE (e l : List AV) : Int := (l.map fun y => eC e y.toI).sum
theorem sum_ge {e : List AV} {lo : Int} : ∀ (l : List AV), (∀ y, y ∈ l → lo ≤ eC e y.toI) → ((l.length : Nat) : Int) * lo ≤ sumE e l
  | [], _ => by simp [sumE]
  | y :: l, h => by
    have h1 := sum_ge l fun y hy => h y (by simp [hy])
    have h2 := h y (by simp)
    unfold sumE at h1 ⊢
    simp only [List.map_cons, List.sum_cons, List.length_cons, Int.natCast_add, Int.add_mul]
    omega
theorem sum_le {e : List AV} {hi : Int} : ∀ (l : List AV), (∀ y, y ∈ l → eC e y.toI ≤ hi) → sumE e l ≤ ((l.length : Nat) : Int) * hi
  | [], _ => by simp [sumE]
  | y :: l, h => by
    have h1 := sum_le l fun y hy => h y (by simp [hy])
    have h2 := h y (by simp)
    unfold sumE at h1 ⊢
    simp only [List.map_cons, List.sum_cons, List.length_cons, Int.natCast_add, Int.add_mul]
    omega
theorem sum_mem {e : List AV} {lo : Int} : ∀ (l : List AV) (z : AV), z ∈ l → (∀ y, y ∈ l → lo ≤ eC e y.toI) → eC e z.toI + (((l.length : Nat) : Int) - 1) * lo ≤ sumE e l
  | [], z, hz, _ => by cases hz
  | y :: l, z, hz, h => by
    rcases List.mem_cons.1 hz with rfl | hz
    · have h1 := sum_ge l fun y hy => h y (by simp [hy])
      unfold sumE at h1 ⊢
      simp only [List.map_cons, List.sum_cons, List.length_cons]
      rw [show (((l.length + 1 : Nat) : Int) - 1) = ((l.length : Nat) : Int) by omega]
      omega
    · have h1 := sum_mem l z hz fun y hy => h y (by simp [hy])
      have h2 := h y (by simp)
      unfold sumE at h1 ⊢
      simp only [List.map_cons, List.sum_cons, List.length_cons]
      rw [Int.sub_mul] at h1
      rw [show (((l.length + 1 : Nat) : Int) - 1) = ((l.length : Nat) : Int) by omega]
      omega
theorem sum_take {e l : List AV} {i : Nat} (h : i < l.length) : sumE e (l.take (i + 1)) = sumE e (l.take i) + eC e (l.getD i .x).toI := by
  unfold sumE
  rw [List.take_add_one, List.map_append, List.sum_append, List.getElem?_eq_getElem h, List.getD_eq_getElem?_getD, List.getElem?_eq_getElem h]
  congr 1
  simp
theorem div_le {x o n : Int} (ho : 1 ≤ o) (hx : 0 ≤ x) (h : x ≤ o * n + o - 1) : 0 ≤ x.tdiv o ∧ x.tdiv o ≤ n := by
  rw [Int.tdiv_eq_ediv_of_nonneg hx]
  refine ⟨Int.ediv_nonneg hx (by omega), ?_⟩
  have : x / o < n + 1 := Int.ediv_lt_of_lt_mul (by omega) (by rw [Int.add_mul, Int.mul_comm n o]; omega)
  omega
theorem excess {n : Int} {e b c : List AV} {h q : Nat} {K : Int} (x : Inv n K n e b c h q) : ∃ v : Int, v ≤ n ∧ den E 16 [(.imm 1 e), (.imm 1 b)] [] = some (.i .i64 v) := by
  have he := x.he
  have hb := x.hb
  have hel := he.1
  obtain ⟨_, h36, hbl, hcl, hnr, hall⟩ := okWear_len x.ok
  have hgl := goodL_length e b
  have hgood' : dno E 62 [(.imm 1 e), (.imm 1 b)] [] = some (.sl 0 [] none, [.live true false false 2 (goodL e b)]) := impl_good hel hb hbl
  obtain ⟨b2, _⟩ := best_more he (Nat.le_trans hgl hel) (goodL_blk (e := e) (b := b))
  obtain ⟨i, m, hi, hm, hmi, hmb, _, hB, hg, hex⟩ := extremes he x.hne
  rw [hB] at b2
  have hsp := x.sp m i hm hi hmb hmi
  have t2 := he.at hm
  have vm := (hall m hm).1
  have vi := (hall i hi).1
  rw [f16_eq, hgood']
  simp only [bOwn_some, bOwnF_some, bOwnS_some, bOwnFS_some, okRs_nil, okRs_cons, okR_row, okR_same, okR_var, okR_gone, okS_so, okS_pr, okS_po, okLens_nil, okLens_same, okLens_row, okLens_var, row_live, flatR_live, flatL_nil, flatL_cons, flat_i, flat_b, flat_s, flat_sl, flat_agg, flat_tup, List.all_cons, List.all_nil, List.length_cons, List.length_nil, Nat.reduceLeDiff, Nat.le_refl, decide_true, Bool.and_self, mkL_length, List.headD_cons, okC_nil, okC_agg, okC_i, okC_b, okC_s, okC_imm, okL_i, okL_b, okL_s, okL_sl, okS_i, okS_b, okS_s, okS_sl, okS_agg, okS_tup, okS_nil, okS_cons, cells_agg, cells_i, cells_b, cells_s, cells_imm, toI_i, toB_b, toS_s, toL_imm, nth_agg, nth_tup, put_agg, put_i, put_b, put_s, put_imm, setCells, List.getD_cons_zero, List.getD_cons_succ, bSh_b, bSh_i, bSh_s, bSh_sl, bSh_some, cond_true, cond_false, decide_true, decide_false, Int.toNat_natCast, Nat.zero_add, Nat.reduceAdd, beq_self_eq_true, Bool.and_true, Bool.true_and, if_true, Bool.false_eq_true, if_false, List.set_cons_zero, List.set_cons_succ, Bool.not_true, Bool.not_false, Bool.and_self]
  rw [w64 (x := (((goodL e b).length : Nat) : Int) - 1) (by omega) (by omega)]
  by_cases h2 : (((goodL e b).length : Nat) : Int) - 1 < 1
  · simp only [h2, okC_nil, okC_agg, okC_i, okC_b, okC_s, okC_imm, okL_i, okL_b, okL_s, okL_sl, okS_i, okS_b, okS_s, okS_sl, okS_agg, okS_tup, okS_nil, okS_cons, cells_agg, cells_i, cells_b, cells_s, cells_imm, toI_i, toB_b, toS_s, toL_imm, nth_agg, nth_tup, put_agg, put_i, put_b, put_s, put_imm, setCells, List.getD_cons_zero, List.getD_cons_succ, bSh_b, bSh_i, bSh_s, bSh_sl, bSh_some, cond_true, cond_false, decide_true, decide_false, Int.toNat_natCast, Nat.zero_add, Nat.reduceAdd, beq_self_eq_true, Bool.and_true, Bool.true_and, if_true, Bool.false_eq_true, if_false, List.set_cons_zero, List.set_cons_succ, Bool.not_true, Bool.not_false, Bool.and_self]
    exact ⟨0, by omega, rfl⟩
  simp only [h2, all_in he 0 1000 (fun i hi => (hall i hi).1), okC_nil, okC_agg, okC_i, okC_b, okC_s, okC_imm, okL_i, okL_b, okL_s, okL_sl, okS_i, okS_b, okS_s, okS_sl, okS_agg, okS_tup, okS_nil, okS_cons, cells_agg, cells_i, cells_b, cells_s, cells_imm, toI_i, toB_b, toS_s, toL_imm, nth_agg, nth_tup, put_agg, put_i, put_b, put_s, put_imm, setCells, List.getD_cons_zero, List.getD_cons_succ, bSh_b, bSh_i, bSh_s, bSh_sl, bSh_some, cond_true, cond_false, decide_true, decide_false, Int.toNat_natCast, Nat.zero_add, Nat.reduceAdd, beq_self_eq_true, Bool.and_true, Bool.true_and, if_true, Bool.false_eq_true, if_false, List.set_cons_zero, List.set_cons_succ, Bool.not_true, Bool.not_false, Bool.and_self]
  generalize ho : (((goodL e b).length : Nat) : Int) - 1 = o at *
  have hbnd : ∀ y, y ∈ goodL e b → iA e i ≤ eC e y.toI ∧ eC e y.toI ≤ iA e m := fun y hy => by
    obtain ⟨k, hk, rfl⟩ := goodL_blk y hy
    rw [toI_i]
    exact hex k hk (goodL_good hy)
  have last : f16_l1 e o (sumE e (goodL e b)) (((goodL e b).length : Nat) : Int) (((goodL e b).length : Nat) : Int) (goodL e b) = some (.i .i64 (if ((iA e m * o - (sumE e (goodL e b) - iA e m)) + o - 1).tdiv o > 0 then ((iA e m * o - (sumE e (goodL e b) - iA e m)) + o - 1).tdiv o else 0)) ∧ ((iA e m * o - (sumE e (goodL e b) - iA e m)) + o - 1).tdiv o ≤ n := by
    have s1 := sum_mem (e := e) (lo := iA e i) (goodL e b) _ (goodL_mem hm hmb) fun y hy => (hbnd y hy).1
    have s2 := sum_le (e := e) (hi := iA e m) (goodL e b) fun y hy => (hbnd y hy).2
    have s3 : (0 : Int) ≤ o * iA e i := Int.mul_nonneg (by omega) (by omega)
    rw [ho, toI_i, show eC e (m : Int) = iA e m from rfl] at s1
    rw [show (((goodL e b).length : Nat) : Int) = o + 1 by omega, Int.add_mul, Int.one_mul] at s2
    have s4 : o * iA e m ≤ 35 * 1000 := Int.mul_le_mul (by omega) (by omega) (by omega) (by omega)
    have s5 : o * iA e m ≤ o * (iA e i + n) := Int.mul_le_mul_of_nonneg_left (by omega) (by omega)
    rw [Int.mul_add] at s5
    have s6 : iA e m * o = o * iA e m := Int.mul_comm _ _
    have s7 : (0 : Int) ≤ o * iA e m := Int.mul_nonneg (by omega) (by omega)
    have key := div_le (x := (iA e m * o - (sumE e (goodL e b) - iA e m)) + o - 1) (o := o) (n := n) (by omega) (by omega) (by omega)
    refine ⟨?_, key.2⟩
    have g3 : (0 : Int) ≤ (m : Int) := by omega
    have g4 : (m : Int) < ((e.length : Nat) : Int) := by omega
    have g5 : ¬ o = 0 := by omega
    have hv : ((e.getD m .x).cells.getD 0 .x).toI = iA e m := rfl
    rw [f16_l1_eq, dF (Int.lt_irrefl _), cond_false, b2]
    simp only [okC_nil, okC_agg, okC_i, okC_b, okC_s, okC_imm, okL_i, okL_b, okL_s, okL_sl, okS_i, okS_b, okS_s, okS_sl, okS_agg, okS_tup, okS_nil, okS_cons, cells_agg, cells_i, cells_b, cells_s, cells_imm, toI_i, toB_b, toS_s, toL_imm, nth_agg, nth_tup, put_agg, put_i, put_b, put_s, put_imm, setCells, List.getD_cons_zero, List.getD_cons_succ, bSh_b, bSh_i, bSh_s, bSh_sl, bSh_some, cond_true, cond_false, decide_true, decide_false, Int.toNat_natCast, Nat.zero_add, Nat.reduceAdd, beq_self_eq_true, Bool.and_true, Bool.true_and, if_true, Bool.false_eq_true, if_false, List.set_cons_zero, List.set_cons_succ, Bool.not_true, Bool.not_false, Bool.and_self, g3, g4, g5, and_self, Int.toNat_natCast, t2.ok, hv, if_true, if_false]
    rw [w64 (x := iA e m * o) (by omega) (by omega), w64 (x := sumE e (goodL e b) - iA e m) (by omega) (by omega), w64 (x := iA e m * o - (sumE e (goodL e b) - iA e m)) (by omega) (by omega),
      w64 (x := iA e m * o - (sumE e (goodL e b) - iA e m) + o) (by omega) (by omega), w64 (x := iA e m * o - (sumE e (goodL e b) - iA e m) + o - 1) (by omega) (by omega), w64 (x := (iA e m * o - (sumE e (goodL e b) - iA e m) + o - 1).tdiv o) (by omega) (by omega)]
  have run : ∀ (k i : Nat), i + k = (goodL e b).length → f16_l1 e o (sumE e ((goodL e b).take i)) (((goodL e b).length : Nat) : Int) (i : Int) (goodL e b) = f16_l1 e o (sumE e (goodL e b)) (((goodL e b).length : Nat) : Int) (((goodL e b).length : Nat) : Int) (goodL e b) := by
    intro k
    induction k with
    | zero =>
      intro i hik
      have : i = (goodL e b).length := by omega
      subst this
      rw [List.take_length]
    | succ k ih =>
      intro i hik
      have hil : i < (goodL e b).length := by omega
      obtain ⟨j, hj, hlj⟩ := goodL_blk (e := e) (b := b) _ (getD_mem hil)
      have t5 := he.at hj
      have g1 : (0 : Int) ≤ (j : Int) := by omega
      have g3 : (j : Int) < ((e.length : Nat) : Int) := by omega
      have g6 : (0 : Int) ≤ (i : Int) := by omega
      have g7 : (i : Int) < (((goodL e b).length : Nat) : Int) := by omega
      have w0 := sum_ge (e := e) (lo := 0) ((goodL e b).take i) fun y hy => by
        have := hbnd y (List.mem_of_mem_take hy); omega
      have w1 := sum_le (e := e) (hi := 1000) ((goodL e b).take i) fun y hy => by
        have := hbnd y (List.mem_of_mem_take hy); omega
      have wl : ((goodL e b).take i).length ≤ 36 := by rw [List.length_take]; omega
      have vj := (hall j hj).1
      rw [f16_l1_eq, dT g7, cond_true]
      have hv : ((e.getD j .x).cells.getD 0 .x).toI = iA e j := rfl
      have hT := (goodL_blk (e := e) (b := b) _ (getD_mem hil)).t2 hel
      simp only [Int.toNat_natCast, Nat.zero_add, hlj, g1, g3, g6, g7, t5.ok, and_self, if_true, hv, okC_nil, okC_agg, okC_i, okC_b, okC_s, okC_imm, okL_i, okL_b, okL_s, okL_sl, okS_i, okS_b, okS_s, okS_sl, okS_agg, okS_tup, okS_nil, okS_cons, cells_agg, cells_i, cells_b, cells_s, cells_imm, toI_i, toB_b, toS_s, toL_imm, nth_agg, nth_tup, put_agg, put_i, put_b, put_s, put_imm, setCells, List.getD_cons_zero, List.getD_cons_succ, bSh_b, bSh_i, bSh_s, bSh_sl, bSh_some, cond_true, cond_false, decide_true, decide_false, Int.toNat_natCast, Nat.zero_add, Nat.reduceAdd, beq_self_eq_true, Bool.and_true, Bool.true_and, if_true, Bool.false_eq_true, if_false, List.set_cons_zero, List.set_cons_succ, Bool.not_true, Bool.not_false, Bool.and_self]
      rw [w64 (x := (i : Int) + 1) (by omega) (by omega), w64 (x := sumE e ((goodL e b).take i) + iA e j) (by omega) (by omega)]
      have := ih (i + 1) (by omega)
      rw [sum_take hil, hlj, toI_i, show eC e (j : Int) = iA e j from rfl] at this
      exact this
  have hr := run (goodL e b).length 0 (by omega)
  simp only [List.take_zero] at hr
  refine ⟨_, ?_, (show f16_l1 e o 0 (((goodL e b).length : Nat) : Int) 0 (goodL e b) = _ from hr).trans last.1⟩
  have := last.2
  split <;> omega

/-! The rounds. -/
theorem lookI {n K : Int} {e b c : List AV} {h q : Nat} (x : Inv n K n e b c h q) (t8 : Int) (ht8 : 0 ≤ t8) (ht : t8 ≤ 60) (a : Nat) (m n0 : Int) (r2 r3 r4 : List AV) : ∀ (k i : Nat), i + k = e.length →
    f3_l4 (if h < i then (h : Int) else -1) t8 (a : Int) (if q < i then 1 else 0) (i : Int) n0 n r2 r3 r4 e b c = f3_l3 (h : Int) (t8 + 1) n e b c := by
  have he := x.he
  have hc := x.hc
  have hel := he.1
  obtain ⟨_, h36, hbl, hcl, hnr, hall⟩ := okWear_len x.ok
  intro k
  induction k with
  | zero =>
    intro i hik
    have hh := x.hh
    have hq := x.hq
    have n1 : ¬ (h : Int) < 0 := by omega
    have n2 : ¬ (a : Int) < 0 := by omega
    rw [if_pos (by omega), if_pos (by omega), f3_l4_eq, dF (show ¬ (i : Int) < ((c.length : Nat) : Int) by omega), cond_false]
    simp only [n1, n2, okC_nil, okC_agg, okC_i, okC_b, okC_s, okC_imm, okL_i, okL_b, okL_s, okL_sl, okS_i, okS_b, okS_s, okS_sl, okS_agg, okS_tup, okS_nil, okS_cons, cells_agg, cells_i, cells_b, cells_s, cells_imm, toI_i, toB_b, toS_s, toL_imm, nth_agg, nth_tup, put_agg, put_i, put_b, put_s, put_imm, setCells, List.getD_cons_zero, List.getD_cons_succ, bSh_b, bSh_i, bSh_s, bSh_sl, bSh_some, cond_true, cond_false, decide_true, decide_false, Int.toNat_natCast, Nat.zero_add, Nat.reduceAdd, beq_self_eq_true, Bool.and_true, Bool.true_and, if_true, Bool.false_eq_true, if_false, List.set_cons_zero, List.set_cons_succ, Bool.not_true, Bool.not_false, Bool.and_self]
    rw [w64 (x := t8 + 1) (by omega) (by omega)]
  | succ k ih =>
    intro i hik
    have hil : i < e.length := by omega
    have h3 := hc.at (i := i) (by omega)
    have g1 : (0 : Int) ≤ (i : Int) := by omega
    have g2 : (i : Int) < ((c.length : Nat) : Int) := by omega
    have hv : ((c.getD i .x).cells.getD 0 .x).toI = iA c i := rfl
    have hrec := ih (i + 1) (by omega)
    have hhq : h ≠ q := fun hq => by have := x.ch; rw [hq, x.cq] at this; omega
    rw [f3_l4_eq, dT g2, cond_true]
    simp only [g1, g2, and_self, if_true, Int.toNat_natCast, Nat.zero_add, h3.ok, hv, okC_nil, okC_agg, okC_i, okC_b, okC_s, okC_imm, okL_i, okL_b, okL_s, okL_sl, okS_i, okS_b, okS_s, okS_sl, okS_agg, okS_tup, okS_nil, okS_cons, cells_agg, cells_i, cells_b, cells_s, cells_imm, toI_i, toB_b, toS_s, toL_imm, nth_agg, nth_tup, put_agg, put_i, put_b, put_s, put_imm, setCells, List.getD_cons_zero, List.getD_cons_succ, bSh_b, bSh_i, bSh_s, bSh_sl, bSh_some, cond_true, cond_false, decide_true, decide_false, Int.toNat_natCast, Nat.zero_add, Nat.reduceAdd, beq_self_eq_true, Bool.and_true, Bool.true_and, if_true, Bool.false_eq_true, if_false, List.set_cons_zero, List.set_cons_succ, Bool.not_true, Bool.not_false, Bool.and_self, f3_j5_eq, f3_j6_eq]
    rw [w64 (x := (i : Int) + 1) (by omega) (by omega)]
    rw [show (((i + 1 : Nat) : Int)) = (i : Int) + 1 by omega] at hrec
    by_cases e1 : i = h
    · have e2 : i ≠ q := fun hq => hhq (e1.symm.trans hq)
      rw [e1, x.ch]
      rw [e1] at hrec
      have c1 : (if h < h + 1 then (h : Int) else -1) = h := if_pos (by omega)
      have c2 : (if q < h + 1 then (1 : Int) else 0) = if q < h then 1 else 0 := by
        by_cases hlt : q < h
        · rw [if_pos (by omega), if_pos hlt]
        · rw [if_neg (by omega), if_neg hlt]
      rw [c1, c2] at hrec
      simpa only [show ¬ (2 : Int) = 1 from by decide, decide_true, decide_false, cond_true, cond_false] using hrec
    · have c1 : (if h < i + 1 then (h : Int) else -1) = if h < i then (h : Int) else -1 := by
        by_cases hlt : h < i
        · rw [if_pos (by omega), if_pos hlt]
        · rw [if_neg (by omega), if_neg hlt]
      rw [c1] at hrec
      by_cases e2 : i = q
      · rw [e2, x.cq]
        rw [e2] at hrec
        rw [show (if q < q + 1 then (1 : Int) else 0) = 1 from if_pos (by omega)] at hrec
        rw [if_neg (Nat.lt_irrefl q), w64 (x := 0 + 1) (by omega) (by omega)]
        simpa only [show (0 : Int) + 1 = 1 from rfl, show ¬ (1 : Int) = 2 from by decide, decide_true, decide_false, cond_true, cond_false] using hrec
      · rw [x.other i hil e1 e2]
        have c2 : (if q < i + 1 then (1 : Int) else 0) = if q < i then 1 else 0 := by
          by_cases hlt : q < i
          · rw [if_pos (by omega), if_pos hlt]
          · rw [if_neg (by omega), if_neg hlt]
        rw [c2] at hrec
        simpa only [show ¬ (0 : Int) = 1 from by decide, show ¬ (0 : Int) = 2 from by decide, decide_false, cond_false] using hrec

theorem roundsI {n : Int} {b : List AV} (hn : 1 ≤ n ∧ n ≤ 5) : ∀ (k : Nat) (t : Nat) (e c : List AV) (h q : Nat), t + k = 60 → Inv n (t : Int) n e b c h q → f3_l3 (h : Int) (t : Int) n e b c = some (.b true) := by
  intro k
  induction k with
  | zero =>
    intro t e c h q ht x
    rw [f3_l3_eq, dF (show ¬ (t : Int) < 60 by omega), cond_false]
  | succ k ih =>
    intro t e c h q ht x
    obtain ⟨e1, c1, a, r1, x1⟩ := rewriteI x (by omega)
    obtain ⟨e2, c2, h2, q2, t2, ht2, r2, x2⟩ := levelsI x1 (by omega)
    obtain ⟨_, _, hbl, _, _, hall⟩ := okWear_len x2.ok
    obtain ⟨v, hv, r3⟩ := excess x2
    have f0 := t2_flat x1.he
    have f1 := t4_flat x.hb
    have f2 := t2_flat x1.hc
    have f3 := t2_flat x2.he
    have f5 := t2_flat x2.hc
    have hg : ¬ n < gap e2 b := by
      obtain ⟨i, m, hi, hm, b1, b2, _, _, hg, _⟩ := extremes x2.he x2.hne
      have := x2.sp m i hm hi b2 b1
      omega
    have n1 : ¬ t2 < 0 := by omega
    have n2 : ¬ n < v := by omega
    rw [f3_l3_eq, dT (show (t : Int) < 60 by omega), cond_true, r1]
    simp only [f0, f1, f2, bOwn_some, bOwnF_some, bOwnS_some, bOwnFS_some, okRs_nil, okRs_cons, okR_row, okR_same, okR_var, okR_gone, okS_so, okS_pr, okS_po, okLens_nil, okLens_same, okLens_row, okLens_var, row_live, flatR_live, flatL_nil, flatL_cons, flat_i, flat_b, flat_s, flat_sl, flat_agg, flat_tup, List.all_cons, List.all_nil, List.length_cons, List.length_nil, Nat.reduceLeDiff, Nat.le_refl, decide_true, Bool.and_self, mkL_length, List.headD_cons, okC_nil, okC_agg, okC_i, okC_b, okC_s, okC_imm, okL_i, okL_b, okL_s, okL_sl, okS_i, okS_b, okS_s, okS_sl, okS_agg, okS_tup, okS_nil, okS_cons, cells_agg, cells_i, cells_b, cells_s, cells_imm, toI_i, toB_b, toS_s, toL_imm, nth_agg, nth_tup, put_agg, put_i, put_b, put_s, put_imm, setCells, List.getD_cons_zero, List.getD_cons_succ, bSh_b, bSh_i, bSh_s, bSh_sl, bSh_some, cond_true, cond_false, decide_true, decide_false, Int.toNat_natCast, Nat.zero_add, Nat.reduceAdd, beq_self_eq_true, Bool.and_true, Bool.true_and, if_true, Bool.false_eq_true, if_false, List.set_cons_zero, List.set_cons_succ, Bool.not_true, Bool.not_false, Bool.and_self, spec_wear n x1.he x1.hb x1.hc, x1.ok, r2, f3, f5, n1, spec_wear n x2.he x2.hb x2.hc, x2.ok, gapI x2.he x2.hb hbl (fun i hi => (hall i hi).1), hg, r3, n2]
    have := lookI x2 (t : Int) (by omega) (by omega) a 0 n e b c e2.length 0 (by omega)
    simp only [Nat.not_lt_zero, if_false] at this
    refine (show f3_l4 (-1) (t : Int) (a : Int) 0 0 n n e b c e2 b c2 = _ from this).trans ?_
    have := ih (t + 1) e2 c2 h2 q2 (by omega) (by simpa using x2)
    simpa using this

/-! The choices. -/
theorem u64_small (n : Nat) (h : n ≤ 16777215) : IntKind.u64.wrap (n : Int) = n := by
  have e1 : (2 : Int) ^ IntKind.u64.bits = 18446744073709551616 := by decide
  unfold IntKind.wrap
  simp only [show IntKind.u64.signed = false from rfl, e1]
  simp
  omega
theorem belowI (s x : Int) (hx : 1 ≤ x) (hx2 : x ≤ 100) : ∃ v s' : Int, 0 ≤ v ∧ v < x ∧ dno E 11 [(.pt 0 [] 0 0), (.i .i64 x)] [(.live false true false 98 [(.agg [(.i .u64 s)])])] = some ((.i .i64 v), [(.live false true false 98 [(.agg [(.i .u64 s')])])]) := by
  rw [f11o1_eq, if_neg (by omega)]
  refine ⟨_, _, ?_, ?_, rfl⟩
  all_goals
    generalize hz : (BitVec.ofInt IntKind.u64.bits ((IntKind.u64.wrap ((IntKind.u64.wrap (s * (6364136223846793005 : Int))) + (1442695040888963407 : Int))).fdiv (2 ^ (min (33 : Int).toNat IntKind.u64.bits))) &&& BitVec.ofInt IntKind.u64.bits (16777215 : Int)).toNat = z
    have hzl : z ≤ 16777215 := by
      rw [← hz, BitVec.toNat_and]
      exact Nat.and_le_right
    rw [u64_small z hzl, w64 (x := (z : Int)) (by omega) (by omega)]
    have h1 : (0 : Int) ≤ (z : Int).tmod x := Int.tmod_nonneg _ (by omega)
    have h2 : (z : Int).tmod x < x := Int.tmod_lt_of_pos _ (by omega)
    first | exact h1 | exact h2
theorem fromI {l : List AV} {B : Nat} (hl : Rw (T5 B) 400 l) (x : Int) : ∃ s : Int, dno E 10 [(.imm 1 l), (.i .u64 x)] [] = some ((.pt 0 [] 0 0), [(.live false true false 98 [(.agg [(.i .u64 s)])])]) := by
  have hll := hl.1
  rw [f10o1_eq]
  have : ∀ (k i : Nat) (s : Int), i + k = l.length → ∃ s' : Int, f10o1_l1 l (i : Int) s = some ((.pt 0 [] 0 0), [(.live false true false 98 [(.agg [(.i .u64 s')])])]) := by
    intro k
    induction k with
    | zero =>
      intro i s h
      rw [f10o1_l1_eq, dF (by omega), cond_false]
      exact ⟨_, rfl⟩
    | succ k ih =>
      intro i s h
      have hT := hl.at (i := i) (by omega)
      rw [f10o1_l1_eq, dT (show (i : Int) < ((l.length : Nat) : Int) by omega), cond_true, if_pos (by omega)]
      simp only [Int.toNat_natCast, hT.ok, if_true]
      rw [w64 (x := (i : Int) + 1) (by omega) (by omega)]
      obtain ⟨s', h'⟩ := ih (i + 1) _ (by omega)
      exact ⟨s', by simpa using h'⟩
  exact this l.length 0 _ (by omega)

/-! The first state. -/
theorem iA_app {l : List AV} {y : AV} {k : Nat} : iA (l ++ [y]) k = if k < l.length then iA l k else if k = l.length then (y.cells.getD 0 .x).toI else iA [] 0 := by
  by_cases h : k < l.length
  · have : (l ++ [y]).getD k .x = l.getD k .x := by rw [List.getD_eq_getElem?_getD, List.getElem?_append_left h, List.getD_eq_getElem?_getD]
    rw [if_pos h]; unfold iA; rw [this]
  · rw [if_neg h]
    by_cases h2 : k = l.length
    · have : (l ++ [y]).getD k .x = y := by rw [h2, List.getD_eq_getElem?_getD, List.getElem?_append_right (Nat.le_refl _)]; simp
      rw [if_pos h2]; unfold iA; rw [this]
    · have : (l ++ [y]).getD k .x = .x := by rw [List.getD_eq_getElem?_getD, List.getElem?_eq_none (by simp; omega)]; rfl
      rw [if_neg h2]; unfold iA; rw [this]; rfl
theorem bA_app {l : List AV} {y : AV} {k : Nat} : bA (l ++ [y]) k = if k < l.length then bA l k else if k = l.length then (y.cells.getD 0 .x).toB else bA [] 0 := by
  by_cases h : k < l.length
  · have : (l ++ [y]).getD k .x = l.getD k .x := by rw [List.getD_eq_getElem?_getD, List.getElem?_append_left h, List.getD_eq_getElem?_getD]
    rw [if_pos h]; unfold bA; rw [this]
  · rw [if_neg h]
    by_cases h2 : k = l.length
    · have : (l ++ [y]).getD k .x = y := by rw [h2, List.getD_eq_getElem?_getD, List.getElem?_append_right (Nat.le_refl _)]; simp
      rw [if_pos h2]; unfold bA; rw [this]
    · have : (l ++ [y]).getD k .x = .x := by rw [List.getD_eq_getElem?_getD, List.getElem?_eq_none (by simp; omega)]; rfl
      rw [if_neg h2]; unfold bA; rw [this]; rfl
theorem rw_app {p : AV → Prop} {l : List AV} {y : AV} (h : ∀ z, z ∈ l → p z) (hy : p y) : ∀ z, z ∈ l ++ [y] → p z := fun z hz => by
  rcases List.mem_append.1 hz with h1 | h1
  · exact h z h1
  · rw [List.mem_singleton.1 h1]; exact hy
theorem startI {n : Int} (hn : 1 ≤ n ∧ n ≤ 5) (N : Nat) (hN : 4 ≤ N) (hN2 : N ≤ 9) : ∀ (k i : Nat) (s : Int) (e b c : List AV), i + k = N → e.length = i → b.length = i → c.length = i →
    (∀ y, y ∈ e → T2 1048576 y) → (∀ y, y ∈ b → T4 1048576 y) → (∀ y, y ∈ c → T2 1048576 y) → (∀ j, j < i → iA e j = 0) → (∀ j, j < i → iA c j = 0) → (∀ j, j < 4 → j < i → bA b j = false) →
    f3_l1 (N : Int) (i : Int) s n e b c = some (.b true) := by
  have z64 : W64 0 := by constructor <;> omega
  intro k
  induction k with
  | zero =>
    intro i s e b c hik h1 h2 h3 p1 p2 p3 z1 z2 z3
    have hi : i = N := by omega
    subst hi
    have he : Rw (T2 1048576) 1048576 e := ⟨by omega, p1⟩
    have hb : Rw (T4 1048576) 1048576 b := ⟨by omega, p2⟩
    have hc : Rw (T2 1048576) 1048576 c := ⟨by omega, p3⟩
    have q0 := hc.at (i := 0) (by omega)
    have hc1 : Rw (T2 1048576) 1048576 (c.set 0 (.i .i64 2)) := t2_set hc _ _ (by constructor <;> decide)
    have q1 := hc1.at (i := 1) (by rw [List.length_set]; omega)
    have hc2 : Rw (T2 1048576) 1048576 ((c.set 0 (.i .i64 2)).set 1 (.i .i64 1)) := t2_set hc1 _ _ (by constructor <;> decide)
    have g1 : (0 : Int) < ((c.length : Nat) : Int) := by omega
    have g2 : (1 : Int) < ((c.length : Nat) : Int) := by omega
    have ic : ∀ k, iA ((c.set 0 (.i .i64 2)).set 1 (.i .i64 1)) k = if k = 1 then 1 else if k = 0 then 2 else iA c k := fun k => by
      rw [iA_set (by rw [List.length_set]; omega), iA_set (by omega)]
    rw [f3_l1_eq, dF (Int.lt_irrefl _), cond_false]
    have e1 : (0 : Int).toNat = 0 := rfl
    have e2 : (1 : Int).toNat = 1 := rfl
    simp only [e1, e2, Nat.zero_add, t2_put q0, t2_put q1, List.length_set, g1, g2, Int.le_refl, show (0 : Int) ≤ 1 from by decide, and_self, if_true]
    refine roundsI hn 60 0 e _ 0 1 (by omega) ⟨he, hb, hc2, ?_, by omega, fun k hk => z3 k hk (by omega), by omega, by omega, by rw [ic]; rfl, by rw [ic]; rfl, fun k hk k1 k2 => ?_, fun k hk => ?_, fun i j hi hj _ _ => ?_⟩
    · simp only [okWear, Bool.and_eq_true, decide_eq_true_eq, List.all_eq_true, List.length_set]
      refine ⟨⟨by omega, by omega⟩, by omega, by omega, ⟨by omega, by omega⟩, fun k hk => ?_⟩
      have hk : k < e.length := by simpa [List.mem_range'_1] using hk
      have := z1 k (by omega)
      have := z2 k (by omega)
      refine okW_mk (by omega) ?_ fun hbk => ?_
      · rw [ic]; split
        · omega
        · split <;> omega
      · rw [ic]; split
        · rename_i hk1; rw [hk1, z3 1 (by omega) (by omega)] at hbk; cases hbk
        · split
          · rename_i hk1; rw [hk1, z3 0 (by omega) (by omega)] at hbk; cases hbk
          · assumption
    · rw [ic, if_neg k2, if_neg k1]; exact z2 k (by omega)
    · rw [z1 k (by omega)]; exact Int.le_refl _
    · rw [z1 i (by omega), z1 j (by omega)]; omega
  | succ k ih =>
    intro i s e b c hik h1 h2 h3 p1 p2 p3 z1 z2 z3
    have step : ∀ (s' : Int) (v : Bool), (i < 4 → v = false) → f3_j2 (N : Int) (i : Int) s' n (e ++ [(.i .i64 0)]) (b ++ [(.b v)]) c = some (.b true) := fun s' v hv => by
      rw [f3_j2_eq, if_pos (by simp only [room, List.length_cons, List.length_nil]; omega), w64 (x := (i : Int) + 1) (by omega) (by omega)]
      have := ih (i + 1) s' (e ++ [(.i .i64 0)]) (b ++ [(.b v)]) (c ++ [(.i .i64 0)]) (by omega) (by simp [h1]) (by simp [h2]) (by simp [h3]) (rw_app p1 ⟨_, rfl, z64, trivial⟩) (rw_app p2 ⟨_, rfl, trivial⟩) (rw_app p3 ⟨_, rfl, z64, trivial⟩)
        (fun j hj => by
          rw [iA_app]; split
          · exact z1 j (by omega)
          · rw [if_pos (by omega)]; rfl)
        (fun j hj => by
          rw [iA_app]; split
          · exact z2 j (by omega)
          · rw [if_pos (by omega)]; rfl)
        (fun j hj4 hj => by
          rw [bA_app]; split
          · exact z3 j hj4 (by omega)
          · rw [if_pos (by omega)]; exact hv (by omega))
      simpa using this
    rw [f3_l1_eq, dT (show (i : Int) < (N : Int) by omega), cond_true, if_pos (by simp only [room, List.length_cons, List.length_nil]; omega)]
    by_cases h4 : (3 : Int) < (i : Int)
    · obtain ⟨v, s', _, _, hB⟩ := belowI s 6 (by omega) (by omega)
      simp only [h4, hB, bOwn_some, bOwnF_some, bOwnS_some, bOwnFS_some, okRs_nil, okRs_cons, okR_row, okR_same, okR_var, okR_gone, okS_so, okS_pr, okS_po, okLens_nil, okLens_same, okLens_row, okLens_var, row_live, flatR_live, flatL_nil, flatL_cons, flat_i, flat_b, flat_s, flat_sl, flat_agg, flat_tup, List.all_cons, List.all_nil, List.length_cons, List.length_nil, Nat.reduceLeDiff, Nat.le_refl, decide_true, Bool.and_self, mkL_length, List.headD_cons, okC_nil, okC_agg, okC_i, okC_b, okC_s, okC_imm, okL_i, okL_b, okL_s, okL_sl, okS_i, okS_b, okS_s, okS_sl, okS_agg, okS_tup, okS_nil, okS_cons, cells_agg, cells_i, cells_b, cells_s, cells_imm, toI_i, toB_b, toS_s, toL_imm, nth_agg, nth_tup, put_agg, put_i, put_b, put_s, put_imm, setCells, List.getD_cons_zero, List.getD_cons_succ, bSh_b, bSh_i, bSh_s, bSh_sl, bSh_some, cond_true, cond_false, decide_true, decide_false, Int.toNat_natCast, Nat.zero_add, Nat.reduceAdd, beq_self_eq_true, Bool.and_true, Bool.true_and, if_true, Bool.false_eq_true, if_false, List.set_cons_zero, List.set_cons_succ, Bool.not_true, Bool.not_false, Bool.and_self]
      rw [if_pos (by simp only [room]; omega)]
      exact step _ _ (fun h => by omega)
    · simp only [h4, bOwn_some, bOwnF_some, bOwnS_some, bOwnFS_some, okRs_nil, okRs_cons, okR_row, okR_same, okR_var, okR_gone, okS_so, okS_pr, okS_po, okLens_nil, okLens_same, okLens_row, okLens_var, row_live, flatR_live, flatL_nil, flatL_cons, flat_i, flat_b, flat_s, flat_sl, flat_agg, flat_tup, List.all_cons, List.all_nil, List.length_cons, List.length_nil, Nat.reduceLeDiff, Nat.le_refl, decide_true, Bool.and_self, mkL_length, List.headD_cons, okC_nil, okC_agg, okC_i, okC_b, okC_s, okC_imm, okL_i, okL_b, okL_s, okL_sl, okS_i, okS_b, okS_s, okS_sl, okS_agg, okS_tup, okS_nil, okS_cons, cells_agg, cells_i, cells_b, cells_s, cells_imm, toI_i, toB_b, toS_s, toL_imm, nth_agg, nth_tup, put_agg, put_i, put_b, put_s, put_imm, setCells, List.getD_cons_zero, List.getD_cons_succ, bSh_b, bSh_i, bSh_s, bSh_sl, bSh_some, cond_true, cond_false, decide_true, decide_false, Int.toNat_natCast, Nat.zero_add, Nat.reduceAdd, beq_self_eq_true, Bool.and_true, Bool.true_and, if_true, Bool.false_eq_true, if_false, List.set_cons_zero, List.set_cons_succ, Bool.not_true, Bool.not_false, Bool.and_self]
      rw [if_pos (by simp only [room]; omega), show ((false == true) : Bool) = false from rfl, cond_false]
      exact step s false (fun _ => rfl)

theorem pure (l : List AV) (h : Rw (T5 9223372036854775807) 9223372036854775807 l) : den E 3 [(.imm 1 l)] [] = some (.b true) := by
  rw [f3_eq]
  by_cases h4 : (400 : Int) < ((l.length : Nat) : Int)
  · simp only [h4, okC_nil, okC_agg, okC_i, okC_b, okC_s, okC_imm, okL_i, okL_b, okL_s, okL_sl, okS_i, okS_b, okS_s, okS_sl, okS_agg, okS_tup, okS_nil, okS_cons, cells_agg, cells_i, cells_b, cells_s, cells_imm, toI_i, toB_b, toS_s, toL_imm, nth_agg, nth_tup, put_agg, put_i, put_b, put_s, put_imm, setCells, List.getD_cons_zero, List.getD_cons_succ, bSh_b, bSh_i, bSh_s, bSh_sl, bSh_some, cond_true, cond_false, decide_true, decide_false, Int.toNat_natCast, Nat.zero_add, Nat.reduceAdd, beq_self_eq_true, Bool.and_true, Bool.true_and, if_true, Bool.false_eq_true, if_false, List.set_cons_zero, List.set_cons_succ, Bool.not_true, Bool.not_false, Bool.and_self]
  obtain ⟨s0, r0⟩ := fromI (l := l) ⟨by omega, h.2⟩ 704
  obtain ⟨v1, s1, a1, a2, r1⟩ := belowI s0 5 (by omega) (by omega)
  obtain ⟨v2, s2, a3, a4, r2⟩ := belowI s1 6 (by omega) (by omega)
  simp only [h4, r0, r1, r2, bOwn_some, bOwnF_some, bOwnS_some, bOwnFS_some, okRs_nil, okRs_cons, okR_row, okR_same, okR_var, okR_gone, okS_so, okS_pr, okS_po, okLens_nil, okLens_same, okLens_row, okLens_var, row_live, flatR_live, flatL_nil, flatL_cons, flat_i, flat_b, flat_s, flat_sl, flat_agg, flat_tup, List.all_cons, List.all_nil, List.length_cons, List.length_nil, Nat.reduceLeDiff, Nat.le_refl, decide_true, Bool.and_self, mkL_length, List.headD_cons, okC_nil, okC_agg, okC_i, okC_b, okC_s, okC_imm, okL_i, okL_b, okL_s, okL_sl, okS_i, okS_b, okS_s, okS_sl, okS_agg, okS_tup, okS_nil, okS_cons, cells_agg, cells_i, cells_b, cells_s, cells_imm, toI_i, toB_b, toS_s, toL_imm, nth_agg, nth_tup, put_agg, put_i, put_b, put_s, put_imm, setCells, List.getD_cons_zero, List.getD_cons_succ, bSh_b, bSh_i, bSh_s, bSh_sl, bSh_some, cond_true, cond_false, decide_true, decide_false, Int.toNat_natCast, Nat.zero_add, Nat.reduceAdd, beq_self_eq_true, Bool.and_true, Bool.true_and, if_true, Bool.false_eq_true, if_false, List.set_cons_zero, List.set_cons_succ, Bool.not_true, Bool.not_false, Bool.and_self]
  rw [w64 (x := 4 + v2) (by omega) (by omega), w64 (x := 1 + v1) (by omega) (by omega)]
  obtain ⟨N, hN⟩ : ∃ N : Nat, 4 + v2 = N := ⟨(4 + v2).toNat, by omega⟩
  rw [hN]
  exact startI (n := 1 + v1) (by omega) N (by omega) (by omega) N 0 s2 [] [] [] (by omega) rfl rfl rfl (fun y hy => by cases hy) (fun y hy => by cases hy) (fun y hy => by cases hy) (fun j hj => by omega) (fun j hj => by omega) (fun j _ hj => by omega)
end Go.Proofs.Ytfiijbacegpomaa.IWearBound
