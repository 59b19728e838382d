/- LevelWear: the program's answer is the reference's, for every state. No condition beyond what each theorem states. -/
import Derived.Test.YtcjfeglalmlkbaaILevelWearf
import Derived.Test.YtcjfeglalmlkbaaItMk
namespace Go.Proofs.Ytcjfeglalmlkbaa.ILevelWear
open Go Go.Proofs.YtcjfeglalmlkbaaIT
set_option linter.unusedSimpArgs false

theorem in90 (a lo hi : Int) : den E 77 [(.i .i64 a), (.i .i64 lo), (.i .i64 hi)] [] = some (.b (decide (lo ≤ a) && decide (a ≤ hi))) := by
  rw [f77_eq, beq_true, cond_andb]
theorem in72 (a lo hi : Int) : den E 70 [(.i .i64 a), (.i .i64 lo), (.i .i64 hi)] [] = some (.b (decide (lo ≤ a) && decide (a ≤ hi))) := by
  rw [f70_eq, beq_true, cond_andb]


theorem t2_put {B : Nat} {y v : AV} (h : T2 B y) : y.putCells 0 [v] = v := by obtain ⟨_, rfl, _⟩ := h; rfl
theorem t4_put {B : Nat} {y v : AV} (h : T4 B y) : y.putCells 0 [v] = v := by obtain ⟨_, rfl, _⟩ := h; rfl
theorem t2_flat {B C : Nat} {l : List AV} (h : Rw (T2 B) C l) : flatVL l = true := flatVL_of fun y hy => by obtain ⟨_, rfl, _⟩ := h.2 y hy; rfl
theorem t4_flat {B C : Nat} {l : List AV} (h : Rw (T4 B) C l) : flatVL l = true := flatVL_of fun y hy => by obtain ⟨_, rfl, _⟩ := h.2 y hy; rfl

/-! Copies in memory of the call's own. -/
theorem own_int {l : List AV} (h : Rw (T2 1048576) 1048576 l) : dno E 90 [(.imm 1 l)] [] = some (.sl 0 [] none, [.live true false false 2 l]) := by
  have hl := h.1
  rw [f90o1_eq, if_pos (by simp only [room]; omega), Int.toNat_natCast]
  refine fill_loop (L := fun i ys => f90o1_l1 l i ys) (xs := l) (ys0 := List.replicate l.length (.i .i64 0)) (F := fun ys => some (.sl 0 [] none, [.live true false false 2 ys])) (by simp) (fun i ys hi hy hz => ?_) ?_
  · have hT := h.at hi
    have hz' : ys.getD i .x = .i .i64 0 := by rw [hz]; simp [List.getD_eq_getElem?_getD, hi]
    try dsimp only
    rw [f90o1_l1_eq, dT (show (i : Int) < ((l.length : Nat) : Int) by omega), cond_true, if_pos (by omega), w64 (x := (i : Int) + 1) (by omega) (by omega)]
    simp only [Int.toNat_natCast, Nat.zero_add, hT.ok, if_true, hz', put_i]
    rw [if_pos (by omega), hT.eta]
  · try dsimp only
    rw [f90o1_l1_eq, dF (Int.lt_irrefl _), cond_false]
theorem own_bool {l : List AV} (h : Rw (T4 1048576) 1048576 l) : dno E 91 [(.imm 1 l)] [] = some (.sl 0 [] none, [.live true false false 4 l]) := by
  have hl := h.1
  rw [f91o1_eq, if_pos (by simp only [room]; omega), Int.toNat_natCast]
  refine fill_loop (L := fun i ys => f91o1_l1 l i ys) (xs := l) (ys0 := List.replicate l.length (.b false)) (F := fun ys => some (.sl 0 [] none, [.live true false false 4 ys])) (by simp) (fun i ys hi hy hz => ?_) ?_
  · have hT := h.at hi
    have hz' : ys.getD i .x = .b false := by rw [hz]; simp [List.getD_eq_getElem?_getD, hi]
    try dsimp only
    rw [f91o1_l1_eq, dT (show (i : Int) < ((l.length : Nat) : Int) by omega), cond_true, if_pos (by omega), w64 (x := (i : Int) + 1) (by omega) (by omega)]
    simp only [Int.toNat_natCast, Nat.zero_add, hT.ok, if_true, hz', put_b]
    rw [if_pos (by omega), hT.eta]
  · try dsimp only
    rw [f91o1_l1_eq, dF (Int.lt_irrefl _), cond_false]

/-! Marks. -/
theorem mark_int {l : List AV} (h : Rw (T2 1048576) 1048576 l) (k : Int) (hk : 0 ≤ k) (hk2 : k ≤ 1099511627776) : dno E 98 [(.sl 0 [] none), (.i .i64 k)] [(.live true false false 2 l)] =
    some (.i .i64 (k + ((l.length : Nat) : Int)), [.live true false false 2 (mkL l.length fun i => .i .i64 (k + (i : Int)))]) := by
  have hl := h.1
  rw [f98o1_eq]
  have := fill_loop (L := fun i ys => f98o1_l1 (k + i) i ys) (xs := mkL l.length fun i => .i .i64 (k + (i : Int))) (ys0 := l) (F := fun ys => some (AV.i .i64 (k + ((l.length : Nat) : Int)), [.live true false false 2 ys])) (by rw [mkL_length]) (fun i ys hi hy hz => ?_) ?_
  · simpa using this
  · rw [mkL_length] at hi hy
    have hT := h.at hi
    try dsimp only
    rw [f98o1_l1_eq, dT (show (i : Int) < ((ys.length : Nat) : Int) by omega), cond_true, if_pos (by omega), w64 (x := k + (i : Int) + 1) (by omega) (by omega), w64 (x := (i : Int) + 1) (by omega) (by omega)]
    simp only [Int.toNat_natCast, Nat.zero_add, hz, t2_put hT, mkL_getD hi]
    rw [Int.add_assoc]
  · rw [mkL_length]
    try dsimp only
    rw [f98o1_l1_eq, dF (by rw [mkL_length]; omega), cond_false]
theorem mark_bool {l : List AV} (h : Rw (T4 1048576) 1048576 l) (k : Int) (hk : 0 ≤ k) (hk2 : k ≤ 1099511627776) : dno E 99 [(.sl 0 [] none), (.i .i64 k)] [(.live true false false 4 l)] =
    some (.i .i64 (k + ((l.length : Nat) : Int)), [.live true false false 4 (mkL l.length fun i => .b (decide ((k + (i : Int)).tmod 3 = 0)))]) := by
  have hl := h.1
  rw [f99o1_eq]
  have := fill_loop (L := fun i ys => f99o1_l1 (k + i) i ys) (xs := mkL l.length fun i => .b (decide ((k + (i : Int)).tmod 3 = 0))) (ys0 := l) (F := fun ys => some (AV.i .i64 (k + ((l.length : Nat) : Int)), [.live true false false 4 ys])) (by rw [mkL_length]) (fun i ys hi hy hz => ?_) ?_
  · simpa using this
  · rw [mkL_length] at hi hy
    have hT := h.at hi
    try dsimp only
    rw [f99o1_l1_eq, dT (show (i : Int) < ((ys.length : Nat) : Int) by omega), cond_true, if_pos (by omega), w64 (x := k + (i : Int) + 1) (by omega) (by omega), w64 (x := (i : Int) + 1) (by omega) (by omega)]
    simp only [Int.toNat_natCast, Nat.zero_add, hz, t4_put hT, mkL_getD hi]
    rw [Int.add_assoc]
  · rw [mkL_length]
    try dsimp only
    rw [f99o1_l1_eq, dF (by rw [mkL_length]; omega), cond_false]
theorem held_int (n : Nat) (hn : n ≤ 1048576) (k : Int) (hk : 0 ≤ k) (hk2 : k ≤ 1099511627776) : den E 100 [(.imm 1 (mkL n fun i => .i .i64 (k + (i : Int)))), (.i .i64 k)] [] = some (.i .i64 (k + (n : Int))) := by
  rw [f100_eq]
  have := loop_to (L := fun i => f100_l1 (mkL n fun i => .i .i64 (k + (i : Int))) (k + i) i) (n := n) (X := some (.i .i64 (k + (n : Int)))) (fun i hi => ?_) ?_
  · simpa using this
  · try dsimp only
    rw [f100_l1_eq, mkL_length, dT (show (i : Int) < (n : Int) by omega), cond_true, if_pos (by omega), w64 (x := k + (i : Int) + 1) (by omega) (by omega), w64 (x := (i : Int) + 1) (by omega) (by omega)]
    simp only [mkL_getD hi, okC_nil, okC_agg, okC_i, okC_b, okC_s, okC_imm, okL_i, okL_b, okL_s, okL_sl, okS_i, okS_b, okS_s, okS_sl, okS_agg, okS_tup, okS_nil, okS_cons, cells_agg, cells_i, cells_b, cells_s, cells_imm, toI_i, toB_b, toS_s, toL_imm, nth_agg, nth_tup, put_agg, put_i, put_b, put_s, put_imm, setCells, List.getD_cons_zero, List.getD_cons_succ, bSh_b, bSh_i, bSh_s, bSh_sl, bSh_some, cond_true, cond_false, decide_true, decide_false, Int.toNat_natCast, Nat.zero_add, Nat.reduceAdd, beq_self_eq_true, Bool.and_true, Bool.true_and, if_true, Bool.false_eq_true, if_false, List.set_cons_zero, List.set_cons_succ, Bool.not_true, Bool.not_false, Bool.and_self, Bool.not_true]
    rw [Int.add_assoc]
  · try dsimp only
    rw [f100_l1_eq, mkL_length, dF (Int.lt_irrefl _), cond_false]
theorem held_bool (n : Nat) (hn : n ≤ 1048576) (k : Int) (hk : 0 ≤ k) (hk2 : k ≤ 1099511627776) : den E 101 [(.imm 1 (mkL n fun i => .b (decide ((k + (i : Int)).tmod 3 = 0)))), (.i .i64 k)] [] = some (.i .i64 (k + (n : Int))) := by
  rw [f101_eq]
  have := loop_to (L := fun i => f101_l1 (mkL n fun i => .b (decide ((k + (i : Int)).tmod 3 = 0))) (k + i) i) (n := n) (X := some (.i .i64 (k + (n : Int)))) (fun i hi => ?_) ?_
  · simpa using this
  · try dsimp only
    rw [f101_l1_eq, mkL_length, dT (show (i : Int) < (n : Int) by omega), cond_true, if_pos (by omega), w64 (x := k + (i : Int) + 1) (by omega) (by omega), w64 (x := (i : Int) + 1) (by omega) (by omega)]
    simp only [mkL_getD hi, okC_nil, okC_agg, okC_i, okC_b, okC_s, okC_imm, okL_i, okL_b, okL_s, okL_sl, okS_i, okS_b, okS_s, okS_sl, okS_agg, okS_tup, okS_nil, okS_cons, cells_agg, cells_i, cells_b, cells_s, cells_imm, toI_i, toB_b, toS_s, toL_imm, nth_agg, nth_tup, put_agg, put_i, put_b, put_s, put_imm, setCells, List.getD_cons_zero, List.getD_cons_succ, bSh_b, bSh_i, bSh_s, bSh_sl, bSh_some, cond_true, cond_false, decide_true, decide_false, Int.toNat_natCast, Nat.zero_add, Nat.reduceAdd, beq_self_eq_true, Bool.and_true, Bool.true_and, if_true, Bool.false_eq_true, if_false, List.set_cons_zero, List.set_cons_succ, Bool.not_true, Bool.not_false, Bool.and_self, Bool.not_true]
    rw [Int.add_assoc]
  · try dsimp only
    rw [f101_l1_eq, mkL_length, dF (Int.lt_irrefl _), cond_false]


/-! Rows of numbers. -/
noncomputable def iA (m : List AV) (i : Nat) : Int := ((m.getD i .x).cells.getD 0 .x).toI
noncomputable def bA (m : List AV) (i : Nat) : Bool := ((m.getD i .x).cells.getD 0 .x).toB

def idxL (n : Nat) : List AV := mkL n fun i => .i .i64 (i : Int)
theorem idxL_length (n : Nat) : (idxL n).length = n := mkL_length _ _
theorem idxL_getD {n i : Nat} (h : i < n) : (idxL n).getD i .x = .i .i64 (i : Int) := mkL_getD h

/-! A wear state is valid. -/
noncomputable def okW (e b c : List AV) (i : Nat) : Bool := (decide (0 ≤ iA e i) && decide (iA e i ≤ 1000)) && ((decide (0 ≤ iA c i) && decide (iA c i ≤ 2)) && !(bA b i && !decide (iA c i = 0)))
noncomputable def okWear (e b c : List AV) (n : Int) : Bool := (decide (1 ≤ ((e.length : Nat) : Int)) && decide (((e.length : Nat) : Int) ≤ 36)) && (decide (((b.length : Nat) : Int) = ((e.length : Nat) : Int)) && (decide (((c.length : Nat) : Int) = ((e.length : Nat) : Int)) && ((decide (1 ≤ n) && decide (n ≤ 100)) && (List.range' 0 e.length).all (okW e b c))))

theorem spec_wl {e b c : List AV} (n : Int) (he : Rw (T2 1048576) 1048576 e) (hb : Rw (T4 1048576) 1048576 b) (hc : Rw (T2 1048576) 1048576 c) (hbl : b.length = e.length) (hcl : c.length = e.length) :
    f19_l1 ((e.length : Nat) : Int) 0 e b c n = some (.b ((List.range' 0 e.length).all (okW e b c))) := by
  have hel := he.1
  refine (all_loop (L := fun i => f19_l1 ((e.length : Nat) : Int) i e b c n) (n := e.length) (p := okW e b c) (X := some (.b true)) (F := some (.b false)) (fun i hi => ?_) ?_ e.length 0 (by omega)).trans (by rw [cond_andb, Bool.and_true])
  · have h1 := he.at hi
    have h2 := hb.at (i := i) (by omega)
    have h3 := hc.at (i := i) (by omega)
    try dsimp only
    have g1 : (0 : Int) ≤ (i : Int) := by omega
    have g2 : (i : Int) < ((e.length : Nat) : Int) := by omega
    have g3 : (i : Int) < ((b.length : Nat) : Int) := by omega
    have g4 : (i : Int) < ((c.length : Nat) : Int) := by omega
    rw [f19_l1_eq, dT (show (i : Int) < ((e.length : Nat) : Int) by omega), cond_true]
    simp only [Int.toNat_natCast, h1.ok, h2.ok, h3.ok, in90, f19_j2_eq, g1, g2, g3, g4, and_self, okC_nil, okC_agg, okC_i, okC_b, okC_s, okC_imm, okL_i, okL_b, okL_s, okL_sl, okS_i, okS_b, okS_s, okS_sl, okS_agg, okS_tup, okS_nil, okS_cons, cells_agg, cells_i, cells_b, cells_s, cells_imm, toI_i, toB_b, toS_s, toL_imm, nth_agg, nth_tup, put_agg, put_i, put_b, put_s, put_imm, setCells, List.getD_cons_zero, List.getD_cons_succ, bSh_b, bSh_i, bSh_s, bSh_sl, bSh_some, cond_true, cond_false, decide_true, decide_false, Int.toNat_natCast, Nat.zero_add, Nat.reduceAdd, beq_self_eq_true, Bool.and_true, Bool.true_and, if_true, Bool.false_eq_true, if_false, List.set_cons_zero, List.set_cons_succ, Bool.not_true, Bool.not_false, Bool.and_self]
    rw [w64 (x := (i : Int) + 1) (by omega) (by omega)]
    unfold okW iA bA
    cases (decide (0 ≤ ((e.getD i .x).cells.getD 0 .x).toI) && decide (((e.getD i .x).cells.getD 0 .x).toI ≤ 1000)) <;>
      cases (decide (0 ≤ ((c.getD i .x).cells.getD 0 .x).toI) && decide (((c.getD i .x).cells.getD 0 .x).toI ≤ 2)) <;>
      cases ((b.getD i .x).cells.getD 0 .x).toB <;> cases decide (((c.getD i .x).cells.getD 0 .x).toI = 0) <;> rfl
  · try dsimp only
    rw [f19_l1_eq, dF (Int.lt_irrefl _), cond_false]
theorem impl_wl {e b c : List AV} (n : Int) (he : Rw (T2 1048576) 1048576 e) (hb : Rw (T4 1048576) 1048576 b) (hc : Rw (T2 1048576) 1048576 c) (hbl : b.length = e.length) (hcl : c.length = e.length) :
    f72_l1 c ((c.length : Nat) : Int) 0 e b c n = some (.b ((List.range' 0 e.length).all (okW e b c))) := by
  have hel := he.1
  refine (all_loop (L := fun i => f72_l1 c ((c.length : Nat) : Int) i e b c n) (n := e.length) (p := okW e b c) (X := some (.b true)) (F := some (.b false)) (fun i hi => ?_) ?_ e.length 0 (by omega)).trans (by rw [cond_andb, Bool.and_true])
  · have h1 := he.at hi
    have h2 := hb.at (i := i) (by omega)
    have h3 := hc.at (i := i) (by omega)
    try dsimp only
    have g1 : (0 : Int) ≤ (i : Int) := by omega
    have g2 : (i : Int) < ((e.length : Nat) : Int) := by omega
    have g3 : (i : Int) < ((b.length : Nat) : Int) := by omega
    have g4 : (i : Int) < ((c.length : Nat) : Int) := by omega
    rw [f72_l1_eq, dT (show (i : Int) < ((c.length : Nat) : Int) by omega), cond_true]
    simp only [Int.toNat_natCast, h1.ok, h2.ok, h3.ok, in72, f72_j2_eq, g1, g2, g3, g4, and_self, okC_nil, okC_agg, okC_i, okC_b, okC_s, okC_imm, okL_i, okL_b, okL_s, okL_sl, okS_i, okS_b, okS_s, okS_sl, okS_agg, okS_tup, okS_nil, okS_cons, cells_agg, cells_i, cells_b, cells_s, cells_imm, toI_i, toB_b, toS_s, toL_imm, nth_agg, nth_tup, put_agg, put_i, put_b, put_s, put_imm, setCells, List.getD_cons_zero, List.getD_cons_succ, bSh_b, bSh_i, bSh_s, bSh_sl, bSh_some, cond_true, cond_false, decide_true, decide_false, Int.toNat_natCast, Nat.zero_add, Nat.reduceAdd, beq_self_eq_true, Bool.and_true, Bool.true_and, if_true, Bool.false_eq_true, if_false, List.set_cons_zero, List.set_cons_succ, Bool.not_true, Bool.not_false, Bool.and_self]
    rw [w64 (x := (i : Int) + 1) (by omega) (by omega)]
    unfold okW iA bA
    cases (decide (0 ≤ ((e.getD i .x).cells.getD 0 .x).toI) && decide (((e.getD i .x).cells.getD 0 .x).toI ≤ 1000)) <;>
      cases (decide (0 ≤ ((c.getD i .x).cells.getD 0 .x).toI) && decide (((c.getD i .x).cells.getD 0 .x).toI ≤ 2)) <;>
      cases ((b.getD i .x).cells.getD 0 .x).toB <;> cases decide (((c.getD i .x).cells.getD 0 .x).toI = 0) <;> rfl
  · try dsimp only
    rw [f72_l1_eq, hcl, dF (Int.lt_irrefl _), cond_false]

theorem spec_wear {e b c : List AV} (n : Int) (he : Rw (T2 1048576) 1048576 e) (hb : Rw (T4 1048576) 1048576 b) (hc : Rw (T2 1048576) 1048576 c) :
    den E 19 [(.agg [(.imm 1 e), (.imm 1 b), (.imm 1 c), (.i .i64 n)])] [] = some (.b (okWear e b c n)) := by
  rw [f19_eq]
  unfold okWear
  by_cases h1 : ((e.length : Nat) : Int) < 1
  · have h1' : ¬ (1 : Int) ≤ ((e.length : Nat) : Int) := by omega
    simp only [h1, h1', decide_true, decide_false, Bool.false_and]; rfl
  have h1' : (1 : Int) ≤ ((e.length : Nat) : Int) := by omega
  by_cases h2 : (36 : Int) < ((e.length : Nat) : Int)
  · have h2' : ¬ ((e.length : Nat) : Int) ≤ 36 := by omega
    simp only [h1, h1', h2, h2', decide_true, decide_false, Bool.false_and, Bool.true_and]; rfl
  have h2' : ((e.length : Nat) : Int) ≤ 36 := by omega
  by_cases hbl : ((b.length : Nat) : Int) = ((e.length : Nat) : Int)
  rotate_left
  · simp only [h1, h1', h2, h2', hbl, decide_true, decide_false, Bool.false_and, Bool.true_and]; rfl
  by_cases hcl : ((c.length : Nat) : Int) = ((e.length : Nat) : Int)
  rotate_left
  · simp only [h1, h1', h2, h2', hbl, hcl, decide_true, decide_false, Bool.false_and, Bool.true_and]; rfl
  rw [spec_wl n he hb hc (by omega) (by omega)]
  simp only [h1, h1', h2, h2', hbl, hcl, in90, okC_nil, okC_agg, okC_i, okC_b, okC_s, okC_imm, okL_i, okL_b, okL_s, okL_sl, okS_i, okS_b, okS_s, okS_sl, okS_agg, okS_tup, okS_nil, okS_cons, cells_agg, cells_i, cells_b, cells_s, cells_imm, toI_i, toB_b, toS_s, toL_imm, nth_agg, nth_tup, put_agg, put_i, put_b, put_s, put_imm, setCells, List.getD_cons_zero, List.getD_cons_succ, bSh_b, bSh_i, bSh_s, bSh_sl, bSh_some, cond_true, cond_false, decide_true, decide_false, Int.toNat_natCast, Nat.zero_add, Nat.reduceAdd, beq_self_eq_true, Bool.and_true, Bool.true_and, if_true, Bool.false_eq_true, if_false, List.set_cons_zero, List.set_cons_succ, Bool.not_true, Bool.not_false, Bool.and_self]
  cases (decide (1 ≤ n) && decide (n ≤ 100)) <;> rfl
theorem impl_wear {e b c : List AV} (n : Int) (he : Rw (T2 1048576) 1048576 e) (hb : Rw (T4 1048576) 1048576 b) (hc : Rw (T2 1048576) 1048576 c) :
    den E 72 [(.agg [(.imm 1 e), (.imm 1 b), (.imm 1 c), (.i .i64 n)])] [] = some (.b (okWear e b c n)) := by
  rw [f72_eq]
  unfold okWear
  simp only [in72, okC_nil, okC_agg, okC_i, okC_b, okC_s, okC_imm, okL_i, okL_b, okL_s, okL_sl, okS_i, okS_b, okS_s, okS_sl, okS_agg, okS_tup, okS_nil, okS_cons, cells_agg, cells_i, cells_b, cells_s, cells_imm, toI_i, toB_b, toS_s, toL_imm, nth_agg, nth_tup, put_agg, put_i, put_b, put_s, put_imm, setCells, List.getD_cons_zero, List.getD_cons_succ, bSh_b, bSh_i, bSh_s, bSh_sl, bSh_some, cond_true, cond_false, decide_true, decide_false, Int.toNat_natCast, Nat.zero_add, Nat.reduceAdd, beq_self_eq_true, Bool.and_true, Bool.true_and, if_true, Bool.false_eq_true, if_false, List.set_cons_zero, List.set_cons_succ, Bool.not_true, Bool.not_false, Bool.and_self]
  cases (decide (1 ≤ ((e.length : Nat) : Int)) && decide (((e.length : Nat) : Int) ≤ 36))
  · rfl
  by_cases hbl : ((b.length : Nat) : Int) = ((e.length : Nat) : Int)
  rotate_left
  · simp only [hbl, decide_false, Bool.false_and, Bool.true_and]; rfl
  by_cases hcl : ((c.length : Nat) : Int) = ((e.length : Nat) : Int)
  rotate_left
  · simp only [hbl, hcl, decide_true, decide_false, Bool.false_and, Bool.true_and]; rfl
  rw [impl_wl n he hb hc (by omega) (by omega)]
  simp only [hbl, hcl, okC_nil, okC_agg, okC_i, okC_b, okC_s, okC_imm, okL_i, okL_b, okL_s, okL_sl, okS_i, okS_b, okS_s, okS_sl, okS_agg, okS_tup, okS_nil, okS_cons, cells_agg, cells_i, cells_b, cells_s, cells_imm, toI_i, toB_b, toS_s, toL_imm, nth_agg, nth_tup, put_agg, put_i, put_b, put_s, put_imm, setCells, List.getD_cons_zero, List.getD_cons_succ, bSh_b, bSh_i, bSh_s, bSh_sl, bSh_some, cond_true, cond_false, decide_true, decide_false, Int.toNat_natCast, Nat.zero_add, Nat.reduceAdd, beq_self_eq_true, Bool.and_true, Bool.true_and, if_true, Bool.false_eq_true, if_false, List.set_cons_zero, List.set_cons_succ, Bool.not_true, Bool.not_false, Bool.and_self]
  cases (decide (1 ≤ n) && decide (n ≤ 100)) <;> rfl

/-! The good free blocks. -/
noncomputable def goodB (b : List AV) (y : AV) : Bool := !bA b y.toI.toNat
noncomputable def freeB (c : List AV) (y : AV) : Bool := decide (iA c y.toI.toNat = 0)
noncomputable def freeL (e b c : List AV) : List AV := ((idxL e.length).filter (goodB b)).filter (freeB c)
/-- Numbers of blocks. -/
def Blk (n : Nat) (y : AV) : Prop := ∃ j : Nat, j < n ∧ y = .i .i64 (j : Int)
theorem idxL_blk (n : Nat) : ∀ y, y ∈ idxL n → Blk n y := by
  intro y hy
  obtain ⟨i, hi, rfl⟩ := List.mem_map.1 hy
  exact ⟨i, List.mem_range.1 hi, rfl⟩
theorem Blk.t2 {n : Nat} {y : AV} (h : Blk n y) (hn : n ≤ 1048576) : T2 1048576 y := by
  obtain ⟨j, hj, rfl⟩ := h
  exact ⟨_, rfl, by constructor <;> omega, trivial⟩

theorem spec_free {e b c : List AV} (n : Int) (he : Rw (T2 1048576) 1048576 e) (hb : Rw (T4 1048576) 1048576 b) (hc : Rw (T2 1048576) 1048576 c) (hbl : b.length = e.length) (hcl : c.length = e.length) :
    den E 103 [(.agg [(.imm 1 e), (.imm 1 b), (.imm 1 c), (.i .i64 n)])] [] = some (.imm 1 (freeL e b c)) := by
  have hel := he.1
  rw [f103_eq]
  have := filter_loop (L := fun i r => f103_l1 i e b c n r) (m := idxL e.length) (p := fun y => goodB b y && freeB c y) (F := fun r => some (.imm 1 r)) (fun i r hi hr => ?_) (fun r hr => ?_) e.length 0 [] (by rw [idxL_length]; omega) (by simp)
  · refine Eq.trans ?_ (this.trans ?_)
    · rfl
    · simp only [List.nil_append, List.drop_zero, freeL, List.filter_filter]
      congr 2
      exact List.filter_congr fun y _ => by rw [Bool.and_comm]
  · rw [idxL_length] at hi
    have h2 := hb.at (i := i) (by omega)
    have h3 := hc.at (i := i) (by omega)
    try dsimp only
    rw [f103_l1_eq, dT (show (i : Int) < ((e.length : Nat) : Int) by omega), cond_true, if_pos (by omega)]
    simp only [Int.toNat_natCast, h2.ok, h3.ok, f103_j2_eq, if_true]
    rw [if_pos (by omega), if_pos (show (r.length + ([(.i .i64 (i : Int))] : List AV).length) * 8 ≤ room by simp only [room, List.length_cons, List.length_nil]; omega), w64 (x := (i : Int) + 1) (by omega) (by omega), idxL_getD hi]
    unfold goodB freeB iA bA
    simp only [toI_i, Int.toNat_natCast]
    by_cases hbv : ((b.getD i .x).cells.getD 0 .x).toB = true
    · simp only [hbv, Bool.not_true, Bool.false_and, Bool.false_eq_true, if_false]; rfl
    · rw [Bool.not_eq_true] at hbv
      by_cases h : ((c.getD i .x).cells.getD 0 .x).toI = 0
      · simp only [hbv, h, decide_true, Bool.not_false, Bool.and_self, if_true, beq_self_eq_true, cond_true]
      · simp only [hbv, h, decide_false, Bool.not_false, Bool.and_false, if_false, beq_self_eq_true, cond_true, cond_false, Bool.false_eq_true]
  · rw [idxL_length]
    try dsimp only
    rw [f103_l1_eq, dF (Int.lt_irrefl _), cond_false]

theorem impl_good {e b : List AV} (he : e.length ≤ 1048576) (hb : Rw (T4 1048576) 1048576 b) (hbl : b.length = e.length) :
    dno E 80 [(.imm 1 e), (.imm 1 b)] [] = some (.sl 0 [] none, [.live true false false 2 ((idxL e.length).filter (goodB b))]) := by
  rw [f80o1_eq]
  have := filter_loop (L := fun i r => f80o1_l1 b ((e.length : Nat) : Int) i r) (m := idxL e.length) (p := goodB b) (F := fun r => some (.sl 0 [] none, [.live true false false 2 r])) (fun i r hi hr => ?_) (fun r hr => ?_) e.length 0 [] (by rw [idxL_length]; omega) (by simp)
  · refine Eq.trans ?_ (this.trans ?_)
    · rfl
    · simp only [List.nil_append, List.drop_zero]
  · rw [idxL_length] at hi
    have h2 := hb.at (i := i) (by omega)
    try dsimp only
    rw [f80o1_l1_eq, dT (show (i : Int) < ((e.length : Nat) : Int) by omega), cond_true, dF (show ¬ ((b.length : Nat) : Int) ≤ (i : Int) by omega), if_pos (by omega)]
    simp only [Int.toNat_natCast, h2.ok, f80o1_j2_eq, f80o1_j3_eq, if_true, beq_self_eq_true, cond_true]
    rw [if_pos (show (r.length + ([(.i .i64 (i : Int))] : List AV).length) * 8 ≤ room by simp only [room, List.length_cons, List.length_nil]; omega), w64 (x := (i : Int) + 1) (by omega) (by omega), idxL_getD hi]
    unfold goodB bA
    simp only [toI_i, Int.toNat_natCast]
    by_cases hbv : ((b.getD i .x).cells.getD 0 .x).toB = true
    · simp only [hbv, Bool.not_true, Bool.false_eq_true, if_false, cond_false]
    · rw [Bool.not_eq_true] at hbv
      simp only [hbv, Bool.not_false, if_true, cond_true]
  · rw [idxL_length]
    try dsimp only
    rw [f80o1_l1_eq, dF (Int.lt_irrefl _), cond_false]

theorem del_w {e b c : List AV} {n : Int} (hc : Rw (T2 1048576) 1048576 c) {y : AV} (hy : Blk c.length y) : den E 207 [y, (.ip (.agg [(.imm 1 e), (.imm 1 b), (.imm 1 c), (.i .i64 n)]) 0)] [] = some (.b (!freeB c y)) := by
  obtain ⟨j, hj, rfl⟩ := hy
  have h3 := hc.at hj
  rw [f207q1_eq]
  simp only [okC_nil, okC_agg, okC_i, okC_b, okC_s, okC_imm, okL_i, okL_b, okL_s, okL_sl, okS_i, okS_b, okS_s, okS_sl, okS_agg, okS_tup, okS_nil, okS_cons, cells_agg, cells_i, cells_b, cells_s, cells_imm, toI_i, toB_b, toS_s, toL_imm, nth_agg, nth_tup, put_agg, put_i, put_b, put_s, put_imm, setCells, List.getD_cons_zero, List.getD_cons_succ, bSh_b, bSh_i, bSh_s, bSh_sl, bSh_some, cond_true, cond_false, decide_true, decide_false, Int.toNat_natCast, Nat.zero_add, Nat.reduceAdd, beq_self_eq_true, Bool.and_true, Bool.true_and, if_true, Bool.false_eq_true, if_false, List.set_cons_zero, List.set_cons_succ, Bool.not_true, Bool.not_false, Bool.and_self, h3.ok]
  rw [if_pos (by omega)]
  rfl

theorem first_w {e b c : List AV} {n : Int} (hc : Rw (T2 1048576) 1048576 c) (m : List AV) (hml : m.length ≤ 1048576) (hm : ∀ y, y ∈ m → Blk c.length y) :
    (den E 209 [(.imm 1 m), (.fn 207 [(.ip (.agg [(.imm 1 e), (.imm 1 b), (.imm 1 c), (.i .i64 n)]) 0)])] [] = some (.i .i64 (-1)) ∧ ∀ i, i < m.length → freeB c (m.getD i .x) = true) ∨
    ∃ j : Nat, j < m.length ∧ den E 209 [(.imm 1 m), (.fn 207 [(.ip (.agg [(.imm 1 e), (.imm 1 b), (.imm 1 c), (.i .i64 n)]) 0)])] [] = some (.i .i64 j) ∧ freeB c (m.getD j .x) = false ∧ ∀ i, i < j → freeB c (m.getD i .x) = true := by
  have key := find_loop (L := fun i => f209q3_l1 m (.agg [(.imm 1 e), (.imm 1 b), (.imm 1 c), (.i .i64 n)]) ((m.length : Nat) : Int) i) (n := m.length) (p := fun j => !freeB c (m.getD j .x)) (F := fun i => some (.i .i64 i)) (X := some (.i .i64 (-1))) (fun i hi => ?_) ?_ m.length 0 (by omega)
  · rw [f209q3_eq]
    rcases key with ⟨j, _, hj, h1, h2, h3⟩ | ⟨h1, h2⟩
    · exact .inr ⟨j, hj, h3, by simpa using h1, fun i hi => by simpa using h2 i (Nat.zero_le _) hi⟩
    · exact .inl ⟨h2, fun i hi => by simpa using h1 i (Nat.zero_le _) hi⟩
  · have hB := hm _ (getD_mem hi)
    have hT := hB.t2 hc.1
    try dsimp only
    rw [f209q3_l1_eq, dT (show (i : Int) < ((m.length : Nat) : Int) by omega), cond_true, if_pos (by omega), w64 (x := (i : Int) + 1) (by omega) (by omega)]
    simp only [Int.toNat_natCast, hT.ok, hT.eta, del_w hc hB, okC_nil, okC_agg, okC_i, okC_b, okC_s, okC_imm, okL_i, okL_b, okL_s, okL_sl, okS_i, okS_b, okS_s, okS_sl, okS_agg, okS_tup, okS_nil, okS_cons, cells_agg, cells_i, cells_b, cells_s, cells_imm, toI_i, toB_b, toS_s, toL_imm, nth_agg, nth_tup, put_agg, put_i, put_b, put_s, put_imm, setCells, List.getD_cons_zero, List.getD_cons_succ, bSh_b, bSh_i, bSh_s, bSh_sl, bSh_some, cond_true, cond_false, decide_true, decide_false, Int.toNat_natCast, Nat.zero_add, Nat.reduceAdd, beq_self_eq_true, Bool.and_true, Bool.true_and, if_true, Bool.false_eq_true, if_false, List.set_cons_zero, List.set_cons_succ, Bool.not_true, Bool.not_false, Bool.and_self]
  · try dsimp only
    rw [f209q3_l1_eq, dF (Int.lt_irrefl _), cond_false]

theorem impl_delw {e b c : List AV} {n : Int} (hc : Rw (T2 1048576) 1048576 c) (m : List AV) (hml : m.length ≤ 1048576) (hm : ∀ y, y ∈ m → Blk c.length y) :
    ∃ r : List AV, dno E 195 [(.sl 0 [] none), (.fn 207 [(.ip (.agg [(.imm 1 e), (.imm 1 b), (.imm 1 c), (.i .i64 n)]) 0)])] [(.live true false false 2 m)] =
      some (.sl 0 [] (some (0, (m.filter (freeB c)).length)), [.live true false false 2 r]) ∧ r.length = m.length ∧ flatVL r = true ∧ r.take (m.filter (freeB c)).length = m.filter (freeB c) := by
  have hfl : ∀ y, Blk c.length y → flatV y = true := fun y hy => by
    obtain ⟨j, _, rfl⟩ := hy; rfl
  rw [f195o2_eq]
  rcases first_w (e := e) (b := b) (n := n) hc m hml hm with ⟨h1, h2⟩ | ⟨j, hj, h1, h2, h3⟩
  · have hf : m.filter (freeB c) = m := List.filter_eq_self.2 fun y hy => by
      obtain ⟨i, hi, rfl⟩ := List.getElem_of_mem hy
      have := h2 i hi
      rwa [List.getD_eq_getElem?_getD, List.getElem?_eq_getElem hi] at this
    rw [h1, hf]
    exact ⟨m, rfl, rfl, flatVL_of fun y hy => hfl y (hm y hy), by simp⟩
  · rw [h1]
    simp only [bSh_i, toI_i]
    have hj1 : ¬ (j : Int) = -1 := by omega
    have hjn : (m.take j).filter (freeB c) = m.take j := List.filter_eq_self.2 fun y hy => by
      obtain ⟨i, hi, rfl⟩ := List.getElem_of_mem hy
      have hij : i < j := by rw [List.length_take] at hi; omega
      have := h3 i hij
      rw [List.getD_eq_getElem?_getD, List.getElem?_eq_getElem (by omega)] at this
      rw [List.getElem_take]; exact this
    simp only [hj1, decide_false, cond_false]
    rw [w64 (x := (j : Int) + 1) (by omega) (by omega), show ((j : Int) + 1) = ((j + 1 : Nat) : Int) by omega]
    let W : Nat → List AV → List AV := fun k r => r.take k ++ List.replicate (r.length - k) (.i .i64 (0 : Int)) ++ r.drop (k + (r.length - k))
    have key : ∃ r', f195o2_l1 (.agg [(.imm 1 e), (.imm 1 b), (.imm 1 c), (.i .i64 n)]) (j : Int) ((j + 1 : Nat) : Int) m = some (.sl 0 [] (some (0, (m.filter (freeB c)).length)), [.live true false false 2 (W (m.filter (freeB c)).length r')]) ∧ r'.length = m.length ∧ r'.take (m.filter (freeB c)).length = m.filter (freeB c) := by
      refine del_loop (L := fun k i r => f195o2_l1 (.agg [(.imm 1 e), (.imm 1 b), (.imm 1 c), (.i .i64 n)]) k i r) (m := m) (p := freeB c) (T := Blk c.length) (F := fun k r => some (.sl 0 [] (some (0, k)), [.live true false false 2 (W k r)])) hm (fun i k r hi hk hl hg hr => ?_) (fun k r hk hl => ?_) (m.length - (j + 1)) (j + 1) j m (by omega) (by omega) rfl hm ?_ rfl
      · have hB := hm _ (getD_mem hi)
        have hT := hB.t2 hc.1
        have hT' := (hr _ (getD_mem (show k < r.length by omega))).t2 hc.1
        try dsimp only
        rw [f195o2_l1_eq, dT (show (i : Int) < ((r.length : Nat) : Int) by omega), cond_true, if_pos (by omega)]
        simp only [Nat.zero_add, Int.toNat_natCast, hg, hT.ok, hT.eta, del_w hc hB, okC_nil, okC_agg, okC_i, okC_b, okC_s, okC_imm, okL_i, okL_b, okL_s, okL_sl, okS_i, okS_b, okS_s, okS_sl, okS_agg, okS_tup, okS_nil, okS_cons, cells_agg, cells_i, cells_b, cells_s, cells_imm, toI_i, toB_b, toS_s, toL_imm, nth_agg, nth_tup, put_agg, put_i, put_b, put_s, put_imm, setCells, List.getD_cons_zero, List.getD_cons_succ, bSh_b, bSh_i, bSh_s, bSh_sl, bSh_some, cond_true, cond_false, decide_true, decide_false, Int.toNat_natCast, Nat.zero_add, Nat.reduceAdd, beq_self_eq_true, Bool.and_true, Bool.true_and, if_true, Bool.false_eq_true, if_false, List.set_cons_zero, List.set_cons_succ, Bool.not_true, Bool.not_false, Bool.and_self, f195o2_j2_eq, t2_put hT']
        rw [w64 (x := (k : Int) + 1) (by omega) (by omega), if_pos (by omega), w64 (x := (i : Int) + 1) (by omega) (by omega)]
        cases freeB c (m.getD i .x) <;> simp
      · try dsimp only
        rw [f195o2_l1_eq, dF (show ¬ ((m.length : Nat) : Int) < ((r.length : Nat) : Int) by omega), cond_false, if_pos (by omega)]
        simp only [Int.toNat_natCast]
        rw [if_pos (by simp only [List.length_append, List.length_take, List.length_replicate, List.length_drop]; omega)]
        rfl
      · rw [take_getD hj, List.filter_append, hjn, List.filter_cons, if_neg (by rw [h2]; decide)]
        simp
    obtain ⟨r', g1, g2, g3⟩ := key
    have hWl : (W (m.filter (freeB c)).length r').length = m.length := by
      have : (m.filter (freeB c)).length ≤ m.length := List.length_filter_le _ _
      simp only [W, List.length_append, List.length_take, List.length_replicate, List.length_drop]
      omega
    have hle : (m.filter (freeB c)).length ≤ r'.length := by rw [g2]; exact List.length_filter_le _ _
    refine ⟨W (m.filter (freeB c)).length r', g1, hWl, flatVL_of fun y hy => ?_, ?_⟩
    · simp only [W, List.mem_append] at hy
      rcases hy with (hy | hy) | hy
      · rw [g3] at hy
        exact hfl y (hm y (List.mem_filter.1 hy).1)
      · rw [(List.mem_replicate.1 hy).2]; rfl
      · rw [List.drop_eq_nil_of_le (by omega)] at hy; cases hy
    · simp only [W, List.append_assoc]
      rw [List.take_append_of_le_length (by rw [List.length_take]; omega), List.take_take, Nat.min_self, g3]

theorem impl_free {e b c : List AV} (n : Int) (he : Rw (T2 1048576) 1048576 e) (hb : Rw (T4 1048576) 1048576 b) (hc : Rw (T2 1048576) 1048576 c) (hbl : b.length = e.length) (hcl : c.length = e.length) :
    ∃ r : List AV, dno E 160 [(.agg [(.imm 1 e), (.imm 1 b), (.imm 1 c), (.i .i64 n)])] [] = some (.sl 0 [] (some (0, (freeL e b c).length)), [.live true false false 2 r]) ∧ flatVL r = true ∧ r.take (freeL e b c).length = freeL e b c := by
  have hml : ((idxL e.length).filter (goodB b)).length ≤ 1048576 := Nat.le_trans (List.length_filter_le _ _) (by rw [idxL_length]; exact he.1)
  have hm : ∀ y, y ∈ (idxL e.length).filter (goodB b) → Blk c.length y := fun y hy => by rw [hcl]; exact idxL_blk _ y (List.mem_filter.1 hy).1
  obtain ⟨r, h1, h2, h3, h4⟩ := impl_delw (e := e) (b := b) (n := n) hc _ hml hm
  have hfg : flatVL ((idxL e.length).filter (goodB b)) = true := flatVL_of fun y hy => by
    obtain ⟨j, _, rfl⟩ := hm y hy; rfl
  refine ⟨r, ?_, h3, h4⟩
  rw [f160o1_eq, impl_good he.1 hb hbl]
  simp only [bOwn_some, bOwnF_some, bOwnS_some, bOwnFS_some, okRs_nil, okRs_cons, okR_row, okR_same, okR_var, okR_gone, okS_so, okS_pr, okLens_nil, okLens_same, okLens_row, okLens_var, row_live, flatR_live, flatL_nil, flatL_cons, flat_i, flat_b, flat_s, flat_sl, flat_agg, flat_tup, List.all_cons, List.all_nil, List.length_cons, List.length_nil, Nat.reduceLeDiff, Nat.le_refl, decide_true, Bool.and_self, mkL_length, List.headD_cons, okC_nil, okC_agg, okC_i, okC_b, okC_s, okC_imm, okL_i, okL_b, okL_s, okL_sl, okS_i, okS_b, okS_s, okS_sl, okS_agg, okS_tup, okS_nil, okS_cons, cells_agg, cells_i, cells_b, cells_s, cells_imm, toI_i, toB_b, toS_s, toL_imm, nth_agg, nth_tup, put_agg, put_i, put_b, put_s, put_imm, setCells, List.getD_cons_zero, List.getD_cons_succ, bSh_b, bSh_i, bSh_s, bSh_sl, bSh_some, cond_true, cond_false, decide_true, decide_false, Int.toNat_natCast, Nat.zero_add, Nat.reduceAdd, beq_self_eq_true, Bool.and_true, Bool.true_and, if_true, Bool.false_eq_true, if_false, List.set_cons_zero, List.set_cons_succ, Bool.not_true, Bool.not_false, Bool.and_self, h1, h2, h3]
  rfl

/-! The best block. -/
theorem pick {e l : List AV} (he : Rw (T2 1048576) 1048576 e) (hl1 : l.length ≤ 1048576) (hl : ∀ y, y ∈ l → Blk e.length y) (t : Bool) :
    ∃ a : Int, (a = -1 ∨ ∃ j : Nat, a = j ∧ .i .i64 a ∈ l) ∧ den E 102 [(.imm 1 e), (.imm 1 l), (.b t)] [] = some (.i .i64 a) ∧ den E 159 [(.imm 1 e), (.imm 1 l), (.b t)] [] = some (.i .i64 a) := by
  have hel := he.1
  have hT2 : ∀ {i : Nat}, i < l.length → T2 1048576 (l.getD i .x) := fun hi => (hl _ (getD_mem hi)).t2 hel
  have hin : ∀ {i : Nat}, i < l.length → ∃ j : Nat, j < e.length ∧ l.getD i .x = .i .i64 (j : Int) := fun hi => hl _ (getD_mem hi)
  have hall : den E 81 [(.imm 1 l), (.i .i64 0), (.i .i64 (IntKind.i64.wrap (((e.length : Nat) : Int) - 1)))] [] = some (.b true) := by
    rw [w64 (by omega) (by omega), f81_eq, f163q1_eq, f209q1_eq]
    have := loop_to (L := fun i => f209q1_l1 l (.i .i64 0) (.i .i64 (((e.length : Nat) : Int) - 1)) ((l.length : Nat) : Int) i) (n := l.length) (X := some (.i .i64 (-1))) (fun i hi => ?_) ?_
    · rw [show f209q1_l1 l (.i .i64 0) (.i .i64 (((e.length : Nat) : Int) - 1)) ((l.length : Nat) : Int) 0 = _ from this]
      simp only [okC_nil, okC_agg, okC_i, okC_b, okC_s, okC_imm, okL_i, okL_b, okL_s, okL_sl, okS_i, okS_b, okS_s, okS_sl, okS_agg, okS_tup, okS_nil, okS_cons, cells_agg, cells_i, cells_b, cells_s, cells_imm, toI_i, toB_b, toS_s, toL_imm, nth_agg, nth_tup, put_agg, put_i, put_b, put_s, put_imm, setCells, List.getD_cons_zero, List.getD_cons_succ, bSh_b, bSh_i, bSh_s, bSh_sl, bSh_some, cond_true, cond_false, decide_true, decide_false, Int.toNat_natCast, Nat.zero_add, Nat.reduceAdd, beq_self_eq_true, Bool.and_true, Bool.true_and, if_true, Bool.false_eq_true, if_false, List.set_cons_zero, List.set_cons_succ, Bool.not_true, Bool.not_false, Bool.and_self]
      rfl
    · have hT := hT2 hi
      obtain ⟨j, hj, hlj⟩ := hin hi
      have g1 : (0 : Int) ≤ (j : Int) := by omega
      have g2 : (j : Int) ≤ ((e.length : Nat) : Int) - 1 := by omega
      try dsimp only
      rw [f209q1_l1_eq, dT (show (i : Int) < ((l.length : Nat) : Int) by omega), cond_true, if_pos (by omega), w64 (x := (i : Int) + 1) (by omega) (by omega)]
      simp only [Int.toNat_natCast, hT.ok, hlj, f164q1_eq, in72, g1, g2, okC_nil, okC_agg, okC_i, okC_b, okC_s, okC_imm, okL_i, okL_b, okL_s, okL_sl, okS_i, okS_b, okS_s, okS_sl, okS_agg, okS_tup, okS_nil, okS_cons, cells_agg, cells_i, cells_b, cells_s, cells_imm, toI_i, toB_b, toS_s, toL_imm, nth_agg, nth_tup, put_agg, put_i, put_b, put_s, put_imm, setCells, List.getD_cons_zero, List.getD_cons_succ, bSh_b, bSh_i, bSh_s, bSh_sl, bSh_some, cond_true, cond_false, decide_true, decide_false, Int.toNat_natCast, Nat.zero_add, Nat.reduceAdd, beq_self_eq_true, Bool.and_true, Bool.true_and, if_true, Bool.false_eq_true, if_false, List.set_cons_zero, List.set_cons_succ, Bool.not_true, Bool.not_false, Bool.and_self]
    · try dsimp only
      rw [f209q1_l1_eq, dF (Int.lt_irrefl _), cond_false]
  have hE : ∀ {j : Nat}, j < e.length → okCells false (e.getD j .x) 0 [(.i .i64)] = true := fun hj => (he.at hj).ok
  rw [f102_eq, f159_eq, hall]
  cases t with
  | true =>
    simp only [okC_nil, okC_agg, okC_i, okC_b, okC_s, okC_imm, okL_i, okL_b, okL_s, okL_sl, okS_i, okS_b, okS_s, okS_sl, okS_agg, okS_tup, okS_nil, okS_cons, cells_agg, cells_i, cells_b, cells_s, cells_imm, toI_i, toB_b, toS_s, toL_imm, nth_agg, nth_tup, put_agg, put_i, put_b, put_s, put_imm, setCells, List.getD_cons_zero, List.getD_cons_succ, bSh_b, bSh_i, bSh_s, bSh_sl, bSh_some, cond_true, cond_false, decide_true, decide_false, Int.toNat_natCast, Nat.zero_add, Nat.reduceAdd, beq_self_eq_true, Bool.and_true, Bool.true_and, if_true, Bool.false_eq_true, if_false, List.set_cons_zero, List.set_cons_succ, Bool.not_true, Bool.not_false, Bool.and_self, f82q2_eq]
    have key := same_loop_inv (L := fun a i => f102_l1 e l true a i) (L' := fun a i => f82q2_l1 e a l ((l.length : Nat) : Int) i) (n := l.length) (I := fun a => a = -1 ∨ ∃ j : Nat, a = j ∧ .i .i64 a ∈ l) (F := fun a => some (.i .i64 a)) (F' := fun a => some (.i .i64 a)) (fun a i hi ha => ?_) (fun a => ?_) l.length 0 (-1) (by omega) (.inl rfl)
    · obtain ⟨a, ha, h1, h2⟩ := key
      refine ⟨a, ha, h1, ?_⟩
      rw [show f82q2_l1 e (-1) l ((l.length : Nat) : Int) 0 = _ from h2]
      simp only [okC_nil, okC_agg, okC_i, okC_b, okC_s, okC_imm, okL_i, okL_b, okL_s, okL_sl, okS_i, okS_b, okS_s, okS_sl, okS_agg, okS_tup, okS_nil, okS_cons, cells_agg, cells_i, cells_b, cells_s, cells_imm, toI_i, toB_b, toS_s, toL_imm, nth_agg, nth_tup, put_agg, put_i, put_b, put_s, put_imm, setCells, List.getD_cons_zero, List.getD_cons_succ, bSh_b, bSh_i, bSh_s, bSh_sl, bSh_some, cond_true, cond_false, decide_true, decide_false, Int.toNat_natCast, Nat.zero_add, Nat.reduceAdd, beq_self_eq_true, Bool.and_true, Bool.true_and, if_true, Bool.false_eq_true, if_false, List.set_cons_zero, List.set_cons_succ, Bool.not_true, Bool.not_false, Bool.and_self]
    · obtain ⟨j, hj, hlj⟩ := hin hi
      have hmem : AV.i .i64 (j : Int) ∈ l := by rw [← hlj]; exact getD_mem hi
      have g1 : (0 : Int) ≤ (j : Int) := by omega
      have g2 : (j : Int) ≤ ((e.length : Nat) : Int) - 1 := by omega
      have g3 : (j : Int) < ((e.length : Nat) : Int) := by omega
      have hT := hT2 hi
      try dsimp only
      have g6 : (0 : Int) ≤ (i : Int) := by omega
      have g7 : (i : Int) < ((l.length : Nat) : Int) := by omega
      rw [f102_l1_eq, f82q2_l1_eq, dT (show (i : Int) < ((l.length : Nat) : Int) by omega), cond_true, cond_true]
      rw [w64 (x := ((e.length : Nat) : Int) - 1) (by omega) (by omega)]
      simp only [Int.toNat_natCast, hlj, f102_j2_eq, f82q2_j2_eq, f102_j3_eq, in90, g1, g2, g3, g6, g7, hE hj, okC_nil, okC_agg, okC_i, okC_b, okC_s, okC_imm, okL_i, okL_b, okL_s, okL_sl, okS_i, okS_b, okS_s, okS_sl, okS_agg, okS_tup, okS_nil, okS_cons, cells_agg, cells_i, cells_b, cells_s, cells_imm, toI_i, toB_b, toS_s, toL_imm, nth_agg, nth_tup, put_agg, put_i, put_b, put_s, put_imm, setCells, List.getD_cons_zero, List.getD_cons_succ, bSh_b, bSh_i, bSh_s, bSh_sl, bSh_some, cond_true, cond_false, decide_true, decide_false, Int.toNat_natCast, Nat.zero_add, Nat.reduceAdd, beq_self_eq_true, Bool.and_true, Bool.true_and, if_true, Bool.false_eq_true, if_false, List.set_cons_zero, List.set_cons_succ, Bool.not_true, Bool.not_false, Bool.and_self, and_self, f84_eq]
      rw [w64 (x := (i : Int) + 1) (by omega) (by omega)]
      rcases ha with rfl | ⟨k, rfl, hk⟩
      · refine ⟨(j : Int), .inr ⟨j, rfl, hmem⟩, ?_, ?_⟩ <;> simp only [show (-1 : Int) < 0 from by decide, decide_true] <;> rfl
      · obtain ⟨k', hk', he'⟩ := hl _ hk
        have hkk : k < e.length := by
          simp only [AV.i.injEq] at he'
          omega
        have g4 : ¬ (k : Int) < 0 := by omega
        have g5 : (0 : Int) ≤ (k : Int) ∧ (k : Int) < ((e.length : Nat) : Int) := by omega
        simp only [g4, g5, and_self, hE hkk, okC_nil, okC_agg, okC_i, okC_b, okC_s, okC_imm, okL_i, okL_b, okL_s, okL_sl, okS_i, okS_b, okS_s, okS_sl, okS_agg, okS_tup, okS_nil, okS_cons, cells_agg, cells_i, cells_b, cells_s, cells_imm, toI_i, toB_b, toS_s, toL_imm, nth_agg, nth_tup, put_agg, put_i, put_b, put_s, put_imm, setCells, List.getD_cons_zero, List.getD_cons_succ, bSh_b, bSh_i, bSh_s, bSh_sl, bSh_some, cond_true, cond_false, decide_true, decide_false, Int.toNat_natCast, Nat.zero_add, Nat.reduceAdd, beq_self_eq_true, Bool.and_true, Bool.true_and, if_true, Bool.false_eq_true, if_false, List.set_cons_zero, List.set_cons_succ, Bool.not_true, Bool.not_false, Bool.and_self]
        by_cases q1 : ((e.getD j .x).cells.getD 0 .x).toI < ((e.getD k .x).cells.getD 0 .x).toI
        · exact ⟨(j : Int), .inr ⟨j, rfl, hmem⟩, by simp only [q1, decide_true]; rfl, by simp only [q1, decide_true]; rfl⟩
        · by_cases q2 : ((e.getD j .x).cells.getD 0 .x).toI = ((e.getD k .x).cells.getD 0 .x).toI
          · by_cases q3 : (j : Int) < (k : Int)
            · exact ⟨(j : Int), .inr ⟨j, rfl, hmem⟩, by simp only [q1, q2, q3, decide_true, decide_false, Int.lt_irrefl]; rfl, by simp only [q1, q2, q3, decide_true, decide_false, Int.lt_irrefl]; rfl⟩
            · exact ⟨(k : Int), .inr ⟨k, rfl, hk⟩, by simp only [q1, q2, q3, decide_true, decide_false, Int.lt_irrefl]; rfl, by simp only [q1, q2, q3, decide_true, decide_false, Int.lt_irrefl]; rfl⟩
          · exact ⟨(k : Int), .inr ⟨k, rfl, hk⟩, by simp only [q1, q2, decide_false]; rfl, by simp only [q1, q2, decide_false]; rfl⟩
    · try dsimp only
      rw [f102_l1_eq, f82q2_l1_eq, dF (Int.lt_irrefl _), cond_false, cond_false]
      exact ⟨rfl, rfl⟩
  | false =>
    simp only [okC_nil, okC_agg, okC_i, okC_b, okC_s, okC_imm, okL_i, okL_b, okL_s, okL_sl, okS_i, okS_b, okS_s, okS_sl, okS_agg, okS_tup, okS_nil, okS_cons, cells_agg, cells_i, cells_b, cells_s, cells_imm, toI_i, toB_b, toS_s, toL_imm, nth_agg, nth_tup, put_agg, put_i, put_b, put_s, put_imm, setCells, List.getD_cons_zero, List.getD_cons_succ, bSh_b, bSh_i, bSh_s, bSh_sl, bSh_some, cond_true, cond_false, decide_true, decide_false, Int.toNat_natCast, Nat.zero_add, Nat.reduceAdd, beq_self_eq_true, Bool.and_true, Bool.true_and, if_true, Bool.false_eq_true, if_false, List.set_cons_zero, List.set_cons_succ, Bool.not_true, Bool.not_false, Bool.and_self, f82q1_eq]
    have key := same_loop_inv (L := fun a i => f102_l1 e l false a i) (L' := fun a i => f82q1_l1 e a l ((l.length : Nat) : Int) i) (n := l.length) (I := fun a => a = -1 ∨ ∃ j : Nat, a = j ∧ .i .i64 a ∈ l) (F := fun a => some (.i .i64 a)) (F' := fun a => some (.i .i64 a)) (fun a i hi ha => ?_) (fun a => ?_) l.length 0 (-1) (by omega) (.inl rfl)
    · obtain ⟨a, ha, h1, h2⟩ := key
      refine ⟨a, ha, h1, ?_⟩
      rw [show f82q1_l1 e (-1) l ((l.length : Nat) : Int) 0 = _ from h2]
      simp only [okC_nil, okC_agg, okC_i, okC_b, okC_s, okC_imm, okL_i, okL_b, okL_s, okL_sl, okS_i, okS_b, okS_s, okS_sl, okS_agg, okS_tup, okS_nil, okS_cons, cells_agg, cells_i, cells_b, cells_s, cells_imm, toI_i, toB_b, toS_s, toL_imm, nth_agg, nth_tup, put_agg, put_i, put_b, put_s, put_imm, setCells, List.getD_cons_zero, List.getD_cons_succ, bSh_b, bSh_i, bSh_s, bSh_sl, bSh_some, cond_true, cond_false, decide_true, decide_false, Int.toNat_natCast, Nat.zero_add, Nat.reduceAdd, beq_self_eq_true, Bool.and_true, Bool.true_and, if_true, Bool.false_eq_true, if_false, List.set_cons_zero, List.set_cons_succ, Bool.not_true, Bool.not_false, Bool.and_self]
    · obtain ⟨j, hj, hlj⟩ := hin hi
      have hmem : AV.i .i64 (j : Int) ∈ l := by rw [← hlj]; exact getD_mem hi
      have g1 : (0 : Int) ≤ (j : Int) := by omega
      have g2 : (j : Int) ≤ ((e.length : Nat) : Int) - 1 := by omega
      have g3 : (j : Int) < ((e.length : Nat) : Int) := by omega
      have hT := hT2 hi
      try dsimp only
      have g6 : (0 : Int) ≤ (i : Int) := by omega
      have g7 : (i : Int) < ((l.length : Nat) : Int) := by omega
      rw [f102_l1_eq, f82q1_l1_eq, dT (show (i : Int) < ((l.length : Nat) : Int) by omega), cond_true, cond_true]
      rw [w64 (x := ((e.length : Nat) : Int) - 1) (by omega) (by omega)]
      simp only [Int.toNat_natCast, hlj, f102_j2_eq, f82q1_j2_eq, f102_j3_eq, in90, g1, g2, g3, g6, g7, hE hj, okC_nil, okC_agg, okC_i, okC_b, okC_s, okC_imm, okL_i, okL_b, okL_s, okL_sl, okS_i, okS_b, okS_s, okS_sl, okS_agg, okS_tup, okS_nil, okS_cons, cells_agg, cells_i, cells_b, cells_s, cells_imm, toI_i, toB_b, toS_s, toL_imm, nth_agg, nth_tup, put_agg, put_i, put_b, put_s, put_imm, setCells, List.getD_cons_zero, List.getD_cons_succ, bSh_b, bSh_i, bSh_s, bSh_sl, bSh_some, cond_true, cond_false, decide_true, decide_false, Int.toNat_natCast, Nat.zero_add, Nat.reduceAdd, beq_self_eq_true, Bool.and_true, Bool.true_and, if_true, Bool.false_eq_true, if_false, List.set_cons_zero, List.set_cons_succ, Bool.not_true, Bool.not_false, Bool.and_self, and_self, f83_eq]
      rw [w64 (x := (i : Int) + 1) (by omega) (by omega)]
      rcases ha with rfl | ⟨k, rfl, hk⟩
      · refine ⟨(j : Int), .inr ⟨j, rfl, hmem⟩, ?_, ?_⟩ <;> simp only [show (-1 : Int) < 0 from by decide, decide_true] <;> rfl
      · obtain ⟨k', hk', he'⟩ := hl _ hk
        have hkk : k < e.length := by
          simp only [AV.i.injEq] at he'
          omega
        have g4 : ¬ (k : Int) < 0 := by omega
        have g5 : (0 : Int) ≤ (k : Int) ∧ (k : Int) < ((e.length : Nat) : Int) := by omega
        simp only [g4, g5, and_self, hE hkk, okC_nil, okC_agg, okC_i, okC_b, okC_s, okC_imm, okL_i, okL_b, okL_s, okL_sl, okS_i, okS_b, okS_s, okS_sl, okS_agg, okS_tup, okS_nil, okS_cons, cells_agg, cells_i, cells_b, cells_s, cells_imm, toI_i, toB_b, toS_s, toL_imm, nth_agg, nth_tup, put_agg, put_i, put_b, put_s, put_imm, setCells, List.getD_cons_zero, List.getD_cons_succ, bSh_b, bSh_i, bSh_s, bSh_sl, bSh_some, cond_true, cond_false, decide_true, decide_false, Int.toNat_natCast, Nat.zero_add, Nat.reduceAdd, beq_self_eq_true, Bool.and_true, Bool.true_and, if_true, Bool.false_eq_true, if_false, List.set_cons_zero, List.set_cons_succ, Bool.not_true, Bool.not_false, Bool.and_self]
        by_cases q1 : ((e.getD k .x).cells.getD 0 .x).toI < ((e.getD j .x).cells.getD 0 .x).toI
        · exact ⟨(j : Int), .inr ⟨j, rfl, hmem⟩, by simp only [q1, decide_true]; rfl, by simp only [q1, decide_true]; rfl⟩
        · by_cases q2 : ((e.getD j .x).cells.getD 0 .x).toI = ((e.getD k .x).cells.getD 0 .x).toI
          · by_cases q3 : (j : Int) < (k : Int)
            · exact ⟨(j : Int), .inr ⟨j, rfl, hmem⟩, by simp only [q1, q2, q3, decide_true, decide_false, Int.lt_irrefl]; rfl, by simp only [q1, q2, q3, decide_true, decide_false, Int.lt_irrefl]; rfl⟩
            · exact ⟨(k : Int), .inr ⟨k, rfl, hk⟩, by simp only [q1, q2, q3, decide_true, decide_false, Int.lt_irrefl]; rfl, by simp only [q1, q2, q3, decide_true, decide_false, Int.lt_irrefl]; rfl⟩
          · exact ⟨(k : Int), .inr ⟨k, rfl, hk⟩, by simp only [q1, q2, decide_false]; rfl, by simp only [q1, q2, decide_false]; rfl⟩
    · try dsimp only
      rw [f102_l1_eq, f82q1_l1_eq, dF (Int.lt_irrefl _), cond_false, cond_false]
      exact ⟨rfl, rfl⟩


theorem freeL_blk {e b c : List AV} : ∀ y, y ∈ freeL e b c → Blk e.length y := fun y hy => idxL_blk _ y (List.mem_filter.1 (List.mem_filter.1 hy).1).1
theorem freeL_length (e b c : List AV) : (freeL e b c).length ≤ e.length := Nat.le_trans (List.length_filter_le _ _) (Nat.le_trans (List.length_filter_le _ _) (by rw [idxL_length]; exact Nat.le_refl _))
theorem t2_set {l : List AV} (h : Rw (T2 1048576) 1048576 l) (i : Nat) (x : Int) (hx : W64 x) : Rw (T2 1048576) 1048576 (l.set i (.i .i64 x)) := by
  refine ⟨by rw [List.length_set]; exact h.1, fun y hy => ?_⟩
  rcases List.mem_or_eq_of_mem_set hy with h1 | h1
  · exact h.2 y h1
  · rw [h1]; exact ⟨_, rfl, hx, trivial⟩
theorem t2_nil {B : Nat} : Rw (T2 B) 1048576 [] := ⟨by simp, fun y hy => by cases hy⟩
theorem t4_nil {B : Nat} : Rw (T4 B) 1048576 [] := ⟨by simp, fun y hy => by cases hy⟩
theorem t4_set {l : List AV} (h : Rw (T4 1048576) 1048576 l) (i : Nat) (x : Bool) : Rw (T4 1048576) 1048576 (l.set i (.b x)) := by
  refine ⟨by rw [List.length_set]; exact h.1, fun y hy => ?_⟩
  rcases List.mem_or_eq_of_mem_set hy with h1 | h1
  · exact h.2 y h1
  · rw [h1]; exact ⟨_, rfl, trivial⟩


/-- New memory. -/
theorem spec_own {e b c : List AV} (n : Int) (he : Rw (T2 1048576) 1048576 e) (hb : Rw (T4 1048576) 1048576 b) (hc : Rw (T2 1048576) 1048576 c) : dno E 104 [(.agg [(.imm 1 e), (.imm 1 b), (.imm 1 c), (.i .i64 n)])] [] = some (.agg [(.sl 0 [] none), (.sl 1 [] none), (.sl 2 [] none), (.i .i64 n)], [(.live true false false 2 e), (.live true false false 4 b), (.live true false false 2 c)]) := by
  have hel := he.1
  have hbl1 := hb.1
  have hcl1 := hc.1
  rw [f104o1_eq, f166o1_eq, f166o1_eq, if_pos (by simp only [room]; omega), if_pos (show c.length * 8 ≤ room by simp only [room]; omega)]
  simp only [bOwn_some, bOwnF_some, bOwnS_some, bOwnFS_some, okRs_nil, okRs_cons, okR_row, okR_same, okR_var, okR_gone, okS_so, okS_pr, okLens_nil, okLens_same, okLens_row, okLens_var, row_live, flatR_live, flatL_nil, flatL_cons, flat_i, flat_b, flat_s, flat_sl, flat_agg, flat_tup, List.all_cons, List.all_nil, List.length_cons, List.length_nil, Nat.reduceLeDiff, Nat.le_refl, decide_true, Bool.and_self, mkL_length, List.headD_cons, okC_nil, okC_agg, okC_i, okC_b, okC_s, okC_imm, okL_i, okL_b, okL_s, okL_sl, okS_i, okS_b, okS_s, okS_sl, okS_agg, okS_tup, okS_nil, okS_cons, cells_agg, cells_i, cells_b, cells_s, cells_imm, toI_i, toB_b, toS_s, toL_imm, nth_agg, nth_tup, put_agg, put_i, put_b, put_s, put_imm, setCells, List.getD_cons_zero, List.getD_cons_succ, bSh_b, bSh_i, bSh_s, bSh_sl, bSh_some, cond_true, cond_false, decide_true, decide_false, Int.toNat_natCast, Nat.zero_add, Nat.reduceAdd, beq_self_eq_true, Bool.and_true, Bool.true_and, if_true, Bool.false_eq_true, if_false, List.set_cons_zero, List.set_cons_succ, Bool.not_true, Bool.not_false, Bool.and_self]
  rw [if_pos (by simp only [room]; omega)]
theorem impl_clone {e b c : List AV} (n : Int) (he : Rw (T2 1048576) 1048576 e) (hb : Rw (T4 1048576) 1048576 b) (hc : Rw (T2 1048576) 1048576 c) : dno E 74 [(.agg [(.imm 1 e), (.imm 1 b), (.imm 1 c), (.i .i64 n)])] [] = some (.agg [(.sl 0 [] none), (.sl 1 [] none), (.sl 2 [] none), (.i .i64 n)], [(.live true false false 2 e), (.live true false false 4 b), (.live true false false 2 c)]) := by
  have hel := he.1
  have hbl1 := hb.1
  have hcl1 := hc.1
  rw [f74o1_eq, f134_eq, f134_eq, f158_eq, if_pos ⟨rfl, by simp only [room]; omega⟩, if_pos ⟨rfl, by simp only [room]; omega⟩, if_pos ⟨rfl, by simp only [room]; omega⟩]
  simp only [bOwn_some, bOwnF_some, bOwnS_some, bOwnFS_some, okRs_nil, okRs_cons, okR_row, okR_same, okR_var, okR_gone, okS_so, okS_pr, okLens_nil, okLens_same, okLens_row, okLens_var, row_live, flatR_live, flatL_nil, flatL_cons, flat_i, flat_b, flat_s, flat_sl, flat_agg, flat_tup, List.all_cons, List.all_nil, List.length_cons, List.length_nil, Nat.reduceLeDiff, Nat.le_refl, decide_true, Bool.and_self, mkL_length, List.headD_cons, okC_nil, okC_agg, okC_i, okC_b, okC_s, okC_imm, okL_i, okL_b, okL_s, okL_sl, okS_i, okS_b, okS_s, okS_sl, okS_agg, okS_tup, okS_nil, okS_cons, cells_agg, cells_i, cells_b, cells_s, cells_imm, toI_i, toB_b, toS_s, toL_imm, nth_agg, nth_tup, put_agg, put_i, put_b, put_s, put_imm, setCells, List.getD_cons_zero, List.getD_cons_succ, bSh_b, bSh_i, bSh_s, bSh_sl, bSh_some, cond_true, cond_false, decide_true, decide_false, Int.toNat_natCast, Nat.zero_add, Nat.reduceAdd, beq_self_eq_true, Bool.and_true, Bool.true_and, if_true, Bool.false_eq_true, if_false, List.set_cons_zero, List.set_cons_succ, Bool.not_true, Bool.not_false, Bool.and_self]
theorem okWear_len {e b c : List AV} {n : Int} (h : okWear e b c n = true) : 1 ≤ e.length ∧ e.length ≤ 36 ∧ b.length = e.length ∧ c.length = e.length ∧ (1 ≤ n ∧ n ≤ 100) ∧ ∀ i, i < e.length → (0 ≤ iA e i ∧ iA e i ≤ 1000) ∧ 0 ≤ iA c i ∧ iA c i ≤ 2 := by
  simp only [okWear, Bool.and_eq_true, decide_eq_true_eq, List.all_eq_true] at h
  obtain ⟨⟨h1, h2⟩, h3, h4, h5, h6⟩ := h
  refine ⟨by omega, by omega, by omega, by omega, h5, fun i hi => ?_⟩
  have := h6 i (by simp [List.mem_range'_1, hi])
  simp only [okW, Bool.and_eq_true, decide_eq_true_eq] at this
  exact ⟨this.1, this.2.1⟩


/-! A block is erased. -/
theorem spec_erase {e c : List AV} (n : Int) (he : Rw (T2 1048576) 1048576 e) (hc : Rw (T2 1048576) 1048576 c) (hcl : c.length = e.length) {i : Nat} (hi : i < e.length) (b : List AV) (h0 : 0 ≤ ((e.getD i .x).cells.getD 0 .x).toI) (h1 : ((e.getD i .x).cells.getD 0 .x).toI ≤ 1000) :
    dno E 105 [(.agg [(.sl 0 [] none), (.sl 1 [] none), (.sl 2 [] none), (.i .i64 n)]), (.i .i64 (i : Int))] [(.live true false false 2 e), (.live true false false 4 b), (.live true false false 2 c)] =
      some (.agg [(.sl 0 [] none), (.sl 1 [] none), (.sl 2 [] none), (.i .i64 n)], [(.live true false false 2 (e.set i (.i .i64 (((e.getD i .x).cells.getD 0 .x).toI + 1)))), (.live true false false 4 b), (.live true false false 2 (c.set i (.i .i64 0)))]) := by
  have q1 := he.at hi
  have q2 := hc.at (i := i) (by omega)
  have g1 : (0 : Int) ≤ (i : Int) := by omega
  have g2 : (i : Int) < ((e.length : Nat) : Int) := by omega
  have g3 : (i : Int) < ((c.length : Nat) : Int) := by omega
  rw [f105o1_eq]
  simp only [Int.toNat_natCast, Nat.zero_add, g1, g2, g3, and_self, q1.ok, t2_put q1, t2_put q2, if_true]
  rw [w64 (by omega) (by omega)]
theorem impl_clear {e c : List AV} (n : Int) (he : Rw (T2 1048576) 1048576 e) (hc : Rw (T2 1048576) 1048576 c) (hcl : c.length = e.length) {i : Nat} (hi : i < e.length) (b : List AV) (h0 : 0 ≤ ((e.getD i .x).cells.getD 0 .x).toI) (h1 : ((e.getD i .x).cells.getD 0 .x).toI ≤ 1000) :
    dno E 76 [(.pt 0 [] 0 0), (.i .i64 (i : Int))] [(.live false true false 33 [(.agg [(.sl 1 [] none), (.sl 2 [] none), (.sl 3 [] none), (.i .i64 n)])]), (.live true false false 2 e), (.live true false false 4 b), (.live true false false 2 c)] =
      some (.tup [], [(.live false true false 33 [(.agg [(.sl 1 [] none), (.sl 2 [] none), (.sl 3 [] none), (.i .i64 n)])]), (.live true false false 2 (e.set i (.i .i64 (((e.getD i .x).cells.getD 0 .x).toI + 1)))), (.live true false false 4 b), (.live true false false 2 (c.set i (.i .i64 0)))]) := by
  have q1 := he.at hi
  have q2 := hc.at (i := i) (by omega)
  have g1 : (0 : Int) ≤ (i : Int) := by omega
  have g2 : (i : Int) < ((e.length : Nat) : Int) := by omega
  have g3 : (i : Int) < ((c.length : Nat) : Int) := by omega
  rw [f76o1_eq]
  simp only [Int.toNat_natCast, Nat.zero_add, g1, g2, g3, and_self, q1.ok, t2_put q1, t2_put q2, if_true]
  rw [w64 (by omega) (by omega)]


/-- A loop that folds. -/
theorem fold_loop {R A : Type} {L : A → Int → Option R} {m : List AV} {f : A → AV → A} {I : A → Prop} {F : A → Option R}
    (step : ∀ (a : A) (i : Nat), i < m.length → I a → L a i = L (f a (m.getD i .x)) ((i : Int) + 1) ∧ I (f a (m.getD i .x))) (last : ∀ a, L a m.length = F a) :
    ∀ (k i : Nat) (a : A), i + k = m.length → I a → L a i = F ((m.drop i).foldl f a) ∧ I ((m.drop i).foldl f a)
  | 0, i, a, h, ha => by
    have : i = m.length := by omega
    subst this
    rw [List.drop_length]
    exact ⟨last a, ha⟩
  | k + 1, i, a, h, ha => by
    obtain ⟨h1, h2⟩ := step a i (by omega) ha
    rw [h1, drop_getD (show i < m.length by omega), show ((i : Int) + 1) = ((i + 1 : Nat) : Int) by omega]
    exact fold_loop step last k (i + 1) _ (by omega) h2

/-- An erase count. -/
noncomputable def eC (e : List AV) (a : Int) : Int := iA e a.toNat
noncomputable def stepL (e : List AV) (a : Int) (y : AV) : Int := if a < 0 ∨ eC e y.toI < eC e a ∨ eC e y.toI = eC e a ∧ y.toI < a then y.toI else a
noncomputable def stepM (e : List AV) (a : Int) (y : AV) : Int := if a < 0 ∨ eC e a < eC e y.toI ∨ eC e y.toI = eC e a ∧ y.toI < a then y.toI else a
def InR (n : Nat) (a : Int) : Prop := a = -1 ∨ ∃ j : Nat, a = j ∧ j < n

theorem best_less {e l : List AV} (he : Rw (T2 1048576) 1048576 e) (hl1 : l.length ≤ 1048576) (hl : ∀ y, y ∈ l → Blk e.length y) :
    den E 82 [(.imm 1 e), (.imm 1 l), (.fn 84 [])] [] = some (.i .i64 (l.foldl (stepL e) (-1))) ∧ InR e.length (l.foldl (stepL e) (-1)) := by
  have hel := he.1
  have hE : ∀ {j : Nat}, j < e.length → okCells false (e.getD j .x) 0 [(.i .i64)] = true := fun hj => (he.at hj).ok
  rw [f82q2_eq]
  have := fold_loop (L := fun a i => f82q2_l1 e a l ((l.length : Nat) : Int) i) (m := l) (f := stepL e) (I := InR e.length) (F := fun a => some (.i .i64 a)) (fun a i hi ha => ?_) (fun a => ?_) l.length 0 (-1) (by omega) (.inl rfl)
  · simpa using this
  · obtain ⟨j, hj, hlj⟩ := hl _ (getD_mem hi)
    have hT := (hl _ (getD_mem hi)).t2 hel
    have g1 : (0 : Int) ≤ (j : Int) := by omega
    have g3 : (j : Int) < ((e.length : Nat) : Int) := by omega
    have g6 : (0 : Int) ≤ (i : Int) := by omega
    have g7 : (i : Int) < ((l.length : Nat) : Int) := by omega
    try dsimp only
    rw [f82q2_l1_eq, dT g7, cond_true]
    simp only [Int.toNat_natCast, hlj, f82q2_j2_eq, g1, g3, g6, g7, hE hj, okC_nil, okC_agg, okC_i, okC_b, okC_s, okC_imm, okL_i, okL_b, okL_s, okL_sl, okS_i, okS_b, okS_s, okS_sl, okS_agg, okS_tup, okS_nil, okS_cons, cells_agg, cells_i, cells_b, cells_s, cells_imm, toI_i, toB_b, toS_s, toL_imm, nth_agg, nth_tup, put_agg, put_i, put_b, put_s, put_imm, setCells, List.getD_cons_zero, List.getD_cons_succ, bSh_b, bSh_i, bSh_s, bSh_sl, bSh_some, cond_true, cond_false, decide_true, decide_false, Int.toNat_natCast, Nat.zero_add, Nat.reduceAdd, beq_self_eq_true, Bool.and_true, Bool.true_and, if_true, Bool.false_eq_true, if_false, List.set_cons_zero, List.set_cons_succ, Bool.not_true, Bool.not_false, Bool.and_self, and_self, f84_eq]
    rw [w64 (x := (i : Int) + 1) (by omega) (by omega)]
    unfold stepL eC iA
    rcases ha with rfl | ⟨k, rfl, hkk⟩
    · simp only [show (-1 : Int) < 0 from by decide, decide_true, true_or, if_true, toI_i]
      exact ⟨rfl, .inr ⟨j, rfl, hj⟩⟩
    · have g4 : ¬ (k : Int) < 0 := by omega
      have g5 : (0 : Int) ≤ (k : Int) ∧ (k : Int) < ((e.length : Nat) : Int) := by omega
      simp only [g4, g5, and_self, hE hkk, Int.toNat_natCast, okC_nil, okC_agg, okC_i, okC_b, okC_s, okC_imm, okL_i, okL_b, okL_s, okL_sl, okS_i, okS_b, okS_s, okS_sl, okS_agg, okS_tup, okS_nil, okS_cons, cells_agg, cells_i, cells_b, cells_s, cells_imm, toI_i, toB_b, toS_s, toL_imm, nth_agg, nth_tup, put_agg, put_i, put_b, put_s, put_imm, setCells, List.getD_cons_zero, List.getD_cons_succ, bSh_b, bSh_i, bSh_s, bSh_sl, bSh_some, cond_true, cond_false, decide_true, decide_false, Int.toNat_natCast, Nat.zero_add, Nat.reduceAdd, beq_self_eq_true, Bool.and_true, Bool.true_and, if_true, Bool.false_eq_true, if_false, List.set_cons_zero, List.set_cons_succ, Bool.not_true, Bool.not_false, Bool.and_self]
      by_cases q1 : ((e.getD j .x).cells.getD 0 .x).toI < ((e.getD k .x).cells.getD 0 .x).toI
      · simp only [q1, decide_true, true_or, or_true, if_true]
        exact ⟨rfl, .inr ⟨j, rfl, hj⟩⟩
      · by_cases q2 : ((e.getD j .x).cells.getD 0 .x).toI = ((e.getD k .x).cells.getD 0 .x).toI
        · by_cases q3 : (j : Int) < (k : Int)
          · simp only [q2, q3, Int.lt_irrefl, decide_true, decide_false, true_and, or_true, if_true]
            exact ⟨rfl, .inr ⟨j, rfl, hj⟩⟩
          · simp only [q2, q3, Int.lt_irrefl, decide_true, decide_false, and_false, or_self, if_false]
            exact ⟨rfl, .inr ⟨k, rfl, hkk⟩⟩
        · simp only [q1, q2, decide_false, false_and, or_self, if_false]
          exact ⟨rfl, .inr ⟨k, rfl, hkk⟩⟩
  · try dsimp only
    rw [f82q2_l1_eq, dF (Int.lt_irrefl _), cond_false]
theorem best_more {e l : List AV} (he : Rw (T2 1048576) 1048576 e) (hl1 : l.length ≤ 1048576) (hl : ∀ y, y ∈ l → Blk e.length y) :
    den E 82 [(.imm 1 e), (.imm 1 l), (.fn 83 [])] [] = some (.i .i64 (l.foldl (stepM e) (-1))) ∧ InR e.length (l.foldl (stepM e) (-1)) := by
  have hel := he.1
  have hE : ∀ {j : Nat}, j < e.length → okCells false (e.getD j .x) 0 [(.i .i64)] = true := fun hj => (he.at hj).ok
  rw [f82q1_eq]
  have := fold_loop (L := fun a i => f82q1_l1 e a l ((l.length : Nat) : Int) i) (m := l) (f := stepM e) (I := InR e.length) (F := fun a => some (.i .i64 a)) (fun a i hi ha => ?_) (fun a => ?_) l.length 0 (-1) (by omega) (.inl rfl)
  · simpa using this
  · obtain ⟨j, hj, hlj⟩ := hl _ (getD_mem hi)
    have hT := (hl _ (getD_mem hi)).t2 hel
    have g1 : (0 : Int) ≤ (j : Int) := by omega
    have g3 : (j : Int) < ((e.length : Nat) : Int) := by omega
    have g6 : (0 : Int) ≤ (i : Int) := by omega
    have g7 : (i : Int) < ((l.length : Nat) : Int) := by omega
    try dsimp only
    rw [f82q1_l1_eq, dT g7, cond_true]
    simp only [Int.toNat_natCast, hlj, f82q1_j2_eq, g1, g3, g6, g7, hE hj, okC_nil, okC_agg, okC_i, okC_b, okC_s, okC_imm, okL_i, okL_b, okL_s, okL_sl, okS_i, okS_b, okS_s, okS_sl, okS_agg, okS_tup, okS_nil, okS_cons, cells_agg, cells_i, cells_b, cells_s, cells_imm, toI_i, toB_b, toS_s, toL_imm, nth_agg, nth_tup, put_agg, put_i, put_b, put_s, put_imm, setCells, List.getD_cons_zero, List.getD_cons_succ, bSh_b, bSh_i, bSh_s, bSh_sl, bSh_some, cond_true, cond_false, decide_true, decide_false, Int.toNat_natCast, Nat.zero_add, Nat.reduceAdd, beq_self_eq_true, Bool.and_true, Bool.true_and, if_true, Bool.false_eq_true, if_false, List.set_cons_zero, List.set_cons_succ, Bool.not_true, Bool.not_false, Bool.and_self, and_self, f83_eq]
    rw [w64 (x := (i : Int) + 1) (by omega) (by omega)]
    unfold stepM eC iA
    rcases ha with rfl | ⟨k, rfl, hkk⟩
    · simp only [show (-1 : Int) < 0 from by decide, decide_true, true_or, if_true, toI_i]
      exact ⟨rfl, .inr ⟨j, rfl, hj⟩⟩
    · have g4 : ¬ (k : Int) < 0 := by omega
      have g5 : (0 : Int) ≤ (k : Int) ∧ (k : Int) < ((e.length : Nat) : Int) := by omega
      simp only [g4, g5, and_self, hE hkk, Int.toNat_natCast, okC_nil, okC_agg, okC_i, okC_b, okC_s, okC_imm, okL_i, okL_b, okL_s, okL_sl, okS_i, okS_b, okS_s, okS_sl, okS_agg, okS_tup, okS_nil, okS_cons, cells_agg, cells_i, cells_b, cells_s, cells_imm, toI_i, toB_b, toS_s, toL_imm, nth_agg, nth_tup, put_agg, put_i, put_b, put_s, put_imm, setCells, List.getD_cons_zero, List.getD_cons_succ, bSh_b, bSh_i, bSh_s, bSh_sl, bSh_some, cond_true, cond_false, decide_true, decide_false, Int.toNat_natCast, Nat.zero_add, Nat.reduceAdd, beq_self_eq_true, Bool.and_true, Bool.true_and, if_true, Bool.false_eq_true, if_false, List.set_cons_zero, List.set_cons_succ, Bool.not_true, Bool.not_false, Bool.and_self]
      by_cases q1 : ((e.getD k .x).cells.getD 0 .x).toI < ((e.getD j .x).cells.getD 0 .x).toI
      · simp only [q1, decide_true, true_or, or_true, if_true]
        exact ⟨rfl, .inr ⟨j, rfl, hj⟩⟩
      · by_cases q2 : ((e.getD j .x).cells.getD 0 .x).toI = ((e.getD k .x).cells.getD 0 .x).toI
        · by_cases q3 : (j : Int) < (k : Int)
          · simp only [q2, q3, Int.lt_irrefl, decide_true, decide_false, true_and, or_true, if_true]
            exact ⟨rfl, .inr ⟨j, rfl, hj⟩⟩
          · simp only [q2, q3, Int.lt_irrefl, decide_true, decide_false, and_false, or_self, if_false]
            exact ⟨rfl, .inr ⟨k, rfl, hkk⟩⟩
        · simp only [q1, q2, decide_false, false_and, or_self, if_false]
          exact ⟨rfl, .inr ⟨k, rfl, hkk⟩⟩
  · try dsimp only
    rw [f82q1_l1_eq, dF (Int.lt_irrefl _), cond_false]

/-- The good blocks. -/
noncomputable def goodL (e b : List AV) : List AV := (idxL e.length).filter (goodB b)
theorem goodL_blk {e b : List AV} : ∀ y, y ∈ goodL e b → Blk e.length y := fun y hy => idxL_blk _ y (List.mem_filter.1 hy).1
theorem goodL_length (e b : List AV) : (goodL e b).length ≤ e.length := Nat.le_trans (List.length_filter_le _ _) (by rw [idxL_length]; exact Nat.le_refl _)
theorem goodL_flat (e b : List AV) : flatVL (goodL e b) = true := flatVL_of fun y hy => by
  obtain ⟨j, _, rfl⟩ := goodL_blk y hy; rfl

theorem spec_goodb {e b : List AV} (hb : Rw (T4 1048576) 1048576 b) (hbl : b.length = e.length) {i : Nat} (hi : i < e.length) : den E 177 [(.imm 1 b), (.i .i64 (i : Int))] [] = some (.b (goodB b (.i .i64 (i : Int)))) := by
  have h2 := hb.at (i := i) (by omega)
  rw [f177_eq, dF (show ¬ ((b.length : Nat) : Int) ≤ (i : Int) by omega)]
  simp only [Int.toNat_natCast, h2.ok, okC_nil, okC_agg, okC_i, okC_b, okC_s, okC_imm, okL_i, okL_b, okL_s, okL_sl, okS_i, okS_b, okS_s, okS_sl, okS_agg, okS_tup, okS_nil, okS_cons, cells_agg, cells_i, cells_b, cells_s, cells_imm, toI_i, toB_b, toS_s, toL_imm, nth_agg, nth_tup, put_agg, put_i, put_b, put_s, put_imm, setCells, List.getD_cons_zero, List.getD_cons_succ, bSh_b, bSh_i, bSh_s, bSh_sl, bSh_some, cond_true, cond_false, decide_true, decide_false, Int.toNat_natCast, Nat.zero_add, Nat.reduceAdd, beq_self_eq_true, Bool.and_true, Bool.true_and, if_true, Bool.false_eq_true, if_false, List.set_cons_zero, List.set_cons_succ, Bool.not_true, Bool.not_false, Bool.and_self]
  rw [if_pos (by omega)]
  rfl

/-! The extremes. -/
noncomputable def upd (e : List AV) (s : Int × Int × Bool) (y : AV) : Int × Int × Bool := (if s.2.2 = false ∨ eC e y.toI < s.1 then eC e y.toI else s.1, if s.2.2 = false ∨ s.2.1 < eC e y.toI then eC e y.toI else s.2.1, true)
theorem spec_ext {e b : List AV} (he : Rw (T2 1048576) 1048576 e) (hb : Rw (T4 1048576) 1048576 b) (hbl : b.length = e.length) :
    den E 216 [(.imm 1 e), (.imm 1 b)] [] = some (.tup [(.i .i64 ((goodL e b).foldl (upd e) (0, 0, false)).1), (.i .i64 ((goodL e b).foldl (upd e) (0, 0, false)).2.1), (.b ((goodL e b).foldl (upd e) (0, 0, false)).2.2)]) := by
  have hel := he.1
  rw [f216_eq]
  have := fold_loop (L := fun (s : Int × Int × Bool) i => f216_l1 e b s.1 s.2.1 s.2.2 i) (m := idxL e.length) (f := fun s y => if goodB b y then upd e s y else s) (I := fun _ => True) (F := fun s => some (.tup [(.i .i64 s.1), (.i .i64 s.2.1), (.b s.2.2)])) (fun s i hi _ => ⟨?_, trivial⟩) (fun s => ?_) e.length 0 (0, 0, false) (by rw [idxL_length]; omega) trivial
  · refine Eq.trans ?_ (this.1.trans ?_)
    · rfl
    · unfold goodL
      rw [List.foldl_filter, List.drop_zero]
  · rw [idxL_length] at hi
    have h1 := he.at hi
    have g6 : (0 : Int) ≤ (i : Int) := by omega
    have g7 : (i : Int) < ((e.length : Nat) : Int) := by omega
    try dsimp only
    rw [f216_l1_eq, dT g7, cond_true, spec_goodb hb hbl hi, idxL_getD hi]
    simp only [f216_j2_eq, f216_j3_eq, f216_j4_eq, f216_j5_eq, g6, g7, and_self, h1.ok, Int.toNat_natCast, okC_nil, okC_agg, okC_i, okC_b, okC_s, okC_imm, okL_i, okL_b, okL_s, okL_sl, okS_i, okS_b, okS_s, okS_sl, okS_agg, okS_tup, okS_nil, okS_cons, cells_agg, cells_i, cells_b, cells_s, cells_imm, toI_i, toB_b, toS_s, toL_imm, nth_agg, nth_tup, put_agg, put_i, put_b, put_s, put_imm, setCells, List.getD_cons_zero, List.getD_cons_succ, bSh_b, bSh_i, bSh_s, bSh_sl, bSh_some, cond_true, cond_false, decide_true, decide_false, Int.toNat_natCast, Nat.zero_add, Nat.reduceAdd, beq_self_eq_true, Bool.and_true, Bool.true_and, if_true, Bool.false_eq_true, if_false, List.set_cons_zero, List.set_cons_succ, Bool.not_true, Bool.not_false, Bool.and_self]
    rw [w64 (x := (i : Int) + 1) (by omega) (by omega)]
    by_cases hg : goodB b (.i .i64 (i : Int)) = true
    · simp only [hg, if_true, Bool.not_true, cond_false]
      unfold upd eC iA
      simp only [toI_i, Int.toNat_natCast]
      obtain ⟨lo, hi, fd⟩ := s
      cases fd
      · rfl
      · by_cases q1 : ((e.getD i .x).cells.getD 0 .x).toI < lo <;> by_cases q2 : hi < ((e.getD i .x).cells.getD 0 .x).toI <;> simp only [q1, q2, decide_true, decide_false, Bool.not_true, Bool.true_eq_false, false_or, if_true, if_false] <;> rfl
    · rw [Bool.not_eq_true] at hg
      simp only [hg, Bool.not_false, cond_true, Bool.false_eq_true, if_false]
  · rw [idxL_length]
    try dsimp only
    rw [f216_l1_eq, dF (Int.lt_irrefl _), cond_false]

/-- The extremes are those of the best blocks. -/
def RelX (e : List AV) (s : Int × Int × Bool) (a b : Int) : Prop := s = (0, 0, false) ∧ a = -1 ∧ b = -1 ∨ (∃ j k : Nat, a = j ∧ b = k ∧ j < e.length ∧ k < e.length) ∧ s = (eC e a, eC e b, true)
theorem relX_fold {e : List AV} : ∀ (l : List AV) (s : Int × Int × Bool) (a b : Int), (∀ y, y ∈ l → Blk e.length y) → RelX e s a b → RelX e (l.foldl (upd e) s) (l.foldl (stepL e) a) (l.foldl (stepM e) b)
  | [], _, _, _, _, h => h
  | y :: l, s, a, b, hl, h => by
    refine relX_fold l _ _ _ (fun y hy => hl y (by simp [hy])) ?_
    obtain ⟨j, hj, rfl⟩ := hl y (by simp)
    rcases h with ⟨rfl, rfl, rfl⟩ | ⟨⟨p, q, rfl, rfl, hp, hq⟩, rfl⟩
    · right
      have h1 : stepL e (-1) (.i .i64 (j : Int)) = j := by unfold stepL; rw [if_pos (.inl (by decide))]; rfl
      have h2 : stepM e (-1) (.i .i64 (j : Int)) = j := by unfold stepM; rw [if_pos (.inl (by decide))]; rfl
      rw [h1, h2]
      exact ⟨⟨j, j, rfl, rfl, hj, hj⟩, rfl⟩
    · right
      have hp0 : ¬ (p : Int) < 0 := by omega
      have hq0 : ¬ (q : Int) < 0 := by omega
      unfold stepL stepM upd
      simp only [toI_i, hp0, hq0, false_or, Bool.true_eq_false]
      constructor
      · refine ⟨if eC e (j : Int) < eC e (p : Int) ∨ eC e (j : Int) = eC e (p : Int) ∧ (j : Int) < (p : Int) then j else p, if eC e (q : Int) < eC e (j : Int) ∨ eC e (j : Int) = eC e (q : Int) ∧ (j : Int) < (q : Int) then j else q, ?_, ?_, ?_, ?_⟩ <;> split <;> first | rfl | assumption
      · congr 1
        · by_cases c1 : eC e (j : Int) < eC e (p : Int)
          · rw [if_pos c1, if_pos (.inl c1)]
          · rw [if_neg c1]
            by_cases c2 : eC e (j : Int) = eC e (p : Int) ∧ (j : Int) < (p : Int)
            · rw [if_pos (.inr c2)]; exact c2.1.symm
            · rw [if_neg (fun h => h.elim c1 c2)]
        · congr 1
          by_cases c1 : eC e (q : Int) < eC e (j : Int)
          · rw [if_pos c1, if_pos (.inl c1)]
          · rw [if_neg c1]
            by_cases c2 : eC e (j : Int) = eC e (q : Int) ∧ (j : Int) < (q : Int)
            · rw [if_pos (.inr c2)]; exact c2.1.symm
            · rw [if_neg (fun h => h.elim c1 c2)]

theorem fold_ge {e : List AV} {f : Int → AV → Int} (hf : ∀ a y, f a y = a ∨ f a y = y.toI) (h0 : ∀ y, f (-1) y = y.toI) : ∀ (l : List AV) (a : Int), (∀ y, y ∈ l → Blk e.length y) → l ≠ [] ∨ 0 ≤ a → 0 ≤ a ∨ a = -1 → 0 ≤ l.foldl f a
  | [], a, _, h, _ => h.resolve_left (by simp)
  | y :: l, a, hl, _, ha => by
    obtain ⟨j, hj, rfl⟩ := hl y (by simp)
    have : 0 ≤ f a (.i .i64 (j : Int)) := by
      rcases ha with ha | rfl
      · rcases hf a (.i .i64 (j : Int)) with h | h <;> rw [h]
        · exact ha
        · rw [toI_i]; omega
      · rw [h0, toI_i]; omega
    exact fold_ge (e := e) hf h0 l _ (fun y hy => hl y (by simp [hy])) (.inr this) (.inl this)

/-! The gap. -/
theorem all_in {l : List AV} (hl : Rw (T2 1048576) 1048576 l) (lo hi : Int) (h : ∀ i, i < l.length → lo ≤ iA l i ∧ iA l i ≤ hi) : den E 81 [(.imm 1 l), (.i .i64 lo), (.i .i64 hi)] [] = some (.b true) := by
  have hll := hl.1
  rw [f81_eq, f163q1_eq, f209q1_eq]
  have := loop_to (L := fun i => f209q1_l1 l (.i .i64 lo) (.i .i64 hi) ((l.length : Nat) : Int) i) (n := l.length) (X := some (.i .i64 (-1))) (fun i hi' => ?_) ?_
  · rw [show f209q1_l1 l (.i .i64 lo) (.i .i64 hi) ((l.length : Nat) : Int) 0 = _ from this]
    simp only [okC_nil, okC_agg, okC_i, okC_b, okC_s, okC_imm, okL_i, okL_b, okL_s, okL_sl, okS_i, okS_b, okS_s, okS_sl, okS_agg, okS_tup, okS_nil, okS_cons, cells_agg, cells_i, cells_b, cells_s, cells_imm, toI_i, toB_b, toS_s, toL_imm, nth_agg, nth_tup, put_agg, put_i, put_b, put_s, put_imm, setCells, List.getD_cons_zero, List.getD_cons_succ, bSh_b, bSh_i, bSh_s, bSh_sl, bSh_some, cond_true, cond_false, decide_true, decide_false, Int.toNat_natCast, Nat.zero_add, Nat.reduceAdd, beq_self_eq_true, Bool.and_true, Bool.true_and, if_true, Bool.false_eq_true, if_false, List.set_cons_zero, List.set_cons_succ, Bool.not_true, Bool.not_false, Bool.and_self]
    rfl
  · have hT := hl.at hi'
    obtain ⟨g1, g2⟩ := h i hi'
    unfold iA at g1 g2
    try dsimp only
    rw [f209q1_l1_eq, dT (show (i : Int) < ((l.length : Nat) : Int) by omega), cond_true, if_pos (by omega), w64 (x := (i : Int) + 1) (by omega) (by omega)]
    simp only [Int.toNat_natCast, hT.ok, f164q1_eq, in72, g1, g2, okC_nil, okC_agg, okC_i, okC_b, okC_s, okC_imm, okL_i, okL_b, okL_s, okL_sl, okS_i, okS_b, okS_s, okS_sl, okS_agg, okS_tup, okS_nil, okS_cons, cells_agg, cells_i, cells_b, cells_s, cells_imm, toI_i, toB_b, toS_s, toL_imm, nth_agg, nth_tup, put_agg, put_i, put_b, put_s, put_imm, setCells, List.getD_cons_zero, List.getD_cons_succ, bSh_b, bSh_i, bSh_s, bSh_sl, bSh_some, cond_true, cond_false, decide_true, decide_false, Int.toNat_natCast, Nat.zero_add, Nat.reduceAdd, beq_self_eq_true, Bool.and_true, Bool.true_and, if_true, Bool.false_eq_true, if_false, List.set_cons_zero, List.set_cons_succ, Bool.not_true, Bool.not_false, Bool.and_self]
  · try dsimp only
    rw [f209q1_l1_eq, dF (Int.lt_irrefl _), cond_false]
theorem spec_count {l : List AV} (hl : Rw (T2 1048576) 1048576 l) (h : ∀ i, i < l.length → 0 ≤ iA l i ∧ iA l i ≤ 1000) : den E 215 [(.imm 1 l)] [] = some (.b true) := by
  have hll := hl.1
  rw [f215_eq]
  have := loop_to (L := fun i => f215_l1 l i) (n := l.length) (X := some (.b true)) (fun i hi' => ?_) ?_
  · exact this
  · have hT := hl.at hi'
    obtain ⟨g1, g2⟩ := h i hi'
    unfold iA at g1 g2
    try dsimp only
    rw [f215_l1_eq, dT (show (i : Int) < ((l.length : Nat) : Int) by omega), cond_true, if_pos (by omega), w64 (x := (i : Int) + 1) (by omega) (by omega)]
    simp only [Int.toNat_natCast, hT.ok, in90, g1, g2, okC_nil, okC_agg, okC_i, okC_b, okC_s, okC_imm, okL_i, okL_b, okL_s, okL_sl, okS_i, okS_b, okS_s, okS_sl, okS_agg, okS_tup, okS_nil, okS_cons, cells_agg, cells_i, cells_b, cells_s, cells_imm, toI_i, toB_b, toS_s, toL_imm, nth_agg, nth_tup, put_agg, put_i, put_b, put_s, put_imm, setCells, List.getD_cons_zero, List.getD_cons_succ, bSh_b, bSh_i, bSh_s, bSh_sl, bSh_some, cond_true, cond_false, decide_true, decide_false, Int.toNat_natCast, Nat.zero_add, Nat.reduceAdd, beq_self_eq_true, Bool.and_true, Bool.true_and, if_true, Bool.false_eq_true, if_false, List.set_cons_zero, List.set_cons_succ, Bool.not_true, Bool.not_false, Bool.and_self]
  · try dsimp only
    rw [f215_l1_eq, dF (Int.lt_irrefl _), cond_false]

noncomputable def gap (e b : List AV) : Int := if goodL e b = [] then 0 else eC e ((goodL e b).foldl (stepM e) (-1)) - eC e ((goodL e b).foldl (stepL e) (-1))
theorem stepL_or (e : List AV) (a : Int) (y : AV) : stepL e a y = a ∨ stepL e a y = y.toI := by unfold stepL; split <;> simp
theorem stepM_or (e : List AV) (a : Int) (y : AV) : stepM e a y = a ∨ stepM e a y = y.toI := by unfold stepM; split <;> simp
theorem stepL_0 (e : List AV) (y : AV) : stepL e (-1) y = y.toI := by unfold stepL; rw [if_pos (.inl (by decide))]
theorem stepM_0 (e : List AV) (y : AV) : stepM e (-1) y = y.toI := by unfold stepM; rw [if_pos (.inl (by decide))]

theorem gaps {e b : List AV} (he : Rw (T2 1048576) 1048576 e) (hb : Rw (T4 1048576) 1048576 b) (hbl : b.length = e.length) (h : ∀ i, i < e.length → 0 ≤ iA e i ∧ iA e i ≤ 1000) :
    den E 176 [(.imm 1 e), (.imm 1 b)] [] = some (.i .i64 (gap e b)) ∧ den E 21 [(.imm 1 e), (.imm 1 b)] [] = some (.i .i64 (gap e b)) := by
  have hel := he.1
  have hgl := goodL_length e b
  obtain ⟨b1, r1⟩ := best_less he (Nat.le_trans hgl hel) (goodL_blk (e := e) (b := b))
  obtain ⟨b2, r2⟩ := best_more he (Nat.le_trans hgl hel) (goodL_blk (e := e) (b := b))
  have hX := relX_fold (goodL e b) (0, 0, false) (-1) (-1) goodL_blk (.inl ⟨rfl, rfl, rfl⟩)
  have hgood := impl_good hel hb hbl
  rw [f176_eq, f21_eq, spec_count he h, spec_ext he hb hbl]
  have hgood' : dno E 80 [(.imm 1 e), (.imm 1 b)] [] = some (.sl 0 [] none, [.live true false false 2 (goodL e b)]) := hgood
  rw [hgood']
  by_cases hn : goodL e b = []
  · rw [hn]
    simp only [bOwn_some, bOwnF_some, bOwnS_some, bOwnFS_some, okRs_nil, okRs_cons, okR_row, okR_same, okR_var, okR_gone, okS_so, okS_pr, okLens_nil, okLens_same, okLens_row, okLens_var, row_live, flatR_live, flatL_nil, flatL_cons, flat_i, flat_b, flat_s, flat_sl, flat_agg, flat_tup, List.all_cons, List.all_nil, List.length_cons, List.length_nil, Nat.reduceLeDiff, Nat.le_refl, decide_true, Bool.and_self, mkL_length, List.headD_cons, okC_nil, okC_agg, okC_i, okC_b, okC_s, okC_imm, okL_i, okL_b, okL_s, okL_sl, okS_i, okS_b, okS_s, okS_sl, okS_agg, okS_tup, okS_nil, okS_cons, cells_agg, cells_i, cells_b, cells_s, cells_imm, toI_i, toB_b, toS_s, toL_imm, nth_agg, nth_tup, put_agg, put_i, put_b, put_s, put_imm, setCells, List.getD_cons_zero, List.getD_cons_succ, bSh_b, bSh_i, bSh_s, bSh_sl, bSh_some, cond_true, cond_false, decide_true, decide_false, Int.toNat_natCast, Nat.zero_add, Nat.reduceAdd, beq_self_eq_true, Bool.and_true, Bool.true_and, if_true, Bool.false_eq_true, if_false, List.set_cons_zero, List.set_cons_succ, Bool.not_true, Bool.not_false, Bool.and_self]
    unfold gap
    rw [if_pos hn]
    exact ⟨rfl, rfl⟩
  · have hl0 : ¬ (((goodL e b).length : Nat) : Int) = 0 := by
      have := List.length_pos_iff.2 hn
      omega
    have c1 := fold_ge (e := e) (stepL_or e) (stepL_0 e) (goodL e b) (-1) goodL_blk (.inl hn) (.inr rfl)
    have c2 := fold_ge (e := e) (stepM_or e) (stepM_0 e) (goodL e b) (-1) goodL_blk (.inl hn) (.inr rfl)
    unfold gap
    rw [if_neg hn]
    generalize hA : (goodL e b).foldl (stepL e) (-1) = A at *
    generalize hB : (goodL e b).foldl (stepM e) (-1) = B at *
    generalize hS : (goodL e b).foldl (upd e) (0, 0, false) = S at *
    rcases hX with ⟨_, h3, _⟩ | ⟨⟨j, k, rfl, rfl, hj, hk⟩, rfl⟩
    · omega
    have t1 := he.at hj
    have t2 := he.at hk
    have v1 := h j hj
    have v2 := h k hk
    have g1 : (0 : Int) ≤ (j : Int) := by omega
    have g2 : (j : Int) < ((e.length : Nat) : Int) := by omega
    have g3 : (0 : Int) ≤ (k : Int) := by omega
    have g4 : (k : Int) < ((e.length : Nat) : Int) := by omega
    have e1 : eC e (j : Int) = iA e j := rfl
    have e2 : eC e (k : Int) = iA e k := rfl
    simp only [bOwn_some, bOwnF_some, bOwnS_some, bOwnFS_some, okRs_nil, okRs_cons, okR_row, okR_same, okR_var, okR_gone, okS_so, okS_pr, okLens_nil, okLens_same, okLens_row, okLens_var, row_live, flatR_live, flatL_nil, flatL_cons, flat_i, flat_b, flat_s, flat_sl, flat_agg, flat_tup, List.all_cons, List.all_nil, List.length_cons, List.length_nil, Nat.reduceLeDiff, Nat.le_refl, decide_true, Bool.and_self, mkL_length, List.headD_cons, okC_nil, okC_agg, okC_i, okC_b, okC_s, okC_imm, okL_i, okL_b, okL_s, okL_sl, okS_i, okS_b, okS_s, okS_sl, okS_agg, okS_tup, okS_nil, okS_cons, cells_agg, cells_i, cells_b, cells_s, cells_imm, toI_i, toB_b, toS_s, toL_imm, nth_agg, nth_tup, put_agg, put_i, put_b, put_s, put_imm, setCells, List.getD_cons_zero, List.getD_cons_succ, bSh_b, bSh_i, bSh_s, bSh_sl, bSh_some, cond_true, cond_false, decide_true, decide_false, Int.toNat_natCast, Nat.zero_add, Nat.reduceAdd, beq_self_eq_true, Bool.and_true, Bool.true_and, if_true, Bool.false_eq_true, if_false, List.set_cons_zero, List.set_cons_succ, Bool.not_true, Bool.not_false, Bool.and_self, hl0, all_in he 0 1000 h, b1, b2, g1, g2, g3, g4, and_self, Int.toNat_natCast, t1.ok, t2.ok]
    rw [e1, e2, w64 (x := iA e k - iA e j) (by omega) (by omega)]
    refine ⟨rfl, ?_⟩
    unfold iA at v1 v2
    rw [w64 (by omega) (by omega)]
    rfl

/-! The block that is moved. -/
noncomputable def stepP (e : List AV) (a : Int) (y : AV) : Int := if a < 0 ∨ eC e y.toI < eC e a then y.toI else a
theorem fold_asc {e : List AV} : ∀ (l : List AV) (a : Int), (∀ y, y ∈ l → a < y.toI) → l.Pairwise (fun y z => y.toI < z.toI) → l.foldl (stepL e) a = l.foldl (stepP e) a
  | [], _, _, _ => rfl
  | y :: l, a, h1, h2 => by
    have hy := h1 y (by simp)
    have hs : stepL e a y = stepP e a y := by
      unfold stepL stepP
      have : ¬ (eC e y.toI = eC e a ∧ y.toI < a) := fun h => by omega
      simp only [this, or_false]
    rw [List.foldl_cons, List.foldl_cons, hs]
    rw [List.pairwise_cons] at h2
    refine fold_asc l _ (fun z hz => ?_) h2.2
    have h3 := h2.1 z hz
    unfold stepP
    split
    · exact h3
    · exact h1 z (by simp [hz])
theorem goodL_asc (e b : List AV) : (goodL e b).Pairwise (fun y z => y.toI < z.toI) := by
  refine List.Pairwise.filter _ ?_
  unfold idxL mkL
  rw [List.pairwise_map]
  refine List.pairwise_lt_range.imp fun {x y} h => ?_
  simp only [toI_i]
  omega
theorem spec_static {e b : List AV} (he : Rw (T2 1048576) 1048576 e) (hb : Rw (T4 1048576) 1048576 b) (hbl : b.length = e.length) :
    den E 115 [(.imm 1 e), (.imm 1 b), (.imm 0 [])] [] = some (.i .i64 ((goodL e b).foldl (stepL e) (-1))) := by
  have hel := he.1
  have hE : ∀ {j : Nat}, j < e.length → okCells false (e.getD j .x) 0 [(.i .i64)] = true := fun hj => (he.at hj).ok
  have hhas : ∀ i : Int, den E 142 [(.imm 0 []), (.i .i64 i)] [] = some (.b false) := fun i => by
    rw [f142q1_eq, f142q1_l1_eq]
    rfl
  rw [f115q1_eq]
  have := fold_loop (L := fun a i => f115q1_l1 e b a i) (m := idxL e.length) (f := fun a y => if goodB b y then stepP e a y else a) (I := InR e.length) (F := fun a => some (.i .i64 a)) (fun a i hi ha => ?_) (fun a => ?_) e.length 0 (-1) (by rw [idxL_length]; omega) (.inl rfl)
  · refine Eq.trans ?_ (this.1.trans ?_)
    · rfl
    · rw [fold_asc (goodL e b) (-1) (fun y hy => by obtain ⟨j, _, rfl⟩ := goodL_blk y hy; rw [toI_i]; omega) (goodL_asc e b)]
      unfold goodL
      rw [List.foldl_filter, List.drop_zero]
  · rw [idxL_length] at hi
    have h1 := he.at hi
    have g6 : (0 : Int) ≤ (i : Int) := by omega
    have g7 : (i : Int) < ((e.length : Nat) : Int) := by omega
    try dsimp only
    rw [f115q1_l1_eq, dT g7, cond_true, spec_goodb hb hbl hi, idxL_getD hi, hhas]
    simp only [f115q1_j2_eq, g6, g7, and_self, h1.ok, Int.toNat_natCast, okC_nil, okC_agg, okC_i, okC_b, okC_s, okC_imm, okL_i, okL_b, okL_s, okL_sl, okS_i, okS_b, okS_s, okS_sl, okS_agg, okS_tup, okS_nil, okS_cons, cells_agg, cells_i, cells_b, cells_s, cells_imm, toI_i, toB_b, toS_s, toL_imm, nth_agg, nth_tup, put_agg, put_i, put_b, put_s, put_imm, setCells, List.getD_cons_zero, List.getD_cons_succ, bSh_b, bSh_i, bSh_s, bSh_sl, bSh_some, cond_true, cond_false, decide_true, decide_false, Int.toNat_natCast, Nat.zero_add, Nat.reduceAdd, beq_self_eq_true, Bool.and_true, Bool.true_and, if_true, Bool.false_eq_true, if_false, List.set_cons_zero, List.set_cons_succ, Bool.not_true, Bool.not_false, Bool.and_self]
    rw [w64 (x := (i : Int) + 1) (by omega) (by omega)]
    by_cases hg : goodB b (.i .i64 (i : Int)) = true
    · simp only [hg, if_true, beq_self_eq_true, cond_true]
      unfold stepP eC iA
      rcases ha with rfl | ⟨k, rfl, hkk⟩
      · simp only [show (-1 : Int) < 0 from by decide, decide_true, true_or, if_true, toI_i]
        exact ⟨rfl, .inr ⟨i, rfl, hi⟩⟩
      · have g4 : ¬ (k : Int) < 0 := by omega
        have g5 : (0 : Int) ≤ (k : Int) ∧ (k : Int) < ((e.length : Nat) : Int) := by omega
        simp only [g4, g5, and_self, hE hkk, Int.toNat_natCast, okC_nil, okC_agg, okC_i, okC_b, okC_s, okC_imm, okL_i, okL_b, okL_s, okL_sl, okS_i, okS_b, okS_s, okS_sl, okS_agg, okS_tup, okS_nil, okS_cons, cells_agg, cells_i, cells_b, cells_s, cells_imm, toI_i, toB_b, toS_s, toL_imm, nth_agg, nth_tup, put_agg, put_i, put_b, put_s, put_imm, setCells, List.getD_cons_zero, List.getD_cons_succ, bSh_b, bSh_i, bSh_s, bSh_sl, bSh_some, cond_true, cond_false, decide_true, decide_false, Int.toNat_natCast, Nat.zero_add, Nat.reduceAdd, beq_self_eq_true, Bool.and_true, Bool.true_and, if_true, Bool.false_eq_true, if_false, List.set_cons_zero, List.set_cons_succ, Bool.not_true, Bool.not_false, Bool.and_self]
        by_cases q1 : ((e.getD i .x).cells.getD 0 .x).toI < ((e.getD k .x).cells.getD 0 .x).toI
        · simp only [q1, decide_true, or_true, if_true]
          exact ⟨rfl, .inr ⟨i, rfl, hi⟩⟩
        · simp only [q1, decide_false, or_self, if_false]
          exact ⟨rfl, .inr ⟨k, rfl, hkk⟩⟩
    · rw [Bool.not_eq_true] at hg
      simp only [hg, Bool.false_eq_true, if_false]
      exact ⟨rfl, ha⟩
  · rw [idxL_length]
    try dsimp only
    rw [f115q1_l1_eq, dF (Int.lt_irrefl _), cond_false]
theorem impl_static {e b : List AV} (he : Rw (T2 1048576) 1048576 e) (hb : Rw (T4 1048576) 1048576 b) (hbl : b.length = e.length) :
    den E 162 [(.imm 1 e), (.imm 1 b), (.imm 0 [])] [] = some (.i .i64 ((goodL e b).foldl (stepL e) (-1))) := by
  have hel := he.1
  have hgl := goodL_length e b
  obtain ⟨b1, _⟩ := best_less he (Nat.le_trans hgl hel) (goodL_blk (e := e) (b := b))
  have hgood' : dno E 80 [(.imm 1 e), (.imm 1 b)] [] = some (.sl 0 [] none, [.live true false false 2 (goodL e b)]) := impl_good hel hb hbl
  have hno : ∀ i : Int, den E 208 [(.i .i64 i), (.ip (.imm 0 []) 0)] [] = some (.b false) := fun i => by
    have h0 : okCells false (.imm 0 []) 0 [(.sl 2 1)] = true := rfl
    rw [f208q1_eq, if_pos h0]
    simp only [okC_nil, okC_agg, okC_i, okC_b, okC_s, okC_imm, okL_i, okL_b, okL_s, okL_sl, okS_i, okS_b, okS_s, okS_sl, okS_agg, okS_tup, okS_nil, okS_cons, cells_agg, cells_i, cells_b, cells_s, cells_imm, toI_i, toB_b, toS_s, toL_imm, nth_agg, nth_tup, put_agg, put_i, put_b, put_s, put_imm, setCells, List.getD_cons_zero, List.getD_cons_succ, bSh_b, bSh_i, bSh_s, bSh_sl, bSh_some, cond_true, cond_false, decide_true, decide_false, Int.toNat_natCast, Nat.zero_add, Nat.reduceAdd, beq_self_eq_true, Bool.and_true, Bool.true_and, if_true, Bool.false_eq_true, if_false, List.set_cons_zero, List.set_cons_succ, Bool.not_true, Bool.not_false, Bool.and_self]
    rw [f151_eq, f94_eq, f94_l1_eq]
    rfl
  have hidx : den E 209 [(.imm 1 (goodL e b)), (.fn 208 [(.ip (.imm 0 []) 0)])] [] = some (.i .i64 (-1)) := by
    rw [f209q2_eq]
    have := loop_to (L := fun i => f209q2_l1 (goodL e b) (.imm 0 []) (((goodL e b).length : Nat) : Int) i) (n := (goodL e b).length) (X := some (.i .i64 (-1))) (fun i hi => ?_) ?_
    · exact this
    · have hT := (goodL_blk _ (getD_mem hi)).t2 hel
      try dsimp only
      rw [f209q2_l1_eq, dT (show (i : Int) < (((goodL e b).length : Nat) : Int) by omega), cond_true, if_pos (by omega), w64 (x := (i : Int) + 1) (by omega) (by omega)]
      simp only [Int.toNat_natCast, hT.ok, hno, okC_nil, okC_agg, okC_i, okC_b, okC_s, okC_imm, okL_i, okL_b, okL_s, okL_sl, okS_i, okS_b, okS_s, okS_sl, okS_agg, okS_tup, okS_nil, okS_cons, cells_agg, cells_i, cells_b, cells_s, cells_imm, toI_i, toB_b, toS_s, toL_imm, nth_agg, nth_tup, put_agg, put_i, put_b, put_s, put_imm, setCells, List.getD_cons_zero, List.getD_cons_succ, bSh_b, bSh_i, bSh_s, bSh_sl, bSh_some, cond_true, cond_false, decide_true, decide_false, Int.toNat_natCast, Nat.zero_add, Nat.reduceAdd, beq_self_eq_true, Bool.and_true, Bool.true_and, if_true, Bool.false_eq_true, if_false, List.set_cons_zero, List.set_cons_succ, Bool.not_true, Bool.not_false, Bool.and_self]
    · try dsimp only
      rw [f209q2_l1_eq, dF (Int.lt_irrefl _), cond_false]
  have hdel : dno E 195 [(.sl 0 [] none), (.fn 208 [(.ip (.imm 0 []) 0)])] [(.live true false false 2 (goodL e b))] = some (.sl 0 [] (some (0, (goodL e b).length)), [.live true false false 2 (goodL e b)]) := by
    rw [f195o1_eq, hidx]
    simp only [okC_nil, okC_agg, okC_i, okC_b, okC_s, okC_imm, okL_i, okL_b, okL_s, okL_sl, okS_i, okS_b, okS_s, okS_sl, okS_agg, okS_tup, okS_nil, okS_cons, cells_agg, cells_i, cells_b, cells_s, cells_imm, toI_i, toB_b, toS_s, toL_imm, nth_agg, nth_tup, put_agg, put_i, put_b, put_s, put_imm, setCells, List.getD_cons_zero, List.getD_cons_succ, bSh_b, bSh_i, bSh_s, bSh_sl, bSh_some, cond_true, cond_false, decide_true, decide_false, Int.toNat_natCast, Nat.zero_add, Nat.reduceAdd, beq_self_eq_true, Bool.and_true, Bool.true_and, if_true, Bool.false_eq_true, if_false, List.set_cons_zero, List.set_cons_succ, Bool.not_true, Bool.not_false, Bool.and_self]
  rw [f162q1_eq, hgood']
  simp only [bOwn_some, bOwnF_some, bOwnS_some, bOwnFS_some, okRs_nil, okRs_cons, okR_row, okR_same, okR_var, okR_gone, okS_so, okS_pr, okLens_nil, okLens_same, okLens_row, okLens_var, row_live, flatR_live, flatL_nil, flatL_cons, flat_i, flat_b, flat_s, flat_sl, flat_agg, flat_tup, List.all_cons, List.all_nil, List.length_cons, List.length_nil, Nat.reduceLeDiff, Nat.le_refl, decide_true, Bool.and_self, mkL_length, List.headD_cons, okC_nil, okC_agg, okC_i, okC_b, okC_s, okC_imm, okL_i, okL_b, okL_s, okL_sl, okS_i, okS_b, okS_s, okS_sl, okS_agg, okS_tup, okS_nil, okS_cons, cells_agg, cells_i, cells_b, cells_s, cells_imm, toI_i, toB_b, toS_s, toL_imm, nth_agg, nth_tup, put_agg, put_i, put_b, put_s, put_imm, setCells, List.getD_cons_zero, List.getD_cons_succ, bSh_b, bSh_i, bSh_s, bSh_sl, bSh_some, cond_true, cond_false, decide_true, decide_false, Int.toNat_natCast, Nat.zero_add, Nat.reduceAdd, beq_self_eq_true, Bool.and_true, Bool.true_and, if_true, Bool.false_eq_true, if_false, List.set_cons_zero, List.set_cons_succ, Bool.not_true, Bool.not_false, Bool.and_self, hdel, goodL_flat e b, AV.off, AV.cnt, List.drop_zero, List.take_length, b1]


/-! A state is copied, marked and looked at again. -/
theorem own_wear {e b c : List AV} (n : Int) (he : Rw (T2 1048576) 1048576 e) (hb : Rw (T4 1048576) 1048576 b) (hc : Rw (T2 1048576) 1048576 c) : dno E 32 [(.agg [(.imm 1 e), (.imm 1 b), (.imm 1 c), (.i .i64 n)])] [] =
    some (.agg [(.sl 0 [] none), (.sl 1 [] none), (.sl 2 [] none), (.i .i64 n)], [(.live true false false 2 e), (.live true false false 4 b), (.live true false false 2 c)]) := by
  rw [f32o1_eq, own_int he, own_bool hb, own_int hc]
  simp only [bOwn_some, bOwnF_some, bOwnS_some, bOwnFS_some, okRs_nil, okRs_cons, okR_row, okR_same, okR_var, okR_gone, okS_so, okS_pr, okLens_nil, okLens_same, okLens_row, okLens_var, row_live, flatR_live, flatL_nil, flatL_cons, flat_i, flat_b, flat_s, flat_sl, flat_agg, flat_tup, List.all_cons, List.all_nil, List.length_cons, List.length_nil, Nat.reduceLeDiff, Nat.le_refl, decide_true, Bool.and_self, mkL_length, List.headD_cons, okC_nil, okC_agg, okC_i, okC_b, okC_s, okC_imm, okL_i, okL_b, okL_s, okL_sl, okS_i, okS_b, okS_s, okS_sl, okS_agg, okS_tup, okS_nil, okS_cons, cells_agg, cells_i, cells_b, cells_s, cells_imm, toI_i, toB_b, toS_s, toL_imm, nth_agg, nth_tup, put_agg, put_i, put_b, put_s, put_imm, setCells, List.getD_cons_zero, List.getD_cons_succ, bSh_b, bSh_i, bSh_s, bSh_sl, bSh_some, cond_true, cond_false, decide_true, decide_false, Int.toNat_natCast, Nat.zero_add, Nat.reduceAdd, beq_self_eq_true, Bool.and_true, Bool.true_and, if_true, Bool.false_eq_true, if_false, List.set_cons_zero, List.set_cons_succ, Bool.not_true, Bool.not_false, Bool.and_self]
theorem mark_wear {e b c : List AV} (n : Int) (he : Rw (T2 1048576) 1048576 e) (hb : Rw (T4 1048576) 1048576 b) (hc : Rw (T2 1048576) 1048576 c) :
    dno E 35 [(.agg [(.sl 0 [] none), (.sl 1 [] none), (.sl 2 [] none), (.i .i64 n)]), (.i .i64 1)] [(.live true false false 2 e), (.live true false false 4 b), (.live true false false 2 c)] =
      some (.i .i64 (1 + ((e.length : Nat) : Int) + ((b.length : Nat) : Int) + ((c.length : Nat) : Int)), [(.live true false false 2 (mkL e.length fun i => .i .i64 (1 + (i : Int)))), (.live true false false 4 (mkL b.length fun i => .b (decide ((1 + ((e.length : Nat) : Int) + (i : Int)).tmod 3 = 0)))), (.live true false false 2 (mkL c.length fun i => .i .i64 (1 + ((e.length : Nat) : Int) + ((b.length : Nat) : Int) + (i : Int))))]) := by
  have h1 := he.1
  have h2 := hb.1
  have h3 := hc.1
  rw [f35o1_eq, mark_int he 1 (by omega) (by omega)]
  simp only [bOwn_some, bOwnF_some, bOwnS_some, bOwnFS_some, okRs_nil, okRs_cons, okR_row, okR_same, okR_var, okR_gone, okS_so, okS_pr, okLens_nil, okLens_same, okLens_row, okLens_var, row_live, flatR_live, flatL_nil, flatL_cons, flat_i, flat_b, flat_s, flat_sl, flat_agg, flat_tup, List.all_cons, List.all_nil, List.length_cons, List.length_nil, Nat.reduceLeDiff, Nat.le_refl, decide_true, Bool.and_self, mkL_length, List.headD_cons, okC_nil, okC_agg, okC_i, okC_b, okC_s, okC_imm, okL_i, okL_b, okL_s, okL_sl, okS_i, okS_b, okS_s, okS_sl, okS_agg, okS_tup, okS_nil, okS_cons, cells_agg, cells_i, cells_b, cells_s, cells_imm, toI_i, toB_b, toS_s, toL_imm, nth_agg, nth_tup, put_agg, put_i, put_b, put_s, put_imm, setCells, List.getD_cons_zero, List.getD_cons_succ, bSh_b, bSh_i, bSh_s, bSh_sl, bSh_some, cond_true, cond_false, decide_true, decide_false, Int.toNat_natCast, Nat.zero_add, Nat.reduceAdd, beq_self_eq_true, Bool.and_true, Bool.true_and, if_true, Bool.false_eq_true, if_false, List.set_cons_zero, List.set_cons_succ, Bool.not_true, Bool.not_false, Bool.and_self]
  rw [mark_bool hb _ (by omega) (by omega)]
  simp only [bOwn_some, bOwnF_some, bOwnS_some, bOwnFS_some, okRs_nil, okRs_cons, okR_row, okR_same, okR_var, okR_gone, okS_so, okS_pr, okLens_nil, okLens_same, okLens_row, okLens_var, row_live, flatR_live, flatL_nil, flatL_cons, flat_i, flat_b, flat_s, flat_sl, flat_agg, flat_tup, List.all_cons, List.all_nil, List.length_cons, List.length_nil, Nat.reduceLeDiff, Nat.le_refl, decide_true, Bool.and_self, mkL_length, List.headD_cons, okC_nil, okC_agg, okC_i, okC_b, okC_s, okC_imm, okL_i, okL_b, okL_s, okL_sl, okS_i, okS_b, okS_s, okS_sl, okS_agg, okS_tup, okS_nil, okS_cons, cells_agg, cells_i, cells_b, cells_s, cells_imm, toI_i, toB_b, toS_s, toL_imm, nth_agg, nth_tup, put_agg, put_i, put_b, put_s, put_imm, setCells, List.getD_cons_zero, List.getD_cons_succ, bSh_b, bSh_i, bSh_s, bSh_sl, bSh_some, cond_true, cond_false, decide_true, decide_false, Int.toNat_natCast, Nat.zero_add, Nat.reduceAdd, beq_self_eq_true, Bool.and_true, Bool.true_and, if_true, Bool.false_eq_true, if_false, List.set_cons_zero, List.set_cons_succ, Bool.not_true, Bool.not_false, Bool.and_self]
  rw [mark_int hc _ (by omega) (by omega)]
  simp only [bOwn_some, bOwnF_some, bOwnS_some, bOwnFS_some, okRs_nil, okRs_cons, okR_row, okR_same, okR_var, okR_gone, okS_so, okS_pr, okLens_nil, okLens_same, okLens_row, okLens_var, row_live, flatR_live, flatL_nil, flatL_cons, flat_i, flat_b, flat_s, flat_sl, flat_agg, flat_tup, List.all_cons, List.all_nil, List.length_cons, List.length_nil, Nat.reduceLeDiff, Nat.le_refl, decide_true, Bool.and_self, mkL_length, List.headD_cons, okC_nil, okC_agg, okC_i, okC_b, okC_s, okC_imm, okL_i, okL_b, okL_s, okL_sl, okS_i, okS_b, okS_s, okS_sl, okS_agg, okS_tup, okS_nil, okS_cons, cells_agg, cells_i, cells_b, cells_s, cells_imm, toI_i, toB_b, toS_s, toL_imm, nth_agg, nth_tup, put_agg, put_i, put_b, put_s, put_imm, setCells, List.getD_cons_zero, List.getD_cons_succ, bSh_b, bSh_i, bSh_s, bSh_sl, bSh_some, cond_true, cond_false, decide_true, decide_false, Int.toNat_natCast, Nat.zero_add, Nat.reduceAdd, beq_self_eq_true, Bool.and_true, Bool.true_and, if_true, Bool.false_eq_true, if_false, List.set_cons_zero, List.set_cons_succ, Bool.not_true, Bool.not_false, Bool.and_self]
theorem held_wear (p q s : Nat) (n : Int) (hp : p ≤ 1048576) (hq : q ≤ 1048576) (hs : s ≤ 1048576) :
    den E 36 [(.agg [(.imm 1 (mkL p fun i => .i .i64 (1 + (i : Int)))), (.imm 1 (mkL q fun i => .b (decide ((1 + (p : Int) + (i : Int)).tmod 3 = 0)))), (.imm 1 (mkL s fun i => .i .i64 (1 + (p : Int) + (q : Int) + (i : Int)))), (.i .i64 n)]), (.i .i64 1)] [] =
      some (.i .i64 (1 + (p : Int) + (q : Int) + (s : Int))) := by
  have k1 : ¬ 1 + (p : Int) < 0 := by omega
  have k2 : ¬ 1 + (p : Int) + (q : Int) < 0 := by omega
  have k3 : ¬ 1 + (p : Int) + (q : Int) + (s : Int) < 0 := by omega
  rw [f36_eq, held_int p hp 1 (by omega) (by omega)]
  simp only [k1, okC_nil, okC_agg, okC_i, okC_b, okC_s, okC_imm, okL_i, okL_b, okL_s, okL_sl, okS_i, okS_b, okS_s, okS_sl, okS_agg, okS_tup, okS_nil, okS_cons, cells_agg, cells_i, cells_b, cells_s, cells_imm, toI_i, toB_b, toS_s, toL_imm, nth_agg, nth_tup, put_agg, put_i, put_b, put_s, put_imm, setCells, List.getD_cons_zero, List.getD_cons_succ, bSh_b, bSh_i, bSh_s, bSh_sl, bSh_some, cond_true, cond_false, decide_true, decide_false, Int.toNat_natCast, Nat.zero_add, Nat.reduceAdd, beq_self_eq_true, Bool.and_true, Bool.true_and, if_true, Bool.false_eq_true, if_false, List.set_cons_zero, List.set_cons_succ, Bool.not_true, Bool.not_false, Bool.and_self]
  rw [held_bool q hq _ (by omega) (by omega)]
  simp only [k2, okC_nil, okC_agg, okC_i, okC_b, okC_s, okC_imm, okL_i, okL_b, okL_s, okL_sl, okS_i, okS_b, okS_s, okS_sl, okS_agg, okS_tup, okS_nil, okS_cons, cells_agg, cells_i, cells_b, cells_s, cells_imm, toI_i, toB_b, toS_s, toL_imm, nth_agg, nth_tup, put_agg, put_i, put_b, put_s, put_imm, setCells, List.getD_cons_zero, List.getD_cons_succ, bSh_b, bSh_i, bSh_s, bSh_sl, bSh_some, cond_true, cond_false, decide_true, decide_false, Int.toNat_natCast, Nat.zero_add, Nat.reduceAdd, beq_self_eq_true, Bool.and_true, Bool.true_and, if_true, Bool.false_eq_true, if_false, List.set_cons_zero, List.set_cons_succ, Bool.not_true, Bool.not_false, Bool.and_self]
  rw [held_int s hs _ (by omega) (by omega)]
  simp only [k3, okC_nil, okC_agg, okC_i, okC_b, okC_s, okC_imm, okL_i, okL_b, okL_s, okL_sl, okS_i, okS_b, okS_s, okS_sl, okS_agg, okS_tup, okS_nil, okS_cons, cells_agg, cells_i, cells_b, cells_s, cells_imm, toI_i, toB_b, toS_s, toL_imm, nth_agg, nth_tup, put_agg, put_i, put_b, put_s, put_imm, setCells, List.getD_cons_zero, List.getD_cons_succ, bSh_b, bSh_i, bSh_s, bSh_sl, bSh_some, cond_true, cond_false, decide_true, decide_false, Int.toNat_natCast, Nat.zero_add, Nat.reduceAdd, beq_self_eq_true, Bool.and_true, Bool.true_and, if_true, Bool.false_eq_true, if_false, List.set_cons_zero, List.set_cons_succ, Bool.not_true, Bool.not_false, Bool.and_self]


/-! One move. -/
noncomputable def mu (e : List AV) : Nat := (e.map fun y => (1000 - (y.cells.getD 0 .x).toI).toNat).sum
theorem sum_set {f : AV → Nat} : ∀ (l : List AV) (i : Nat) (y : AV), i < l.length → f y < f (l.getD i .x) → ((l.set i y).map f).sum < (l.map f).sum
  | [], i, _, h, _ => by simp at h
  | z :: l, 0, y, _, h => by
    simp only [List.getD_cons_zero] at h
    simp only [List.set_cons_zero, List.map_cons, List.sum_cons]
    omega
  | z :: l, i + 1, y, hi, h => by
    simp only [List.getD_cons_succ] at h
    have := sum_set (f := f) l i y (by simpa using hi) h
    simp only [List.set_cons_succ, List.map_cons, List.sum_cons]
    omega
theorem iA_set {l : List AV} {i k : Nat} {n : Int} (hi : i < l.length) : iA (l.set i (.i .i64 n)) k = if k = i then n else iA l k := by
  unfold iA
  by_cases h : k = i
  · subst h
    have : (l.set k (.i .i64 n)).getD k .x = .i .i64 n := by rw [List.getD_eq_getElem?_getD, List.getElem?_set_self hi]; rfl
    rw [if_pos rfl, this]; rfl
  · have : (l.set i (.i .i64 n)).getD k .x = l.getD k .x := by rw [List.getD_eq_getElem?_getD, List.getD_eq_getElem?_getD, List.getElem?_set_ne (fun e => h e.symm)]
    rw [if_neg h, this]
theorem fold_mem {f : Int → AV → Int} (hf : ∀ a y, f a y = a ∨ f a y = y.toI) : ∀ (l : List AV) (a : Int), l.foldl f a = a ∨ ∃ y, y ∈ l ∧ l.foldl f a = y.toI
  | [], a => .inl rfl
  | y :: l, a => by
    rw [List.foldl_cons]
    rcases fold_mem hf l (f a y) with h | ⟨z, h1, h2⟩
    · rw [h]
      rcases hf a y with h3 | h3
      · exact .inl h3
      · exact .inr ⟨y, by simp, h3⟩
    · exact .inr ⟨z, by simp [h1], h2⟩
theorem okWear_all {e b c : List AV} {n : Int} (h : okWear e b c n = true) : ∀ i, i < e.length → okW e b c i = true := by
  intro i hi
  simp only [okWear, Bool.and_eq_true, decide_eq_true_eq, List.all_eq_true] at h
  exact h.2.2.2.2 i (by simp [List.mem_range'_1, hi])
theorem okWear_mk {e b c e' c' : List AV} {n : Int} (h : okWear e b c n = true) (h1 : e'.length = e.length) (h2 : c'.length = c.length) (h3 : ∀ i, i < e.length → okW e' b c' i = true) : okWear e' b c' n = true := by
  simp only [okWear, Bool.and_eq_true, decide_eq_true_eq, List.all_eq_true] at h ⊢
  rw [h1, h2]
  exact ⟨h.1, h.2.1, h.2.2.1, h.2.2.2.1, fun i hi => h3 i (by simpa [List.mem_range'_1] using hi)⟩

theorem needs1 {e b c : List AV} (n : Int) (he : Rw (T2 1048576) 1048576 e) (hb : Rw (T4 1048576) 1048576 b) (hok : okWear e b c n = true) :
    den E 114 [(.imm 1 e), (.imm 1 b), (.i .i64 n)] [] = some (.b (decide (n < gap e b))) ∧ den E 78 [(.agg [(.imm 1 e), (.imm 1 b), (.imm 1 c), (.i .i64 n)])] [] = some (.b (decide (n < gap e b))) := by
  obtain ⟨_, _, hbl, hcl, hnr, hall⟩ := okWear_len hok
  obtain ⟨q1, q2⟩ := gaps he hb hbl fun i hi => (hall i hi).1
  constructor
  · rw [f114_eq, q1]; simp only [okC_nil, okC_agg, okC_i, okC_b, okC_s, okC_imm, okL_i, okL_b, okL_s, okL_sl, okS_i, okS_b, okS_s, okS_sl, okS_agg, okS_tup, okS_nil, okS_cons, cells_agg, cells_i, cells_b, cells_s, cells_imm, toI_i, toB_b, toS_s, toL_imm, nth_agg, nth_tup, put_agg, put_i, put_b, put_s, put_imm, setCells, List.getD_cons_zero, List.getD_cons_succ, bSh_b, bSh_i, bSh_s, bSh_sl, bSh_some, cond_true, cond_false, decide_true, decide_false, Int.toNat_natCast, Nat.zero_add, Nat.reduceAdd, beq_self_eq_true, Bool.and_true, Bool.true_and, if_true, Bool.false_eq_true, if_false, List.set_cons_zero, List.set_cons_succ, Bool.not_true, Bool.not_false, Bool.and_self]; rfl
  · rw [f78_eq, f161_eq, q2]; simp only [okC_nil, okC_agg, okC_i, okC_b, okC_s, okC_imm, okL_i, okL_b, okL_s, okL_sl, okS_i, okS_b, okS_s, okS_sl, okS_agg, okS_tup, okS_nil, okS_cons, cells_agg, cells_i, cells_b, cells_s, cells_imm, toI_i, toB_b, toS_s, toL_imm, nth_agg, nth_tup, put_agg, put_i, put_b, put_s, put_imm, setCells, List.getD_cons_zero, List.getD_cons_succ, bSh_b, bSh_i, bSh_s, bSh_sl, bSh_some, cond_true, cond_false, decide_true, decide_false, Int.toNat_natCast, Nat.zero_add, Nat.reduceAdd, beq_self_eq_true, Bool.and_true, Bool.true_and, if_true, Bool.false_eq_true, if_false, List.set_cons_zero, List.set_cons_succ, Bool.not_true, Bool.not_false, Bool.and_self]; rfl

/-- What a move comes to. -/
theorem move1 {e b c : List AV} (n : Int) (he : Rw (T2 1048576) 1048576 e) (hb : Rw (T4 1048576) 1048576 b) (hc : Rw (T2 1048576) 1048576 c) (hok : okWear e b c n = true) (hgap : n < gap e b) :
    (dno E 47 [(.agg [(.imm 1 e), (.imm 1 b), (.imm 1 c), (.i .i64 n)])] [] = some (.tup [(.agg [(.sl 0 [] none), (.sl 1 [] none), (.sl 2 [] none), (.i .i64 0)]), (.i .i64 4)], [(.live true false false 2 []), (.live true false false 4 []), (.live true false false 2 [])]) ∧
      dno E 79 [(.pt 0 [] 0 0)] [(.live false true false 33 [(.agg [(.sl 1 [] none), (.sl 2 [] none), (.sl 3 [] none), (.i .i64 n)])]), (.live true false false 2 e), (.live true false false 4 b), (.live true false false 2 c)] = some ((.i .i64 4), [(.live false true false 33 [(.agg [(.sl 1 [] none), (.sl 2 [] none), (.sl 3 [] none), (.i .i64 n)])]), (.live true false false 2 e), (.live true false false 4 b), (.live true false false 2 c)])) ∨
    ∃ e' c' : List AV, Rw (T2 1048576) 1048576 e' ∧ Rw (T2 1048576) 1048576 c' ∧ okWear e' b c' n = true ∧ mu e' < mu e ∧ e'.length = e.length ∧ c'.length = c.length ∧
      dno E 47 [(.agg [(.imm 1 e), (.imm 1 b), (.imm 1 c), (.i .i64 n)])] [] = some (.tup [(.agg [(.sl 0 [] none), (.sl 1 [] none), (.sl 2 [] none), (.i .i64 n)]), (.i .i64 0)], [(.live true false false 2 e'), (.live true false false 4 b), (.live true false false 2 c')]) ∧
      dno E 79 [(.pt 0 [] 0 0)] [(.live false true false 33 [(.agg [(.sl 1 [] none), (.sl 2 [] none), (.sl 3 [] none), (.i .i64 n)])]), (.live true false false 2 e), (.live true false false 4 b), (.live true false false 2 c)] = some ((.i .i64 0), [(.live false true false 33 [(.agg [(.sl 1 [] none), (.sl 2 [] none), (.sl 3 [] none), (.i .i64 n)])]), (.live true false false 2 e'), (.live true false false 4 b), (.live true false false 2 c')]) := by
  have z64 : W64 0 := by constructor <;> omega
  have hel := he.1
  obtain ⟨_, _, hbl, hcl, hnr, hall⟩ := okWear_len hok
  obtain ⟨d1, _⟩ := needs1 n he hb hok
  rw [f47o1_eq, spec_wear n he hb hc]
  simp only [hok, d1, hgap, okC_nil, okC_agg, okC_i, okC_b, okC_s, okC_imm, okL_i, okL_b, okL_s, okL_sl, okS_i, okS_b, okS_s, okS_sl, okS_agg, okS_tup, okS_nil, okS_cons, cells_agg, cells_i, cells_b, cells_s, cells_imm, toI_i, toB_b, toS_s, toL_imm, nth_agg, nth_tup, put_agg, put_i, put_b, put_s, put_imm, setCells, List.getD_cons_zero, List.getD_cons_succ, bSh_b, bSh_i, bSh_s, bSh_sl, bSh_some, cond_true, cond_false, decide_true, decide_false, Int.toNat_natCast, Nat.zero_add, Nat.reduceAdd, beq_self_eq_true, Bool.and_true, Bool.true_and, if_true, Bool.false_eq_true, if_false, List.set_cons_zero, List.set_cons_succ, Bool.not_true, Bool.not_false, Bool.and_self]
  have hne : goodL e b ≠ [] := fun h => by
    unfold gap at hgap
    rw [if_pos h] at hgap
    omega
  have c1 := fold_ge (e := e) (stepL_or e) (stepL_0 e) (goodL e b) (-1) goodL_blk (.inl hne) (.inr rfl)
  obtain ⟨_, r1⟩ := best_less he (Nat.le_trans (goodL_length e b) hel) (goodL_blk (e := e) (b := b))
  have s1 := spec_static he hb hbl
  have s2 := impl_static he hb hbl
  obtain ⟨i, hA, hi⟩ : ∃ i : Nat, (goodL e b).foldl (stepL e) (-1) = i ∧ i < e.length := by
    rcases r1 with h | ⟨j, h1, h2⟩
    · rw [h] at c1; omega
    · exact ⟨j, h1, h2⟩
  rw [hA] at s1 s2
  have t1 := he.at hi
  have t3 := hc.at (i := i) (by omega)
  have g1 : (0 : Int) ≤ (i : Int) := by omega
  have g2 : (i : Int) < ((c.length : Nat) : Int) := by omega
  obtain ⟨⟨ha1, ha2⟩, hb1, hb2⟩ := hall i hi
  unfold iA at ha1 ha2 hb1 hb2
  have fin1 : ∀ c' : List AV, Rw (T2 1048576) 1048576 c' → c'.length = e.length → f47o1_j1 (i : Int) 0 n e b c' = some (.tup [(.agg [(.sl 0 [] none), (.sl 1 [] none), (.sl 2 [] none), (.i .i64 n)]), (.i .i64 0)], [(.live true false false 2 (e.set i (.i .i64 (((e.getD i .x).cells.getD 0 .x).toI + 1)))), (.live true false false 4 b), (.live true false false 2 (c'.set i (.i .i64 0)))]) := fun c' h1 h2 => by
    rw [f47o1_j1_eq, spec_erase n he h1 h2 hi b ha1 ha2]
    simp only [bOwn_some, bOwnF_some, bOwnS_some, bOwnFS_some, okRs_nil, okRs_cons, okR_row, okR_same, okR_var, okR_gone, okS_so, okS_pr, okLens_nil, okLens_same, okLens_row, okLens_var, row_live, flatR_live, flatL_nil, flatL_cons, flat_i, flat_b, flat_s, flat_sl, flat_agg, flat_tup, List.all_cons, List.all_nil, List.length_cons, List.length_nil, Nat.reduceLeDiff, Nat.le_refl, decide_true, Bool.and_self, mkL_length, List.headD_cons, okC_nil, okC_agg, okC_i, okC_b, okC_s, okC_imm, okL_i, okL_b, okL_s, okL_sl, okS_i, okS_b, okS_s, okS_sl, okS_agg, okS_tup, okS_nil, okS_cons, cells_agg, cells_i, cells_b, cells_s, cells_imm, toI_i, toB_b, toS_s, toL_imm, nth_agg, nth_tup, put_agg, put_i, put_b, put_s, put_imm, setCells, List.getD_cons_zero, List.getD_cons_succ, bSh_b, bSh_i, bSh_s, bSh_sl, bSh_some, cond_true, cond_false, decide_true, decide_false, Int.toNat_natCast, Nat.zero_add, Nat.reduceAdd, beq_self_eq_true, Bool.and_true, Bool.true_and, if_true, Bool.false_eq_true, if_false, List.set_cons_zero, List.set_cons_succ, Bool.not_true, Bool.not_false, Bool.and_self, List.length_set]
  have fin2 : ∀ c' : List AV, Rw (T2 1048576) 1048576 c' → c'.length = e.length → f79o1_j1 (i : Int) n e b c' = some ((.i .i64 0), [(.live false true false 33 [(.agg [(.sl 1 [] none), (.sl 2 [] none), (.sl 3 [] none), (.i .i64 n)])]), (.live true false false 2 (e.set i (.i .i64 (((e.getD i .x).cells.getD 0 .x).toI + 1)))), (.live true false false 4 b), (.live true false false 2 (c'.set i (.i .i64 0)))]) := fun c' h1 h2 => by
    rw [f79o1_j1_eq, impl_clear n he h1 h2 hi b ha1 ha2]
    simp only [bOwn_some, bOwnF_some, bOwnS_some, bOwnFS_some, okRs_nil, okRs_cons, okR_row, okR_same, okR_var, okR_gone, okS_so, okS_pr, okLens_nil, okLens_same, okLens_row, okLens_var, row_live, flatR_live, flatL_nil, flatL_cons, flat_i, flat_b, flat_s, flat_sl, flat_agg, flat_tup, List.all_cons, List.all_nil, List.length_cons, List.length_nil, Nat.reduceLeDiff, Nat.le_refl, decide_true, Bool.and_self, mkL_length, List.headD_cons, okC_nil, okC_agg, okC_i, okC_b, okC_s, okC_imm, okL_i, okL_b, okL_s, okL_sl, okS_i, okS_b, okS_s, okS_sl, okS_agg, okS_tup, okS_nil, okS_cons, cells_agg, cells_i, cells_b, cells_s, cells_imm, toI_i, toB_b, toS_s, toL_imm, nth_agg, nth_tup, put_agg, put_i, put_b, put_s, put_imm, setCells, List.getD_cons_zero, List.getD_cons_succ, bSh_b, bSh_i, bSh_s, bSh_sl, bSh_some, cond_true, cond_false, decide_true, decide_false, Int.toNat_natCast, Nat.zero_add, Nat.reduceAdd, beq_self_eq_true, Bool.and_true, Bool.true_and, if_true, Bool.false_eq_true, if_false, List.set_cons_zero, List.set_cons_succ, Bool.not_true, Bool.not_false, Bool.and_self, List.length_set]
  have hmem : bA b i = false := by
    rcases fold_mem (stepL_or e) (goodL e b) (-1) with h | ⟨y, h1, h2⟩
    · rw [hA] at h; omega
    · obtain ⟨j, _, rfl⟩ := goodL_blk y h1
      rw [hA, toI_i] at h2
      have : j = i := by omega
      subst this
      have := (List.mem_filter.1 h1).2
      unfold goodB at this
      simp only [toI_i, Int.toNat_natCast, Bool.not_eq_true'] at this
      exact this
  have hlt : ((e.getD i .x).cells.getD 0 .x).toI < 1000 := by
    unfold gap at hgap
    rw [if_neg hne, hA] at hgap
    obtain ⟨_, r2⟩ := best_more he (Nat.le_trans (goodL_length e b) hel) (goodL_blk (e := e) (b := b))
    have c2 := fold_ge (e := e) (stepM_or e) (stepM_0 e) (goodL e b) (-1) goodL_blk (.inl hne) (.inr rfl)
    rcases r2 with h | ⟨k, h1, h2⟩
    · omega
    · rw [h1] at hgap
      have := (hall k h2).1.2
      have e1 : eC e (k : Int) = iA e k := rfl
      have e2 : eC e (i : Int) = ((e.getD i .x).cells.getD 0 .x).toI := rfl
      omega
  have te : Rw (T2 1048576) 1048576 (e.set i (.i .i64 (((e.getD i .x).cells.getD 0 .x).toI + 1))) := t2_set he _ _ (by constructor <;> omega)
  have hmu : mu (e.set i (.i .i64 (((e.getD i .x).cells.getD 0 .x).toI + 1))) < mu e := by
    refine sum_set e i _ hi ?_
    simp only [okC_nil, okC_agg, okC_i, okC_b, okC_s, okC_imm, okL_i, okL_b, okL_s, okL_sl, okS_i, okS_b, okS_s, okS_sl, okS_agg, okS_tup, okS_nil, okS_cons, cells_agg, cells_i, cells_b, cells_s, cells_imm, toI_i, toB_b, toS_s, toL_imm, nth_agg, nth_tup, put_agg, put_i, put_b, put_s, put_imm, setCells, List.getD_cons_zero, List.getD_cons_succ, bSh_b, bSh_i, bSh_s, bSh_sl, bSh_some, cond_true, cond_false, decide_true, decide_false, Int.toNat_natCast, Nat.zero_add, Nat.reduceAdd, beq_self_eq_true, Bool.and_true, Bool.true_and, if_true, Bool.false_eq_true, if_false, List.set_cons_zero, List.set_cons_succ, Bool.not_true, Bool.not_false, Bool.and_self]
    omega
  have keep : ∀ c' : List AV, c'.length = c.length → (∀ k, k < e.length → k ≠ i → (0 ≤ iA c' k ∧ iA c' k ≤ 2) ∧ (bA b k = true → iA c' k = 0)) → okWear (e.set i (.i .i64 (((e.getD i .x).cells.getD 0 .x).toI + 1))) b (c'.set i (.i .i64 0)) n = true := by
    intro c' hl hk
    refine okWear_mk hok (by rw [List.length_set]) (by rw [List.length_set, hl]) fun k hk1 => ?_
    have h0 := okWear_all hok k hk1
    have hr := (hall k hk1).1
    unfold okW
    rw [iA_set hi, iA_set (by omega)]
    by_cases hki : k = i
    · subst hki
      simp only [if_true, hmem, Bool.false_and, Bool.not_false, Bool.and_true]
      simp only [Bool.and_eq_true, decide_eq_true_eq]
      omega
    · obtain ⟨h1, h2⟩ := hk k hk1 hki
      simp only [hki, if_false]
      simp only [Bool.and_eq_true, decide_eq_true_eq, Bool.not_eq_true']
      refine ⟨hr, h1, ?_⟩
      cases hbk : bA b k with
      | false => rfl
      | true => simp [h2 hbk]
  simp only [s1, spec_own n he hb hc, bOwn_some, bOwnF_some, bOwnS_some, bOwnFS_some, okRs_nil, okRs_cons, okR_row, okR_same, okR_var, okR_gone, okS_so, okS_pr, okLens_nil, okLens_same, okLens_row, okLens_var, row_live, flatR_live, flatL_nil, flatL_cons, flat_i, flat_b, flat_s, flat_sl, flat_agg, flat_tup, List.all_cons, List.all_nil, List.length_cons, List.length_nil, Nat.reduceLeDiff, Nat.le_refl, decide_true, Bool.and_self, mkL_length, List.headD_cons, okC_nil, okC_agg, okC_i, okC_b, okC_s, okC_imm, okL_i, okL_b, okL_s, okL_sl, okS_i, okS_b, okS_s, okS_sl, okS_agg, okS_tup, okS_nil, okS_cons, cells_agg, cells_i, cells_b, cells_s, cells_imm, toI_i, toB_b, toS_s, toL_imm, nth_agg, nth_tup, put_agg, put_i, put_b, put_s, put_imm, setCells, List.getD_cons_zero, List.getD_cons_succ, bSh_b, bSh_i, bSh_s, bSh_sl, bSh_some, cond_true, cond_false, decide_true, decide_false, Int.toNat_natCast, Nat.zero_add, Nat.reduceAdd, beq_self_eq_true, Bool.and_true, Bool.true_and, if_true, Bool.false_eq_true, if_false, List.set_cons_zero, List.set_cons_succ, Bool.not_true, Bool.not_false, Bool.and_self]
  rw [f79o1_eq, s2]
  simp only [g1, g2, Int.toNat_natCast, t3.ok, bOwn_some, bOwnF_some, bOwnS_some, bOwnFS_some, okRs_nil, okRs_cons, okR_row, okR_same, okR_var, okR_gone, okS_so, okS_pr, okLens_nil, okLens_same, okLens_row, okLens_var, row_live, flatR_live, flatL_nil, flatL_cons, flat_i, flat_b, flat_s, flat_sl, flat_agg, flat_tup, List.all_cons, List.all_nil, List.length_cons, List.length_nil, Nat.reduceLeDiff, Nat.le_refl, decide_true, Bool.and_self, mkL_length, List.headD_cons, okC_nil, okC_agg, okC_i, okC_b, okC_s, okC_imm, okL_i, okL_b, okL_s, okL_sl, okS_i, okS_b, okS_s, okS_sl, okS_agg, okS_tup, okS_nil, okS_cons, cells_agg, cells_i, cells_b, cells_s, cells_imm, toI_i, toB_b, toS_s, toL_imm, nth_agg, nth_tup, put_agg, put_i, put_b, put_s, put_imm, setCells, List.getD_cons_zero, List.getD_cons_succ, bSh_b, bSh_i, bSh_s, bSh_sl, bSh_some, cond_true, cond_false, decide_true, decide_false, Int.toNat_natCast, Nat.zero_add, Nat.reduceAdd, beq_self_eq_true, Bool.and_true, Bool.true_and, if_true, Bool.false_eq_true, if_false, List.set_cons_zero, List.set_cons_succ, Bool.not_true, Bool.not_false, Bool.and_self]
  have hbad : ∀ k, k < e.length → bA b k = true → iA c k = 0 := fun k hk hbk => by
    have h0 := okWear_all hok k hk
    unfold okW at h0
    simp only [hbk, Bool.true_and, Bool.not_not, Bool.and_eq_true, decide_eq_true_eq] at h0
    exact h0.2.2
  by_cases hfree : ((c.getD i .x).cells.getD 0 .x).toI = 0
  · right
    refine ⟨_, c.set i (.i .i64 0), te, t2_set hc _ _ z64, keep c rfl fun k hk _ => ⟨(hall k hk).2, hbad k hk⟩, hmu, by rw [List.length_set], by rw [List.length_set], ?_, ?_⟩
    · simp only [hfree, fin1 c hc hcl, true_and, if_true, bOwn_some, bOwnF_some, bOwnS_some, bOwnFS_some, okRs_nil, okRs_cons, okR_row, okR_same, okR_var, okR_gone, okS_so, okS_pr, okLens_nil, okLens_same, okLens_row, okLens_var, row_live, flatR_live, flatL_nil, flatL_cons, flat_i, flat_b, flat_s, flat_sl, flat_agg, flat_tup, List.all_cons, List.all_nil, List.length_cons, List.length_nil, Nat.reduceLeDiff, Nat.le_refl, decide_true, Bool.and_self, mkL_length, List.headD_cons, okC_nil, okC_agg, okC_i, okC_b, okC_s, okC_imm, okL_i, okL_b, okL_s, okL_sl, okS_i, okS_b, okS_s, okS_sl, okS_agg, okS_tup, okS_nil, okS_cons, cells_agg, cells_i, cells_b, cells_s, cells_imm, toI_i, toB_b, toS_s, toL_imm, nth_agg, nth_tup, put_agg, put_i, put_b, put_s, put_imm, setCells, List.getD_cons_zero, List.getD_cons_succ, bSh_b, bSh_i, bSh_s, bSh_sl, bSh_some, cond_true, cond_false, decide_true, decide_false, Int.toNat_natCast, Nat.zero_add, Nat.reduceAdd, beq_self_eq_true, Bool.and_true, Bool.true_and, if_true, Bool.false_eq_true, if_false, List.set_cons_zero, List.set_cons_succ, Bool.not_true, Bool.not_false, Bool.and_self]
    · simp only [hfree, fin2 c hc hcl, true_and, if_true, bOwn_some, bOwnF_some, bOwnS_some, bOwnFS_some, okRs_nil, okRs_cons, okR_row, okR_same, okR_var, okR_gone, okS_so, okS_pr, okLens_nil, okLens_same, okLens_row, okLens_var, row_live, flatR_live, flatL_nil, flatL_cons, flat_i, flat_b, flat_s, flat_sl, flat_agg, flat_tup, List.all_cons, List.all_nil, List.length_cons, List.length_nil, Nat.reduceLeDiff, Nat.le_refl, decide_true, Bool.and_self, mkL_length, List.headD_cons, okC_nil, okC_agg, okC_i, okC_b, okC_s, okC_imm, okL_i, okL_b, okL_s, okL_sl, okS_i, okS_b, okS_s, okS_sl, okS_agg, okS_tup, okS_nil, okS_cons, cells_agg, cells_i, cells_b, cells_s, cells_imm, toI_i, toB_b, toS_s, toL_imm, nth_agg, nth_tup, put_agg, put_i, put_b, put_s, put_imm, setCells, List.getD_cons_zero, List.getD_cons_succ, bSh_b, bSh_i, bSh_s, bSh_sl, bSh_some, cond_true, cond_false, decide_true, decide_false, Int.toNat_natCast, Nat.zero_add, Nat.reduceAdd, beq_self_eq_true, Bool.and_true, Bool.true_and, if_true, Bool.false_eq_true, if_false, List.set_cons_zero, List.set_cons_succ, Bool.not_true, Bool.not_false, Bool.and_self]
  · obtain ⟨a, ha, p1, p2⟩ := pick he (Nat.le_trans (freeL_length e b c) he.1) (freeL_blk (e := e) (b := b) (c := c)) false
    obtain ⟨r, f1, f2, f3⟩ := impl_free n he hb hc hbl hcl
    rcases ha with rfl | ⟨j, rfl, hj⟩
    · left
      constructor
      · simp only [hfree, true_and, if_true, spec_free n he hb hc hbl hcl, p1, show (-1 : Int) < 0 from by decide, bOwn_some, bOwnF_some, bOwnS_some, bOwnFS_some, okRs_nil, okRs_cons, okR_row, okR_same, okR_var, okR_gone, okS_so, okS_pr, okLens_nil, okLens_same, okLens_row, okLens_var, row_live, flatR_live, flatL_nil, flatL_cons, flat_i, flat_b, flat_s, flat_sl, flat_agg, flat_tup, List.all_cons, List.all_nil, List.length_cons, List.length_nil, Nat.reduceLeDiff, Nat.le_refl, decide_true, Bool.and_self, mkL_length, List.headD_cons, okC_nil, okC_agg, okC_i, okC_b, okC_s, okC_imm, okL_i, okL_b, okL_s, okL_sl, okS_i, okS_b, okS_s, okS_sl, okS_agg, okS_tup, okS_nil, okS_cons, cells_agg, cells_i, cells_b, cells_s, cells_imm, toI_i, toB_b, toS_s, toL_imm, nth_agg, nth_tup, put_agg, put_i, put_b, put_s, put_imm, setCells, List.getD_cons_zero, List.getD_cons_succ, bSh_b, bSh_i, bSh_s, bSh_sl, bSh_some, cond_true, cond_false, decide_true, decide_false, Int.toNat_natCast, Nat.zero_add, Nat.reduceAdd, beq_self_eq_true, Bool.and_true, Bool.true_and, if_true, Bool.false_eq_true, if_false, List.set_cons_zero, List.set_cons_succ, Bool.not_true, Bool.not_false, Bool.and_self]
      · simp only [hfree, true_and, if_true, f1, f2, f3, p2, AV.off, AV.cnt, List.drop_zero, show (-1 : Int) < 0 from by decide, bOwn_some, bOwnF_some, bOwnS_some, bOwnFS_some, okRs_nil, okRs_cons, okR_row, okR_same, okR_var, okR_gone, okS_so, okS_pr, okLens_nil, okLens_same, okLens_row, okLens_var, row_live, flatR_live, flatL_nil, flatL_cons, flat_i, flat_b, flat_s, flat_sl, flat_agg, flat_tup, List.all_cons, List.all_nil, List.length_cons, List.length_nil, Nat.reduceLeDiff, Nat.le_refl, decide_true, Bool.and_self, mkL_length, List.headD_cons, okC_nil, okC_agg, okC_i, okC_b, okC_s, okC_imm, okL_i, okL_b, okL_s, okL_sl, okS_i, okS_b, okS_s, okS_sl, okS_agg, okS_tup, okS_nil, okS_cons, cells_agg, cells_i, cells_b, cells_s, cells_imm, toI_i, toB_b, toS_s, toL_imm, nth_agg, nth_tup, put_agg, put_i, put_b, put_s, put_imm, setCells, List.getD_cons_zero, List.getD_cons_succ, bSh_b, bSh_i, bSh_s, bSh_sl, bSh_some, cond_true, cond_false, decide_true, decide_false, Int.toNat_natCast, Nat.zero_add, Nat.reduceAdd, beq_self_eq_true, Bool.and_true, Bool.true_and, if_true, Bool.false_eq_true, if_false, List.set_cons_zero, List.set_cons_succ, Bool.not_true, Bool.not_false, Bool.and_self]
    · right
      obtain ⟨k, hk, hjk⟩ := freeL_blk _ hj
      have hjc : j < c.length := by
        simp only [AV.i.injEq] at hjk
        omega
      have hjb : bA b j = false := by
        have := (List.mem_filter.1 (List.mem_filter.1 hj).1).2
        unfold goodB at this
        simp only [toI_i, Int.toNat_natCast, Bool.not_eq_true'] at this
        exact this
      have t4 := hc.at hjc
      have g3 : (0 : Int) ≤ (j : Int) := by omega
      have g4 : (j : Int) < ((c.length : Nat) : Int) := by omega
      have g5 : ¬ (j : Int) < 0 := by omega
      have tc : Rw (T2 1048576) 1048576 (c.set j (.i .i64 ((c.getD i .x).cells.getD 0 .x).toI)) := t2_set hc _ _ (by constructor <;> omega)
      have lc : (c.set j (.i .i64 ((c.getD i .x).cells.getD 0 .x).toI)).length = e.length := by rw [List.length_set]; exact hcl
      refine ⟨_, (c.set j (.i .i64 ((c.getD i .x).cells.getD 0 .x).toI)).set i (.i .i64 0), te, t2_set tc _ _ z64, keep _ (by rw [List.length_set]) fun k hk _ => ?_, hmu, by rw [List.length_set], by rw [List.length_set, List.length_set], ?_, ?_⟩
      · rw [iA_set hjc]
        by_cases hkj : k = j
        · subst hkj
          rw [if_pos rfl]
          exact ⟨⟨hb1, hb2⟩, fun h => by rw [hjb] at h; cases h⟩
        · rw [if_neg hkj]
          exact ⟨(hall k hk).2, hbad k hk⟩
      · simp only [hfree, spec_free n he hb hc hbl hcl, p1, g1, g2, g3, g4, g5, true_and, if_true, Int.toNat_natCast, Nat.zero_add, t3.ok, t2_put t4, fin1 _ tc lc, bOwn_some, bOwnF_some, bOwnS_some, bOwnFS_some, okRs_nil, okRs_cons, okR_row, okR_same, okR_var, okR_gone, okS_so, okS_pr, okLens_nil, okLens_same, okLens_row, okLens_var, row_live, flatR_live, flatL_nil, flatL_cons, flat_i, flat_b, flat_s, flat_sl, flat_agg, flat_tup, List.all_cons, List.all_nil, List.length_cons, List.length_nil, Nat.reduceLeDiff, Nat.le_refl, decide_true, Bool.and_self, mkL_length, List.headD_cons, okC_nil, okC_agg, okC_i, okC_b, okC_s, okC_imm, okL_i, okL_b, okL_s, okL_sl, okS_i, okS_b, okS_s, okS_sl, okS_agg, okS_tup, okS_nil, okS_cons, cells_agg, cells_i, cells_b, cells_s, cells_imm, toI_i, toB_b, toS_s, toL_imm, nth_agg, nth_tup, put_agg, put_i, put_b, put_s, put_imm, setCells, List.getD_cons_zero, List.getD_cons_succ, bSh_b, bSh_i, bSh_s, bSh_sl, bSh_some, cond_true, cond_false, decide_true, decide_false, Int.toNat_natCast, Nat.zero_add, Nat.reduceAdd, beq_self_eq_true, Bool.and_true, Bool.true_and, if_true, Bool.false_eq_true, if_false, List.set_cons_zero, List.set_cons_succ, Bool.not_true, Bool.not_false, Bool.and_self]
      · simp only [hfree, f1, f2, f3, p2, AV.off, AV.cnt, List.drop_zero, g1, g2, g3, g4, g5, true_and, if_true, Int.toNat_natCast, Nat.zero_add, t3.ok, t2_put t4, fin2 _ tc lc, bOwn_some, bOwnF_some, bOwnS_some, bOwnFS_some, okRs_nil, okRs_cons, okR_row, okR_same, okR_var, okR_gone, okS_so, okS_pr, okLens_nil, okLens_same, okLens_row, okLens_var, row_live, flatR_live, flatL_nil, flatL_cons, flat_i, flat_b, flat_s, flat_sl, flat_agg, flat_tup, List.all_cons, List.all_nil, List.length_cons, List.length_nil, Nat.reduceLeDiff, Nat.le_refl, decide_true, Bool.and_self, mkL_length, List.headD_cons, okC_nil, okC_agg, okC_i, okC_b, okC_s, okC_imm, okL_i, okL_b, okL_s, okL_sl, okS_i, okS_b, okS_s, okS_sl, okS_agg, okS_tup, okS_nil, okS_cons, cells_agg, cells_i, cells_b, cells_s, cells_imm, toI_i, toB_b, toS_s, toL_imm, nth_agg, nth_tup, put_agg, put_i, put_b, put_s, put_imm, setCells, List.getD_cons_zero, List.getD_cons_succ, bSh_b, bSh_i, bSh_s, bSh_sl, bSh_some, cond_true, cond_false, decide_true, decide_false, Int.toNat_natCast, Nat.zero_add, Nat.reduceAdd, beq_self_eq_true, Bool.and_true, Bool.true_and, if_true, Bool.false_eq_true, if_false, List.set_cons_zero, List.set_cons_succ, Bool.not_true, Bool.not_false, Bool.and_self]


/-- The loop: move after move, as long as one is needed. -/
theorem level_loop {b : List AV} (n : Int) (hb : Rw (T4 1048576) 1048576 b) (hn : W64 n) : ∀ (N : Nat) (t : Int) (e c : List AV), mu e ≤ N → Rw (T2 1048576) 1048576 e → Rw (T2 1048576) 1048576 c → okWear e b c n = true →
    ∃ (r0 r1 r2 : List AV) (m a k : Int), Rw (T2 1048576) 1048576 r0 ∧ Rw (T4 1048576) 1048576 r1 ∧ Rw (T2 1048576) 1048576 r2 ∧ W64 m ∧
      f56o1_l1 t 0 n e b c = some (.tup [(.agg [(.sl 0 [] none), (.sl 1 [] none), (.sl 2 [] none), (.i .i64 m)]), (.i .i64 a), (.i .i64 k)], [(.live true false false 2 r0), (.live true false false 4 r1), (.live true false false 2 r2)]) ∧
      f20o1_l1 t 0 n e b c = some (.tup [(.agg [(.sl 0 [] none), (.sl 1 [] none), (.sl 2 [] none), (.i .i64 m)]), (.i .i64 a), (.i .i64 k)], [(.live true false false 2 r0), (.live true false false 4 r1), (.live true false false 2 r2)]) := by
  have z64 : W64 0 := by constructor <;> omega
  intro N
  induction N with
  | zero =>
    intro t e c hm he hc hok
    obtain ⟨d1, d2⟩ := needs1 (c := c) n he hb hok
    rw [f56o1_l1_eq, f20o1_l1_eq, d1, d2]
    by_cases hgap : n < gap e b
    · rcases move1 n he hb hc hok hgap with ⟨h1, h2⟩ | ⟨e', c', _, _, _, h4, _⟩
      · have f0 : flatVL ([] : List AV) = true := rfl
        simp only [hgap, h1, h2, bOwn_some, bOwnF_some, bOwnS_some, bOwnFS_some, okRs_nil, okRs_cons, okR_row, okR_same, okR_var, okR_gone, okS_so, okS_pr, okLens_nil, okLens_same, okLens_row, okLens_var, row_live, flatR_live, flatL_nil, flatL_cons, flat_i, flat_b, flat_s, flat_sl, flat_agg, flat_tup, List.all_cons, List.all_nil, List.length_cons, List.length_nil, Nat.reduceLeDiff, Nat.le_refl, decide_true, Bool.and_self, mkL_length, List.headD_cons, okC_nil, okC_agg, okC_i, okC_b, okC_s, okC_imm, okL_i, okL_b, okL_s, okL_sl, okS_i, okS_b, okS_s, okS_sl, okS_agg, okS_tup, okS_nil, okS_cons, cells_agg, cells_i, cells_b, cells_s, cells_imm, toI_i, toB_b, toS_s, toL_imm, nth_agg, nth_tup, put_agg, put_i, put_b, put_s, put_imm, setCells, List.getD_cons_zero, List.getD_cons_succ, bSh_b, bSh_i, bSh_s, bSh_sl, bSh_some, cond_true, cond_false, decide_true, decide_false, Int.toNat_natCast, Nat.zero_add, Nat.reduceAdd, beq_self_eq_true, Bool.and_true, Bool.true_and, if_true, Bool.false_eq_true, if_false, List.set_cons_zero, List.set_cons_succ, Bool.not_true, Bool.not_false, Bool.and_self]
        exact ⟨[], [], [], 0, 0, 4, t2_nil, t4_nil, t2_nil, z64, rfl, rfl⟩
      · omega
    · simp only [hgap, okC_nil, okC_agg, okC_i, okC_b, okC_s, okC_imm, okL_i, okL_b, okL_s, okL_sl, okS_i, okS_b, okS_s, okS_sl, okS_agg, okS_tup, okS_nil, okS_cons, cells_agg, cells_i, cells_b, cells_s, cells_imm, toI_i, toB_b, toS_s, toL_imm, nth_agg, nth_tup, put_agg, put_i, put_b, put_s, put_imm, setCells, List.getD_cons_zero, List.getD_cons_succ, bSh_b, bSh_i, bSh_s, bSh_sl, bSh_some, cond_true, cond_false, decide_true, decide_false, Int.toNat_natCast, Nat.zero_add, Nat.reduceAdd, beq_self_eq_true, Bool.and_true, Bool.true_and, if_true, Bool.false_eq_true, if_false, List.set_cons_zero, List.set_cons_succ, Bool.not_true, Bool.not_false, Bool.and_self]
      exact ⟨e, b, c, n, t, 0, he, hb, hc, hn, rfl, rfl⟩
  | succ N ih =>
    intro t e c hm he hc hok
    obtain ⟨d1, d2⟩ := needs1 (c := c) n he hb hok
    rw [f56o1_l1_eq, f20o1_l1_eq, d1, d2]
    by_cases hgap : n < gap e b
    · rcases move1 n he hb hc hok hgap with ⟨h1, h2⟩ | ⟨e', c', h1, h2, h3, h4, h5, h6, h7, h8⟩
      · simp only [hgap, h1, h2, bOwn_some, bOwnF_some, bOwnS_some, bOwnFS_some, okRs_nil, okRs_cons, okR_row, okR_same, okR_var, okR_gone, okS_so, okS_pr, okLens_nil, okLens_same, okLens_row, okLens_var, row_live, flatR_live, flatL_nil, flatL_cons, flat_i, flat_b, flat_s, flat_sl, flat_agg, flat_tup, List.all_cons, List.all_nil, List.length_cons, List.length_nil, Nat.reduceLeDiff, Nat.le_refl, decide_true, Bool.and_self, mkL_length, List.headD_cons, okC_nil, okC_agg, okC_i, okC_b, okC_s, okC_imm, okL_i, okL_b, okL_s, okL_sl, okS_i, okS_b, okS_s, okS_sl, okS_agg, okS_tup, okS_nil, okS_cons, cells_agg, cells_i, cells_b, cells_s, cells_imm, toI_i, toB_b, toS_s, toL_imm, nth_agg, nth_tup, put_agg, put_i, put_b, put_s, put_imm, setCells, List.getD_cons_zero, List.getD_cons_succ, bSh_b, bSh_i, bSh_s, bSh_sl, bSh_some, cond_true, cond_false, decide_true, decide_false, Int.toNat_natCast, Nat.zero_add, Nat.reduceAdd, beq_self_eq_true, Bool.and_true, Bool.true_and, if_true, Bool.false_eq_true, if_false, List.set_cons_zero, List.set_cons_succ, Bool.not_true, Bool.not_false, Bool.and_self]
        exact ⟨[], [], [], 0, 0, 4, t2_nil, t4_nil, t2_nil, z64, rfl, rfl⟩
      · have f0 := t2_flat h1
        have f1 := t4_flat hb
        have f2 := t2_flat h2
        have l1 : e.length = e'.length := h5.symm
        have l2 : c.length = c'.length := h6.symm
        simp only [hgap, h7, h8, f0, f1, f2, l1, l2, bOwn_some, bOwnF_some, bOwnS_some, bOwnFS_some, okRs_nil, okRs_cons, okR_row, okR_same, okR_var, okR_gone, okS_so, okS_pr, okLens_nil, okLens_same, okLens_row, okLens_var, row_live, flatR_live, flatL_nil, flatL_cons, flat_i, flat_b, flat_s, flat_sl, flat_agg, flat_tup, List.all_cons, List.all_nil, List.length_cons, List.length_nil, Nat.reduceLeDiff, Nat.le_refl, decide_true, Bool.and_self, mkL_length, List.headD_cons, okC_nil, okC_agg, okC_i, okC_b, okC_s, okC_imm, okL_i, okL_b, okL_s, okL_sl, okS_i, okS_b, okS_s, okS_sl, okS_agg, okS_tup, okS_nil, okS_cons, cells_agg, cells_i, cells_b, cells_s, cells_imm, toI_i, toB_b, toS_s, toL_imm, nth_agg, nth_tup, put_agg, put_i, put_b, put_s, put_imm, setCells, List.getD_cons_zero, List.getD_cons_succ, bSh_b, bSh_i, bSh_s, bSh_sl, bSh_some, cond_true, cond_false, decide_true, decide_false, Int.toNat_natCast, Nat.zero_add, Nat.reduceAdd, beq_self_eq_true, Bool.and_true, Bool.true_and, if_true, Bool.false_eq_true, if_false, List.set_cons_zero, List.set_cons_succ, Bool.not_true, Bool.not_false, Bool.and_self]
        exact ih _ e' c' (by omega) h1 h2 h3
    · simp only [hgap, okC_nil, okC_agg, okC_i, okC_b, okC_s, okC_imm, okL_i, okL_b, okL_s, okL_sl, okS_i, okS_b, okS_s, okS_sl, okS_agg, okS_tup, okS_nil, okS_cons, cells_agg, cells_i, cells_b, cells_s, cells_imm, toI_i, toB_b, toS_s, toL_imm, nth_agg, nth_tup, put_agg, put_i, put_b, put_s, put_imm, setCells, List.getD_cons_zero, List.getD_cons_succ, bSh_b, bSh_i, bSh_s, bSh_sl, bSh_some, cond_true, cond_false, decide_true, decide_false, Int.toNat_natCast, Nat.zero_add, Nat.reduceAdd, beq_self_eq_true, Bool.and_true, Bool.true_and, if_true, Bool.false_eq_true, if_false, List.set_cons_zero, List.set_cons_succ, Bool.not_true, Bool.not_false, Bool.and_self]
      exact ⟨e, b, c, n, t, 0, he, hb, hc, hn, rfl, rfl⟩

/-- What both answer. -/
theorem levels {e b c : List AV} (n : Int) (he : Rw (T2 1048576) 1048576 e) (hb : Rw (T4 1048576) 1048576 b) (hc : Rw (T2 1048576) 1048576 c) (hn : W64 n) : ∃ (r0 r1 r2 : List AV) (m a k : Int), Rw (T2 1048576) 1048576 r0 ∧ Rw (T4 1048576) 1048576 r1 ∧ Rw (T2 1048576) 1048576 r2 ∧ W64 m ∧
    dno E 56 [(.agg [(.imm 1 e), (.imm 1 b), (.imm 1 c), (.i .i64 n)])] [] = some (.tup [(.agg [(.sl 0 [] none), (.sl 1 [] none), (.sl 2 [] none), (.i .i64 m)]), (.i .i64 a), (.i .i64 k)], [(.live true false false 2 r0), (.live true false false 4 r1), (.live true false false 2 r2)]) ∧
    dno E 20 [(.agg [(.imm 1 e), (.imm 1 b), (.imm 1 c), (.i .i64 n)])] [] = some (.tup [(.agg [(.sl 0 [] none), (.sl 1 [] none), (.sl 2 [] none), (.i .i64 m)]), (.i .i64 a), (.i .i64 k)], [(.live true false false 2 r0), (.live true false false 4 r1), (.live true false false 2 r2)]) := by
  have z64 : W64 0 := by constructor <;> omega
  rw [f20o1_eq, impl_wear n he hb hc, f56o1_eq, spec_wear n he hb hc]
  simp only [okC_nil, okC_agg, okC_i, okC_b, okC_s, okC_imm, okL_i, okL_b, okL_s, okL_sl, okS_i, okS_b, okS_s, okS_sl, okS_agg, okS_tup, okS_nil, okS_cons, cells_agg, cells_i, cells_b, cells_s, cells_imm, toI_i, toB_b, toS_s, toL_imm, nth_agg, nth_tup, put_agg, put_i, put_b, put_s, put_imm, setCells, List.getD_cons_zero, List.getD_cons_succ, bSh_b, bSh_i, bSh_s, bSh_sl, bSh_some, cond_true, cond_false, decide_true, decide_false, Int.toNat_natCast, Nat.zero_add, Nat.reduceAdd, beq_self_eq_true, Bool.and_true, Bool.true_and, if_true, Bool.false_eq_true, if_false, List.set_cons_zero, List.set_cons_succ, Bool.not_true, Bool.not_false, Bool.and_self]
  by_cases hok : okWear e b c n = true
  rotate_left
  · rw [Bool.not_eq_true] at hok
    simp only [hok, okC_nil, okC_agg, okC_i, okC_b, okC_s, okC_imm, okL_i, okL_b, okL_s, okL_sl, okS_i, okS_b, okS_s, okS_sl, okS_agg, okS_tup, okS_nil, okS_cons, cells_agg, cells_i, cells_b, cells_s, cells_imm, toI_i, toB_b, toS_s, toL_imm, nth_agg, nth_tup, put_agg, put_i, put_b, put_s, put_imm, setCells, List.getD_cons_zero, List.getD_cons_succ, bSh_b, bSh_i, bSh_s, bSh_sl, bSh_some, cond_true, cond_false, decide_true, decide_false, Int.toNat_natCast, Nat.zero_add, Nat.reduceAdd, beq_self_eq_true, Bool.and_true, Bool.true_and, if_true, Bool.false_eq_true, if_false, List.set_cons_zero, List.set_cons_succ, Bool.not_true, Bool.not_false, Bool.and_self]
    exact ⟨[], [], [], 0, 0, 1, t2_nil, t4_nil, t2_nil, z64, rfl, rfl⟩
  rw [impl_clone n he hb hc, spec_own n he hb hc]
  simp only [hok, bOwn_some, bOwnF_some, bOwnS_some, bOwnFS_some, okRs_nil, okRs_cons, okR_row, okR_same, okR_var, okR_gone, okS_so, okS_pr, okLens_nil, okLens_same, okLens_row, okLens_var, row_live, flatR_live, flatL_nil, flatL_cons, flat_i, flat_b, flat_s, flat_sl, flat_agg, flat_tup, List.all_cons, List.all_nil, List.length_cons, List.length_nil, Nat.reduceLeDiff, Nat.le_refl, decide_true, Bool.and_self, mkL_length, List.headD_cons, okC_nil, okC_agg, okC_i, okC_b, okC_s, okC_imm, okL_i, okL_b, okL_s, okL_sl, okS_i, okS_b, okS_s, okS_sl, okS_agg, okS_tup, okS_nil, okS_cons, cells_agg, cells_i, cells_b, cells_s, cells_imm, toI_i, toB_b, toS_s, toL_imm, nth_agg, nth_tup, put_agg, put_i, put_b, put_s, put_imm, setCells, List.getD_cons_zero, List.getD_cons_succ, bSh_b, bSh_i, bSh_s, bSh_sl, bSh_some, cond_true, cond_false, decide_true, decide_false, Int.toNat_natCast, Nat.zero_add, Nat.reduceAdd, beq_self_eq_true, Bool.and_true, Bool.true_and, if_true, Bool.false_eq_true, if_false, List.set_cons_zero, List.set_cons_succ, Bool.not_true, Bool.not_false, Bool.and_self]
  exact level_loop n hb hn (mu e) 0 e c (Nat.le_refl _) he hc hok

theorem pure (el : AV) (h : T50 9223372036854775807 el) : den E 11 [el] [] = some (.b true) := by
  obtain ⟨r, hr, hq⟩ := sz30 h 1048576 (by omega) (by omega)
  obtain ⟨e, b, c, n, rfl, w0, w1, w2, w3, _⟩ := h
  rw [f11_eq, hr]
  simp only [bSh_i, toI_i]
  rcases hq with hq | ⟨h0, h1, hT⟩
  · simp only [hq, decide_true, cond_true]
  have hn : ¬ r < 0 := by omega
  simp only [hn, decide_false, cond_false]
  obtain ⟨e', b', c', n', he, v0, v1, v2, v3, _⟩ := hT
  cases he
  obtain ⟨r0, r1, r2, m, a, k, u0, u1, u2, u3, hs, hi⟩ := levels n v0 v1 v2 v3
  have e0 := own_wear n v0 v1 v2
  have q0 := eq34 (el := .agg [(.imm 1 e), (.imm 1 b), (.imm 1 c), (.i .i64 n)]) ⟨e, b, c, n, rfl, v0, v1, v2, v3, trivial⟩
  have q1 := eq34 (el := .agg [(.imm 1 r0), (.imm 1 r1), (.imm 1 r2), (.i .i64 m)]) ⟨r0, r1, r2, m, rfl, u0, u1, u2, u3, trivial⟩
  have m0 := mark_wear n v0 v1 v2
  have m1 := mark_wear m u0 u1 u2
  have g1 := held_wear r0.length r1.length r2.length m u0.1 u1.1 u2.1
  have k0 : ¬ 1 + ((e.length : Nat) : Int) + ((b.length : Nat) : Int) + ((c.length : Nat) : Int) < 0 := by omega
  have k1 : ¬ 1 + ((r0.length : Nat) : Int) + ((r1.length : Nat) : Int) + ((r2.length : Nat) : Int) < 0 := by omega
  have f0 := t2_flat u0
  have f1 := t4_flat u1
  have f2 := t2_flat u2
  simp only [e0, hs, hi, q0, q1, m0, m1, g1, k0, k1, f0, f1, f2, bOwn_some, bOwnF_some, bOwnS_some, bOwnFS_some, okRs_nil, okRs_cons, okR_row, okR_same, okR_var, okR_gone, okS_so, okS_pr, okLens_nil, okLens_same, okLens_row, okLens_var, row_live, flatR_live, flatL_nil, flatL_cons, flat_i, flat_b, flat_s, flat_sl, flat_agg, flat_tup, List.all_cons, List.all_nil, List.length_cons, List.length_nil, Nat.reduceLeDiff, Nat.le_refl, decide_true, Bool.and_self, mkL_length, List.headD_cons, okC_nil, okC_agg, okC_i, okC_b, okC_s, okC_imm, okL_i, okL_b, okL_s, okL_sl, okS_i, okS_b, okS_s, okS_sl, okS_agg, okS_tup, okS_nil, okS_cons, cells_agg, cells_i, cells_b, cells_s, cells_imm, toI_i, toB_b, toS_s, toL_imm, nth_agg, nth_tup, put_agg, put_i, put_b, put_s, put_imm, setCells, List.getD_cons_zero, List.getD_cons_succ, bSh_b, bSh_i, bSh_s, bSh_sl, bSh_some, cond_true, cond_false, decide_true, decide_false, Int.toNat_natCast, Nat.zero_add, Nat.reduceAdd, beq_self_eq_true, Bool.and_true, Bool.true_and, if_true, Bool.false_eq_true, if_false, List.set_cons_zero, List.set_cons_succ, Bool.not_true, Bool.not_false, Bool.and_self]

end Go.Proofs.Ytcjfeglalmlkbaa.ILevelWear
