/- DropHidden: the program's answer is the reference's, for every list of records, snapshots and level. No condition beyond what each theorem states. -/
import Derived.Test.YtokpbjbngnlepaaIDropHiddenf
import Derived.Test.YtokpbjbngnlepaaItMk
namespace Go.Proofs.Ytokpbjbngnlepaa.IDropHidden
open Go Go.Proofs.YtokpbjbngnlepaaIT
set_option linter.unusedSimpArgs false

theorem in90 (a lo hi : Int) : den E 97 [(.i .i64 a), (.i .i64 lo), (.i .i64 hi)] [] = some (.b (decide (lo ≤ a) && decide (a ≤ hi))) := by
  rw [f97_eq, beq_true, cond_andb]
theorem in72 (a lo hi : Int) : den E 102 [(.i .i64 a), (.i .i64 lo), (.i .i64 hi)] [] = some (.b (decide (lo ≤ a) && decide (a ≤ hi))) := by
  rw [f102_eq, beq_true, cond_andb]


theorem cb_lt : ∀ x y : List UInt8, (Lib.compareBytes x y < 0 ↔ Op.bytesLess x y = true)
  | [], [] => by simp [Lib.compareBytes, Op.bytesLess]
  | [], _ :: _ => by simp [Lib.compareBytes, Op.bytesLess]
  | _ :: _, [] => by simp [Lib.compareBytes, Op.bytesLess]
  | a :: x, b :: y => by
    have ih := cb_lt x y
    simp only [Lib.compareBytes, Op.bytesLess]
    by_cases h1 : a < b
    · simp [h1]
    · by_cases h2 : b < a
      · have h3 : ¬ a = b := by rintro rfl; exact absurd h2 h1
        simp [h1, h2, h3]
      · have h3 : a = b := by
          apply UInt8.toNat_inj.1
          have p1 : ¬ a.toNat < b.toNat := fun h => h1 (UInt8.lt_iff_toNat_lt.2 h)
          have p2 : ¬ b.toNat < a.toNat := fun h => h2 (UInt8.lt_iff_toNat_lt.2 h)
          omega
        simp [h1, h2, h3, ih]
theorem cmpB_lt (a b : ByteArray) : cmpB a b < 0 ↔ lessS a b = true := by
  unfold cmpB lessS
  rw [Lib.toList_data, Lib.toList_data]
  exact cb_lt _ _
theorem cmp_int (a b : Int) : den E 172 [(.i .i64 a), (.i .i64 b)] [] = some (.i .i64 (if a < b then -1 else if b < a then 1 else 0)) := by
  rw [f172_eq, f181_eq, f181_eq]
  simp only [okC_nil, okC_agg, okC_i, okC_b, okC_s, okC_imm, okL_i, okL_b, okL_s, okL_sl, okS_i, okS_b, okS_s, okS_sl, okS_agg, okS_tup, okS_nil, okS_cons, cells_agg, cells_i, cells_b, cells_s, cells_imm, toI_i, toB_b, toS_s, toL_imm, nth_agg, nth_tup, put_agg, put_i, put_b, put_s, put_imm, setCells, List.getD_cons_zero, List.getD_cons_succ, bSh_b, bSh_i, bSh_s, bSh_sl, bSh_some, cond_true, cond_false, decide_true, decide_false, Int.toNat_natCast, Nat.zero_add, Nat.reduceAdd, beq_self_eq_true, Bool.and_true, Bool.true_and, if_true, Bool.false_eq_true, if_false, List.set_cons_zero, List.set_cons_succ, Bool.not_true, Bool.not_false, Bool.and_self]
  by_cases h : a < b
  · simp [h]
  · by_cases h2 : b < a
    · simp [h, h2]
    · simp [h, h2]
theorem cmp_or2 (p q : Int) : den E 170 [(.imm 1 [(.i .i64 p), (.i .i64 q)])] [] = some (.i .i64 (if p = 0 then q else p)) := by
  have e0 : f170_l1 0 [(.i .i64 p), (.i .i64 q)] 2 2 = some (.i .i64 0) := by rw [f170_l1_eq]; rfl
  have w1 : IntKind.i64.wrap 1 = 1 := by decide
  have w2 : IntKind.i64.wrap 2 = 2 := by decide
  rw [f170_eq]
  show f170_l1 0 [(.i .i64 p), (.i .i64 q)] 2 0 = _
  rw [f170_l1_eq]
  simp [okC_nil, okC_agg, okC_i, okC_b, okC_s, okC_imm, okL_i, okL_b, okL_s, okL_sl, okS_i, okS_b, okS_s, okS_sl, okS_agg, okS_tup, okS_nil, okS_cons, cells_agg, cells_i, cells_b, cells_s, cells_imm, toI_i, toB_b, toS_s, toL_imm, nth_agg, nth_tup, put_agg, put_i, put_b, put_s, put_imm, setCells, List.getD_cons_zero, List.getD_cons_succ, bSh_b, bSh_i, bSh_s, bSh_sl, bSh_some, cond_true, cond_false, decide_true, decide_false, Int.toNat_natCast, Nat.zero_add, Nat.reduceAdd, beq_self_eq_true, Bool.and_true, Bool.true_and, if_true, Bool.false_eq_true, if_false, List.set_cons_zero, List.set_cons_succ, Bool.not_true, Bool.not_false, Bool.and_self, w1]
  by_cases h : p = 0
  · simp only [h, if_true]
    rw [f170_l1_eq]
    simp [okC_nil, okC_agg, okC_i, okC_b, okC_s, okC_imm, okL_i, okL_b, okL_s, okL_sl, okS_i, okS_b, okS_s, okS_sl, okS_agg, okS_tup, okS_nil, okS_cons, cells_agg, cells_i, cells_b, cells_s, cells_imm, toI_i, toB_b, toS_s, toL_imm, nth_agg, nth_tup, put_agg, put_i, put_b, put_s, put_imm, setCells, List.getD_cons_zero, List.getD_cons_succ, bSh_b, bSh_i, bSh_s, bSh_sl, bSh_some, cond_true, cond_false, decide_true, decide_false, Int.toNat_natCast, Nat.zero_add, Nat.reduceAdd, beq_self_eq_true, Bool.and_true, Bool.true_and, if_true, Bool.false_eq_true, if_false, List.set_cons_zero, List.set_cons_succ, Bool.not_true, Bool.not_false, Bool.and_self, w2, e0]
    by_cases h2 : q = 0
    · subst h h2; simp [e0]
    · simp [h2]
  · simp [h]


theorem cb_eq : ∀ x y : List UInt8, (Lib.compareBytes x y = 0 ↔ x = y)
  | [], [] => by simp [Lib.compareBytes]
  | [], _ :: _ => by simp [Lib.compareBytes]
  | _ :: _, [] => by simp [Lib.compareBytes]
  | a :: x, b :: y => by
    have ih := cb_eq x y
    simp only [Lib.compareBytes]
    by_cases h1 : a < b
    · have h3 : ¬ a = b := by rintro rfl; exact absurd h1 (by simp [UInt8.lt_iff_toNat_lt])
      simp [h1, h3]
    · by_cases h2 : b < a
      · have h3 : ¬ a = b := by rintro rfl; exact absurd h2 h1
        simp [h1, h2, h3]
      · have h3 : a = b := by
          apply UInt8.toNat_inj.1
          have p1 : ¬ a.toNat < b.toNat := fun h => h1 (UInt8.lt_iff_toNat_lt.2 h)
          have p2 : ¬ b.toNat < a.toNat := fun h => h2 (UInt8.lt_iff_toNat_lt.2 h)
          omega
        subst h3
        simp [h1, ih]
theorem toList_inj {a b : ByteArray} (h : a.toList = b.toList) : a = b := by
  rw [Lib.toList_data, Lib.toList_data] at h
  exact ByteArray.ext (Array.toList_inj.mp h)
theorem cmpB_eq (a b : ByteArray) : cmpB a b = 0 ↔ a = b := by
  unfold cmpB
  rw [cb_eq]
  constructor
  · intro h; exact ByteArray.ext (Array.toList_inj.mp h)
  · rintro rfl; rfl
theorem bl_tri : ∀ x y : List UInt8, Op.bytesLess x y = !(Op.bytesLess y x || decide (y = x))
  | [], [] => by simp [Op.bytesLess]
  | [], _ :: _ => by simp [Op.bytesLess]
  | _ :: _, [] => by simp [Op.bytesLess]
  | a :: x, b :: y => by
    have ih := bl_tri x y
    simp only [Op.bytesLess]
    by_cases h1 : a < b
    · have h3 : ¬ a = b := by rintro rfl; exact absurd h1 (by simp [UInt8.lt_iff_toNat_lt])
      have h4 : ¬ b < a := fun h => by
        have p1 := UInt8.lt_iff_toNat_lt.1 h1
        have p2 := UInt8.lt_iff_toNat_lt.1 h
        omega
      have h5 : ¬ b = a := fun h => h3 h.symm
      simp [h1, h4, h5]
    · by_cases h2 : b < a
      · have h3 : ¬ a = b := by rintro rfl; exact absurd h2 h1
        simp [h1, h2, h3]
      · have h3 : a = b := by
          apply UInt8.toNat_inj.1
          have p1 : ¬ a.toNat < b.toNat := fun h => h1 (UInt8.lt_iff_toNat_lt.2 h)
          have p2 : ¬ b.toNat < a.toNat := fun h => h2 (UInt8.lt_iff_toNat_lt.2 h)
          omega
        subst h3
        simp [h1, ih]
theorem less_tri (a b : ByteArray) {i : Decidable (b = a)} : (!(lessS b a || @decide (b = a) i)) = lessS a b := by
  unfold lessS
  rw [bl_tri a.toList b.toList]
  by_cases h : b = a
  · subst h; simp
  · have h2 : ¬ b.toList = a.toList := fun g => h (toList_inj g)
    simp [h, h2]
theorem less_irr (a : ByteArray) : lessS a a = false := by
  have := less_tri a a (i := inferInstance)
  simp at this
  exact this


/-! A record is valid. -/
def keyOk (k : ByteArray) : Bool := decide ((1 : Int) ≤ ((k.size : Nat) : Int)) && decide (((k.size : Nat) : Int) ≤ 8)
def okRec (k : ByteArray) (q kd : Int) (v e : ByteArray) : Bool :=
  keyOk k && ((decide (1 ≤ q) && decide (q ≤ 1000000)) && cond (decide (kd = 1)) (decide (((v.size : Nat) : Int) ≤ 16) && decide (e = ({ data := #[] } : ByteArray)))
    (cond (decide (kd = 2)) (decide (v = ({ data := #[] } : ByteArray)) && decide (e = ({ data := #[] } : ByteArray)))
      (cond (decide (kd = 3)) (decide (v = ({ data := #[] } : ByteArray)) && (keyOk e && lessS k e)) false)))
abbrev ky (el : AV) : ByteArray := (el.cells.getD 0 .x).toS
abbrev sq (el : AV) : Int := (el.cells.getD 1 .x).toI
abbrev kd (el : AV) : Int := (el.cells.getD 2 .x).toI
abbrev vl (el : AV) : ByteArray := (el.cells.getD 3 .x).toS
abbrev en (el : AV) : ByteArray := (el.cells.getD 4 .x).toS
def okR (el : AV) : Bool := okRec (ky el) (sq el) (kd el) (vl el) (en el)
theorem spec_key (k : ByteArray) : den E 110 [(.s k)] [] = some (.b (keyOk k)) := by
  rw [f110_eq, beq_true, cond_andb]; rfl
theorem impl_key (k : ByteArray) : den E 113 [(.s k)] [] = some (.b (keyOk k)) := by
  rw [f113_eq, in72, bSh_b]; rfl
theorem spec_rec {B : Nat} {el : AV} (h : T62 B el) : den E 73 [el] [] = some (.b (okR el)) := by
  obtain ⟨a0, a1, a2, a3, a4, rfl, _⟩ := h
  rw [f73_eq]
  simp only [spec_key, in90, okR, ky, sq, kd, vl, en, okRec, okC_nil, okC_agg, okC_i, okC_b, okC_s, okC_imm, okL_i, okL_b, okL_s, okL_sl, okS_i, okS_b, okS_s, okS_sl, okS_agg, okS_tup, okS_nil, okS_cons, cells_agg, cells_i, cells_b, cells_s, cells_imm, toI_i, toB_b, toS_s, toL_imm, nth_agg, nth_tup, put_agg, put_i, put_b, put_s, put_imm, setCells, List.getD_cons_zero, List.getD_cons_succ, bSh_b, bSh_i, bSh_s, bSh_sl, bSh_some, cond_true, cond_false, decide_true, decide_false, Int.toNat_natCast, Nat.zero_add, Nat.reduceAdd, beq_self_eq_true, Bool.and_true, Bool.true_and, if_true, Bool.false_eq_true, if_false, List.set_cons_zero, List.set_cons_succ, Bool.not_true, Bool.not_false, Bool.and_self]
  cases keyOk a0
  · rfl
  cases (decide (1 ≤ a1) && decide (a1 ≤ 1000000))
  · rfl
  simp only [Bool.not_true, Bool.true_and, cond_false]
  cases decide (a2 = 1) <;> cases decide (a2 = 2) <;> cases decide (a2 = 3) <;> cases decide (((a3.size : Nat) : Int) ≤ 16) <;> cases decide (a3 = ({ data := #[] } : ByteArray)) <;> cases keyOk a4 <;> rfl
theorem impl_rec {B : Nat} {el : AV} (h : T62 B el) : den E 76 [el] [] = some (.b (okR el)) := by
  obtain ⟨a0, a1, a2, a3, a4, rfl, _⟩ := h
  rw [f76_eq]
  simp only [impl_key, in72, less_tri, okR, ky, sq, kd, vl, en, okRec, okC_nil, okC_agg, okC_i, okC_b, okC_s, okC_imm, okL_i, okL_b, okL_s, okL_sl, okS_i, okS_b, okS_s, okS_sl, okS_agg, okS_tup, okS_nil, okS_cons, cells_agg, cells_i, cells_b, cells_s, cells_imm, toI_i, toB_b, toS_s, toL_imm, nth_agg, nth_tup, put_agg, put_i, put_b, put_s, put_imm, setCells, List.getD_cons_zero, List.getD_cons_succ, bSh_b, bSh_i, bSh_s, bSh_sl, bSh_some, cond_true, cond_false, decide_true, decide_false, Int.toNat_natCast, Nat.zero_add, Nat.reduceAdd, beq_self_eq_true, Bool.and_true, Bool.true_and, if_true, Bool.false_eq_true, if_false, List.set_cons_zero, List.set_cons_succ, Bool.not_true, Bool.not_false, Bool.and_self]
  cases keyOk a0
  · rfl
  cases (decide (1 ≤ a1) && decide (a1 ≤ 1000000))
  · rfl
  simp only [Bool.not_true, Bool.true_and, cond_false]
  cases decide (a2 = 1) <;> cases decide (a2 = 2) <;> cases decide (a2 = 3) <;> cases decide (((a3.size : Nat) : Int) ≤ 16) <;> cases decide (a3 = ({ data := #[] } : ByteArray)) <;> cases keyOk a4 <;> rfl

/-! The internal order. -/
noncomputable def lessR (a b : AV) : Bool :=
  cond (decide (ky a = ky b)) (cond (decide (sq a = sq b)) (cond (decide (kd a = kd b)) (cond (decide (vl a = vl b)) (lessS (en a) (en b)) (lessS (vl a) (vl b))) (decide (kd a < kd b))) (decide (sq b < sq a))) (lessS (ky a) (ky b))
theorem spec_less {B C : Nat} {a b : AV} (h : T62 B a) (g : T62 C b) : den E 109 [a, b] [] = some (.b (lessR a b)) := by
  obtain ⟨a0, a1, a2, a3, a4, rfl, _⟩ := h
  obtain ⟨b0, b1, b2, b3, b4, rfl, _⟩ := g
  rw [f109_eq]
  simp only [lessR, ky, sq, kd, vl, en, okC_nil, okC_agg, okC_i, okC_b, okC_s, okC_imm, okL_i, okL_b, okL_s, okL_sl, okS_i, okS_b, okS_s, okS_sl, okS_agg, okS_tup, okS_nil, okS_cons, cells_agg, cells_i, cells_b, cells_s, cells_imm, toI_i, toB_b, toS_s, toL_imm, nth_agg, nth_tup, put_agg, put_i, put_b, put_s, put_imm, setCells, List.getD_cons_zero, List.getD_cons_succ, bSh_b, bSh_i, bSh_s, bSh_sl, bSh_some, cond_true, cond_false, decide_true, decide_false, Int.toNat_natCast, Nat.zero_add, Nat.reduceAdd, beq_self_eq_true, Bool.and_true, Bool.true_and, if_true, Bool.false_eq_true, if_false, List.set_cons_zero, List.set_cons_succ, Bool.not_true, Bool.not_false, Bool.and_self]
  cases decide (a0 = b0) <;> cases decide (a1 = b1) <;> cases decide (a2 = b2) <;> cases decide (a3 = b3) <;> rfl
theorem or_step {l : List AV} (k : Nat) (i j n : Int) {x : Int} (hk : i = (k : Int)) (hj : j = i + 1) (hn : n = ((l.length : Nat) : Int)) (hl : l.length ≤ 100) (hi : k < l.length) (hx : l.getD k .x = .i .i64 x) : f170_l1 0 l n i = cond (decide (x = 0)) (f170_l1 0 l n j) (some (.i .i64 x)) := by
  subst hk hn hj
  rw [f170_l1_eq, dT (show (k : Int) < ((l.length : Nat) : Int) by omega), cond_true, if_pos (by omega), Int.toNat_natCast, hx, if_pos (by rfl), w64 (x := (k : Int) + 1) (by omega) (by omega)]
  simp only [okC_nil, okC_agg, okC_i, okC_b, okC_s, okC_imm, okL_i, okL_b, okL_s, okL_sl, okS_i, okS_b, okS_s, okS_sl, okS_agg, okS_tup, okS_nil, okS_cons, cells_agg, cells_i, cells_b, cells_s, cells_imm, toI_i, toB_b, toS_s, toL_imm, nth_agg, nth_tup, put_agg, put_i, put_b, put_s, put_imm, setCells, List.getD_cons_zero, List.getD_cons_succ, bSh_b, bSh_i, bSh_s, bSh_sl, bSh_some, cond_true, cond_false, decide_true, decide_false, Int.toNat_natCast, Nat.zero_add, Nat.reduceAdd, beq_self_eq_true, Bool.and_true, Bool.true_and, if_true, Bool.false_eq_true, if_false, List.set_cons_zero, List.set_cons_succ, Bool.not_true, Bool.not_false, Bool.and_self]
  cases decide (x = 0) <;> rfl
theorem or_last {l : List AV} (n : Int) : f170_l1 0 l n n = some (.i .i64 0) := by
  rw [f170_l1_eq, dF (Int.lt_irrefl _), cond_false]
theorem cmp_or5 (p q r s t : Int) : den E 170 [(.imm 1 [(.i .i64 p), (.i .i64 q), (.i .i64 r), (.i .i64 s), (.i .i64 t)])] [] =
    some (.i .i64 (cond (decide (p = 0)) (cond (decide (q = 0)) (cond (decide (r = 0)) (cond (decide (s = 0)) t s) r) q) p)) := by
  rw [f170_eq]
  generalize hl : ([(.i .i64 p), (.i .i64 q), (.i .i64 r), (.i .i64 s), (.i .i64 t)] : List AV) = l
  have hn : l.length = 5 := by rw [← hl]; rfl
  rw [hn, show ((5 : Nat) : Int) = 5 from rfl]
  rw [or_step 0 0 1 5 (x := p) rfl rfl (by rw [hn]; rfl) (by omega) (by omega) (by rw [← hl]; rfl), or_step 1 1 2 5 (x := q) rfl rfl (by rw [hn]; rfl) (by omega) (by omega) (by rw [← hl]; rfl),
    or_step 2 2 3 5 (x := r) rfl rfl (by rw [hn]; rfl) (by omega) (by omega) (by rw [← hl]; rfl), or_step 3 3 4 5 (x := s) rfl rfl (by rw [hn]; rfl) (by omega) (by omega) (by rw [← hl]; rfl),
    or_step 4 4 5 5 (x := t) rfl rfl (by rw [hn]; rfl) (by omega) (by omega) (by rw [← hl]; rfl), or_last]
  by_cases h1 : p = 0
  · by_cases h2 : q = 0
    · by_cases h3 : r = 0
      · by_cases h4 : s = 0
        · by_cases h5 : t = 0
          · subst h1 h2 h3 h4 h5; rfl
          · subst h1 h2 h3 h4; simp [h5]
        · subst h1 h2 h3; simp [h4]
      · subst h1 h2; simp [h3]
    · subst h1; simp [h2]
  · simp [h1]
noncomputable def cmpI3 (a b : Int) : Int := if a < b then -1 else if b < a then 1 else 0
theorem cmpI3_eq (a b : Int) : cmpI3 a b = 0 ↔ a = b := by
  unfold cmpI3
  split
  · omega
  · split <;> omega
theorem cmpI3_lt (a b : Int) : cmpI3 a b < 0 ↔ a < b := by
  unfold cmpI3
  split
  · omega
  · split <;> omega
noncomputable def cmpR (a b : AV) : Int := cond (decide (ky a = ky b)) (cond (decide (sq b = sq a)) (cond (decide (kd a = kd b)) (cond (decide (vl a = vl b)) (cmpB (en a) (en b)) (cmpB (vl a) (vl b))) (cmpI3 (kd a) (kd b))) (cmpI3 (sq b) (sq a))) (cmpB (ky a) (ky b))
theorem impl_cmp {B C : Nat} {a b : AV} (h : T62 B a) (g : T62 C b) : den E 132 [a, b] [] = some (.i .i64 (cmpR a b)) := by
  obtain ⟨a0, a1, a2, a3, a4, rfl, _⟩ := h
  obtain ⟨b0, b1, b2, b3, b4, rfl, _⟩ := g
  rw [f132_eq]
  simp only [cmp_int, f171_eq, f180_eq, cmp_or5, cmpR, ky, sq, kd, vl, en, okC_nil, okC_agg, okC_i, okC_b, okC_s, okC_imm, okL_i, okL_b, okL_s, okL_sl, okS_i, okS_b, okS_s, okS_sl, okS_agg, okS_tup, okS_nil, okS_cons, cells_agg, cells_i, cells_b, cells_s, cells_imm, toI_i, toB_b, toS_s, toL_imm, nth_agg, nth_tup, put_agg, put_i, put_b, put_s, put_imm, setCells, List.getD_cons_zero, List.getD_cons_succ, bSh_b, bSh_i, bSh_s, bSh_sl, bSh_some, cond_true, cond_false, decide_true, decide_false, Int.toNat_natCast, Nat.zero_add, Nat.reduceAdd, beq_self_eq_true, Bool.and_true, Bool.true_and, if_true, Bool.false_eq_true, if_false, List.set_cons_zero, List.set_cons_succ, Bool.not_true, Bool.not_false, Bool.and_self]
  have e1 : ∀ x y : Int, (if x < y then (-1 : Int) else if y < x then 1 else 0) = cmpI3 x y := fun _ _ => rfl
  simp only [e1, cmpB_eq, cmpI3_eq]
theorem cmpR_lt0 (a b : AV) : decide (cmpR a b < 0) = lessR a b := by
  unfold cmpR lessR
  have e1 : decide (sq b = sq a) = decide (sq a = sq b) := by
    by_cases h : sq a = sq b
    · simp [h]
    · have : ¬ sq b = sq a := fun g => h g.symm
      simp [h, this]
  rw [e1]
  cases decide (ky a = ky b) <;> cases decide (sq a = sq b) <;> cases decide (kd a = kd b) <;> cases decide (vl a = vl b) <;> simp only [cond_true, cond_false, cmpI3_lt, cmpB_lt, Bool.decide_eq_true]
theorem impl_less {B C : Nat} {a b : AV} (h : T62 B a) (g : T62 C b) : den E 112 [a, b] [] = some (.b (lessR a b)) := by
  have e := impl_cmp h g
  obtain ⟨a0, a1, a2, a3, a4, rfl, _⟩ := h
  obtain ⟨b0, b1, b2, b3, b4, rfl, _⟩ := g
  rw [f112_eq, e, bSh_i]
  exact congrArg (fun b => some (AV.b b)) (cmpR_lt0 _ _)


/-! A run is valid. -/
noncomputable def runP (l : List AV) (i : Nat) : Bool := okR (l.getD i .x) && ((decide (i = 0) || lessR (l.getD (i - 1) .x) (l.getD i .x)) && (List.range' 0 i).all fun k => !decide (sq (l.getD k .x) = sq (l.getD i .x)))
noncomputable def runOk (l : List AV) : Bool := (List.range' 0 l.length).all (runP l)
theorem spec_run {l : List AV} (h : Rw (T62 1048576) 1048576 l) : den E 59 [(.imm 5 l)] [] = some (.b (runOk l)) := by
  have hl := h.1
  rw [f59_eq]
  have := all_loop (L := fun i => f59_l1 l i) (n := l.length) (p := runP l) (X := some (.b true)) (F := some (.b false)) (fun i hi => ?_) ?_ l.length 0 (by omega)
  · refine this.trans ?_
    rw [cond_andb, Bool.and_true]; rfl
  · have hT := h.at hi
    have inner := all_loop (L := fun k => f59_l3 l (i : Int) k) (n := i) (p := fun k => !decide (sq (l.getD k .x) = sq (l.getD i .x))) (X := f59_l1 l ((i : Int) + 1)) (F := some (.b false)) (fun k hk => ?_) ?_ i 0 (by omega)
    · try dsimp only
      rw [f59_l1_eq, dT (show (i : Int) < ((l.length : Nat) : Int) by omega), cond_true, if_pos (by omega), Int.toNat_natCast, hT.ok, if_pos rfl, hT.eta, spec_rec hT, bSh_b]
      unfold runP
      simp only [toB_b]
      cases okR (l.getD i .x)
      · rfl
      simp only [Bool.not_true, Bool.true_and, beq_self_eq_true, cond_true]
      have j2 : f59_j2 l (i : Int) = cond ((List.range' 0 i).all fun k => !decide (sq (l.getD k .x) = sq (l.getD i .x))) (f59_l1 l ((i : Int) + 1)) (some (.b false)) := by
        rw [f59_j2_eq]; exact inner
      rw [j2]
      by_cases h0 : i = 0
      · subst h0
        rfl
      · have hi1 : i - 1 < l.length := by omega
        have hP := h.at hi1
        rw [dT (show (0 : Int) < (i : Int) by omega), w64 (x := (i : Int) - 1) (by omega) (by omega), if_pos (by omega), show ((i : Int) - 1).toNat = i - 1 by omega, hP.ok, if_pos rfl, if_pos (by omega)]
        simp only [if_true]
        rw [hP.eta, spec_less hP hT, bSh_b]
        simp only [h0, decide_false, Bool.false_or, toB_b, beq_self_eq_true, cond_true]
        cases lessR (l.getD (i - 1) .x) (l.getD i .x) <;> rfl
    · have hk2 : k < l.length := by omega
      have hK := h.at hk2
      try dsimp only
      rw [f59_l3_eq, dT (show (k : Int) < (i : Int) by omega), cond_true, if_pos (by omega), Int.toNat_natCast, Int.toNat_natCast, hK.ok1, if_pos rfl, if_pos (by omega), hT.ok1, if_pos rfl, w64 (x := (k : Int) + 1) (by omega) (by omega)]
      unfold sq
      cases decide (((l.getD k .x).cells.getD 1 .x).toI = ((l.getD i .x).cells.getD 1 .x).toI) <;> rfl
    · try dsimp only
      rw [f59_l3_eq, dF (Int.lt_irrefl _), cond_false, w64 (x := (i : Int) + 1) (by omega) (by omega)]
  · try dsimp only
    rw [f59_l1_eq, dF (Int.lt_irrefl _), cond_false]

noncomputable def ksOf (l : List AV) (i : Nat) : List AV := (l.take i).map fun el => .i .i64 (sq el)
theorem ksOf_succ {l : List AV} {i : Nat} (hi : i < l.length) : ksOf l (i + 1) = ksOf l i ++ [.i .i64 (sq (l.getD i .x))] := by
  unfold ksOf
  rw [take_getD hi, List.map_append]; rfl
theorem hasI_ks {l : List AV} (n : Int) : ∀ {i : Nat}, i ≤ l.length → hasI (ksOf l i) n = !(List.range' 0 i).all fun k => !decide (sq (l.getD k .x) = n)
  | 0, _ => rfl
  | i + 1, h => by
    have ih := hasI_ks (l := l) n (show i ≤ l.length by omega)
    rw [ksOf_succ (show i < l.length by omega)]
    unfold hasI at ih ⊢
    rw [List.any_append, ih, List.range'_1_concat, List.all_append]
    simp only [List.any_cons, List.any_nil, List.all_cons, List.all_nil, Bool.or_false, Bool.and_true, Nat.zero_add, Bool.not_and, Bool.not_not]
    rfl
theorem impl_run {l : List AV} (h : Rw (T62 1048576) 1048576 l) : den E 62 [(.imm 5 l)] [] = some (.b (runOk l)) := by
  have hl := h.1
  rw [f62_eq]
  have := all_loop (L := fun i => f62_l1 l l ((l.length : Nat) : Int) i (ksOf l i.toNat)) (n := l.length) (p := runP l) (X := some (.b true)) (F := some (.b false)) (fun i hi => ?_) ?_ l.length 0 (by omega)
  · refine this.trans ?_
    rw [cond_andb, Bool.and_true]; rfl
  · have hT := h.at hi
    try dsimp only
    rw [Int.toNat_natCast, show ((i : Int) + 1).toNat = i + 1 by omega, ksOf_succ hi]
    rw [f62_l1_eq, dT (show (i : Int) < ((l.length : Nat) : Int) by omega), cond_true, if_pos (by omega), Int.toNat_natCast, hT.ok, if_pos rfl, hT.eta, impl_rec hT, bSh_b]
    unfold runP
    simp only [toB_b, f62_j2_eq]
    rw [w64 (x := (i : Int) + 1) (by omega) (by omega)]
    cases okR (l.getD i .x)
    · rfl
    rw [show ((l.getD i .x).cells.getD 1 .x).toI = sq (l.getD i .x) from rfl, hasI_ks _ (Nat.le_of_lt hi)]
    cases (List.range' 0 i).all fun k => !decide (sq (l.getD k .x) = sq (l.getD i .x))
    · cases (decide (i = 0) || lessR (l.getD (i - 1) .x) (l.getD i .x)) <;> rfl
    simp only [Bool.not_true, Bool.not_false, Bool.true_and, Bool.and_true, beq_self_eq_true, cond_true]
    by_cases h0 : i = 0
    · subst h0
      rfl
    · have hi1 : i - 1 < l.length := by omega
      have hP := h.at hi1
      rw [dT (show (0 : Int) < (i : Int) by omega), w64 (x := (i : Int) - 1) (by omega) (by omega), if_pos (by omega), show ((i : Int) - 1).toNat = i - 1 by omega, hP.ok, if_pos rfl, hP.eta, impl_less hP hT, bSh_b]
      simp only [h0, decide_false, Bool.false_or, toB_b, beq_self_eq_true, cond_true]
      cases lessR (l.getD (i - 1) .x) (l.getD i .x) <;> rfl
  · try dsimp only
    rw [f62_l1_eq, dF (Int.lt_irrefl _), cond_false]


/-! A record affects a key. -/
noncomputable def aff (el : AV) (key : ByteArray) : Bool := cond (decide (kd el = 3)) ((lessS (ky el) key || decide (ky el = key)) && lessS key (en el)) (decide (ky el = key))
theorem spec_aff {B : Nat} {el : AV} (h : T62 B el) (key : ByteArray) : den E 165 [el, (.s key)] [] = some (.b (aff el key)) := by
  obtain ⟨a0, a1, a2, a3, a4, rfl, _⟩ := h
  rw [f165_eq]
  simp only [aff, ky, kd, en, okC_nil, okC_agg, okC_i, okC_b, okC_s, okC_imm, okL_i, okL_b, okL_s, okL_sl, okS_i, okS_b, okS_s, okS_sl, okS_agg, okS_tup, okS_nil, okS_cons, cells_agg, cells_i, cells_b, cells_s, cells_imm, toI_i, toB_b, toS_s, toL_imm, nth_agg, nth_tup, put_agg, put_i, put_b, put_s, put_imm, setCells, List.getD_cons_zero, List.getD_cons_succ, bSh_b, bSh_i, bSh_s, bSh_sl, bSh_some, cond_true, cond_false, decide_true, decide_false, Int.toNat_natCast, Nat.zero_add, Nat.reduceAdd, beq_self_eq_true, Bool.and_true, Bool.true_and, if_true, Bool.false_eq_true, if_false, List.set_cons_zero, List.set_cons_succ, Bool.not_true, Bool.not_false, Bool.and_self]
  cases decide (a2 = 3) <;> cases (lessS a0 key || decide (a0 = key)) <;> rfl
theorem impl_aff {B : Nat} {el : AV} (h : T62 B el) (key : ByteArray) : den E 129 [el, (.s key)] [] = some (.b (aff el key)) := by
  obtain ⟨a0, a1, a2, a3, a4, rfl, _⟩ := h
  rw [f129_eq]
  simp only [aff, ky, kd, en, okC_nil, okC_agg, okC_i, okC_b, okC_s, okC_imm, okL_i, okL_b, okL_s, okL_sl, okS_i, okS_b, okS_s, okS_sl, okS_agg, okS_tup, okS_nil, okS_cons, cells_agg, cells_i, cells_b, cells_s, cells_imm, toI_i, toB_b, toS_s, toL_imm, nth_agg, nth_tup, put_agg, put_i, put_b, put_s, put_imm, setCells, List.getD_cons_zero, List.getD_cons_succ, bSh_b, bSh_i, bSh_s, bSh_sl, bSh_some, cond_true, cond_false, decide_true, decide_false, Int.toNat_natCast, Nat.zero_add, Nat.reduceAdd, beq_self_eq_true, Bool.and_true, Bool.true_and, if_true, Bool.false_eq_true, if_false, List.set_cons_zero, List.set_cons_succ, Bool.not_true, Bool.not_false, Bool.and_self]
  cases decide (a2 = 3) <;> cases (lessS a0 key || decide (a0 = key)) <;> rfl


/-! Snapshots are valid. -/
abbrev sv (l : List AV) (i : Nat) : Int := ((l.getD i .x).cells.getD 0 .x).toI
theorem all_split (A B : Nat → Bool) : ∀ (d n : Nat), (List.range' n d).all (fun i => A i && B i) = ((List.range' n d).all A && (List.range' n d).all B)
  | 0, _ => rfl
  | d + 1, n => by
    rw [List.range'_succ, List.all_cons, List.all_cons, List.all_cons, all_split A B d (n + 1)]
    cases A n <;> cases B n <;> cases (List.range' (n + 1) d).all A <;> rfl
def snA (l : List AV) (i : Nat) : Bool := decide (0 ≤ sv l i) && decide (sv l i ≤ 1000000)
def snB (l : List AV) (i : Nat) : Bool := decide (i = 0) || !decide (sv l i ≤ sv l (i - 1))
def snOk (l : List AV) : Bool := ((List.range' 0 l.length).all (snA l) && (List.range' 0 l.length).all (snB l)) && decide ((l.length : Int) ≤ 4)
theorem spec_snap {l : List AV} (h : Rw (T2 1048576) 1048576 l) : den E 68 [(.imm 1 l)] [] = some (.b (snOk l)) := by
  have hl := h.1
  rw [f68_eq]
  have := all_loop (L := fun i => f68_l1 l i) (n := l.length) (p := fun i => snA l i && snB l i) (X := some (.b (decide ((l.length : Int) ≤ 4)))) (F := some (.b false)) (fun i hi => ?_) ?_ l.length 0 (by omega)
  · refine this.trans ?_
    rw [cond_andb, all_split]; rfl
  · have hT := h.at hi
    try dsimp only
    rw [f68_l1_eq, dT (show (i : Int) < ((l.length : Nat) : Int) by omega), cond_true, if_pos (by omega), Int.toNat_natCast, hT.ok, if_pos rfl, in90, bSh_b]
    simp only [toB_b, f68_j2_eq]
    rw [w64 (x := (i : Int) + 1) (by omega) (by omega)]
    show cond ((!snA l i) == false) _ _ = _
    cases snA l i
    · rfl
    simp only [Bool.not_true, beq_self_eq_true, cond_true, Bool.true_and]
    by_cases h0 : i = 0
    · subst h0
      rfl
    · have hi1 : i - 1 < l.length := by omega
      have hP := h.at hi1
      rw [dT (show (0 : Int) < (i : Int) by omega), w64 (x := (i : Int) - 1) (by omega) (by omega), if_pos (by omega), show ((i : Int) - 1).toNat = i - 1 by omega, hP.ok, if_pos rfl, if_pos (by omega)]
      simp only [if_true]
      unfold snB
      rw [dF h0, Bool.false_or]
      show cond (decide (sv l i ≤ sv l (i - 1))) (some (AV.b false)) _ = _
      cases decide (sv l i ≤ sv l (i - 1)) <;> rfl
  · try dsimp only
    rw [f68_l1_eq, dF (Int.lt_irrefl _), cond_false]
theorem impl_incr {l : List AV} (h : Rw (T2 1048576) 1048576 l) : den E 119 [(.imm 1 l)] [] = some (.b ((List.range' 0 l.length).all (snB l))) := by
  have hl := h.1
  rw [f119_eq]
  by_cases hn : l.length = 0
  · rw [f119_l1_eq, dF (show ¬ (1 : Int) < ((l.length : Nat) : Int) by omega), cond_false, hn]
    rfl
  have := all_loop_from (L := fun i => f119_l1 l i) (n := l.length) (p := snB l) (X := some (.b true)) (F := some (.b false)) 1 (fun i h1 hi => ?_) ?_ (l.length - 1) 1 (by omega) (by omega)
  · refine this.trans ?_
    have e : List.range' 0 l.length = 0 :: List.range' 1 (l.length - 1) := by
      have : l.length = (l.length - 1) + 1 := by omega
      rw [this, List.range'_succ]; rfl
    rw [cond_andb, Bool.and_true, e, List.all_cons]
    rfl
  · have hT := h.at hi
    try dsimp only
    · have h0 : ¬ i = 0 := by omega
      have hi1 : i - 1 < l.length := by omega
      have hP := h.at hi1
      rw [f119_l1_eq, dT (show (i : Int) < ((l.length : Nat) : Int) by omega), cond_true, if_pos (by omega), Int.toNat_natCast, hT.ok, if_pos rfl, w64 (x := (i : Int) - 1) (by omega) (by omega), if_pos (by omega), show ((i : Int) - 1).toNat = i - 1 by omega, hP.ok, if_pos rfl, w64 (x := (i : Int) + 1) (by omega) (by omega)]
      unfold snB
      rw [dF h0, Bool.false_or]
      show cond (decide (sv l i ≤ sv l (i - 1))) (some (AV.b false)) _ = _
      cases decide (sv l i ≤ sv l (i - 1)) <;> rfl
  · try dsimp only
    rw [f119_l1_eq, dF (Int.lt_irrefl _), cond_false]
theorem impl_within {l : List AV} (h : Rw (T2 1048576) 1048576 l) : den E 120 [(.imm 1 l), (.i .i64 0), (.i .i64 1000000)] [] = some (.b ((List.range' 0 l.length).all (snA l))) := by
  have hll := h.1
  rw [f120_eq, f166q1_eq, f179q1_eq]
  have cl : ∀ x : Int, den E 167 [(.i .i64 x), (.ip (.i .i64 0) 0), (.ip (.i .i64 1000000) 0)] [] = some (.b (!(decide (0 ≤ x) && decide (x ≤ 1000000)))) := fun x => by
    have o1 : okCells false (.i .i64 0) 0 [(.i .i64)] = true := by rfl
    have o2 : okCells false (.i .i64 1000000) 0 [(.i .i64)] = true := by rfl
    rw [f167q1_eq, if_pos o1, if_pos o2]
    show bSh .b (den E 102 [(.i .i64 x), (.i .i64 0), (.i .i64 1000000)] []) _ = _
    rw [in72, bSh_b]
    rfl
  have key := find_loop (L := fun i => f179q1_l1 l (.i .i64 0) (.i .i64 1000000) ((l.length : Nat) : Int) i) (n := l.length) (p := fun j => !snA l j) (F := fun i => some (.i .i64 i)) (X := some (.i .i64 (-1))) (fun i hi => ?_) ?_ l.length 0 (by omega)
  · rcases key with ⟨j, _, hj, h1, h2, h3⟩ | ⟨h1, h2⟩
    · rw [show f179q1_l1 l (.i .i64 0) (.i .i64 1000000) ((l.length : Nat) : Int) 0 = _ from h3]
      have hj0 : (0 : Int) ≤ (j : Int) := by omega
      simp only [bSh_i, bSh_b, toI_i, toB_b, hj0, decide_true]
      have : ((List.range' 0 l.length).all (snA l)) = false := by
        rw [List.all_eq_false]
        exact ⟨j, by simp [List.mem_range'_1, hj], by simpa using h1⟩
      rw [this]; rfl
    · rw [show f179q1_l1 l (.i .i64 0) (.i .i64 1000000) ((l.length : Nat) : Int) 0 = _ from h2]
      simp only [bSh_i, bSh_b, toI_i, toB_b]
      have : ((List.range' 0 l.length).all (snA l)) = true := by
        rw [List.all_eq_true]
        intro i hi
        have := h1 i (Nat.zero_le _) (by simpa [List.mem_range'_1] using hi)
        simpa using this
      rw [this]; rfl
  · have hT := h.at hi
    try dsimp only
    rw [f179q1_l1_eq, dT (show (i : Int) < ((l.length : Nat) : Int) by omega), cond_true, if_pos (by omega), Int.toNat_natCast, hT.ok, if_pos rfl, w64 (x := (i : Int) + 1) (by omega) (by omega), cl, bSh_b]
    rfl
  · try dsimp only
    rw [f179q1_l1_eq, dF (Int.lt_irrefl _), cond_false]
theorem impl_snap {l : List AV} (h : Rw (T2 1048576) 1048576 l) : den E 70 [(.imm 1 l)] [] = some (.b (snOk l)) := by
  rw [f70_eq, impl_incr h, impl_within h, bSh_b, bSh_b]
  unfold snOk
  simp only [toB_b]
  show cond (decide ((l.length : Int) ≤ 4) == true) _ _ = _
  cases decide ((l.length : Int) ≤ 4) <;> cases (List.range' 0 l.length).all (snA l) <;> cases (List.range' 0 l.length).all (snB l) <;> rfl


/-! What a valid run says of its records. -/
theorem okR_key {el : AV} (h : okR el = true) : keyOk (ky el) = true := by
  unfold okR okRec at h
  exact (Bool.and_eq_true_iff.1 h).1
theorem run_at {l : List AV} (h : runOk l = true) {i : Nat} (hi : i < l.length) : runP l i = true := List.all_eq_true.1 h i (by simp [List.mem_range'_1, hi])
theorem run_okR {l : List AV} (h : runOk l = true) {i : Nat} (hi : i < l.length) : okR (l.getD i .x) = true := by
  have := run_at h hi
  unfold runP at this
  exact (Bool.and_eq_true_iff.1 this).1
theorem run_less {l : List AV} (h : runOk l = true) {i : Nat} (h0 : 0 < i) (hi : i < l.length) : lessR (l.getD (i - 1) .x) (l.getD i .x) = true := by
  have := run_at h hi
  unfold runP at this
  have h2 := (Bool.and_eq_true_iff.1 (Bool.and_eq_true_iff.1 this).2).1
  simpa [show i ≠ 0 by omega] using h2


/-! A record is hidden. -/
noncomputable def leastTo (l : List AV) (p : AV) : Nat → Int
  | 0 => 0
  | i + 1 => cond (aff (l.getD i .x) (ky p) && (decide (sq p < sq (l.getD i .x)) && (decide (leastTo l p i = 0) || decide (sq (l.getD i .x) < leastTo l p i)))) (sq (l.getD i .x)) (leastTo l p i)
theorem least_nn {l : List AV} {p : AV} (h : ∀ i, i < l.length → 1 ≤ sq (l.getD i .x)) : ∀ i, i ≤ l.length → 0 ≤ leastTo l p i
  | 0, _ => Int.le_refl _
  | i + 1, hi => by
    have h1 := least_nn (p := p) h i (by omega)
    have h2 := h i (by omega)
    simp only [leastTo]
    cases (aff (l.getD i .x) (ky p) && (decide (sq p < sq (l.getD i .x)) && (decide (leastTo l p i = 0) || decide (sq (l.getD i .x) < leastTo l p i))))
    · exact h1
    · show 0 ≤ sq (l.getD i .x); omega
def seenAt (s : List AV) (p : AV) (n : Int) (i : Nat) : Bool := decide (sq p ≤ sv s i) && decide (sv s i < n)
noncomputable def hid (l s : List AV) (p : AV) : Bool := decide (0 < leastTo l p l.length) && (List.range' 0 s.length).all fun i => !seenAt s p (leastTo l p l.length) i
theorem run_sq {l : List AV} (h : runOk l = true) {i : Nat} (hi : i < l.length) : 1 ≤ sq (l.getD i .x) := by
  have := run_okR h hi
  unfold okR okRec at this
  have h2 := (Bool.and_eq_true_iff.1 (Bool.and_eq_true_iff.1 this).2).1
  exact of_decide_eq_true (Bool.and_eq_true_iff.1 h2).1
theorem spec_hid {l s : List AV} {p : AV} (h : Rw (T62 1048576) 1048576 l) (hs : Rw (T2 1048576) 1048576 s) (hp : T62 1048576 p) (hr : runOk l = true) : den E 117 [(.imm 5 l), p, (.imm 1 s)] [] = some (.b (hid l s p)) := by
  have hl := h.1
  have hsl := hs.1
  have hnn := least_nn (p := p) (fun i hi => run_sq hr hi) l.length (Nat.le_refl _)
  obtain ⟨a0, a1, a2, a3, a4, e, _⟩ := hp
  have hk : ky p = a0 := by rw [e]; rfl
  have hq : sq p = a1 := by rw [e]; rfl
  have e' : p = .agg [(.s a0), (.i .i64 a1), (.i .i64 a2), (.s a3), (.s a4)] := e
  rw [show den E 117 [(.imm 5 l), p, (.imm 1 s)] [] = den E 117 [(.imm 5 l), .agg [(.s a0), (.i .i64 a1), (.i .i64 a2), (.s a3), (.s a4)], (.imm 1 s)] [] by rw [e'], f117_eq]
  have two := all_loop (L := fun i => f117_l4 s (leastTo l p l.length) i a0 a1 a2 a3 a4) (n := s.length) (p := fun i => !seenAt s p (leastTo l p l.length) i) (X := some (.b true)) (F := some (.b false)) (fun i hi => ?_) ?_ s.length 0 (by omega)
  rotate_left
  · have hT := hs.at hi
    try dsimp only
    rw [f117_l4_eq, dT (show (i : Int) < ((s.length : Nat) : Int) by omega), cond_true, if_pos (by omega), Int.toNat_natCast, hT.ok, if_pos rfl, if_pos rfl, if_pos (by omega), f117_j5_eq, w64 (x := (i : Int) + 1) (by omega) (by omega)]
    unfold seenAt
    rw [hq]
    show cond (decide (a1 ≤ sv s i) == true) (cond (decide (sv s i < leastTo l p l.length)) (some (AV.b false)) _) _ = _
    cases decide (a1 ≤ sv s i) <;> cases decide (sv s i < leastTo l p l.length) <;> rfl
  · try dsimp only
    rw [f117_l4_eq, dF (Int.lt_irrefl _), cond_false]
  have one := loop_to (R := AV) (L := fun i => f117_l1 l s (leastTo l p i.toNat) i a0 a1 a2 a3 a4) (n := l.length) (X := some (.b (hid l s p))) (fun i hi => ?_) ?_
  · exact one
  · have hT := h.at hi
    have hj : f117_j2 l s (i : Int) a0 a1 a2 a3 a4 = f117_l1 l s (sq (l.getD i .x)) ((i : Int) + 1) a0 a1 a2 a3 a4 := by
      rw [f117_j2_eq, if_pos (by omega), Int.toNat_natCast, hT.ok1, if_pos rfl, f117_j3_eq, w64 (x := (i : Int) + 1) (by omega) (by omega)]
    try dsimp only
    rw [f117_l1_eq, dT (show (i : Int) < ((l.length : Nat) : Int) by omega), cond_true, if_pos (by omega)]
    simp only [Int.toNat_natCast, hT.ok, hT.ok1, hT.eta, if_true, spec_aff hT, bSh_b, toB_b, hj, f117_j3_eq, show ((i : Int) + 1).toNat = i + 1 by omega]
    rw [w64 (x := (i : Int) + 1) (by omega) (by omega), if_pos (by omega), if_pos (by omega)]
    simp only [leastTo, hk, hq]
    show cond (aff (l.getD i .x) a0 == true) (cond (decide (a1 < sq (l.getD i .x)) == true) (cond (decide (leastTo l p i = 0) == false) (cond (decide (sq (l.getD i .x) < leastTo l p i)) _ _) _) _) _ = _
    cases aff (l.getD i .x) a0 <;> cases decide (a1 < sq (l.getD i .x)) <;> cases decide (leastTo l p i = 0) <;> cases decide (sq (l.getD i .x) < leastTo l p i) <;> rfl
  · try dsimp only
    rw [f117_l1_eq, dF (Int.lt_irrefl _), cond_false, Int.toNat_natCast]
    rw [show f117_l4 s (leastTo l p l.length) 0 a0 a1 a2 a3 a4 = _ from two, hid]
    by_cases h0 : leastTo l p l.length = 0
    · rw [dT h0, dF (show ¬ 0 < leastTo l p l.length by omega)]; rfl
    · rw [dF h0, dT (show 0 < leastTo l p l.length by omega), cond_false, cond_andb, Bool.and_true, Bool.true_and]
theorem impl_hid {l s : List AV} {p : AV} (h : Rw (T62 1048576) 1048576 l) (hs : Rw (T2 1048576) 1048576 s) (hp : T62 1048576 p) : den E 124 [(.imm 5 l), p, (.imm 1 s)] [] = some (.b (hid l s p)) := by
  have hl := h.1
  have hsl := hs.1
  obtain ⟨a0, a1, a2, a3, a4, e, _⟩ := hp
  have hk : ky p = a0 := by rw [e]; rfl
  have hq : sq p = a1 := by rw [e]; rfl
  have e' : p = .agg [(.s a0), (.i .i64 a1), (.i .i64 a2), (.s a3), (.s a4)] := e
  rw [show den E 124 [(.imm 5 l), p, (.imm 1 s)] [] = den E 124 [(.imm 5 l), .agg [(.s a0), (.i .i64 a1), (.i .i64 a2), (.s a3), (.s a4)], (.imm 1 s)] [] by rw [e'], f124_eq]
  have two : ∀ n : Int, den E 166 [(.imm 1 s), (.fn 169 [(.ip (.agg [(.s a0), (.i .i64 a1), (.i .i64 a2), (.s a3), (.s a4)]) 0), (.ip (.i .i64 n) 0)])] [] = some (.b (!(List.range' 0 s.length).all fun i => !seenAt s p n i)) := by
    intro n
    rw [f166q2_eq, f179q2_eq]
    have key := find_loop (L := fun i => f179q2_l1 s (.agg [(.s a0), (.i .i64 a1), (.i .i64 a2), (.s a3), (.s a4)]) (.i .i64 n) ((s.length : Nat) : Int) i) (n := s.length) (p := seenAt s p n) (F := fun i => some (.i .i64 i)) (X := some (.i .i64 (-1))) (fun i hi => ?_) ?_ s.length 0 (by omega)
    · rcases key with ⟨j, _, hj, h1, h2, h3⟩ | ⟨h1, h2⟩
      · rw [show f179q2_l1 s (.agg [(.s a0), (.i .i64 a1), (.i .i64 a2), (.s a3), (.s a4)]) (.i .i64 n) ((s.length : Nat) : Int) 0 = _ from h3]
        have hj0 : (0 : Int) ≤ (j : Int) := by omega
        simp only [bSh_i, toI_i, hj0, decide_true]
        have : ((List.range' 0 s.length).all fun i => !seenAt s p n i) = false := by
          rw [List.all_eq_false]
          exact ⟨j, by simp [List.mem_range'_1, hj], by simpa using h1⟩
        rw [this]; rfl
      · rw [show f179q2_l1 s (.agg [(.s a0), (.i .i64 a1), (.i .i64 a2), (.s a3), (.s a4)]) (.i .i64 n) ((s.length : Nat) : Int) 0 = _ from h2]
        simp only [bSh_i, toI_i]
        have : ((List.range' 0 s.length).all fun i => !seenAt s p n i) = true := by
          rw [List.all_eq_true]
          intro i hi
          have := h1 i (Nat.zero_le _) (by simpa [List.mem_range'_1] using hi)
          simpa using this
        rw [this]; rfl
    · have hT := hs.at hi
      try dsimp only
      rw [f179q2_l1_eq, dT (show (i : Int) < ((s.length : Nat) : Int) by omega), cond_true, if_pos (by omega), Int.toNat_natCast, hT.ok, if_pos rfl, w64 (x := (i : Int) + 1) (by omega) (by omega), f169q1_eq]
      have : (if okCells false (.agg [(.s a0), (.i .i64 a1), (.i .i64 a2), (.s a3), (.s a4)]) 1 [(.i .i64)] = true then
          cond (decide (a1 ≤ sv s i) == true) (if okCells false (.i .i64 n) 0 [(.i .i64)] = true then some (AV.b (decide (sv s i < n))) else none) (some (AV.b false)) else none) = some (.b (seenAt s p n i)) := by
        have o1 : okCells false (.agg [(.s a0), (.i .i64 a1), (.i .i64 a2), (.s a3), (.s a4)]) 1 [(.i .i64)] = true := by rfl
        have o2 : okCells false (.i .i64 n) 0 [(.i .i64)] = true := by rfl
        rw [if_pos o1, if_pos o2]
        unfold seenAt
        rw [hq]
        cases decide (a1 ≤ sv s i) <;> rfl
      refine (congrArg (fun q => bSh .b q _) this).trans (bSh_b ..)
    · try dsimp only
      rw [f179q2_l1_eq, dF (Int.lt_irrefl _), cond_false]
  have one := loop_to (R := AV) (L := fun i => f124_l1 s l ((l.length : Nat) : Int) i a0 a1 a2 a3 a4 (leastTo l p i.toNat)) (n := l.length) (X := some (.b (hid l s p))) (fun i hi => ?_) ?_
  · exact one
  · have hT := h.at hi
    try dsimp only
    rw [f124_l1_eq, dT (show (i : Int) < ((l.length : Nat) : Int) by omega), cond_true, if_pos (by omega)]
    simp only [Int.toNat_natCast, hT.ok, hT.eta, if_true, impl_aff hT, bSh_b, toB_b, f124_j2_eq, show ((i : Int) + 1).toNat = i + 1 by omega]
    rw [w64 (x := (i : Int) + 1) (by omega) (by omega)]
    simp only [leastTo, hk, hq]
    show cond (decide (a1 < sq (l.getD i .x)) == true) (cond (aff (l.getD i .x) a0 == true) (cond (decide (leastTo l p i = 0) == false) (cond (decide (sq (l.getD i .x) < leastTo l p i)) _ _) _) _) _ = _
    cases aff (l.getD i .x) a0 <;> cases decide (a1 < sq (l.getD i .x)) <;> cases decide (leastTo l p i = 0) <;> cases decide (sq (l.getD i .x) < leastTo l p i) <;> rfl
  · try dsimp only
    rw [f124_l1_eq, dF (Int.lt_irrefl _), cond_false, Int.toNat_natCast, two, bSh_b, hid]
    simp only [toB_b, Bool.not_not]
    cases decide (0 < leastTo l p l.length) <;> rfl


/-! What a compaction keeps. -/
noncomputable def keep (l s : List AV) (r : AV) : Bool := !(!decide (kd r = 3) && hid l s r)
noncomputable def after (r k : AV) : Bool := decide (sq k < sq r) && aff r (ky k)
abbrev putB (r : AV) : Bool := decide (kd r = 1)
noncomputable def neededBy (pu : List AV) (r : AV) : Bool := !(!pu.any (after r) && !decide (kd r = 1))
theorem all_getD {p : AV → Bool} (l : List AV) : ((List.range' 0 l.length).all fun i => p (l.getD i .x)) = l.all p := by
  rw [Bool.eq_iff_iff, List.all_eq_true, List.all_eq_true]
  constructor
  · intro h y hy
    obtain ⟨i, hi, rfl⟩ := List.getElem_of_mem hy
    have := h i (by simp [List.mem_range'_1, hi])
    rwa [List.getD_eq_getElem?_getD, List.getElem?_eq_getElem hi] at this
  · intro h i hi
    exact h _ (getD_mem (by simpa [List.mem_range'_1] using hi))
theorem all_any {p : AV → Bool} (l : List AV) : ((List.range' 0 l.length).all fun i => !p (l.getD i .x)) = !l.any p := by
  rw [all_getD (p := fun y => !p y) l, List.all_eq_not_any_not]
  simp
theorem any_filter (p q : AV → Bool) : ∀ l : List AV, (l.filter p).any q = l.any fun y => p y && q y
  | [] => rfl
  | a :: t => by
    rw [List.filter_cons, List.any_cons]
    cases h : p a
    · rw [if_neg (by simp), any_filter p q t]; simp
    · rw [if_pos rfl, List.any_cons, any_filter p q t]; simp
theorem rw_fil {T : AV → Prop} {n : Nat} {l : List AV} (h : Rw T n l) (p : AV → Bool) : Rw T n (l.filter p) := ⟨Nat.le_trans (List.length_filter_le _ _) h.1, fun y hy => h.2 y (List.mem_filter.1 hy).1⟩
theorem spec_needless {kept : List AV} {r : AV} (h : Rw (T62 1048576) 1048576 kept) (hr : T62 1048576 r) : den E 118 [(.imm 5 kept), r] [] = some (.b (!neededBy (kept.filter putB) r)) := by
  have hl := h.1
  have ha := fun k => spec_aff hr k
  obtain ⟨a0, a1, a2, a3, a4, e, _⟩ := hr
  have hq : sq r = a1 := by rw [e]; rfl
  have hkd : kd r = a2 := by rw [e]; rfl
  have e' : r = .agg [(.s a0), (.i .i64 a1), (.i .i64 a2), (.s a3), (.s a4)] := e
  have ha' : ∀ k, den E 165 [.agg [(.s a0), (.i .i64 a1), (.i .i64 a2), (.s a3), (.s a4)], (.s k)] [] = some (.b (aff r k)) := fun k => by rw [← ha k, e']
  rw [show den E 118 [(.imm 5 kept), r] [] = den E 118 [(.imm 5 kept), .agg [(.s a0), (.i .i64 a1), (.i .i64 a2), (.s a3), (.s a4)]] [] by rw [e'], f118_eq]
  have := all_loop (L := fun i => f118_l1 kept i a0 a1 a2 a3 a4) (n := kept.length) (p := fun i => !(putB (kept.getD i .x) && after r (kept.getD i .x))) (X := some (.b (!decide (kd r = 1)))) (F := some (.b false)) (fun i hi => ?_) ?_ kept.length 0 (by omega)
  · refine this.trans ?_
    rw [all_any (p := fun y => putB y && after r y) kept, ← any_filter putB (after r)]
    unfold neededBy
    cases (kept.filter putB).any (after r) <;> cases decide (kd r = 1) <;> rfl
  · have hT := h.at hi
    try dsimp only
    rw [f118_l1_eq, dT (show (i : Int) < ((kept.length : Nat) : Int) by omega), cond_true, if_pos (by omega)]
    simp only [Int.toNat_natCast, hT.ok0, hT.ok1, hT.ok2, if_true, ha', bSh_b, toB_b, f118_j2_eq]
    rw [w64 (x := (i : Int) + 1) (by omega) (by omega), if_pos (by omega), if_pos (by omega)]
    unfold after putB
    rw [hq]
    show cond (decide (kd (kept.getD i .x) = 1) == true) (cond (decide (sq (kept.getD i .x) < a1) == true) (cond (aff r (ky (kept.getD i .x))) _ _) _) _ = _
    cases decide (kd (kept.getD i .x) = 1) <;> cases decide (sq (kept.getD i .x) < a1) <;> cases aff r (ky (kept.getD i .x)) <;> rfl
  · try dsimp only
    rw [f118_l1_eq, dF (Int.lt_irrefl _), cond_false, hkd]
noncomputable def dropped (l s : List AV) (b : Bool) : List AV := cond b ((l.filter (keep l s)).filter (neededBy ((l.filter (keep l s)).filter putB))) (l.filter (keep l s))
theorem dropped_T {l : List AV} (h : Rw (T62 1048576) 1048576 l) (s : List AV) (b : Bool) : Rw (T62 1048576) 1048576 (dropped l s b) := by
  cases b
  · exact rw_fil h _
  · exact rw_fil (rw_fil h _) _
theorem spec_drop {l s : List AV} (h : Rw (T62 1048576) 1048576 l) (hs : Rw (T2 1048576) 1048576 s) (b : Bool) (hr : runOk l = true) : dno E 69 [(.imm 5 l), (.imm 1 s), (.b b)] [] = some (.sl 0 [] none, [.live true false false 66 (dropped l s b)]) := by
  have hl := h.1
  rw [f69o1_eq]
  have := filter_loop (L := fun i r => f69o1_l1 l s b i [] r) (m := l) (p := keep l s) (F := fun r => cond (!b) (some (.sl 0 [] none, [.live true false false 66 r])) (f69o1_l4 0 [] r [])) (fun i r hi hr2 => ?_) (fun r hr2 => ?_) l.length 0 [] (by omega) (by simp)
  · refine this.trans ?_
    rw [List.drop_zero, List.nil_append]
    unfold dropped
    cases b
    · rfl
    show f69o1_l4 0 [] (l.filter (keep l s)) [] = _
    have hk := rw_fil h (keep l s)
    generalize l.filter (keep l s) = kept at hk
    have hkl := hk.1
    have two := filter_loop (L := fun i r => f69o1_l4 i [] kept r) (m := kept) (p := neededBy (kept.filter putB)) (F := fun r => some (.sl 0 [] none, [.live true false false 66 r])) (fun i r hi hr2 => ?_) (fun r hr2 => ?_) kept.length 0 [] (by omega) (by simp)
    · refine two.trans ?_
      rw [List.drop_zero, List.nil_append]; rfl
    · have hT := hk.at hi
      try dsimp only
      rw [f69o1_l4_eq, dT (show (i : Int) < ((kept.length : Nat) : Int) by omega), cond_true, if_pos (by omega)]
      simp only [Nat.zero_add, Int.toNat_natCast, hT.ok, hT.eta, if_true, spec_needless hk hT, bSh_b, toB_b, f69o1_j5_eq, Bool.not_not]
      rw [w64 (x := (i : Int) + 1) (by omega) (by omega), if_pos (by omega), if_pos (by simp only [room, List.length_cons, List.length_nil]; omega)]
      cases neededBy (kept.filter putB) (kept.getD i .x) <;> simp
    · try dsimp only
      rw [f69o1_l4_eq, dF (Int.lt_irrefl _), cond_false]
  · have hT := h.at hi
    try dsimp only
    have hj : f69o1_j2 l s b i [] r = f69o1_l1 l s b ((i : Int) + 1) [] (r ++ [l.getD i .x]) := by
      rw [f69o1_j2_eq, if_pos (by omega), Int.toNat_natCast, hT.ok, if_pos rfl, hT.eta, if_pos (by simp only [room, List.length_cons, List.length_nil]; omega), f69o1_j3_eq, w64 (x := (i : Int) + 1) (by omega) (by omega)]
    rw [f69o1_l1_eq, dT (show (i : Int) < ((l.length : Nat) : Int) by omega), cond_true, if_pos (by omega)]
    simp only [Int.toNat_natCast, hT.ok, hT.ok2, hT.eta, if_true, spec_hid h hs hT hr, bSh_b, toB_b, hj, f69o1_j3_eq]
    rw [w64 (x := (i : Int) + 1) (by omega) (by omega), if_pos (by omega)]
    unfold keep
    show cond (decide (kd (l.getD i .x) = 3) == false) (cond (!hid l s (l.getD i .x)) _ _) _ = _
    cases decide (kd (l.getD i .x) = 3) <;> cases hid l s (l.getD i .x) <;> simp
  · try dsimp only
    rw [f69o1_l1_eq, dF (Int.lt_irrefl _), cond_false]
theorem clos_hd {l s : List AV} (h : Rw (T62 1048576) 1048576 l) (hs : Rw (T2 1048576) 1048576 s) {t : AV} (ht : T62 1048576 t) : den E 122 [t, (.ip (.imm 5 l) 0), (.ip (.imm 1 s) 0)] [] = some (.b (!keep l s t)) := by
  have hh := impl_hid h hs ht
  obtain ⟨a0, a1, a2, a3, a4, e, _⟩ := ht
  have e' : t = .agg [(.s a0), (.i .i64 a1), (.i .i64 a2), (.s a3), (.s a4)] := e
  have hkd : kd t = a2 := by rw [e]; rfl
  have hh' : den E 124 [(.imm 5 l), .agg [(.s a0), (.i .i64 a1), (.i .i64 a2), (.s a3), (.s a4)], (.imm 1 s)] [] = some (.b (hid l s t)) := by rw [← hh, e']
  unfold keep
  rw [show den E 122 [t, (.ip (.imm 5 l) 0), (.ip (.imm 1 s) 0)] [] = den E 122 [.agg [(.s a0), (.i .i64 a1), (.i .i64 a2), (.s a3), (.s a4)], (.ip (.imm 5 l) 0), (.ip (.imm 1 s) 0)] [] by rw [e'], f122q1_eq, f123_eq, bSh_b, hkd]
  have o1 : okCells false (.imm 5 l) 0 [(.sl 66 5)] = true := by rfl
  have o2 : okCells false (.imm 1 s) 0 [(.sl 2 1)] = true := by rfl
  rw [if_pos o1, if_pos o2]
  show cond ((!decide (a2 = 3)) == true) _ _ = _
  cases decide (a2 = 3)
  · show bSh .b (den E 124 [(.imm 5 l), .agg [(.s a0), (.i .i64 a1), (.i .i64 a2), (.s a3), (.s a4)], (.imm 1 s)] []) _ = _
    rw [hh', bSh_b]
    cases hid l s t <;> rfl
  · rfl
theorem clos_pu {t : AV} (ht : T62 1048576 t) : den E 125 [t] [] = some (.b (!putB t)) := by
  obtain ⟨a0, a1, a2, a3, a4, rfl, _⟩ := ht
  rw [f125_eq]
  rfl
theorem clos_nd {pu : List AV} (h : Rw (T62 1048576) 1048576 pu) {t : AV} (ht : T62 1048576 t) : den E 126 [t, (.ip (.imm 5 pu) 0)] [] = some (.b (!neededBy pu t)) := by
  have hl := h.1
  have ha := fun k => impl_aff ht k
  obtain ⟨a0, a1, a2, a3, a4, e, _⟩ := ht
  have e' : t = .agg [(.s a0), (.i .i64 a1), (.i .i64 a2), (.s a3), (.s a4)] := e
  have hkd : kd t = a2 := by rw [e]; rfl
  have hq : sq t = a1 := by rw [e]; rfl
  have ha' : ∀ k, den E 129 [.agg [(.s a0), (.i .i64 a1), (.i .i64 a2), (.s a3), (.s a4)], (.s k)] [] = some (.b (aff t k)) := fun k => by rw [← ha k, e']
  have cl : ∀ el, T62 1048576 el → den E 128 [el, (.ip (.agg [(.s a0), (.i .i64 a1), (.i .i64 a2), (.s a3), (.s a4)]) 0)] [] = some (.b (after t el)) := fun el hel => by
    obtain ⟨b0, b1, b2, b3, b4, rfl, _⟩ := hel
    have o1 : okCells false (.agg [(.s a0), (.i .i64 a1), (.i .i64 a2), (.s a3), (.s a4)]) 1 [(.i .i64)] = true := by rfl
    have o2 : okCells false (.agg [(.s a0), (.i .i64 a1), (.i .i64 a2), (.s a3), (.s a4)]) 0 [.s, (.i .i64), (.i .i64), .s, .s] = true := by rfl
    rw [f128q1_eq, if_pos o1, if_pos o2]
    unfold after
    rw [hq]
    show cond (decide (b1 < a1) == true) (bSh .b (den E 129 [.agg [(.s a0), (.i .i64 a1), (.i .i64 a2), (.s a3), (.s a4)], (.s b0)] []) _) _ = some (AV.b (decide (b1 < a1) && aff t b0))
    cases decide (b1 < a1)
    · rfl
    · show bSh .b (den E 129 [.agg [(.s a0), (.i .i64 a1), (.i .i64 a2), (.s a3), (.s a4)], (.s b0)] []) _ = _
      rw [ha', bSh_b]
      rfl
  have con : den E 127 [(.imm 5 pu), (.fn 128 [(.ip (.agg [(.s a0), (.i .i64 a1), (.i .i64 a2), (.s a3), (.s a4)]) 0)])] [] = some (.b (pu.any (after t))) := by
    rw [f127q1_eq, f168q4_eq]
    have key := find_loop (L := fun i => f168q4_l1 pu (.agg [(.s a0), (.i .i64 a1), (.i .i64 a2), (.s a3), (.s a4)]) ((pu.length : Nat) : Int) i) (n := pu.length) (p := fun j => after t (pu.getD j .x)) (F := fun i => some (.i .i64 i)) (X := some (.i .i64 (-1))) (fun i hi => ?_) ?_ pu.length 0 (by omega)
    · rcases key with ⟨j, _, hj, h1, h2, h3⟩ | ⟨h1, h2⟩
      · rw [show f168q4_l1 pu (.agg [(.s a0), (.i .i64 a1), (.i .i64 a2), (.s a3), (.s a4)]) ((pu.length : Nat) : Int) 0 = _ from h3]
        have hj0 : (0 : Int) ≤ (j : Int) := by omega
        simp only [bSh_i, toI_i, hj0, decide_true]
        rw [List.any_eq_true.2 ⟨_, getD_mem hj, h1⟩]
      · rw [show f168q4_l1 pu (.agg [(.s a0), (.i .i64 a1), (.i .i64 a2), (.s a3), (.s a4)]) ((pu.length : Nat) : Int) 0 = _ from h2]
        have : pu.any (after t) = false := by
          rw [List.any_eq_false]
          intro y hy
          obtain ⟨i, hi, rfl⟩ := List.getElem_of_mem hy
          have := h1 i (Nat.zero_le _) hi
          rw [List.getD_eq_getElem?_getD, List.getElem?_eq_getElem hi] at this
          simpa using this
        simp only [bSh_i, toI_i, this]
        rfl
    · have hT := h.at hi
      try dsimp only
      rw [f168q4_l1_eq, dT (show (i : Int) < ((pu.length : Nat) : Int) by omega), cond_true, if_pos (by omega), w64 (x := (i : Int) + 1) (by omega) (by omega)]
      simp only [Int.toNat_natCast, hT.ok, hT.eta, if_true, cl _ hT, bSh_b, toB_b]
    · try dsimp only
      rw [f168q4_l1_eq, dF (Int.lt_irrefl _), cond_false]
  unfold neededBy
  rw [show den E 126 [t, (.ip (.imm 5 pu) 0)] [] = den E 126 [.agg [(.s a0), (.i .i64 a1), (.i .i64 a2), (.s a3), (.s a4)], (.ip (.imm 5 pu) 0)] [] by rw [e'], f126q1_eq, hkd]
  have o1 : okCells false (.imm 5 pu) 0 [(.sl 66 5)] = true := by rfl
  rw [if_pos o1]
  cases decide (a2 = 1)
  · show bSh .b (den E 127 [(.imm 5 pu), (.fn 128 [(.ip (.agg [(.s a0), (.i .i64 a1), (.i .i64 a2), (.s a3), (.s a4)]) 0)])] []) _ = _
    rw [con, bSh_b]
    cases pu.any (after t) <;> rfl
  · simp
theorem first_hd (m : List AV) (hm : Rw (T62 1048576) 1048576 m) (l : List AV) (s : List AV) (h : Rw (T62 1048576) 1048576 l) (hs : Rw (T2 1048576) 1048576 s) :
    (den E 168 [(.imm 5 m), (.fn 122 [(.ip (.imm 5 l) 0), (.ip (.imm 1 s) 0)])] [] = some (.i .i64 (-1)) ∧ ∀ i, i < m.length → (keep l s) (m.getD i .x) = true) ∨
    ∃ j : Nat, j < m.length ∧ den E 168 [(.imm 5 m), (.fn 122 [(.ip (.imm 5 l) 0), (.ip (.imm 1 s) 0)])] [] = some (.i .i64 j) ∧ (keep l s) (m.getD j .x) = false ∧ ∀ i, i < j → (keep l s) (m.getD i .x) = true := by
  have hll := hm.1
  have key := find_loop (L := fun i => f168q1_l1 m (.imm 5 l) (.imm 1 s) ((m.length : Nat) : Int) i) (n := m.length) (p := fun j => !(keep l s) (m.getD j .x)) (F := fun i => some (.i .i64 i)) (X := some (.i .i64 (-1))) (fun i hi => ?_) ?_ m.length 0 (by omega)
  · rw [f168q1_eq]
    rcases key with ⟨j, _, hj, h1, h2, h3⟩ | ⟨h1, h2⟩
    · exact .inr ⟨j, hj, h3, by simpa using h1, fun i hi => by simpa using h2 i (Nat.zero_le _) hi⟩
    · exact .inl ⟨h2, fun i hi => by simpa using h1 i (Nat.zero_le _) hi⟩
  · have hT := hm.at hi
    try dsimp only
    rw [f168q1_l1_eq, dT (show (i : Int) < ((m.length : Nat) : Int) by omega), cond_true, if_pos (by omega), w64 (x := (i : Int) + 1) (by omega) (by omega)]
    simp only [Int.toNat_natCast, hT.ok, hT.eta, clos_hd h hs hT, okC_nil, okC_agg, okC_i, okC_b, okC_s, okC_imm, okL_i, okL_b, okL_s, okL_sl, okS_i, okS_b, okS_s, okS_sl, okS_agg, okS_tup, okS_nil, okS_cons, cells_agg, cells_i, cells_b, cells_s, cells_imm, toI_i, toB_b, toS_s, toL_imm, nth_agg, nth_tup, put_agg, put_i, put_b, put_s, put_imm, setCells, List.getD_cons_zero, List.getD_cons_succ, bSh_b, bSh_i, bSh_s, bSh_sl, bSh_some, cond_true, cond_false, decide_true, decide_false, Int.toNat_natCast, Nat.zero_add, Nat.reduceAdd, beq_self_eq_true, Bool.and_true, Bool.true_and, if_true, Bool.false_eq_true, if_false, List.set_cons_zero, List.set_cons_succ, Bool.not_true, Bool.not_false, Bool.and_self]
  · try dsimp only
    rw [f168q1_l1_eq, dF (Int.lt_irrefl _), cond_false]
theorem del_hd (m : List AV) (hm : Rw (T62 1048576) 1048576 m) (l : List AV) (s : List AV) (h : Rw (T62 1048576) 1048576 l) (hs : Rw (T2 1048576) 1048576 s) :
    ∃ r : List AV, dno E 121 [(.sl 0 [] none), (.fn 122 [(.ip (.imm 5 l) 0), (.ip (.imm 1 s) 0)])] [(.live true false false 66 m)] =
      some (.sl 0 [] (some (0, (m.filter (keep l s)).length)), [(.live true false false 66 r)]) ∧ r.length = m.length ∧ (∀ y, y ∈ r → T62 1048576 y) ∧ r.take (m.filter (keep l s)).length = m.filter (keep l s) := by
  have hml := hm.1
  rw [f121o1_eq]
  rcases first_hd m hm l s h hs with ⟨h1, h2⟩ | ⟨j, hj, h1, h2, h3⟩
  · have hf : m.filter (keep l s) = m := List.filter_eq_self.2 fun y hy => by
      obtain ⟨i, hi, rfl⟩ := List.getElem_of_mem hy
      have := h2 i hi
      rwa [List.getD_eq_getElem?_getD, List.getElem?_eq_getElem hi] at this
    rw [h1, hf]
    exact ⟨m, rfl, rfl, hm.2, by simp⟩
  · rw [h1]
    simp only [bSh_i, toI_i]
    have hj1 : ¬ (j : Int) = -1 := by omega
    have hjn : (m.take j).filter (keep l s) = m.take j := List.filter_eq_self.2 fun y hy => by
      obtain ⟨i, hi, rfl⟩ := List.getElem_of_mem hy
      have hij : i < j := by rw [List.length_take] at hi; omega
      have := h3 i hij
      rw [List.getD_eq_getElem?_getD, List.getElem?_eq_getElem (by omega)] at this
      rw [List.getElem_take]; exact this
    simp only [hj1, decide_false, cond_false]
    rw [w64 (x := (j : Int) + 1) (by omega) (by omega), show ((j : Int) + 1) = ((j + 1 : Nat) : Int) by omega]
    let W : Nat → List AV → List AV := fun k r => r.take k ++ List.replicate (r.length - k) (.agg [(.s .empty), (.i .i64 (0 : Int)), (.i .i64 (0 : Int)), (.s .empty), (.s .empty)]) ++ r.drop (k + (r.length - k))
    have key : ∃ r', f121o1_l1 (.imm 5 l) (.imm 1 s) (j : Int) ((j + 1 : Nat) : Int) m = some (.sl 0 [] (some (0, (m.filter (keep l s)).length)), [(.live true false false 66 (W (m.filter (keep l s)).length r'))]) ∧ r'.length = m.length ∧ r'.take (m.filter (keep l s)).length = m.filter (keep l s) := by
      refine del_loop (L := fun k i r => f121o1_l1 (.imm 5 l) (.imm 1 s) k i r) (m := m) (p := (keep l s)) (T := T62 1048576) (F := fun k r => some (.sl 0 [] (some (0, k)), [(.live true false false 66 (W k r))])) hm.2 (fun i k r hi hk hl hg hr => ?_) (fun k r hk hl => ?_) (m.length - (j + 1)) (j + 1) j m (by omega) (by omega) rfl hm.2 ?_ rfl
      · have hT := hm.at hi
        have hT' : T62 1048576 (r.getD k .x) := hr _ (getD_mem (by omega))
        try dsimp only
        rw [f121o1_l1_eq, dT (show (i : Int) < ((r.length : Nat) : Int) by omega), cond_true, if_pos (by omega)]
        simp only [Nat.zero_add, Int.toNat_natCast, hg, hT.ok, hT.eta, clos_hd h hs hT, okC_nil, okC_agg, okC_i, okC_b, okC_s, okC_imm, okL_i, okL_b, okL_s, okL_sl, okS_i, okS_b, okS_s, okS_sl, okS_agg, okS_tup, okS_nil, okS_cons, cells_agg, cells_i, cells_b, cells_s, cells_imm, toI_i, toB_b, toS_s, toL_imm, nth_agg, nth_tup, put_agg, put_i, put_b, put_s, put_imm, setCells, List.getD_cons_zero, List.getD_cons_succ, bSh_b, bSh_i, bSh_s, bSh_sl, bSh_some, cond_true, cond_false, decide_true, decide_false, Int.toNat_natCast, Nat.zero_add, Nat.reduceAdd, beq_self_eq_true, Bool.and_true, Bool.true_and, if_true, Bool.false_eq_true, if_false, List.set_cons_zero, List.set_cons_succ, Bool.not_true, Bool.not_false, Bool.and_self, f121o1_j2_eq]
        rw [w64 (x := (k : Int) + 1) (by omega) (by omega), if_pos (by omega), w64 (x := (i : Int) + 1) (by omega) (by omega)]
        have hput : (r.getD k .x).putCells 0 (m.getD i .x).cells = m.getD i .x := by
          obtain ⟨a0, a1, a2, a3, a4, e1, _⟩ := hT'
          obtain ⟨b0, b1, b2, b3, b4, e2, _⟩ := hT
          rw [e1, e2]; rfl
        have hcl : [(.s ((m.getD i .x).cells.getD 0 .x).toS), (.i .i64 ((m.getD i .x).cells.getD 1 .x).toI), (.i .i64 ((m.getD i .x).cells.getD 2 .x).toI), (.s ((m.getD i .x).cells.getD 3 .x).toS), (.s ((m.getD i .x).cells.getD 4 .x).toS)] = (m.getD i .x).cells := by
          obtain ⟨b0, b1, b2, b3, b4, e2, _⟩ := hT
          rw [e2]; rfl
        rw [hcl, hput]
        cases (keep l s) (m.getD i .x) <;> simp
      · try dsimp only
        rw [f121o1_l1_eq, dF (show ¬ ((m.length : Nat) : Int) < ((r.length : Nat) : Int) by omega), cond_false, if_pos (by omega)]
        simp only [Int.toNat_natCast]
        rw [if_pos (by simp only [List.length_append, List.length_take, List.length_replicate, List.length_drop]; omega)]
        rfl
      · rw [take_getD hj, List.filter_append, hjn, List.filter_cons, if_neg (by rw [h2]; decide)]
        simp
    obtain ⟨r', g1, g2, g3⟩ := key
    have hWl : (W (m.filter (keep l s)).length r').length = m.length := by
      have : (m.filter (keep l s)).length ≤ m.length := List.length_filter_le _ _
      simp only [W, List.length_append, List.length_take, List.length_replicate, List.length_drop]
      omega
    have hle : (m.filter (keep l s)).length ≤ r'.length := by rw [g2]; exact List.length_filter_le _ _
    have z64 : W64 0 := by constructor <;> omega
    have ze : ByteArray.empty.size ≤ 1048576 := Nat.zero_le _
    refine ⟨W (m.filter (keep l s)).length r', g1, hWl, fun y hy => ?_, ?_⟩
    · simp only [W, List.mem_append] at hy
      rcases hy with (hy | hy) | hy
      · rw [g3] at hy
        exact hm.2 y (List.mem_filter.1 hy).1
      · rw [(List.mem_replicate.1 hy).2]; exact ⟨.empty, 0, 0, .empty, .empty, rfl, ze, z64, z64, ze, ze, trivial⟩
      · rw [List.drop_eq_nil_of_le (by omega)] at hy; cases hy
    · simp only [W, List.append_assoc]
      rw [List.take_append_of_le_length (by rw [List.length_take]; omega), List.take_take, Nat.min_self, g3]

theorem first_pu (m : List AV) (hm : Rw (T62 1048576) 1048576 m)  :
    (den E 168 [(.imm 5 m), (.fn 125 [])] [] = some (.i .i64 (-1)) ∧ ∀ i, i < m.length → putB (m.getD i .x) = true) ∨
    ∃ j : Nat, j < m.length ∧ den E 168 [(.imm 5 m), (.fn 125 [])] [] = some (.i .i64 j) ∧ putB (m.getD j .x) = false ∧ ∀ i, i < j → putB (m.getD i .x) = true := by
  have hll := hm.1
  have key := find_loop (L := fun i => f168q2_l1 m ((m.length : Nat) : Int) i) (n := m.length) (p := fun j => !putB (m.getD j .x)) (F := fun i => some (.i .i64 i)) (X := some (.i .i64 (-1))) (fun i hi => ?_) ?_ m.length 0 (by omega)
  · rw [f168q2_eq]
    rcases key with ⟨j, _, hj, h1, h2, h3⟩ | ⟨h1, h2⟩
    · exact .inr ⟨j, hj, h3, by simpa using h1, fun i hi => by simpa using h2 i (Nat.zero_le _) hi⟩
    · exact .inl ⟨h2, fun i hi => by simpa using h1 i (Nat.zero_le _) hi⟩
  · have hT := hm.at hi
    try dsimp only
    rw [f168q2_l1_eq, dT (show (i : Int) < ((m.length : Nat) : Int) by omega), cond_true, if_pos (by omega), w64 (x := (i : Int) + 1) (by omega) (by omega)]
    simp only [Int.toNat_natCast, hT.ok, hT.eta, clos_pu hT, okC_nil, okC_agg, okC_i, okC_b, okC_s, okC_imm, okL_i, okL_b, okL_s, okL_sl, okS_i, okS_b, okS_s, okS_sl, okS_agg, okS_tup, okS_nil, okS_cons, cells_agg, cells_i, cells_b, cells_s, cells_imm, toI_i, toB_b, toS_s, toL_imm, nth_agg, nth_tup, put_agg, put_i, put_b, put_s, put_imm, setCells, List.getD_cons_zero, List.getD_cons_succ, bSh_b, bSh_i, bSh_s, bSh_sl, bSh_some, cond_true, cond_false, decide_true, decide_false, Int.toNat_natCast, Nat.zero_add, Nat.reduceAdd, beq_self_eq_true, Bool.and_true, Bool.true_and, if_true, Bool.false_eq_true, if_false, List.set_cons_zero, List.set_cons_succ, Bool.not_true, Bool.not_false, Bool.and_self]
  · try dsimp only
    rw [f168q2_l1_eq, dF (Int.lt_irrefl _), cond_false]
theorem del_pu (m : List AV) (hm : Rw (T62 1048576) 1048576 m)  :
    ∃ r : List AV, dno E 121 [(.sl 0 [] none), (.fn 125 [])] [(.live true false false 66 m)] =
      some (.sl 0 [] (some (0, (m.filter putB).length)), [(.live true false false 66 r)]) ∧ r.length = m.length ∧ (∀ y, y ∈ r → T62 1048576 y) ∧ r.take (m.filter putB).length = m.filter putB := by
  have hml := hm.1
  rw [f121o2_eq]
  rcases first_pu m hm with ⟨h1, h2⟩ | ⟨j, hj, h1, h2, h3⟩
  · have hf : m.filter putB = m := List.filter_eq_self.2 fun y hy => by
      obtain ⟨i, hi, rfl⟩ := List.getElem_of_mem hy
      have := h2 i hi
      rwa [List.getD_eq_getElem?_getD, List.getElem?_eq_getElem hi] at this
    rw [h1, hf]
    exact ⟨m, rfl, rfl, hm.2, by simp⟩
  · rw [h1]
    simp only [bSh_i, toI_i]
    have hj1 : ¬ (j : Int) = -1 := by omega
    have hjn : (m.take j).filter putB = m.take j := List.filter_eq_self.2 fun y hy => by
      obtain ⟨i, hi, rfl⟩ := List.getElem_of_mem hy
      have hij : i < j := by rw [List.length_take] at hi; omega
      have := h3 i hij
      rw [List.getD_eq_getElem?_getD, List.getElem?_eq_getElem (by omega)] at this
      rw [List.getElem_take]; exact this
    simp only [hj1, decide_false, cond_false]
    rw [w64 (x := (j : Int) + 1) (by omega) (by omega), show ((j : Int) + 1) = ((j + 1 : Nat) : Int) by omega]
    let W : Nat → List AV → List AV := fun k r => r.take k ++ List.replicate (r.length - k) (.agg [(.s .empty), (.i .i64 (0 : Int)), (.i .i64 (0 : Int)), (.s .empty), (.s .empty)]) ++ r.drop (k + (r.length - k))
    have key : ∃ r', f121o2_l1 (j : Int) ((j + 1 : Nat) : Int) m = some (.sl 0 [] (some (0, (m.filter putB).length)), [(.live true false false 66 (W (m.filter putB).length r'))]) ∧ r'.length = m.length ∧ r'.take (m.filter putB).length = m.filter putB := by
      refine del_loop (L := fun k i r => f121o2_l1 k i r) (m := m) (p := putB) (T := T62 1048576) (F := fun k r => some (.sl 0 [] (some (0, k)), [(.live true false false 66 (W k r))])) hm.2 (fun i k r hi hk hl hg hr => ?_) (fun k r hk hl => ?_) (m.length - (j + 1)) (j + 1) j m (by omega) (by omega) rfl hm.2 ?_ rfl
      · have hT := hm.at hi
        have hT' : T62 1048576 (r.getD k .x) := hr _ (getD_mem (by omega))
        try dsimp only
        rw [f121o2_l1_eq, dT (show (i : Int) < ((r.length : Nat) : Int) by omega), cond_true, if_pos (by omega)]
        simp only [Nat.zero_add, Int.toNat_natCast, hg, hT.ok, hT.eta, clos_pu hT, okC_nil, okC_agg, okC_i, okC_b, okC_s, okC_imm, okL_i, okL_b, okL_s, okL_sl, okS_i, okS_b, okS_s, okS_sl, okS_agg, okS_tup, okS_nil, okS_cons, cells_agg, cells_i, cells_b, cells_s, cells_imm, toI_i, toB_b, toS_s, toL_imm, nth_agg, nth_tup, put_agg, put_i, put_b, put_s, put_imm, setCells, List.getD_cons_zero, List.getD_cons_succ, bSh_b, bSh_i, bSh_s, bSh_sl, bSh_some, cond_true, cond_false, decide_true, decide_false, Int.toNat_natCast, Nat.zero_add, Nat.reduceAdd, beq_self_eq_true, Bool.and_true, Bool.true_and, if_true, Bool.false_eq_true, if_false, List.set_cons_zero, List.set_cons_succ, Bool.not_true, Bool.not_false, Bool.and_self, f121o2_j2_eq]
        rw [w64 (x := (k : Int) + 1) (by omega) (by omega), if_pos (by omega), w64 (x := (i : Int) + 1) (by omega) (by omega)]
        have hput : (r.getD k .x).putCells 0 (m.getD i .x).cells = m.getD i .x := by
          obtain ⟨a0, a1, a2, a3, a4, e1, _⟩ := hT'
          obtain ⟨b0, b1, b2, b3, b4, e2, _⟩ := hT
          rw [e1, e2]; rfl
        have hcl : [(.s ((m.getD i .x).cells.getD 0 .x).toS), (.i .i64 ((m.getD i .x).cells.getD 1 .x).toI), (.i .i64 ((m.getD i .x).cells.getD 2 .x).toI), (.s ((m.getD i .x).cells.getD 3 .x).toS), (.s ((m.getD i .x).cells.getD 4 .x).toS)] = (m.getD i .x).cells := by
          obtain ⟨b0, b1, b2, b3, b4, e2, _⟩ := hT
          rw [e2]; rfl
        rw [hcl, hput]
        cases putB (m.getD i .x) <;> simp
      · try dsimp only
        rw [f121o2_l1_eq, dF (show ¬ ((m.length : Nat) : Int) < ((r.length : Nat) : Int) by omega), cond_false, if_pos (by omega)]
        simp only [Int.toNat_natCast]
        rw [if_pos (by simp only [List.length_append, List.length_take, List.length_replicate, List.length_drop]; omega)]
        rfl
      · rw [take_getD hj, List.filter_append, hjn, List.filter_cons, if_neg (by rw [h2]; decide)]
        simp
    obtain ⟨r', g1, g2, g3⟩ := key
    have hWl : (W (m.filter putB).length r').length = m.length := by
      have : (m.filter putB).length ≤ m.length := List.length_filter_le _ _
      simp only [W, List.length_append, List.length_take, List.length_replicate, List.length_drop]
      omega
    have hle : (m.filter putB).length ≤ r'.length := by rw [g2]; exact List.length_filter_le _ _
    have z64 : W64 0 := by constructor <;> omega
    have ze : ByteArray.empty.size ≤ 1048576 := Nat.zero_le _
    refine ⟨W (m.filter putB).length r', g1, hWl, fun y hy => ?_, ?_⟩
    · simp only [W, List.mem_append] at hy
      rcases hy with (hy | hy) | hy
      · rw [g3] at hy
        exact hm.2 y (List.mem_filter.1 hy).1
      · rw [(List.mem_replicate.1 hy).2]; exact ⟨.empty, 0, 0, .empty, .empty, rfl, ze, z64, z64, ze, ze, trivial⟩
      · rw [List.drop_eq_nil_of_le (by omega)] at hy; cases hy
    · simp only [W, List.append_assoc]
      rw [List.take_append_of_le_length (by rw [List.length_take]; omega), List.take_take, Nat.min_self, g3]

theorem first_nd (m : List AV) (hm : Rw (T62 1048576) 1048576 m) (pu : List AV) (hpu : Rw (T62 1048576) 1048576 pu) :
    (den E 168 [(.imm 5 m), (.fn 126 [(.ip (.imm 5 pu) 0)])] [] = some (.i .i64 (-1)) ∧ ∀ i, i < m.length → (neededBy pu) (m.getD i .x) = true) ∨
    ∃ j : Nat, j < m.length ∧ den E 168 [(.imm 5 m), (.fn 126 [(.ip (.imm 5 pu) 0)])] [] = some (.i .i64 j) ∧ (neededBy pu) (m.getD j .x) = false ∧ ∀ i, i < j → (neededBy pu) (m.getD i .x) = true := by
  have hll := hm.1
  have key := find_loop (L := fun i => f168q3_l1 m (.imm 5 pu) ((m.length : Nat) : Int) i) (n := m.length) (p := fun j => !(neededBy pu) (m.getD j .x)) (F := fun i => some (.i .i64 i)) (X := some (.i .i64 (-1))) (fun i hi => ?_) ?_ m.length 0 (by omega)
  · rw [f168q3_eq]
    rcases key with ⟨j, _, hj, h1, h2, h3⟩ | ⟨h1, h2⟩
    · exact .inr ⟨j, hj, h3, by simpa using h1, fun i hi => by simpa using h2 i (Nat.zero_le _) hi⟩
    · exact .inl ⟨h2, fun i hi => by simpa using h1 i (Nat.zero_le _) hi⟩
  · have hT := hm.at hi
    try dsimp only
    rw [f168q3_l1_eq, dT (show (i : Int) < ((m.length : Nat) : Int) by omega), cond_true, if_pos (by omega), w64 (x := (i : Int) + 1) (by omega) (by omega)]
    simp only [Int.toNat_natCast, hT.ok, hT.eta, clos_nd hpu hT, okC_nil, okC_agg, okC_i, okC_b, okC_s, okC_imm, okL_i, okL_b, okL_s, okL_sl, okS_i, okS_b, okS_s, okS_sl, okS_agg, okS_tup, okS_nil, okS_cons, cells_agg, cells_i, cells_b, cells_s, cells_imm, toI_i, toB_b, toS_s, toL_imm, nth_agg, nth_tup, put_agg, put_i, put_b, put_s, put_imm, setCells, List.getD_cons_zero, List.getD_cons_succ, bSh_b, bSh_i, bSh_s, bSh_sl, bSh_some, cond_true, cond_false, decide_true, decide_false, Int.toNat_natCast, Nat.zero_add, Nat.reduceAdd, beq_self_eq_true, Bool.and_true, Bool.true_and, if_true, Bool.false_eq_true, if_false, List.set_cons_zero, List.set_cons_succ, Bool.not_true, Bool.not_false, Bool.and_self]
  · try dsimp only
    rw [f168q3_l1_eq, dF (Int.lt_irrefl _), cond_false]
theorem delw_nd (m : List AV) (hm : Rw (T62 1048576) 1048576 m) (tl : List AV) (htl : ∀ y, y ∈ tl → T62 1048576 y) (pu : List AV) (hpu : Rw (T62 1048576) 1048576 pu) :
    ∃ r : List AV, dno E 121 [(.sl 0 [] (some (0, m.length))), (.fn 126 [(.ip (.imm 5 pu) 0)])] [(.live true false false 66 (m ++ tl))] =
      some (.sl 0 [] (some (0, (m.filter (neededBy pu)).length)), [(.live true false false 66 r)]) ∧ r.length = (m ++ tl).length ∧ (∀ y, y ∈ r → T62 1048576 y) ∧ r.take (m.filter (neededBy pu)).length = m.filter (neededBy pu) := by
  have hml := hm.1
  have hmt : ∀ y, y ∈ m ++ tl → T62 1048576 y := fun y hy => (List.mem_append.1 hy).elim (hm.2 y) (htl y)
  have hwn : ((m ++ tl).drop 0).take m.length = m := by rw [List.drop_zero, List.take_append_of_le_length (Nat.le_refl _), List.take_length]
  rw [f121o3_eq, hwn]
  rcases first_nd m hm pu hpu with ⟨h1, h2⟩ | ⟨j, hj, h1, h2, h3⟩
  · have hf : m.filter (neededBy pu) = m := List.filter_eq_self.2 fun y hy => by
      obtain ⟨i, hi, rfl⟩ := List.getElem_of_mem hy
      have := h2 i hi
      rwa [List.getD_eq_getElem?_getD, List.getElem?_eq_getElem hi] at this
    rw [h1, hf]
    exact ⟨m ++ tl, rfl, rfl, hmt, by rw [List.take_append_of_le_length (Nat.le_refl _), List.take_length]⟩
  · rw [h1]
    simp only [bSh_i, toI_i]
    have hj1 : ¬ (j : Int) = -1 := by omega
    have hjn : (m.take j).filter (neededBy pu) = m.take j := List.filter_eq_self.2 fun y hy => by
      obtain ⟨i, hi, rfl⟩ := List.getElem_of_mem hy
      have hij : i < j := by rw [List.length_take] at hi; omega
      have := h3 i hij
      rw [List.getD_eq_getElem?_getD, List.getElem?_eq_getElem (by omega)] at this
      rw [List.getElem_take]; exact this
    simp only [hj1, decide_false, cond_false]
    rw [w64 (x := (j : Int) + 1) (by omega) (by omega), show ((j : Int) + 1) = ((j + 1 : Nat) : Int) by omega]
    let W : Nat → List AV → List AV := fun k r => (r ++ tl).take (0 + k) ++ List.replicate (m.length - k) (.agg [(.s .empty), (.i .i64 (0 : Int)), (.i .i64 (0 : Int)), (.s .empty), (.s .empty)]) ++ (r ++ tl).drop ((0 + k) + (m.length - k))
    have key : ∃ r', f121o3_l1 0 m.length (.imm 5 pu) (j : Int) ((j + 1 : Nat) : Int) (m ++ tl) = some (.sl 0 [] (some (0, (m.filter (neededBy pu)).length)), [(.live true false false 66 (W (m.filter (neededBy pu)).length r'))]) ∧ r'.length = m.length ∧ r'.take (m.filter (neededBy pu)).length = m.filter (neededBy pu) := by
      refine del_loop (L := fun k i r => f121o3_l1 0 m.length (.imm 5 pu) k i (r ++ tl)) (m := m) (p := (neededBy pu)) (T := T62 1048576) (F := fun k r => some (.sl 0 [] (some (0, k)), [(.live true false false 66 (W k r))])) hm.2 (fun i k r hi hk hl hg hr => ?_) (fun k r hk hl => ?_) (m.length - (j + 1)) (j + 1) j m (by omega) (by omega) rfl hm.2 ?_ rfl
      · have hT := hm.at hi
        have hT' : T62 1048576 (r.getD k .x) := hr _ (getD_mem (by omega))
        have ga : (r ++ tl).getD i .x = m.getD i .x := by rw [List.getD_eq_getElem?_getD, List.getElem?_append_left (by omega), ← List.getD_eq_getElem?_getD, hg]
        have gk : (r ++ tl).getD k .x = r.getD k .x := by rw [List.getD_eq_getElem?_getD, List.getElem?_append_left (by omega), ← List.getD_eq_getElem?_getD]
        try dsimp only
        rw [f121o3_l1_eq, dT (show (i : Int) < ((m.length : Nat) : Int) by omega), cond_true, if_pos (by omega)]
        simp only [Nat.zero_add, Int.toNat_natCast, ga, gk, hT.ok, hT.eta, clos_nd hpu hT, okC_nil, okC_agg, okC_i, okC_b, okC_s, okC_imm, okL_i, okL_b, okL_s, okL_sl, okS_i, okS_b, okS_s, okS_sl, okS_agg, okS_tup, okS_nil, okS_cons, cells_agg, cells_i, cells_b, cells_s, cells_imm, toI_i, toB_b, toS_s, toL_imm, nth_agg, nth_tup, put_agg, put_i, put_b, put_s, put_imm, setCells, List.getD_cons_zero, List.getD_cons_succ, bSh_b, bSh_i, bSh_s, bSh_sl, bSh_some, cond_true, cond_false, decide_true, decide_false, Int.toNat_natCast, Nat.zero_add, Nat.reduceAdd, beq_self_eq_true, Bool.and_true, Bool.true_and, if_true, Bool.false_eq_true, if_false, List.set_cons_zero, List.set_cons_succ, Bool.not_true, Bool.not_false, Bool.and_self, f121o3_j2_eq]
        rw [w64 (x := (k : Int) + 1) (by omega) (by omega), if_pos (by omega), w64 (x := (i : Int) + 1) (by omega) (by omega)]
        have hput : (r.getD k .x).putCells 0 (m.getD i .x).cells = m.getD i .x := by
          obtain ⟨a0, a1, a2, a3, a4, e1, _⟩ := hT'
          obtain ⟨b0, b1, b2, b3, b4, e2, _⟩ := hT
          rw [e1, e2]; rfl
        have hcl : [(.s ((m.getD i .x).cells.getD 0 .x).toS), (.i .i64 ((m.getD i .x).cells.getD 1 .x).toI), (.i .i64 ((m.getD i .x).cells.getD 2 .x).toI), (.s ((m.getD i .x).cells.getD 3 .x).toS), (.s ((m.getD i .x).cells.getD 4 .x).toS)] = (m.getD i .x).cells := by
          obtain ⟨b0, b1, b2, b3, b4, e2, _⟩ := hT
          rw [e2]; rfl
        rw [hcl, hput, List.set_append_left _ _ (by omega)]
        cases (neededBy pu) (m.getD i .x) <;> simp
      · try dsimp only
        rw [f121o3_l1_eq, dF (Int.lt_irrefl _), cond_false, if_pos (by omega)]
        simp only [Int.toNat_natCast]
        rw [if_pos (by omega)]
        rfl
      · rw [take_getD hj, List.filter_append, hjn, List.filter_cons, if_neg (by rw [h2]; decide)]
        simp
    obtain ⟨r', g1, g2, g3⟩ := key
    have hfl : (m.filter (neededBy pu)).length ≤ m.length := List.length_filter_le _ _
    have hWl : (W (m.filter (neededBy pu)).length r').length = (m ++ tl).length := by
      simp only [W, List.length_append, List.length_take, List.length_replicate, List.length_drop]
      omega
    have z64 : W64 0 := by constructor <;> omega
    have ze : ByteArray.empty.size ≤ 1048576 := Nat.zero_le _
    refine ⟨W (m.filter (neededBy pu)).length r', g1, hWl, fun y hy => ?_, ?_⟩
    · simp only [W, List.mem_append] at hy
      rcases hy with (hy | hy) | hy
      · rw [Nat.zero_add, List.take_append_of_le_length (by omega), g3] at hy
        exact hm.2 y (List.mem_filter.1 hy).1
      · rw [(List.mem_replicate.1 hy).2]; exact ⟨.empty, 0, 0, .empty, .empty, rfl, ze, z64, z64, ze, ze, trivial⟩
      · rw [show 0 + (m.filter (neededBy pu)).length + (m.length - (m.filter (neededBy pu)).length) = r'.length by omega, List.drop_left] at hy
        exact htl y hy
    · simp only [W, List.append_assoc, Nat.zero_add]
      rw [List.take_append_of_le_length (by rw [List.length_take, List.length_append]; omega), List.take_take, Nat.min_self, List.take_append_of_le_length (by omega), g3]

theorem rec_flat {l : List AV} (h : ∀ y, y ∈ l → T62 1048576 y) : flatVL l = true := flatVL_of fun y hy => by
  obtain ⟨a0, a1, a2, a3, a4, rfl, _⟩ := h y hy; rfl
theorem impl_drop {l s : List AV} (h : Rw (T62 1048576) 1048576 l) (hs : Rw (T2 1048576) 1048576 s) (b : Bool) : ∃ r : List AV, dno E 71 [(.imm 5 l), (.imm 1 s), (.b b)] [] = some (.sl 0 [] (some (0, (dropped l s b).length)), [.live true false false 66 r]) ∧
    r.length = l.length ∧ (∀ y, y ∈ r → T62 1048576 y) ∧ r.take (dropped l s b).length = dropped l s b := by
  have hl := h.1
  have c : ∀ m : List AV, m.length ≤ 1048576 → dno E 80 [(.imm 5 m)] [] = some (.sl 0 [] none, [.live true false false 66 m]) := fun m hm => by
    rw [f80_eq, if_pos ⟨rfl, by simp only [room]; omega⟩]
  have hk := rw_fil h (keep l s)
  have hp := rw_fil hk putB
  obtain ⟨r1, h1, h2, h3, h4⟩ := del_hd l h l s h hs
  have f1 := rec_flat h3
  have f0 := rec_flat h.2
  have fk := rec_flat hk.2
  rw [f71o1_eq, c l hl]
  cases b
  · refine ⟨r1, ?_, h2, h3, h4⟩
    simp only [bOwn_some, bOwnF_some, bOwnS_some, bOwnFS_some, okRs_nil, okRs_cons, okR_row, okR_same, okR_var, okR_gone, okS_so, okS_pr, okLens_nil, okLens_same, okLens_row, okLens_var, row_live, flatR_live, flatL_nil, flatL_cons, flat_i, flat_b, flat_s, flat_sl, flat_agg, flat_tup, List.all_cons, List.all_nil, List.length_cons, List.length_nil, Nat.reduceLeDiff, Nat.le_refl, decide_true, Bool.and_self, mkL_length, List.headD_cons, okC_nil, okC_agg, okC_i, okC_b, okC_s, okC_imm, okL_i, okL_b, okL_s, okL_sl, okS_i, okS_b, okS_s, okS_sl, okS_agg, okS_tup, okS_nil, okS_cons, cells_agg, cells_i, cells_b, cells_s, cells_imm, toI_i, toB_b, toS_s, toL_imm, nth_agg, nth_tup, put_agg, put_i, put_b, put_s, put_imm, setCells, List.getD_cons_zero, List.getD_cons_succ, bSh_b, bSh_i, bSh_s, bSh_sl, bSh_some, cond_true, cond_false, decide_true, decide_false, Int.toNat_natCast, Nat.zero_add, Nat.reduceAdd, beq_self_eq_true, Bool.and_true, Bool.true_and, if_true, Bool.false_eq_true, if_false, List.set_cons_zero, List.set_cons_succ, Bool.not_true, Bool.not_false, Bool.and_self, h1, h2, f0, f1]
    rfl
  · obtain ⟨r2, g1, g2, g3, g4⟩ := del_pu _ hk
    have f2 := rec_flat g3
    have htl : ∀ y, y ∈ r1.drop (l.filter (keep l s)).length → T62 1048576 y := fun y hy => h3 y (List.mem_of_mem_drop hy)
    have er : l.filter (keep l s) ++ r1.drop (l.filter (keep l s)).length = r1 := by rw [← h4, List.length_take, Nat.min_eq_left (by rw [h2]; exact List.length_filter_le _ _), List.take_append_drop]
    obtain ⟨r3, k1, k2, k3, k4⟩ := delw_nd _ hk _ htl _ hp
    rw [er] at k1 k2
    have f3 := rec_flat k3
    refine ⟨r3, ?_, by rw [k2, h2], k3, k4⟩
    simp only [bOwn_some, bOwnF_some, bOwnS_some, bOwnFS_some, okRs_nil, okRs_cons, okR_row, okR_same, okR_var, okR_gone, okS_so, okS_pr, okLens_nil, okLens_same, okLens_row, okLens_var, row_live, flatR_live, flatL_nil, flatL_cons, flat_i, flat_b, flat_s, flat_sl, flat_agg, flat_tup, List.all_cons, List.all_nil, List.length_cons, List.length_nil, Nat.reduceLeDiff, Nat.le_refl, decide_true, Bool.and_self, mkL_length, List.headD_cons, okC_nil, okC_agg, okC_i, okC_b, okC_s, okC_imm, okL_i, okL_b, okL_s, okL_sl, okS_i, okS_b, okS_s, okS_sl, okS_agg, okS_tup, okS_nil, okS_cons, cells_agg, cells_i, cells_b, cells_s, cells_imm, toI_i, toB_b, toS_s, toL_imm, nth_agg, nth_tup, put_agg, put_i, put_b, put_s, put_imm, setCells, List.getD_cons_zero, List.getD_cons_succ, bSh_b, bSh_i, bSh_s, bSh_sl, bSh_some, cond_true, cond_false, decide_true, decide_false, Int.toNat_natCast, Nat.zero_add, Nat.reduceAdd, beq_self_eq_true, Bool.and_true, Bool.true_and, if_true, Bool.false_eq_true, if_false, List.set_cons_zero, List.set_cons_succ, Bool.not_true, Bool.not_false, Bool.and_self, h1, h2, f0, f1, AV.off, AV.cnt, List.drop_zero, h4, c _ hk.1, fk, g1, g2, f2, g4, k1, k2, f3]
    rfl


/-! Rows of numbers: copied, marked. -/
theorem t2_put {B : Nat} {y v : AV} (h : T2 B y) : y.putCells 0 [v] = v := by obtain ⟨_, rfl, _⟩ := h; rfl
theorem t2_flat {B C : Nat} {l : List AV} (h : Rw (T2 B) C l) : flatVL l = true := flatVL_of fun y hy => by obtain ⟨_, rfl, _⟩ := h.2 y hy; rfl
theorem own_int {l : List AV} (h : Rw (T2 1048576) 1048576 l) : dno E 27 [(.imm 1 l)] [] = some (.sl 0 [] none, [.live true false false 2 l]) := by
  have hl := h.1
  rw [f27o1_eq, if_pos (by simp only [room]; omega), Int.toNat_natCast]
  refine fill_loop (L := fun i ys => f27o1_l1 l i [] ys) (xs := l) (ys0 := List.replicate l.length (.i .i64 0)) (F := fun ys => some (.sl 0 [] none, [.live true false false 2 ys])) (by simp) (fun i ys hi hy hz => ?_) ?_
  · have hT := h.at hi
    have hz' : ys.getD i .x = .i .i64 0 := by rw [hz]; simp [List.getD_eq_getElem?_getD, hi]
    try dsimp only
    rw [f27o1_l1_eq, dT (show (i : Int) < ((l.length : Nat) : Int) by omega), cond_true, if_pos (by omega), w64 (x := (i : Int) + 1) (by omega) (by omega)]
    simp only [Int.toNat_natCast, Nat.zero_add, hT.ok, if_true, hz', put_i]
    rw [if_pos (by omega), hT.eta]
  · try dsimp only
    rw [f27o1_l1_eq, dF (Int.lt_irrefl _), cond_false]
theorem mark_int {l : List AV} (h : Rw (T2 1048576) 1048576 l) (k : Int) (hk : 0 ≤ k) (hk2 : k ≤ 1099511627776) : dno E 30 [(.sl 0 [] none), (.i .i64 k)] [(.live true false false 2 l)] =
    some (.i .i64 (k + ((l.length : Nat) : Int)), [.live true false false 2 (mkL l.length fun i => .i .i64 (k + (i : Int)))]) := by
  have hl := h.1
  rw [f30o1_eq]
  have := fill_loop (L := fun i ys => f30o1_l1 (k + i) i ys) (xs := mkL l.length fun i => .i .i64 (k + (i : Int))) (ys0 := l) (F := fun ys => some (AV.i .i64 (k + ((l.length : Nat) : Int)), [.live true false false 2 ys])) (by rw [mkL_length]) (fun i ys hi hy hz => ?_) ?_
  · simpa using this
  · rw [mkL_length] at hi hy
    have hT := h.at hi
    try dsimp only
    rw [f30o1_l1_eq, dT (show (i : Int) < ((ys.length : Nat) : Int) by omega), cond_true, if_pos (by omega), w64 (x := k + (i : Int) + 1) (by omega) (by omega), w64 (x := (i : Int) + 1) (by omega) (by omega)]
    simp only [Int.toNat_natCast, Nat.zero_add, hz, t2_put hT, mkL_getD hi]
    rw [Int.add_assoc]
  · rw [mkL_length]
    try dsimp only
    rw [f30o1_l1_eq, dF (by rw [mkL_length]; omega), cond_false]


/-! Marks that are texts. -/
theorem text_ok : ∀ (n : Nat) (k : Int) (s : ByteArray), k.toNat ≤ n → 0 ≤ k → k ≤ 1099511627776 → (s.size : Int) + k ≤ 2199023255552 → ∃ r, f67_l1 k s = some (.s r) := by
  intro n
  induction n with
  | zero =>
    intro k s h1 h2 h3 h4
    have : k = 0 := by omega
    subst this
    have h5 : ({ data := #[109] } : ByteArray).size + s.size ≤ 9223372036854775807 := by
      have : ({ data := #[109] } : ByteArray).size = 1 := rfl
      rw [this]; omega
    rw [f67_l1_eq, dF (Int.lt_irrefl _), cond_false, if_pos h5]
    exact ⟨_, rfl⟩
  | succ n ih =>
    intro k s h1 h2 h3 h4
    by_cases hk : k = 0
    · subst hk
      exact ih 0 s (by omega) (by omega) (by omega) h4
    have hd : k.tdiv 10 = k / 10 := Int.tdiv_eq_ediv_of_nonneg h2
    have hsz : ∀ y0 : AV, (bytesOf [y0]).size = 1 := fun y0 => rfl
    have hu : ([(.i .u8 (IntKind.u8.wrap (IntKind.i64.wrap ((48 : Int) + (k.tmod (10 : Int))))))] : List AV).all isU8 = true := rfl
    rw [f67_l1_eq, dT (show (0 : Int) < k by omega), cond_true, if_pos hu, hd, w64 (x := k / 10) (by omega) (by omega), if_pos (by rw [hsz]; omega)]
    refine ih (k / 10) _ (by omega) (by omega) (by omega) ?_
    rw [ByteArray.size_append, hsz]
    omega
noncomputable def mt (k : Int) : ByteArray := match den E 67 [(.i .i64 k)] [] with
  | some (.s r) => r
  | _ => .empty
theorem mt_ok {k : Int} (h0 : 0 < k) (h1 : k ≤ 1099511627776) : den E 67 [(.i .i64 k)] [] = some (.s (mt k)) := by
  have : ∃ r, den E 67 [(.i .i64 k)] [] = some (.s r) := by
    rw [f67_eq, dF (show ¬ k ≤ 0 by omega), cond_false]
    refine text_ok k.toNat k _ (Nat.le_refl _) (by omega) h1 ?_
    have : ({ data := #[] } : ByteArray).size = 0 := rfl
    rw [this]; omega
  obtain ⟨r, hr⟩ := this
  unfold mt
  rw [hr]


/-! Rows of Record: copied, marked, looked at again. -/
noncomputable def mkRecord (x : Int) : AV := (.agg [(.s (mt x)), (.i .i64 (x + 1)), (.i .i64 ((x + 1) + 1)), (.s (mt (((x + 1) + 1) + 1))), (.s (mt ((((x + 1) + 1) + 1) + 1)))])
theorem flat_Record {B C : Nat} {l : List AV} (h : Rw (T62 B) C l) : flatVL l = true := flatVL_of fun y hy => by
  obtain ⟨a0, a1, a2, a3, a4, rfl, _⟩ := h.2 y hy; rfl
theorem own_Record {l : List AV} (h : Rw (T62 1048576) 1048576 l) : dno E 17 [(.imm 5 l)] [] = some (.sl 0 [] none, [.live true false false 66 l]) := by
  have hl := h.1
  rw [f17o1_eq, if_pos (by simp only [room]; omega), Int.toNat_natCast]
  refine fill_loop (L := fun i ys => f17o1_l1 l i [] ys) (xs := l) (ys0 := List.replicate l.length (.agg [(.s .empty), (.i .i64 (0 : Int)), (.i .i64 (0 : Int)), (.s .empty), (.s .empty)])) (F := fun ys => some (.sl 0 [] none, [.live true false false 66 ys])) (by simp) (fun i ys hi hy hz => ?_) ?_
  · have hT := h.at hi
    have ht := to34 hT
    have hz' : ys.getD i .x = (.agg [(.s .empty), (.i .i64 (0 : Int)), (.i .i64 (0 : Int)), (.s .empty), (.s .empty)]) := by rw [hz]; simp [List.getD_eq_getElem?_getD, hi]
    try dsimp only
    rw [f17o1_l1_eq, dT (show (i : Int) < ((l.length : Nat) : Int) by omega), cond_true, if_pos (by omega), w64 (x := (i : Int) + 1) (by omega) (by omega)]
    simp only [Int.toNat_natCast, Nat.zero_add, hT.ok, hT.eta, if_true, hz', ht]
    obtain ⟨a0, a1, a2, a3, a4, he, _⟩ := hT
    rw [he]
    simp only [okC_nil, okC_agg, okC_i, okC_b, okC_s, okC_imm, okL_i, okL_b, okL_s, okL_sl, okS_i, okS_b, okS_s, okS_sl, okS_agg, okS_tup, okS_nil, okS_cons, cells_agg, cells_i, cells_b, cells_s, cells_imm, toI_i, toB_b, toS_s, toL_imm, nth_agg, nth_tup, put_agg, put_i, put_b, put_s, put_imm, setCells, List.getD_cons_zero, List.getD_cons_succ, bSh_b, bSh_i, bSh_s, bSh_sl, bSh_some, cond_true, cond_false, decide_true, decide_false, Int.toNat_natCast, Nat.zero_add, Nat.reduceAdd, beq_self_eq_true, Bool.and_true, Bool.true_and, if_true, Bool.false_eq_true, if_false, List.set_cons_zero, List.set_cons_succ, Bool.not_true, Bool.not_false, Bool.and_self]
    rw [if_pos (by omega)]
  · try dsimp only
    rw [f17o1_l1_eq, dF (Int.lt_irrefl _), cond_false]
theorem mark_Record {l : List AV} (h : Rw (T62 1048576) 1048576 l) (k : Int) (hk : 0 < k) (hk2 : k ≤ 549755813888) : dno E 21 [(.sl 0 [] none), (.i .i64 k)] [(.live true false false 66 l)] =
    some (.i .i64 (k + 5 * ((l.length : Nat) : Int)), [.live true false false 66 (mkL l.length fun i => mkRecord (k + 5 * (i : Int)))]) := by
  have hl := h.1
  rw [f21o1_eq]
  have := fill_loop (L := fun i ys => f21o1_l1 (k + 5 * i) i ys) (xs := mkL l.length fun i => mkRecord (k + 5 * (i : Int))) (ys0 := l) (F := fun ys => some (AV.i .i64 (k + 5 * ((l.length : Nat) : Int)), [.live true false false 66 ys])) (by rw [mkL_length]) (fun i r hi hr hz => ?_) ?_
  · simpa using this
  · rw [mkL_length] at hi hr
    obtain ⟨a0, a1, a2, a3, a4, he, _⟩ := h.at hi
    have hge : r.getD i .x = _ := hz.trans he
    have hgs : ∀ y, (r.set i y).getD i .x = y := fun y => by
      rw [List.getD_eq_getElem?_getD, List.getElem?_set_self (by omega)]; rfl
    generalize hx : k + 5 * (i : Int) = x
    have hnext : (((((x + 1) + 1) + 1) + 1) + 1) = k + 5 * ((i : Int) + 1) := by omega
    have g1 : (0 : Int) ≤ (i : Int) := by omega
    have g2 : (i : Int) < ((r.length : Nat) : Int) := by omega
    have w1 : IntKind.i64.wrap (x + 1) = (x + 1) := w64 (by omega) (by omega)
    have w2 : IntKind.i64.wrap ((x + 1) + 1) = ((x + 1) + 1) := w64 (by omega) (by omega)
    have w3 : IntKind.i64.wrap (((x + 1) + 1) + 1) = (((x + 1) + 1) + 1) := w64 (by omega) (by omega)
    have w4 : IntKind.i64.wrap ((((x + 1) + 1) + 1) + 1) = ((((x + 1) + 1) + 1) + 1) := w64 (by omega) (by omega)
    have w5 : IntKind.i64.wrap (((((x + 1) + 1) + 1) + 1) + 1) = (((((x + 1) + 1) + 1) + 1) + 1) := w64 (by omega) (by omega)
    have m0 := mt_ok (k := x) (by omega) (by omega)
    have m3 := mt_ok (k := (((x + 1) + 1) + 1)) (by omega) (by omega)
    have m4 := mt_ok (k := ((((x + 1) + 1) + 1) + 1)) (by omega) (by omega)
    try dsimp only
    rw [f21o1_l1_eq, dT g2, cond_true, w64 (x := (i : Int) + 1) (by omega) (by omega)]
    simp only [Int.toNat_natCast, Nat.zero_add, putAt, hge, hgs, List.set_set, List.length_set, g1, g2, and_self, w1, w2, w3, w4, w5, m0, m3, m4, okC_nil, okC_agg, okC_i, okC_b, okC_s, okC_imm, okL_i, okL_b, okL_s, okL_sl, okS_i, okS_b, okS_s, okS_sl, okS_agg, okS_tup, okS_nil, okS_cons, cells_agg, cells_i, cells_b, cells_s, cells_imm, toI_i, toB_b, toS_s, toL_imm, nth_agg, nth_tup, put_agg, put_i, put_b, put_s, put_imm, setCells, List.getD_cons_zero, List.getD_cons_succ, bSh_b, bSh_i, bSh_s, bSh_sl, bSh_some, cond_true, cond_false, decide_true, decide_false, Int.toNat_natCast, Nat.zero_add, Nat.reduceAdd, beq_self_eq_true, Bool.and_true, Bool.true_and, if_true, Bool.false_eq_true, if_false, List.set_cons_zero, List.set_cons_succ, Bool.not_true, Bool.not_false, Bool.and_self]
    rw [hnext, mkL_getD hi, hx]
    rfl
  · rw [mkL_length]
    try dsimp only
    rw [f21o1_l1_eq, dF (by rw [mkL_length]; omega), cond_false]
theorem markw_Record {l : List AV} (h : ∀ i, i < l.length → T62 1048576 (l.getD i .x)) (hl : l.length ≤ 1048576) (n : Nat) (hn : n ≤ l.length) (k : Int) (hk : 0 < k) (hk2 : k ≤ 549755813888) : ∃ r : List AV, dno E 21 [(.sl 0 [] (some (0, n))), (.i .i64 k)] [(.live true false false 66 l)] =
    some (.i .i64 (k + 5 * (n : Int)), [.live true false false 66 r]) ∧ r.length = l.length ∧ r.take n = mkL n fun i => mkRecord (k + 5 * (i : Int)) := by
  rw [f21o2_eq]
  let xs : List AV := (mkL n fun i => mkRecord (k + 5 * (i : Int)))
  have key : ∀ (d i : Nat) (r : List AV), i + d = n → r.length = l.length → r.take i = xs.take i → r.drop i = l.drop i → ∃ r', f21o2_l1 0 n (k + 5 * i) i r = some (.i .i64 (k + 5 * (n : Int)), [.live true false false 66 r']) ∧ r'.length = l.length ∧ r'.take n = xs := by
    intro d
    induction d with
    | zero =>
      intro i r h1 h2 h3 h4
      have : i = n := by omega
      subst this
      refine ⟨r, ?_, h2, ?_⟩
      · rw [f21o2_l1_eq, dF (Int.lt_irrefl _), cond_false]
      · rw [h3, List.take_of_length_le (by rw [mkL_length]; exact Nat.le_refl _)]
    | succ d ih =>
      intro i r h1 h2 h3 h4
      have hi : i < l.length := by omega
      have hz : r.getD i .x = l.getD i .x := by
        have h5 := congrArg (fun l => l.getD 0 AV.x) h4
        simpa [List.getD_eq_getElem?_getD, List.getElem?_drop] using h5
      obtain ⟨a0, a1, a2, a3, a4, he, _⟩ := h i hi
      have hge : r.getD i .x = _ := hz.trans he
      have hgs : ∀ y, (r.set i y).getD i .x = y := fun y => by
        rw [List.getD_eq_getElem?_getD, List.getElem?_set_self (by omega)]; rfl
      have hrec : f21o2_l1 0 n (k + 5 * i) i r = f21o2_l1 0 n (k + 5 * ((i + 1 : Nat) : Int)) ((i + 1 : Nat) : Int) (r.set i (mkRecord (k + 5 * (i : Int)))) := by
        generalize hx : k + 5 * (i : Int) = x
        have hnext : (((((x + 1) + 1) + 1) + 1) + 1) = k + 5 * ((i + 1 : Nat) : Int) := by omega
        have g1 : (0 : Int) ≤ (i : Int) := by omega
        have g2 : (i : Int) < ((n : Nat) : Int) := by omega
        have w1 : IntKind.i64.wrap (x + 1) = (x + 1) := w64 (by omega) (by omega)
        have w2 : IntKind.i64.wrap ((x + 1) + 1) = ((x + 1) + 1) := w64 (by omega) (by omega)
        have w3 : IntKind.i64.wrap (((x + 1) + 1) + 1) = (((x + 1) + 1) + 1) := w64 (by omega) (by omega)
        have w4 : IntKind.i64.wrap ((((x + 1) + 1) + 1) + 1) = ((((x + 1) + 1) + 1) + 1) := w64 (by omega) (by omega)
        have w5 : IntKind.i64.wrap (((((x + 1) + 1) + 1) + 1) + 1) = (((((x + 1) + 1) + 1) + 1) + 1) := w64 (by omega) (by omega)
        have m0 := mt_ok (k := x) (by omega) (by omega)
        have m3 := mt_ok (k := (((x + 1) + 1) + 1)) (by omega) (by omega)
        have m4 := mt_ok (k := ((((x + 1) + 1) + 1) + 1)) (by omega) (by omega)
        rw [f21o2_l1_eq, dT g2, cond_true, w64 (x := (i : Int) + 1) (by omega) (by omega)]
        simp only [Int.toNat_natCast, Nat.zero_add, putAt, hge, hgs, List.set_set, List.length_set, g1, g2, and_self, w1, w2, w3, w4, w5, m0, m3, m4, okC_nil, okC_agg, okC_i, okC_b, okC_s, okC_imm, okL_i, okL_b, okL_s, okL_sl, okS_i, okS_b, okS_s, okS_sl, okS_agg, okS_tup, okS_nil, okS_cons, cells_agg, cells_i, cells_b, cells_s, cells_imm, toI_i, toB_b, toS_s, toL_imm, nth_agg, nth_tup, put_agg, put_i, put_b, put_s, put_imm, setCells, List.getD_cons_zero, List.getD_cons_succ, bSh_b, bSh_i, bSh_s, bSh_sl, bSh_some, cond_true, cond_false, decide_true, decide_false, Int.toNat_natCast, Nat.zero_add, Nat.reduceAdd, beq_self_eq_true, Bool.and_true, Bool.true_and, if_true, Bool.false_eq_true, if_false, List.set_cons_zero, List.set_cons_succ, Bool.not_true, Bool.not_false, Bool.and_self]
        rw [hnext, show ((i : Int) + 1) = ((i + 1 : Nat) : Int) by omega]
        rfl
      rw [hrec]
      refine ih (i + 1) _ (by omega) (by simpa using h2) ?_ ?_
      · have hxi : i < xs.length := by rw [mkL_length]; omega
        rw [take_getD (by simp; omega), take_getD hxi, List.take_set_of_le (Nat.le_refl i), h3, hgs, mkL_getD (by omega)]
      · rw [List.drop_set_of_lt (by omega)]
        have := congrArg (List.drop 1) h4
        simpa [List.drop_drop] using this
  have := key n 0 l (by omega) rfl (by simp) (by simp)
  simpa using this
theorem held_Record (n : Nat) (hn : n ≤ 1048576) (k : Int) (hk : 0 < k) (hk2 : k ≤ 549755813888) : den E 31 [(.imm 5 (mkL n fun i => mkRecord (k + 5 * (i : Int)))), (.i .i64 k)] [] = some (.i .i64 (k + 5 * (n : Int))) := by
  rw [f31_eq]
  have := loop_to (R := AV) (L := fun i => f31_l1 (mkL n fun i => mkRecord (k + 5 * (i : Int))) (k + 5 * i) i) (n := n) (X := some (.i .i64 (k + 5 * (n : Int)))) (fun i hi => ?_) ?_
  · simpa using this
  · generalize hx : k + 5 * (i : Int) = x
    have hg : (mkL n fun i => mkRecord (k + 5 * (i : Int))).getD i .x = (.agg [(.s (mt x)), (.i .i64 (x + 1)), (.i .i64 ((x + 1) + 1)), (.s (mt (((x + 1) + 1) + 1))), (.s (mt ((((x + 1) + 1) + 1) + 1)))]) := by rw [mkL_getD hi, hx]; rfl
    have hnext : (((((x + 1) + 1) + 1) + 1) + 1) = k + 5 * ((i : Int) + 1) := by omega
    have g1 : (0 : Int) ≤ (i : Int) := by omega
    have g2 : (i : Int) < (n : Int) := by omega
    have w1 : IntKind.i64.wrap (x + 1) = (x + 1) := w64 (by omega) (by omega)
    have w2 : IntKind.i64.wrap ((x + 1) + 1) = ((x + 1) + 1) := w64 (by omega) (by omega)
    have w3 : IntKind.i64.wrap (((x + 1) + 1) + 1) = (((x + 1) + 1) + 1) := w64 (by omega) (by omega)
    have w4 : IntKind.i64.wrap ((((x + 1) + 1) + 1) + 1) = ((((x + 1) + 1) + 1) + 1) := w64 (by omega) (by omega)
    have w5 : IntKind.i64.wrap (((((x + 1) + 1) + 1) + 1) + 1) = (((((x + 1) + 1) + 1) + 1) + 1) := w64 (by omega) (by omega)
    have m0 := mt_ok (k := x) (by omega) (by omega)
    have m3 := mt_ok (k := (((x + 1) + 1) + 1)) (by omega) (by omega)
    have m4 := mt_ok (k := ((((x + 1) + 1) + 1) + 1)) (by omega) (by omega)
    try dsimp only
    rw [f31_l1_eq, mkL_length, dT g2, cond_true, w64 (x := (i : Int) + 1) (by omega) (by omega)]
    simp only [Int.toNat_natCast, hg, g1, g2, and_self, w1, w2, w3, w4, w5, m0, m3, m4, okC_nil, okC_agg, okC_i, okC_b, okC_s, okC_imm, okL_i, okL_b, okL_s, okL_sl, okS_i, okS_b, okS_s, okS_sl, okS_agg, okS_tup, okS_nil, okS_cons, cells_agg, cells_i, cells_b, cells_s, cells_imm, toI_i, toB_b, toS_s, toL_imm, nth_agg, nth_tup, put_agg, put_i, put_b, put_s, put_imm, setCells, List.getD_cons_zero, List.getD_cons_succ, bSh_b, bSh_i, bSh_s, bSh_sl, bSh_some, cond_true, cond_false, decide_true, decide_false, Int.toNat_natCast, Nat.zero_add, Nat.reduceAdd, beq_self_eq_true, Bool.and_true, Bool.true_and, if_true, Bool.false_eq_true, if_false, List.set_cons_zero, List.set_cons_succ, Bool.not_true, Bool.not_false, Bool.and_self]
    rw [hnext]
  · try dsimp only
    rw [f31_l1_eq, mkL_length, dF (Int.lt_irrefl _), cond_false]


/-- What both answer. -/
theorem drops {l s : List AV} (h : Rw (T62 1048576) 1048576 l) (hs : Rw (T2 1048576) 1048576 s) (b : Bool) : ∃ w r : List AV, Rw (T62 1048576) 1048576 w ∧ w.length ≤ r.length ∧ r.length ≤ 1048576 ∧ (∀ y, y ∈ r → T62 1048576 y) ∧ r.take w.length = w ∧
    dno E 26 [(.imm 5 l), (.imm 1 s), (.b b)] [] = some (.sl 0 [] none, [.live true false false 66 w]) ∧
    dno E 28 [(.imm 5 l), (.imm 1 s), (.b b)] [] = some (.sl 0 [] (some (0, w.length)), [.live true false false 66 r]) := by
  have hl := h.1
  rw [f26o1_eq, f28o1_eq, spec_run h, impl_run h, spec_snap hs, impl_snap hs]
  simp only [bSh_b, toB_b]
  cases hr : runOk l
  · exact ⟨[], [], ⟨by simp, fun _ h => by cases h⟩, by simp, by simp, (fun _ h => by cases h), rfl, rfl, rfl⟩
  simp only [Bool.not_true, beq_self_eq_true, cond_true]
  cases snOk s
  · exact ⟨[], [], ⟨by simp, fun _ h => by cases h⟩, by simp, by simp, (fun _ h => by cases h), rfl, rfl, rfl⟩
  simp only [Bool.not_true, cond_false]
  obtain ⟨r, h1, h2, h3, h4⟩ := impl_drop h hs b
  have hT := dropped_T h s b
  have hw : (dropped l s b).length ≤ r.length := by rw [← h4, List.length_take]; omega
  rw [spec_drop h hs b hr, h1]
  exact ⟨_, r, hT, hw, by omega, h3, h4, by simp only [bOwn_some, bOwnF_some, bOwnS_some, bOwnFS_some, okRs_nil, okRs_cons, okR_row, okR_same, okR_var, okR_gone, okS_so, okS_pr, okLens_nil, okLens_same, okLens_row, okLens_var, row_live, flatR_live, flatL_nil, flatL_cons, flat_i, flat_b, flat_s, flat_sl, flat_agg, flat_tup, List.all_cons, List.all_nil, List.length_cons, List.length_nil, Nat.reduceLeDiff, Nat.le_refl, decide_true, Bool.and_self, mkL_length, List.headD_cons, okC_nil, okC_agg, okC_i, okC_b, okC_s, okC_imm, okL_i, okL_b, okL_s, okL_sl, okS_i, okS_b, okS_s, okS_sl, okS_agg, okS_tup, okS_nil, okS_cons, cells_agg, cells_i, cells_b, cells_s, cells_imm, toI_i, toB_b, toS_s, toL_imm, nth_agg, nth_tup, put_agg, put_i, put_b, put_s, put_imm, setCells, List.getD_cons_zero, List.getD_cons_succ, bSh_b, bSh_i, bSh_s, bSh_sl, bSh_some, cond_true, cond_false, decide_true, decide_false, Int.toNat_natCast, Nat.zero_add, Nat.reduceAdd, beq_self_eq_true, Bool.and_true, Bool.true_and, if_true, Bool.false_eq_true, if_false, List.set_cons_zero, List.set_cons_succ, Bool.not_true, Bool.not_false, Bool.and_self], by simp only [bOwn_some, bOwnF_some, bOwnS_some, bOwnFS_some, okRs_nil, okRs_cons, okR_row, okR_same, okR_var, okR_gone, okS_so, okS_pr, okLens_nil, okLens_same, okLens_row, okLens_var, row_live, flatR_live, flatL_nil, flatL_cons, flat_i, flat_b, flat_s, flat_sl, flat_agg, flat_tup, List.all_cons, List.all_nil, List.length_cons, List.length_nil, Nat.reduceLeDiff, Nat.le_refl, decide_true, Bool.and_self, mkL_length, List.headD_cons, okC_nil, okC_agg, okC_i, okC_b, okC_s, okC_imm, okL_i, okL_b, okL_s, okL_sl, okS_i, okS_b, okS_s, okS_sl, okS_agg, okS_tup, okS_nil, okS_cons, cells_agg, cells_i, cells_b, cells_s, cells_imm, toI_i, toB_b, toS_s, toL_imm, nth_agg, nth_tup, put_agg, put_i, put_b, put_s, put_imm, setCells, List.getD_cons_zero, List.getD_cons_succ, bSh_b, bSh_i, bSh_s, bSh_sl, bSh_some, cond_true, cond_false, decide_true, decide_false, Int.toNat_natCast, Nat.zero_add, Nat.reduceAdd, beq_self_eq_true, Bool.and_true, Bool.true_and, if_true, Bool.false_eq_true, if_false, List.set_cons_zero, List.set_cons_succ, Bool.not_true, Bool.not_false, Bool.and_self, AV.off, AV.cnt]⟩

theorem pure (l : List AV) (h : Rw (T62 9223372036854775807) 9223372036854775807 l) (s : List AV) (g : Rw (T2 9223372036854775807) 9223372036854775807 s) (b : Bool) : den E 6 [(.imm 5 l), (.imm 1 s), (.b b)] [] = some (.b true) := by
  obtain ⟨t, ht, hq⟩ := sz15 h 1048576 (by omega) (by omega)
  rw [f6_eq, ht]
  by_cases hs1 : (1048576 : Int) < ((s.length : Nat) : Int)
  · rw [dT hs1]; rfl
  rw [dF hs1]
  simp only [bSh_i, toI_i, cond_false]
  rcases hq with hq | ⟨h0, h1, hT⟩
  · simp only [hq, decide_true, cond_true]
  have hn : ¬ t < 0 := by omega
  simp only [hn, decide_false, cond_false]
  have hs : Rw (T2 1048576) 1048576 s := ⟨by omega, fun y hy => by
    obtain ⟨q, rfl, hw, _⟩ := g.2 y hy
    exact ⟨q, rfl, hw, trivial⟩⟩
  obtain ⟨w, r, u0, u1, u2, u3, u4, s1, s2⟩ := drops hT hs b
  have hl := hT.1
  have hwl := u0.1
  have hsl := hs.1
  have e0 := own_Record hT
  have e1 := own_int hs
  have q0 := eq20 hT
  have q1 := eq20 u0
  have q2 := eq29 hs
  have m0 := mark_Record hT 1 (by omega) (by omega)
  have m1 := mark_int hs (1 + 5 * ((l.length : Nat) : Int)) (by omega) (by omega)
  obtain ⟨r', m2, l1, l2⟩ := markw_Record (fun i hi => u3 _ (getD_mem hi)) u2 w.length u1 1 (by omega) (by omega)
  have g1 := held_Record w.length hwl 1 (by omega) (by omega)
  have k0 : ¬ 1 + 5 * ((l.length : Nat) : Int) + ((s.length : Nat) : Int) < 0 := by omega
  have k1 : ¬ 1 + 5 * ((w.length : Nat) : Int) < 0 := by omega
  have f0 := flat_Record u0
  have f1 := rec_flat u3
  simp only [e0, e1, s1, s2, q0, q1, q2, m0, m1, m2, g1, k0, k1, f0, f1, u4, l1, l2, AV.off, AV.cnt, List.drop_zero, bOwn_some, bOwnF_some, bOwnS_some, bOwnFS_some, okRs_nil, okRs_cons, okR_row, okR_same, okR_var, okR_gone, okS_so, okS_pr, okLens_nil, okLens_same, okLens_row, okLens_var, row_live, flatR_live, flatL_nil, flatL_cons, flat_i, flat_b, flat_s, flat_sl, flat_agg, flat_tup, List.all_cons, List.all_nil, List.length_cons, List.length_nil, Nat.reduceLeDiff, Nat.le_refl, decide_true, Bool.and_self, mkL_length, List.headD_cons, okC_nil, okC_agg, okC_i, okC_b, okC_s, okC_imm, okL_i, okL_b, okL_s, okL_sl, okS_i, okS_b, okS_s, okS_sl, okS_agg, okS_tup, okS_nil, okS_cons, cells_agg, cells_i, cells_b, cells_s, cells_imm, toI_i, toB_b, toS_s, toL_imm, nth_agg, nth_tup, put_agg, put_i, put_b, put_s, put_imm, setCells, List.getD_cons_zero, List.getD_cons_succ, bSh_b, bSh_i, bSh_s, bSh_sl, bSh_some, cond_true, cond_false, decide_true, decide_false, Int.toNat_natCast, Nat.zero_add, Nat.reduceAdd, beq_self_eq_true, Bool.and_true, Bool.true_and, if_true, Bool.false_eq_true, if_false, List.set_cons_zero, List.set_cons_succ, Bool.not_true, Bool.not_false, Bool.and_self]
end Go.Proofs.Ytokpbjbngnlepaa.IDropHidden
