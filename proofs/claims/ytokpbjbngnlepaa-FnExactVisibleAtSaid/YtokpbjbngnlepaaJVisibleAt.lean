/- VisibleAt: the program's answer is the reference's, for every list of records and sequence number. No condition beyond what each theorem states. -/
import Derived.Test.YtokpbjbngnlepaaIVisibleAtf
import Derived.Test.YtokpbjbngnlepaaItMk
namespace Go.Proofs.Ytokpbjbngnlepaa.IVisibleAt
open Go Go.Proofs.YtokpbjbngnlepaaIT
set_option linter.unusedSimpArgs false

theorem in90 (a lo hi : Int) : den E 97 [(.i .i64 a), (.i .i64 lo), (.i .i64 hi)] [] = some (.b (decide (lo ≤ a) && decide (a ≤ hi))) := by
  rw [f97_eq, beq_true, cond_andb]
theorem in72 (a lo hi : Int) : den E 102 [(.i .i64 a), (.i .i64 lo), (.i .i64 hi)] [] = some (.b (decide (lo ≤ a) && decide (a ≤ hi))) := by
  rw [f102_eq, beq_true, cond_andb]


theorem cb_lt : ∀ x y : List UInt8, (Lib.compareBytes x y < 0 ↔ Op.bytesLess x y = true)
  | [], [] => by simp [Lib.compareBytes, Op.bytesLess]
  | [], _ :: _ => by simp [Lib.compareBytes, Op.bytesLess]
  | _ :: _, [] => by simp [Lib.compareBytes, Op.bytesLess]
  | a :: x, b :: y => by
    have ih := cb_lt x y
    simp only [Lib.compareBytes, Op.bytesLess]
    by_cases h1 : a < b
    · simp [h1]
    · by_cases h2 : b < a
      · have h3 : ¬ a = b := by rintro rfl; exact absurd h2 h1
        simp [h1, h2, h3]
      · have h3 : a = b := by
          apply UInt8.toNat_inj.1
          have p1 : ¬ a.toNat < b.toNat := fun h => h1 (UInt8.lt_iff_toNat_lt.2 h)
          have p2 : ¬ b.toNat < a.toNat := fun h => h2 (UInt8.lt_iff_toNat_lt.2 h)
          omega
        simp [h1, h2, h3, ih]
theorem cmpB_lt (a b : ByteArray) : cmpB a b < 0 ↔ lessS a b = true := by
  unfold cmpB lessS
  rw [Lib.toList_data, Lib.toList_data]
  exact cb_lt _ _
theorem cmp_int (a b : Int) : den E 172 [(.i .i64 a), (.i .i64 b)] [] = some (.i .i64 (if a < b then -1 else if b < a then 1 else 0)) := by
  rw [f172_eq, f181_eq, f181_eq]
  simp only [okC_nil, okC_agg, okC_i, okC_b, okC_s, okC_imm, okL_i, okL_b, okL_s, okL_sl, okS_i, okS_b, okS_s, okS_sl, okS_agg, okS_tup, okS_nil, okS_cons, cells_agg, cells_i, cells_b, cells_s, cells_imm, toI_i, toB_b, toS_s, toL_imm, nth_agg, nth_tup, put_agg, put_i, put_b, put_s, put_imm, setCells, List.getD_cons_zero, List.getD_cons_succ, bSh_b, bSh_i, bSh_s, bSh_sl, bSh_some, cond_true, cond_false, decide_true, decide_false, Int.toNat_natCast, Nat.zero_add, Nat.reduceAdd, beq_self_eq_true, Bool.and_true, Bool.true_and, if_true, Bool.false_eq_true, if_false, List.set_cons_zero, List.set_cons_succ, Bool.not_true, Bool.not_false, Bool.and_self]
  by_cases h : a < b
  · simp [h]
  · by_cases h2 : b < a
    · simp [h, h2]
    · simp [h, h2]
theorem cmp_or2 (p q : Int) : den E 170 [(.imm 1 [(.i .i64 p), (.i .i64 q)])] [] = some (.i .i64 (if p = 0 then q else p)) := by
  have e0 : f170_l1 0 [(.i .i64 p), (.i .i64 q)] 2 2 = some (.i .i64 0) := by rw [f170_l1_eq]; rfl
  have w1 : IntKind.i64.wrap 1 = 1 := by decide
  have w2 : IntKind.i64.wrap 2 = 2 := by decide
  rw [f170_eq]
  show f170_l1 0 [(.i .i64 p), (.i .i64 q)] 2 0 = _
  rw [f170_l1_eq]
  simp [okC_nil, okC_agg, okC_i, okC_b, okC_s, okC_imm, okL_i, okL_b, okL_s, okL_sl, okS_i, okS_b, okS_s, okS_sl, okS_agg, okS_tup, okS_nil, okS_cons, cells_agg, cells_i, cells_b, cells_s, cells_imm, toI_i, toB_b, toS_s, toL_imm, nth_agg, nth_tup, put_agg, put_i, put_b, put_s, put_imm, setCells, List.getD_cons_zero, List.getD_cons_succ, bSh_b, bSh_i, bSh_s, bSh_sl, bSh_some, cond_true, cond_false, decide_true, decide_false, Int.toNat_natCast, Nat.zero_add, Nat.reduceAdd, beq_self_eq_true, Bool.and_true, Bool.true_and, if_true, Bool.false_eq_true, if_false, List.set_cons_zero, List.set_cons_succ, Bool.not_true, Bool.not_false, Bool.and_self, w1]
  by_cases h : p = 0
  · simp only [h, if_true]
    rw [f170_l1_eq]
    simp [okC_nil, okC_agg, okC_i, okC_b, okC_s, okC_imm, okL_i, okL_b, okL_s, okL_sl, okS_i, okS_b, okS_s, okS_sl, okS_agg, okS_tup, okS_nil, okS_cons, cells_agg, cells_i, cells_b, cells_s, cells_imm, toI_i, toB_b, toS_s, toL_imm, nth_agg, nth_tup, put_agg, put_i, put_b, put_s, put_imm, setCells, List.getD_cons_zero, List.getD_cons_succ, bSh_b, bSh_i, bSh_s, bSh_sl, bSh_some, cond_true, cond_false, decide_true, decide_false, Int.toNat_natCast, Nat.zero_add, Nat.reduceAdd, beq_self_eq_true, Bool.and_true, Bool.true_and, if_true, Bool.false_eq_true, if_false, List.set_cons_zero, List.set_cons_succ, Bool.not_true, Bool.not_false, Bool.and_self, w2, e0]
    by_cases h2 : q = 0
    · subst h h2; simp [e0]
    · simp [h2]
  · simp [h]


theorem cb_eq : ∀ x y : List UInt8, (Lib.compareBytes x y = 0 ↔ x = y)
  | [], [] => by simp [Lib.compareBytes]
  | [], _ :: _ => by simp [Lib.compareBytes]
  | _ :: _, [] => by simp [Lib.compareBytes]
  | a :: x, b :: y => by
    have ih := cb_eq x y
    simp only [Lib.compareBytes]
    by_cases h1 : a < b
    · have h3 : ¬ a = b := by rintro rfl; exact absurd h1 (by simp [UInt8.lt_iff_toNat_lt])
      simp [h1, h3]
    · by_cases h2 : b < a
      · have h3 : ¬ a = b := by rintro rfl; exact absurd h2 h1
        simp [h1, h2, h3]
      · have h3 : a = b := by
          apply UInt8.toNat_inj.1
          have p1 : ¬ a.toNat < b.toNat := fun h => h1 (UInt8.lt_iff_toNat_lt.2 h)
          have p2 : ¬ b.toNat < a.toNat := fun h => h2 (UInt8.lt_iff_toNat_lt.2 h)
          omega
        subst h3
        simp [h1, ih]
theorem toList_inj {a b : ByteArray} (h : a.toList = b.toList) : a = b := by
  rw [Lib.toList_data, Lib.toList_data] at h
  exact ByteArray.ext (Array.toList_inj.mp h)
theorem cmpB_eq (a b : ByteArray) : cmpB a b = 0 ↔ a = b := by
  unfold cmpB
  rw [cb_eq]
  constructor
  · intro h; exact ByteArray.ext (Array.toList_inj.mp h)
  · rintro rfl; rfl
theorem bl_tri : ∀ x y : List UInt8, Op.bytesLess x y = !(Op.bytesLess y x || decide (y = x))
  | [], [] => by simp [Op.bytesLess]
  | [], _ :: _ => by simp [Op.bytesLess]
  | _ :: _, [] => by simp [Op.bytesLess]
  | a :: x, b :: y => by
    have ih := bl_tri x y
    simp only [Op.bytesLess]
    by_cases h1 : a < b
    · have h3 : ¬ a = b := by rintro rfl; exact absurd h1 (by simp [UInt8.lt_iff_toNat_lt])
      have h4 : ¬ b < a := fun h => by
        have p1 := UInt8.lt_iff_toNat_lt.1 h1
        have p2 := UInt8.lt_iff_toNat_lt.1 h
        omega
      have h5 : ¬ b = a := fun h => h3 h.symm
      simp [h1, h4, h5]
    · by_cases h2 : b < a
      · have h3 : ¬ a = b := by rintro rfl; exact absurd h2 h1
        simp [h1, h2, h3]
      · have h3 : a = b := by
          apply UInt8.toNat_inj.1
          have p1 : ¬ a.toNat < b.toNat := fun h => h1 (UInt8.lt_iff_toNat_lt.2 h)
          have p2 : ¬ b.toNat < a.toNat := fun h => h2 (UInt8.lt_iff_toNat_lt.2 h)
          omega
        subst h3
        simp [h1, ih]
theorem less_tri (a b : ByteArray) {i : Decidable (b = a)} : (!(lessS b a || @decide (b = a) i)) = lessS a b := by
  unfold lessS
  rw [bl_tri a.toList b.toList]
  by_cases h : b = a
  · subst h; simp
  · have h2 : ¬ b.toList = a.toList := fun g => h (toList_inj g)
    simp [h, h2]
theorem less_irr (a : ByteArray) : lessS a a = false := by
  have := less_tri a a (i := inferInstance)
  simp at this
  exact this


/-! A record is valid. -/
def keyOk (k : ByteArray) : Bool := decide ((1 : Int) ≤ ((k.size : Nat) : Int)) && decide (((k.size : Nat) : Int) ≤ 8)
def okRec (k : ByteArray) (q kd : Int) (v e : ByteArray) : Bool :=
  keyOk k && ((decide (1 ≤ q) && decide (q ≤ 1000000)) && cond (decide (kd = 1)) (decide (((v.size : Nat) : Int) ≤ 16) && decide (e = ({ data := #[] } : ByteArray)))
    (cond (decide (kd = 2)) (decide (v = ({ data := #[] } : ByteArray)) && decide (e = ({ data := #[] } : ByteArray)))
      (cond (decide (kd = 3)) (decide (v = ({ data := #[] } : ByteArray)) && (keyOk e && lessS k e)) false)))
abbrev ky (el : AV) : ByteArray := (el.cells.getD 0 .x).toS
abbrev sq (el : AV) : Int := (el.cells.getD 1 .x).toI
abbrev kd (el : AV) : Int := (el.cells.getD 2 .x).toI
abbrev vl (el : AV) : ByteArray := (el.cells.getD 3 .x).toS
abbrev en (el : AV) : ByteArray := (el.cells.getD 4 .x).toS
def okR (el : AV) : Bool := okRec (ky el) (sq el) (kd el) (vl el) (en el)
theorem spec_key (k : ByteArray) : den E 110 [(.s k)] [] = some (.b (keyOk k)) := by
  rw [f110_eq, beq_true, cond_andb]; rfl
theorem impl_key (k : ByteArray) : den E 113 [(.s k)] [] = some (.b (keyOk k)) := by
  rw [f113_eq, in72, bSh_b]; rfl
theorem spec_rec {B : Nat} {el : AV} (h : T62 B el) : den E 73 [el] [] = some (.b (okR el)) := by
  obtain ⟨a0, a1, a2, a3, a4, rfl, _⟩ := h
  rw [f73_eq]
  simp only [spec_key, in90, okR, ky, sq, kd, vl, en, okRec, okC_nil, okC_agg, okC_i, okC_b, okC_s, okC_imm, okL_i, okL_b, okL_s, okL_sl, okS_i, okS_b, okS_s, okS_sl, okS_agg, okS_tup, okS_nil, okS_cons, cells_agg, cells_i, cells_b, cells_s, cells_imm, toI_i, toB_b, toS_s, toL_imm, nth_agg, nth_tup, put_agg, put_i, put_b, put_s, put_imm, setCells, List.getD_cons_zero, List.getD_cons_succ, bSh_b, bSh_i, bSh_s, bSh_sl, bSh_some, cond_true, cond_false, decide_true, decide_false, Int.toNat_natCast, Nat.zero_add, Nat.reduceAdd, beq_self_eq_true, Bool.and_true, Bool.true_and, if_true, Bool.false_eq_true, if_false, List.set_cons_zero, List.set_cons_succ, Bool.not_true, Bool.not_false, Bool.and_self]
  cases keyOk a0
  · rfl
  cases (decide (1 ≤ a1) && decide (a1 ≤ 1000000))
  · rfl
  simp only [Bool.not_true, Bool.true_and, cond_false]
  cases decide (a2 = 1) <;> cases decide (a2 = 2) <;> cases decide (a2 = 3) <;> cases decide (((a3.size : Nat) : Int) ≤ 16) <;> cases decide (a3 = ({ data := #[] } : ByteArray)) <;> cases keyOk a4 <;> rfl
theorem impl_rec {B : Nat} {el : AV} (h : T62 B el) : den E 76 [el] [] = some (.b (okR el)) := by
  obtain ⟨a0, a1, a2, a3, a4, rfl, _⟩ := h
  rw [f76_eq]
  simp only [impl_key, in72, less_tri, okR, ky, sq, kd, vl, en, okRec, okC_nil, okC_agg, okC_i, okC_b, okC_s, okC_imm, okL_i, okL_b, okL_s, okL_sl, okS_i, okS_b, okS_s, okS_sl, okS_agg, okS_tup, okS_nil, okS_cons, cells_agg, cells_i, cells_b, cells_s, cells_imm, toI_i, toB_b, toS_s, toL_imm, nth_agg, nth_tup, put_agg, put_i, put_b, put_s, put_imm, setCells, List.getD_cons_zero, List.getD_cons_succ, bSh_b, bSh_i, bSh_s, bSh_sl, bSh_some, cond_true, cond_false, decide_true, decide_false, Int.toNat_natCast, Nat.zero_add, Nat.reduceAdd, beq_self_eq_true, Bool.and_true, Bool.true_and, if_true, Bool.false_eq_true, if_false, List.set_cons_zero, List.set_cons_succ, Bool.not_true, Bool.not_false, Bool.and_self]
  cases keyOk a0
  · rfl
  cases (decide (1 ≤ a1) && decide (a1 ≤ 1000000))
  · rfl
  simp only [Bool.not_true, Bool.true_and, cond_false]
  cases decide (a2 = 1) <;> cases decide (a2 = 2) <;> cases decide (a2 = 3) <;> cases decide (((a3.size : Nat) : Int) ≤ 16) <;> cases decide (a3 = ({ data := #[] } : ByteArray)) <;> cases keyOk a4 <;> rfl

/-! The internal order. -/
noncomputable def lessR (a b : AV) : Bool :=
  cond (decide (ky a = ky b)) (cond (decide (sq a = sq b)) (cond (decide (kd a = kd b)) (cond (decide (vl a = vl b)) (lessS (en a) (en b)) (lessS (vl a) (vl b))) (decide (kd a < kd b))) (decide (sq b < sq a))) (lessS (ky a) (ky b))
theorem spec_less {B C : Nat} {a b : AV} (h : T62 B a) (g : T62 C b) : den E 109 [a, b] [] = some (.b (lessR a b)) := by
  obtain ⟨a0, a1, a2, a3, a4, rfl, _⟩ := h
  obtain ⟨b0, b1, b2, b3, b4, rfl, _⟩ := g
  rw [f109_eq]
  simp only [lessR, ky, sq, kd, vl, en, okC_nil, okC_agg, okC_i, okC_b, okC_s, okC_imm, okL_i, okL_b, okL_s, okL_sl, okS_i, okS_b, okS_s, okS_sl, okS_agg, okS_tup, okS_nil, okS_cons, cells_agg, cells_i, cells_b, cells_s, cells_imm, toI_i, toB_b, toS_s, toL_imm, nth_agg, nth_tup, put_agg, put_i, put_b, put_s, put_imm, setCells, List.getD_cons_zero, List.getD_cons_succ, bSh_b, bSh_i, bSh_s, bSh_sl, bSh_some, cond_true, cond_false, decide_true, decide_false, Int.toNat_natCast, Nat.zero_add, Nat.reduceAdd, beq_self_eq_true, Bool.and_true, Bool.true_and, if_true, Bool.false_eq_true, if_false, List.set_cons_zero, List.set_cons_succ, Bool.not_true, Bool.not_false, Bool.and_self]
  cases decide (a0 = b0) <;> cases decide (a1 = b1) <;> cases decide (a2 = b2) <;> cases decide (a3 = b3) <;> rfl
theorem or_step {l : List AV} (k : Nat) (i j n : Int) {x : Int} (hk : i = (k : Int)) (hj : j = i + 1) (hn : n = ((l.length : Nat) : Int)) (hl : l.length ≤ 100) (hi : k < l.length) (hx : l.getD k .x = .i .i64 x) : f170_l1 0 l n i = cond (decide (x = 0)) (f170_l1 0 l n j) (some (.i .i64 x)) := by
  subst hk hn hj
  rw [f170_l1_eq, dT (show (k : Int) < ((l.length : Nat) : Int) by omega), cond_true, if_pos (by omega), Int.toNat_natCast, hx, if_pos (by rfl), w64 (x := (k : Int) + 1) (by omega) (by omega)]
  simp only [okC_nil, okC_agg, okC_i, okC_b, okC_s, okC_imm, okL_i, okL_b, okL_s, okL_sl, okS_i, okS_b, okS_s, okS_sl, okS_agg, okS_tup, okS_nil, okS_cons, cells_agg, cells_i, cells_b, cells_s, cells_imm, toI_i, toB_b, toS_s, toL_imm, nth_agg, nth_tup, put_agg, put_i, put_b, put_s, put_imm, setCells, List.getD_cons_zero, List.getD_cons_succ, bSh_b, bSh_i, bSh_s, bSh_sl, bSh_some, cond_true, cond_false, decide_true, decide_false, Int.toNat_natCast, Nat.zero_add, Nat.reduceAdd, beq_self_eq_true, Bool.and_true, Bool.true_and, if_true, Bool.false_eq_true, if_false, List.set_cons_zero, List.set_cons_succ, Bool.not_true, Bool.not_false, Bool.and_self]
  cases decide (x = 0) <;> rfl
theorem or_last {l : List AV} (n : Int) : f170_l1 0 l n n = some (.i .i64 0) := by
  rw [f170_l1_eq, dF (Int.lt_irrefl _), cond_false]
theorem cmp_or5 (p q r s t : Int) : den E 170 [(.imm 1 [(.i .i64 p), (.i .i64 q), (.i .i64 r), (.i .i64 s), (.i .i64 t)])] [] =
    some (.i .i64 (cond (decide (p = 0)) (cond (decide (q = 0)) (cond (decide (r = 0)) (cond (decide (s = 0)) t s) r) q) p)) := by
  rw [f170_eq]
  generalize hl : ([(.i .i64 p), (.i .i64 q), (.i .i64 r), (.i .i64 s), (.i .i64 t)] : List AV) = l
  have hn : l.length = 5 := by rw [← hl]; rfl
  rw [hn, show ((5 : Nat) : Int) = 5 from rfl]
  rw [or_step 0 0 1 5 (x := p) rfl rfl (by rw [hn]; rfl) (by omega) (by omega) (by rw [← hl]; rfl), or_step 1 1 2 5 (x := q) rfl rfl (by rw [hn]; rfl) (by omega) (by omega) (by rw [← hl]; rfl),
    or_step 2 2 3 5 (x := r) rfl rfl (by rw [hn]; rfl) (by omega) (by omega) (by rw [← hl]; rfl), or_step 3 3 4 5 (x := s) rfl rfl (by rw [hn]; rfl) (by omega) (by omega) (by rw [← hl]; rfl),
    or_step 4 4 5 5 (x := t) rfl rfl (by rw [hn]; rfl) (by omega) (by omega) (by rw [← hl]; rfl), or_last]
  by_cases h1 : p = 0
  · by_cases h2 : q = 0
    · by_cases h3 : r = 0
      · by_cases h4 : s = 0
        · by_cases h5 : t = 0
          · subst h1 h2 h3 h4 h5; rfl
          · subst h1 h2 h3 h4; simp [h5]
        · subst h1 h2 h3; simp [h4]
      · subst h1 h2; simp [h3]
    · subst h1; simp [h2]
  · simp [h1]
noncomputable def cmpI3 (a b : Int) : Int := if a < b then -1 else if b < a then 1 else 0
theorem cmpI3_eq (a b : Int) : cmpI3 a b = 0 ↔ a = b := by
  unfold cmpI3
  split
  · omega
  · split <;> omega
theorem cmpI3_lt (a b : Int) : cmpI3 a b < 0 ↔ a < b := by
  unfold cmpI3
  split
  · omega
  · split <;> omega
noncomputable def cmpR (a b : AV) : Int := cond (decide (ky a = ky b)) (cond (decide (sq b = sq a)) (cond (decide (kd a = kd b)) (cond (decide (vl a = vl b)) (cmpB (en a) (en b)) (cmpB (vl a) (vl b))) (cmpI3 (kd a) (kd b))) (cmpI3 (sq b) (sq a))) (cmpB (ky a) (ky b))
theorem impl_cmp {B C : Nat} {a b : AV} (h : T62 B a) (g : T62 C b) : den E 132 [a, b] [] = some (.i .i64 (cmpR a b)) := by
  obtain ⟨a0, a1, a2, a3, a4, rfl, _⟩ := h
  obtain ⟨b0, b1, b2, b3, b4, rfl, _⟩ := g
  rw [f132_eq]
  simp only [cmp_int, f171_eq, f180_eq, cmp_or5, cmpR, ky, sq, kd, vl, en, okC_nil, okC_agg, okC_i, okC_b, okC_s, okC_imm, okL_i, okL_b, okL_s, okL_sl, okS_i, okS_b, okS_s, okS_sl, okS_agg, okS_tup, okS_nil, okS_cons, cells_agg, cells_i, cells_b, cells_s, cells_imm, toI_i, toB_b, toS_s, toL_imm, nth_agg, nth_tup, put_agg, put_i, put_b, put_s, put_imm, setCells, List.getD_cons_zero, List.getD_cons_succ, bSh_b, bSh_i, bSh_s, bSh_sl, bSh_some, cond_true, cond_false, decide_true, decide_false, Int.toNat_natCast, Nat.zero_add, Nat.reduceAdd, beq_self_eq_true, Bool.and_true, Bool.true_and, if_true, Bool.false_eq_true, if_false, List.set_cons_zero, List.set_cons_succ, Bool.not_true, Bool.not_false, Bool.and_self]
  have e1 : ∀ x y : Int, (if x < y then (-1 : Int) else if y < x then 1 else 0) = cmpI3 x y := fun _ _ => rfl
  simp only [e1, cmpB_eq, cmpI3_eq]
theorem cmpR_lt0 (a b : AV) : decide (cmpR a b < 0) = lessR a b := by
  unfold cmpR lessR
  have e1 : decide (sq b = sq a) = decide (sq a = sq b) := by
    by_cases h : sq a = sq b
    · simp [h]
    · have : ¬ sq b = sq a := fun g => h g.symm
      simp [h, this]
  rw [e1]
  cases decide (ky a = ky b) <;> cases decide (sq a = sq b) <;> cases decide (kd a = kd b) <;> cases decide (vl a = vl b) <;> simp only [cond_true, cond_false, cmpI3_lt, cmpB_lt, Bool.decide_eq_true]
theorem impl_less {B C : Nat} {a b : AV} (h : T62 B a) (g : T62 C b) : den E 112 [a, b] [] = some (.b (lessR a b)) := by
  have e := impl_cmp h g
  obtain ⟨a0, a1, a2, a3, a4, rfl, _⟩ := h
  obtain ⟨b0, b1, b2, b3, b4, rfl, _⟩ := g
  rw [f112_eq, e, bSh_i]
  exact congrArg (fun b => some (AV.b b)) (cmpR_lt0 _ _)


/-! A run is valid. -/
noncomputable def runP (l : List AV) (i : Nat) : Bool := okR (l.getD i .x) && ((decide (i = 0) || lessR (l.getD (i - 1) .x) (l.getD i .x)) && (List.range' 0 i).all fun k => !decide (sq (l.getD k .x) = sq (l.getD i .x)))
noncomputable def runOk (l : List AV) : Bool := (List.range' 0 l.length).all (runP l)
theorem spec_run {l : List AV} (h : Rw (T62 1048576) 1048576 l) : den E 59 [(.imm 5 l)] [] = some (.b (runOk l)) := by
  have hl := h.1
  rw [f59_eq]
  have := all_loop (L := fun i => f59_l1 l i) (n := l.length) (p := runP l) (X := some (.b true)) (F := some (.b false)) (fun i hi => ?_) ?_ l.length 0 (by omega)
  · refine this.trans ?_
    rw [cond_andb, Bool.and_true]; rfl
  · have hT := h.at hi
    have inner := all_loop (L := fun k => f59_l3 l (i : Int) k) (n := i) (p := fun k => !decide (sq (l.getD k .x) = sq (l.getD i .x))) (X := f59_l1 l ((i : Int) + 1)) (F := some (.b false)) (fun k hk => ?_) ?_ i 0 (by omega)
    · try dsimp only
      rw [f59_l1_eq, dT (show (i : Int) < ((l.length : Nat) : Int) by omega), cond_true, if_pos (by omega), Int.toNat_natCast, hT.ok, if_pos rfl, hT.eta, spec_rec hT, bSh_b]
      unfold runP
      simp only [toB_b]
      cases okR (l.getD i .x)
      · rfl
      simp only [Bool.not_true, Bool.true_and, beq_self_eq_true, cond_true]
      have j2 : f59_j2 l (i : Int) = cond ((List.range' 0 i).all fun k => !decide (sq (l.getD k .x) = sq (l.getD i .x))) (f59_l1 l ((i : Int) + 1)) (some (.b false)) := by
        rw [f59_j2_eq]; exact inner
      rw [j2]
      by_cases h0 : i = 0
      · subst h0
        rfl
      · have hi1 : i - 1 < l.length := by omega
        have hP := h.at hi1
        rw [dT (show (0 : Int) < (i : Int) by omega), w64 (x := (i : Int) - 1) (by omega) (by omega), if_pos (by omega), show ((i : Int) - 1).toNat = i - 1 by omega, hP.ok, if_pos rfl, if_pos (by omega)]
        simp only [if_true]
        rw [hP.eta, spec_less hP hT, bSh_b]
        simp only [h0, decide_false, Bool.false_or, toB_b, beq_self_eq_true, cond_true]
        cases lessR (l.getD (i - 1) .x) (l.getD i .x) <;> rfl
    · have hk2 : k < l.length := by omega
      have hK := h.at hk2
      try dsimp only
      rw [f59_l3_eq, dT (show (k : Int) < (i : Int) by omega), cond_true, if_pos (by omega), Int.toNat_natCast, Int.toNat_natCast, hK.ok1, if_pos rfl, if_pos (by omega), hT.ok1, if_pos rfl, w64 (x := (k : Int) + 1) (by omega) (by omega)]
      unfold sq
      cases decide (((l.getD k .x).cells.getD 1 .x).toI = ((l.getD i .x).cells.getD 1 .x).toI) <;> rfl
    · try dsimp only
      rw [f59_l3_eq, dF (Int.lt_irrefl _), cond_false, w64 (x := (i : Int) + 1) (by omega) (by omega)]
  · try dsimp only
    rw [f59_l1_eq, dF (Int.lt_irrefl _), cond_false]

noncomputable def ksOf (l : List AV) (i : Nat) : List AV := (l.take i).map fun el => .i .i64 (sq el)
theorem ksOf_succ {l : List AV} {i : Nat} (hi : i < l.length) : ksOf l (i + 1) = ksOf l i ++ [.i .i64 (sq (l.getD i .x))] := by
  unfold ksOf
  rw [take_getD hi, List.map_append]; rfl
theorem hasI_ks {l : List AV} (n : Int) : ∀ {i : Nat}, i ≤ l.length → hasI (ksOf l i) n = !(List.range' 0 i).all fun k => !decide (sq (l.getD k .x) = n)
  | 0, _ => rfl
  | i + 1, h => by
    have ih := hasI_ks (l := l) n (show i ≤ l.length by omega)
    rw [ksOf_succ (show i < l.length by omega)]
    unfold hasI at ih ⊢
    rw [List.any_append, ih, List.range'_1_concat, List.all_append]
    simp only [List.any_cons, List.any_nil, List.all_cons, List.all_nil, Bool.or_false, Bool.and_true, Nat.zero_add, Bool.not_and, Bool.not_not]
    rfl
theorem impl_run {l : List AV} (h : Rw (T62 1048576) 1048576 l) : den E 62 [(.imm 5 l)] [] = some (.b (runOk l)) := by
  have hl := h.1
  rw [f62_eq]
  have := all_loop (L := fun i => f62_l1 l l ((l.length : Nat) : Int) i (ksOf l i.toNat)) (n := l.length) (p := runP l) (X := some (.b true)) (F := some (.b false)) (fun i hi => ?_) ?_ l.length 0 (by omega)
  · refine this.trans ?_
    rw [cond_andb, Bool.and_true]; rfl
  · have hT := h.at hi
    try dsimp only
    rw [Int.toNat_natCast, show ((i : Int) + 1).toNat = i + 1 by omega, ksOf_succ hi]
    rw [f62_l1_eq, dT (show (i : Int) < ((l.length : Nat) : Int) by omega), cond_true, if_pos (by omega), Int.toNat_natCast, hT.ok, if_pos rfl, hT.eta, impl_rec hT, bSh_b]
    unfold runP
    simp only [toB_b, f62_j2_eq]
    rw [w64 (x := (i : Int) + 1) (by omega) (by omega)]
    cases okR (l.getD i .x)
    · rfl
    rw [show ((l.getD i .x).cells.getD 1 .x).toI = sq (l.getD i .x) from rfl, hasI_ks _ (Nat.le_of_lt hi)]
    cases (List.range' 0 i).all fun k => !decide (sq (l.getD k .x) = sq (l.getD i .x))
    · cases (decide (i = 0) || lessR (l.getD (i - 1) .x) (l.getD i .x)) <;> rfl
    simp only [Bool.not_true, Bool.not_false, Bool.true_and, Bool.and_true, beq_self_eq_true, cond_true]
    by_cases h0 : i = 0
    · subst h0
      rfl
    · have hi1 : i - 1 < l.length := by omega
      have hP := h.at hi1
      rw [dT (show (0 : Int) < (i : Int) by omega), w64 (x := (i : Int) - 1) (by omega) (by omega), if_pos (by omega), show ((i : Int) - 1).toNat = i - 1 by omega, hP.ok, if_pos rfl, hP.eta, impl_less hP hT, bSh_b]
      simp only [h0, decide_false, Bool.false_or, toB_b, beq_self_eq_true, cond_true]
      cases lessR (l.getD (i - 1) .x) (l.getD i .x) <;> rfl
  · try dsimp only
    rw [f62_l1_eq, dF (Int.lt_irrefl _), cond_false]


/-! The newest record that affects a key. -/
noncomputable def aff (el : AV) (key : ByteArray) : Bool := cond (decide (kd el = 3)) ((lessS (ky el) key || decide (ky el = key)) && lessS key (en el)) (decide (ky el = key))
theorem spec_aff {B : Nat} {el : AV} (h : T62 B el) (key : ByteArray) : den E 165 [el, (.s key)] [] = some (.b (aff el key)) := by
  obtain ⟨a0, a1, a2, a3, a4, rfl, _⟩ := h
  rw [f165_eq]
  simp only [aff, ky, kd, en, okC_nil, okC_agg, okC_i, okC_b, okC_s, okC_imm, okL_i, okL_b, okL_s, okL_sl, okS_i, okS_b, okS_s, okS_sl, okS_agg, okS_tup, okS_nil, okS_cons, cells_agg, cells_i, cells_b, cells_s, cells_imm, toI_i, toB_b, toS_s, toL_imm, nth_agg, nth_tup, put_agg, put_i, put_b, put_s, put_imm, setCells, List.getD_cons_zero, List.getD_cons_succ, bSh_b, bSh_i, bSh_s, bSh_sl, bSh_some, cond_true, cond_false, decide_true, decide_false, Int.toNat_natCast, Nat.zero_add, Nat.reduceAdd, beq_self_eq_true, Bool.and_true, Bool.true_and, if_true, Bool.false_eq_true, if_false, List.set_cons_zero, List.set_cons_succ, Bool.not_true, Bool.not_false, Bool.and_self]
  cases decide (a2 = 3) <;> cases (lessS a0 key || decide (a0 = key)) <;> rfl
theorem impl_aff {B : Nat} {el : AV} (h : T62 B el) (key : ByteArray) : den E 129 [el, (.s key)] [] = some (.b (aff el key)) := by
  obtain ⟨a0, a1, a2, a3, a4, rfl, _⟩ := h
  rw [f129_eq]
  simp only [aff, ky, kd, en, okC_nil, okC_agg, okC_i, okC_b, okC_s, okC_imm, okL_i, okL_b, okL_s, okL_sl, okS_i, okS_b, okS_s, okS_sl, okS_agg, okS_tup, okS_nil, okS_cons, cells_agg, cells_i, cells_b, cells_s, cells_imm, toI_i, toB_b, toS_s, toL_imm, nth_agg, nth_tup, put_agg, put_i, put_b, put_s, put_imm, setCells, List.getD_cons_zero, List.getD_cons_succ, bSh_b, bSh_i, bSh_s, bSh_sl, bSh_some, cond_true, cond_false, decide_true, decide_false, Int.toNat_natCast, Nat.zero_add, Nat.reduceAdd, beq_self_eq_true, Bool.and_true, Bool.true_and, if_true, Bool.false_eq_true, if_false, List.set_cons_zero, List.set_cons_succ, Bool.not_true, Bool.not_false, Bool.and_self]
  cases decide (a2 = 3) <;> cases (lessS a0 key || decide (a0 = key)) <;> rfl
noncomputable def better (key : ByteArray) (q : Int) (el b : AV) : AV := cond (aff el key && (decide (sq el ≤ q) && decide (sq b < sq el))) el b
noncomputable def newest (l : List AV) (key : ByteArray) (q : Int) : Nat → AV
  | 0 => .agg [(.s .empty), (.i .i64 (0 : Int)), (.i .i64 (0 : Int)), (.s .empty), (.s .empty)]
  | i + 1 => better key q (l.getD i .x) (newest l key q i)
theorem newest_T {l : List AV} (h : Rw (T62 1048576) 1048576 l) (key : ByteArray) (q : Int) : ∀ i, i ≤ l.length → T62 1048576 (newest l key q i)
  | 0, _ => ⟨.empty, 0, 0, .empty, .empty, rfl, by decide, by decide, by decide, by decide, by decide, trivial⟩
  | i + 1, hi => by
    have h1 := newest_T h key q i (by omega)
    have h2 := h.at (show i < l.length by omega)
    simp only [newest, better]
    cases (aff (l.getD i .x) key && (decide (sq (l.getD i .x) ≤ q) && decide (sq (newest l key q i) < sq (l.getD i .x))))
    · exact h1
    · exact h2
theorem spec_newest {l : List AV} (h : Rw (T62 1048576) 1048576 l) (key : ByteArray) (q : Int) :
    den E 161 [(.imm 5 l), (.s key), (.i .i64 q)] [] = some (.tup [newest l key q l.length, (.b (decide (0 < sq (newest l key q l.length))))]) := by
  have hl := h.1
  rw [f161_eq]
  have := loop_to (R := AV) (L := fun i => f161_l1 l key q i .empty 0 0 .empty .empty (ky (newest l key q i.toNat)) (sq (newest l key q i.toNat)) (kd (newest l key q i.toNat)) (vl (newest l key q i.toNat)) (en (newest l key q i.toNat))) (n := l.length)
    (X := some (.tup [newest l key q l.length, (.b (decide (0 < sq (newest l key q l.length))))])) (fun i hi => ?_) ?_
  · exact this
  · have hT := h.at hi
    try dsimp only
    rw [f161_l1_eq, dT (show (i : Int) < ((l.length : Nat) : Int) by omega), cond_true]
    simp only [show (0 : Int) ≤ (i : Int) ∧ (i : Int) < ((l.length : Nat) : Int) by omega, and_self, if_true, Int.toNat_natCast, hT.ok, hT.ok1, hT.eta, spec_aff hT, bSh_b, toB_b, f161_j2_eq, show ((i : Int) + 1).toNat = i + 1 by omega]
    rw [w64 (x := (i : Int) + 1) (by omega) (by omega)]
    simp only [newest, better]
    cases aff (l.getD i .x) key <;> cases decide (sq (l.getD i .x) ≤ q) <;> cases decide (sq (newest l key q i) < sq (l.getD i .x)) <;> rfl
  · have hN := newest_T h key q l.length (Nat.le_refl _)
    try dsimp only
    rw [f161_l1_eq, dF (Int.lt_irrefl _), cond_false, Int.toNat_natCast]
    have e := hN.eta
    unfold ky sq kd vl en
    rw [e]
theorem impl_look {l : List AV} (h : Rw (T62 1048576) 1048576 l) (key : ByteArray) (q : Int) :
    den E 164 [(.imm 5 l), (.s key), (.i .i64 q)] [] = some (.tup [newest l key q l.length, (.b (decide (0 < sq (newest l key q l.length))))]) := by
  have hl := h.1
  rw [f164_eq]
  have := loop_to (R := AV) (L := fun i => f164_l1 key q l ((l.length : Nat) : Int) i .empty 0 0 .empty .empty (ky (newest l key q i.toNat)) (sq (newest l key q i.toNat)) (kd (newest l key q i.toNat)) (vl (newest l key q i.toNat)) (en (newest l key q i.toNat))) (n := l.length)
    (X := some (.tup [newest l key q l.length, (.b (decide (0 < sq (newest l key q l.length))))])) (fun i hi => ?_) ?_
  · exact this
  · have hT := h.at hi
    try dsimp only
    rw [f164_l1_eq, dT (show (i : Int) < ((l.length : Nat) : Int) by omega), cond_true]
    simp only [show (0 : Int) ≤ (i : Int) ∧ (i : Int) < ((l.length : Nat) : Int) by omega, and_self, if_true, Int.toNat_natCast, hT.ok, hT.ok1, hT.eta, impl_aff hT, bSh_b, toB_b, f164_j2_eq, show ((i : Int) + 1).toNat = i + 1 by omega]
    rw [w64 (x := (i : Int) + 1) (by omega) (by omega)]
    simp only [newest, better]
    cases aff (l.getD i .x) key <;> cases decide (sq (l.getD i .x) ≤ q) <;> cases decide (sq (newest l key q i) < sq (l.getD i .x)) <;> rfl
  · have hN := newest_T h key q l.length (Nat.le_refl _)
    try dsimp only
    rw [f164_l1_eq, dF (Int.lt_irrefl _), cond_false, Int.toNat_natCast]
    have e := hN.eta
    unfold ky sq kd vl en
    rw [e]
/-- The value of a key that is visible. -/
noncomputable def visV (l : List AV) (key : ByteArray) (q : Int) : ByteArray := vl (newest l key q l.length)
noncomputable def visB (l : List AV) (key : ByteArray) (q : Int) : Bool := decide (0 < sq (newest l key q l.length)) && decide (kd (newest l key q l.length) = 1)
theorem spec_get {l : List AV} (h : Rw (T62 1048576) 1048576 l) (key : ByteArray) (q : Int) :
    den E 111 [(.imm 5 l), (.s key), (.i .i64 q)] [] = some (.tup [(.s (cond (visB l key q) (visV l key q) ({ data := #[] } : ByteArray))), (.b (visB l key q))]) := by
  obtain ⟨a0, a1, a2, a3, a4, e, _⟩ := newest_T h key q l.length (Nat.le_refl _)
  rw [f111_eq, spec_newest h, visB, visV, e]
  simp only [ky, sq, kd, vl, en, okC_nil, okC_agg, okC_i, okC_b, okC_s, okC_imm, okL_i, okL_b, okL_s, okL_sl, okS_i, okS_b, okS_s, okS_sl, okS_agg, okS_tup, okS_nil, okS_cons, cells_agg, cells_i, cells_b, cells_s, cells_imm, toI_i, toB_b, toS_s, toL_imm, nth_agg, nth_tup, put_agg, put_i, put_b, put_s, put_imm, setCells, List.getD_cons_zero, List.getD_cons_succ, bSh_b, bSh_i, bSh_s, bSh_sl, bSh_some, cond_true, cond_false, decide_true, decide_false, Int.toNat_natCast, Nat.zero_add, Nat.reduceAdd, beq_self_eq_true, Bool.and_true, Bool.true_and, if_true, Bool.false_eq_true, if_false, List.set_cons_zero, List.set_cons_succ, Bool.not_true, Bool.not_false, Bool.and_self]
  cases decide (0 < a1) <;> cases decide (a2 = 1) <;> rfl
theorem impl_vis {l : List AV} (h : Rw (T62 1048576) 1048576 l) (key : ByteArray) (q : Int) :
    den E 116 [(.imm 5 l), (.s key), (.i .i64 q)] [] = some (.tup [(.s (visV l key q)), (.b (visB l key q))]) := by
  obtain ⟨a0, a1, a2, a3, a4, e, _⟩ := newest_T h key q l.length (Nat.le_refl _)
  rw [f116_eq, impl_look h, visB, visV, e]
  simp only [ky, sq, kd, vl, en, okC_nil, okC_agg, okC_i, okC_b, okC_s, okC_imm, okL_i, okL_b, okL_s, okL_sl, okS_i, okS_b, okS_s, okS_sl, okS_agg, okS_tup, okS_nil, okS_cons, cells_agg, cells_i, cells_b, cells_s, cells_imm, toI_i, toB_b, toS_s, toL_imm, nth_agg, nth_tup, put_agg, put_i, put_b, put_s, put_imm, setCells, List.getD_cons_zero, List.getD_cons_succ, bSh_b, bSh_i, bSh_s, bSh_sl, bSh_some, cond_true, cond_false, decide_true, decide_false, Int.toNat_natCast, Nat.zero_add, Nat.reduceAdd, beq_self_eq_true, Bool.and_true, Bool.true_and, if_true, Bool.false_eq_true, if_false, List.set_cons_zero, List.set_cons_succ, Bool.not_true, Bool.not_false, Bool.and_self]
  cases decide (0 < a1) <;> cases decide (a2 = 1) <;> rfl


/-! Lists that are strictly in order. -/
theorem bl_trans : ∀ x y z : List UInt8, Op.bytesLess x y = true → Op.bytesLess y z = true → Op.bytesLess x z = true
  | _, [], _, h, _ => by cases ‹List UInt8› <;> simp [Op.bytesLess] at h
  | _, _ :: _, [], _, h => by simp [Op.bytesLess] at h
  | [], _ :: _, _ :: _, _, _ => by simp [Op.bytesLess]
  | a :: x, b :: y, c :: z, h1, h2 => by
    have ih := bl_trans x y z
    simp only [Op.bytesLess, Bool.or_eq_true, Bool.and_eq_true, decide_eq_true_eq, beq_iff_eq] at h1 h2 ⊢
    rcases h1 with h1 | ⟨rfl, h1⟩
    · rcases h2 with h2 | ⟨rfl, h2⟩
      · exact .inl (UInt8.lt_iff_toNat_lt.2 (Nat.lt_trans (UInt8.lt_iff_toNat_lt.1 h1) (UInt8.lt_iff_toNat_lt.1 h2)))
      · exact .inl h1
    · rcases h2 with h2 | ⟨rfl, h2⟩
      · exact .inl h2
      · exact .inr ⟨rfl, ih h1 h2⟩
theorem less_trans {a b c : ByteArray} (h1 : lessS a b = true) (h2 : lessS b c = true) : lessS a c = true := bl_trans _ _ _ h1 h2
theorem less_asym {a b : ByteArray} (h1 : lessS a b = true) : lessS b a = false := by
  cases h2 : lessS b a
  · rfl
  · have := less_trans h1 h2
    rw [less_irr] at this
    cases this
theorem less_ne {a b : ByteArray} (h1 : lessS a b = true) : a ≠ b := fun h => by
  subst h
  rw [less_irr] at h1
  cases h1
theorem sorted_eq : ∀ {a b : List ByteArray}, a.Pairwise (fun x y => lessS x y = true) → b.Pairwise (fun x y => lessS x y = true) → (∀ x, x ∈ a ↔ x ∈ b) → a = b
  | [], [], _, _, _ => rfl
  | [], y :: _, _, _, h => by have := (h y).2 (List.mem_cons_self ..); cases this
  | x :: _, [], _, _, h => by have := (h x).1 (List.mem_cons_self ..); cases this
  | x :: a, y :: b, ha, hb, h => by
    obtain ⟨ha1, ha2⟩ := List.pairwise_cons.1 ha
    obtain ⟨hb1, hb2⟩ := List.pairwise_cons.1 hb
    have hxy : x = y := by
      have h1 := (h x).1 (List.mem_cons_self ..)
      have h2 := (h y).2 (List.mem_cons_self ..)
      rcases List.mem_cons.1 h1 with h1 | h1
      · exact h1
      rcases List.mem_cons.1 h2 with h2 | h2
      · exact h2.symm
      have g1 := hb1 x h1
      have g2 := ha1 y h2
      rw [less_asym g1] at g2
      cases g2
    subst hxy
    rw [sorted_eq ha2 hb2 fun z => ?_]
    constructor
    · intro hz
      rcases List.mem_cons.1 ((h z).1 (List.mem_cons_of_mem _ hz)) with g | g
      · exact absurd g.symm (less_ne (ha1 z hz))
      · exact g
    · intro hz
      rcases List.mem_cons.1 ((h z).2 (List.mem_cons_of_mem _ hz)) with g | g
      · exact absurd g.symm (less_ne (hb1 z hz))
      · exact g

/-! A list without what repeats the one before. -/
def dl : ByteArray → List ByteArray → List ByteArray
  | _, [] => []
  | p, k :: t => if k = p then dl p t else k :: dl k t
def leS (a b : ByteArray) : Prop := a = b ∨ lessS a b = true
theorem le_less {a b c : ByteArray} (h : leS a b) (h2 : lessS b c = true) : lessS a c = true := h.elim (fun h => h ▸ h2) fun h => less_trans h h2
theorem less_le {a b c : ByteArray} (h : lessS a b = true) (h2 : leS b c) : lessS a c = true := h2.elim (fun h2 => h2 ▸ h) fun h2 => less_trans h h2
theorem dl_sub : ∀ {p : ByteArray} {t : List ByteArray} {x : ByteArray}, x ∈ dl p t → x ∈ t
  | _, [], _, h => by simp [dl] at h
  | p, k :: t, x, h => by
    simp only [dl] at h
    split at h
    · exact List.mem_cons_of_mem _ (dl_sub h)
    · rcases List.mem_cons.1 h with h | h
      · exact h ▸ List.mem_cons_self ..
      · exact List.mem_cons_of_mem _ (dl_sub h)
theorem dl_mem : ∀ {p : ByteArray} {t : List ByteArray} {x : ByteArray}, x ∈ t → x ≠ p → x ∈ dl p t
  | _, [], _, h, _ => by cases h
  | p, k :: t, x, h, hp => by
    simp only [dl]
    split
    · rename_i hk
      rcases List.mem_cons.1 h with h | h
      · exact absurd (h.trans hk) hp
      · exact dl_mem h hp
    · by_cases hx : x = k
      · exact hx ▸ List.mem_cons_self ..
      · exact List.mem_cons_of_mem _ (dl_mem ((List.mem_cons.1 h).resolve_left hx) hx)
theorem dl_lt : ∀ {p : ByteArray} {t : List ByteArray}, (∀ x, x ∈ t → leS p x) → t.Pairwise leS → (∀ x, x ∈ dl p t → lessS p x = true) ∧ (dl p t).Pairwise fun x y => lessS x y = true
  | _, [], _, _ => ⟨fun _ h => by simp [dl] at h, .nil⟩
  | p, k :: t, hp, hs => by
    obtain ⟨h1, h2⟩ := List.pairwise_cons.1 hs
    simp only [dl]
    split
    · exact dl_lt (fun x hx => hp x (List.mem_cons_of_mem _ hx)) h2
    · rename_i hk
      obtain ⟨g1, g2⟩ := dl_lt (p := k) (t := t) h1 h2
      have hpk : lessS p k = true := (hp k (List.mem_cons_self ..)).resolve_left fun h => hk h.symm
      refine ⟨fun x hx => ?_, List.pairwise_cons.2 ⟨g1, g2⟩⟩
      rcases List.mem_cons.1 hx with hx | hx
      · exact hx ▸ hpk
      · exact less_trans hpk (g1 x hx)
theorem dl_filter {p : ByteArray} {t : List ByteArray} (hp : ∀ x, x ∈ t → lessS p x = true) (hs : t.Pairwise leS) {s : List ByteArray} (hsub : s.Sublist t) (f : ByteArray → Bool) (hf : ∀ x, x ∈ t → f x = true → x ∈ s) : (dl p t).filter f = (dl p s).filter f := by
  have hle : ∀ x, x ∈ t → leS p x := fun x hx => .inr (hp x hx)
  have h1 := dl_lt hle hs
  have h2 := dl_lt (fun x hx => hle x (hsub.subset hx)) (hs.sublist hsub)
  refine sorted_eq (h1.2.sublist List.filter_sublist) (h2.2.sublist List.filter_sublist) fun x => ?_
  simp only [List.mem_filter]
  constructor
  · rintro ⟨g1, g2⟩
    exact ⟨dl_mem (hf x (dl_sub g1) g2) fun h => less_ne (hp x (dl_sub g1)) h.symm, g2⟩
  · rintro ⟨g1, g2⟩
    have g3 := hsub.subset (dl_sub g1)
    exact ⟨dl_mem g3 fun h => less_ne (hp x g3) h.symm, g2⟩
/-- The keys that are taken: the last one taken is left out where it comes again, and so is what does not lie within. -/
def spK (g f : ByteArray → Bool) : ByteArray → List ByteArray → List ByteArray
  | _, [] => []
  | p, k :: t => if k = p ∨ g k = false then spK g f p t else if f k = true then k :: spK g f k t else spK g f k t
theorem spK_dl (g f : ByteArray → Bool) : ∀ {p p' : ByteArray} {t : List ByteArray}, (∀ x, x ∈ t → leS p' x) → t.Pairwise leS → (∀ x, x ∈ t → g x = true → (x = p ↔ x = p')) → spK g f p t = (dl p' t).filter fun x => g x && f x
  | _, _, [], _, _, _ => rfl
  | p, p', k :: t, hp, hs, hg => by
    obtain ⟨h1, h2⟩ := List.pairwise_cons.1 hs
    have hgt := fun x hx => hg x (List.mem_cons_of_mem _ hx)
    have hpt := fun x hx => hp x (List.mem_cons_of_mem _ hx)
    simp only [spK, dl]
    by_cases hk : k = p'
    · have hc : k = p ∨ g k = false := by
        cases h : g k
        · exact .inr rfl
        · exact .inl ((hg k (List.mem_cons_self ..) h).2 hk)
      rw [if_pos hc, if_pos hk]
      exact spK_dl g f hpt h2 hgt
    · have hpk : lessS p' k = true := (hp k (List.mem_cons_self ..)).resolve_left fun h => hk h.symm
      rw [if_neg hk]
      cases h : g k
      · rw [if_pos (.inr rfl), List.filter_cons, if_neg (by simp [h])]
        refine spK_dl g f h1 h2 fun x hx hgx => ?_
        have n1 : x ≠ k := fun e => by rw [e, h] at hgx; cases hgx
        have n2 : x ≠ p' := fun e => less_ne (less_le hpk (h1 x hx)) e.symm
        have n3 : x ≠ p := fun e => n2 ((hgt x hx hgx).1 e)
        exact ⟨fun e => absurd e n3, fun e => absurd e n1⟩
      · have hc : ¬ (k = p ∨ true = false) := fun e => e.elim (fun e => hk ((hg k (List.mem_cons_self ..) h).1 e)) (by simp)
        have ih := spK_dl g f (p := k) (p' := k) h1 h2 fun x _ _ => Iff.rfl
        rw [if_neg hc, List.filter_cons]
        cases hf : f k
        · simp [h, hf, ih]
        · simp [h, hf, ih]


/-! The point records and the range deletions of a run. -/
abbrev rgB (t : AV) : Bool := decide (kd t = 3)
abbrev ptB (t : AV) : Bool := !decide (kd t = 3)
theorem clos_rng {t : AV} (ht : T62 1048576 t) : den E 123 [t] [] = some (.b (!ptB t)) := by
  obtain ⟨a0, a1, a2, a3, a4, rfl, _⟩ := ht
  rw [f123_eq]
  show some (AV.b (decide (a2 = 3))) = some (AV.b (!!decide (a2 = 3)))
  rw [Bool.not_not]
theorem clos_pt {t : AV} (ht : T62 1048576 t) : den E 162 [t] [] = some (.b (!rgB t)) := by
  have e := clos_rng ht
  obtain ⟨a0, a1, a2, a3, a4, rfl, _⟩ := ht
  rw [f162_eq, e, bSh_b]
  show some (AV.b (!(!!decide (a2 = 3)))) = some (AV.b (!decide (a2 = 3)))
  rw [Bool.not_not]
theorem first_pt (m : List AV) (hm : Rw (T62 1048576) 1048576 m)  :
    (den E 168 [(.imm 5 m), (.fn 123 [])] [] = some (.i .i64 (-1)) ∧ ∀ i, i < m.length → ptB (m.getD i .x) = true) ∨
    ∃ j : Nat, j < m.length ∧ den E 168 [(.imm 5 m), (.fn 123 [])] [] = some (.i .i64 j) ∧ ptB (m.getD j .x) = false ∧ ∀ i, i < j → ptB (m.getD i .x) = true := by
  have hll := hm.1
  have key := find_loop (L := fun i => f168q1_l1 m ((m.length : Nat) : Int) i) (n := m.length) (p := fun j => !ptB (m.getD j .x)) (F := fun i => some (.i .i64 i)) (X := some (.i .i64 (-1))) (fun i hi => ?_) ?_ m.length 0 (by omega)
  · rw [f168q1_eq]
    rcases key with ⟨j, _, hj, h1, h2, h3⟩ | ⟨h1, h2⟩
    · exact .inr ⟨j, hj, h3, by simpa using h1, fun i hi => by simpa using h2 i (Nat.zero_le _) hi⟩
    · exact .inl ⟨h2, fun i hi => by simpa using h1 i (Nat.zero_le _) hi⟩
  · have hT := hm.at hi
    try dsimp only
    rw [f168q1_l1_eq, dT (show (i : Int) < ((m.length : Nat) : Int) by omega), cond_true, if_pos (by omega), w64 (x := (i : Int) + 1) (by omega) (by omega)]
    simp only [Int.toNat_natCast, hT.ok, hT.eta, clos_rng hT, okC_nil, okC_agg, okC_i, okC_b, okC_s, okC_imm, okL_i, okL_b, okL_s, okL_sl, okS_i, okS_b, okS_s, okS_sl, okS_agg, okS_tup, okS_nil, okS_cons, cells_agg, cells_i, cells_b, cells_s, cells_imm, toI_i, toB_b, toS_s, toL_imm, nth_agg, nth_tup, put_agg, put_i, put_b, put_s, put_imm, setCells, List.getD_cons_zero, List.getD_cons_succ, bSh_b, bSh_i, bSh_s, bSh_sl, bSh_some, cond_true, cond_false, decide_true, decide_false, Int.toNat_natCast, Nat.zero_add, Nat.reduceAdd, beq_self_eq_true, Bool.and_true, Bool.true_and, if_true, Bool.false_eq_true, if_false, List.set_cons_zero, List.set_cons_succ, Bool.not_true, Bool.not_false, Bool.and_self]
  · try dsimp only
    rw [f168q1_l1_eq, dF (Int.lt_irrefl _), cond_false]
theorem del_pt (m : List AV) (hm : Rw (T62 1048576) 1048576 m)  :
    ∃ r : List AV, dno E 121 [(.sl 0 [] none), (.fn 123 [])] [(.live true false false 66 m)] =
      some (.sl 0 [] (some (0, (m.filter ptB).length)), [(.live true false false 66 r)]) ∧ r.length = m.length ∧ (∀ y, y ∈ r → T62 1048576 y) ∧ r.take (m.filter ptB).length = m.filter ptB := by
  have hml := hm.1
  rw [f121o1_eq]
  rcases first_pt m hm with ⟨h1, h2⟩ | ⟨j, hj, h1, h2, h3⟩
  · have hf : m.filter ptB = m := List.filter_eq_self.2 fun y hy => by
      obtain ⟨i, hi, rfl⟩ := List.getElem_of_mem hy
      have := h2 i hi
      rwa [List.getD_eq_getElem?_getD, List.getElem?_eq_getElem hi] at this
    rw [h1, hf]
    exact ⟨m, rfl, rfl, hm.2, by simp⟩
  · rw [h1]
    simp only [bSh_i, toI_i]
    have hj1 : ¬ (j : Int) = -1 := by omega
    have hjn : (m.take j).filter ptB = m.take j := List.filter_eq_self.2 fun y hy => by
      obtain ⟨i, hi, rfl⟩ := List.getElem_of_mem hy
      have hij : i < j := by rw [List.length_take] at hi; omega
      have := h3 i hij
      rw [List.getD_eq_getElem?_getD, List.getElem?_eq_getElem (by omega)] at this
      rw [List.getElem_take]; exact this
    simp only [hj1, decide_false, cond_false]
    rw [w64 (x := (j : Int) + 1) (by omega) (by omega), show ((j : Int) + 1) = ((j + 1 : Nat) : Int) by omega]
    let W : Nat → List AV → List AV := fun k r => r.take k ++ List.replicate (r.length - k) (.agg [(.s .empty), (.i .i64 (0 : Int)), (.i .i64 (0 : Int)), (.s .empty), (.s .empty)]) ++ r.drop (k + (r.length - k))
    have key : ∃ r', f121o1_l1 (j : Int) ((j + 1 : Nat) : Int) m = some (.sl 0 [] (some (0, (m.filter ptB).length)), [(.live true false false 66 (W (m.filter ptB).length r'))]) ∧ r'.length = m.length ∧ r'.take (m.filter ptB).length = m.filter ptB := by
      refine del_loop (L := fun k i r => f121o1_l1 k i r) (m := m) (p := ptB) (T := T62 1048576) (F := fun k r => some (.sl 0 [] (some (0, k)), [(.live true false false 66 (W k r))])) hm.2 (fun i k r hi hk hl hg hr => ?_) (fun k r hk hl => ?_) (m.length - (j + 1)) (j + 1) j m (by omega) (by omega) rfl hm.2 ?_ rfl
      · have hT := hm.at hi
        have hT' : T62 1048576 (r.getD k .x) := hr _ (getD_mem (by omega))
        try dsimp only
        rw [f121o1_l1_eq, dT (show (i : Int) < ((r.length : Nat) : Int) by omega), cond_true, if_pos (by omega)]
        simp only [Nat.zero_add, Int.toNat_natCast, hg, hT.ok, hT.eta, clos_rng hT, okC_nil, okC_agg, okC_i, okC_b, okC_s, okC_imm, okL_i, okL_b, okL_s, okL_sl, okS_i, okS_b, okS_s, okS_sl, okS_agg, okS_tup, okS_nil, okS_cons, cells_agg, cells_i, cells_b, cells_s, cells_imm, toI_i, toB_b, toS_s, toL_imm, nth_agg, nth_tup, put_agg, put_i, put_b, put_s, put_imm, setCells, List.getD_cons_zero, List.getD_cons_succ, bSh_b, bSh_i, bSh_s, bSh_sl, bSh_some, cond_true, cond_false, decide_true, decide_false, Int.toNat_natCast, Nat.zero_add, Nat.reduceAdd, beq_self_eq_true, Bool.and_true, Bool.true_and, if_true, Bool.false_eq_true, if_false, List.set_cons_zero, List.set_cons_succ, Bool.not_true, Bool.not_false, Bool.and_self, f121o1_j2_eq]
        rw [w64 (x := (k : Int) + 1) (by omega) (by omega), if_pos (by omega), w64 (x := (i : Int) + 1) (by omega) (by omega)]
        have hput : (r.getD k .x).putCells 0 (m.getD i .x).cells = m.getD i .x := by
          obtain ⟨a0, a1, a2, a3, a4, e1, _⟩ := hT'
          obtain ⟨b0, b1, b2, b3, b4, e2, _⟩ := hT
          rw [e1, e2]; rfl
        have hcl : [(.s ((m.getD i .x).cells.getD 0 .x).toS), (.i .i64 ((m.getD i .x).cells.getD 1 .x).toI), (.i .i64 ((m.getD i .x).cells.getD 2 .x).toI), (.s ((m.getD i .x).cells.getD 3 .x).toS), (.s ((m.getD i .x).cells.getD 4 .x).toS)] = (m.getD i .x).cells := by
          obtain ⟨b0, b1, b2, b3, b4, e2, _⟩ := hT
          rw [e2]; rfl
        rw [hcl, hput]
        cases ptB (m.getD i .x) <;> simp
      · try dsimp only
        rw [f121o1_l1_eq, dF (show ¬ ((m.length : Nat) : Int) < ((r.length : Nat) : Int) by omega), cond_false, if_pos (by omega)]
        simp only [Int.toNat_natCast]
        rw [if_pos (by simp only [List.length_append, List.length_take, List.length_replicate, List.length_drop]; omega)]
        rfl
      · rw [take_getD hj, List.filter_append, hjn, List.filter_cons, if_neg (by rw [h2]; decide)]
        simp
    obtain ⟨r', g1, g2, g3⟩ := key
    have hWl : (W (m.filter ptB).length r').length = m.length := by
      have : (m.filter ptB).length ≤ m.length := List.length_filter_le _ _
      simp only [W, List.length_append, List.length_take, List.length_replicate, List.length_drop]
      omega
    have hle : (m.filter ptB).length ≤ r'.length := by rw [g2]; exact List.length_filter_le _ _
    have z64 : W64 0 := by constructor <;> omega
    have ze : ByteArray.empty.size ≤ 1048576 := Nat.zero_le _
    refine ⟨W (m.filter ptB).length r', g1, hWl, fun y hy => ?_, ?_⟩
    · simp only [W, List.mem_append] at hy
      rcases hy with (hy | hy) | hy
      · rw [g3] at hy
        exact hm.2 y (List.mem_filter.1 hy).1
      · rw [(List.mem_replicate.1 hy).2]; exact ⟨.empty, 0, 0, .empty, .empty, rfl, ze, z64, z64, ze, ze, trivial⟩
      · rw [List.drop_eq_nil_of_le (by omega)] at hy; cases hy
    · simp only [W, List.append_assoc]
      rw [List.take_append_of_le_length (by rw [List.length_take]; omega), List.take_take, Nat.min_self, g3]

theorem first_rg (m : List AV) (hm : Rw (T62 1048576) 1048576 m)  :
    (den E 168 [(.imm 5 m), (.fn 162 [])] [] = some (.i .i64 (-1)) ∧ ∀ i, i < m.length → rgB (m.getD i .x) = true) ∨
    ∃ j : Nat, j < m.length ∧ den E 168 [(.imm 5 m), (.fn 162 [])] [] = some (.i .i64 j) ∧ rgB (m.getD j .x) = false ∧ ∀ i, i < j → rgB (m.getD i .x) = true := by
  have hll := hm.1
  have key := find_loop (L := fun i => f168q2_l1 m ((m.length : Nat) : Int) i) (n := m.length) (p := fun j => !rgB (m.getD j .x)) (F := fun i => some (.i .i64 i)) (X := some (.i .i64 (-1))) (fun i hi => ?_) ?_ m.length 0 (by omega)
  · rw [f168q2_eq]
    rcases key with ⟨j, _, hj, h1, h2, h3⟩ | ⟨h1, h2⟩
    · exact .inr ⟨j, hj, h3, by simpa using h1, fun i hi => by simpa using h2 i (Nat.zero_le _) hi⟩
    · exact .inl ⟨h2, fun i hi => by simpa using h1 i (Nat.zero_le _) hi⟩
  · have hT := hm.at hi
    try dsimp only
    rw [f168q2_l1_eq, dT (show (i : Int) < ((m.length : Nat) : Int) by omega), cond_true, if_pos (by omega), w64 (x := (i : Int) + 1) (by omega) (by omega)]
    simp only [Int.toNat_natCast, hT.ok, hT.eta, clos_pt hT, okC_nil, okC_agg, okC_i, okC_b, okC_s, okC_imm, okL_i, okL_b, okL_s, okL_sl, okS_i, okS_b, okS_s, okS_sl, okS_agg, okS_tup, okS_nil, okS_cons, cells_agg, cells_i, cells_b, cells_s, cells_imm, toI_i, toB_b, toS_s, toL_imm, nth_agg, nth_tup, put_agg, put_i, put_b, put_s, put_imm, setCells, List.getD_cons_zero, List.getD_cons_succ, bSh_b, bSh_i, bSh_s, bSh_sl, bSh_some, cond_true, cond_false, decide_true, decide_false, Int.toNat_natCast, Nat.zero_add, Nat.reduceAdd, beq_self_eq_true, Bool.and_true, Bool.true_and, if_true, Bool.false_eq_true, if_false, List.set_cons_zero, List.set_cons_succ, Bool.not_true, Bool.not_false, Bool.and_self]
  · try dsimp only
    rw [f168q2_l1_eq, dF (Int.lt_irrefl _), cond_false]
theorem del_rg (m : List AV) (hm : Rw (T62 1048576) 1048576 m)  :
    ∃ r : List AV, dno E 121 [(.sl 0 [] none), (.fn 162 [])] [(.live true false false 66 m)] =
      some (.sl 0 [] (some (0, (m.filter rgB).length)), [(.live true false false 66 r)]) ∧ r.length = m.length ∧ (∀ y, y ∈ r → T62 1048576 y) ∧ r.take (m.filter rgB).length = m.filter rgB := by
  have hml := hm.1
  rw [f121o2_eq]
  rcases first_rg m hm with ⟨h1, h2⟩ | ⟨j, hj, h1, h2, h3⟩
  · have hf : m.filter rgB = m := List.filter_eq_self.2 fun y hy => by
      obtain ⟨i, hi, rfl⟩ := List.getElem_of_mem hy
      have := h2 i hi
      rwa [List.getD_eq_getElem?_getD, List.getElem?_eq_getElem hi] at this
    rw [h1, hf]
    exact ⟨m, rfl, rfl, hm.2, by simp⟩
  · rw [h1]
    simp only [bSh_i, toI_i]
    have hj1 : ¬ (j : Int) = -1 := by omega
    have hjn : (m.take j).filter rgB = m.take j := List.filter_eq_self.2 fun y hy => by
      obtain ⟨i, hi, rfl⟩ := List.getElem_of_mem hy
      have hij : i < j := by rw [List.length_take] at hi; omega
      have := h3 i hij
      rw [List.getD_eq_getElem?_getD, List.getElem?_eq_getElem (by omega)] at this
      rw [List.getElem_take]; exact this
    simp only [hj1, decide_false, cond_false]
    rw [w64 (x := (j : Int) + 1) (by omega) (by omega), show ((j : Int) + 1) = ((j + 1 : Nat) : Int) by omega]
    let W : Nat → List AV → List AV := fun k r => r.take k ++ List.replicate (r.length - k) (.agg [(.s .empty), (.i .i64 (0 : Int)), (.i .i64 (0 : Int)), (.s .empty), (.s .empty)]) ++ r.drop (k + (r.length - k))
    have key : ∃ r', f121o2_l1 (j : Int) ((j + 1 : Nat) : Int) m = some (.sl 0 [] (some (0, (m.filter rgB).length)), [(.live true false false 66 (W (m.filter rgB).length r'))]) ∧ r'.length = m.length ∧ r'.take (m.filter rgB).length = m.filter rgB := by
      refine del_loop (L := fun k i r => f121o2_l1 k i r) (m := m) (p := rgB) (T := T62 1048576) (F := fun k r => some (.sl 0 [] (some (0, k)), [(.live true false false 66 (W k r))])) hm.2 (fun i k r hi hk hl hg hr => ?_) (fun k r hk hl => ?_) (m.length - (j + 1)) (j + 1) j m (by omega) (by omega) rfl hm.2 ?_ rfl
      · have hT := hm.at hi
        have hT' : T62 1048576 (r.getD k .x) := hr _ (getD_mem (by omega))
        try dsimp only
        rw [f121o2_l1_eq, dT (show (i : Int) < ((r.length : Nat) : Int) by omega), cond_true, if_pos (by omega)]
        simp only [Nat.zero_add, Int.toNat_natCast, hg, hT.ok, hT.eta, clos_pt hT, okC_nil, okC_agg, okC_i, okC_b, okC_s, okC_imm, okL_i, okL_b, okL_s, okL_sl, okS_i, okS_b, okS_s, okS_sl, okS_agg, okS_tup, okS_nil, okS_cons, cells_agg, cells_i, cells_b, cells_s, cells_imm, toI_i, toB_b, toS_s, toL_imm, nth_agg, nth_tup, put_agg, put_i, put_b, put_s, put_imm, setCells, List.getD_cons_zero, List.getD_cons_succ, bSh_b, bSh_i, bSh_s, bSh_sl, bSh_some, cond_true, cond_false, decide_true, decide_false, Int.toNat_natCast, Nat.zero_add, Nat.reduceAdd, beq_self_eq_true, Bool.and_true, Bool.true_and, if_true, Bool.false_eq_true, if_false, List.set_cons_zero, List.set_cons_succ, Bool.not_true, Bool.not_false, Bool.and_self, f121o2_j2_eq]
        rw [w64 (x := (k : Int) + 1) (by omega) (by omega), if_pos (by omega), w64 (x := (i : Int) + 1) (by omega) (by omega)]
        have hput : (r.getD k .x).putCells 0 (m.getD i .x).cells = m.getD i .x := by
          obtain ⟨a0, a1, a2, a3, a4, e1, _⟩ := hT'
          obtain ⟨b0, b1, b2, b3, b4, e2, _⟩ := hT
          rw [e1, e2]; rfl
        have hcl : [(.s ((m.getD i .x).cells.getD 0 .x).toS), (.i .i64 ((m.getD i .x).cells.getD 1 .x).toI), (.i .i64 ((m.getD i .x).cells.getD 2 .x).toI), (.s ((m.getD i .x).cells.getD 3 .x).toS), (.s ((m.getD i .x).cells.getD 4 .x).toS)] = (m.getD i .x).cells := by
          obtain ⟨b0, b1, b2, b3, b4, e2, _⟩ := hT
          rw [e2]; rfl
        rw [hcl, hput]
        cases rgB (m.getD i .x) <;> simp
      · try dsimp only
        rw [f121o2_l1_eq, dF (show ¬ ((m.length : Nat) : Int) < ((r.length : Nat) : Int) by omega), cond_false, if_pos (by omega)]
        simp only [Int.toNat_natCast]
        rw [if_pos (by simp only [List.length_append, List.length_take, List.length_replicate, List.length_drop]; omega)]
        rfl
      · rw [take_getD hj, List.filter_append, hjn, List.filter_cons, if_neg (by rw [h2]; decide)]
        simp
    obtain ⟨r', g1, g2, g3⟩ := key
    have hWl : (W (m.filter rgB).length r').length = m.length := by
      have : (m.filter rgB).length ≤ m.length := List.length_filter_le _ _
      simp only [W, List.length_append, List.length_take, List.length_replicate, List.length_drop]
      omega
    have hle : (m.filter rgB).length ≤ r'.length := by rw [g2]; exact List.length_filter_le _ _
    have z64 : W64 0 := by constructor <;> omega
    have ze : ByteArray.empty.size ≤ 1048576 := Nat.zero_le _
    refine ⟨W (m.filter rgB).length r', g1, hWl, fun y hy => ?_, ?_⟩
    · simp only [W, List.mem_append] at hy
      rcases hy with (hy | hy) | hy
      · rw [g3] at hy
        exact hm.2 y (List.mem_filter.1 hy).1
      · rw [(List.mem_replicate.1 hy).2]; exact ⟨.empty, 0, 0, .empty, .empty, rfl, ze, z64, z64, ze, ze, trivial⟩
      · rw [List.drop_eq_nil_of_le (by omega)] at hy; cases hy
    · simp only [W, List.append_assoc]
      rw [List.take_append_of_le_length (by rw [List.length_take]; omega), List.take_take, Nat.min_self, g3]

theorem rec_flat {l : List AV} (h : ∀ y, y ∈ l → T62 1048576 y) : flatVL l = true := flatVL_of fun y hy => by
  obtain ⟨a0, a1, a2, a3, a4, rfl, _⟩ := h y hy; rfl
theorem impl_parted {l : List AV} (h : Rw (T62 1048576) 1048576 l) : den E 114 [(.imm 5 l)] [] = some (.tup [(.imm 5 (l.filter ptB)), (.imm 5 (l.filter rgB))]) := by
  have hl := h.1
  obtain ⟨r1, h1, h2, h3, h4⟩ := del_pt l h
  obtain ⟨r2, g1, g2, g3, g4⟩ := del_rg l h
  have c : dno E 80 [(.imm 5 l)] [] = some (.sl 0 [] none, [.live true false false 66 l]) := by
    rw [f80_eq, if_pos ⟨rfl, by simp only [room]; omega⟩]
  rw [f114_eq, c]
  simp only [bOwn_some, bOwnF_some, bOwnS_some, bOwnFS_some, okRs_nil, okRs_cons, okR_row, okR_same, okR_var, okR_gone, okS_so, okS_pr, okLens_nil, okLens_same, okLens_row, okLens_var, row_live, flatR_live, flatL_nil, flatL_cons, flat_i, flat_b, flat_s, flat_sl, flat_agg, flat_tup, List.all_cons, List.all_nil, List.length_cons, List.length_nil, Nat.reduceLeDiff, Nat.le_refl, decide_true, Bool.and_self, mkL_length, List.headD_cons, okC_nil, okC_agg, okC_i, okC_b, okC_s, okC_imm, okL_i, okL_b, okL_s, okL_sl, okS_i, okS_b, okS_s, okS_sl, okS_agg, okS_tup, okS_nil, okS_cons, cells_agg, cells_i, cells_b, cells_s, cells_imm, toI_i, toB_b, toS_s, toL_imm, nth_agg, nth_tup, put_agg, put_i, put_b, put_s, put_imm, setCells, List.getD_cons_zero, List.getD_cons_succ, bSh_b, bSh_i, bSh_s, bSh_sl, bSh_some, cond_true, cond_false, decide_true, decide_false, Int.toNat_natCast, Nat.zero_add, Nat.reduceAdd, beq_self_eq_true, Bool.and_true, Bool.true_and, if_true, Bool.false_eq_true, if_false, List.set_cons_zero, List.set_cons_succ, Bool.not_true, Bool.not_false, Bool.and_self, h1, g1, h2, g2, h4, g4, AV.off, AV.cnt, List.drop_zero]


/-! slices.Compact over texts of which none is empty. -/
abbrev tx (ks : List ByteArray) : List AV := ks.map .s
theorem tx_getD {ks : List ByteArray} {i : Nat} (hi : i < ks.length) : (tx ks).getD i .x = .s (ks.getD i .empty) := by
  simp [List.getD_eq_getElem?_getD, hi]
theorem ks_take {ks : List ByteArray} {i : Nat} (hi : i < ks.length) : ks.take (i + 1) = ks.take i ++ [ks.getD i .empty] := by
  rw [List.take_add_one, List.getElem?_eq_getElem hi]
  simp [List.getD_eq_getElem?_getD, hi]
def lastOf : ByteArray → List ByteArray → ByteArray
  | p, [] => p
  | _, k :: t => lastOf k t
theorem lastOf_snoc : ∀ (p : ByteArray) (t : List ByteArray) (y : ByteArray), lastOf p (t ++ [y]) = y
  | _, [], _ => rfl
  | _, k :: t, y => lastOf_snoc k t y
theorem dl_snoc : ∀ (p : ByteArray) (t : List ByteArray) (y : ByteArray), (y = lastOf p t → dl p (t ++ [y]) = dl p t) ∧ (y ≠ lastOf p t → dl p (t ++ [y]) = dl p t ++ [y])
  | p, [], y => by
    simp only [List.nil_append, dl, lastOf]
    exact ⟨fun h => if_pos h, fun h => if_neg h⟩
  | p, k :: t, y => by
    obtain ⟨h1, h2⟩ := dl_snoc k t y
    simp only [List.cons_append, dl, lastOf]
    by_cases hk : k = p
    · subst hk
      rw [if_pos rfl, if_pos rfl]
      exact ⟨h1, h2⟩
    · rw [if_neg hk, if_neg hk]
      exact ⟨fun h => by rw [h1 h], fun h => by rw [h2 h]; rfl⟩
theorem dl_step {ks : List ByteArray} {i : Nat} (h0 : 0 < i) (hi : i < ks.length) : (ks.getD i .empty = ks.getD (i - 1) .empty → dl .empty (ks.take (i + 1)) = dl .empty (ks.take i)) ∧ (ks.getD i .empty ≠ ks.getD (i - 1) .empty → dl .empty (ks.take (i + 1)) = dl .empty (ks.take i) ++ [ks.getD i .empty]) := by
  have hl : lastOf .empty (ks.take i) = ks.getD (i - 1) .empty := by
    have : i = (i - 1) + 1 := by omega
    rw [this, ks_take (by omega), lastOf_snoc]
    simp
  rw [ks_take hi, ← hl]
  exact dl_snoc _ _ _
theorem dl_len : ∀ (p : ByteArray) (t : List ByteArray), (dl p t).length ≤ t.length
  | _, [] => by simp [dl]
  | p, k :: t => by
    have h1 := dl_len p t
    have h2 := dl_len k t
    simp only [dl]
    split <;> simp only [List.length_cons] <;> omega
theorem compact (ks : List ByteArray) (hn : ks.length ≤ 1048576) (hne : ∀ x, x ∈ ks → x ≠ .empty) : ∃ r : List AV, dno E 163 [(.sl 0 [] none)] [(.live true false false 9 (tx ks))] =
    some (.sl 0 [] (some (0, (dl .empty ks).length)), [(.live true false false 9 r)]) ∧ r.length = ks.length ∧ r.take (dl .empty ks).length = tx (dl .empty ks) ∧ ∀ y, y ∈ r → ∃ b, y = .s b := by
  have hlen : (tx ks).length = ks.length := List.length_map ..
  have hall : ∀ y, y ∈ tx ks → ∃ b, y = .s b := fun y hy => by
    obtain ⟨b, _, rfl⟩ := List.mem_map.1 hy
    exact ⟨b, rfl⟩
  have h1 : 0 < ks.length → dl .empty (ks.take 1) = ks.take 1 := fun h => by
    rw [ks_take h, List.take_zero, List.nil_append]
    simp only [dl]
    rw [if_neg]
    refine hne _ ?_
    simp [List.getD_eq_getElem?_getD, h]
  rw [f163o1_eq, hlen]
  by_cases h2 : ks.length < 2
  · rw [dT (show ((ks.length : Nat) : Int) < 2 by omega), cond_true]
    have : dl .empty ks = ks := by
      rcases Nat.eq_zero_or_pos ks.length with h | h
      · rw [List.length_eq_zero_iff.1 h]; rfl
      · have := h1 h
        rwa [List.take_of_length_le (by omega)] at this
    rw [this]
    exact ⟨tx ks, rfl, hlen, by rw [List.take_of_length_le (by omega)], hall⟩
  rw [dF (show ¬ ((ks.length : Nat) : Int) < 2 by omega), cond_false]
  -- the second loop
  have two : ∀ (d i k : Nat) (r : List AV) (o : Nat), i + d = ks.length → o < i → k < i → r.length = ks.length → r.drop k = (tx ks).drop k → r.take k = tx (dl .empty (ks.take i)) → k = (dl .empty (ks.take i)).length → (∀ y, y ∈ r → ∃ b, y = .s b) →
      ∃ r' : List AV, f163o1_l2 (k : Int) o (ks.length - o) ((i - o : Nat) : Int) r = some (.sl 0 [] (some (0, (dl .empty ks).length)), [(.live true false false 9 r')]) ∧ r'.length = ks.length ∧ r'.take (dl .empty ks).length = tx (dl .empty ks) ∧ ∀ y, y ∈ r' → ∃ b, y = .s b := by
    intro d
    induction d with
    | zero =>
      intro i k r o hid ho hk hr hd ht hkl hs
      have hi : i = ks.length := by omega
      subst hi
      rw [List.take_of_length_le (Nat.le_refl _)] at ht hkl
      have hW : (r.take k ++ List.replicate (r.length - k) (AV.s .empty) ++ r.drop (k + (r.length - k))).length = ks.length := by
        simp only [List.length_append, List.length_take, List.length_replicate, List.length_drop]; omega
      refine ⟨r.take k ++ List.replicate (r.length - k) (AV.s .empty) ++ r.drop (k + (r.length - k)), ?_, hW, ?_, fun y hy => ?_⟩
      · rw [f163o1_l2_eq, dF (show ¬ ((ks.length - o : Nat) : Int) < ((ks.length - o : Nat) : Int) by omega), cond_false, if_pos (by omega)]
        simp only [Int.toNat_natCast]
        rw [if_pos (by rw [hW]; omega), hkl]
        rfl
      · rw [List.append_assoc, List.take_append_of_le_length (by rw [List.length_take]; omega), List.take_take, ← hkl, Nat.min_self, ht]
      · rcases List.mem_append.1 hy with hy | hy
        · rcases List.mem_append.1 hy with hy | hy
          · exact hs y (List.mem_of_mem_take hy)
          · exact ⟨_, (List.mem_replicate.1 hy).2⟩
        · exact hs y (List.mem_of_mem_drop hy)
    | succ d ih =>
      intro i k r o hid ho hk hr hd ht hkl hs
      have hi : i < ks.length := by omega
      have rd : ∀ j, k ≤ j → j < ks.length → r.getD j .x = .s (ks.getD j .empty) := fun j h1 h2 => by
        rw [← tx_getD h2]
        have h5 := congrArg (fun l => l.getD (j - k) AV.x) hd
        simpa [List.getD_eq_getElem?_getD, List.getElem?_drop, show k + (j - k) = j by omega] using h5
      have r1 := rd i (by omega) hi
      have r2 := rd (i - 1) (by omega) (by omega)
      have st := dl_step (ks := ks) (i := i) (by omega) hi
      have w1 : IntKind.i64.wrap (((i - o : Nat) : Int) - 1) = ((i - o - 1 : Nat) : Int) := by rw [w64 (by omega) (by omega)]; omega
      have w2 : IntKind.i64.wrap (((i - o : Nat) : Int) + 1) = ((i + 1 - o : Nat) : Int) := by rw [w64 (by omega) (by omega)]; omega
      have w3 : IntKind.i64.wrap ((k : Int) + 1) = ((k + 1 : Nat) : Int) := by rw [w64 (by omega) (by omega)]; omega
      rw [f163o1_l2_eq, dT (show ((i - o : Nat) : Int) < ((ks.length - o : Nat) : Int) by omega), cond_true, if_pos (by omega), w1]
      simp only [Int.toNat_natCast, show o + (i - o) = i by omega, show o + (i - o - 1) = i - 1 by omega, r1, r2]
      rw [if_pos (by rfl), if_pos (by omega), if_pos (by rfl)]
      show ∃ r', cond (!decide (ks.getD i .empty = ks.getD (i - 1) .empty)) _ _ = _ ∧ _
      by_cases he : ks.getD i .empty = ks.getD (i - 1) .empty
      · have st := st.1 he
        simp only [he, decide_true, Bool.not_true, cond_false, f163o1_j3_eq, w2]
        exact ih (i + 1) k r o (by omega) (by omega) (by omega) hr hd (by rw [st]; exact ht) (by rw [st]; exact hkl) hs
      · have st := st.2 he
        simp only [he, decide_false, Bool.not_false, cond_true]
        rw [if_pos (by omega), if_pos (by rfl), if_pos (by omega), f163o1_j3_eq, w2, w3]
        have hput : (r.getD (0 + k) .x).putCells 0 [(.s (((AV.s (ks.getD i .empty)).cells.getD 0 .x).toS))] = .s (ks.getD i .empty) := by
          rw [Nat.zero_add, rd k (Nat.le_refl _) (by omega)]; rfl
        rw [hput, Nat.zero_add]
        refine ih (i + 1) (k + 1) (r.set k (.s (ks.getD i .empty))) o (by omega) (by omega) (by omega) (by simpa using hr) ?_ ?_ ?_ fun y hy => ?_
        · rw [List.drop_set_of_lt (by omega)]
          have := congrArg (List.drop 1) hd
          simpa [List.drop_drop] using this
        · rw [st, take_getD (by simp; omega), List.take_set_of_le (Nat.le_refl k), ht]
          simp [List.getD_eq_getElem?_getD, show k < r.length by omega]
        · rw [st, List.length_append, ← hkl]; rfl
        · rcases List.mem_or_eq_of_mem_set hy with hy | hy
          · exact hs y hy
          · exact ⟨_, hy⟩
  -- the first loop
  have one : ∀ (d i : Nat), i + d = ks.length → 0 < i → dl .empty (ks.take i) = ks.take i →
      ∃ r' : List AV, f163o1_l1 (i : Int) (tx ks) = some (.sl 0 [] (some (0, (dl .empty ks).length)), [(.live true false false 9 r')]) ∧ r'.length = ks.length ∧ r'.take (dl .empty ks).length = tx (dl .empty ks) ∧ ∀ y, y ∈ r' → ∃ b, y = .s b := by
    intro d
    induction d with
    | zero =>
      intro i hid h0 he
      have hi : i = ks.length := by omega
      subst hi
      rw [List.take_of_length_le (Nat.le_refl _)] at he
      refine ⟨tx ks, ?_, hlen, by rw [he, List.take_of_length_le (by omega)], hall⟩
      rw [f163o1_l1_eq, hlen, dF (Int.lt_irrefl _), cond_false, he]
    | succ d ih =>
      intro i hid h0 he
      have hi : i < ks.length := by omega
      have st := dl_step (ks := ks) (i := i) h0 hi
      have w1 : IntKind.i64.wrap ((i : Int) - 1) = ((i - 1 : Nat) : Int) := by rw [w64 (by omega) (by omega)]; omega
      have w3 : IntKind.i64.wrap ((i : Int) + 1) = ((i + 1 : Nat) : Int) := by rw [w64 (by omega) (by omega)]; omega
      rw [f163o1_l1_eq, hlen, dT (show (i : Int) < ((ks.length : Nat) : Int) by omega), cond_true, if_pos (by omega), w1, w3]
      simp only [Int.toNat_natCast, Nat.zero_add, tx_getD hi, tx_getD (show i - 1 < ks.length by omega)]
      rw [if_pos (by rfl), if_pos (by omega), if_pos (by rfl)]
      show ∃ r', cond (decide (ks.getD i .empty = ks.getD (i - 1) .empty)) _ _ = _ ∧ _
      by_cases hd : ks.getD i .empty = ks.getD (i - 1) .empty
      · have st := st.1 hd
        simp only [hd, decide_true, cond_true]
        rw [if_pos (by omega)]
        have hli : (dl .empty (ks.take i)).length = i := by rw [he, List.length_take]; omega
        exact two (d := d) (i + 1) i (tx ks) i (by omega) (by omega) (by omega) hlen rfl (by rw [st, he, ← List.map_take]) (by rw [st, hli]) hall |> fun h => by
          simpa [show i + 1 - i = 1 by omega] using h
      · have st := st.2 hd
        simp only [hd, decide_false, cond_false]
        exact ih (i + 1) (by omega) (by omega) (by rw [st, he, ks_take hi])
  exact one (ks.length - 1) 1 (by omega) (by omega) (h1 (by omega))


/-! The keys of point records, each once. -/
theorem key_ne {k : ByteArray} (h : keyOk k = true) : k ≠ .empty := fun e => by
  subst e
  unfold keyOk at h
  simp only [Bool.and_eq_true, decide_eq_true_eq] at h
  have : (ByteArray.empty).size = 0 := rfl
  rw [this] at h
  omega
theorem empty_less {k : ByteArray} (h : k ≠ .empty) : lessS .empty k = true := by
  cases h2 : lessS .empty k
  · exfalso
    have h3 := less_tri k .empty (i := inferInstance)
    rw [h2] at h3
    have h4 : lessS k .empty = true := by
      cases h5 : lessS k .empty
      · rw [h5] at h3
        simp only [Bool.false_or, Bool.not_eq_false', decide_eq_true_eq] at h3
        have := less_tri .empty k (i := inferInstance)
        rw [h2, h5] at this
        simp only [Bool.false_or, Bool.not_eq_false', decide_eq_true_eq] at this
        exact absurd this h
      · rfl
    unfold lessS at h4
    rw [show ByteArray.empty.toList = [] by rw [Lib.toList_data]; rfl] at h4
    cases hk : k.toList <;> rw [hk] at h4 <;> simp [Op.bytesLess] at h4
  · rfl
theorem okR_key {el : AV} (h : okR el = true) : keyOk (ky el) = true := by
  unfold okR okRec at h
  exact (Bool.and_eq_true_iff.1 h).1
theorem run_at {l : List AV} (h : runOk l = true) {i : Nat} (hi : i < l.length) : runP l i = true := List.all_eq_true.1 h i (by simp [List.mem_range'_1, hi])
theorem run_okR {l : List AV} (h : runOk l = true) {i : Nat} (hi : i < l.length) : okR (l.getD i .x) = true := by
  have := run_at h hi
  unfold runP at this
  exact (Bool.and_eq_true_iff.1 this).1
theorem run_less {l : List AV} (h : runOk l = true) {i : Nat} (h0 : 0 < i) (hi : i < l.length) : lessR (l.getD (i - 1) .x) (l.getD i .x) = true := by
  have := run_at h hi
  unfold runP at this
  have h2 := (Bool.and_eq_true_iff.1 (Bool.and_eq_true_iff.1 this).2).1
  simpa [show i ≠ 0 by omega] using h2
theorem lessR_le {a b : AV} (h : lessR a b = true) : leS (ky a) (ky b) := by
  unfold lessR at h
  by_cases he : ky a = ky b
  · exact .inl he
  · rw [dF he, cond_false] at h
    exact .inr h
theorem leS_trans {a b c : ByteArray} (h : leS a b) (g : leS b c) : leS a c := by
  rcases h with rfl | h
  · exact g
  · exact .inr (less_le h g)
theorem pw_of : ∀ (ks : List ByteArray), (∀ i, 0 < i → i < ks.length → leS (ks.getD (i - 1) .empty) (ks.getD i .empty)) → ks.Pairwise leS
  | [], _ => .nil
  | a :: t, h => by
    have ht : ∀ i, 0 < i → i < t.length → leS (t.getD (i - 1) .empty) (t.getD i .empty) := fun i h0 hi => by
      have := h (i + 1) (by omega) (by simp only [List.length_cons]; omega)
      obtain ⟨j, rfl⟩ : ∃ j, i = j + 1 := ⟨i - 1, by omega⟩
      simpa using this
    have ih := pw_of t ht
    refine List.pairwise_cons.2 ⟨fun x hx => ?_, ih⟩
    cases t with
    | nil => cases hx
    | cons b u =>
      have hab : leS a b := by
        have := h 1 (by omega) (by simp)
        simpa using this
      rcases List.mem_cons.1 hx with rfl | hx
      · exact hab
      · exact leS_trans hab ((List.pairwise_cons.1 ih).1 x hx)
theorem map_getD {l : List AV} {i : Nat} (hi : i < l.length) : (l.map ky).getD i .empty = ky (l.getD i .x) := by
  simp [List.getD_eq_getElem?_getD, hi]
theorem run_sorted {l : List AV} (h : runOk l = true) : (l.map ky).Pairwise leS := pw_of _ fun i h0 hi => by
  rw [List.length_map] at hi
  rw [map_getD hi, map_getD (by omega)]
  exact lessR_le (run_less h h0 hi)
theorem run_ne {l : List AV} (h : runOk l = true) {x : ByteArray} (hx : x ∈ l.map ky) : x ≠ .empty := by
  obtain ⟨el, hel, rfl⟩ := List.mem_map.1 hx
  obtain ⟨i, hi, rfl⟩ := List.getElem_of_mem hel
  have := run_okR h hi
  rw [List.getD_eq_getElem?_getD, List.getElem?_eq_getElem hi] at this
  exact key_ne (okR_key this)
theorem impl_keys {l : List AV} (h : Rw (T62 1048576) 1048576 l) (hne : ∀ x, x ∈ l.map ky → x ≠ .empty) : den E 115 [(.imm 5 l)] [] = some (.imm 1 (tx (dl .empty (l.map ky)))) := by
  have hl := h.1
  rw [f115_eq]
  have := loop_to (R := AV) (L := fun i => f115_l1 l ((l.length : Nat) : Int) i [] (tx ((l.map ky).take i.toNat))) (n := l.length) (X := some (.imm 1 (tx (dl .empty (l.map ky))))) (fun i hi => ?_) ?_
  · exact this
  · have hT := h.at hi
    try dsimp only
    rw [f115_l1_eq, dT (show (i : Int) < ((l.length : Nat) : Int) by omega), cond_true, if_pos (by omega)]
    simp only [Int.toNat_natCast, hT.ok, if_true, show ((i : Int) + 1).toNat = i + 1 by omega]
    rw [if_pos (by simp only [room, tx, List.length_map, List.length_take, List.length_cons, List.length_nil]; omega), w64 (x := (i : Int) + 1) (by omega) (by omega), ks_take (by simpa using hi), map_getD hi]
    simp only [tx, List.map_append, List.map_cons, List.map_nil]
  · try dsimp only
    obtain ⟨r, h1, h2, h3, h4⟩ := compact (l.map ky) (by rw [List.length_map]; exact hl) hne
    have hr : flatVL r = true := flatVL_of fun y hy => by
      obtain ⟨b, rfl⟩ := h4 y hy; rfl
    rw [f115_l1_eq, dF (Int.lt_irrefl _), cond_false, Int.toNat_natCast, List.take_of_length_le (by simp)]
    simp only [bOwn_some, bOwnF_some, bOwnS_some, bOwnFS_some, okRs_nil, okRs_cons, okR_row, okR_same, okR_var, okR_gone, okS_so, okS_pr, okLens_nil, okLens_same, okLens_row, okLens_var, row_live, flatR_live, flatL_nil, flatL_cons, flat_i, flat_b, flat_s, flat_sl, flat_agg, flat_tup, List.all_cons, List.all_nil, List.length_cons, List.length_nil, Nat.reduceLeDiff, Nat.le_refl, decide_true, Bool.and_self, mkL_length, List.headD_cons, okC_nil, okC_agg, okC_i, okC_b, okC_s, okC_imm, okL_i, okL_b, okL_s, okL_sl, okS_i, okS_b, okS_s, okS_sl, okS_agg, okS_tup, okS_nil, okS_cons, cells_agg, cells_i, cells_b, cells_s, cells_imm, toI_i, toB_b, toS_s, toL_imm, nth_agg, nth_tup, put_agg, put_i, put_b, put_s, put_imm, setCells, List.getD_cons_zero, List.getD_cons_succ, bSh_b, bSh_i, bSh_s, bSh_sl, bSh_some, cond_true, cond_false, decide_true, decide_false, Int.toNat_natCast, Nat.zero_add, Nat.reduceAdd, beq_self_eq_true, Bool.and_true, Bool.true_and, if_true, Bool.false_eq_true, if_false, List.set_cons_zero, List.set_cons_succ, Bool.not_true, Bool.not_false, Bool.and_self, h1, h2, h3, hr, tx, List.length_map, AV.off, AV.cnt, List.drop_zero]
theorem impl_bounds (a b : ByteArray) : den E 63 [(.s a), (.s b)] [] = some (.b ((decide (a = .empty) || keyOk a) && (decide (b = .empty) || (keyOk b && lessS a b)))) := by
  rw [f63_eq, impl_key, impl_key]
  simp only [bSh_b, toB_b]
  show cond (decide (a = ByteArray.empty) == false) (cond (keyOk a == true) (cond (decide (b = ByteArray.empty) == false) (cond (keyOk b == true) _ _) _) _) (cond (decide (b = ByteArray.empty) == false) (cond (keyOk b == true) _ _) _) = _
  cases decide (a = ByteArray.empty) <;> cases keyOk a <;> cases decide (b = ByteArray.empty) <;> cases keyOk b <;> rfl
/-- A visible key is that of a point record. -/
theorem newest_mem {l : List AV} {key : ByteArray} {q : Int} : ∀ i, i ≤ l.length → newest l key q i = .agg [(.s .empty), (.i .i64 (0 : Int)), (.i .i64 (0 : Int)), (.s .empty), (.s .empty)] ∨ (newest l key q i ∈ l ∧ aff (newest l key q i) key = true)
  | 0, _ => .inl rfl
  | i + 1, hi => by
    simp only [newest, better]
    cases ha : aff (l.getD i .x) key
    · exact newest_mem i (by omega)
    cases (decide (sq (l.getD i .x) ≤ q) && decide (sq (newest l key q i) < sq (l.getD i .x)))
    · exact newest_mem i (by omega)
    · exact .inr ⟨getD_mem (by omega), ha⟩
theorem vis_mem {l : List AV} {key : ByteArray} {q : Int} (h : visB l key q = true) : key ∈ (l.filter ptB).map ky := by
  unfold visB at h
  obtain ⟨h1, h2⟩ := Bool.and_eq_true_iff.1 h
  rcases newest_mem (l := l) (key := key) (q := q) l.length (Nat.le_refl _) with h3 | ⟨h3, h4⟩
  · rw [h3] at h1; cases h1
  · have hk := of_decide_eq_true h2
    unfold aff at h4
    rw [dF (show ¬ kd (newest l key q l.length) = 3 by omega), cond_false] at h4
    exact List.mem_map.2 ⟨_, List.mem_filter.2 ⟨h3, by rw [show ptB (newest l key q l.length) = !decide (kd (newest l key q l.length) = 3) from rfl, dF (show ¬ kd (newest l key q l.length) = 3 by omega)]; rfl⟩, of_decide_eq_true h4⟩
/-- Within the bounds. -/
def inB (lo hi k : ByteArray) : Bool := !lessS k lo && (decide (hi = .empty) || lessS k hi)
noncomputable def pr (l : List AV) (q : Int) (k : ByteArray) : AV := .agg [(.s k), (.s (visV l k q))]
noncomputable def scanned (l : List AV) (lo hi : ByteArray) (q : Int) : List AV := ((dl .empty ((l.filter ptB).map ky)).filter fun k => inB lo hi k && visB l k q).map (pr l q)
theorem scan_spec {l : List AV} (lo hi : ByteArray) (q : Int) (hr : runOk l = true) : spK (inB lo hi) (fun k => visB l k q) .empty (l.map ky) = (dl .empty ((l.filter ptB).map ky)).filter fun k => inB lo hi k && visB l k q := by
  have hs := run_sorted hr
  have hne := fun x hx => empty_less (run_ne hr (x := x) hx)
  rw [spK_dl (inB lo hi) (fun k => visB l k q) (p' := .empty) (fun x hx => .inr (hne x hx)) hs fun x _ _ => Iff.rfl]
  exact dl_filter hne hs (List.Sublist.map _ List.filter_sublist) _ fun x _ hx => vis_mem (Bool.and_eq_true_iff.1 hx).2
theorem spec_scan {l : List AV} (h : Rw (T62 1048576) 1048576 l) (lo hi : ByteArray) (q : Int) (hr : runOk l = true) : dno E 61 [(.imm 5 l), (.s lo), (.s hi), (.i .i64 q)] [] = some (.sl 0 [] none, [.live true false false 99 (scanned l lo hi q)]) := by
  have hl := h.1
  rw [f61o1_eq]
  have key : ∀ (d i : Nat) (last : ByteArray) (out : List AV), i + d = l.length → out.length ≤ i → f61o1_l1 l lo hi q last i [] out = some (.sl 0 [] none, [.live true false false 99 (out ++ (spK (inB lo hi) (fun k => visB l k q) last ((l.map ky).drop i)).map (pr l q))]) := by
    intro d
    induction d with
    | zero =>
      intro i last out h1 h2
      rw [f61o1_l1_eq, dF (show ¬ (i : Int) < ((l.length : Nat) : Int) by omega), cond_false, List.drop_eq_nil_of_le (by rw [List.length_map]; omega)]
      simp [spK]
    | succ d ih =>
      intro i last out h1 h2
      have hi' : i < l.length := by omega
      have hT := h.at hi'
      have hdr : (l.map ky).drop i = ky (l.getD i .x) :: (l.map ky).drop (i + 1) := by
        rw [List.drop_eq_getElem_cons (by simpa using hi')]
        simp [List.getD_eq_getElem?_getD, hi']
      have st2 : f61o1_j2 l lo hi q last i [] out = f61o1_l1 l lo hi q last ((i + 1 : Nat) : Int) [] out := by
        rw [f61o1_j2_eq, w64 (x := (i : Int) + 1) (by omega) (by omega)]; rfl
      have ih2 := ih (i + 1) last out (by omega) (by omega)
      rw [f61o1_l1_eq, dT (show (i : Int) < ((l.length : Nat) : Int) by omega), cond_true, if_pos (by omega), hdr, spK]
      simp only [Int.toNat_natCast, hT.ok0, if_true, st2]
      generalize hk : ky (l.getD i .x) = k
      have hk' : ((l.getD i .x).cells.getD 0 .x).toS = k := hk
      have st3 : inB lo hi k = true → ¬ k = last → f61o1_j3 l lo hi q i k [] out = some (.sl 0 [] none, [.live true false false 99 (out ++ ((if k = last ∨ inB lo hi k = false then spK (inB lo hi) (fun k => visB l k q) last ((l.map ky).drop (i + 1)) else if visB l k q = true then k :: spK (inB lo hi) (fun k => visB l k q) k ((l.map ky).drop (i + 1)) else spK (inB lo hi) (fun k => visB l k q) k ((l.map ky).drop (i + 1))).map (pr l q)))]) := fun hin hnl => by
        have hc : ¬ (k = last ∨ inB lo hi k = false) := fun e => e.elim hnl (by rw [hin]; simp)
        rw [if_neg hc, f61o1_j3_eq, spec_get h]
        have e2 : ∀ o : List AV, f61o1_j2 l lo hi q k i [] o = f61o1_l1 l lo hi q k ((i + 1 : Nat) : Int) [] o := fun o => by
          rw [f61o1_j2_eq, w64 (x := (i : Int) + 1) (by omega) (by omega)]; rfl
        simp only [e2, okC_nil, okC_agg, okC_i, okC_b, okC_s, okC_imm, okL_i, okL_b, okL_s, okL_sl, okS_i, okS_b, okS_s, okS_sl, okS_agg, okS_tup, okS_nil, okS_cons, cells_agg, cells_i, cells_b, cells_s, cells_imm, toI_i, toB_b, toS_s, toL_imm, nth_agg, nth_tup, put_agg, put_i, put_b, put_s, put_imm, setCells, List.getD_cons_zero, List.getD_cons_succ, bSh_b, bSh_i, bSh_s, bSh_sl, bSh_some, cond_true, cond_false, decide_true, decide_false, Int.toNat_natCast, Nat.zero_add, Nat.reduceAdd, beq_self_eq_true, Bool.and_true, Bool.true_and, if_true, Bool.false_eq_true, if_false, List.set_cons_zero, List.set_cons_succ, Bool.not_true, Bool.not_false, Bool.and_self]
        cases hv : visB l k q
        · simp only [cond_false]
          rw [ih (i + 1) k out (by omega) (by omega)]
          simp
        · simp only [cond_true]
          rw [if_pos (by simp only [room, List.length_cons, List.length_nil]; omega), ih (i + 1) k _ (by omega) (by simp only [List.length_append, List.length_cons, List.length_nil]; omega)]
          simp [pr]
      simp only [hk']
      by_cases hlast : k = last
      · rw [dT hlast, if_pos (.inl hlast)]
        exact ih2
      · rw [dF hlast]
        show cond (lessS k lo == false) (cond ((!decide (hi = ByteArray.empty)) == true) (cond (!lessS k hi) _ _) _) _ = _
        cases h3 : lessS k lo
        rotate_left
        · have hin : inB lo hi k = false := by unfold inB; rw [h3]; rfl
          rw [if_pos (.inr hin)]
          exact ih2
        by_cases h4 : hi = .empty
        · have hin : inB lo hi k = true := by unfold inB; rw [h3, dT h4]; rfl
          rw [dT h4]
          exact st3 hin hlast
        · rw [dF h4]
          cases h5 : lessS k hi
          · have hin : inB lo hi k = false := by unfold inB; rw [h3, dF h4, h5]; rfl
            rw [if_pos (.inr hin)]
            exact ih2
          · have hin : inB lo hi k = true := by unfold inB; rw [h3, dF h4, h5]; rfl
            exact st3 hin hlast
  have := key l.length 0 .empty [] (by omega) (by simp)
  rw [List.drop_zero, scan_spec lo hi q hr, List.nil_append] at this
  exact this
theorem tx_len (ks : List ByteArray) : (tx ks).length = ks.length := List.length_map ..
theorem bSh_on {R : Type} {sh : Sh} {a : AV} {K : AV → Option R} (h : okSh sh a = true) : bSh sh (some a) K = K a := if_pos h
theorem impl_scan {l : List AV} (h : Rw (T62 1048576) 1048576 l) (lo hi : ByteArray) (q : Int) (hr : runOk l = true) : dno E 64 [(.imm 5 l), (.s lo), (.s hi), (.i .i64 q)] [] = some (.sl 0 [] none, [.live true false false 99 (scanned l lo hi q)]) := by
  have hl := h.1
  have hp : Rw (T62 1048576) 1048576 (l.filter ptB) := ⟨Nat.le_trans (List.length_filter_le _ _) hl, fun y hy => h.2 y (List.mem_filter.1 hy).1⟩
  have hne : ∀ x, x ∈ (l.filter ptB).map ky → x ≠ .empty := fun x hx => run_ne hr ((List.Sublist.map ky List.filter_sublist).subset hx)
  rw [f64o1_eq, impl_parted h]
  rw [bSh_on (by rfl)]
  show bSh (.sl 9 1) (den E 115 [(.imm 5 (l.filter ptB))] []) _ = _
  rw [impl_keys hp hne]
  simp only [bSh_sl, AV.toL]
  have hn : (dl .empty ((l.filter ptB).map ky)).length ≤ 1048576 := Nat.le_trans (dl_len _ _) (by rw [List.length_map]; exact hp.1)
  unfold scanned
  generalize dl .empty ((l.filter ptB).map ky) = ks at hn ⊢
  rw [tx_len]
  have key : ∀ (d i : Nat) (out : List AV), i + d = ks.length → out.length ≤ i → f64o1_l1 l lo hi q (tx ks) ((ks.length : Nat) : Int) i [] out = some (.sl 0 [] none, [.live true false false 99 (out ++ ((ks.drop i).filter fun k => inB lo hi k && visB l k q).map (pr l q))]) := by
    intro d
    induction d with
    | zero =>
      intro i out h1 h2
      rw [f64o1_l1_eq, dF (show ¬ (i : Int) < ((ks.length : Nat) : Int) by omega), cond_false, List.drop_eq_nil_of_le (by omega)]
      simp
    | succ d ih =>
      intro i out h1 h2
      have hi' : i < ks.length := by omega
      have hdr : ks.drop i = ks.getD i .empty :: ks.drop (i + 1) := by
        rw [List.drop_eq_getElem_cons hi']
        simp [List.getD_eq_getElem?_getD, hi']
      have e2 : ∀ o : List AV, f64o1_j2 l lo hi q (tx ks) ((ks.length : Nat) : Int) i [] o = f64o1_l1 l lo hi q (tx ks) ((ks.length : Nat) : Int) ((i + 1 : Nat) : Int) [] o := fun o => by
        rw [f64o1_j2_eq, w64 (x := (i : Int) + 1) (by omega) (by omega)]; rfl
      have ih2 := ih (i + 1) out (by omega) (by omega)
      rw [f64o1_l1_eq, dT (show (i : Int) < ((ks.length : Nat) : Int) by omega), cond_true, if_pos (by rw [tx_len]; omega), hdr, List.filter_cons]
      simp only [Int.toNat_natCast, tx_getD hi', e2]
      refine (if_pos (by rfl)).trans ?_
      generalize ks.getD i .empty = k
      have st3 : inB lo hi k = true → f64o1_j3 l lo hi q k (tx ks) ((ks.length : Nat) : Int) i [] out = some (.sl 0 [] none, [.live true false false 99 (out ++ ((if (inB lo hi k && visB l k q) = true then k :: (ks.drop (i + 1)).filter (fun k => inB lo hi k && visB l k q) else (ks.drop (i + 1)).filter fun k => inB lo hi k && visB l k q).map (pr l q)))]) := fun hin => by
        rw [f64o1_j3_eq, impl_vis h]
        simp only [e2, okC_nil, okC_agg, okC_i, okC_b, okC_s, okC_imm, okL_i, okL_b, okL_s, okL_sl, okS_i, okS_b, okS_s, okS_sl, okS_agg, okS_tup, okS_nil, okS_cons, cells_agg, cells_i, cells_b, cells_s, cells_imm, toI_i, toB_b, toS_s, toL_imm, nth_agg, nth_tup, put_agg, put_i, put_b, put_s, put_imm, setCells, List.getD_cons_zero, List.getD_cons_succ, bSh_b, bSh_i, bSh_s, bSh_sl, bSh_some, cond_true, cond_false, decide_true, decide_false, Int.toNat_natCast, Nat.zero_add, Nat.reduceAdd, beq_self_eq_true, Bool.and_true, Bool.true_and, if_true, Bool.false_eq_true, if_false, List.set_cons_zero, List.set_cons_succ, Bool.not_true, Bool.not_false, Bool.and_self]
        cases hv : visB l k q
        · simp only [cond_false]
          rw [ih2]
          simp
        · simp only [cond_true]
          rw [if_pos (by simp only [room, List.length_cons, List.length_nil]; omega), ih (i + 1) _ (by omega) (by simp only [List.length_append, List.length_cons, List.length_nil]; omega)]
          simp [hin, pr]
      show cond (lessS k lo == false) (cond ((!decide (hi = ByteArray.empty)) == true) (cond (!lessS k hi) _ _) _) _ = _
      cases h3 : lessS k lo
      rotate_left
      · have hin : inB lo hi k = false := by unfold inB; rw [h3]; rfl
        rw [hin]
        exact ih2
      by_cases h4 : hi = .empty
      · have hin : inB lo hi k = true := by unfold inB; rw [h3, dT h4]; rfl
        rw [dT h4]
        exact st3 hin
      · rw [dF h4]
        cases h5 : lessS k hi
        · have hin : inB lo hi k = false := by unfold inB; rw [h3, dF h4, h5]; rfl
          rw [hin]
          exact ih2
        · have hin : inB lo hi k = true := by unfold inB; rw [h3, dF h4, h5]; rfl
          exact st3 hin
  have := key ks.length 0 [] (by omega) (by simp)
  rw [List.drop_zero, List.nil_append] at this
  exact this
theorem scanned_T {l : List AV} (h : Rw (T62 1048576) 1048576 l) (lo hi : ByteArray) (q : Int) : Rw (T99 1048576) 1048576 (scanned l lo hi q) := by
  refine ⟨?_, fun y hy => ?_⟩
  · unfold scanned
    rw [List.length_map]
    have h1 := List.length_filter_le (fun k => inB lo hi k && visB l k q) (dl .empty ((l.filter ptB).map ky))
    have h2 := dl_len .empty ((l.filter ptB).map ky)
    have h3 := List.length_filter_le ptB l
    have h4 := h.1
    rw [List.length_map] at h2
    omega
  · obtain ⟨k, hk, rfl⟩ := List.mem_map.1 hy
    have hk2 := dl_sub (List.mem_filter.1 hk).1
    obtain ⟨el, hel, rfl⟩ := List.mem_map.1 hk2
    obtain ⟨a0, a1, a2, a3, a4, rfl, g0, _⟩ := h.2 el (List.mem_filter.1 hel).1
    have hN := newest_T h a0 q l.length (Nat.le_refl _)
    obtain ⟨b0, b1, b2, b3, b4, e, _, _, _, g3, _⟩ := hN
    refine ⟨a0, visV l a0 q, rfl, g0, ?_, trivial⟩
    unfold visV
    rw [e]
    exact g3


/-! Marks that are texts. -/
theorem text_ok : ∀ (n : Nat) (k : Int) (s : ByteArray), k.toNat ≤ n → 0 ≤ k → k ≤ 1099511627776 → (s.size : Int) + k ≤ 2199023255552 → ∃ r, f67_l1 k s = some (.s r) := by
  intro n
  induction n with
  | zero =>
    intro k s h1 h2 h3 h4
    have : k = 0 := by omega
    subst this
    have h5 : ({ data := #[109] } : ByteArray).size + s.size ≤ 9223372036854775807 := by
      have : ({ data := #[109] } : ByteArray).size = 1 := rfl
      rw [this]; omega
    rw [f67_l1_eq, dF (Int.lt_irrefl _), cond_false, if_pos h5]
    exact ⟨_, rfl⟩
  | succ n ih =>
    intro k s h1 h2 h3 h4
    by_cases hk : k = 0
    · subst hk
      exact ih 0 s (by omega) (by omega) (by omega) h4
    have hd : k.tdiv 10 = k / 10 := Int.tdiv_eq_ediv_of_nonneg h2
    have hsz : ∀ y0 : AV, (bytesOf [y0]).size = 1 := fun y0 => rfl
    have hu : ([(.i .u8 (IntKind.u8.wrap (IntKind.i64.wrap ((48 : Int) + (k.tmod (10 : Int))))))] : List AV).all isU8 = true := rfl
    rw [f67_l1_eq, dT (show (0 : Int) < k by omega), cond_true, if_pos hu, hd, w64 (x := k / 10) (by omega) (by omega), if_pos (by rw [hsz]; omega)]
    refine ih (k / 10) _ (by omega) (by omega) (by omega) ?_
    rw [ByteArray.size_append, hsz]
    omega
noncomputable def mt (k : Int) : ByteArray := match den E 67 [(.i .i64 k)] [] with
  | some (.s r) => r
  | _ => .empty
theorem mt_ok {k : Int} (h0 : 0 < k) (h1 : k ≤ 1099511627776) : den E 67 [(.i .i64 k)] [] = some (.s (mt k)) := by
  have : ∃ r, den E 67 [(.i .i64 k)] [] = some (.s r) := by
    rw [f67_eq, dF (show ¬ k ≤ 0 by omega), cond_false]
    refine text_ok k.toNat k _ (Nat.le_refl _) (by omega) h1 ?_
    have : ({ data := #[] } : ByteArray).size = 0 := rfl
    rw [this]; omega
  obtain ⟨r, hr⟩ := this
  unfold mt
  rw [hr]


/-! Rows of Record: copied, marked, looked at again. -/
noncomputable def mkRecord (x : Int) : AV := (.agg [(.s (mt x)), (.i .i64 (x + 1)), (.i .i64 ((x + 1) + 1)), (.s (mt (((x + 1) + 1) + 1))), (.s (mt ((((x + 1) + 1) + 1) + 1)))])
theorem own_Record {l : List AV} (h : Rw (T62 1048576) 1048576 l) : dno E 17 [(.imm 5 l)] [] = some (.sl 0 [] none, [.live true false false 66 l]) := by
  have hl := h.1
  rw [f17o1_eq, if_pos (by simp only [room]; omega), Int.toNat_natCast]
  refine fill_loop (L := fun i ys => f17o1_l1 l i [] ys) (xs := l) (ys0 := List.replicate l.length (.agg [(.s .empty), (.i .i64 (0 : Int)), (.i .i64 (0 : Int)), (.s .empty), (.s .empty)])) (F := fun ys => some (.sl 0 [] none, [.live true false false 66 ys])) (by simp) (fun i ys hi hy hz => ?_) ?_
  · have hT := h.at hi
    have ht := to34 hT
    have hz' : ys.getD i .x = (.agg [(.s .empty), (.i .i64 (0 : Int)), (.i .i64 (0 : Int)), (.s .empty), (.s .empty)]) := by rw [hz]; simp [List.getD_eq_getElem?_getD, hi]
    try dsimp only
    rw [f17o1_l1_eq, dT (show (i : Int) < ((l.length : Nat) : Int) by omega), cond_true, if_pos (by omega), w64 (x := (i : Int) + 1) (by omega) (by omega)]
    simp only [Int.toNat_natCast, Nat.zero_add, hT.ok, hT.eta, if_true, hz', ht]
    obtain ⟨a0, a1, a2, a3, a4, he, _⟩ := hT
    rw [he]
    simp only [okC_nil, okC_agg, okC_i, okC_b, okC_s, okC_imm, okL_i, okL_b, okL_s, okL_sl, okS_i, okS_b, okS_s, okS_sl, okS_agg, okS_tup, okS_nil, okS_cons, cells_agg, cells_i, cells_b, cells_s, cells_imm, toI_i, toB_b, toS_s, toL_imm, nth_agg, nth_tup, put_agg, put_i, put_b, put_s, put_imm, setCells, List.getD_cons_zero, List.getD_cons_succ, bSh_b, bSh_i, bSh_s, bSh_sl, bSh_some, cond_true, cond_false, decide_true, decide_false, Int.toNat_natCast, Nat.zero_add, Nat.reduceAdd, beq_self_eq_true, Bool.and_true, Bool.true_and, if_true, Bool.false_eq_true, if_false, List.set_cons_zero, List.set_cons_succ, Bool.not_true, Bool.not_false, Bool.and_self]
    rw [if_pos (by omega)]
  · try dsimp only
    rw [f17o1_l1_eq, dF (Int.lt_irrefl _), cond_false]
theorem mark_Record {l : List AV} (h : Rw (T62 1048576) 1048576 l) (k : Int) (hk : 0 < k) (hk2 : k ≤ 549755813888) : dno E 21 [(.sl 0 [] none), (.i .i64 k)] [(.live true false false 66 l)] =
    some (.i .i64 (k + 5 * ((l.length : Nat) : Int)), [.live true false false 66 (mkL l.length fun i => mkRecord (k + 5 * (i : Int)))]) := by
  have hl := h.1
  rw [f21o1_eq]
  have := fill_loop (L := fun i ys => f21o1_l1 (k + 5 * i) i ys) (xs := mkL l.length fun i => mkRecord (k + 5 * (i : Int))) (ys0 := l) (F := fun ys => some (AV.i .i64 (k + 5 * ((l.length : Nat) : Int)), [.live true false false 66 ys])) (by rw [mkL_length]) (fun i r hi hr hz => ?_) ?_
  · simpa using this
  · rw [mkL_length] at hi hr
    obtain ⟨a0, a1, a2, a3, a4, he, _⟩ := h.at hi
    have hge : r.getD i .x = _ := hz.trans he
    have hgs : ∀ y, (r.set i y).getD i .x = y := fun y => by
      rw [List.getD_eq_getElem?_getD, List.getElem?_set_self (by omega)]; rfl
    generalize hx : k + 5 * (i : Int) = x
    have hnext : (((((x + 1) + 1) + 1) + 1) + 1) = k + 5 * ((i : Int) + 1) := by omega
    have g1 : (0 : Int) ≤ (i : Int) := by omega
    have g2 : (i : Int) < ((r.length : Nat) : Int) := by omega
    have w1 : IntKind.i64.wrap (x + 1) = (x + 1) := w64 (by omega) (by omega)
    have w2 : IntKind.i64.wrap ((x + 1) + 1) = ((x + 1) + 1) := w64 (by omega) (by omega)
    have w3 : IntKind.i64.wrap (((x + 1) + 1) + 1) = (((x + 1) + 1) + 1) := w64 (by omega) (by omega)
    have w4 : IntKind.i64.wrap ((((x + 1) + 1) + 1) + 1) = ((((x + 1) + 1) + 1) + 1) := w64 (by omega) (by omega)
    have w5 : IntKind.i64.wrap (((((x + 1) + 1) + 1) + 1) + 1) = (((((x + 1) + 1) + 1) + 1) + 1) := w64 (by omega) (by omega)
    have m0 := mt_ok (k := x) (by omega) (by omega)
    have m3 := mt_ok (k := (((x + 1) + 1) + 1)) (by omega) (by omega)
    have m4 := mt_ok (k := ((((x + 1) + 1) + 1) + 1)) (by omega) (by omega)
    try dsimp only
    rw [f21o1_l1_eq, dT g2, cond_true, w64 (x := (i : Int) + 1) (by omega) (by omega)]
    simp only [Int.toNat_natCast, Nat.zero_add, putAt, hge, hgs, List.set_set, List.length_set, g1, g2, and_self, w1, w2, w3, w4, w5, m0, m3, m4, okC_nil, okC_agg, okC_i, okC_b, okC_s, okC_imm, okL_i, okL_b, okL_s, okL_sl, okS_i, okS_b, okS_s, okS_sl, okS_agg, okS_tup, okS_nil, okS_cons, cells_agg, cells_i, cells_b, cells_s, cells_imm, toI_i, toB_b, toS_s, toL_imm, nth_agg, nth_tup, put_agg, put_i, put_b, put_s, put_imm, setCells, List.getD_cons_zero, List.getD_cons_succ, bSh_b, bSh_i, bSh_s, bSh_sl, bSh_some, cond_true, cond_false, decide_true, decide_false, Int.toNat_natCast, Nat.zero_add, Nat.reduceAdd, beq_self_eq_true, Bool.and_true, Bool.true_and, if_true, Bool.false_eq_true, if_false, List.set_cons_zero, List.set_cons_succ, Bool.not_true, Bool.not_false, Bool.and_self]
    rw [hnext, mkL_getD hi, hx]
    rfl
  · rw [mkL_length]
    try dsimp only
    rw [f21o1_l1_eq, dF (by rw [mkL_length]; omega), cond_false]


/-! Rows of Pair: copied, marked, looked at again. -/
noncomputable def mkPair (x : Int) : AV := (.agg [(.s (mt x)), (.s (mt (x + 1)))])
theorem flat_Pair {B C : Nat} {l : List AV} (h : Rw (T99 B) C l) : flatVL l = true := flatVL_of fun y hy => by
  obtain ⟨a0, a1, rfl, _⟩ := h.2 y hy; rfl
theorem mark_Pair {l : List AV} (h : Rw (T99 1048576) 1048576 l) (k : Int) (hk : 0 < k) (hk2 : k ≤ 549755813888) : dno E 22 [(.sl 0 [] none), (.i .i64 k)] [(.live true false false 99 l)] =
    some (.i .i64 (k + 2 * ((l.length : Nat) : Int)), [.live true false false 99 (mkL l.length fun i => mkPair (k + 2 * (i : Int)))]) := by
  have hl := h.1
  rw [f22o1_eq]
  have := fill_loop (L := fun i ys => f22o1_l1 (k + 2 * i) i ys) (xs := mkL l.length fun i => mkPair (k + 2 * (i : Int))) (ys0 := l) (F := fun ys => some (AV.i .i64 (k + 2 * ((l.length : Nat) : Int)), [.live true false false 99 ys])) (by rw [mkL_length]) (fun i r hi hr hz => ?_) ?_
  · simpa using this
  · rw [mkL_length] at hi hr
    obtain ⟨a0, a1, he, _⟩ := h.at hi
    have hge : r.getD i .x = _ := hz.trans he
    have hgs : ∀ y, (r.set i y).getD i .x = y := fun y => by
      rw [List.getD_eq_getElem?_getD, List.getElem?_set_self (by omega)]; rfl
    generalize hx : k + 2 * (i : Int) = x
    have hnext : ((x + 1) + 1) = k + 2 * ((i : Int) + 1) := by omega
    have g1 : (0 : Int) ≤ (i : Int) := by omega
    have g2 : (i : Int) < ((r.length : Nat) : Int) := by omega
    have w1 : IntKind.i64.wrap (x + 1) = (x + 1) := w64 (by omega) (by omega)
    have w2 : IntKind.i64.wrap ((x + 1) + 1) = ((x + 1) + 1) := w64 (by omega) (by omega)
    have m0 := mt_ok (k := x) (by omega) (by omega)
    have m1 := mt_ok (k := (x + 1)) (by omega) (by omega)
    try dsimp only
    rw [f22o1_l1_eq, dT g2, cond_true, w64 (x := (i : Int) + 1) (by omega) (by omega)]
    simp only [Int.toNat_natCast, Nat.zero_add, putAt, hge, hgs, List.set_set, List.length_set, g1, g2, and_self, w1, w2, m0, m1, okC_nil, okC_agg, okC_i, okC_b, okC_s, okC_imm, okL_i, okL_b, okL_s, okL_sl, okS_i, okS_b, okS_s, okS_sl, okS_agg, okS_tup, okS_nil, okS_cons, cells_agg, cells_i, cells_b, cells_s, cells_imm, toI_i, toB_b, toS_s, toL_imm, nth_agg, nth_tup, put_agg, put_i, put_b, put_s, put_imm, setCells, List.getD_cons_zero, List.getD_cons_succ, bSh_b, bSh_i, bSh_s, bSh_sl, bSh_some, cond_true, cond_false, decide_true, decide_false, Int.toNat_natCast, Nat.zero_add, Nat.reduceAdd, beq_self_eq_true, Bool.and_true, Bool.true_and, if_true, Bool.false_eq_true, if_false, List.set_cons_zero, List.set_cons_succ, Bool.not_true, Bool.not_false, Bool.and_self]
    rw [hnext, mkL_getD hi, hx]
    rfl
  · rw [mkL_length]
    try dsimp only
    rw [f22o1_l1_eq, dF (by rw [mkL_length]; omega), cond_false]
theorem held_Pair (n : Nat) (hn : n ≤ 1048576) (k : Int) (hk : 0 < k) (hk2 : k ≤ 549755813888) : den E 23 [(.imm 2 (mkL n fun i => mkPair (k + 2 * (i : Int)))), (.i .i64 k)] [] = some (.i .i64 (k + 2 * (n : Int))) := by
  rw [f23_eq]
  have := loop_to (R := AV) (L := fun i => f23_l1 (mkL n fun i => mkPair (k + 2 * (i : Int))) (k + 2 * i) i) (n := n) (X := some (.i .i64 (k + 2 * (n : Int)))) (fun i hi => ?_) ?_
  · simpa using this
  · generalize hx : k + 2 * (i : Int) = x
    have hg : (mkL n fun i => mkPair (k + 2 * (i : Int))).getD i .x = (.agg [(.s (mt x)), (.s (mt (x + 1)))]) := by rw [mkL_getD hi, hx]; rfl
    have hnext : ((x + 1) + 1) = k + 2 * ((i : Int) + 1) := by omega
    have g1 : (0 : Int) ≤ (i : Int) := by omega
    have g2 : (i : Int) < (n : Int) := by omega
    have w1 : IntKind.i64.wrap (x + 1) = (x + 1) := w64 (by omega) (by omega)
    have w2 : IntKind.i64.wrap ((x + 1) + 1) = ((x + 1) + 1) := w64 (by omega) (by omega)
    have m0 := mt_ok (k := x) (by omega) (by omega)
    have m1 := mt_ok (k := (x + 1)) (by omega) (by omega)
    try dsimp only
    rw [f23_l1_eq, mkL_length, dT g2, cond_true, w64 (x := (i : Int) + 1) (by omega) (by omega)]
    simp only [Int.toNat_natCast, hg, g1, g2, and_self, w1, w2, m0, m1, okC_nil, okC_agg, okC_i, okC_b, okC_s, okC_imm, okL_i, okL_b, okL_s, okL_sl, okS_i, okS_b, okS_s, okS_sl, okS_agg, okS_tup, okS_nil, okS_cons, cells_agg, cells_i, cells_b, cells_s, cells_imm, toI_i, toB_b, toS_s, toL_imm, nth_agg, nth_tup, put_agg, put_i, put_b, put_s, put_imm, setCells, List.getD_cons_zero, List.getD_cons_succ, bSh_b, bSh_i, bSh_s, bSh_sl, bSh_some, cond_true, cond_false, decide_true, decide_false, Int.toNat_natCast, Nat.zero_add, Nat.reduceAdd, beq_self_eq_true, Bool.and_true, Bool.true_and, if_true, Bool.false_eq_true, if_false, List.set_cons_zero, List.set_cons_succ, Bool.not_true, Bool.not_false, Bool.and_self]
    rw [hnext]
  · try dsimp only
    rw [f23_l1_eq, mkL_length, dF (Int.lt_irrefl _), cond_false]


/-- What both answer. -/
theorem scans {l : List AV} (h : Rw (T62 1048576) 1048576 l) (q : Int) : ∃ w : List AV, Rw (T99 1048576) 1048576 w ∧ dno E 24 [(.imm 5 l), (.i .i64 q)] [] = some (.sl 0 [] none, [.live true false false 99 w]) ∧
    dno E 25 [(.imm 5 l), (.i .i64 q)] [] = some (.sl 0 [] none, [.live true false false 99 w]) := by
  have hb : ((decide (({ data := #[] } : ByteArray) = .empty) || keyOk ({ data := #[] } : ByteArray)) && (decide (({ data := #[] } : ByteArray) = .empty) || (keyOk ({ data := #[] } : ByteArray) && lessS ({ data := #[] } : ByteArray) ({ data := #[] } : ByteArray)))) = true := by
    rw [dT (show ({ data := #[] } : ByteArray) = .empty from rfl)]; rfl
  rw [f24o1_eq, f25o1_eq, f18o1_eq, spec_run h, impl_run h, impl_bounds, hb]
  simp only [bSh_b, toB_b]
  cases hr : runOk l
  · exact ⟨[], ⟨by simp, fun _ h => by cases h⟩, rfl, rfl⟩
  simp only [Bool.not_true, beq_self_eq_true, cond_true, cond_false]
  rw [spec_scan h _ _ q hr, impl_scan h _ _ q hr]
  have hT := scanned_T h ({ data := #[] } : ByteArray) ({ data := #[] } : ByteArray) q
  have hf := flat_Pair hT
  exact ⟨_, hT, by simp only [bOwn_some, bOwnF_some, bOwnS_some, bOwnFS_some, okRs_nil, okRs_cons, okR_row, okR_same, okR_var, okR_gone, okS_so, okS_pr, okLens_nil, okLens_same, okLens_row, okLens_var, row_live, flatR_live, flatL_nil, flatL_cons, flat_i, flat_b, flat_s, flat_sl, flat_agg, flat_tup, List.all_cons, List.all_nil, List.length_cons, List.length_nil, Nat.reduceLeDiff, Nat.le_refl, decide_true, Bool.and_self, mkL_length, List.headD_cons, okC_nil, okC_agg, okC_i, okC_b, okC_s, okC_imm, okL_i, okL_b, okL_s, okL_sl, okS_i, okS_b, okS_s, okS_sl, okS_agg, okS_tup, okS_nil, okS_cons, cells_agg, cells_i, cells_b, cells_s, cells_imm, toI_i, toB_b, toS_s, toL_imm, nth_agg, nth_tup, put_agg, put_i, put_b, put_s, put_imm, setCells, List.getD_cons_zero, List.getD_cons_succ, bSh_b, bSh_i, bSh_s, bSh_sl, bSh_some, cond_true, cond_false, decide_true, decide_false, Int.toNat_natCast, Nat.zero_add, Nat.reduceAdd, beq_self_eq_true, Bool.and_true, Bool.true_and, if_true, Bool.false_eq_true, if_false, List.set_cons_zero, List.set_cons_succ, Bool.not_true, Bool.not_false, Bool.and_self], by simp only [bOwn_some, bOwnF_some, bOwnS_some, bOwnFS_some, okRs_nil, okRs_cons, okR_row, okR_same, okR_var, okR_gone, okS_so, okS_pr, okLens_nil, okLens_same, okLens_row, okLens_var, row_live, flatR_live, flatL_nil, flatL_cons, flat_i, flat_b, flat_s, flat_sl, flat_agg, flat_tup, List.all_cons, List.all_nil, List.length_cons, List.length_nil, Nat.reduceLeDiff, Nat.le_refl, decide_true, Bool.and_self, mkL_length, List.headD_cons, okC_nil, okC_agg, okC_i, okC_b, okC_s, okC_imm, okL_i, okL_b, okL_s, okL_sl, okS_i, okS_b, okS_s, okS_sl, okS_agg, okS_tup, okS_nil, okS_cons, cells_agg, cells_i, cells_b, cells_s, cells_imm, toI_i, toB_b, toS_s, toL_imm, nth_agg, nth_tup, put_agg, put_i, put_b, put_s, put_imm, setCells, List.getD_cons_zero, List.getD_cons_succ, bSh_b, bSh_i, bSh_s, bSh_sl, bSh_some, cond_true, cond_false, decide_true, decide_false, Int.toNat_natCast, Nat.zero_add, Nat.reduceAdd, beq_self_eq_true, Bool.and_true, Bool.true_and, if_true, Bool.false_eq_true, if_false, List.set_cons_zero, List.set_cons_succ, Bool.not_true, Bool.not_false, Bool.and_self]⟩

theorem pure (l : List AV) (h : Rw (T62 9223372036854775807) 9223372036854775807 l) (q : Int) (_ : W64 q) : den E 5 [(.imm 5 l), (.i .i64 q)] [] = some (.b true) := by
  obtain ⟨t, ht, hq⟩ := sz15 h 1048576 (by omega) (by omega)
  rw [f5_eq, ht]
  simp only [bSh_i, toI_i]
  rcases hq with hq | ⟨h0, h1, hT⟩
  · simp only [hq, decide_true, cond_true]
  have hn : ¬ t < 0 := by omega
  simp only [hn, decide_false, cond_false]
  obtain ⟨w, hw, s1, s2⟩ := scans hT q
  have hwl := hw.1
  have hl := hT.1
  have e0 := own_Record hT
  have q0 := eq20 hT
  have q1 := eq19 hw
  have m0 := mark_Record hT 1 (by omega) (by omega)
  have m1 := mark_Pair hw 1 (by omega) (by omega)
  have g1 := held_Pair w.length hwl 1 (by omega) (by omega)
  have k0 : ¬ 1 + 5 * ((l.length : Nat) : Int) < 0 := by omega
  have k1 : ¬ 1 + 2 * ((w.length : Nat) : Int) < 0 := by omega
  have f0 := flat_Pair hw
  simp only [e0, s1, s2, q0, q1, m0, m1, g1, k0, k1, f0, AV.off, AV.cnt, List.drop_zero, bOwn_some, bOwnF_some, bOwnS_some, bOwnFS_some, okRs_nil, okRs_cons, okR_row, okR_same, okR_var, okR_gone, okS_so, okS_pr, okLens_nil, okLens_same, okLens_row, okLens_var, row_live, flatR_live, flatL_nil, flatL_cons, flat_i, flat_b, flat_s, flat_sl, flat_agg, flat_tup, List.all_cons, List.all_nil, List.length_cons, List.length_nil, Nat.reduceLeDiff, Nat.le_refl, decide_true, Bool.and_self, mkL_length, List.headD_cons, okC_nil, okC_agg, okC_i, okC_b, okC_s, okC_imm, okL_i, okL_b, okL_s, okL_sl, okS_i, okS_b, okS_s, okS_sl, okS_agg, okS_tup, okS_nil, okS_cons, cells_agg, cells_i, cells_b, cells_s, cells_imm, toI_i, toB_b, toS_s, toL_imm, nth_agg, nth_tup, put_agg, put_i, put_b, put_s, put_imm, setCells, List.getD_cons_zero, List.getD_cons_succ, bSh_b, bSh_i, bSh_s, bSh_sl, bSh_some, cond_true, cond_false, decide_true, decide_false, Int.toNat_natCast, Nat.zero_add, Nat.reduceAdd, beq_self_eq_true, Bool.and_true, Bool.true_and, if_true, Bool.false_eq_true, if_false, List.set_cons_zero, List.set_cons_succ, Bool.not_true, Bool.not_false, Bool.and_self]
end Go.Proofs.Ytokpbjbngnlepaa.IVisibleAt
