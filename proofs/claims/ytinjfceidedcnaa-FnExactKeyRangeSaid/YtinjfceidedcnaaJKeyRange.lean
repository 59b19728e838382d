/- KeyRange: the program's answer is the reference's, for every list of records. No condition beyond what each theorem states. -/
import Derived.Test.YtinjfceidedcnaaIKeyRangef
import Derived.Test.YtinjfceidedcnaaItMk
namespace Go.Proofs.Ytinjfceidedcnaa.IKeyRange
open Go Go.Proofs.YtinjfceidedcnaaIT
set_option linter.unusedSimpArgs false

theorem in90 (a lo hi : Int) : den E 103 [(.i .i64 a), (.i .i64 lo), (.i .i64 hi)] [] = some (.b (decide (lo ≤ a) && decide (a ≤ hi))) := by
  rw [f103_eq, beq_true, cond_andb]
theorem in72 (a lo hi : Int) : den E 99 [(.i .i64 a), (.i .i64 lo), (.i .i64 hi)] [] = some (.b (decide (lo ≤ a) && decide (a ≤ hi))) := by
  rw [f99_eq, beq_true, cond_andb]


theorem cb_lt : ∀ x y : List UInt8, (Lib.compareBytes x y < 0 ↔ Op.bytesLess x y = true)
  | [], [] => by simp [Lib.compareBytes, Op.bytesLess]
  | [], _ :: _ => by simp [Lib.compareBytes, Op.bytesLess]
  | _ :: _, [] => by simp [Lib.compareBytes, Op.bytesLess]
  | a :: x, b :: y => by
    have ih := cb_lt x y
    simp only [Lib.compareBytes, Op.bytesLess]
    by_cases h1 : a < b
    · simp [h1]
    · by_cases h2 : b < a
      · have h3 : ¬ a = b := by rintro rfl; exact absurd h2 h1
        simp [h1, h2, h3]
      · have h3 : a = b := by
          apply UInt8.toNat_inj.1
          have p1 : ¬ a.toNat < b.toNat := fun h => h1 (UInt8.lt_iff_toNat_lt.2 h)
          have p2 : ¬ b.toNat < a.toNat := fun h => h2 (UInt8.lt_iff_toNat_lt.2 h)
          omega
        simp [h1, h2, h3, ih]
theorem cmpB_lt (a b : ByteArray) : cmpB a b < 0 ↔ lessS a b = true := by
  unfold cmpB lessS
  rw [Lib.toList_data, Lib.toList_data]
  exact cb_lt _ _
theorem cmp_int (a b : Int) : den E 153 [(.i .i64 a), (.i .i64 b)] [] = some (.i .i64 (if a < b then -1 else if b < a then 1 else 0)) := by
  rw [f153_eq, f176_eq, f176_eq]
  simp only [okC_nil, okC_agg, okC_i, okC_b, okC_s, okC_imm, okL_i, okL_b, okL_s, okL_sl, okS_i, okS_b, okS_s, okS_sl, okS_agg, okS_tup, okS_nil, okS_cons, cells_agg, cells_i, cells_b, cells_s, cells_imm, toI_i, toB_b, toS_s, toL_imm, nth_agg, nth_tup, put_agg, put_i, put_b, put_s, put_imm, setCells, List.getD_cons_zero, List.getD_cons_succ, bSh_b, bSh_i, bSh_s, bSh_sl, bSh_some, cond_true, cond_false, decide_true, decide_false, Int.toNat_natCast, Nat.zero_add, Nat.reduceAdd, beq_self_eq_true, Bool.and_true, Bool.true_and, if_true, Bool.false_eq_true, if_false, List.set_cons_zero, List.set_cons_succ, Bool.not_true, Bool.not_false, Bool.and_self]
  by_cases h : a < b
  · simp [h]
  · by_cases h2 : b < a
    · simp [h, h2]
    · simp [h, h2]
theorem cmp_or2 (p q : Int) : den E 151 [(.imm 1 [(.i .i64 p), (.i .i64 q)])] [] = some (.i .i64 (if p = 0 then q else p)) := by
  have e0 : f151_l1 0 [(.i .i64 p), (.i .i64 q)] 2 2 = some (.i .i64 0) := by rw [f151_l1_eq]; rfl
  have w1 : IntKind.i64.wrap 1 = 1 := by decide
  have w2 : IntKind.i64.wrap 2 = 2 := by decide
  rw [f151_eq]
  show f151_l1 0 [(.i .i64 p), (.i .i64 q)] 2 0 = _
  rw [f151_l1_eq]
  simp [okC_nil, okC_agg, okC_i, okC_b, okC_s, okC_imm, okL_i, okL_b, okL_s, okL_sl, okS_i, okS_b, okS_s, okS_sl, okS_agg, okS_tup, okS_nil, okS_cons, cells_agg, cells_i, cells_b, cells_s, cells_imm, toI_i, toB_b, toS_s, toL_imm, nth_agg, nth_tup, put_agg, put_i, put_b, put_s, put_imm, setCells, List.getD_cons_zero, List.getD_cons_succ, bSh_b, bSh_i, bSh_s, bSh_sl, bSh_some, cond_true, cond_false, decide_true, decide_false, Int.toNat_natCast, Nat.zero_add, Nat.reduceAdd, beq_self_eq_true, Bool.and_true, Bool.true_and, if_true, Bool.false_eq_true, if_false, List.set_cons_zero, List.set_cons_succ, Bool.not_true, Bool.not_false, Bool.and_self, w1]
  by_cases h : p = 0
  · simp only [h, if_true]
    rw [f151_l1_eq]
    simp [okC_nil, okC_agg, okC_i, okC_b, okC_s, okC_imm, okL_i, okL_b, okL_s, okL_sl, okS_i, okS_b, okS_s, okS_sl, okS_agg, okS_tup, okS_nil, okS_cons, cells_agg, cells_i, cells_b, cells_s, cells_imm, toI_i, toB_b, toS_s, toL_imm, nth_agg, nth_tup, put_agg, put_i, put_b, put_s, put_imm, setCells, List.getD_cons_zero, List.getD_cons_succ, bSh_b, bSh_i, bSh_s, bSh_sl, bSh_some, cond_true, cond_false, decide_true, decide_false, Int.toNat_natCast, Nat.zero_add, Nat.reduceAdd, beq_self_eq_true, Bool.and_true, Bool.true_and, if_true, Bool.false_eq_true, if_false, List.set_cons_zero, List.set_cons_succ, Bool.not_true, Bool.not_false, Bool.and_self, w2, e0]
    by_cases h2 : q = 0
    · subst h h2; simp [e0]
    · simp [h2]
  · simp [h]


theorem cb_eq : ∀ x y : List UInt8, (Lib.compareBytes x y = 0 ↔ x = y)
  | [], [] => by simp [Lib.compareBytes]
  | [], _ :: _ => by simp [Lib.compareBytes]
  | _ :: _, [] => by simp [Lib.compareBytes]
  | a :: x, b :: y => by
    have ih := cb_eq x y
    simp only [Lib.compareBytes]
    by_cases h1 : a < b
    · have h3 : ¬ a = b := by rintro rfl; exact absurd h1 (by simp [UInt8.lt_iff_toNat_lt])
      simp [h1, h3]
    · by_cases h2 : b < a
      · have h3 : ¬ a = b := by rintro rfl; exact absurd h2 h1
        simp [h1, h2, h3]
      · have h3 : a = b := by
          apply UInt8.toNat_inj.1
          have p1 : ¬ a.toNat < b.toNat := fun h => h1 (UInt8.lt_iff_toNat_lt.2 h)
          have p2 : ¬ b.toNat < a.toNat := fun h => h2 (UInt8.lt_iff_toNat_lt.2 h)
          omega
        subst h3
        simp [h1, ih]
theorem toList_inj {a b : ByteArray} (h : a.toList = b.toList) : a = b := by
  rw [Lib.toList_data, Lib.toList_data] at h
  exact ByteArray.ext (Array.toList_inj.mp h)
theorem cmpB_eq (a b : ByteArray) : cmpB a b = 0 ↔ a = b := by
  unfold cmpB
  rw [cb_eq]
  constructor
  · intro h; exact ByteArray.ext (Array.toList_inj.mp h)
  · rintro rfl; rfl
theorem bl_tri : ∀ x y : List UInt8, Op.bytesLess x y = !(Op.bytesLess y x || decide (y = x))
  | [], [] => by simp [Op.bytesLess]
  | [], _ :: _ => by simp [Op.bytesLess]
  | _ :: _, [] => by simp [Op.bytesLess]
  | a :: x, b :: y => by
    have ih := bl_tri x y
    simp only [Op.bytesLess]
    by_cases h1 : a < b
    · have h3 : ¬ a = b := by rintro rfl; exact absurd h1 (by simp [UInt8.lt_iff_toNat_lt])
      have h4 : ¬ b < a := fun h => by
        have p1 := UInt8.lt_iff_toNat_lt.1 h1
        have p2 := UInt8.lt_iff_toNat_lt.1 h
        omega
      have h5 : ¬ b = a := fun h => h3 h.symm
      simp [h1, h4, h5]
    · by_cases h2 : b < a
      · have h3 : ¬ a = b := by rintro rfl; exact absurd h2 h1
        simp [h1, h2, h3]
      · have h3 : a = b := by
          apply UInt8.toNat_inj.1
          have p1 : ¬ a.toNat < b.toNat := fun h => h1 (UInt8.lt_iff_toNat_lt.2 h)
          have p2 : ¬ b.toNat < a.toNat := fun h => h2 (UInt8.lt_iff_toNat_lt.2 h)
          omega
        subst h3
        simp [h1, ih]
theorem less_tri (a b : ByteArray) {i : Decidable (b = a)} : (!(lessS b a || @decide (b = a) i)) = lessS a b := by
  unfold lessS
  rw [bl_tri a.toList b.toList]
  by_cases h : b = a
  · subst h; simp
  · have h2 : ¬ b.toList = a.toList := fun g => h (toList_inj g)
    simp [h, h2]
theorem less_irr (a : ByteArray) : lessS a a = false := by
  have := less_tri a a (i := inferInstance)
  simp at this
  exact this


/-! A record is valid. -/
def keyOk (k : ByteArray) : Bool := decide ((1 : Int) ≤ ((k.size : Nat) : Int)) && decide (((k.size : Nat) : Int) ≤ 8)
def okRec (k : ByteArray) (q kd : Int) (v e : ByteArray) : Bool :=
  keyOk k && ((decide (1 ≤ q) && decide (q ≤ 1000000)) && cond (decide (kd = 1)) (decide (((v.size : Nat) : Int) ≤ 16) && decide (e = ({ data := #[] } : ByteArray)))
    (cond (decide (kd = 2)) (decide (v = ({ data := #[] } : ByteArray)) && decide (e = ({ data := #[] } : ByteArray)))
      (cond (decide (kd = 3)) (decide (v = ({ data := #[] } : ByteArray)) && (keyOk e && lessS k e)) false)))
abbrev ky (el : AV) : ByteArray := (el.cells.getD 0 .x).toS
abbrev sq (el : AV) : Int := (el.cells.getD 1 .x).toI
abbrev kd (el : AV) : Int := (el.cells.getD 2 .x).toI
abbrev vl (el : AV) : ByteArray := (el.cells.getD 3 .x).toS
abbrev en (el : AV) : ByteArray := (el.cells.getD 4 .x).toS
def okR (el : AV) : Bool := okRec (ky el) (sq el) (kd el) (vl el) (en el)
theorem spec_key (k : ByteArray) : den E 55 [(.s k)] [] = some (.b (keyOk k)) := by
  rw [f55_eq, beq_true, cond_andb]; rfl
theorem impl_key (k : ByteArray) : den E 57 [(.s k)] [] = some (.b (keyOk k)) := by
  rw [f57_eq, in72, bSh_b]; rfl
theorem spec_rec {B : Nat} {el : AV} (h : T53 B el) : den E 72 [el] [] = some (.b (okR el)) := by
  obtain ⟨a0, a1, a2, a3, a4, rfl, _⟩ := h
  rw [f72_eq]
  simp only [spec_key, in90, okR, ky, sq, kd, vl, en, okRec, okC_nil, okC_agg, okC_i, okC_b, okC_s, okC_imm, okL_i, okL_b, okL_s, okL_sl, okS_i, okS_b, okS_s, okS_sl, okS_agg, okS_tup, okS_nil, okS_cons, cells_agg, cells_i, cells_b, cells_s, cells_imm, toI_i, toB_b, toS_s, toL_imm, nth_agg, nth_tup, put_agg, put_i, put_b, put_s, put_imm, setCells, List.getD_cons_zero, List.getD_cons_succ, bSh_b, bSh_i, bSh_s, bSh_sl, bSh_some, cond_true, cond_false, decide_true, decide_false, Int.toNat_natCast, Nat.zero_add, Nat.reduceAdd, beq_self_eq_true, Bool.and_true, Bool.true_and, if_true, Bool.false_eq_true, if_false, List.set_cons_zero, List.set_cons_succ, Bool.not_true, Bool.not_false, Bool.and_self]
  cases keyOk a0
  · rfl
  cases (decide (1 ≤ a1) && decide (a1 ≤ 1000000))
  · rfl
  simp only [Bool.not_true, Bool.true_and, cond_false]
  cases decide (a2 = 1) <;> cases decide (a2 = 2) <;> cases decide (a2 = 3) <;> cases decide (((a3.size : Nat) : Int) ≤ 16) <;> cases decide (a3 = ({ data := #[] } : ByteArray)) <;> cases keyOk a4 <;> rfl
theorem impl_rec {B : Nat} {el : AV} (h : T53 B el) : den E 75 [el] [] = some (.b (okR el)) := by
  obtain ⟨a0, a1, a2, a3, a4, rfl, _⟩ := h
  rw [f75_eq]
  simp only [impl_key, in72, less_tri, okR, ky, sq, kd, vl, en, okRec, okC_nil, okC_agg, okC_i, okC_b, okC_s, okC_imm, okL_i, okL_b, okL_s, okL_sl, okS_i, okS_b, okS_s, okS_sl, okS_agg, okS_tup, okS_nil, okS_cons, cells_agg, cells_i, cells_b, cells_s, cells_imm, toI_i, toB_b, toS_s, toL_imm, nth_agg, nth_tup, put_agg, put_i, put_b, put_s, put_imm, setCells, List.getD_cons_zero, List.getD_cons_succ, bSh_b, bSh_i, bSh_s, bSh_sl, bSh_some, cond_true, cond_false, decide_true, decide_false, Int.toNat_natCast, Nat.zero_add, Nat.reduceAdd, beq_self_eq_true, Bool.and_true, Bool.true_and, if_true, Bool.false_eq_true, if_false, List.set_cons_zero, List.set_cons_succ, Bool.not_true, Bool.not_false, Bool.and_self]
  cases keyOk a0
  · rfl
  cases (decide (1 ≤ a1) && decide (a1 ≤ 1000000))
  · rfl
  simp only [Bool.not_true, Bool.true_and, cond_false]
  cases decide (a2 = 1) <;> cases decide (a2 = 2) <;> cases decide (a2 = 3) <;> cases decide (((a3.size : Nat) : Int) ≤ 16) <;> cases decide (a3 = ({ data := #[] } : ByteArray)) <;> cases keyOk a4 <;> rfl

/-! The internal order. -/
noncomputable def lessR (a b : AV) : Bool :=
  cond (decide (ky a = ky b)) (cond (decide (sq a = sq b)) (cond (decide (kd a = kd b)) (cond (decide (vl a = vl b)) (lessS (en a) (en b)) (lessS (vl a) (vl b))) (decide (kd a < kd b))) (decide (sq b < sq a))) (lessS (ky a) (ky b))
theorem spec_less {B C : Nat} {a b : AV} (h : T53 B a) (g : T53 C b) : den E 97 [a, b] [] = some (.b (lessR a b)) := by
  obtain ⟨a0, a1, a2, a3, a4, rfl, _⟩ := h
  obtain ⟨b0, b1, b2, b3, b4, rfl, _⟩ := g
  rw [f97_eq]
  simp only [lessR, ky, sq, kd, vl, en, okC_nil, okC_agg, okC_i, okC_b, okC_s, okC_imm, okL_i, okL_b, okL_s, okL_sl, okS_i, okS_b, okS_s, okS_sl, okS_agg, okS_tup, okS_nil, okS_cons, cells_agg, cells_i, cells_b, cells_s, cells_imm, toI_i, toB_b, toS_s, toL_imm, nth_agg, nth_tup, put_agg, put_i, put_b, put_s, put_imm, setCells, List.getD_cons_zero, List.getD_cons_succ, bSh_b, bSh_i, bSh_s, bSh_sl, bSh_some, cond_true, cond_false, decide_true, decide_false, Int.toNat_natCast, Nat.zero_add, Nat.reduceAdd, beq_self_eq_true, Bool.and_true, Bool.true_and, if_true, Bool.false_eq_true, if_false, List.set_cons_zero, List.set_cons_succ, Bool.not_true, Bool.not_false, Bool.and_self]
  cases decide (a0 = b0) <;> cases decide (a1 = b1) <;> cases decide (a2 = b2) <;> cases decide (a3 = b3) <;> rfl
theorem or_step {l : List AV} (k : Nat) (i j n : Int) {x : Int} (hk : i = (k : Int)) (hj : j = i + 1) (hn : n = ((l.length : Nat) : Int)) (hl : l.length ≤ 100) (hi : k < l.length) (hx : l.getD k .x = .i .i64 x) : f151_l1 0 l n i = cond (decide (x = 0)) (f151_l1 0 l n j) (some (.i .i64 x)) := by
  subst hk hn hj
  rw [f151_l1_eq, dT (show (k : Int) < ((l.length : Nat) : Int) by omega), cond_true, if_pos (by omega), Int.toNat_natCast, hx, if_pos (by rfl), w64 (x := (k : Int) + 1) (by omega) (by omega)]
  simp only [okC_nil, okC_agg, okC_i, okC_b, okC_s, okC_imm, okL_i, okL_b, okL_s, okL_sl, okS_i, okS_b, okS_s, okS_sl, okS_agg, okS_tup, okS_nil, okS_cons, cells_agg, cells_i, cells_b, cells_s, cells_imm, toI_i, toB_b, toS_s, toL_imm, nth_agg, nth_tup, put_agg, put_i, put_b, put_s, put_imm, setCells, List.getD_cons_zero, List.getD_cons_succ, bSh_b, bSh_i, bSh_s, bSh_sl, bSh_some, cond_true, cond_false, decide_true, decide_false, Int.toNat_natCast, Nat.zero_add, Nat.reduceAdd, beq_self_eq_true, Bool.and_true, Bool.true_and, if_true, Bool.false_eq_true, if_false, List.set_cons_zero, List.set_cons_succ, Bool.not_true, Bool.not_false, Bool.and_self]
  cases decide (x = 0) <;> rfl
theorem or_last {l : List AV} (n : Int) : f151_l1 0 l n n = some (.i .i64 0) := by
  rw [f151_l1_eq, dF (Int.lt_irrefl _), cond_false]
theorem cmp_or5 (p q r s t : Int) : den E 151 [(.imm 1 [(.i .i64 p), (.i .i64 q), (.i .i64 r), (.i .i64 s), (.i .i64 t)])] [] =
    some (.i .i64 (cond (decide (p = 0)) (cond (decide (q = 0)) (cond (decide (r = 0)) (cond (decide (s = 0)) t s) r) q) p)) := by
  rw [f151_eq]
  generalize hl : ([(.i .i64 p), (.i .i64 q), (.i .i64 r), (.i .i64 s), (.i .i64 t)] : List AV) = l
  have hn : l.length = 5 := by rw [← hl]; rfl
  rw [hn, show ((5 : Nat) : Int) = 5 from rfl]
  rw [or_step 0 0 1 5 (x := p) rfl rfl (by rw [hn]; rfl) (by omega) (by omega) (by rw [← hl]; rfl), or_step 1 1 2 5 (x := q) rfl rfl (by rw [hn]; rfl) (by omega) (by omega) (by rw [← hl]; rfl),
    or_step 2 2 3 5 (x := r) rfl rfl (by rw [hn]; rfl) (by omega) (by omega) (by rw [← hl]; rfl), or_step 3 3 4 5 (x := s) rfl rfl (by rw [hn]; rfl) (by omega) (by omega) (by rw [← hl]; rfl),
    or_step 4 4 5 5 (x := t) rfl rfl (by rw [hn]; rfl) (by omega) (by omega) (by rw [← hl]; rfl), or_last]
  by_cases h1 : p = 0
  · by_cases h2 : q = 0
    · by_cases h3 : r = 0
      · by_cases h4 : s = 0
        · by_cases h5 : t = 0
          · subst h1 h2 h3 h4 h5; rfl
          · subst h1 h2 h3 h4; simp [h5]
        · subst h1 h2 h3; simp [h4]
      · subst h1 h2; simp [h3]
    · subst h1; simp [h2]
  · simp [h1]
noncomputable def cmpI3 (a b : Int) : Int := if a < b then -1 else if b < a then 1 else 0
theorem cmpI3_eq (a b : Int) : cmpI3 a b = 0 ↔ a = b := by
  unfold cmpI3
  split
  · omega
  · split <;> omega
theorem cmpI3_lt (a b : Int) : cmpI3 a b < 0 ↔ a < b := by
  unfold cmpI3
  split
  · omega
  · split <;> omega
noncomputable def cmpR (a b : AV) : Int := cond (decide (ky a = ky b)) (cond (decide (sq b = sq a)) (cond (decide (kd a = kd b)) (cond (decide (vl a = vl b)) (cmpB (en a) (en b)) (cmpB (vl a) (vl b))) (cmpI3 (kd a) (kd b))) (cmpI3 (sq b) (sq a))) (cmpB (ky a) (ky b))
theorem impl_cmp {B C : Nat} {a b : AV} (h : T53 B a) (g : T53 C b) : den E 121 [a, b] [] = some (.i .i64 (cmpR a b)) := by
  obtain ⟨a0, a1, a2, a3, a4, rfl, _⟩ := h
  obtain ⟨b0, b1, b2, b3, b4, rfl, _⟩ := g
  rw [f121_eq]
  simp only [cmp_int, f152_eq, f175_eq, cmp_or5, cmpR, ky, sq, kd, vl, en, okC_nil, okC_agg, okC_i, okC_b, okC_s, okC_imm, okL_i, okL_b, okL_s, okL_sl, okS_i, okS_b, okS_s, okS_sl, okS_agg, okS_tup, okS_nil, okS_cons, cells_agg, cells_i, cells_b, cells_s, cells_imm, toI_i, toB_b, toS_s, toL_imm, nth_agg, nth_tup, put_agg, put_i, put_b, put_s, put_imm, setCells, List.getD_cons_zero, List.getD_cons_succ, bSh_b, bSh_i, bSh_s, bSh_sl, bSh_some, cond_true, cond_false, decide_true, decide_false, Int.toNat_natCast, Nat.zero_add, Nat.reduceAdd, beq_self_eq_true, Bool.and_true, Bool.true_and, if_true, Bool.false_eq_true, if_false, List.set_cons_zero, List.set_cons_succ, Bool.not_true, Bool.not_false, Bool.and_self]
  have e1 : ∀ x y : Int, (if x < y then (-1 : Int) else if y < x then 1 else 0) = cmpI3 x y := fun _ _ => rfl
  simp only [e1, cmpB_eq, cmpI3_eq]
theorem cmpR_lt0 (a b : AV) : decide (cmpR a b < 0) = lessR a b := by
  unfold cmpR lessR
  have e1 : decide (sq b = sq a) = decide (sq a = sq b) := by
    by_cases h : sq a = sq b
    · simp [h]
    · have : ¬ sq b = sq a := fun g => h g.symm
      simp [h, this]
  rw [e1]
  cases decide (ky a = ky b) <;> cases decide (sq a = sq b) <;> cases decide (kd a = kd b) <;> cases decide (vl a = vl b) <;> simp only [cond_true, cond_false, cmpI3_lt, cmpB_lt, Bool.decide_eq_true]
theorem impl_less {B C : Nat} {a b : AV} (h : T53 B a) (g : T53 C b) : den E 95 [a, b] [] = some (.b (lessR a b)) := by
  have e := impl_cmp h g
  obtain ⟨a0, a1, a2, a3, a4, rfl, _⟩ := h
  obtain ⟨b0, b1, b2, b3, b4, rfl, _⟩ := g
  rw [f95_eq, e, bSh_i]
  exact congrArg (fun b => some (AV.b b)) (cmpR_lt0 _ _)


/-! A run is valid. -/
noncomputable def runP (l : List AV) (i : Nat) : Bool := okR (l.getD i .x) && ((decide (i = 0) || lessR (l.getD (i - 1) .x) (l.getD i .x)) && (List.range' 0 i).all fun k => !decide (sq (l.getD k .x) = sq (l.getD i .x)))
noncomputable def runOk (l : List AV) : Bool := (List.range' 0 l.length).all (runP l)
theorem spec_run {l : List AV} (h : Rw (T53 1048576) 1048576 l) : den E 54 [(.imm 5 l)] [] = some (.b (runOk l)) := by
  have hl := h.1
  rw [f54_eq]
  have := all_loop (L := fun i => f54_l1 l i) (n := l.length) (p := runP l) (X := some (.b true)) (F := some (.b false)) (fun i hi => ?_) ?_ l.length 0 (by omega)
  · refine this.trans ?_
    rw [cond_andb, Bool.and_true]; rfl
  · have hT := h.at hi
    have inner := all_loop (L := fun k => f54_l3 l (i : Int) k) (n := i) (p := fun k => !decide (sq (l.getD k .x) = sq (l.getD i .x))) (X := f54_l1 l ((i : Int) + 1)) (F := some (.b false)) (fun k hk => ?_) ?_ i 0 (by omega)
    · try dsimp only
      rw [f54_l1_eq, dT (show (i : Int) < ((l.length : Nat) : Int) by omega), cond_true, if_pos (by omega), Int.toNat_natCast, hT.ok, if_pos rfl, hT.eta, spec_rec hT, bSh_b]
      unfold runP
      simp only [toB_b]
      cases okR (l.getD i .x)
      · rfl
      simp only [Bool.not_true, Bool.true_and, beq_self_eq_true, cond_true]
      have j2 : f54_j2 l (i : Int) = cond ((List.range' 0 i).all fun k => !decide (sq (l.getD k .x) = sq (l.getD i .x))) (f54_l1 l ((i : Int) + 1)) (some (.b false)) := by
        rw [f54_j2_eq]; exact inner
      rw [j2]
      by_cases h0 : i = 0
      · subst h0
        rfl
      · have hi1 : i - 1 < l.length := by omega
        have hP := h.at hi1
        rw [dT (show (0 : Int) < (i : Int) by omega), w64 (x := (i : Int) - 1) (by omega) (by omega), if_pos (by omega), show ((i : Int) - 1).toNat = i - 1 by omega, hP.ok, if_pos rfl, if_pos (by omega)]
        simp only [if_true]
        rw [hP.eta, spec_less hP hT, bSh_b]
        simp only [h0, decide_false, Bool.false_or, toB_b, beq_self_eq_true, cond_true]
        cases lessR (l.getD (i - 1) .x) (l.getD i .x) <;> rfl
    · have hk2 : k < l.length := by omega
      have hK := h.at hk2
      try dsimp only
      rw [f54_l3_eq, dT (show (k : Int) < (i : Int) by omega), cond_true, if_pos (by omega), Int.toNat_natCast, Int.toNat_natCast, hK.ok1, if_pos rfl, if_pos (by omega), hT.ok1, if_pos rfl, w64 (x := (k : Int) + 1) (by omega) (by omega)]
      unfold sq
      cases decide (((l.getD k .x).cells.getD 1 .x).toI = ((l.getD i .x).cells.getD 1 .x).toI) <;> rfl
    · try dsimp only
      rw [f54_l3_eq, dF (Int.lt_irrefl _), cond_false, w64 (x := (i : Int) + 1) (by omega) (by omega)]
  · try dsimp only
    rw [f54_l1_eq, dF (Int.lt_irrefl _), cond_false]

noncomputable def ksOf (l : List AV) (i : Nat) : List AV := (l.take i).map fun el => .i .i64 (sq el)
theorem ksOf_succ {l : List AV} {i : Nat} (hi : i < l.length) : ksOf l (i + 1) = ksOf l i ++ [.i .i64 (sq (l.getD i .x))] := by
  unfold ksOf
  rw [take_getD hi, List.map_append]; rfl
theorem hasI_ks {l : List AV} (n : Int) : ∀ {i : Nat}, i ≤ l.length → hasI (ksOf l i) n = !(List.range' 0 i).all fun k => !decide (sq (l.getD k .x) = n)
  | 0, _ => rfl
  | i + 1, h => by
    have ih := hasI_ks (l := l) n (show i ≤ l.length by omega)
    rw [ksOf_succ (show i < l.length by omega)]
    unfold hasI at ih ⊢
    rw [List.any_append, ih, List.range'_1_concat, List.all_append]
    simp only [List.any_cons, List.any_nil, List.all_cons, List.all_nil, Bool.or_false, Bool.and_true, Nat.zero_add, Bool.not_and, Bool.not_not]
    rfl
theorem impl_run {l : List AV} (h : Rw (T53 1048576) 1048576 l) : den E 51 [(.imm 5 l)] [] = some (.b (runOk l)) := by
  have hl := h.1
  rw [f51_eq]
  have := all_loop (L := fun i => f51_l1 l l ((l.length : Nat) : Int) i (ksOf l i.toNat)) (n := l.length) (p := runP l) (X := some (.b true)) (F := some (.b false)) (fun i hi => ?_) ?_ l.length 0 (by omega)
  · refine this.trans ?_
    rw [cond_andb, Bool.and_true]; rfl
  · have hT := h.at hi
    try dsimp only
    rw [Int.toNat_natCast, show ((i : Int) + 1).toNat = i + 1 by omega, ksOf_succ hi]
    rw [f51_l1_eq, dT (show (i : Int) < ((l.length : Nat) : Int) by omega), cond_true, if_pos (by omega), Int.toNat_natCast, hT.ok, if_pos rfl, hT.eta, impl_rec hT, bSh_b]
    unfold runP
    simp only [toB_b, f51_j2_eq]
    rw [w64 (x := (i : Int) + 1) (by omega) (by omega)]
    cases okR (l.getD i .x)
    · rfl
    rw [show ((l.getD i .x).cells.getD 1 .x).toI = sq (l.getD i .x) from rfl, hasI_ks _ (Nat.le_of_lt hi)]
    cases (List.range' 0 i).all fun k => !decide (sq (l.getD k .x) = sq (l.getD i .x))
    · cases (decide (i = 0) || lessR (l.getD (i - 1) .x) (l.getD i .x)) <;> rfl
    simp only [Bool.not_true, Bool.not_false, Bool.true_and, Bool.and_true, beq_self_eq_true, cond_true]
    by_cases h0 : i = 0
    · subst h0
      rfl
    · have hi1 : i - 1 < l.length := by omega
      have hP := h.at hi1
      rw [dT (show (0 : Int) < (i : Int) by omega), w64 (x := (i : Int) - 1) (by omega) (by omega), if_pos (by omega), show ((i : Int) - 1).toNat = i - 1 by omega, hP.ok, if_pos rfl, hP.eta, impl_less hP hT, bSh_b]
      simp only [h0, decide_false, Bool.false_or, toB_b, beq_self_eq_true, cond_true]
      cases lessR (l.getD (i - 1) .x) (l.getD i .x) <;> rfl
  · try dsimp only
    rw [f51_l1_eq, dF (Int.lt_irrefl _), cond_false]


/-! The range of a run's keys. -/
def upper (el : AV) : ByteArray := cond (decide (kd el = 3)) (en el) (ky el ++ ({ data := #[0] } : ByteArray))
theorem spec_high {el : AV} (h : T53 1048576 el) : den E 94 [el] [] = some (.s (upper el)) := by
  obtain ⟨a0, a1, a2, a3, a4, rfl, w0, _⟩ := h
  have hs : ({ data := #[0] } : ByteArray).size = 1 := rfl
  rw [f94_eq, if_pos (by omega)]
  simp only [upper, kd, en, ky, okC_nil, okC_agg, okC_i, okC_b, okC_s, okC_imm, okL_i, okL_b, okL_s, okL_sl, okS_i, okS_b, okS_s, okS_sl, okS_agg, okS_tup, okS_nil, okS_cons, cells_agg, cells_i, cells_b, cells_s, cells_imm, toI_i, toB_b, toS_s, toL_imm, nth_agg, nth_tup, put_agg, put_i, put_b, put_s, put_imm, setCells, List.getD_cons_zero, List.getD_cons_succ, bSh_b, bSh_i, bSh_s, bSh_sl, bSh_some, cond_true, cond_false, decide_true, decide_false, Int.toNat_natCast, Nat.zero_add, Nat.reduceAdd, beq_self_eq_true, Bool.and_true, Bool.true_and, if_true, Bool.false_eq_true, if_false, List.set_cons_zero, List.set_cons_succ, Bool.not_true, Bool.not_false, Bool.and_self]
  cases decide (a2 = 3) <;> rfl
theorem impl_high {el : AV} (h : T53 1048576 el) : den E 96 [el] [] = some (.s (upper el)) := by
  obtain ⟨a0, a1, a2, a3, a4, rfl, w0, _⟩ := h
  have hs : ({ data := #[0] } : ByteArray).size = 1 := rfl
  rw [f96_eq, if_pos (by omega), f110_eq]
  simp only [upper, kd, en, ky, okC_nil, okC_agg, okC_i, okC_b, okC_s, okC_imm, okL_i, okL_b, okL_s, okL_sl, okS_i, okS_b, okS_s, okS_sl, okS_agg, okS_tup, okS_nil, okS_cons, cells_agg, cells_i, cells_b, cells_s, cells_imm, toI_i, toB_b, toS_s, toL_imm, nth_agg, nth_tup, put_agg, put_i, put_b, put_s, put_imm, setCells, List.getD_cons_zero, List.getD_cons_succ, bSh_b, bSh_i, bSh_s, bSh_sl, bSh_some, cond_true, cond_false, decide_true, decide_false, Int.toNat_natCast, Nat.zero_add, Nat.reduceAdd, beq_self_eq_true, Bool.and_true, Bool.true_and, if_true, Bool.false_eq_true, if_false, List.set_cons_zero, List.set_cons_succ, Bool.not_true, Bool.not_false, Bool.and_self]
  cases decide (a2 = 3) <;> rfl
noncomputable def high (l : List AV) : Nat → ByteArray
  | 0 => ({ data := #[] } : ByteArray)
  | i + 1 => cond (!lessS (high l i) (upper (l.getD i .x))) (high l i) (upper (l.getD i .x))
theorem spec_kr {l : List AV} (h : Rw (T53 1048576) 1048576 l) (h0 : 0 < l.length) : den E 50 [(.imm 5 l)] [] = some (.tup [(.s (ky (l.getD 0 .x))), (.s (high l l.length))]) := by
  have hl := h.1
  have h00 := h.at h0
  rw [f50_eq]
  have := loop_to (R := AV) (L := fun i => f50_l1 l (high l i.toNat) i) (n := l.length) (X := some (.tup [(.s (ky (l.getD 0 .x))), (.s (high l l.length))])) (fun i hi => ?_) ?_
  · exact this
  · have hT := h.at hi
    try dsimp only
    rw [f50_l1_eq, dT (show (i : Int) < ((l.length : Nat) : Int) by omega), cond_true, if_pos (by omega), Int.toNat_natCast, hT.ok, if_pos rfl, hT.eta, spec_high hT, bSh_s, less_tri]
    simp only [toS_s, f50_j2_eq, show ((i : Int) + 1).toNat = i + 1 by omega]
    rw [w64 (x := (i : Int) + 1) (by omega) (by omega)]
    simp only [high]
    cases lessS (high l i) (upper (l.getD i .x)) <;> rfl
  · try dsimp only
    rw [f50_l1_eq, dF (Int.lt_irrefl _), cond_false, Int.toNat_natCast, if_pos (by omega), show ((0 : Int)).toNat = 0 from rfl, h00.ok0, if_pos rfl]
theorem impl_kr {l : List AV} (h : Rw (T53 1048576) 1048576 l) (h0 : 0 < l.length) : den E 52 [(.imm 5 l)] [] = some (.tup [(.s (ky (l.getD 0 .x))), (.s (high l l.length))]) := by
  have hl := h.1
  have h00 := h.at h0
  rw [f52_eq]
  have := loop_to (R := AV) (L := fun i => f52_l1 l (high l i.toNat) l ((l.length : Nat) : Int) i) (n := l.length) (X := some (.tup [(.s (ky (l.getD 0 .x))), (.s (high l l.length))])) (fun i hi => ?_) ?_
  · exact this
  · have hT := h.at hi
    try dsimp only
    rw [f52_l1_eq, dT (show (i : Int) < ((l.length : Nat) : Int) by omega), cond_true]
    simp only [show (0 : Int) ≤ (i : Int) ∧ (i : Int) < ((l.length : Nat) : Int) by omega, and_self, if_true, Int.toNat_natCast, hT.ok, hT.eta, impl_high hT, bSh_s, toS_s, show ((i : Int) + 1).toNat = i + 1 by omega]
    rw [w64 (x := (i : Int) + 1) (by omega) (by omega)]
    rfl
  · try dsimp only
    rw [f52_l1_eq, dF (Int.lt_irrefl _), cond_false, Int.toNat_natCast, if_pos (by omega), show ((0 : Int)).toNat = 0 from rfl, h00.ok0, if_pos rfl]
/-- What both answer. -/
noncomputable def ans (l : List AV) : AV := cond (!decide (((l.length : Nat) : Int) = 0) && runOk l) (.tup [(.s (ky (l.getD 0 .x))), (.s (high l l.length))]) (.tup [(.s ({ data := #[] } : ByteArray)), (.s ({ data := #[] } : ByteArray))])
theorem spec_ans {l : List AV} (h : Rw (T53 1048576) 1048576 l) : den E 13 [(.imm 5 l)] [] = some (ans l) := by
  rw [f13_eq, f49_eq, spec_run h]
  unfold ans
  by_cases h0 : ((l.length : Nat) : Int) = 0
  · simp only [h0, okC_nil, okC_agg, okC_i, okC_b, okC_s, okC_imm, okL_i, okL_b, okL_s, okL_sl, okS_i, okS_b, okS_s, okS_sl, okS_agg, okS_tup, okS_nil, okS_cons, cells_agg, cells_i, cells_b, cells_s, cells_imm, toI_i, toB_b, toS_s, toL_imm, nth_agg, nth_tup, put_agg, put_i, put_b, put_s, put_imm, setCells, List.getD_cons_zero, List.getD_cons_succ, bSh_b, bSh_i, bSh_s, bSh_sl, bSh_some, cond_true, cond_false, decide_true, decide_false, Int.toNat_natCast, Nat.zero_add, Nat.reduceAdd, beq_self_eq_true, Bool.and_true, Bool.true_and, if_true, Bool.false_eq_true, if_false, List.set_cons_zero, List.set_cons_succ, Bool.not_true, Bool.not_false, Bool.and_self]; rfl
  · rw [spec_kr h (by omega)]
    simp only [h0, okC_nil, okC_agg, okC_i, okC_b, okC_s, okC_imm, okL_i, okL_b, okL_s, okL_sl, okS_i, okS_b, okS_s, okS_sl, okS_agg, okS_tup, okS_nil, okS_cons, cells_agg, cells_i, cells_b, cells_s, cells_imm, toI_i, toB_b, toS_s, toL_imm, nth_agg, nth_tup, put_agg, put_i, put_b, put_s, put_imm, setCells, List.getD_cons_zero, List.getD_cons_succ, bSh_b, bSh_i, bSh_s, bSh_sl, bSh_some, cond_true, cond_false, decide_true, decide_false, Int.toNat_natCast, Nat.zero_add, Nat.reduceAdd, beq_self_eq_true, Bool.and_true, Bool.true_and, if_true, Bool.false_eq_true, if_false, List.set_cons_zero, List.set_cons_succ, Bool.not_true, Bool.not_false, Bool.and_self]
    cases runOk l <;> rfl
theorem impl_ans {l : List AV} (h : Rw (T53 1048576) 1048576 l) : den E 15 [(.imm 5 l)] [] = some (ans l) := by
  rw [f15_eq, impl_run h]
  unfold ans
  by_cases h0 : ((l.length : Nat) : Int) = 0
  · simp only [h0, okC_nil, okC_agg, okC_i, okC_b, okC_s, okC_imm, okL_i, okL_b, okL_s, okL_sl, okS_i, okS_b, okS_s, okS_sl, okS_agg, okS_tup, okS_nil, okS_cons, cells_agg, cells_i, cells_b, cells_s, cells_imm, toI_i, toB_b, toS_s, toL_imm, nth_agg, nth_tup, put_agg, put_i, put_b, put_s, put_imm, setCells, List.getD_cons_zero, List.getD_cons_succ, bSh_b, bSh_i, bSh_s, bSh_sl, bSh_some, cond_true, cond_false, decide_true, decide_false, Int.toNat_natCast, Nat.zero_add, Nat.reduceAdd, beq_self_eq_true, Bool.and_true, Bool.true_and, if_true, Bool.false_eq_true, if_false, List.set_cons_zero, List.set_cons_succ, Bool.not_true, Bool.not_false, Bool.and_self]; rfl
  · rw [impl_kr h (by omega)]
    simp only [h0, okC_nil, okC_agg, okC_i, okC_b, okC_s, okC_imm, okL_i, okL_b, okL_s, okL_sl, okS_i, okS_b, okS_s, okS_sl, okS_agg, okS_tup, okS_nil, okS_cons, cells_agg, cells_i, cells_b, cells_s, cells_imm, toI_i, toB_b, toS_s, toL_imm, nth_agg, nth_tup, put_agg, put_i, put_b, put_s, put_imm, setCells, List.getD_cons_zero, List.getD_cons_succ, bSh_b, bSh_i, bSh_s, bSh_sl, bSh_some, cond_true, cond_false, decide_true, decide_false, Int.toNat_natCast, Nat.zero_add, Nat.reduceAdd, beq_self_eq_true, Bool.and_true, Bool.true_and, if_true, Bool.false_eq_true, if_false, List.set_cons_zero, List.set_cons_succ, Bool.not_true, Bool.not_false, Bool.and_self]
    cases runOk l <;> rfl

theorem pure (l : List AV) (h : Rw (T53 9223372036854775807) 9223372036854775807 l) : den E 3 [(.imm 5 l)] [] = some (.b true) := by
  obtain ⟨t, ht, hq⟩ := sz12 h 1048576 (by omega) (by omega)
  rw [f3_eq, ht]
  simp only [bSh_i, toI_i]
  rcases hq with hq | ⟨h0, h1, hT⟩
  · simp only [hq, decide_true, cond_true]
  have hn : ¬ t < 0 := by omega
  simp only [hn, decide_false, cond_false]
  have e0 := to14 hT
  have q0 := eq16 hT
  have s1 := spec_ans hT
  have s2 := impl_ans hT
  unfold ans at s1 s2
  revert s1 s2
  cases (!decide (((l.length : Nat) : Int) = 0) && runOk l) <;> intro s1 s2 <;> simp only [e0, q0, s1, s2, okC_nil, okC_agg, okC_i, okC_b, okC_s, okC_imm, okL_i, okL_b, okL_s, okL_sl, okS_i, okS_b, okS_s, okS_sl, okS_agg, okS_tup, okS_nil, okS_cons, cells_agg, cells_i, cells_b, cells_s, cells_imm, toI_i, toB_b, toS_s, toL_imm, nth_agg, nth_tup, put_agg, put_i, put_b, put_s, put_imm, setCells, List.getD_cons_zero, List.getD_cons_succ, bSh_b, bSh_i, bSh_s, bSh_sl, bSh_some, cond_true, cond_false, decide_true, decide_false, Int.toNat_natCast, Nat.zero_add, Nat.reduceAdd, beq_self_eq_true, Bool.and_true, Bool.true_and, if_true, Bool.false_eq_true, if_false, List.set_cons_zero, List.set_cons_succ, Bool.not_true, Bool.not_false, Bool.and_self]
end Go.Proofs.Ytinjfceidedcnaa.IKeyRange
