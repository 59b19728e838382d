--#dropmissing
/- ApplyRecord: the program's answer is the reference's, for every state and record. No condition beyond what each theorem states. -/
import Derived.Test.YtkpmplggbbiebaaIApplyRecordf
import Derived.Test.YtkpmplggbbiebaaItMk
namespace Go.Proofs.Ytkpmplggbbiebaa.IApplyRecord
open Go Go.Proofs.YtkpmplggbbiebaaIT
set_option linter.unusedSimpArgs false
set_option linter.unusedVariables false

theorem in90 (a lo hi : Int) : den E 70 [(.i .i64 a), (.i .i64 lo), (.i .i64 hi)] [] = some (.b (decide (lo ≤ a) && decide (a ≤ hi))) := by
  rw [f70_eq, beq_true, cond_andb]
theorem in72 (a lo hi : Int) : den E 79 [(.i .i64 a), (.i .i64 lo), (.i .i64 hi)] [] = some (.b (decide (lo ≤ a) && decide (a ≤ hi))) := by
  rw [f79_eq, beq_true, cond_andb]


theorem cb_lt : ∀ x y : List UInt8, (Lib.compareBytes x y < 0 ↔ Op.bytesLess x y = true)
  | [], [] => by simp [Lib.compareBytes, Op.bytesLess]
  | [], _ :: _ => by simp [Lib.compareBytes, Op.bytesLess]
  | _ :: _, [] => by simp [Lib.compareBytes, Op.bytesLess]
  | a :: x, b :: y => by
    have ih := cb_lt x y
    simp only [Lib.compareBytes, Op.bytesLess]
    by_cases h1 : a < b
    · simp [h1]
    · by_cases h2 : b < a
      · have h3 : ¬ a = b := by rintro rfl; exact absurd h2 h1
        simp [h1, h2, h3]
      · have h3 : a = b := by
          apply UInt8.toNat_inj.1
          have p1 : ¬ a.toNat < b.toNat := fun h => h1 (UInt8.lt_iff_toNat_lt.2 h)
          have p2 : ¬ b.toNat < a.toNat := fun h => h2 (UInt8.lt_iff_toNat_lt.2 h)
          omega
        simp [h1, h2, h3, ih]
theorem cmpB_lt (a b : ByteArray) : cmpB a b < 0 ↔ lessS a b = true := by
  unfold cmpB lessS
  rw [Lib.toList_data, Lib.toList_data]
  exact cb_lt _ _
theorem cb_eq : ∀ x y : List UInt8, (Lib.compareBytes x y = 0 ↔ x = y)
  | [], [] => by simp [Lib.compareBytes]
  | [], _ :: _ => by simp [Lib.compareBytes]
  | _ :: _, [] => by simp [Lib.compareBytes]
  | a :: x, b :: y => by
    have ih := cb_eq x y
    simp only [Lib.compareBytes]
    by_cases h1 : a < b
    · have h3 : ¬ a = b := by rintro rfl; exact absurd h1 (by simp [UInt8.lt_iff_toNat_lt])
      simp [h1, h3]
    · by_cases h2 : b < a
      · have h3 : ¬ a = b := by rintro rfl; exact absurd h2 h1
        simp [h1, h2, h3]
      · have h3 : a = b := by
          apply UInt8.toNat_inj.1
          have p1 : ¬ a.toNat < b.toNat := fun h => h1 (UInt8.lt_iff_toNat_lt.2 h)
          have p2 : ¬ b.toNat < a.toNat := fun h => h2 (UInt8.lt_iff_toNat_lt.2 h)
          omega
        subst h3
        simp [h1, ih]
theorem toList_inj {a b : ByteArray} (h : a.toList = b.toList) : a = b := by
  rw [Lib.toList_data, Lib.toList_data] at h
  exact ByteArray.ext (Array.toList_inj.mp h)
theorem cmpB_eq (a b : ByteArray) : cmpB a b = 0 ↔ a = b := by
  unfold cmpB
  rw [cb_eq]
  constructor
  · intro h; exact ByteArray.ext (Array.toList_inj.mp h)
  · rintro rfl; rfl
theorem bl_tri : ∀ x y : List UInt8, Op.bytesLess x y = !(Op.bytesLess y x || decide (y = x))
  | [], [] => by simp [Op.bytesLess]
  | [], _ :: _ => by simp [Op.bytesLess]
  | _ :: _, [] => by simp [Op.bytesLess]
  | a :: x, b :: y => by
    have ih := bl_tri x y
    simp only [Op.bytesLess]
    by_cases h1 : a < b
    · have h3 : ¬ a = b := by rintro rfl; exact absurd h1 (by simp [UInt8.lt_iff_toNat_lt])
      have h4 : ¬ b < a := fun h => by
        have p1 := UInt8.lt_iff_toNat_lt.1 h1
        have p2 := UInt8.lt_iff_toNat_lt.1 h
        omega
      have h5 : ¬ b = a := fun h => h3 h.symm
      simp [h1, h4, h5]
    · by_cases h2 : b < a
      · have h3 : ¬ a = b := by rintro rfl; exact absurd h2 h1
        simp [h1, h2, h3]
      · have h3 : a = b := by
          apply UInt8.toNat_inj.1
          have p1 : ¬ a.toNat < b.toNat := fun h => h1 (UInt8.lt_iff_toNat_lt.2 h)
          have p2 : ¬ b.toNat < a.toNat := fun h => h2 (UInt8.lt_iff_toNat_lt.2 h)
          omega
        subst h3
        simp [h1, ih]
theorem less_tri (a b : ByteArray) {i : Decidable (b = a)} : (!(lessS b a || @decide (b = a) i)) = lessS a b := by
  unfold lessS
  rw [bl_tri a.toList b.toList]
  by_cases h : b = a
  · subst h; simp
  · have h2 : ¬ b.toList = a.toList := fun g => h (toList_inj g)
    simp [h, h2]
theorem less_irr (a : ByteArray) : lessS a a = false := by
  have := less_tri a a (i := inferInstance)
  simp at this
  exact this


/-! A record is valid. -/
def keyOk (k : ByteArray) : Bool := decide ((1 : Int) ≤ ((k.size : Nat) : Int)) && decide (((k.size : Nat) : Int) ≤ 8)
def okRec (k : ByteArray) (q kd : Int) (v e : ByteArray) : Bool :=
  keyOk k && ((decide (1 ≤ q) && decide (q ≤ 1000000)) && cond (decide (kd = 1)) (decide (((v.size : Nat) : Int) ≤ 16) && decide (e = ({ data := #[] } : ByteArray)))
    (cond (decide (kd = 2)) (decide (v = ({ data := #[] } : ByteArray)) && decide (e = ({ data := #[] } : ByteArray)))
      (cond (decide (kd = 3)) (decide (v = ({ data := #[] } : ByteArray)) && (keyOk e && lessS k e)) false)))
abbrev ky (el : AV) : ByteArray := (el.cells.getD 0 .x).toS
abbrev sq (el : AV) : Int := (el.cells.getD 1 .x).toI
abbrev kd (el : AV) : Int := (el.cells.getD 2 .x).toI
abbrev vl (el : AV) : ByteArray := (el.cells.getD 3 .x).toS
abbrev en (el : AV) : ByteArray := (el.cells.getD 4 .x).toS
def okR (el : AV) : Bool := okRec (ky el) (sq el) (kd el) (vl el) (en el)
theorem spec_key (k : ByteArray) : den E 53 [(.s k)] [] = some (.b (keyOk k)) := by
  rw [f53_eq, beq_true, cond_andb]; rfl
theorem impl_key (k : ByteArray) : den E 57 [(.s k)] [] = some (.b (keyOk k)) := by
  rw [f57_eq, in72, bSh_b]; rfl
theorem spec_rec {B : Nat} {el : AV} (h : T63 B el) : den E 61 [el] [] = some (.b (okR el)) := by
  obtain ⟨a0, a1, a2, a3, a4, rfl, _⟩ := h
  rw [f61_eq]
  simp only [spec_key, in90, okR, ky, sq, kd, vl, en, okRec, okC_nil, okC_agg, okC_i, okC_b, okC_s, okC_imm, okL_i, okL_b, okL_s, okL_sl, okS_i, okS_b, okS_s, okS_sl, okS_agg, okS_tup, okS_nil, okS_cons, cells_agg, cells_i, cells_b, cells_s, cells_imm, toI_i, toB_b, toS_s, toL_imm, nth_agg, nth_tup, put_agg, put_i, put_b, put_s, put_imm, setCells, List.getD_cons_zero, List.getD_cons_succ, bSh_b, bSh_i, bSh_s, bSh_sl, bSh_some, cond_true, cond_false, decide_true, decide_false, Int.toNat_natCast, Nat.zero_add, Nat.reduceAdd, beq_self_eq_true, Bool.and_true, Bool.true_and, if_true, Bool.false_eq_true, if_false, List.set_cons_zero, List.set_cons_succ, Bool.not_true, Bool.not_false, Bool.and_self]
  cases keyOk a0
  · rfl
  cases (decide (1 ≤ a1) && decide (a1 ≤ 1000000))
  · rfl
  simp only [Bool.not_true, Bool.true_and, cond_false]
  cases decide (a2 = 1) <;> cases decide (a2 = 2) <;> cases decide (a2 = 3) <;> cases decide (((a3.size : Nat) : Int) ≤ 16) <;> cases decide (a3 = ({ data := #[] } : ByteArray)) <;> cases keyOk a4 <;> rfl
theorem impl_rec {B : Nat} {el : AV} (h : T63 B el) : den E 65 [el] [] = some (.b (okR el)) := by
  obtain ⟨a0, a1, a2, a3, a4, rfl, _⟩ := h
  rw [f65_eq]
  simp only [impl_key, in72, less_tri, okR, ky, sq, kd, vl, en, okRec, okC_nil, okC_agg, okC_i, okC_b, okC_s, okC_imm, okL_i, okL_b, okL_s, okL_sl, okS_i, okS_b, okS_s, okS_sl, okS_agg, okS_tup, okS_nil, okS_cons, cells_agg, cells_i, cells_b, cells_s, cells_imm, toI_i, toB_b, toS_s, toL_imm, nth_agg, nth_tup, put_agg, put_i, put_b, put_s, put_imm, setCells, List.getD_cons_zero, List.getD_cons_succ, bSh_b, bSh_i, bSh_s, bSh_sl, bSh_some, cond_true, cond_false, decide_true, decide_false, Int.toNat_natCast, Nat.zero_add, Nat.reduceAdd, beq_self_eq_true, Bool.and_true, Bool.true_and, if_true, Bool.false_eq_true, if_false, List.set_cons_zero, List.set_cons_succ, Bool.not_true, Bool.not_false, Bool.and_self]
  cases keyOk a0
  · rfl
  cases (decide (1 ≤ a1) && decide (a1 ≤ 1000000))
  · rfl
  simp only [Bool.not_true, Bool.true_and, cond_false]
  cases decide (a2 = 1) <;> cases decide (a2 = 2) <;> cases decide (a2 = 3) <;> cases decide (((a3.size : Nat) : Int) ≤ 16) <;> cases decide (a3 = ({ data := #[] } : ByteArray)) <;> cases keyOk a4 <;> rfl

/-! The internal order. -/
noncomputable def lessR (a b : AV) : Bool :=
  cond (decide (ky a = ky b)) (cond (decide (sq a = sq b)) (cond (decide (kd a = kd b)) (cond (decide (vl a = vl b)) (lessS (en a) (en b)) (lessS (vl a) (vl b))) (decide (kd a < kd b))) (decide (sq b < sq a))) (lessS (ky a) (ky b))
noncomputable def cmpI3 (a b : Int) : Int := if a < b then -1 else if b < a then 1 else 0
theorem cmpI3_eq (a b : Int) : cmpI3 a b = 0 ↔ a = b := by
  unfold cmpI3
  split
  · omega
  · split <;> omega
theorem cmpI3_lt (a b : Int) : cmpI3 a b < 0 ↔ a < b := by
  unfold cmpI3
  split
  · omega
  · split <;> omega
noncomputable def cmpR (a b : AV) : Int := cond (decide (ky a = ky b)) (cond (decide (sq b = sq a)) (cond (decide (kd a = kd b)) (cond (decide (vl a = vl b)) (cmpB (en a) (en b)) (cmpB (vl a) (vl b))) (cmpI3 (kd a) (kd b))) (cmpI3 (sq b) (sq a))) (cmpB (ky a) (ky b))
theorem cmpR_lt0 (a b : AV) : decide (cmpR a b < 0) = lessR a b := by
  unfold cmpR lessR
  have e1 : decide (sq b = sq a) = decide (sq a = sq b) := by
    by_cases h : sq a = sq b
    · simp [h]
    · have : ¬ sq b = sq a := fun g => h g.symm
      simp [h, this]
  rw [e1]
  cases decide (ky a = ky b) <;> cases decide (sq a = sq b) <;> cases decide (kd a = kd b) <;> cases decide (vl a = vl b) <;> simp only [cond_true, cond_false, cmpI3_lt, cmpB_lt, Bool.decide_eq_true]
/-! Lists that are strictly in order. -/
theorem bl_trans : ∀ x y z : List UInt8, Op.bytesLess x y = true → Op.bytesLess y z = true → Op.bytesLess x z = true
  | _, [], _, h, _ => by cases ‹List UInt8› <;> simp [Op.bytesLess] at h
  | _, _ :: _, [], _, h => by simp [Op.bytesLess] at h
  | [], _ :: _, _ :: _, _, _ => by simp [Op.bytesLess]
  | a :: x, b :: y, c :: z, h1, h2 => by
    have ih := bl_trans x y z
    simp only [Op.bytesLess, Bool.or_eq_true, Bool.and_eq_true, decide_eq_true_eq, beq_iff_eq] at h1 h2 ⊢
    rcases h1 with h1 | ⟨rfl, h1⟩
    · rcases h2 with h2 | ⟨rfl, h2⟩
      · exact .inl (UInt8.lt_iff_toNat_lt.2 (Nat.lt_trans (UInt8.lt_iff_toNat_lt.1 h1) (UInt8.lt_iff_toNat_lt.1 h2)))
      · exact .inl h1
    · rcases h2 with h2 | ⟨rfl, h2⟩
      · exact .inl h2
      · exact .inr ⟨rfl, ih h1 h2⟩
theorem less_trans {a b c : ByteArray} (h1 : lessS a b = true) (h2 : lessS b c = true) : lessS a c = true := bl_trans _ _ _ h1 h2
theorem less_asym {a b : ByteArray} (h1 : lessS a b = true) : lessS b a = false := by
  cases h2 : lessS b a
  · rfl
  · have := less_trans h1 h2
    rw [less_irr] at this
    cases this
theorem less_ne {a b : ByteArray} (h1 : lessS a b = true) : a ≠ b := fun h => by
  subst h
  rw [less_irr] at h1
  cases h1
theorem sorted_eq : ∀ {a b : List ByteArray}, a.Pairwise (fun x y => lessS x y = true) → b.Pairwise (fun x y => lessS x y = true) → (∀ x, x ∈ a ↔ x ∈ b) → a = b
  | [], [], _, _, _ => rfl
  | [], y :: _, _, _, h => by have := (h y).2 (List.mem_cons_self ..); cases this
  | x :: _, [], _, _, h => by have := (h x).1 (List.mem_cons_self ..); cases this
  | x :: a, y :: b, ha, hb, h => by
    obtain ⟨ha1, ha2⟩ := List.pairwise_cons.1 ha
    obtain ⟨hb1, hb2⟩ := List.pairwise_cons.1 hb
    have hxy : x = y := by
      have h1 := (h x).1 (List.mem_cons_self ..)
      have h2 := (h y).2 (List.mem_cons_self ..)
      rcases List.mem_cons.1 h1 with h1 | h1
      · exact h1
      rcases List.mem_cons.1 h2 with h2 | h2
      · exact h2.symm
      have g1 := hb1 x h1
      have g2 := ha1 y h2
      rw [less_asym g1] at g2
      cases g2
    subst hxy
    rw [sorted_eq ha2 hb2 fun z => ?_]
    constructor
    · intro hz
      rcases List.mem_cons.1 ((h z).1 (List.mem_cons_of_mem _ hz)) with g | g
      · exact absurd g.symm (less_ne (ha1 z hz))
      · exact g
    · intro hz
      rcases List.mem_cons.1 ((h z).2 (List.mem_cons_of_mem _ hz)) with g | g
      · exact absurd g.symm (less_ne (hb1 z hz))
      · exact g

/-! A list without what repeats the one before. -/
def dl : ByteArray → List ByteArray → List ByteArray
  | _, [] => []
  | p, k :: t => if k = p then dl p t else k :: dl k t
def leS (a b : ByteArray) : Prop := a = b ∨ lessS a b = true
theorem le_less {a b c : ByteArray} (h : leS a b) (h2 : lessS b c = true) : lessS a c = true := h.elim (fun h => h ▸ h2) fun h => less_trans h h2
theorem less_le {a b c : ByteArray} (h : lessS a b = true) (h2 : leS b c) : lessS a c = true := h2.elim (fun h2 => h2 ▸ h) fun h2 => less_trans h h2
theorem dl_sub : ∀ {p : ByteArray} {t : List ByteArray} {x : ByteArray}, x ∈ dl p t → x ∈ t
  | _, [], _, h => by simp [dl] at h
  | p, k :: t, x, h => by
    simp only [dl] at h
    split at h
    · exact List.mem_cons_of_mem _ (dl_sub h)
    · rcases List.mem_cons.1 h with h | h
      · exact h ▸ List.mem_cons_self ..
      · exact List.mem_cons_of_mem _ (dl_sub h)
theorem dl_mem : ∀ {p : ByteArray} {t : List ByteArray} {x : ByteArray}, x ∈ t → x ≠ p → x ∈ dl p t
  | _, [], _, h, _ => by cases h
  | p, k :: t, x, h, hp => by
    simp only [dl]
    split
    · rename_i hk
      rcases List.mem_cons.1 h with h | h
      · exact absurd (h.trans hk) hp
      · exact dl_mem h hp
    · by_cases hx : x = k
      · exact hx ▸ List.mem_cons_self ..
      · exact List.mem_cons_of_mem _ (dl_mem ((List.mem_cons.1 h).resolve_left hx) hx)
theorem dl_lt : ∀ {p : ByteArray} {t : List ByteArray}, (∀ x, x ∈ t → leS p x) → t.Pairwise leS → (∀ x, x ∈ dl p t → lessS p x = true) ∧ (dl p t).Pairwise fun x y => lessS x y = true
  | _, [], _, _ => ⟨fun _ h => by simp [dl] at h, .nil⟩
  | p, k :: t, hp, hs => by
    obtain ⟨h1, h2⟩ := List.pairwise_cons.1 hs
    simp only [dl]
    split
    · exact dl_lt (fun x hx => hp x (List.mem_cons_of_mem _ hx)) h2
    · rename_i hk
      obtain ⟨g1, g2⟩ := dl_lt (p := k) (t := t) h1 h2
      have hpk : lessS p k = true := (hp k (List.mem_cons_self ..)).resolve_left fun h => hk h.symm
      refine ⟨fun x hx => ?_, List.pairwise_cons.2 ⟨g1, g2⟩⟩
      rcases List.mem_cons.1 hx with hx | hx
      · exact hx ▸ hpk
      · exact less_trans hpk (g1 x hx)
theorem dl_filter {p : ByteArray} {t : List ByteArray} (hp : ∀ x, x ∈ t → lessS p x = true) (hs : t.Pairwise leS) {s : List ByteArray} (hsub : s.Sublist t) (f : ByteArray → Bool) (hf : ∀ x, x ∈ t → f x = true → x ∈ s) : (dl p t).filter f = (dl p s).filter f := by
  have hle : ∀ x, x ∈ t → leS p x := fun x hx => .inr (hp x hx)
  have h1 := dl_lt hle hs
  have h2 := dl_lt (fun x hx => hle x (hsub.subset hx)) (hs.sublist hsub)
  refine sorted_eq (h1.2.sublist List.filter_sublist) (h2.2.sublist List.filter_sublist) fun x => ?_
  simp only [List.mem_filter]
  constructor
  · rintro ⟨g1, g2⟩
    exact ⟨dl_mem (hf x (dl_sub g1) g2) fun h => less_ne (hp x (dl_sub g1)) h.symm, g2⟩
  · rintro ⟨g1, g2⟩
    have g3 := hsub.subset (dl_sub g1)
    exact ⟨dl_mem g3 fun h => less_ne (hp x g3) h.symm, g2⟩
/-- The keys that are taken: the last one taken is left out where it comes again, and so is what does not lie within. -/
def spK (g f : ByteArray → Bool) : ByteArray → List ByteArray → List ByteArray
  | _, [] => []
  | p, k :: t => if k = p ∨ g k = false then spK g f p t else if f k = true then k :: spK g f k t else spK g f k t
theorem spK_dl (g f : ByteArray → Bool) : ∀ {p p' : ByteArray} {t : List ByteArray}, (∀ x, x ∈ t → leS p' x) → t.Pairwise leS → (∀ x, x ∈ t → g x = true → (x = p ↔ x = p')) → spK g f p t = (dl p' t).filter fun x => g x && f x
  | _, _, [], _, _, _ => rfl
  | p, p', k :: t, hp, hs, hg => by
    obtain ⟨h1, h2⟩ := List.pairwise_cons.1 hs
    have hgt := fun x hx => hg x (List.mem_cons_of_mem _ hx)
    have hpt := fun x hx => hp x (List.mem_cons_of_mem _ hx)
    simp only [spK, dl]
    by_cases hk : k = p'
    · have hc : k = p ∨ g k = false := by
        cases h : g k
        · exact .inr rfl
        · exact .inl ((hg k (List.mem_cons_self ..) h).2 hk)
      rw [if_pos hc, if_pos hk]
      exact spK_dl g f hpt h2 hgt
    · have hpk : lessS p' k = true := (hp k (List.mem_cons_self ..)).resolve_left fun h => hk h.symm
      rw [if_neg hk]
      cases h : g k
      · rw [if_pos (.inr rfl), List.filter_cons, if_neg (by simp [h])]
        refine spK_dl g f h1 h2 fun x hx hgx => ?_
        have n1 : x ≠ k := fun e => by rw [e, h] at hgx; cases hgx
        have n2 : x ≠ p' := fun e => less_ne (less_le hpk (h1 x hx)) e.symm
        have n3 : x ≠ p := fun e => n2 ((hgt x hx hgx).1 e)
        exact ⟨fun e => absurd e n3, fun e => absurd e n1⟩
      · have hc : ¬ (k = p ∨ true = false) := fun e => e.elim (fun e => hk ((hg k (List.mem_cons_self ..) h).1 e)) (by simp)
        have ih := spK_dl g f (p := k) (p' := k) h1 h2 fun x _ _ => Iff.rfl
        rw [if_neg hc, List.filter_cons]
        cases hf : f k
        · simp [h, hf, ih]
        · simp [h, hf, ih]


/-! A record affects a key. -/
noncomputable def aff (el : AV) (key : ByteArray) : Bool := cond (decide (kd el = 3)) ((lessS (ky el) key || decide (ky el = key)) && lessS key (en el)) (decide (ky el = key))
theorem spec_aff {B : Nat} {el : AV} (h : T63 B el) (key : ByteArray) : den E 62 [el, (.s key)] [] = some (.b (aff el key)) := by
  obtain ⟨a0, a1, a2, a3, a4, rfl, _⟩ := h
  rw [f62_eq]
  simp only [aff, ky, kd, en, okC_nil, okC_agg, okC_i, okC_b, okC_s, okC_imm, okL_i, okL_b, okL_s, okL_sl, okS_i, okS_b, okS_s, okS_sl, okS_agg, okS_tup, okS_nil, okS_cons, cells_agg, cells_i, cells_b, cells_s, cells_imm, toI_i, toB_b, toS_s, toL_imm, nth_agg, nth_tup, put_agg, put_i, put_b, put_s, put_imm, setCells, List.getD_cons_zero, List.getD_cons_succ, bSh_b, bSh_i, bSh_s, bSh_sl, bSh_some, cond_true, cond_false, decide_true, decide_false, Int.toNat_natCast, Nat.zero_add, Nat.reduceAdd, beq_self_eq_true, Bool.and_true, Bool.true_and, if_true, Bool.false_eq_true, if_false, List.set_cons_zero, List.set_cons_succ, Bool.not_true, Bool.not_false, Bool.and_self]
  cases decide (a2 = 3) <;> cases (lessS a0 key || decide (a0 = key)) <;> rfl
theorem impl_aff {B : Nat} {el : AV} (h : T63 B el) (key : ByteArray) : den E 110 [el, (.s key)] [] = some (.b (aff el key)) := by
  obtain ⟨a0, a1, a2, a3, a4, rfl, _⟩ := h
  rw [f110_eq]
  simp only [aff, ky, kd, en, okC_nil, okC_agg, okC_i, okC_b, okC_s, okC_imm, okL_i, okL_b, okL_s, okL_sl, okS_i, okS_b, okS_s, okS_sl, okS_agg, okS_tup, okS_nil, okS_cons, cells_agg, cells_i, cells_b, cells_s, cells_imm, toI_i, toB_b, toS_s, toL_imm, nth_agg, nth_tup, put_agg, put_i, put_b, put_s, put_imm, setCells, List.getD_cons_zero, List.getD_cons_succ, bSh_b, bSh_i, bSh_s, bSh_sl, bSh_some, cond_true, cond_false, decide_true, decide_false, Int.toNat_natCast, Nat.zero_add, Nat.reduceAdd, beq_self_eq_true, Bool.and_true, Bool.true_and, if_true, Bool.false_eq_true, if_false, List.set_cons_zero, List.set_cons_succ, Bool.not_true, Bool.not_false, Bool.and_self]
  cases decide (a2 = 3) <;> cases (lessS a0 key || decide (a0 = key)) <;> rfl


/-! Marks that are texts. -/
theorem text_ok : ∀ (n : Nat) (k : Int) (s : ByteArray), k.toNat ≤ n → 0 ≤ k → k ≤ 1099511627776 → (s.size : Int) + k ≤ 2199023255552 → ∃ r, f68_l1 k s = some (.s r) := by
  intro n
  induction n with
  | zero =>
    intro k s h1 h2 h3 h4
    have : k = 0 := by omega
    subst this
    have h5 : ({ data := #[109] } : ByteArray).size + s.size ≤ 9223372036854775807 := by
      have : ({ data := #[109] } : ByteArray).size = 1 := rfl
      rw [this]; omega
    rw [f68_l1_eq, dF (Int.lt_irrefl _), cond_false, if_pos h5]
    exact ⟨_, rfl⟩
  | succ n ih =>
    intro k s h1 h2 h3 h4
    by_cases hk : k = 0
    · subst hk
      exact ih 0 s (by omega) (by omega) (by omega) h4
    have hd : k.tdiv 10 = k / 10 := Int.tdiv_eq_ediv_of_nonneg h2
    have hsz : ∀ y0 : AV, (bytesOf [y0]).size = 1 := fun y0 => rfl
    have hu : ([(.i .u8 (IntKind.u8.wrap (IntKind.i64.wrap ((48 : Int) + (k.tmod (10 : Int))))))] : List AV).all isU8 = true := rfl
    rw [f68_l1_eq, dT (show (0 : Int) < k by omega), cond_true, if_pos hu, hd, w64 (x := k / 10) (by omega) (by omega), if_pos (by rw [hsz]; omega)]
    refine ih (k / 10) _ (by omega) (by omega) (by omega) ?_
    rw [ByteArray.size_append, hsz]
    omega
noncomputable def mt (k : Int) : ByteArray := match den E 68 [(.i .i64 k)] [] with
  | some (.s r) => r
  | _ => .empty
theorem mt_ok {k : Int} (h0 : 0 < k) (h1 : k ≤ 1099511627776) : den E 68 [(.i .i64 k)] [] = some (.s (mt k)) := by
  have : ∃ r, den E 68 [(.i .i64 k)] [] = some (.s r) := by
    rw [f68_eq, dF (show ¬ k ≤ 0 by omega), cond_false]
    refine text_ok k.toNat k _ (Nat.le_refl _) (by omega) h1 ?_
    have : ({ data := #[] } : ByteArray).size = 0 := rfl
    rw [this]; omega
  obtain ⟨r, hr⟩ := this
  unfold mt
  rw [hr]


/-! Rows of Pair: copied, marked, looked at again. -/
noncomputable def mkPair (x : Int) : AV := (.agg [(.s (mt x)), (.s (mt (x + 1)))])
theorem flat_Pair {B C : Nat} {l : List AV} (h : Rw (T103 B) C l) : flatVL l = true := flatVL_of fun y hy => by
  obtain ⟨a0, a1, rfl, _⟩ := h.2 y hy; rfl
theorem own_Pair {l : List AV} (h : Rw (T103 1048576) 1048576 l) : dno E 20 [(.imm 2 l)] [] = some (.sl 0 [] none, [.live true false false 106 l]) := by
  have hl := h.1
  rw [f20o1_eq, if_pos (by simp only [room]; omega), Int.toNat_natCast]
  refine fill_loop (L := fun i ys => f20o1_l1 l i [] ys) (xs := l) (ys0 := List.replicate l.length (.agg [(.s .empty), (.s .empty)])) (F := fun ys => some (.sl 0 [] none, [.live true false false 106 ys])) (by simp) (fun i ys hi hy hz => ?_) ?_
  · have hT := h.at hi
    have ht := to63 hT
    have hz' : ys.getD i .x = (.agg [(.s .empty), (.s .empty)]) := by rw [hz]; simp [List.getD_eq_getElem?_getD, hi]
    try dsimp only
    rw [f20o1_l1_eq, dT (show (i : Int) < ((l.length : Nat) : Int) by omega), cond_true, if_pos (by omega), w64 (x := (i : Int) + 1) (by omega) (by omega)]
    simp only [Int.toNat_natCast, Nat.zero_add, hT.ok, hT.eta, if_true, hz', ht]
    obtain ⟨a0, a1, he, _⟩ := hT
    rw [he]
    simp only [okC_nil, okC_agg, okC_i, okC_b, okC_s, okC_imm, okL_i, okL_b, okL_s, okL_sl, okS_i, okS_b, okS_s, okS_sl, okS_agg, okS_tup, okS_nil, okS_cons, cells_agg, cells_i, cells_b, cells_s, cells_imm, toI_i, toB_b, toS_s, toL_imm, nth_agg, nth_tup, put_agg, put_i, put_b, put_s, put_imm, setCells, List.getD_cons_zero, List.getD_cons_succ, bSh_b, bSh_i, bSh_s, bSh_sl, bSh_some, cond_true, cond_false, decide_true, decide_false, Int.toNat_natCast, Nat.zero_add, Nat.reduceAdd, beq_self_eq_true, Bool.and_true, Bool.true_and, if_true, Bool.false_eq_true, if_false, List.set_cons_zero, List.set_cons_succ, Bool.not_true, Bool.not_false, Bool.and_self]
    rw [if_pos (by omega)]
  · try dsimp only
    rw [f20o1_l1_eq, dF (Int.lt_irrefl _), cond_false]
theorem mark_Pair {l : List AV} (h : Rw (T103 1048576) 1048576 l) (k : Int) (hk : 0 < k) (hk2 : k ≤ 549755813888) : dno E 24 [(.sl 0 [] none), (.i .i64 k)] [(.live true false false 106 l)] =
    some (.i .i64 (k + 2 * ((l.length : Nat) : Int)), [.live true false false 106 (mkL l.length fun i => mkPair (k + 2 * (i : Int)))]) := by
  have hl := h.1
  rw [f24o1_eq]
  have := fill_loop (L := fun i ys => f24o1_l1 (k + 2 * i) i ys) (xs := mkL l.length fun i => mkPair (k + 2 * (i : Int))) (ys0 := l) (F := fun ys => some (AV.i .i64 (k + 2 * ((l.length : Nat) : Int)), [.live true false false 106 ys])) (by rw [mkL_length]) (fun i r hi hr hz => ?_) ?_
  · simpa using this
  · rw [mkL_length] at hi hr
    obtain ⟨a0, a1, he, _⟩ := h.at hi
    have hge : r.getD i .x = _ := hz.trans he
    have hgs : ∀ y, (r.set i y).getD i .x = y := fun y => by
      rw [List.getD_eq_getElem?_getD, List.getElem?_set_self (by omega)]; rfl
    generalize hx : k + 2 * (i : Int) = x
    have hnext : ((x + 1) + 1) = k + 2 * ((i : Int) + 1) := by omega
    have g1 : (0 : Int) ≤ (i : Int) := by omega
    have g2 : (i : Int) < ((r.length : Nat) : Int) := by omega
    have w1 : IntKind.i64.wrap (x + 1) = (x + 1) := w64 (by omega) (by omega)
    have w2 : IntKind.i64.wrap ((x + 1) + 1) = ((x + 1) + 1) := w64 (by omega) (by omega)
    have m0 := mt_ok (k := x) (by omega) (by omega)
    have m1 := mt_ok (k := (x + 1)) (by omega) (by omega)
    try dsimp only
    rw [f24o1_l1_eq, dT g2, cond_true, w64 (x := (i : Int) + 1) (by omega) (by omega)]
    simp only [Int.toNat_natCast, Nat.zero_add, putAt, hge, hgs, List.set_set, List.length_set, g1, g2, and_self, w1, w2, m0, m1, okC_nil, okC_agg, okC_i, okC_b, okC_s, okC_imm, okL_i, okL_b, okL_s, okL_sl, okS_i, okS_b, okS_s, okS_sl, okS_agg, okS_tup, okS_nil, okS_cons, cells_agg, cells_i, cells_b, cells_s, cells_imm, toI_i, toB_b, toS_s, toL_imm, nth_agg, nth_tup, put_agg, put_i, put_b, put_s, put_imm, setCells, List.getD_cons_zero, List.getD_cons_succ, bSh_b, bSh_i, bSh_s, bSh_sl, bSh_some, cond_true, cond_false, decide_true, decide_false, Int.toNat_natCast, Nat.zero_add, Nat.reduceAdd, beq_self_eq_true, Bool.and_true, Bool.true_and, if_true, Bool.false_eq_true, if_false, List.set_cons_zero, List.set_cons_succ, Bool.not_true, Bool.not_false, Bool.and_self]
    rw [hnext, mkL_getD hi, hx]
    rfl
  · rw [mkL_length]
    try dsimp only
    rw [f24o1_l1_eq, dF (by rw [mkL_length]; omega), cond_false]
theorem markw_Pair {l : List AV} (h : ∀ i, i < l.length → T103 1048576 (l.getD i .x)) (hl : l.length ≤ 1048576) (n : Nat) (hn : n ≤ l.length) (k : Int) (hk : 0 < k) (hk2 : k ≤ 549755813888) : ∃ r : List AV, dno E 24 [(.sl 0 [] (some (0, n))), (.i .i64 k)] [(.live true false false 106 l)] =
    some (.i .i64 (k + 2 * (n : Int)), [.live true false false 106 r]) ∧ r.length = l.length ∧ r.take n = mkL n fun i => mkPair (k + 2 * (i : Int)) := by
  rw [f24o2_eq]
  let xs : List AV := (mkL n fun i => mkPair (k + 2 * (i : Int)))
  have key : ∀ (d i : Nat) (r : List AV), i + d = n → r.length = l.length → r.take i = xs.take i → r.drop i = l.drop i → ∃ r', f24o2_l1 0 n (k + 2 * i) i r = some (.i .i64 (k + 2 * (n : Int)), [.live true false false 106 r']) ∧ r'.length = l.length ∧ r'.take n = xs := by
    intro d
    induction d with
    | zero =>
      intro i r h1 h2 h3 h4
      have : i = n := by omega
      subst this
      refine ⟨r, ?_, h2, ?_⟩
      · rw [f24o2_l1_eq, dF (Int.lt_irrefl _), cond_false]
      · rw [h3, List.take_of_length_le (by rw [mkL_length]; exact Nat.le_refl _)]
    | succ d ih =>
      intro i r h1 h2 h3 h4
      have hi : i < l.length := by omega
      have hz : r.getD i .x = l.getD i .x := by
        have h5 := congrArg (fun l => l.getD 0 AV.x) h4
        simpa [List.getD_eq_getElem?_getD, List.getElem?_drop] using h5
      obtain ⟨a0, a1, he, _⟩ := h i hi
      have hge : r.getD i .x = _ := hz.trans he
      have hgs : ∀ y, (r.set i y).getD i .x = y := fun y => by
        rw [List.getD_eq_getElem?_getD, List.getElem?_set_self (by omega)]; rfl
      have hrec : f24o2_l1 0 n (k + 2 * i) i r = f24o2_l1 0 n (k + 2 * ((i + 1 : Nat) : Int)) ((i + 1 : Nat) : Int) (r.set i (mkPair (k + 2 * (i : Int)))) := by
        generalize hx : k + 2 * (i : Int) = x
        have hnext : ((x + 1) + 1) = k + 2 * ((i + 1 : Nat) : Int) := by omega
        have g1 : (0 : Int) ≤ (i : Int) := by omega
        have g2 : (i : Int) < ((n : Nat) : Int) := by omega
        have w1 : IntKind.i64.wrap (x + 1) = (x + 1) := w64 (by omega) (by omega)
        have w2 : IntKind.i64.wrap ((x + 1) + 1) = ((x + 1) + 1) := w64 (by omega) (by omega)
        have m0 := mt_ok (k := x) (by omega) (by omega)
        have m1 := mt_ok (k := (x + 1)) (by omega) (by omega)
        rw [f24o2_l1_eq, dT g2, cond_true, w64 (x := (i : Int) + 1) (by omega) (by omega)]
        simp only [Int.toNat_natCast, Nat.zero_add, putAt, hge, hgs, List.set_set, List.length_set, g1, g2, and_self, w1, w2, m0, m1, okC_nil, okC_agg, okC_i, okC_b, okC_s, okC_imm, okL_i, okL_b, okL_s, okL_sl, okS_i, okS_b, okS_s, okS_sl, okS_agg, okS_tup, okS_nil, okS_cons, cells_agg, cells_i, cells_b, cells_s, cells_imm, toI_i, toB_b, toS_s, toL_imm, nth_agg, nth_tup, put_agg, put_i, put_b, put_s, put_imm, setCells, List.getD_cons_zero, List.getD_cons_succ, bSh_b, bSh_i, bSh_s, bSh_sl, bSh_some, cond_true, cond_false, decide_true, decide_false, Int.toNat_natCast, Nat.zero_add, Nat.reduceAdd, beq_self_eq_true, Bool.and_true, Bool.true_and, if_true, Bool.false_eq_true, if_false, List.set_cons_zero, List.set_cons_succ, Bool.not_true, Bool.not_false, Bool.and_self]
        rw [hnext, show ((i : Int) + 1) = ((i + 1 : Nat) : Int) by omega]
        rfl
      rw [hrec]
      refine ih (i + 1) _ (by omega) (by simpa using h2) ?_ ?_
      · have hxi : i < xs.length := by rw [mkL_length]; omega
        rw [take_getD (by simp; omega), take_getD hxi, List.take_set_of_le (Nat.le_refl i), h3, hgs, mkL_getD (by omega)]
      · rw [List.drop_set_of_lt (by omega)]
        have := congrArg (List.drop 1) h4
        simpa [List.drop_drop] using this
  have := key n 0 l (by omega) rfl (by simp) (by simp)
  simpa using this
theorem held_Pair (n : Nat) (hn : n ≤ 1048576) (k : Int) (hk : 0 < k) (hk2 : k ≤ 549755813888) : den E 25 [(.imm 2 (mkL n fun i => mkPair (k + 2 * (i : Int)))), (.i .i64 k)] [] = some (.i .i64 (k + 2 * (n : Int))) := by
  rw [f25_eq]
  have := loop_to (R := AV) (L := fun i => f25_l1 (mkL n fun i => mkPair (k + 2 * (i : Int))) (k + 2 * i) i) (n := n) (X := some (.i .i64 (k + 2 * (n : Int)))) (fun i hi => ?_) ?_
  · simpa using this
  · generalize hx : k + 2 * (i : Int) = x
    have hg : (mkL n fun i => mkPair (k + 2 * (i : Int))).getD i .x = (.agg [(.s (mt x)), (.s (mt (x + 1)))]) := by rw [mkL_getD hi, hx]; rfl
    have hnext : ((x + 1) + 1) = k + 2 * ((i : Int) + 1) := by omega
    have g1 : (0 : Int) ≤ (i : Int) := by omega
    have g2 : (i : Int) < (n : Int) := by omega
    have w1 : IntKind.i64.wrap (x + 1) = (x + 1) := w64 (by omega) (by omega)
    have w2 : IntKind.i64.wrap ((x + 1) + 1) = ((x + 1) + 1) := w64 (by omega) (by omega)
    have m0 := mt_ok (k := x) (by omega) (by omega)
    have m1 := mt_ok (k := (x + 1)) (by omega) (by omega)
    try dsimp only
    rw [f25_l1_eq, mkL_length, dT g2, cond_true, w64 (x := (i : Int) + 1) (by omega) (by omega)]
    simp only [Int.toNat_natCast, hg, g1, g2, and_self, w1, w2, m0, m1, okC_nil, okC_agg, okC_i, okC_b, okC_s, okC_imm, okL_i, okL_b, okL_s, okL_sl, okS_i, okS_b, okS_s, okS_sl, okS_agg, okS_tup, okS_nil, okS_cons, cells_agg, cells_i, cells_b, cells_s, cells_imm, toI_i, toB_b, toS_s, toL_imm, nth_agg, nth_tup, put_agg, put_i, put_b, put_s, put_imm, setCells, List.getD_cons_zero, List.getD_cons_succ, bSh_b, bSh_i, bSh_s, bSh_sl, bSh_some, cond_true, cond_false, decide_true, decide_false, Int.toNat_natCast, Nat.zero_add, Nat.reduceAdd, beq_self_eq_true, Bool.and_true, Bool.true_and, if_true, Bool.false_eq_true, if_false, List.set_cons_zero, List.set_cons_succ, Bool.not_true, Bool.not_false, Bool.and_self]
    rw [hnext]
  · try dsimp only
    rw [f25_l1_eq, mkL_length, dF (Int.lt_irrefl _), cond_false]


/-! A state of pairs. -/
abbrev pk (el : AV) : ByteArray := (el.cells.getD 0 .x).toS
abbrev pv (el : AV) : ByteArray := (el.cells.getD 1 .x).toS
noncomputable def okP (l : List AV) (i : Nat) : Bool := keyOk (pk (l.getD i .x)) && (!decide ((16 : Int) < (((pv (l.getD i .x)).size : Nat) : Int)) && (decide (i = 0) || lessS (pk (l.getD (i - 1) .x)) (pk (l.getD i .x))))
theorem spec_state {l : List AV} (h : Rw (T103 1048576) 1048576 l) : den E 60 [(.imm 2 l)] [] = some (.b ((List.range' 0 l.length).all (okP l))) := by
  have hl := h.1
  rw [f60_eq]
  have := all_loop (L := fun i => f60_l1 l i) (n := l.length) (p := okP l) (X := some (.b true)) (F := some (.b false)) (fun i hi => ?_) ?_ l.length 0 (by omega)
  · refine this.trans ?_
    rw [cond_andb, Bool.and_true]
  · have hT := h.at hi
    try dsimp only
    rw [f60_l1_eq, dT (show (i : Int) < ((l.length : Nat) : Int) by omega), cond_true, if_pos (by omega), Int.toNat_natCast, if_pos hT.ok0, spec_key, bSh_b, toB_b, if_pos (by omega), if_pos hT.ok1, f60_j2_eq, w64 (x := (i : Int) + 1) (by omega) (by omega)]
    unfold okP pk pv
    cases keyOk ((l.getD i .x).cells.getD 0 .x).toS
    · rfl
    cases decide ((16 : Int) < (((((l.getD i .x).cells.getD 1 .x).toS).size : Nat) : Int))
    rotate_left
    · rfl
    by_cases h0 : i = 0
    · subst h0
      simp only [okC_nil, okC_agg, okC_i, okC_b, okC_s, okC_imm, okL_i, okL_b, okL_s, okL_sl, okS_i, okS_b, okS_s, okS_sl, okS_agg, okS_tup, okS_nil, okS_cons, cells_agg, cells_i, cells_b, cells_s, cells_imm, toI_i, toB_b, toS_s, toL_imm, nth_agg, nth_tup, put_agg, put_i, put_b, put_s, put_imm, setCells, List.getD_cons_zero, List.getD_cons_succ, bSh_b, bSh_i, bSh_s, bSh_sl, bSh_some, cond_true, cond_false, decide_true, decide_false, Int.toNat_natCast, Nat.zero_add, Nat.reduceAdd, beq_self_eq_true, Bool.and_true, Bool.true_and, if_true, Bool.false_eq_true, if_false, List.set_cons_zero, List.set_cons_succ, Bool.not_true, Bool.not_false, Bool.and_self, Bool.true_or]
      rfl
    · have hi1 : i - 1 < l.length := by omega
      have hP := h.at hi1
      have hpos : (0 : Int) < (i : Int) := by omega
      simp only [hpos, h0, okC_nil, okC_agg, okC_i, okC_b, okC_s, okC_imm, okL_i, okL_b, okL_s, okL_sl, okS_i, okS_b, okS_s, okS_sl, okS_agg, okS_tup, okS_nil, okS_cons, cells_agg, cells_i, cells_b, cells_s, cells_imm, toI_i, toB_b, toS_s, toL_imm, nth_agg, nth_tup, put_agg, put_i, put_b, put_s, put_imm, setCells, List.getD_cons_zero, List.getD_cons_succ, bSh_b, bSh_i, bSh_s, bSh_sl, bSh_some, cond_true, cond_false, decide_true, decide_false, Int.toNat_natCast, Nat.zero_add, Nat.reduceAdd, beq_self_eq_true, Bool.and_true, Bool.true_and, if_true, Bool.false_eq_true, if_false, List.set_cons_zero, List.set_cons_succ, Bool.not_true, Bool.not_false, Bool.and_self, Bool.false_or]
      rw [w64 (x := (i : Int) - 1) (by omega) (by omega), if_pos (by omega), show ((i : Int) - 1).toNat = i - 1 by omega, if_pos hP.ok0, if_pos (by omega), if_pos hT.ok0]
      cases lessS ((l.getD (i - 1) .x).cells.getD 0 .x).toS ((l.getD i .x).cells.getD 0 .x).toS <;> rfl
  · try dsimp only
    rw [f60_l1_eq, dF (Int.lt_irrefl _), cond_false]
theorem impl_state {l : List AV} (h : Rw (T103 1048576) 1048576 l) : den E 64 [(.imm 2 l)] [] = some (.b ((List.range' 0 l.length).all (okP l))) := by
  have hl := h.1
  rw [f64_eq]
  have := all_loop (L := fun i => f64_l1 l l ((l.length : Nat) : Int) i) (n := l.length) (p := okP l) (X := some (.b true)) (F := some (.b false)) (fun i hi => ?_) ?_ l.length 0 (by omega)
  · refine this.trans ?_
    rw [cond_andb, Bool.and_true]
  · have hT := h.at hi
    try dsimp only
    rw [f64_l1_eq, dT (show (i : Int) < ((l.length : Nat) : Int) by omega), cond_true, if_pos (by omega), Int.toNat_natCast, if_pos hT.ok, impl_key, bSh_b, toB_b, f64_j2_eq, w64 (x := (i : Int) + 1) (by omega) (by omega)]
    unfold okP pk pv
    cases keyOk ((l.getD i .x).cells.getD 0 .x).toS
    · rfl
    cases decide ((16 : Int) < (((((l.getD i .x).cells.getD 1 .x).toS).size : Nat) : Int))
    rotate_left
    · rfl
    by_cases h0 : i = 0
    · subst h0
      simp only [okC_nil, okC_agg, okC_i, okC_b, okC_s, okC_imm, okL_i, okL_b, okL_s, okL_sl, okS_i, okS_b, okS_s, okS_sl, okS_agg, okS_tup, okS_nil, okS_cons, cells_agg, cells_i, cells_b, cells_s, cells_imm, toI_i, toB_b, toS_s, toL_imm, nth_agg, nth_tup, put_agg, put_i, put_b, put_s, put_imm, setCells, List.getD_cons_zero, List.getD_cons_succ, bSh_b, bSh_i, bSh_s, bSh_sl, bSh_some, cond_true, cond_false, decide_true, decide_false, Int.toNat_natCast, Nat.zero_add, Nat.reduceAdd, beq_self_eq_true, Bool.and_true, Bool.true_and, if_true, Bool.false_eq_true, if_false, List.set_cons_zero, List.set_cons_succ, Bool.not_true, Bool.not_false, Bool.and_self, Bool.true_or]
      rfl
    · have hi1 : i - 1 < l.length := by omega
      have hP := h.at hi1
      have hpos : (0 : Int) < (i : Int) := by omega
      simp only [hpos, h0, okC_nil, okC_agg, okC_i, okC_b, okC_s, okC_imm, okL_i, okL_b, okL_s, okL_sl, okS_i, okS_b, okS_s, okS_sl, okS_agg, okS_tup, okS_nil, okS_cons, cells_agg, cells_i, cells_b, cells_s, cells_imm, toI_i, toB_b, toS_s, toL_imm, nth_agg, nth_tup, put_agg, put_i, put_b, put_s, put_imm, setCells, List.getD_cons_zero, List.getD_cons_succ, bSh_b, bSh_i, bSh_s, bSh_sl, bSh_some, cond_true, cond_false, decide_true, decide_false, Int.toNat_natCast, Nat.zero_add, Nat.reduceAdd, beq_self_eq_true, Bool.and_true, Bool.true_and, if_true, Bool.false_eq_true, if_false, List.set_cons_zero, List.set_cons_succ, Bool.not_true, Bool.not_false, Bool.and_self, Bool.false_or]
      rw [w64 (x := (i : Int) - 1) (by omega) (by omega), if_pos (by omega), show ((i : Int) - 1).toNat = i - 1 by omega, if_pos hP.ok0]
      rw [← less_tri ((l.getD (i - 1) .x).cells.getD 0 .x).toS ((l.getD i .x).cells.getD 0 .x).toS]
      cases (lessS ((l.getD i .x).cells.getD 0 .x).toS ((l.getD (i - 1) .x).cells.getD 0 .x).toS || decide (((l.getD i .x).cells.getD 0 .x).toS = ((l.getD (i - 1) .x).cells.getD 0 .x).toS)) <;> rfl
  · try dsimp only
    rw [f64_l1_eq, dF (Int.lt_irrefl _), cond_false]

/-! What stays, and where the new pair belongs. -/
noncomputable def stays (r : AV) (y : AV) : Bool := !aff r (pk y)
theorem clos_del {r y : AV} (hr : T63 1048576 r) (hy : T103 1048576 y) : den E 109 [y, (.ip r 0)] [] = some (.b (!stays r y)) := by
  have h1 := hr.ok
  have h2 := hr.eta
  obtain ⟨a0, a1, rfl, _⟩ := hy
  rw [f109q1_eq, if_pos h1, h2, impl_aff hr]
  simp only [stays, Bool.not_not, okC_nil, okC_agg, okC_i, okC_b, okC_s, okC_imm, okL_i, okL_b, okL_s, okL_sl, okS_i, okS_b, okS_s, okS_sl, okS_agg, okS_tup, okS_nil, okS_cons, cells_agg, cells_i, cells_b, cells_s, cells_imm, toI_i, toB_b, toS_s, toL_imm, nth_agg, nth_tup, put_agg, put_i, put_b, put_s, put_imm, setCells, List.getD_cons_zero, List.getD_cons_succ, bSh_b, bSh_i, bSh_s, bSh_sl, bSh_some, cond_true, cond_false, decide_true, decide_false, Int.toNat_natCast, Nat.zero_add, Nat.reduceAdd, beq_self_eq_true, Bool.and_true, Bool.true_and, if_true, Bool.false_eq_true, if_false, List.set_cons_zero, List.set_cons_succ, Bool.not_true, Bool.not_false, Bool.and_self]
  rfl

theorem first_ap (m : List AV) (hm : Rw (T103 1048576) 1048576 m) (rc : AV) (hrc : T63 1048576 rc) :
    (den E 152 [(.imm 2 m), (.fn 109 [(.ip rc 0)])] [] = some (.i .i64 (-1)) ∧ ∀ i, i < m.length → (stays rc) (m.getD i .x) = true) ∨
    ∃ j : Nat, j < m.length ∧ den E 152 [(.imm 2 m), (.fn 109 [(.ip rc 0)])] [] = some (.i .i64 j) ∧ (stays rc) (m.getD j .x) = false ∧ ∀ i, i < j → (stays rc) (m.getD i .x) = true := by
  have hll := hm.1
  have key := find_loop (L := fun i => f152q1_l1 m rc ((m.length : Nat) : Int) i) (n := m.length) (p := fun j => !(stays rc) (m.getD j .x)) (F := fun i => some (.i .i64 i)) (X := some (.i .i64 (-1))) (fun i hi => ?_) ?_ m.length 0 (by omega)
  · rw [f152q1_eq]
    rcases key with ⟨j, _, hj, h1, h2, h3⟩ | ⟨h1, h2⟩
    · exact .inr ⟨j, hj, h3, by simpa using h1, fun i hi => by simpa using h2 i (Nat.zero_le _) hi⟩
    · exact .inl ⟨h2, fun i hi => by simpa using h1 i (Nat.zero_le _) hi⟩
  · have hT := hm.at hi
    try dsimp only
    rw [f152q1_l1_eq, dT (show (i : Int) < ((m.length : Nat) : Int) by omega), cond_true, if_pos (by omega), w64 (x := (i : Int) + 1) (by omega) (by omega)]
    simp only [Int.toNat_natCast, hT.ok, hT.eta, clos_del hrc hT, okC_nil, okC_agg, okC_i, okC_b, okC_s, okC_imm, okL_i, okL_b, okL_s, okL_sl, okS_i, okS_b, okS_s, okS_sl, okS_agg, okS_tup, okS_nil, okS_cons, cells_agg, cells_i, cells_b, cells_s, cells_imm, toI_i, toB_b, toS_s, toL_imm, nth_agg, nth_tup, put_agg, put_i, put_b, put_s, put_imm, setCells, List.getD_cons_zero, List.getD_cons_succ, bSh_b, bSh_i, bSh_s, bSh_sl, bSh_some, cond_true, cond_false, decide_true, decide_false, Int.toNat_natCast, Nat.zero_add, Nat.reduceAdd, beq_self_eq_true, Bool.and_true, Bool.true_and, if_true, Bool.false_eq_true, if_false, List.set_cons_zero, List.set_cons_succ, Bool.not_true, Bool.not_false, Bool.and_self]
  · try dsimp only
    rw [f152q1_l1_eq, dF (Int.lt_irrefl _), cond_false]
theorem del_ap (m : List AV) (hm : Rw (T103 1048576) 1048576 m) (rc : AV) (hrc : T63 1048576 rc) :
    ∃ r : List AV, dno E 107 [(.sl 0 [] none), (.fn 109 [(.ip rc 0)])] [(.live true false false 106 m)] =
      some (.sl 0 [] (some (0, (m.filter (stays rc)).length)), [(.live true false false 106 r)]) ∧ r.length = m.length ∧ (∀ y, y ∈ r → T103 1048576 y) ∧ r.take (m.filter (stays rc)).length = m.filter (stays rc) := by
  have hml := hm.1
  rw [f107o1_eq]
  rcases first_ap m hm rc hrc with ⟨h1, h2⟩ | ⟨j, hj, h1, h2, h3⟩
  · have hf : m.filter (stays rc) = m := List.filter_eq_self.2 fun y hy => by
      obtain ⟨i, hi, rfl⟩ := List.getElem_of_mem hy
      have := h2 i hi
      rwa [List.getD_eq_getElem?_getD, List.getElem?_eq_getElem hi] at this
    rw [h1, hf]
    exact ⟨m, rfl, rfl, hm.2, by simp⟩
  · rw [h1]
    simp only [bSh_i, toI_i]
    have hj1 : ¬ (j : Int) = -1 := by omega
    have hjn : (m.take j).filter (stays rc) = m.take j := List.filter_eq_self.2 fun y hy => by
      obtain ⟨i, hi, rfl⟩ := List.getElem_of_mem hy
      have hij : i < j := by rw [List.length_take] at hi; omega
      have := h3 i hij
      rw [List.getD_eq_getElem?_getD, List.getElem?_eq_getElem (by omega)] at this
      rw [List.getElem_take]; exact this
    simp only [hj1, decide_false, cond_false]
    rw [w64 (x := (j : Int) + 1) (by omega) (by omega), show ((j : Int) + 1) = ((j + 1 : Nat) : Int) by omega]
    let W : Nat → List AV → List AV := fun k r => r.take k ++ List.replicate (r.length - k) (.agg [(.s .empty), (.s .empty)]) ++ r.drop (k + (r.length - k))
    have key : ∃ r', f107o1_l1 rc (j : Int) ((j + 1 : Nat) : Int) m = some (.sl 0 [] (some (0, (m.filter (stays rc)).length)), [(.live true false false 106 (W (m.filter (stays rc)).length r'))]) ∧ r'.length = m.length ∧ r'.take (m.filter (stays rc)).length = m.filter (stays rc) := by
      refine del_loop (L := fun k i r => f107o1_l1 rc k i r) (m := m) (p := (stays rc)) (T := T103 1048576) (F := fun k r => some (.sl 0 [] (some (0, k)), [(.live true false false 106 (W k r))])) hm.2 (fun i k r hi hk hl hg hr => ?_) (fun k r hk hl => ?_) (m.length - (j + 1)) (j + 1) j m (by omega) (by omega) rfl hm.2 ?_ rfl
      · have hT := hm.at hi
        have hT' : T103 1048576 (r.getD k .x) := hr _ (getD_mem (by omega))
        try dsimp only
        rw [f107o1_l1_eq, dT (show (i : Int) < ((r.length : Nat) : Int) by omega), cond_true, if_pos (by omega)]
        simp only [Nat.zero_add, Int.toNat_natCast, hg, hT.ok, hT.eta, clos_del hrc hT, okC_nil, okC_agg, okC_i, okC_b, okC_s, okC_imm, okL_i, okL_b, okL_s, okL_sl, okS_i, okS_b, okS_s, okS_sl, okS_agg, okS_tup, okS_nil, okS_cons, cells_agg, cells_i, cells_b, cells_s, cells_imm, toI_i, toB_b, toS_s, toL_imm, nth_agg, nth_tup, put_agg, put_i, put_b, put_s, put_imm, setCells, List.getD_cons_zero, List.getD_cons_succ, bSh_b, bSh_i, bSh_s, bSh_sl, bSh_some, cond_true, cond_false, decide_true, decide_false, Int.toNat_natCast, Nat.zero_add, Nat.reduceAdd, beq_self_eq_true, Bool.and_true, Bool.true_and, if_true, Bool.false_eq_true, if_false, List.set_cons_zero, List.set_cons_succ, Bool.not_true, Bool.not_false, Bool.and_self, f107o1_j2_eq]
        rw [w64 (x := (k : Int) + 1) (by omega) (by omega), if_pos (by omega), w64 (x := (i : Int) + 1) (by omega) (by omega)]
        have hput : (r.getD k .x).putCells 0 (m.getD i .x).cells = m.getD i .x := by
          obtain ⟨a0, a1, e1, _⟩ := hT'
          obtain ⟨b0, b1, e2, _⟩ := hT
          rw [e1, e2]; rfl
        have hcl : [(.s ((m.getD i .x).cells.getD 0 .x).toS), (.s ((m.getD i .x).cells.getD 1 .x).toS)] = (m.getD i .x).cells := by
          obtain ⟨b0, b1, e2, _⟩ := hT
          rw [e2]; rfl
        rw [hcl, hput]
        cases (stays rc) (m.getD i .x) <;> simp
      · try dsimp only
        rw [f107o1_l1_eq, dF (show ¬ ((m.length : Nat) : Int) < ((r.length : Nat) : Int) by omega), cond_false, if_pos (by omega)]
        simp only [Int.toNat_natCast]
        rw [if_pos (by simp only [List.length_append, List.length_take, List.length_replicate, List.length_drop]; omega)]
        rfl
      · rw [take_getD hj, List.filter_append, hjn, List.filter_cons, if_neg (by rw [h2]; decide)]
        simp
    obtain ⟨r', g1, g2, g3⟩ := key
    have hWl : (W (m.filter (stays rc)).length r').length = m.length := by
      have : (m.filter (stays rc)).length ≤ m.length := List.length_filter_le _ _
      simp only [W, List.length_append, List.length_take, List.length_replicate, List.length_drop]
      omega
    have hle : (m.filter (stays rc)).length ≤ r'.length := by rw [g2]; exact List.length_filter_le _ _
    have ze : ByteArray.empty.size ≤ 1048576 := Nat.zero_le _
    refine ⟨W (m.filter (stays rc)).length r', g1, hWl, fun y hy => ?_, ?_⟩
    · simp only [W, List.mem_append] at hy
      rcases hy with (hy | hy) | hy
      · rw [g3] at hy
        exact hm.2 y (List.mem_filter.1 hy).1
      · rw [(List.mem_replicate.1 hy).2]; exact ⟨.empty, .empty, rfl, ze, ze, trivial⟩
      · rw [List.drop_eq_nil_of_le (by omega)] at hy; cases hy
    · simp only [W, List.append_assoc]
      rw [List.take_append_of_le_length (by rw [List.length_take]; omega), List.take_take, Nat.min_self, g3]


def CutS (F : List AV) (x : ByteArray) (k : Nat) : Prop := k ≤ F.length ∧ (∀ j, j < k → lessS (pk (F.getD j .x)) x = true) ∧ ∀ j, k ≤ j → j < F.length → lessS x (pk (F.getD j .x)) = true
theorem CutS.uniq {B : List AV} {x : ByteArray} {k k' : Nat} (h : CutS B x k) (h' : CutS B x k') : k = k' := by
  rcases Nat.lt_trichotomy k k' with h1 | h1 | h1
  · have a := h'.2.1 k h1; have b := h.2.2 k (Nat.le_refl _) (Nat.lt_of_lt_of_le h1 h'.1); rw [less_asym a] at b; cases b
  · exact h1
  · have a := h.2.1 k' h1; have b := h'.2.2 k' (Nat.le_refl _) (Nat.lt_of_lt_of_le h1 h.1); rw [less_asym a] at b; cases b
theorem less_or {a b : ByteArray} (h : a ≠ b) (h2 : lessS a b = false) : lessS b a = true := by
  rw [← less_tri b a (i := inferInstance), h2, dF h]; rfl
theorem state_sorted {l : List AV} (h : ∀ i, i < l.length → okP l i = true) : l.Pairwise (fun a b => lessS (pk a) (pk b) = true) := by
  rw [List.pairwise_iff_getElem]
  have key : ∀ (n i : Nat), i + n + 1 < l.length → lessS (pk (l.getD i .x)) (pk (l.getD (i + n + 1) .x)) = true := by
    intro n
    induction n with
    | zero =>
      intro i hi
      have := h (i + 1) hi
      unfold okP at this
      simp only [Bool.and_eq_true, Bool.or_eq_true, decide_eq_true_eq, Nat.add_sub_cancel] at this
      exact this.2.2.resolve_left (by omega)
    | succ n ih =>
      intro i hi
      have h1 := ih i (by omega)
      have := h (i + n + 1 + 1) hi
      unfold okP at this
      simp only [Bool.and_eq_true, Bool.or_eq_true, decide_eq_true_eq, Nat.add_sub_cancel] at this
      exact less_trans h1 (this.2.2.resolve_left (by omega))
  intro i j hi hj hij
  have := key (j - i - 1) i (by omega)
  rw [show i + (j - i - 1) + 1 = j by omega] at this
  simpa [List.getD_eq_getElem?_getD, hi, hj] using this
theorem sorted_at {F : List AV} (h : F.Pairwise (fun a b => lessS (pk a) (pk b) = true)) {i j : Nat} (hij : i < j) (hj : j < F.length) : lessS (pk (F.getD i .x)) (pk (F.getD j .x)) = true := by
  have := (List.pairwise_iff_getElem.1 h) i j (by omega) hj hij
  simpa [List.getD_eq_getElem?_getD, show i < F.length by omega, hj] using this
theorem wu64 {x : Int} (h1 : 0 ≤ x) (h2 : x ≤ 18446744073709551615) : IntKind.u64.wrap x = x := by
  have hb : (2 : Int) ^ IntKind.u64.bits = 18446744073709551616 := by decide
  have hs : IntKind.u64.signed = false := rfl
  unfold IntKind.wrap
  simp only [hb, hs, Bool.false_and, Bool.false_eq_true, if_false]
  omega
theorem half {n : Int} (h0 : 0 ≤ n) (h1 : n ≤ 1099511627776) : IntKind.i64.wrap ((IntKind.u64.wrap (IntKind.i64.wrap n)).fdiv (2 ^ (min (1 : Int).toNat IntKind.u64.bits))) = n / 2 := by
  rw [w64 (x := n) (by omega) (by omega), wu64 h0 (by omega), show (2 : Int) ^ (min (1 : Int).toNat IntKind.u64.bits) = 2 from rfl, Int.fdiv_eq_ediv_of_nonneg _ (by omega), w64 (by omega) (by omega)]
theorem clos_cmp {y : AV} (hy : T103 1048576 y) (x : ByteArray) : den E 112 [y, (.s x)] [] = some (.i .i64 (cmpB (pk y) x)) := by
  obtain ⟨a0, a1, rfl, _⟩ := hy
  rw [f112_eq]
  simp only [f113_eq, f153_eq, okC_nil, okC_agg, okC_i, okC_b, okC_s, okC_imm, okL_i, okL_b, okL_s, okL_sl, okS_i, okS_b, okS_s, okS_sl, okS_agg, okS_tup, okS_nil, okS_cons, cells_agg, cells_i, cells_b, cells_s, cells_imm, toI_i, toB_b, toS_s, toL_imm, nth_agg, nth_tup, put_agg, put_i, put_b, put_s, put_imm, setCells, List.getD_cons_zero, List.getD_cons_succ, bSh_b, bSh_i, bSh_s, bSh_sl, bSh_some, cond_true, cond_false, decide_true, decide_false, Int.toNat_natCast, Nat.zero_add, Nat.reduceAdd, beq_self_eq_true, Bool.and_true, Bool.true_and, if_true, Bool.false_eq_true, if_false, List.set_cons_zero, List.set_cons_succ, Bool.not_true, Bool.not_false, Bool.and_self]
  rfl
theorem bin_search {F : List AV} (hF : Rw (T103 1048576) 1048576 F) (hr : F.Pairwise (fun a b => lessS (pk a) (pk b) = true)) {x : ByteArray} (hx : ∀ y, y ∈ F → pk y ≠ x) :
    ∃ (k : Nat) (f : Bool), den E 111 [(.imm 2 F), (.s x), (.fn 112 [])] [] = some (.tup [(.i .i64 k), (.b f)]) ∧ CutS F x k := by
  have hl := hF.1
  rw [f111q1_eq]
  have key : ∀ (m lo hi : Nat), hi ≤ lo + m → lo ≤ hi → hi ≤ F.length → (∀ j, j < lo → lessS (pk (F.getD j .x)) x = true) → (∀ j, hi ≤ j → j < F.length → lessS x (pk (F.getD j .x)) = true) →
      ∃ (k : Nat) (f : Bool), f111q1_l1 F x ((F.length : Nat) : Int) (lo : Int) (hi : Int) = some (.tup [(.i .i64 k), (.b f)]) ∧ CutS F x k := by
    intro m
    induction m with
    | zero =>
      intro lo hi h1 h2 h3 h4 h5
      have : lo = hi := by omega
      subst this
      rw [f111q1_l1_eq, dF (Int.lt_irrefl _), cond_false]
      by_cases h6 : lo < F.length
      · have hT := hF.at h6
        refine ⟨lo, decide (cmpB (pk (F.getD lo .x)) x = 0), ?_, h3, h4, h5⟩
        rw [dT (show (lo : Int) < ((F.length : Nat) : Int) by omega)]
        simp only [Int.toNat_natCast, hT.ok, hT.eta, clos_cmp hT, okC_nil, okC_agg, okC_i, okC_b, okC_s, okC_imm, okL_i, okL_b, okL_s, okL_sl, okS_i, okS_b, okS_s, okS_sl, okS_agg, okS_tup, okS_nil, okS_cons, cells_agg, cells_i, cells_b, cells_s, cells_imm, toI_i, toB_b, toS_s, toL_imm, nth_agg, nth_tup, put_agg, put_i, put_b, put_s, put_imm, setCells, List.getD_cons_zero, List.getD_cons_succ, bSh_b, bSh_i, bSh_s, bSh_sl, bSh_some, cond_true, cond_false, decide_true, decide_false, Int.toNat_natCast, Nat.zero_add, Nat.reduceAdd, beq_self_eq_true, Bool.and_true, Bool.true_and, if_true, Bool.false_eq_true, if_false, List.set_cons_zero, List.set_cons_succ, Bool.not_true, Bool.not_false, Bool.and_self]
        rw [if_pos (by omega)]
        congr
      · refine ⟨lo, false, ?_, h3, h4, h5⟩
        rw [dF (show ¬ (lo : Int) < ((F.length : Nat) : Int) by omega)]
        rfl
    | succ m ih =>
      intro lo hi h1 h2 h3 h4 h5
      by_cases h6 : lo = hi
      · exact ih lo hi (by omega) h2 h3 h4 h5
      have hmid : ((lo : Int) + (hi : Int)) / 2 = (((lo + hi) / 2 : Nat) : Int) := by omega
      obtain ⟨q, hq⟩ : ∃ q, q = (lo + hi) / 2 := ⟨_, rfl⟩
      have hql : q < F.length := by omega
      have hT := hF.at hql
      rw [f111q1_l1_eq, dT (show (lo : Int) < (hi : Int) by omega), cond_true, half (by omega) (by omega), hmid, ← hq]
      simp only [Int.toNat_natCast, hT.ok, hT.eta, clos_cmp hT, okC_nil, okC_agg, okC_i, okC_b, okC_s, okC_imm, okL_i, okL_b, okL_s, okL_sl, okS_i, okS_b, okS_s, okS_sl, okS_agg, okS_tup, okS_nil, okS_cons, cells_agg, cells_i, cells_b, cells_s, cells_imm, toI_i, toB_b, toS_s, toL_imm, nth_agg, nth_tup, put_agg, put_i, put_b, put_s, put_imm, setCells, List.getD_cons_zero, List.getD_cons_succ, bSh_b, bSh_i, bSh_s, bSh_sl, bSh_some, cond_true, cond_false, decide_true, decide_false, Int.toNat_natCast, Nat.zero_add, Nat.reduceAdd, beq_self_eq_true, Bool.and_true, Bool.true_and, if_true, Bool.false_eq_true, if_false, List.set_cons_zero, List.set_cons_succ, Bool.not_true, Bool.not_false, Bool.and_self]
      rw [if_pos (by omega)]
      have hc := cmpB_lt (pk (F.getD q .x)) x
      cases h7 : lessS (pk (F.getD q .x)) x
      · have h8 : ¬ cmpB (pk (F.getD q .x)) x < 0 := fun h => by rw [hc.1 h] at h7; cases h7
        simp only [h8, decide_false, cond_false]
        have h9 := less_or (hx _ (getD_mem hql)) h7
        refine ih lo q (by omega) (by omega) (by omega) h4 fun j hj hjl => ?_
        by_cases hjq : j = q
        · subst hjq; exact h9
        · exact less_trans h9 (sorted_at hr (show q < j by omega) hjl)
      · simp only [hc.2 h7, decide_true, cond_true]
        rw [w64 (by omega) (by omega), show (q : Int) + 1 = ((q + 1 : Nat) : Int) by omega]
        refine ih (q + 1) hi (by omega) (by omega) h3 (fun j hj => ?_) h5
        by_cases hjq : j = q
        · subst hjq; exact h7
        · exact less_trans (sorted_at hr (show j < q by omega) hql) h7
  exact key F.length 0 F.length (by omega) (by omega) (Nat.le_refl _) (fun j hj => by omega) fun j h1 h2 => by omega

/-! What the reference answers. -/
theorem filter_take {l : List AV} {p : AV → Bool} {i : Nat} (hi : i < l.length) : (l.take (i + 1)).filter p = (l.take i).filter p ++ (if p (l.getD i .x) then [l.getD i .x] else []) := by
  rw [take_getD hi, List.filter_append]
  congr 1
  rw [List.filter_cons]; rfl
theorem rm1 {A : List AV} (h : A.length ≤ 1048577) (y0 : AV) : (A.length + [y0].length) * 32 ≤ room := by simp only [List.length_cons, List.length_nil, room]; omega
theorem rm2 {A : List AV} (h : A.length ≤ 1048576) (y0 y1 : AV) : ((A ++ [y0]).length + [y1].length) * 32 ≤ room := rm1 (by rw [List.length_append]; simp only [List.length_cons, List.length_nil]; omega) y1
theorem rm3 {A : List AV} {i : Nat} (h : A.length ≤ i) (y0 y1 : AV) : (A ++ [y0] ++ [y1]).length ≤ i + 1 + 1 := by simp only [List.length_append, List.length_cons, List.length_nil]; omega
theorem spec_late {l : List AV} (h : Rw (T103 1048576) 1048576 l) {a0 : ByteArray} {a1 a2 : Int} {a3 a4 : ByteArray} (hr : T63 1048576 (.agg [(.s a0), (.i .i64 a1), (.i .i64 a2), (.s a3), (.s a4)])) : ∀ (n i : Nat) (out : List AV), i + n = l.length → out.length ≤ i + 1 →
    f19o1_l1 l true i a0 a1 a2 a3 a4 [] out = some (.tup [(.sl 0 [] none), (.i .i64 0)], [.live true false false 106 (out ++ (l.drop i).filter (stays (.agg [(.s a0), (.i .i64 a1), (.i .i64 a2), (.s a3), (.s a4)])))]) := by
  have hl := h.1
  intro n
  induction n with
  | zero =>
    intro i out h1 h2
    have : i = l.length := by omega
    subst this
    rw [f19o1_l1_eq, dF (Int.lt_irrefl _), cond_false]
    simp only [okC_nil, okC_agg, okC_i, okC_b, okC_s, okC_imm, okL_i, okL_b, okL_s, okL_sl, okS_i, okS_b, okS_s, okS_sl, okS_agg, okS_tup, okS_nil, okS_cons, cells_agg, cells_i, cells_b, cells_s, cells_imm, toI_i, toB_b, toS_s, toL_imm, nth_agg, nth_tup, put_agg, put_i, put_b, put_s, put_imm, setCells, List.getD_cons_zero, List.getD_cons_succ, bSh_b, bSh_i, bSh_s, bSh_sl, bSh_some, cond_true, cond_false, decide_true, decide_false, Int.toNat_natCast, Nat.zero_add, Nat.reduceAdd, beq_self_eq_true, Bool.and_true, Bool.true_and, if_true, Bool.false_eq_true, if_false, List.set_cons_zero, List.set_cons_succ, Bool.not_true, Bool.not_false, Bool.and_self]
    rw [f19o1_j3_eq, List.drop_length, List.filter_nil, List.append_nil]
  | succ n ih =>
    intro i out h1 h2
    have hi : i < l.length := by omega
    have hT := h.at hi
    have g1 : (out.length + [l.getD i .x].length) * 32 ≤ room := by simp only [List.length_cons, List.length_nil, room]; omega
    have g2 : (0 : Int) ≤ (i : Int) ∧ (i : Int) < ((l.length : Nat) : Int) := ⟨by omega, by omega⟩
    have j4 : ∀ o, f19o1_j4 l true i a0 a1 a2 a3 a4 [] o = f19o1_l1 l true ((i + 1 : Nat) : Int) a0 a1 a2 a3 a4 [] o := fun o => by
      rw [f19o1_j4_eq, w64 (x := (i : Int) + 1) (by omega) (by omega), show (i : Int) + 1 = ((i + 1 : Nat) : Int) by omega]
    rw [f19o1_l1_eq, dT g2.2, cond_true]
    simp only [f19o1_j2_eq, j4, Int.toNat_natCast, hT.ok, hT.ok0, hT.eta, spec_aff hr, show (false == true) = false from rfl, g1, g2, and_self, okC_nil, okC_agg, okC_i, okC_b, okC_s, okC_imm, okL_i, okL_b, okL_s, okL_sl, okS_i, okS_b, okS_s, okS_sl, okS_agg, okS_tup, okS_nil, okS_cons, cells_agg, cells_i, cells_b, cells_s, cells_imm, toI_i, toB_b, toS_s, toL_imm, nth_agg, nth_tup, put_agg, put_i, put_b, put_s, put_imm, setCells, List.getD_cons_zero, List.getD_cons_succ, bSh_b, bSh_i, bSh_s, bSh_sl, bSh_some, cond_true, cond_false, decide_true, decide_false, Int.toNat_natCast, Nat.zero_add, Nat.reduceAdd, beq_self_eq_true, Bool.and_true, Bool.true_and, if_true, Bool.false_eq_true, if_false, List.set_cons_zero, List.set_cons_succ, Bool.not_true, Bool.not_false, Bool.and_self]
    rw [drop_getD hi, List.filter_cons]
    show cond (!aff _ (pk (l.getD i .x))) _ _ = _
    have e : stays (.agg [(.s a0), (.i .i64 a1), (.i .i64 a2), (.s a3), (.s a4)]) (l.getD i .x) = !aff (.agg [(.s a0), (.i .i64 a1), (.i .i64 a2), (.s a3), (.s a4)]) (pk (l.getD i .x)) := rfl
    rw [e]
    cases aff (.agg [(.s a0), (.i .i64 a1), (.i .i64 a2), (.s a3), (.s a4)]) (pk (l.getD i .x))
    · simp only [okC_nil, okC_agg, okC_i, okC_b, okC_s, okC_imm, okL_i, okL_b, okL_s, okL_sl, okS_i, okS_b, okS_s, okS_sl, okS_agg, okS_tup, okS_nil, okS_cons, cells_agg, cells_i, cells_b, cells_s, cells_imm, toI_i, toB_b, toS_s, toL_imm, nth_agg, nth_tup, put_agg, put_i, put_b, put_s, put_imm, setCells, List.getD_cons_zero, List.getD_cons_succ, bSh_b, bSh_i, bSh_s, bSh_sl, bSh_some, cond_true, cond_false, decide_true, decide_false, Int.toNat_natCast, Nat.zero_add, Nat.reduceAdd, beq_self_eq_true, Bool.and_true, Bool.true_and, if_true, Bool.false_eq_true, if_false, List.set_cons_zero, List.set_cons_succ, Bool.not_true, Bool.not_false, Bool.and_self]
      rw [ih (i + 1) _ (by omega) (by simp; omega), List.append_assoc]
      rfl
    · simp only [okC_nil, okC_agg, okC_i, okC_b, okC_s, okC_imm, okL_i, okL_b, okL_s, okL_sl, okS_i, okS_b, okS_s, okS_sl, okS_agg, okS_tup, okS_nil, okS_cons, cells_agg, cells_i, cells_b, cells_s, cells_imm, toI_i, toB_b, toS_s, toL_imm, nth_agg, nth_tup, put_agg, put_i, put_b, put_s, put_imm, setCells, List.getD_cons_zero, List.getD_cons_succ, bSh_b, bSh_i, bSh_s, bSh_sl, bSh_some, cond_true, cond_false, decide_true, decide_false, Int.toNat_natCast, Nat.zero_add, Nat.reduceAdd, beq_self_eq_true, Bool.and_true, Bool.true_and, if_true, Bool.false_eq_true, if_false, List.set_cons_zero, List.set_cons_succ, Bool.not_true, Bool.not_false, Bool.and_self]
      rw [ih (i + 1) _ (by omega) (by omega)]
theorem spec_early {l : List AV} (h : Rw (T103 1048576) 1048576 l) (hs : l.Pairwise (fun a b => lessS (pk a) (pk b) = true)) {a0 : ByteArray} {a1 : Int} {a3 a4 : ByteArray} (hr : T63 1048576 (.agg [(.s a0), (.i .i64 a1), (.i .i64 1), (.s a3), (.s a4)])) : ∀ (n i : Nat), i + n = l.length →
    (∀ j, j < i → lessS a0 (pk (l.getD j .x)) = false) →
    ∃ k, CutS (l.filter (stays (.agg [(.s a0), (.i .i64 a1), (.i .i64 1), (.s a3), (.s a4)]))) a0 k ∧ f19o1_l1 l false i a0 a1 1 a3 a4 [] ((l.take i).filter (stays (.agg [(.s a0), (.i .i64 a1), (.i .i64 1), (.s a3), (.s a4)]))) =
      some (.tup [(.sl 0 [] none), (.i .i64 0)], [.live true false false 106 ((l.filter (stays (.agg [(.s a0), (.i .i64 a1), (.i .i64 1), (.s a3), (.s a4)]))).take k ++ [.agg [(.s a0), (.s a3)]] ++ (l.filter (stays (.agg [(.s a0), (.i .i64 a1), (.i .i64 1), (.s a3), (.s a4)]))).drop k)]) := by
  have hl := h.1
  obtain ⟨r, hre⟩ : ∃ r, r = AV.agg [(.s a0), (.i .i64 a1), (.i .i64 1), (.s a3), (.s a4)] := ⟨_, rfl⟩
  have e : ∀ y, stays r y = !decide (a0 = pk y) := fun y => by rw [hre]; rfl
  have low : ∀ i, i ≤ l.length → (∀ j, j < i → lessS a0 (pk (l.getD j .x)) = false) → ∀ y, y ∈ (l.take i).filter (stays r) → lessS (pk y) a0 = true := fun i hil hj y hy => by
    obtain ⟨h1, h2⟩ := List.mem_filter.1 hy
    obtain ⟨j, hjl, rfl⟩ := List.getElem_of_mem h1
    rw [List.length_take] at hjl
    rw [e] at h2
    have h3 := hj j (by omega)
    have h4 : (l.take i)[j] = l.getD j .x := by rw [List.getElem_take, List.getD_eq_getElem?_getD, List.getElem?_eq_getElem (by omega)]; rfl
    rw [h4] at h2 ⊢
    exact less_or (by simpa using h2) h3
  rw [← hre]
  intro n
  induction n with
  | zero =>
    intro i h1 h2
    have : i = l.length := by omega
    subst this
    rw [List.take_length]
    have g1 : ((l.filter (stays r)).length + [AV.agg [(.s a0), (.s a3)]].length) * 32 ≤ room := rm1 (Nat.le_trans (List.length_filter_le (stays r) l) (Nat.le_trans hl (by omega))) _
    refine ⟨(l.filter (stays r)).length, ⟨Nat.le_refl _, fun j hj => ?_, fun j g1 g2 => by omega⟩, ?_⟩
    · exact low l.length (Nat.le_refl _) h2 _ (by rw [List.take_length]; exact getD_mem hj)
    · rw [f19o1_l1_eq, dF (Int.lt_irrefl _), cond_false]
      simp only [g1, okC_nil, okC_agg, okC_i, okC_b, okC_s, okC_imm, okL_i, okL_b, okL_s, okL_sl, okS_i, okS_b, okS_s, okS_sl, okS_agg, okS_tup, okS_nil, okS_cons, cells_agg, cells_i, cells_b, cells_s, cells_imm, toI_i, toB_b, toS_s, toL_imm, nth_agg, nth_tup, put_agg, put_i, put_b, put_s, put_imm, setCells, List.getD_cons_zero, List.getD_cons_succ, bSh_b, bSh_i, bSh_s, bSh_sl, bSh_some, cond_true, cond_false, decide_true, decide_false, Int.toNat_natCast, Nat.zero_add, Nat.reduceAdd, beq_self_eq_true, Bool.and_true, Bool.true_and, if_true, Bool.false_eq_true, if_false, List.set_cons_zero, List.set_cons_succ, Bool.not_true, Bool.not_false, Bool.and_self]
      rw [f19o1_j3_eq, List.take_length, List.drop_length, List.append_nil]
  | succ n ih =>
    intro i h1 h2
    have hi : i < l.length := by omega
    have hT := h.at hi
    have hfl : ((l.take i).filter (stays r)).length ≤ 1048576 := Nat.le_trans (List.length_filter_le (stays r) (l.take i)) (by rw [List.length_take]; omega)
    have g1 : (((l.take i).filter (stays r)).length + [AV.agg [(.s a0), (.s a3)]].length) * 32 ≤ room := rm1 (Nat.le_succ_of_le hfl) _
    have g3 : (((l.take i).filter (stays r) ++ [AV.agg [(.s a0), (.s a3)]]).length + [l.getD i .x].length) * 32 ≤ room := rm2 hfl _ _
    have g4 : (((l.take i).filter (stays r)).length + [l.getD i .x].length) * 32 ≤ room := rm1 (Nat.le_succ_of_le hfl) _
    have g2 : (0 : Int) ≤ (i : Int) ∧ (i : Int) < ((l.length : Nat) : Int) := ⟨by omega, by omega⟩
    have j4 : ∀ q o, f19o1_j4 l q i a0 a1 1 a3 a4 [] o = f19o1_l1 l q ((i + 1 : Nat) : Int) a0 a1 1 a3 a4 [] o := fun q o => by
      rw [f19o1_j4_eq, w64 (x := (i : Int) + 1) (by omega) (by omega), show (i : Int) + 1 = ((i + 1 : Nat) : Int) by omega]
    have haff : ∀ y, aff (AV.agg [(.s a0), (.i .i64 a1), (.i .i64 1), (.s a3), (.s a4)]) y = decide (a0 = y) := fun y => rfl
    rw [f19o1_l1_eq, dT g2.2, cond_true]
    simp only [f19o1_j2_eq, j4, Int.toNat_natCast, hT.ok, hT.ok0, hT.eta, spec_aff hr, haff, g1, g2, g3, g4, and_self, okC_nil, okC_agg, okC_i, okC_b, okC_s, okC_imm, okL_i, okL_b, okL_s, okL_sl, okS_i, okS_b, okS_s, okS_sl, okS_agg, okS_tup, okS_nil, okS_cons, cells_agg, cells_i, cells_b, cells_s, cells_imm, toI_i, toB_b, toS_s, toL_imm, nth_agg, nth_tup, put_agg, put_i, put_b, put_s, put_imm, setCells, List.getD_cons_zero, List.getD_cons_succ, bSh_b, bSh_i, bSh_s, bSh_sl, bSh_some, cond_true, cond_false, decide_true, decide_false, Int.toNat_natCast, Nat.zero_add, Nat.reduceAdd, beq_self_eq_true, Bool.and_true, Bool.true_and, if_true, Bool.false_eq_true, if_false, List.set_cons_zero, List.set_cons_succ, Bool.not_true, Bool.not_false, Bool.and_self]
    cases hc : lessS a0 (pk (l.getD i .x))
    · have := ih (i + 1) (by omega) fun j hj => by
        by_cases hji : j = i
        · subst hji; exact hc
        · exact h2 j (by omega)
      rw [filter_take hi, e] at this
      simp only [hc, cond_false]
      obtain ⟨k, k1, k2⟩ := this
      refine ⟨k, k1, ?_⟩
      by_cases heq : a0 = pk (l.getD i .x)
      · have hq : a0 = ((l.getD i .x).cells.getD 0 .x).toS := heq
        simp only [dT heq, okC_nil, okC_agg, okC_i, okC_b, okC_s, okC_imm, okL_i, okL_b, okL_s, okL_sl, okS_i, okS_b, okS_s, okS_sl, okS_agg, okS_tup, okS_nil, okS_cons, cells_agg, cells_i, cells_b, cells_s, cells_imm, toI_i, toB_b, toS_s, toL_imm, nth_agg, nth_tup, put_agg, put_i, put_b, put_s, put_imm, setCells, List.getD_cons_zero, List.getD_cons_succ, bSh_b, bSh_i, bSh_s, bSh_sl, bSh_some, cond_true, cond_false, decide_true, decide_false, Int.toNat_natCast, Nat.zero_add, Nat.reduceAdd, beq_self_eq_true, Bool.and_true, Bool.true_and, if_true, Bool.false_eq_true, if_false, List.set_cons_zero, List.set_cons_succ, Bool.not_true, Bool.not_false, Bool.and_self, List.append_nil] at k2
        simp only [dT hq, okC_nil, okC_agg, okC_i, okC_b, okC_s, okC_imm, okL_i, okL_b, okL_s, okL_sl, okS_i, okS_b, okS_s, okS_sl, okS_agg, okS_tup, okS_nil, okS_cons, cells_agg, cells_i, cells_b, cells_s, cells_imm, toI_i, toB_b, toS_s, toL_imm, nth_agg, nth_tup, put_agg, put_i, put_b, put_s, put_imm, setCells, List.getD_cons_zero, List.getD_cons_succ, bSh_b, bSh_i, bSh_s, bSh_sl, bSh_some, cond_true, cond_false, decide_true, decide_false, Int.toNat_natCast, Nat.zero_add, Nat.reduceAdd, beq_self_eq_true, Bool.and_true, Bool.true_and, if_true, Bool.false_eq_true, if_false, List.set_cons_zero, List.set_cons_succ, Bool.not_true, Bool.not_false, Bool.and_self]
        exact k2
      · have hq : ¬ a0 = ((l.getD i .x).cells.getD 0 .x).toS := heq
        simp only [dF heq, okC_nil, okC_agg, okC_i, okC_b, okC_s, okC_imm, okL_i, okL_b, okL_s, okL_sl, okS_i, okS_b, okS_s, okS_sl, okS_agg, okS_tup, okS_nil, okS_cons, cells_agg, cells_i, cells_b, cells_s, cells_imm, toI_i, toB_b, toS_s, toL_imm, nth_agg, nth_tup, put_agg, put_i, put_b, put_s, put_imm, setCells, List.getD_cons_zero, List.getD_cons_succ, bSh_b, bSh_i, bSh_s, bSh_sl, bSh_some, cond_true, cond_false, decide_true, decide_false, Int.toNat_natCast, Nat.zero_add, Nat.reduceAdd, beq_self_eq_true, Bool.and_true, Bool.true_and, if_true, Bool.false_eq_true, if_false, List.set_cons_zero, List.set_cons_succ, Bool.not_true, Bool.not_false, Bool.and_self] at k2
        simp only [dF hq, okC_nil, okC_agg, okC_i, okC_b, okC_s, okC_imm, okL_i, okL_b, okL_s, okL_sl, okS_i, okS_b, okS_s, okS_sl, okS_agg, okS_tup, okS_nil, okS_cons, cells_agg, cells_i, cells_b, cells_s, cells_imm, toI_i, toB_b, toS_s, toL_imm, nth_agg, nth_tup, put_agg, put_i, put_b, put_s, put_imm, setCells, List.getD_cons_zero, List.getD_cons_succ, bSh_b, bSh_i, bSh_s, bSh_sl, bSh_some, cond_true, cond_false, decide_true, decide_false, Int.toNat_natCast, Nat.zero_add, Nat.reduceAdd, beq_self_eq_true, Bool.and_true, Bool.true_and, if_true, Bool.false_eq_true, if_false, List.set_cons_zero, List.set_cons_succ, Bool.not_true, Bool.not_false, Bool.and_self]
        exact k2
    · have hne : a0 ≠ pk (l.getD i .x) := less_ne hc
      have hF : l.filter (stays r) = (l.take i).filter (stays r) ++ (l.drop i).filter (stays r) := by rw [← List.filter_append, List.take_append_drop]
      have hlate := spec_late h hr (l.length - (i + 1)) (i + 1) ((l.take i).filter (stays r) ++ [AV.agg [(.s a0), (.s a3)]] ++ [l.getD i .x]) (by omega) (rm3 (Nat.le_trans (List.length_filter_le (stays r) (l.take i)) (by rw [List.length_take]; omega)) _ _)
      rw [← hre] at hlate
      refine ⟨((l.take i).filter (stays r)).length, ⟨by rw [hF]; simp, fun j hj => ?_, fun j g5 g6 => ?_⟩, ?_⟩
      · refine low i (by omega) h2 _ ?_
        have : (l.filter (stays r)).getD j .x = ((l.take i).filter (stays r)).getD j .x := by
          rw [hF, List.getD_eq_getElem?_getD, List.getD_eq_getElem?_getD, List.getElem?_append_left hj]
        rw [this]; exact getD_mem hj
      · have hmem : (l.filter (stays r)).getD j .x ∈ (l.drop i).filter (stays r) := by
          have : (l.filter (stays r)).getD j .x = ((l.drop i).filter (stays r)).getD (j - ((l.take i).filter (stays r)).length) .x := by
            rw [hF, List.getD_eq_getElem?_getD, List.getD_eq_getElem?_getD, List.getElem?_append_right g5]
          rw [this]
          refine getD_mem ?_
          rw [hF, List.length_append] at g6
          omega
        obtain ⟨h3, _⟩ := List.mem_filter.1 hmem
        obtain ⟨q, hq, h4⟩ := List.getElem_of_mem h3
        rw [List.length_drop] at hq
        rw [← h4, List.getElem_drop]
        have h5 : l[i + q] = l.getD (i + q) .x := by rw [List.getD_eq_getElem?_getD, List.getElem?_eq_getElem (by omega)]; rfl
        rw [h5]
        by_cases hq0 : q = 0
        · subst hq0; exact hc
        · exact less_trans hc (sorted_at hs (show i < i + q by omega) (by omega))
      · have hst : stays r (l.getD i .x) = true := by rw [e, dF hne]; rfl
        have ht : (l.filter (stays r)).take ((l.take i).filter (stays r)).length = (l.take i).filter (stays r) := by rw [hF, List.take_left]
        have hd : (l.filter (stays r)).drop ((l.take i).filter (stays r)).length = (l.drop i).filter (stays r) := by rw [hF, List.drop_left]
        have hnd : ¬ a0 = ((l.getD i .x).cells.getD 0 .x).toS := hne
        simp only [hc, hnd, okC_nil, okC_agg, okC_i, okC_b, okC_s, okC_imm, okL_i, okL_b, okL_s, okL_sl, okS_i, okS_b, okS_s, okS_sl, okS_agg, okS_tup, okS_nil, okS_cons, cells_agg, cells_i, cells_b, cells_s, cells_imm, toI_i, toB_b, toS_s, toL_imm, nth_agg, nth_tup, put_agg, put_i, put_b, put_s, put_imm, setCells, List.getD_cons_zero, List.getD_cons_succ, bSh_b, bSh_i, bSh_s, bSh_sl, bSh_some, cond_true, cond_false, decide_true, decide_false, Int.toNat_natCast, Nat.zero_add, Nat.reduceAdd, beq_self_eq_true, Bool.and_true, Bool.true_and, if_true, Bool.false_eq_true, if_false, List.set_cons_zero, List.set_cons_succ, Bool.not_true, Bool.not_false, Bool.and_self]
        rw [hlate, ht, hd, drop_getD hi, List.filter_cons, if_pos hst]
        simp only [List.append_assoc, List.cons_append, List.nil_append]

/-! What both answer. -/
theorem pair_nil : Rw (T103 1048576) 1048576 [] := ⟨by simp, fun y hy => by cases hy⟩
theorem applies {l : List AV} {r : AV} (h : Rw (T103 1048576) 1048576 l) (hr : T63 1048576 r) (hlen : (List.range' 0 l.length).all (okP l) = true → l.length ≤ 1048575) :
    ∃ (w s : List AV) (k : Int), Rw (T103 1048576) 1048576 w ∧ w.length ≤ s.length ∧ s.length ≤ 1048576 ∧ (∀ y, y ∈ s → T103 1048576 y) ∧ s.take w.length = w ∧
      dno E 19 [(.imm 2 l), r] [] = some (.tup [(.sl 0 [] none), (.i .i64 k)], [.live true false false 106 w]) ∧
      dno E 22 [(.imm 2 l), r] [] = some (.tup [(.sl 0 [] (some (0, w.length))), (.i .i64 k)], [.live true false false 106 s]) := by
  have hl := h.1
  have hr0 := hr
  obtain ⟨a0, a1, a2, a3, a4, rfl, w0, w1, w2, w3, w4, _⟩ := hr
  have vr := spec_rec hr0
  have vi := impl_rec hr0
  rw [f19o1_eq, f22o1_eq, spec_state h, impl_state h, vr, vi]
  simp only [bOwn_some, bOwnF_some, bOwnS_some, bOwnFS_some, okRs_nil, okRs_cons, okR_row, okR_same, okR_var, okR_gone, okS_so, okS_pr, okS_po, okLens_nil, okLens_same, okLens_row, okLens_var, row_live, flatR_live, flatL_nil, flatL_cons, flat_i, flat_b, flat_s, flat_sl, flat_agg, flat_tup, List.all_cons, List.all_nil, List.length_cons, List.length_nil, Nat.reduceLeDiff, Nat.le_refl, decide_true, Bool.and_self, mkL_length, List.headD_cons, okC_nil, okC_agg, okC_i, okC_b, okC_s, okC_imm, okL_i, okL_b, okL_s, okL_sl, okS_i, okS_b, okS_s, okS_sl, okS_agg, okS_tup, okS_nil, okS_cons, cells_agg, cells_i, cells_b, cells_s, cells_imm, toI_i, toB_b, toS_s, toL_imm, nth_agg, nth_tup, put_agg, put_i, put_b, put_s, put_imm, setCells, List.getD_cons_zero, List.getD_cons_succ, bSh_b, bSh_i, bSh_s, bSh_sl, bSh_some, cond_true, cond_false, decide_true, decide_false, Int.toNat_natCast, Nat.zero_add, Nat.reduceAdd, beq_self_eq_true, Bool.and_true, Bool.true_and, if_true, Bool.false_eq_true, if_false, List.set_cons_zero, List.set_cons_succ, Bool.not_true, Bool.not_false, Bool.and_self]
  cases hok : (List.range' 0 l.length).all (okP l)
  · exact ⟨[], [], 1, pair_nil, Nat.le_refl _, by simp, (fun y hy => by cases hy), rfl, rfl, rfl⟩
  have hl2 := hlen hok
  cases hrc : okR (.agg [(.s a0), (.i .i64 a1), (.i .i64 a2), (.s a3), (.s a4)])
  · exact ⟨[], [], 1, pair_nil, Nat.le_refl _, by simp, (fun y hy => by cases hy), rfl, rfl, rfl⟩
  have hall : ∀ i, i < l.length → okP l i = true := fun i hi => by
    have := List.all_eq_true.1 hok i (by simp [List.mem_range'_1, hi])
    exact this
  have hs := state_sorted hall
  obtain ⟨s, d1, d2, d3, d4⟩ := del_ap l h _ hr0
  obtain ⟨F, hF⟩ : ∃ F, F = l.filter (stays (.agg [(.s a0), (.i .i64 a1), (.i .i64 a2), (.s a3), (.s a4)])) := ⟨_, rfl⟩
  have hFl : F.length ≤ l.length := by rw [hF]; exact List.length_filter_le _ _
  have hFT : Rw (T103 1048576) 1048576 F := ⟨by omega, fun y hy => h.2 y (by rw [hF] at hy; exact (List.mem_filter.1 hy).1)⟩
  have hFs : F.Pairwise (fun a b => lessS (pk a) (pk b) = true) := by rw [hF]; exact hs.sublist List.filter_sublist
  have fs : flatVL s = true := flatVL_of fun y hy => by obtain ⟨_, _, rfl, _⟩ := d3 y hy; rfl
  rw [← hF] at d1 d4
  have hcl : dno E 108 [(.imm 2 l)] [] = some (.sl 0 [] none, [.live true false false 106 l]) := by
    rw [f108_eq, if_pos ⟨rfl, by simp only [room]; omega⟩]
  simp only [f66o1_eq, hcl, d1, fs, d2, bOwn_some, bOwnF_some, bOwnS_some, bOwnFS_some, okRs_nil, okRs_cons, okR_row, okR_same, okR_var, okR_gone, okS_so, okS_pr, okS_po, okLens_nil, okLens_same, okLens_row, okLens_var, row_live, flatR_live, flatL_nil, flatL_cons, flat_i, flat_b, flat_s, flat_sl, flat_agg, flat_tup, List.all_cons, List.all_nil, List.length_cons, List.length_nil, Nat.reduceLeDiff, Nat.le_refl, decide_true, Bool.and_self, mkL_length, List.headD_cons, okC_nil, okC_agg, okC_i, okC_b, okC_s, okC_imm, okL_i, okL_b, okL_s, okL_sl, okS_i, okS_b, okS_s, okS_sl, okS_agg, okS_tup, okS_nil, okS_cons, cells_agg, cells_i, cells_b, cells_s, cells_imm, toI_i, toB_b, toS_s, toL_imm, nth_agg, nth_tup, put_agg, put_i, put_b, put_s, put_imm, setCells, List.getD_cons_zero, List.getD_cons_succ, bSh_b, bSh_i, bSh_s, bSh_sl, bSh_some, cond_true, cond_false, decide_true, decide_false, Int.toNat_natCast, Nat.zero_add, Nat.reduceAdd, beq_self_eq_true, Bool.and_true, Bool.true_and, if_true, Bool.false_eq_true, if_false, List.set_cons_zero, List.set_cons_succ, Bool.not_true, Bool.not_false, Bool.and_self]
  by_cases hk : a2 = 1
  rotate_left
  · have hlate := spec_late h hr0 l.length 0 [] (by omega) (by simp)
    rw [List.drop_zero, ← hF] at hlate
    simp only [hk, AV.off, AV.cnt, bOwn_some, bOwnF_some, bOwnS_some, bOwnFS_some, okRs_nil, okRs_cons, okR_row, okR_same, okR_var, okR_gone, okS_so, okS_pr, okS_po, okLens_nil, okLens_same, okLens_row, okLens_var, row_live, flatR_live, flatL_nil, flatL_cons, flat_i, flat_b, flat_s, flat_sl, flat_agg, flat_tup, List.all_cons, List.all_nil, List.length_cons, List.length_nil, Nat.reduceLeDiff, Nat.le_refl, decide_true, Bool.and_self, mkL_length, List.headD_cons, okC_nil, okC_agg, okC_i, okC_b, okC_s, okC_imm, okL_i, okL_b, okL_s, okL_sl, okS_i, okS_b, okS_s, okS_sl, okS_agg, okS_tup, okS_nil, okS_cons, cells_agg, cells_i, cells_b, cells_s, cells_imm, toI_i, toB_b, toS_s, toL_imm, nth_agg, nth_tup, put_agg, put_i, put_b, put_s, put_imm, setCells, List.getD_cons_zero, List.getD_cons_succ, bSh_b, bSh_i, bSh_s, bSh_sl, bSh_some, cond_true, cond_false, decide_true, decide_false, Int.toNat_natCast, Nat.zero_add, Nat.reduceAdd, beq_self_eq_true, Bool.and_true, Bool.true_and, if_true, Bool.false_eq_true, if_false, List.set_cons_zero, List.set_cons_succ, Bool.not_true, Bool.not_false, Bool.and_self]
    refine ⟨F, s, 0, hFT, by omega, by omega, d3, d4, ?_, rfl⟩
    simpa using hlate
  subst hk
  have hFn : ∀ y, y ∈ F → pk y ≠ a0 := fun y hy => by
    rw [hF] at hy
    have h2 := (List.mem_filter.1 hy).2
    have : stays (.agg [(.s a0), (.i .i64 a1), (.i .i64 1), (.s a3), (.s a4)]) y = !decide (a0 = pk y) := rfl
    rw [this] at h2
    exact fun h => by simp [h] at h2
  obtain ⟨k, f, b1, b2⟩ := bin_search hFT hFs hFn
  obtain ⟨k', c1, c2⟩ := spec_early h hs hr0 l.length 0 (by omega) (fun j hj => by omega)
  rw [← hF] at c1 c2
  have : k' = k := c1.uniq b2
  subst this
  have hkl := b2.1
  have hsF : ((s.drop 0).take F.length) = F := by rw [List.drop_zero, d4]
  obtain ⟨S, hS⟩ : ∃ S, S = s.take k' ++ [.agg [(.s a0), (.s a3)]] ++ (s.take F.length).drop k' ++ s.drop (F.length + 1) := ⟨_, rfl⟩
  have hins : dno E 114 [(.sl 0 [] (some (0, F.length))), (.i .i64 (k' : Int)), (.sl 1 [] none)] [(.live true false false 106 s), (.live true false false 106 [(.agg [(.s a0), (.s a3)])])] =
      some (.sl 0 [] (some (0, F.length + 1)), [.live true false false 106 S, .live true false false 106 [(.agg [(.s a0), (.s a3)])]]) := by
    rw [f114_eq, if_pos ⟨⟨rfl, rfl, rfl⟩, ⟨by omega, by omega⟩, by omega, by simp only [room]; omega⟩, Int.toNat_natCast, hS]
  have hst : s.take k' = F.take k' := by rw [← d4, List.take_take, Nat.min_eq_left hkl]
  have hSl : S.length = (if s.length = F.length then F.length + 1 else s.length) := by
    rw [hS]
    simp only [List.length_append, List.length_take, List.length_drop, List.length_cons, List.length_nil]
    split <;> omega
  have hW : (F.take k' ++ [AV.agg [(.s a0), (.s a3)]] ++ F.drop k').length = F.length + 1 := by
    simp only [List.length_append, List.length_take, List.length_drop, List.length_cons, List.length_nil]; omega
  have hx : T103 1048576 (.agg [(.s a0), (.s a3)]) := ⟨a0, a3, rfl, w0, w3, trivial⟩
  have hST : ∀ y, y ∈ S → T103 1048576 y := fun y hy => by
    rw [hS] at hy
    simp only [List.mem_append, List.mem_singleton] at hy
    rcases hy with ((hy | hy) | hy) | hy
    · exact d3 y (List.mem_of_mem_take hy)
    · rw [hy]; exact hx
    · exact d3 y (List.mem_of_mem_take (List.mem_of_mem_drop hy))
    · exact d3 y (List.mem_of_mem_drop hy)
  have hSt : S.take (F.length + 1) = F.take k' ++ [AV.agg [(.s a0), (.s a3)]] ++ F.drop k' := by
    rw [hS, hst, d4, List.take_append_of_le_length (by rw [hW]; exact Nat.le_refl _), List.take_of_length_le (by rw [hW]; exact Nat.le_refl _)]
  have n1 : (!decide ((1 : Int) = 1)) = false := rfl
  simp only [n1, AV.off, AV.cnt, hsF, b1, hins, bOwn_some, bOwnF_some, bOwnS_some, bOwnFS_some, okRs_nil, okRs_cons, okR_row, okR_same, okR_var, okR_gone, okS_so, okS_pr, okS_po, okLens_nil, okLens_same, okLens_row, okLens_var, row_live, flatR_live, flatL_nil, flatL_cons, flat_i, flat_b, flat_s, flat_sl, flat_agg, flat_tup, List.all_cons, List.all_nil, List.length_cons, List.length_nil, Nat.reduceLeDiff, Nat.le_refl, decide_true, Bool.and_self, mkL_length, List.headD_cons, okC_nil, okC_agg, okC_i, okC_b, okC_s, okC_imm, okL_i, okL_b, okL_s, okL_sl, okS_i, okS_b, okS_s, okS_sl, okS_agg, okS_tup, okS_nil, okS_cons, cells_agg, cells_i, cells_b, cells_s, cells_imm, toI_i, toB_b, toS_s, toL_imm, nth_agg, nth_tup, put_agg, put_i, put_b, put_s, put_imm, setCells, List.getD_cons_zero, List.getD_cons_succ, bSh_b, bSh_i, bSh_s, bSh_sl, bSh_some, cond_true, cond_false, decide_true, decide_false, Int.toNat_natCast, Nat.zero_add, Nat.reduceAdd, beq_self_eq_true, Bool.and_true, Bool.true_and, if_true, Bool.false_eq_true, if_false, List.set_cons_zero, List.set_cons_succ, Bool.not_true, Bool.not_false, Bool.and_self]
  refine ⟨_, S, 0, ?_, ?_, ?_, hST, by rw [hW, hSt], ?_, by rw [hW]⟩
  · refine ⟨by rw [hW]; omega, fun y hy => ?_⟩
    simp only [List.mem_append, List.mem_singleton] at hy
    rcases hy with (hy | hy) | hy
    · exact hFT.2 y (List.mem_of_mem_take hy)
    · rw [hy]; exact hx
    · exact hFT.2 y (List.mem_of_mem_drop hy)
  · rw [hW, hSl]; split <;> omega
  · rw [hSl]; split <;> omega
  · simpa using c2

/-! The law. -/
theorem sz_many {l : List AV} (h : Rw (T103 9223372036854775807) 9223372036854775807 l) (hk : ∀ i, i < l.length → 1 ≤ (pk (l.getD i .x)).size) : ∀ (n i : Nat) (left : Int), i + n = l.length → 0 ≤ left → left ≤ 1048576 → ∀ r : Int, f17_l1 l left i = some (.i .i64 r) → 0 ≤ r → r + (n : Int) ≤ left := by
  have hl := h.1
  intro n
  induction n with
  | zero =>
    intro i left h1 h2 h3 r h4 h5
    have : i = l.length := by omega
    subst this
    rw [f17_l1_eq, dF (Int.lt_irrefl _), cond_false] at h4
    cases h4
    omega
  | succ n ih =>
    intro i left h1 h2 h3 r h4 h5
    have hi : i < l.length := by omega
    have hT := h.at hi
    have h6 := hk i hi
    rw [f17_l1_eq, dT (show (i : Int) < ((l.length : Nat) : Int) by omega), cond_true, if_pos (by omega), Int.toNat_natCast, if_pos hT.ok, hT.eta] at h4
    obtain ⟨a0, a1, he, v0, v1, _⟩ := hT
    have h7 : 1 ≤ a0.size := by rw [he] at h6; exact h6
    rw [he, f59_eq, w64 (x := left - ((a0.size : Nat) : Int)) (by omega) (by omega)] at h4
    by_cases c1 : left - ((a0.size : Nat) : Int) < 0
    · simp only [c1, okC_nil, okC_agg, okC_i, okC_b, okC_s, okC_imm, okL_i, okL_b, okL_s, okL_sl, okS_i, okS_b, okS_s, okS_sl, okS_agg, okS_tup, okS_nil, okS_cons, cells_agg, cells_i, cells_b, cells_s, cells_imm, toI_i, toB_b, toS_s, toL_imm, nth_agg, nth_tup, put_agg, put_i, put_b, put_s, put_imm, setCells, List.getD_cons_zero, List.getD_cons_succ, bSh_b, bSh_i, bSh_s, bSh_sl, bSh_some, cond_true, cond_false, decide_true, decide_false, Int.toNat_natCast, Nat.zero_add, Nat.reduceAdd, beq_self_eq_true, Bool.and_true, Bool.true_and, if_true, Bool.false_eq_true, if_false, List.set_cons_zero, List.set_cons_succ, Bool.not_true, Bool.not_false, Bool.and_self] at h4
      simp at h4
      omega
    simp only [c1, okC_nil, okC_agg, okC_i, okC_b, okC_s, okC_imm, okL_i, okL_b, okL_s, okL_sl, okS_i, okS_b, okS_s, okS_sl, okS_agg, okS_tup, okS_nil, okS_cons, cells_agg, cells_i, cells_b, cells_s, cells_imm, toI_i, toB_b, toS_s, toL_imm, nth_agg, nth_tup, put_agg, put_i, put_b, put_s, put_imm, setCells, List.getD_cons_zero, List.getD_cons_succ, bSh_b, bSh_i, bSh_s, bSh_sl, bSh_some, cond_true, cond_false, decide_true, decide_false, Int.toNat_natCast, Nat.zero_add, Nat.reduceAdd, beq_self_eq_true, Bool.and_true, Bool.true_and, if_true, Bool.false_eq_true, if_false, List.set_cons_zero, List.set_cons_succ, Bool.not_true, Bool.not_false, Bool.and_self] at h4
    rw [w64 (x := left - ((a0.size : Nat) : Int) - ((a1.size : Nat) : Int)) (by omega) (by omega)] at h4
    by_cases c2 : left - ((a0.size : Nat) : Int) - ((a1.size : Nat) : Int) < 0
    · simp only [c2, okC_nil, okC_agg, okC_i, okC_b, okC_s, okC_imm, okL_i, okL_b, okL_s, okL_sl, okS_i, okS_b, okS_s, okS_sl, okS_agg, okS_tup, okS_nil, okS_cons, cells_agg, cells_i, cells_b, cells_s, cells_imm, toI_i, toB_b, toS_s, toL_imm, nth_agg, nth_tup, put_agg, put_i, put_b, put_s, put_imm, setCells, List.getD_cons_zero, List.getD_cons_succ, bSh_b, bSh_i, bSh_s, bSh_sl, bSh_some, cond_true, cond_false, decide_true, decide_false, Int.toNat_natCast, Nat.zero_add, Nat.reduceAdd, beq_self_eq_true, Bool.and_true, Bool.true_and, if_true, Bool.false_eq_true, if_false, List.set_cons_zero, List.set_cons_succ, Bool.not_true, Bool.not_false, Bool.and_self] at h4
      simp at h4
      omega
    simp only [c2, okC_nil, okC_agg, okC_i, okC_b, okC_s, okC_imm, okL_i, okL_b, okL_s, okL_sl, okS_i, okS_b, okS_s, okS_sl, okS_agg, okS_tup, okS_nil, okS_cons, cells_agg, cells_i, cells_b, cells_s, cells_imm, toI_i, toB_b, toS_s, toL_imm, nth_agg, nth_tup, put_agg, put_i, put_b, put_s, put_imm, setCells, List.getD_cons_zero, List.getD_cons_succ, bSh_b, bSh_i, bSh_s, bSh_sl, bSh_some, cond_true, cond_false, decide_true, decide_false, Int.toNat_natCast, Nat.zero_add, Nat.reduceAdd, beq_self_eq_true, Bool.and_true, Bool.true_and, if_true, Bool.false_eq_true, if_false, List.set_cons_zero, List.set_cons_succ, Bool.not_true, Bool.not_false, Bool.and_self] at h4
    rw [w64 (x := (i : Int) + 1) (by omega) (by omega), show (i : Int) + 1 = ((i + 1 : Nat) : Int) by omega] at h4
    have := ih (i + 1) _ (by omega) (by omega) (by omega) r h4 h5
    omega
theorem pure (l : List AV) (h : Rw (T103 9223372036854775807) 9223372036854775807 l) (el : AV) (hel : T63 9223372036854775807 el) : den E 5 [(.imm 2 l), el] [] = some (.b true) := by
  obtain ⟨t, ht, hq⟩ := sz17 h 1048576 (by omega) (by omega)
  have hel0 := hel
  obtain ⟨b0, b1, b2, b3, b4, rfl, _⟩ := hel
  rw [f5_eq, ht]
  simp only [bSh_i, toI_i]
  rcases hq with hq | ⟨h0, h1, hT⟩
  · simp only [hq, decide_true, cond_true]
  have hn : ¬ t < 0 := by omega
  simp only [hn, decide_false, cond_false]
  obtain ⟨t2, ht2, hq2⟩ := sz18 hel0 t h0 h1
  rw [ht2]
  simp only [bSh_i, toI_i]
  rcases hq2 with hq2 | ⟨h2, h3, hR⟩
  · simp only [hq2, decide_true, cond_true]
  have hn2 : ¬ t2 < 0 := by omega
  simp only [hn2, decide_false, cond_false]
  have hlen : (List.range' 0 l.length).all (okP l) = true → l.length ≤ 1048575 := fun hok => by
    have hk : ∀ i, i < l.length → 1 ≤ (pk (l.getD i .x)).size := fun i hi => by
      have := List.all_eq_true.1 hok i (by simp [List.mem_range'_1, hi])
      unfold okP keyOk at this
      simp only [Bool.and_eq_true, decide_eq_true_eq] at this
      omega
    have hl := hT.1
    rw [f17_eq, w64 (x := 1048576 - ((l.length : Nat) : Int)) (by omega) (by omega), dF (show ¬ 1048576 - ((l.length : Nat) : Int) < 0 by omega), cond_false] at ht
    have := sz_many h hk l.length 0 _ (by omega) (by omega) (by omega) t ht h0
    omega
  obtain ⟨w, s, k, u0, u1, u2, u3, u4, s1, s2⟩ := applies hT hR hlen
  have hl := hT.1
  have hwl := u0.1
  have e0 := own_Pair hT
  have e1 := to21 hR
  have q0 := eq23 hT
  have q1 := eq23 u0
  have m0 := mark_Pair hT 1 (by omega) (by omega)
  obtain ⟨r', m2, l1, l2⟩ := markw_Pair (fun i hi => u3 _ (getD_mem hi)) u2 w.length u1 1 (by omega) (by omega)
  have g1 := held_Pair w.length hwl 1 (by omega) (by omega)
  have k0 : ¬ 1 + 2 * ((l.length : Nat) : Int) < 0 := by omega
  have k1 : ¬ 1 + 2 * ((w.length : Nat) : Int) < 0 := by omega
  have f0 := flat_Pair u0
  have f1 : flatVL s = true := flatVL_of fun y hy => by obtain ⟨_, _, rfl, _⟩ := u3 y hy; rfl
  simp only [e0, e1, s1, s2, q0, q1, m0, m2, g1, k0, k1, f0, f1, u4, l1, l2, AV.off, AV.cnt, List.drop_zero, bOwn_some, bOwnF_some, bOwnS_some, bOwnFS_some, okRs_nil, okRs_cons, okR_row, okR_same, okR_var, okR_gone, okS_so, okS_pr, okS_po, okLens_nil, okLens_same, okLens_row, okLens_var, row_live, flatR_live, flatL_nil, flatL_cons, flat_i, flat_b, flat_s, flat_sl, flat_agg, flat_tup, List.all_cons, List.all_nil, List.length_cons, List.length_nil, Nat.reduceLeDiff, Nat.le_refl, decide_true, Bool.and_self, mkL_length, List.headD_cons, okC_nil, okC_agg, okC_i, okC_b, okC_s, okC_imm, okL_i, okL_b, okL_s, okL_sl, okS_i, okS_b, okS_s, okS_sl, okS_agg, okS_tup, okS_nil, okS_cons, cells_agg, cells_i, cells_b, cells_s, cells_imm, toI_i, toB_b, toS_s, toL_imm, nth_agg, nth_tup, put_agg, put_i, put_b, put_s, put_imm, setCells, List.getD_cons_zero, List.getD_cons_succ, bSh_b, bSh_i, bSh_s, bSh_sl, bSh_some, cond_true, cond_false, decide_true, decide_false, Int.toNat_natCast, Nat.zero_add, Nat.reduceAdd, beq_self_eq_true, Bool.and_true, Bool.true_and, if_true, Bool.false_eq_true, if_false, List.set_cons_zero, List.set_cons_succ, Bool.not_true, Bool.not_false, Bool.and_self]
end Go.Proofs.Ytkpmplggbbiebaa.IApplyRecord
