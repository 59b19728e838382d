/- Words for the pure proofs. No condition beyond what each theorem states. -/
import Derived.Test.YtkicholhkoahhaaIt1
namespace Go.Proofs.YtkicholhkoahhaaIT
open Go
variable {P : Program} {E : Env}

/-! Typed trees. -/
abbrev W64 (n : Int) : Prop := -9223372036854775808 ≤ n ∧ n ≤ 9223372036854775807
def El (E : Env) (sh : Sh) (el : AV) : Prop := el = ofCells sh el.cells ∧ el.cells.length = sh.leaves.length ∧ ∀ (k : Nat) (h : Sh) (c : AV), sh.leaves[k]? = some h → el.cells[k]? = some c → WL E h c
theorem WL.row {e z : Nat} {te : TI} {y : AV} (hte : E.Γ e = some te) (h : WL E (.sl e z) y) : ∃ es, y = .imm z es ∧ es.length ≤ 9223372036854775807 ∧ ∀ el, el ∈ es → El E te.sh el := by
  cases h with
  | sl e z es te' h1 h2 h3 h4 h5 =>
    rw [hte] at h1
    cases h1
    exact ⟨es, rfl, h2, fun el hel => ⟨h3 el hel, h4 el hel, fun k h c hk hc => h5 el k h c hel hk hc⟩⟩
theorem WL.int {k : IntKind} {y : AV} (h : WL E (.i k) y) : ∃ n, y = .i k n ∧ (Lit.int k n).wf = true := by cases h with | i k n h => exact ⟨n, rfl, h⟩
theorem WL.bool {y : AV} (h : WL E .b y) : ∃ b, y = .b b := by cases h with | b b => exact ⟨b, rfl⟩
theorem WL.str {y : AV} (h : WL E .s y) : ∃ s, y = .s s ∧ s.size ≤ 9223372036854775807 := by cases h with | s s h => exact ⟨s, rfl, h⟩
theorem El.leaf {h : Sh} {y : AV} (hh : h.leaves = [h]) (ho : ∀ cs, ofCells h cs = cs.headD .x) (e : El E h y) : WL E h y := by
  obtain ⟨h1, h2, h3⟩ := e
  rw [hh] at h2 h3
  match hc : y.cells, h2 with
  | [c], _ =>
    have := h3 0 h c rfl (by rw [hc]; rfl)
    rw [ho, hc] at h1
    simp only [List.headD_cons] at h1
    rw [h1]; exact this
/-- The fields of a struct, one after the other. -/
inductive WLs (E : Env) : List Sh → List AV → Prop
  | nil : WLs E [] []
  | cons {h : Sh} {y : AV} {l : List Sh} {ys : List AV} : WL E h y → WLs E l ys → WLs E (h :: l) (y :: ys)
theorem WLs.mk : ∀ {l : List Sh} {ys : List AV}, ys.length = l.length → (∀ (k : Nat) (h : Sh) (y : AV), l[k]? = some h → ys[k]? = some y → WL E h y) → WLs E l ys
  | [], [], _, _ => .nil
  | [], _ :: _, h, _ => by simp at h
  | _ :: _, [], h, _ => by simp at h
  | h :: l, y :: ys, hl, hk => .cons (hk 0 h y rfl rfl) (WLs.mk (by simpa using hl) fun k h' y' g1 g2 => hk (k + 1) h' y' (by simpa using g1) (by simpa using g2))
theorem WLs.out {h : Sh} {l : List Sh} {ys : List AV} (w : WLs E (h :: l) ys) : ∃ y zs, ys = y :: zs ∧ WL E h y ∧ WLs E l zs := by cases w with | cons h1 h2 => exact ⟨_, _, rfl, h1, h2⟩
theorem WLs.end {ys : List AV} (w : WLs E [] ys) : ys = [] := by cases w; rfl
theorem El.agg {l : List Sh} {y : AV} (e : El E (.agg l) y) : ∃ cs, y = .agg cs ∧ WLs E l cs := by
  obtain ⟨h1, h2, h3⟩ := e
  exact ⟨y.cells, h1, WLs.mk h2 h3⟩
theorem wf_64 {n : Int} (h : (Lit.int .i64 n).wf = true) : W64 n := by
  have h2 : IntKind.i64.min = -9223372036854775808 := by decide
  have h3 : IntKind.i64.max = 9223372036854775807 := by decide
  simp only [Lit.wf, Bool.and_eq_true, decide_eq_true_eq, h2, h3] at h
  exact h
theorem wf_u8 {n : Int} (h : (Lit.int .u8 n).wf = true) : 0 ≤ n ∧ n ≤ 255 := by
  have h2 : IntKind.u8.min = 0 := by decide
  have h3 : IntKind.u8.max = 255 := by decide
  simp only [Lit.wf, Bool.and_eq_true, decide_eq_true_eq, h2, h3] at h
  exact h
theorem w64 {x : Int} (h1 : -9223372036854775808 ≤ x) (h2 : x ≤ 9223372036854775807) : IntKind.i64.wrap x = x := by
  have hb : (2 : Int) ^ IntKind.i64.bits = 18446744073709551616 := by decide
  have hc : (2 : Int) ^ (IntKind.i64.bits - 1) = 9223372036854775808 := by decide
  have hs : IntKind.i64.signed = true := rfl
  unfold IntKind.wrap
  simp only [hb, hc, hs, Bool.true_and, decide_eq_true_eq]
  split <;> omega

theorem dT {p : Prop} {i : Decidable p} (h : p) : @decide p i = true := by simp [h]
theorem dF {p : Prop} {i : Decidable p} (h : ¬ p) : @decide p i = false := by simp [h]

/-! Values laid open. -/
theorem cells_agg (cs : List AV) : (AV.agg cs).cells = cs := rfl
theorem cells_i (k : IntKind) (n : Int) : (AV.i k n).cells = [.i k n] := rfl
theorem cells_b (b : Bool) : (AV.b b).cells = [.b b] := rfl
theorem cells_s (s : ByteArray) : (AV.s s).cells = [.s s] := rfl
theorem cells_imm (z : Nat) (l : List AV) : (AV.imm z l).cells = [.imm z l] := rfl
theorem toI_i (k : IntKind) (n : Int) : (AV.i k n).toI = n := rfl
theorem toB_b (b : Bool) : (AV.b b).toB = b := rfl
theorem toS_s (s : ByteArray) : (AV.s s).toS = s := rfl
theorem toL_imm (z : Nat) (l : List AV) : (AV.imm z l).toL = l := rfl
theorem nth_agg (cs : List AV) (n : Nat) : (AV.agg cs).nth n = cs.getD n .x := rfl
theorem nth_tup (cs : List AV) (n : Nat) : (AV.tup cs).nth n = cs.getD n .x := rfl
theorem put_agg (cs vs : List AV) (k : Nat) : (AV.agg cs).putCells k vs = .agg (setCells cs k vs) := rfl
theorem put_i (k : IntKind) (n : Int) (v : AV) (j : Nat) : (AV.i k n).putCells j [v] = v := rfl
theorem put_b (b : Bool) (v : AV) (j : Nat) : (AV.b b).putCells j [v] = v := rfl
theorem put_s (b : ByteArray) (v : AV) (j : Nat) : (AV.s b).putCells j [v] = v := rfl
theorem put_imm (z : Nat) (l : List AV) (v : AV) (j : Nat) : (AV.imm z l).putCells j [v] = v := rfl
theorem okC_nil (el : AV) (k : Nat) : okCells false el k [] = true := rfl
theorem okC_agg (cs : List AV) (k : Nat) (h : Sh) (hs : List Sh) : okCells false (.agg cs) k (h :: hs) = (okLeaf false h (cs.getD k .x) && okCells false (.agg cs) (k + 1) hs) := rfl
theorem okC_i (k : IntKind) (n : Int) (j : Nat) (h : Sh) (hs : List Sh) : okCells false (.i k n) j (h :: hs) = (okLeaf false h ([AV.i k n].getD j .x) && okCells false (.i k n) (j + 1) hs) := rfl
theorem okC_b (b : Bool) (j : Nat) (h : Sh) (hs : List Sh) : okCells false (.b b) j (h :: hs) = (okLeaf false h ([AV.b b].getD j .x) && okCells false (.b b) (j + 1) hs) := rfl
theorem okC_s (b : ByteArray) (j : Nat) (h : Sh) (hs : List Sh) : okCells false (.s b) j (h :: hs) = (okLeaf false h ([AV.s b].getD j .x) && okCells false (.s b) (j + 1) hs) := rfl
theorem okC_imm (z : Nat) (l : List AV) (j : Nat) (h : Sh) (hs : List Sh) : okCells false (.imm z l) j (h :: hs) = (okLeaf false h ([AV.imm z l].getD j .x) && okCells false (.imm z l) (j + 1) hs) := rfl
theorem okL_i (k : IntKind) (n : Int) : okLeaf false (.i k) (.i k n) = true := by simp [okLeaf, okSh]
theorem okL_b (b : Bool) : okLeaf false .b (.b b) = true := rfl
theorem okL_s (b : ByteArray) : okLeaf false .s (.s b) = true := rfl
theorem okL_sl (e z : Nat) (l : List AV) : okLeaf false (.sl e z) (.imm z l) = true := by simp [okLeaf, okSh]
theorem okS_i (k : IntKind) (n : Int) : okSh (.i k) (.i k n) = true := by simp [okSh]
theorem okS_b (b : Bool) : okSh .b (.b b) = true := rfl
theorem okS_s (b : ByteArray) : okSh .s (.s b) = true := rfl
theorem okS_sl (e z : Nat) (l : List AV) : okSh (.sl e z) (.imm z l) = true := by simp [okSh]
theorem okS_agg (l : List Sh) (cs : List AV) : okSh (.agg l) (.agg cs) = okShL l cs := rfl
theorem okS_tup (l : List Sh) (cs : List AV) : okSh (.tup l) (.tup cs) = okShL l cs := rfl
theorem okS_nil : okShL [] [] = true := rfl
theorem okS_cons (h : Sh) (hs : List Sh) (c : AV) (cs : List AV) : okShL (h :: hs) (c :: cs) = (okSh h c && okShL hs cs) := rfl

/-! Results. -/
theorem bSh_b {R : Type} (b : Bool) (K : AV → Option R) : bSh .b (some (.b b)) K = K (.b b) := rfl
theorem bSh_s {R : Type} (b : ByteArray) (K : AV → Option R) : bSh .s (some (.s b)) K = K (.s b) := rfl
theorem bSh_i {R : Type} (k : IntKind) (n : Int) (K : AV → Option R) : bSh (.i k) (some (.i k n)) K = K (.i k n) := by simp [bSh, okSh]
theorem bSh_sl {R : Type} (e z : Nat) (l : List AV) (K : AV → Option R) : bSh (.sl e z) (some (.imm z l)) K = K (.imm z l) := by simp [bSh, okSh]
theorem bSh_some {R : Type} (sh : Sh) (a : AV) (K : AV → Option R) : bSh sh (some a) K = if okSh sh a then K a else none := rfl
theorem cond_andb (a x : Bool) : cond a (some (AV.b x)) (some (AV.b false)) = some (AV.b (a && x)) := by cases a <;> rfl
theorem cond_notb (a x : Bool) : cond (!a) (some (AV.b false)) (some (AV.b x)) = some (AV.b (a && x)) := by cases a <;> rfl
theorem cond_nb (a x : Bool) : cond a (some (AV.b false)) (some (AV.b x)) = some (AV.b (!a && x)) := by cases a <;> rfl
theorem cond_fb (a x : Bool) : cond (a == false) (some (AV.b x)) (some (AV.b false)) = some (AV.b (!a && x)) := by cases a <;> rfl
theorem cond_tb (a x : Bool) : cond (a == true) (some (AV.b x)) (some (AV.b false)) = some (AV.b (a && x)) := by cases a <;> rfl
theorem not_lt_b (a b : Int) : (!decide (a < b)) = decide (b ≤ a) := by by_cases h : a < b <;> simp [h] <;> omega
theorem not_le_b (a b : Int) : (!decide (a ≤ b)) = decide (b < a) := by by_cases h : a ≤ b <;> simp [h] <;> omega
theorem cond_orb (a x : Bool) : cond a (some (AV.b true)) (some (AV.b x)) = some (AV.b (a || x)) := by cases a <;> rfl

/-! Rows of typed trees; the families sz, to, eq. -/
def Rw (T : AV → Prop) (B : Nat) (l : List AV) : Prop := l.length ≤ B ∧ ∀ y, y ∈ l → T y
theorem Rw.at {T : AV → Prop} {B : Nat} {l : List AV} (h : Rw T B l) {i : Nat} (hi : i < l.length) : T (l.getD i .x) := by
  rw [List.getD_eq_getElem?_getD, List.getElem?_eq_getElem hi]
  exact h.2 _ (List.getElem_mem hi)
theorem Rw.mk {T : AV → Prop} {B : Nat} {l : List AV} (h : l.length ≤ B) (hT : ∀ i, i < l.length → T (l.getD i .x)) : Rw T B l := by
  refine ⟨h, fun y hy => ?_⟩
  obtain ⟨i, hi, rfl⟩ := List.getElem_of_mem hy
  have := hT i hi
  rwa [List.getD_eq_getElem?_getD, List.getElem?_eq_getElem hi] at this

/-- What is left of a weight: less than nothing, or so much, and then Q. -/
def Sz (o : Option AV) (left : Int) (Q : Prop) : Prop := ∃ r, o = some (.i .i64 r) ∧ (r < 0 ∨ (0 ≤ r ∧ r ≤ left ∧ Q))
theorem Sz.c {l1 left : Int} {o : Option AV} {Q : Prop} (h : 0 ≤ l1 → Sz o left Q) : Sz (cond (decide (l1 < 0)) (some (.i .i64 (-1))) o) left Q := by
  by_cases c : l1 < 0
  · exact ⟨-1, by simp [c], .inl (by decide)⟩
  · simp only [c, decide_false, cond_false]; exact h (by omega)
theorem Sz.mono {left left' : Int} {o : Option AV} {Q Q' : Prop} (h : Sz o left' Q) (hl : left' ≤ left) (hq : Q → Q') : Sz o left Q' := by
  obtain ⟨r, h1, h2⟩ := h
  refine ⟨r, h1, h2.imp id fun ⟨a, b, c⟩ => ⟨a, by omega, hq c⟩⟩
theorem Sz.done {left l1 : Int} {Q : Prop} (h0 : 0 ≤ l1) (h1 : l1 ≤ left) (hq : Q) : Sz (some (.i .i64 l1)) left Q := ⟨l1, rfl, .inr ⟨h0, h1, hq⟩⟩
/-- A call's weight. -/
theorem Sz.call {left l0 : Int} {o : Option AV} {K : AV → Option AV} {Q Q' : Prop} (h : Sz o l0 Q) (_ : l0 ≤ left) (hK : ∀ r, 0 ≤ r → r ≤ l0 → Q → Sz (K (.i .i64 r)) left Q') (hN : ∀ r, r < 0 → Sz (K (.i .i64 r)) left Q') : Sz (bSh (.i .i64) o K) left Q' := by
  obtain ⟨r, h1, h2⟩ := h
  rw [h1, bSh_i]
  rcases h2 with h2 | ⟨a, b, c⟩
  · exact hN r h2
  · exact hK r a b c
theorem Sz.neg {r left : Int} {o : Option AV} {Q : Prop} (h : r < 0) : Sz (cond (decide (r < 0)) (some (.i .i64 (-1))) o) left Q := ⟨-1, by simp [h], .inl (by decide)⟩
theorem sz_loop {L : Int → Int → Option AV} {n : Nat} {Pz : Nat → Prop}
    (step : ∀ (i : Nat) (left : Int), i < n → 0 ≤ left → left ≤ 1048576 → (∃ r, r < 0 ∧ L left i = some (.i .i64 r)) ∨ ∃ left', 0 ≤ left' ∧ left' ≤ left ∧ Pz i ∧ L left i = L left' ((i : Int) + 1))
    (last : ∀ left, L left n = some (.i .i64 left)) : ∀ (k i : Nat) (left : Int), i + k = n → 0 ≤ left → left ≤ 1048576 → Sz (L left i) left (∀ j, i ≤ j → j < n → Pz j)
  | 0, i, left, h, h0, h1 => by
    have : i = n := by omega
    subst this
    exact ⟨left, last left, .inr ⟨h0, Int.le_refl _, fun j _ _ => by omega⟩⟩
  | k + 1, i, left, h, h0, h1 => by
    rcases step i left (by omega) h0 h1 with ⟨r, hr, he⟩ | ⟨left', a, b, c, he⟩
    · exact ⟨r, he, .inl hr⟩
    · have := sz_loop step last k (i + 1) left' (by omega) a (by omega)
      rw [he]
      rw [show ((i : Int) + 1) = ((i + 1 : Nat) : Int) by omega]
      refine this.mono b fun hq j hj hjn => ?_
      by_cases hji : j = i
      · subst hji; exact c
      · exact hq j (by omega) hjn
theorem Sz.step {o : Option AV} {l0 : Int} {Q : Prop} {K : Int → Option AV} (h : Sz o l0 Q) {X : Option AV} (hX : ∀ r, o = some (.i .i64 r) → X = cond (decide (r < 0)) (some (.i .i64 (-1))) (K r)) :
    (∃ r, r < 0 ∧ X = some (.i .i64 r)) ∨ ∃ left', 0 ≤ left' ∧ left' ≤ l0 ∧ Q ∧ X = K left' := by
  obtain ⟨r, h1, h2⟩ := h
  rcases h2 with h2 | ⟨a, b, c⟩
  · exact .inl ⟨-1, by decide, by rw [hX r h1]; simp [h2]⟩
  · refine .inr ⟨r, a, b, c, ?_⟩
    rw [hX r h1]
    have : ¬ r < 0 := by omega
    simp [this]

theorem to_loop {L : Int → List AV → Option AV} {xs : List AV} {Z : AV} {z : Nat}
    (step : ∀ (i : Nat) (ys : List AV), i < xs.length → ys.length = xs.length → ys.getD i .x = Z → L i ys = L ((i : Int) + 1) (ys.set i (xs.getD i .x)))
    (last : ∀ ys : List AV, ys.length = xs.length → L xs.length ys = some (.imm z ys)) : L 0 (List.replicate xs.length Z) = some (.imm z xs) := by
  have key : ∀ (k i : Nat), i + k = xs.length → L i (xs.take i ++ List.replicate k Z) = some (.imm z xs) := by
    intro k
    induction k with
    | zero =>
      intro i h
      have : i = xs.length := by omega
      subst this
      simpa using last xs rfl
    | succ k ih =>
      intro i h
      have hi : i < xs.length := by omega
      have hl : (xs.take i).length = i := by rw [List.length_take]; omega
      rw [step i _ hi (by simp; omega) (by rw [List.getD_eq_getElem?_getD, List.getElem?_append_right (by omega), hl]; simp)]
      have : (xs.take i ++ List.replicate (k + 1) Z).set i (xs.getD i .x) = xs.take (i + 1) ++ List.replicate k Z := by
        rw [List.set_append_right _ _ (by omega), hl, Nat.sub_self, List.replicate_succ, List.set_cons_zero, List.getD_eq_getElem?_getD, List.getElem?_eq_getElem hi, List.take_succ_eq_append_getElem hi, List.append_assoc]
        rfl
      rw [this, show ((i : Int) + 1) = ((i + 1 : Nat) : Int) by omega]
      exact ih (i + 1) (by omega)
  simpa using key xs.length 0 (by omega)

theorem eq_loop {L : Int → Option AV} {n : Nat} {X : Option AV} (step : ∀ i : Nat, i < n → L i = L ((i : Int) + 1)) (last : L n = X) : L 0 = X := by
  have key : ∀ (k i : Nat), i + k = n → L i = X := by
    intro k
    induction k with
    | zero => intro i h; have : i = n := by omega
              subst this; exact last
    | succ k ih =>
      intro i h
      rw [step i (by omega), show ((i : Int) + 1) = ((i + 1 : Nat) : Int) by omega]
      exact ih (i + 1) (by omega)
  exact key n 0 (by omega)

/-- A loop that looks at each index for a fault. -/
theorem all_loop {L : Int → Option AV} {n : Nat} {X F : Option AV} {p : Nat → Bool} (step : ∀ i : Nat, i < n → L i = cond (p i) (L ((i : Int) + 1)) F) (last : L n = X) : ∀ (k i : Nat), i + k = n → L i = cond ((List.range' i k).all p) X F
  | 0, i, h => by have : i = n := by omega
                  subst this; simpa using last
  | k + 1, i, h => by
    rw [step i (by omega), List.range'_succ, List.all_cons]
    cases hp : p i with
    | false => simp
    | true =>
      rw [show ((i : Int) + 1) = ((i + 1 : Nat) : Int) by omega, all_loop step last k (i + 1) (by omega)]
      simp
theorem all_loop_from {L : Int → Option AV} {n : Nat} {X F : Option AV} {p : Nat → Bool} (s : Nat) (step : ∀ i : Nat, s ≤ i → i < n → L i = cond (p i) (L ((i : Int) + 1)) F) (last : L n = X) : ∀ (k i : Nat), s ≤ i → i + k = n → L i = cond ((List.range' i k).all p) X F
  | 0, i, _, h => by have : i = n := by omega
                     subst this; simpa using last
  | k + 1, i, hs, h => by
    rw [step i hs (by omega), List.range'_succ, List.all_cons]
    cases hp : p i with
    | false => simp
    | true =>
      rw [show ((i : Int) + 1) = ((i + 1 : Nat) : Int) by omega, all_loop_from s step last k (i + 1) (by omega) (by omega)]
      simp
/-- A loop that looks for the first index of a kind. -/
theorem find_loop {L : Int → Option AV} {n : Nat} {X : Option AV} {p : Nat → Bool} {F : Nat → Option AV} (step : ∀ i : Nat, i < n → L i = cond (p i) (F i) (L ((i : Int) + 1))) (last : L n = X) :
    ∀ (k i : Nat), i + k = n → (∃ j, i ≤ j ∧ j < n ∧ p j = true ∧ (∀ q, i ≤ q → q < j → p q = false) ∧ L i = F j) ∨ ((∀ q, i ≤ q → q < n → p q = false) ∧ L i = X)
  | 0, i, h => by
    have : i = n := by omega
    subst this
    exact .inr ⟨fun q h1 h2 => by omega, last⟩
  | k + 1, i, h => by
    have hs := step i (by omega)
    cases hp : p i with
    | true =>
      rw [hp] at hs
      exact .inl ⟨i, Nat.le_refl _, by omega, hp, fun q h1 h2 => by omega, hs⟩
    | false =>
      rw [hp, cond_false, show ((i : Int) + 1) = ((i + 1 : Nat) : Int) by omega] at hs
      rcases find_loop step last k (i + 1) (by omega) with ⟨j, a, b, c, d, e⟩ | ⟨a, b⟩
      · exact .inl ⟨j, by omega, b, c, fun q h1 h2 => by
          by_cases hq : q = i
          · subst hq; exact hp
          · exact d q (by omega) h2, hs.trans e⟩
      · exact .inr ⟨fun q h1 h2 => by
          by_cases hq : q = i
          · subst hq; exact hp
          · exact a q (by omega) h2, hs.trans b⟩

/-- Cell k grows from each element to the next. -/
def incr (l : List AV) (k i : Nat) : Bool := decide (i = 0) || decide (((l.getD (i - 1) .x).cells.getD k .x).toI < ((l.getD i .x).cells.getD k .x).toI)
theorem cond_cond_f {a b : Bool} {X : Option AV} : cond a (cond b X (some (AV.b false))) (some (AV.b false)) = cond (a && b) X (some (AV.b false)) := by cases a <;> rfl
end Go.Proofs.YtkicholhkoahhaaIT
