/- Loads, stores, new variables and rows: what the machine does is what the trees tell. No condition beyond what each theorem states. -/
import Derived.Test.YtkicholhkoahhaaItF
import Derived.Laws.CopyRow
import Derived.Laws.Cells
namespace Go.Proofs.YtkicholhkoahhaaIT
open Go
variable {P : Program} {E : Env}

/-! An answer of the right shape is its parts. -/
mutual
theorem reify_ok : ∀ (h : Sh) (a : AV), okSh h a = true → reify h a = a
  | .i k, .i k' n, h => by simp only [okSh, decide_eq_true_eq] at h; subst h; rfl
  | .b, .b y, _ => rfl
  | .s, .s y, _ => rfl
  | .sl e z, .imm z' es, h => by simp only [okSh, beq_iff_eq] at h; subst h; rfl
  | .so j, .sl j' [] none, h => by simp only [okSh, beq_iff_eq] at h; subst h; rfl
  | .pr j, .sl j' [] (some w), h => by simp only [okSh, beq_iff_eq] at h; subst h; rfl
  | .po j, .pt j' [] 0 0, h => by simp only [okSh, beq_iff_eq] at h; subst h; rfl
  | .agg l, .agg cs, h => by simp only [okSh] at h; simp only [reify, reifyL_ok l cs (.agg cs) 0 h (fun i => by simp [AV.nth])]
  | .tup l, .tup cs, h => by simp only [okSh] at h; simp only [reify, reifyL_ok l cs (.tup cs) 0 h (fun i => by simp [AV.nth])]
theorem reifyL_ok : ∀ (l : List Sh) (cs : List AV) (a : AV) (n : Nat), okShL l cs = true → (∀ i, a.nth (n + i) = cs.getD i .x) → reifyL l a n = cs
  | [], [], _, _, _, _ => rfl
  | h :: hs, c :: cs, a, n, ho, hn => by
    simp only [okShL, Bool.and_eq_true] at ho
    simp only [reifyL]
    rw [show a.nth n = c by simpa using hn 0, reify_ok h c ho.1, reifyL_ok hs cs a (n + 1) ho.2 fun i => by have := hn (i + 1); rw [show n + 1 + i = n + (i + 1) by omega, this]; simp]
end

theorem okLeaf_lt {lit : Bool} {h : Sh} {cs : List AV} {k : Nat} (ho : okLeaf lit h (cs.getD k .x) = true) : ∃ y, cs[k]? = some y ∧ cs.getD k .x = y := by
  rw [List.getD_eq_getElem?_getD] at ho ⊢
  cases hc : cs[k]? with
  | some y => exact ⟨y, rfl, by simp⟩
  | none =>
    rw [hc] at ho
    unfold okLeaf at ho
    cases lit
    · simp only [Option.getD_none, Bool.false_eq_true, if_false] at ho
      cases h <;> simp [okSh, isE] at ho
    · simp at ho
theorem okLeaf_nw {lit : Bool} {h : Sh} {y : AV} (ho : okLeaf lit h y = true) : ∀ e es, y ≠ .nw e es := by
  rintro e es rfl
  unfold okLeaf at ho
  cases lit
  · simp only [Bool.false_eq_true, if_false] at ho
    cases h <;> simp [okSh, isE] at ho
  · simp at ho
theorem okLeaf_sh {h : Sh} {y : AV} (ho : okLeaf false h y = true) : okSh h y = true ∨ isE h y = true := by
  unfold okLeaf at ho
  simp only [Bool.false_eq_true, if_false] at ho
  rw [← Bool.or_eq_true]
  cases h <;> first | exact ho | simp at ho
theorem isE_ok {c : Cx} {h : Sh} {y : AV} {v : Value} (ho : isE h y = true) (hv : V P c y v) : V P c (reify h y) v := by
  unfold isE at ho
  split at ho
  · cases hv with
    | vi hv =>
      simp only [reify, AV.toL]
      cases hv with
      | imm0 _ A cap => exact .vi (.imm0 _ A cap)
      | imm _ a cap sz f _ _ _ _ _ _ => exact .vi (.imm0 _ (some a) cap)
  · exact hv
  · cases ho
theorem ldLeaf_ok {c : Cx} {lit : Bool} {h : Sh} {y : AV} {v : Value} (ho : okLeaf lit h y = true) (hv : V P c y v) : V P c (ldLeaf lit h y) v := by
  unfold ldLeaf
  cases lit
  · simp only [Bool.false_eq_true, if_false]
    rcases okLeaf_sh ho with ho | ho
    · rw [reify_ok h y ho]
      exact hv
    · exact isE_ok ho hv
  · exact hv

theorem ldCells_ok {c : Cx} {lit : Bool} {el : AV} {B : Addr} (hc : ∀ (t : Nat) (y : AV), el.cells[t]? = some y → ∃ v, c.w.cell? (B.add t) = some v ∧ ((∀ e es, y ≠ .nw e es) → V P c y v)) : ∀ (hs : List Sh) (k : Nat), okCells lit el k hs = true →
    ∃ vs : List Value, vs.length = hs.length ∧ (∀ j v, vs[j]? = some v → c.w.cell? (B.add (k + j)) = some v) ∧ (ldCells lit el k hs).length = vs.length ∧ ∀ (t : Nat) (y : AV) (v : Value), (ldCells lit el k hs)[t]? = some y → vs[t]? = some v → V P c y v
  | [], k, _ => ⟨[], rfl, by simp, rfl, by simp⟩
  | h :: hs, k, ho => by
    simp only [okCells, Bool.and_eq_true] at ho
    obtain ⟨y, h1, h2⟩ := okLeaf_lt ho.1
    obtain ⟨v, h3, h4⟩ := hc k y h1
    obtain ⟨vs, h5, h6, h7, h8⟩ := ldCells_ok hc hs (k + 1) ho.2
    refine ⟨v :: vs, by simp [h5], fun j v' hj => ?_, by simp [ldCells, h7], fun t y' v' ht hv' => ?_⟩
    · cases j with
      | zero => simp only [List.getElem?_cons_zero, Option.some.injEq] at hj; subst hj; exact h3
      | succ j => rw [show k + (j + 1) = k + 1 + j by omega]; exact h6 j v' (by simpa using hj)
    · cases t with
      | zero =>
        simp only [ldCells, List.getElem?_cons_zero, Option.some.injEq] at ht hv'
        subst ht; subst hv'
        rw [h2] at ho ⊢
        exact ldLeaf_ok ho.1 (h4 (okLeaf_nw ho.1))
      | succ t => exact h8 t y' v' (by simpa [ldCells] using ht) (by simpa using hv')

theorem load_ok {c : Cx} {lit : Bool} {el : AV} {B : Addr} {t : TypeId} {ti : TI} {k : Nat} (ht : TyOk P t ti) (hc : ∀ (t : Nat) (y : AV), el.cells[t]? = some y → ∃ v, c.w.cell? (B.add t) = some v ∧ ((∀ e es, y ≠ .nw e es) → V P c y v))
    (ho : okCells lit el k ti.sh.leaves = true) : ∃ v, (Instr.loadAt t (.pointer (some (B.add k)))).run P c.w = .ok v c.w ∧ V P c (ofCells ti.sh (ldCells lit el k ti.sh.leaves)) v := by
  obtain ⟨vs, h1, h2, h3, h4⟩ := ldCells_ok hc _ k ho
  have hl := ht.leaves
  by_cases ha : ti.sh.isAgg = true
  · obtain ⟨l, hsh⟩ : ∃ l, ti.sh = .agg l := by cases hs : ti.sh <;> simp [hs, Sh.isAgg] at ha ⊢
    refine ⟨.agg vs.toArray, ?_, ?_⟩
    · have hr : (loadCells (B.add k) ti.size).run P c.w = .ok vs.toArray c.w := by
        rw [← hl, ← h1]
        exact run_loadCells_list c.w (B.add k) vs fun j v hj => by rw [Addr.add_add]; exact h2 j v hj
      simp [Instr.loadAt, Instr.sureAddr, loadVar, ht.isAgg, ha, ht.sizeOf, hr]
    · rw [hsh] at h3 h4 ⊢
      exact .agg _ vs h3 h4
  · have ha' : ti.sh.isAgg = false := by simpa using ha
    obtain ⟨h, hsh, hof⟩ : ∃ h, ti.sh.leaves = [h] ∧ ∀ cs, ofCells ti.sh cs = cs.headD .x := by cases hs : ti.sh <;> simp_all [Sh.leaves, Sh.isAgg, ofCells]
    rw [hsh] at h1 h3 h4 ⊢
    obtain ⟨v, rfl⟩ : ∃ v, vs = [v] := by
      match vs, h1 with
      | [v], _ => exact ⟨v, rfl⟩
    refine ⟨v, ?_, ?_⟩
    · have hcell := h2 0 v rfl
      simp [Instr.loadAt, Instr.sureAddr, loadVar, ht.isAgg, ha', Go.load, Sem.run, show c.w.cell? (B.add k) = some v by simpa using hcell]
    · rw [hof]
      exact h4 0 _ v (by simp [ldCells]) rfl

theorem V.inv_ip {c : Cx} {el : AV} {k : Nat} {v : Value} (h : V P c (.ip el k) v) : ∃ B : Addr, v = .pointer (some (B.add k)) ∧ ∀ (t : Nat) (y : AV), el.cells[t]? = some y → ∃ v, c.w.cell? (B.add t) = some v ∧ V P c y v := by
  cases h with
  | vi h => cases h with | ip _ _ a f hn hlt hc hv => exact ⟨a, rfl, fun t y ht => ⟨f t, (hc t y ht).1, .vi (hv t y ht)⟩⟩

/-- A root's own cells. -/
theorem V.inv_pt {c : Cx} {r m k : Nat} {v : Value} (hm : Mem P c) (h : V P c (.pt r [] m k) v) {mv rf nest : Bool} {te : Nat} {es : List AV} (hr : c.σ.getD r .dead = .live mv rf nest te es) :
    r < c.σ.length ∧ c.D r ∧ ∃ b cs cap, c.j r [] = some b ∧ m < es.length ∧ v = .pointer (some ((⟨b, m * P.cellsOf te, none⟩ : Addr).add k)) ∧
      c.w.heap[b]? = some (.cells cs te (0, 0)) ∧ cs.size = cap * P.cellsOf te ∧ es.length ≤ cap ∧ cap ≤ maxLen ∧
      ∀ (m : Nat) (el : AV), es[m]? = some el → el.cells.length = P.cellsOf te ∧ ∀ (t : Nat) (y : AV), el.cells[t]? = some y → ∃ v, cs[m * P.cellsOf te + t]? = some v ∧ v.oneCell' = true ∧ CellR P c r [] m t y v := by
  cases h with
  | vi h => cases h
  | pt _ _ _ _ _ hlt hd h =>
    have hn := nodeAt_live hr
    obtain ⟨b, h1, h2, h3, hne⟩ := h te es hn
    rcases hm.node r [] te es hd hn with ⟨_, h4⟩ | ⟨_, b', cs, cap, h4, h5, h6, h7, h8, h9⟩ | ⟨h4, _⟩
    · rw [h1] at h4; cases h4
    rotate_left
    · exact absurd h4 hne
    · rw [h1] at h4
      cases h4
      exact ⟨hlt, hd, b, cs, cap, h1, h2, by rw [h3, Addr.add_mid], h5, h6, h7, h8, h9⟩

theorem CellR.v {c : Cx} {r : Nat} {p : List (Nat × Nat)} {m t : Nat} {y : AV} {v : Value} (hnw : ∀ e es, y ≠ .nw e es) (h : CellR P c r p m t y v) : V P c y v := by
  unfold CellR at h
  cases y with
  | nw e es => exact (hnw e es rfl).elim
  | _ =>
    simp only at h
    split at h
    · exact h
    · exact .vi h

theorem evLoad_ok {t : TypeId} {A : AV} {c : Cx} {st : St} {R : Type} {K : AV → Option R} {r : R} {a : Value} (hE : EnvOk P E) (hm : Mem P c) (hσ : c.σ = st.σ) (ha : V P c A a) (h : evLoad E t A st K = some r) :
    ∃ v z, K v = some r ∧ (Instr.loadAt t a).run P c.w = .ok z c.w ∧ V P c v z := by
  unfold evLoad at h
  split at h
  · cases h
  · rename_i ti hti
    have ht := hE.tyo hti
    split at h
    · rename_i r0 m k
      split at h
      · rename_i rf te es hr
        rw [← hσ] at hr
        split at h
        · rename_i hok
          obtain ⟨_, _, b, cs, cap, h1, h2, rfl, h4, h5, h6, h7, h8⟩ := V.inv_pt hm ha hr
          have hel : es[m]? = some (es.getD m .x) := by simp [List.getD_eq_getElem?_getD, h2]
          obtain ⟨h9, h10⟩ := h8 m _ hel
          obtain ⟨v, h11, h12⟩ := load_ok (B := ⟨b, m * P.cellsOf te, none⟩) ht (fun t y hy => by
            obtain ⟨v, h13, _, h15⟩ := h10 t y hy
            exact ⟨v, by rw [Addr.add_mid, cell_of_row c.w b _ cs te (0, 0) h4]; exact h13, fun hnw => h15.v hnw⟩) hok
          exact ⟨_, v, h, h11, h12⟩
        · cases h
      · cases h
    · rename_i el k
      split at h
      · rename_i hok
        obtain ⟨B, rfl, hB⟩ := ha.inv_ip
        obtain ⟨v, h1, h2⟩ := load_ok ht (fun t y hy => by obtain ⟨v, h3, h4⟩ := hB t y hy; exact ⟨v, h3, fun _ => h4⟩) hok
        exact ⟨_, v, h, h1, h2⟩
      · cases h
    · cases h
end Go.Proofs.YtkicholhkoahhaaIT
