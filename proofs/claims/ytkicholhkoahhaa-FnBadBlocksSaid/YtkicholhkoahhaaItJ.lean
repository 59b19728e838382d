/- New variables and rows. No condition beyond what each theorem states. -/
import Derived.Test.YtkicholhkoahhaaItI
namespace Go.Proofs.YtkicholhkoahhaaIT
open Go
variable {P : Program} {E : Env}

theorem new_ok {c : Cx} (hm : Mem P c) (mv rf : Bool) (te : Nat) (hne : te ≠ mapT) (es : List AV) (cells : Array Value) (cap : Nat) (w' : World) (hs : Same c.w w') (hb : w'.heap[c.w.heap.size]? = some (.cells cells te (0, 0)))
    (hsz : cells.size = cap * P.cellsOf te) (hle : es.length ≤ cap) (hmax : cap ≤ maxLen)
    (hel : ∀ (m : Nat) (el : AV), es[m]? = some el → el.cells.length = P.cellsOf te ∧ ∀ (t : Nat) (y : AV), el.cells[t]? = some y → Plain y ∧ ∃ v, cells[m * P.cellsOf te + t]? = some v ∧ v.oneCell' = true ∧ if rf then V P c y v else VI c.N c.w y v) :
    Mem P (c.push (.live mv rf false te es) (some c.w.heap.size) w') ∧ Kp c (c.push (.live mv rf false te es) (some c.w.heap.size) w') ∧ Qt c (c.push (.live mv rf false te es) (some c.w.heap.size) w') ∧
      V P (c.push (.live mv rf false te es) (some c.w.heap.size) w') (.sl c.σ.length [] none) (.slice (some ⟨c.w.heap.size, 0, none⟩) es.length cap) ∧
      (0 < es.length → V P (c.push (.live mv rf false te es) (some c.w.heap.size) w') (.pt c.σ.length [] 0 0) (.pointer (some ⟨c.w.heap.size, 0, none⟩))) := by
  have hjb : ∀ b, some c.w.heap.size = some b → c.w.heap.size ≤ b := fun b h => by cases h; exact Nat.le_refl _
  have kp := kp_push c (.live mv rf false te es) (some c.w.heap.size) w' hs hjb fun b h => Cx.O_lt P hm h
  have hf : Flat es := fun m el t te' es' h1 h2 => ((hel m el h1).2 t _ h2).1.1 _ _ rfl
  have hlit : litAt (c.push (.live mv rf false te es) (some c.w.heap.size) w').σ c.σ.length [] = rf := by unfold litAt Cx.push; simp only; rw [getD_append_new]; simp
  have hj : (c.push (.live mv rf false te es) (some c.w.heap.size) w').j c.σ.length [] = some c.w.heap.size := by simp [Cx.push]
  have hnode : NodeR P (c.push (.live mv rf false te es) (some c.w.heap.size) w') c.σ.length [] te es := by
    refine .inr (.inl ⟨hne, c.w.heap.size, cells, cap, hj, hb, hsz, hle, hmax, fun m el h1 => ⟨(hel m el h1).1, fun t y h2 => ?_⟩⟩)
    obtain ⟨h3, v, h4, h5, h6⟩ := (hel m el h1).2 t y h2
    refine ⟨v, h4, h5, ?_⟩
    have goal : if litAt (c.push (.live mv rf false te es) (some c.w.heap.size) w').σ c.σ.length [] then V P (c.push (.live mv rf false te es) (some c.w.heap.size) w') y v else VI (c.push (.live mv rf false te es) (some c.w.heap.size) w').N (c.push (.live mv rf false te es) (some c.w.heap.size) w').w y v := by
      rw [hlit]
      cases rf
      · exact VI.gr kp.toGr h6
      · exact V.kp P kp h6
    unfold CellR
    cases y <;> first | exact goal | exact (h3.1 _ _ rfl).elim
  obtain ⟨h1, _⟩ := mem_push P hm mv rf false te es (some c.w.heap.size) w' hs hjb hf hnode
  have hnn : ∀ te' es', nodeAt (c.push (.live mv rf false te es) (some c.w.heap.size) w').σ c.σ.length [] = some (te', es') → te' = te ∧ es' = es := by
    intro te' es' h
    unfold nodeAt Cx.push at h
    simp only at h
    rw [getD_append_new] at h
    simp only [Root.node, nodeOf, Option.some.injEq, Prod.mk.injEq] at h
    exact ⟨h.1.symm, h.2.symm⟩
  refine ⟨h1, kp, Qt.push c _ _ w' hs hjb, .sl _ _ _ _ (by simp [Cx.push]) (.inr rfl) fun te' es' h => ?_, fun h0 => .pt _ _ _ _ _ (by simp [Cx.push]) (.inr rfl) (fun te' es' h => ?_) fun _ _ hp => by cases hp⟩
  · obtain ⟨rfl, rfl⟩ := hnn te' es' h
    rw [hj]
    exact ⟨cap, cells, hb, hsz, hle, hmax, rfl⟩
  · obtain ⟨rfl, rfl⟩ := hnn te' es' h
    exact ⟨_, hj, h0, by simp, hne⟩

theorem alloc_heap (w : World) (o : Obj) : (w.alloc o).heap[w.heap.size]? = some o := by
  show (w.heap.push o)[w.heap.size]? = some o
  simp

theorem ofCells_cells {t : TypeId} {ti : TI} (ht : TyOk P t ti) {cs : List AV} (hl : cs.length = ti.size) (hp : ∀ y, cs[0]? = some y → ∀ l, y ≠ .agg l) : (ofCells ti.sh cs).cells = cs := by
  by_cases ha : ti.sh.isAgg = true
  · obtain ⟨l, hsh⟩ : ∃ l, ti.sh = .agg l := by cases hs : ti.sh <;> simp [hs, Sh.isAgg] at ha ⊢
    rw [hsh]; rfl
  · have h1 := ht.size1 (by simpa using ha)
    obtain ⟨y, rfl⟩ : ∃ y, cs = [y] := by
      match cs, (show cs.length = 1 by omega) with
      | [y], _ => exact ⟨y, rfl⟩
    have hof : ofCells ti.sh [y] = y := by cases hs : ti.sh <;> simp_all [Sh.isAgg, ofCells]
    rw [hof]
    have hy := hp y rfl
    cases y <;> first | rfl | exact absurd rfl (hy _)

theorem evBox_ok {t : TypeId} {B : AV} {c : Cx} {st : St} {R : Type} {K : AV → St → Option R} {r : R} {x : Value} (hE : EnvOk P E) (hm : Mem P c) (hσ : c.σ = st.σ) (hx : V P c B x) (h : evBox E t B st K = some r) :
    ∃ v st' c' z, K v st' = some r ∧ (Instr.box t x).run P c.w = .ok z c'.w ∧ c'.σ = st'.σ ∧ Mem P c' ∧ V P c' v z ∧ Kp c c' ∧ Qt c c' ∧ st'.t = st.t := by
  unfold evBox at h
  split at h
  · cases h
  rename_i ti hti
  have ht := hE.tyo hti
  split at h <;> try (cases h; done)
  rename_i hvl
  split at h <;> try (cases h; done)
  rename_i cs σ1 hmv
  obtain ⟨vs, hl, hvs, hcells⟩ := hx.cellsv
  obtain ⟨c1, g1, g2, g3, g4, g5, g6, g7, g8, g9, g10⟩ := mvIn_ok true ti.sh.leaves B.cells st.σ c vs cs σ1 hσ hm ht.leafOk hmv hl hvs
  obtain rfl := g9 (.inl rfl)
  have hone : ∀ u ∈ vs, u.oneCell' = true := by
    intro u hu
    obtain ⟨i, hi⟩ := List.getElem?_of_mem hu
    have hi' : i < cs.length := by rw [g7]; exact (List.getElem?_eq_some_iff.1 hi).1
    exact (g8 i _ u (List.getElem?_eq_getElem hi') hi).1
  have hxc := hcells hone
  have hn : vs.length = ti.size := by rw [← hl]; exact hvl
  have hpos : 0 < ti.size := by obtain ⟨i, z, _, h2, _, _, h3, _⟩ := ht.info; omega
  have hof := ofCells_cells ht (cs := cs) (by rw [g7, hn]) fun y hy => (g8 0 y _ hy (List.getElem?_eq_getElem (by omega))).2.1.2
  have hel : ∀ (m : Nat) (el : AV), [ofCells ti.sh cs][m]? = some el → el.cells.length = P.cellsOf t ∧ ∀ (t' : Nat) (y : AV), el.cells[t']? = some y → Plain y ∧ ∃ v, x.cells[m * P.cellsOf t + t']? = some v ∧ v.oneCell' = true ∧ if true then V P c1 y v else VI c1.N c1.w y v := by
    intro m el h1
    cases m with
    | succ m => simp at h1
    | zero =>
      simp only [List.getElem?_cons_zero, Option.some.injEq] at h1
      subst h1
      rw [hof]
      refine ⟨by rw [g7, hn, ht.cells], fun t' y hy => ?_⟩
      have hyl : t' < vs.length := by rw [← g7]; exact (List.getElem?_eq_some_iff.1 hy).1
      obtain ⟨h2, h3, h4⟩ := g8 t' y _ hy (List.getElem?_eq_getElem hyl)
      refine ⟨h3, _, ?_, h2, h4⟩
      rw [Nat.zero_mul, Nat.zero_add, ← Array.getElem?_toList, hxc]
      exact List.getElem?_eq_getElem hyl
  obtain ⟨h1, h2, h3, _, h5⟩ := new_ok hm false true t ht.ne [ofCells ti.sh cs] x.cells 1 (c1.w.alloc (.cells x.cells t)) (Same.alloc _ _) (alloc_heap _ _) (by rw [← Array.length_toList, hxc, hn, ht.cells, Nat.one_mul]) (Nat.le_refl _) (by decide) hel
  refine ⟨_, _, _, .pointer (some ⟨c1.w.heap.size, 0, none⟩), h, ?_, ?_, h1, ?_, h2, h3, rfl⟩
  · rfl
  · simp [Cx.push, g1]
  · rw [← g1]; exact h5 (by simp)

theorem zeroLeaves_len : ∀ (hs : List Sh) (vs : List Value), zeroLeaves hs vs = true → hs.length = vs.length
  | [], [], _ => rfl
  | [], _ :: _, h => by simp [zeroLeaves] at h
  | _ :: _, [], h => by simp [zeroLeaves] at h
  | h :: hs, v :: vs, hz => by
    simp only [zeroLeaves, Bool.and_eq_true] at hz
    simp [zeroLeaves_len hs vs hz.2]
theorem TyOk.zsize {t : Nat} {ti : TI} (ht : TyOk P t ti) {z : Value} (hz : zeroOk ti.sh z = true) : z.cells.size = ti.size := by
  by_cases ha : ti.sh.isAgg = true
  · obtain ⟨l, hsh⟩ : ∃ l, ti.sh = .agg l := by cases hs : ti.sh <;> simp [hs, Sh.isAgg] at ha ⊢
    rw [hsh] at hz
    have hl := ht.leaves
    rw [hsh] at hl
    cases z <;> simp only [zeroOk] at hz <;> first | (cases hz; done) | skip
    have := zeroLeaves_len _ _ hz
    simp only [Sh.leaves] at hl
    simp [Value.cells, ← hl, this]
  · rw [ht.size1 (by simpa using ha)]
    have h1 : z.oneCell' = true := by cases hs : ti.sh <;> simp_all [Sh.isAgg, zeroOk]
    cases z <;> first | rfl | simp [Value.oneCell'] at h1

theorem zero_leaf {N : Nat → Prop} {w : World} (mem : Bool) {h : Sh} {v : Value} (hz : zeroLeaf h v = true) : VI N w (zero mem h) v := by
  cases h with
  | i k => cases v <;> simp only [zeroLeaf, Bool.and_eq_true, decide_eq_true_eq] at hz <;> first | (cases hz; done) | (obtain ⟨rfl, rfl⟩ := hz; exact .i _ _)
  | b => cases v <;> simp only [zeroLeaf] at hz <;> first | (cases hz; done) | (simp at hz; subst hz; exact .b _)
  | s => cases v <;> simp only [zeroLeaf, decide_eq_true_eq] at hz <;> first | (cases hz; done) | (subst hz; exact .s _)
  | sl e z =>
    unfold zeroLeaf at hz
    split at hz <;> first | (cases hz; done) | skip
    all_goals (try (rename_i h1; cases h1; done))
    all_goals first
      | (cases mem
         · exact .nils _
         · exact .imm0 _ _ _)
      | skip
  | fn => exact .x _
  | pt =>
    unfold zeroLeaf at hz
    split at hz <;> first | (cases hz; done) | skip
    all_goals first | exact .nilp | (rename_i h1; cases h1; done)
  | _ => cases v <;> simp [zeroLeaf] at hz
theorem zeroL_ok {N : Nat → Prop} {w : World} (mem : Bool) : ∀ (hs : List Sh) (vs : List Value), zeroLeaves hs vs = true → (zeroL mem hs).length = vs.length ∧ ∀ (t : Nat) (y : AV), (zeroL mem hs)[t]? = some y → ∃ v, vs[t]? = some v ∧ v.oneCell' = true ∧ VI N w y v
  | [], [], _ => ⟨rfl, by simp [zeroL]⟩
  | [], _ :: _, h => by simp [zeroLeaves] at h
  | _ :: _, [], h => by simp [zeroLeaves] at h
  | h :: hs, v :: vs, hz => by
    simp only [zeroLeaves, Bool.and_eq_true] at hz
    obtain ⟨h1, h2⟩ := zeroL_ok mem hs vs hz.2
    refine ⟨by simp [zeroL, h1], fun t y hy => ?_⟩
    cases t with
    | zero =>
      simp only [zeroL, List.getElem?_cons_zero, Option.some.injEq] at hy
      subst hy
      exact ⟨v, rfl, hz.1.2, zero_leaf mem hz.1.1⟩
    | succ t => exact h2 t y (by simpa [zeroL] using hy)
end Go.Proofs.YtkicholhkoahhaaIT
