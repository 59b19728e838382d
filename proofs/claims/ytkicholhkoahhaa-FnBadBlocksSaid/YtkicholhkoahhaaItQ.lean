/- Rows that are built of their elements. No condition beyond what each theorem states. -/
import Derived.Test.YtkicholhkoahhaaItP
namespace Go.Proofs.YtkicholhkoahhaaIT
open Go
variable {P : Program} {E : Env}

/-- Elements and the cells that they lie in. -/
def ElR (P : Program) (c : Cx) (sz : Nat) (es : List AV) (cells : Array Value) : Prop :=
  ∀ (m : Nat) (el : AV), es[m]? = some el → el.cells.length = sz ∧ ∀ (t : Nat) (y : AV), el.cells[t]? = some y → ∃ v, cells[m * sz + t]? = some v ∧ V P c y v

theorem fillE_ok {c : Cx} {st : St} {a : Act} {n sz : Nat} (hm : Mem P c) (hσ : c.σ = st.σ) : ∀ (ps : List (Nat × Operand)) (es : List AV) (cells : Array Value), (∀ q ∈ ps, V P c (st.ev q.2) (a.eval q.2)) →
    ps.all (fun q => solid st.σ (st.ev q.2) && decide ((st.ev q.2).cells.length = sz) && decide (q.1 < n)) = true → es.length = n → cells.size = n * sz → ElR P c sz es cells →
    ∃ cells', Instr.fill (fun i => some (i * sz, sz)) cells (ps.map fun q => (q.1, a.eval q.2)) = some cells' ∧ (fillElems st ps es).length = n ∧ cells'.size = n * sz ∧ ElR P c sz (fillElems st ps es) cells'
  | [], es, cells, _, _, h1, h2, h3 => ⟨cells, rfl, h1, h2, h3⟩
  | (i, x) :: ps, es, cells, hv, hok, h1, h2, h3 => by
    simp only [List.all_cons, Bool.and_eq_true, decide_eq_true_eq] at hok
    obtain ⟨⟨⟨hs, hlen⟩, hi⟩, hok2⟩ := hok
    have hvx := hv (i, x) (List.mem_cons_self)
    obtain ⟨hc1, hc2⟩ := solid_cells hm hvx (by rw [hσ]; exact hs)
    simp only at hc1 hc2 hvx
    have hcs : (a.eval x).cells.size = sz := by rw [← hc1, hlen]
    have hfit : i * sz + sz ≤ n * sz := by
      have := Nat.mul_le_mul_right sz (show i + 1 ≤ n from hi)
      rw [Nat.add_mul] at this
      omega
    have hfold := fun k => fold_get (i * sz) (a.eval x).cells.toList 0 cells k (by simp only [Array.length_toList]; omega)
    obtain ⟨cells', g1, g2, g3, g4⟩ := fillE_ok hm hσ ps (es.set i (st.ev x)) (((a.eval x).cells.toList.zipIdx 0).foldl (fun cs p => cs.setIfInBounds (i * sz + p.2) p.1) cells)
      (fun q hq => hv q (List.mem_cons_of_mem _ hq)) hok2 (by simpa using h1) (by rw [fold_size]; exact h2) (fun m el hm' => by
        rw [List.getElem?_set] at hm'
        by_cases hmi : i = m
        · subst hmi
          rw [if_pos rfl, if_pos (by omega)] at hm'
          cases hm'
          refine ⟨hlen, fun t y hy => ?_⟩
          have ht : t < sz := by rw [← hlen]; exact (List.getElem?_eq_some_iff.1 hy).1
          have hu : t < (a.eval x).cells.size := by omega
          refine ⟨(a.eval x).cells[t], ?_, hc2 t y _ hy (Array.getElem?_eq_getElem hu)⟩
          rw [hfold]
          simp only [Array.length_toList, Nat.add_zero]
          rw [if_pos (by omega), Nat.add_sub_cancel_left, Array.getElem?_toList]
          exact Array.getElem?_eq_getElem hu
        · rw [if_neg hmi] at hm'
          refine ⟨(h3 m el hm').1, fun t y hy => ?_⟩
          have ht : t < sz := by rw [← (h3 m el hm').1]; exact (List.getElem?_eq_some_iff.1 hy).1
          obtain ⟨v, h5, h6⟩ := (h3 m el hm').2 t y hy
          refine ⟨v, ?_, h6⟩
          rw [hfold]
          simp only [Array.length_toList, Nat.add_zero]
          rw [if_neg ?_]
          · exact h5
          · rintro ⟨h7, h8⟩
            have := mul_apart (x := m * sz + t - i * sz) hmi ht (by omega)
            omega)
    refine ⟨cells', ?_, by simpa [fillElems] using g2, g3, by simpa [fillElems] using g4⟩
    simp only [List.map_cons, Instr.fill]
    rw [if_neg (by rw [hcs]; simp; omega), fold_arr]
    exact g1

theorem mvElems_ok {sh : Sh} {t : TypeId} {ti : TI} (ht : TyOk P t ti) (hsh : ti.sh = sh) : ∀ (es : List AV) (σ : List Root) (c : Cx) (val : Nat → Nat → Value) (es' : List AV) (σ1 : List Root), c.σ = σ → Mem P c → mvElems sh es σ = some (es', σ1) →
    (∀ (m : Nat) (el : AV), es[m]? = some el → el.cells.length = ti.size ∧ ∀ (t : Nat) (y : AV), el.cells[t]? = some y → V P c y (val m t)) →
    ∃ c1 : Cx, c1.σ = σ1 ∧ c1.w = c.w ∧ c1.D = c.D ∧ Mem P c1 ∧ Kp c c1 ∧ es'.length = es.length ∧ (sh.leaves.all (fun h => !h.deep) = true → c1 = c) ∧
      ∀ (m : Nat) (el : AV), es'[m]? = some el → el.cells.length = ti.size ∧ ∀ (t : Nat) (y : AV), el.cells[t]? = some y → Plain y ∧ (val m t).oneCell' = true ∧ VI c1.N c1.w y (val m t)
  | [], σ, c, val, es', σ1, hσ, hm, h, _ => by
    simp only [mvElems, Option.some.injEq, Prod.mk.injEq] at h
    obtain ⟨rfl, rfl⟩ := h
    exact ⟨c, hσ, rfl, rfl, hm, Kp.refl c, rfl, fun _ => rfl, by simp⟩
  | el0 :: es, σ, c, val, es', σ1, hσ, hm, h, hv => by
    unfold mvElems at h
    split at h <;> try (cases h; done)
    rename_i cs σ2 hmv
    obtain ⟨⟨es2, σ3⟩, hrest, he⟩ := Option.map_eq_some_iff.1 h
    simp only [Prod.mk.injEq] at he
    obtain ⟨rfl, rfl⟩ := he
    obtain ⟨h1, h2⟩ := hv 0 el0 rfl
    subst hsh
    obtain ⟨c1, g1, g2, g3, g4, g5, g6, g7, g8, g9, g10⟩ := mvIn_ok false ti.sh.leaves el0.cells σ c ((List.range ti.size).map (val 0)) cs σ2 hσ hm ht.leafOk hmv (by simp [h1]) (fun t y v hy hv' => by
      have ht' : t < ti.size := by rw [← h1]; exact (List.getElem?_eq_some_iff.1 hy).1
      rw [List.getElem?_map, List.getElem?_range ht'] at hv'
      simp only [Option.map_some, Option.some.injEq] at hv'
      subst hv'
      exact h2 t y hy)
    have hl : cs.length = ti.size := by rw [g7]; simp
    have hget : ∀ t, t < ti.size → ((List.range ti.size).map (val 0))[t]? = some (val 0 t) := fun t ht' => by rw [List.getElem?_map, List.getElem?_range ht']; rfl
    have hof := ofCells_cells ht (cs := cs) hl fun y hy => (g8 0 y _ hy (hget 0 (by rw [← hl]; exact (List.getElem?_eq_some_iff.1 hy).1))).2.1.2
    obtain ⟨c2, k1, k2, k3, k4, k5, k6, k7, k8⟩ := mvElems_ok ht rfl es σ2 c1 (fun m t => val (m + 1) t) es2 σ3 g1 g5 hrest (fun m el hm' => by
      obtain ⟨f1, f2⟩ := hv (m + 1) el (by simpa using hm')
      exact ⟨f1, fun t y hy => (f2 t y hy).kp P g6⟩)
    refine ⟨c2, k1, k2.trans g2, k3.trans g4, k4, g6.trans k5, by simp [k6], fun hq => (k7 hq).trans (g9 (.inr hq)), fun m el hm' => ?_⟩
    cases m with
    | zero =>
      simp only [List.getElem?_cons_zero, Option.some.injEq] at hm'
      subst hm'
      rw [hof]
      refine ⟨hl, fun t y hy => ?_⟩
      have ht' : t < ti.size := by rw [← hl]; exact (List.getElem?_eq_some_iff.1 hy).1
      obtain ⟨f1, f2, f3⟩ := g8 t y _ hy (hget t ht')
      exact ⟨f2, f1, VI.gr k5.toGr (by simpa using f3)⟩
    | succ m => exact k8 m el (by simpa using hm')

theorem buildSlice_ok {o : Oper} {t n : Nat} {e z0 s0 b0 : Nat} {fl : List (Nat × Nat)} {te : TI} {ps : Array (Nat × Operand)} {a : Act} {c : Cx} {st : St} {es : List AV} {σ1 : List Root} (hE : EnvOk P E) (ho : o.op = .buildSlice t n ps) (hti : E.Γ t = some ⟨.sl e z0, s0, b0, e, fl⟩) (hte : E.Γ e = some te) (hσ : c.σ = st.σ) (hm : Mem P c)
    (hv : ∀ q ∈ ps.toList, V P c (st.ev q.2) (a.eval q.2)) (hok : ps.toList.all (fun q => solid st.σ (st.ev q.2) && decide ((st.ev q.2).cells.length = te.size) && decide (q.1 < n)) = true) (hbig : n * te.size ≤ 16777216)
    (hmv : mvElems te.sh (fillElems st ps.toList (List.replicate n (zero false te.sh))) st.σ = some (es, σ1)) (hquiet : quietOp E o.op = true → te.sh.leaves.all (fun h => !h.deep) = true) :
    OpRes P E o a c st (.sl σ1.length [] none) ⟨st.t, σ1 ++ [.live true false false e es]⟩ := by
  obtain ⟨hund, _, _⟩ := (hE.tyo hti).und_sl
  have hte' := hE.tyo hte
  obtain ⟨i, z, h1, h2, _, _, hpos, h6, h7⟩ := hte'.info
  have hzs := hte'.zsize h7
  obtain ⟨hz1, hz2⟩ := hte'.zeros h7 c.N c.w false
  have hsz : 0 < te.size := by omega
  obtain ⟨cells, g1, g2, g3, g4⟩ := fillE_ok (a := a) hm hσ ps.toList (List.replicate n (zero false te.sh)) (madeCells z.cells (n * te.size)) hv hok (by simp) (by rw [size_madeCells]) (fun m el hm' => by
    rw [List.getElem?_replicate] at hm'
    split at hm'
    · rename_i hmn
      simp only [Option.some.injEq] at hm'
      subst hm'
      refine ⟨hz1, fun t' y hy => ?_⟩
      obtain ⟨_, v, k2, _, k4⟩ := hz2 t' y hy
      have ht' : t' < te.size := by rw [← hz1]; exact (List.getElem?_eq_some_iff.1 hy).1
      refine ⟨v, ?_, .vi k4⟩
      rw [madeCells_get hzs ht' ?_]
      · exact k2
      · have := Nat.mul_le_mul_right te.size (show m + 1 ≤ n from hmn)
        rw [Nat.add_mul] at this
        omega
    · cases hm')
  have hrun : (Instr.buildSlice t n (ps.map fun (i, x) => (i, a.eval x))).run P c.w = .ok (.slice (some ⟨c.w.heap.size, 0, none⟩) n n) (c.w.alloc (.cells cells e)) := by
    have hfill : Instr.fill (fun i => some (i * te.size, te.size)) (madeCells z.cells (n * te.size)) (ps.map fun (i, x) => (i, a.eval x)).toList = some cells := by
      rw [Array.toList_map]; simpa using g1
    have hnb : ¬ 16777216 < n * te.size := by omega
    by_cases hn0 : n * te.size = 0
    · have hn : n = 0 := by rcases Nat.mul_eq_zero.1 hn0 with h | h <;> omega
      subst hn
      have hps : ps = #[] := by
        cases hp : ps.toList with
        | nil => rw [← Array.toArray_toList (xs := ps), hp]
        | cons q l => rw [hp] at hok; simp at hok
      subst hps
      have hm0 : madeCells z.cells (0 * te.size) = #[] := by simp [madeCells]
      rw [hm0] at hfill
      simp only [Array.map_empty, Array.toList_empty, Instr.fill, Option.some.injEq] at hfill
      subst hfill
      simp [Instr.buildSlice, run_underlying hund, hte'.sizeOf, Instr.fill, newRow, Array.range_zero']
    · simp only [madeCells] at hfill
      generalize (ps.map fun (i, x) => (i, a.eval x)) = q at hfill ⊢
      simp [Instr.buildSlice, run_underlying hund, hte'.sizeOf, hn0, hnb, zeroValue, typeInfo, h1, h6, hfill, newRow]
  have hval : ∀ (m : Nat) (el : AV), (fillElems st ps.toList (List.replicate n (zero false te.sh)))[m]? = some el → el.cells.length = te.size ∧ ∀ (t : Nat) (y : AV), el.cells[t]? = some y → V P c y (cells.toList.getD (m * te.size + t) undef) := fun m el hm' => by
    refine ⟨(g4 m el hm').1, fun t y hy => ?_⟩
    obtain ⟨v, f1, f2⟩ := (g4 m el hm').2 t y hy
    rw [List.getD_eq_getElem?_getD, Array.getElem?_toList, f1]
    exact f2
  obtain ⟨c1, k1, k2, k3, k4, k5, k6, k7, k8⟩ := mvElems_ok hte' rfl _ st.σ c (fun m t => cells.toList.getD (m * te.size + t) undef) es σ1 hσ hm hmv hval
  have hes : es.length = n := by rw [k6, g2]
  obtain ⟨n1, n2, n3, n4, _⟩ := new_ok k4 true false e hte'.ne es cells n (c1.w.alloc (.cells cells e)) (Same.alloc _ _) (alloc_heap _ _) (by rw [g3, hte'.cells]) (by omega) (by
    rcases Nat.eq_zero_or_pos n with h | h
    · subst h; decide
    · have : n ≤ n * te.size := Nat.le_mul_of_pos_right _ hsz
      simp only [maxLen]; omega) (fun m el hm' => by
    rw [hte'.cells]
    refine ⟨(k8 m el hm').1, fun t' y hy => ?_⟩
    obtain ⟨f1, f2, f3⟩ := (k8 m el hm').2 t' y hy
    refine ⟨f1, _, ?_, f2, by simpa using f3⟩
    have ht' : t' < te.size := by rw [← (k8 m el hm').1]; exact (List.getElem?_eq_some_iff.1 hy).1
    have hml : m < n := by rw [← hes]; exact (List.getElem?_eq_some_iff.1 hm').1
    have hlt : m * te.size + t' < cells.size := by
      rw [g3]
      have := Nat.mul_le_mul_right te.size (show m + 1 ≤ n from hml)
      rw [Nat.add_mul] at this
      omega
    rw [Array.getElem?_eq_getElem hlt, List.getD_eq_getElem?_getD, Array.getElem?_toList, Array.getElem?_eq_getElem hlt]
    rfl)
  intro next Q hn
  refine wp_value (y := .slice (some ⟨c1.w.heap.size, 0, none⟩) es.length n) (w' := c.w.alloc (.cells cells e)) ?_ ?_
  · rw [k2, hes]
    simp only [execOp, ho, Sem.run_bind, hrun, Result.andThen_ok]
    rfl
  · have := hn _ _ (by simp [Cx.push, k1]) n1 (by rw [← k1]; exact n4) (.inl ⟨rfl, k5.trans n2⟩) (fun hq => by
      obtain rfl := k7 (hquiet hq)
      exact ⟨n3, rfl⟩) (fun _ _ _ h => h.kp P (k5.trans n2))
    rw [show (c1.push (.live true false false e es) (some c1.w.heap.size) (c1.w.alloc (.cells cells e))).w = c.w.alloc (.cells cells e) by simp [Cx.push, k2]] at this
    exact this
end Go.Proofs.YtkicholhkoahhaaIT
