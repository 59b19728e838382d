/- Composites: structs and rows that are built. No condition beyond what each theorem states. -/
import Derived.Test.YtkicholhkoahhaaItO
import Derived.Laws.Tables
namespace Go.Proofs.YtkicholhkoahhaaIT
open Go
variable {P : Program} {E : Env}

theorem solid_one {c : Cx} (hm : Mem P c) {y : AV} {v : Value} (hv : V P c y v) (hs : solid c.σ y = true) (ha : ∀ l, y ≠ .agg l) : v.oneCell' = true := by
  cases y with
  | x => simp [solid] at hs
  | u => simp [solid] at hs
  | nw _ _ => simp [solid] at hs
  | tup _ => simp [solid] at hs
  | agg l => exact absurd rfl (ha l)
  | sl r p w =>
    simp only [solid] at hs
    split at hs
    · rename_i hr
      obtain ⟨_, h, _⟩ := V.inv_sl hm hv hr
      cases hj : c.j r [] with
      | none => rw [hj] at h; obtain ⟨_, _, A0, rfl⟩ := h; rfl
      | some b =>
        rw [hj] at h
        obtain ⟨_, _, _, _, _, _, h⟩ := h
        cases w with
        | none => simp only at h; rw [h]; rfl
        | some q => obtain ⟨_, A, h, _⟩ := h; rw [h]; rfl
    · cases hs
  | pt r p m k =>
    simp only [solid] at hs
    split at hs
    · rename_i hr
      obtain ⟨_, _, b, _, _, _, _, h, _⟩ := V.inv_pt hm hv hr
      rw [h]; rfl
    · cases hs
  | _ => exact hv.one trivial

theorem solid_cells {c : Cx} (hm : Mem P c) {y : AV} {v : Value} (hv : V P c y v) (hs : solid c.σ y = true) : y.cells.length = v.cells.size ∧ ∀ (t : Nat) (z : AV) (u : Value), y.cells[t]? = some z → v.cells[t]? = some u → V P c z u := by
  by_cases ha : ∃ l, y = .agg l
  · obtain ⟨l, rfl⟩ := ha
    obtain ⟨vs, rfl, hl, hk⟩ := hv.inv_agg
    simp only [AV.cells, Value.cells]
    exact ⟨by simpa using hl, fun t z u h1 h2 => hk t z u h1 (by simpa using h2)⟩
  · have h1 := solid_one hm hv hs fun l h => ha ⟨l, h⟩
    have hc : y.cells = [y] := by cases y <;> first | rfl | exact absurd ⟨_, rfl⟩ ha
    have hvc : v.cells = #[v] := by cases v <;> first | rfl | simp [Value.oneCell'] at h1
    rw [hc, hvc]
    refine ⟨rfl, fun t z u h2 h3 => ?_⟩
    cases t with
    | zero => simp at h2 h3; subst h2; subst h3; exact hv
    | succ t => simp at h2

theorem fold_get (off : Nat) : ∀ (l : List Value) (k : Nat) (cells : Array Value) (i : Nat), off + k + l.length ≤ cells.size →
    ((l.zipIdx k).foldl (fun cs p => cs.setIfInBounds (off + p.2) p.1) cells)[i]? = if off + k ≤ i ∧ i < off + k + l.length then l[i - (off + k)]? else cells[i]?
  | [], k, cells, i, _ => by simp only [List.zipIdx_nil, List.foldl_nil, List.length_nil]; rw [if_neg (by omega)]
  | v :: l, k, cells, i, h => by
    simp only [List.length_cons] at h
    rw [List.zipIdx_cons, List.foldl_cons, fold_get off l (k + 1) _ i (by simp; omega)]
    simp only [List.length_cons]
    by_cases h1 : off + (k + 1) ≤ i ∧ i < off + (k + 1) + l.length
    · rw [if_pos h1, if_pos (by omega), show i - (off + k) = (i - (off + (k + 1))) + 1 by omega, List.getElem?_cons_succ]
    · rw [if_neg h1]
      by_cases h2 : i = off + k
      · subst h2
        rw [if_pos (by omega), Array.getElem?_setIfInBounds_self_of_lt (by omega)]
        simp
      · rw [if_neg (by omega), Array.getElem?_setIfInBounds_ne (by omega)]
theorem fold_size (off : Nat) : ∀ (l : List Value) (k : Nat) (cells : Array Value), ((l.zipIdx k).foldl (fun cs p => cs.setIfInBounds (off + p.2) p.1) cells).size = cells.size
  | [], _, _ => rfl
  | v :: l, k, cells => by rw [List.zipIdx_cons, List.foldl_cons, fold_size off l]; simp
theorem fold_arr (off : Nat) (vs cells : Array Value) : vs.zipIdx.foldl (fun cs (c, j) => cs.setIfInBounds (off + j) c) cells = (vs.toList.zipIdx 0).foldl (fun cs p => cs.setIfInBounds (off + p.2) p.1) cells := by
  rw [← Array.foldl_toList, Array.toList_zipIdx]

/-- A struct's parts, laid one after the other. -/
theorem fill_ok {c : Cx} {st : St} {a : Act} {fl : List (Nat × Nat)} {places : List (Nat × Nat)} {n : Nat} (hE : EnvOk P E) (hm : Mem P c) (hσ : c.σ = st.σ) (hpl : ∀ (f : Nat) (d : Nat × Nat), fl[f]? = some d → ∃ i, P.info? d.2 = some i ∧ places[f]? = some (d.1, i.size)) :
    ∀ (ps : List (Nat × Operand)) (zs : List AV) (cells : Array Value), (∀ q ∈ ps, V P c (st.ev q.2) (a.eval q.2)) → fillOk E st fl ps = true → fillIn n fl E.Γ ps = true → zs.length = n → cells.size = n →
      (∀ (t : Nat) (y : AV) (v : Value), zs[t]? = some y → cells[t]? = some v → V P c y v) →
      ∃ cells', Instr.fill (places[·]?) cells (ps.map fun q => (q.1, a.eval q.2)) = some cells' ∧ (fillCells fl st ps zs).length = n ∧ cells'.size = n ∧ ∀ (t : Nat) (y : AV) (v : Value), (fillCells fl st ps zs)[t]? = some y → cells'[t]? = some v → V P c y v
  | [], zs, cells, _, _, _, h1, h2, h3 => ⟨cells, rfl, h1, h2, h3⟩
  | (f, x) :: ps, zs, cells, hv, hok, hin, h1, h2, h3 => by
    simp only [fillOk, Bool.and_eq_true] at hok
    simp only [fillIn, Bool.and_eq_true] at hin
    obtain ⟨hok1, hok2⟩ := hok
    obtain ⟨hin1, hin2⟩ := hin
    cases hfd : fl[f]? with
    | none => rw [hfd] at hok1; cases hok1
    | some fd =>
      rw [hfd] at hok1 hin1
      simp only at hok1 hin1
      cases htf : E.Γ fd.2 with
      | none => rw [htf] at hok1; cases hok1
      | some tf =>
        rw [htf] at hok1 hin1
        simp only [Bool.and_eq_true, decide_eq_true_eq] at hok1 hin1
        obtain ⟨hs, hlen⟩ := hok1
        obtain ⟨i, hi, hp⟩ := hpl f fd hfd
        have hsz : i.size = tf.size := by
          obtain ⟨i', z, k1, k2, _⟩ := (hE.tyo htf).info
          rw [hi] at k1; cases k1; exact k2
        have hvx := hv (f, x) (List.mem_cons_self)
        obtain ⟨hc1, hc2⟩ := solid_cells hm hvx (by rw [hσ]; exact hs)
        simp only at hc1 hc2 hvx
        have hcs : (a.eval x).cells.size = tf.size := by rw [← hc1, hlen]
        have hlen2 : (setCells zs fd.1 (st.ev x).cells).length = n := by rw [setCells_length]; exact h1
        have hfold := fun i => fold_get fd.1 (a.eval x).cells.toList 0 cells i (by simp only [Array.length_toList]; omega)
        obtain ⟨cells', g1, g2, g3, g4⟩ := fill_ok hE hm hσ hpl ps (setCells zs fd.1 (st.ev x).cells) (((a.eval x).cells.toList.zipIdx 0).foldl (fun cs p => cs.setIfInBounds (fd.1 + p.2) p.1) cells)
          (fun q hq => hv q (List.mem_cons_of_mem _ hq)) hok2 hin2 hlen2 (by rw [fold_size]; exact h2) (fun t y v hy hv' => by
            rw [setCells_get _ _ _ _ (by rw [hlen, h1]; exact hin1)] at hy
            rw [hfold] at hv'
            simp only [Array.length_toList, Nat.add_zero] at hv'
            rw [hlen] at hy
            rw [hcs] at hv'
            split at hy
            · rename_i hlt
              rw [if_pos hlt] at hv'
              exact hc2 _ y v hy (by simpa using hv')
            · rename_i hlt
              rw [if_neg hlt] at hv'
              exact h3 t y v hy hv')
        refine ⟨cells', ?_, by simpa [fillCells, hfd] using g2, g3, by simpa [fillCells, hfd] using g4⟩
        simp only [List.map_cons, Instr.fill, hp]
        rw [if_neg (by rw [hcs, hsz]; simp; omega), fold_arr]
        exact g1

theorem build_ok {o : Oper} {t : TypeId} {l : List Sh} {n b0 e0 : Nat} {fl : List (Nat × Nat)} {ps : Array (Nat × Operand)} {a : Act} {c : Cx} {st : St} (hE : EnvOk P E) (ho : o.op = .build t ps) (hti : E.Γ t = some ⟨.agg l, n, b0, e0, fl⟩) (hσ : c.σ = st.σ) (hm : Mem P c)
    (hv : ∀ q ∈ ps.toList, V P c (st.ev q.2) (a.eval q.2)) (hok : fillOk E st fl ps.toList = true) (hin : fillIn n fl E.Γ ps.toList = true) : OpRes P E o a c st (.agg (fillCells fl st ps.toList (zeroL false l))) st := by
  have ht := hE.tyo hti
  obtain ⟨fs, hund, hl, hfo⟩ := ht.und_agg
  obtain ⟨i, z, h1, h2, _, _, _, h6, h7⟩ := ht.info
  obtain ⟨places, hp1, hp2⟩ := fldOk_places hfo
  obtain ⟨hz1, hz2⟩ := ht.zeros h7 c.N c.w false
  have hzs := ht.zsize h7
  simp only [zero, AV.cells] at hz1 hz2
  obtain ⟨cells', g1, g2, g3, g4⟩ := fill_ok (a := a) hE hm hσ hp2 ps.toList (zeroL false l) z.cells hv hok hin hz1 hzs (fun t y v hy hv' => by
    obtain ⟨_, u, k1, _, k3⟩ := hz2 t y hy
    rw [hv'] at k1; cases k1
    exact .vi k3)
  have hb : P.built t (ps.map fun (i, x) => (i, a.eval x)).toList = some cells' := by
    simp only [Program.built, h1, hund, h6, hp1]
    rw [Array.toList_map]
    simpa using g1
  refine opRes_pure (y := .agg cells') hσ hm ?_ ?_
  · simp only [execOp, ho, Sem.run_bind, run_build c.w t _ cells' hb, Result.andThen_ok]
    rfl
  · have := V.agg (P := P) (c := c) _ cells'.toList (by rw [g2]; simpa using g3.symm) (fun t y v hy hv' => g4 t y v hy (by simpa using hv'))
    simpa using this
end Go.Proofs.YtkicholhkoahhaaIT
