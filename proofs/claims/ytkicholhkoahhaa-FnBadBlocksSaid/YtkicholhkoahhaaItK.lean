/- Rows: made, built, appended to. No condition beyond what each theorem states. -/
import Derived.Test.YtkicholhkoahhaaItJ
import Derived.Laws.MakeOwn
namespace Go.Proofs.YtkicholhkoahhaaIT
open Go
variable {P : Program} {E : Env}

/-- A row's elements and the values of its cells. -/
structure Row (N : Nat → Prop) (w : World) (sz : Nat) (es : List AV) (vals : List Value) : Prop where
  len : vals.length = es.length * sz
  el : ∀ (m : Nat) (el : AV), es[m]? = some el → el.cells.length = sz ∧ ∀ (t : Nat) (y : AV), el.cells[t]? = some y → Plain y ∧ ∃ v, vals[m * sz + t]? = some v ∧ v.oneCell' = true ∧ VI N w y v
theorem Row.nil (N : Nat → Prop) (w : World) (sz : Nat) : Row N w sz [] [] := ⟨by simp, by simp⟩
theorem Row.gr {c c' : Cx} (g : Gr c c') {sz : Nat} {es : List AV} {vals : List Value} (h : Row c.N c.w sz es vals) : Row c'.N c'.w sz es vals :=
  ⟨h.len, fun m el hm => ⟨(h.el m el hm).1, fun t y hy => by obtain ⟨h1, v, h2, h3, h4⟩ := (h.el m el hm).2 t y hy; exact ⟨h1, v, h2, h3, VI.gr g h4⟩⟩⟩
theorem Row.append {N : Nat → Prop} {w : World} {sz : Nat} {es es' : List AV} {vals vals' : List Value} (h : Row N w sz es vals) (h' : Row N w sz es' vals') : Row N w sz (es ++ es') (vals ++ vals') := by
  refine ⟨by simp [h.len, h'.len, Nat.add_mul], fun m el hm => ?_⟩
  by_cases hlt : m < es.length
  · rw [List.getElem?_append_left hlt] at hm
    refine ⟨(h.el m el hm).1, fun t y hy => ?_⟩
    obtain ⟨h1, v, h2, h3⟩ := (h.el m el hm).2 t y hy
    exact ⟨h1, v, by rw [List.getElem?_append_left (List.getElem?_eq_some_iff.1 h2).1]; exact h2, h3⟩
  · rw [List.getElem?_append_right (by omega)] at hm
    refine ⟨(h'.el _ el hm).1, fun t y hy => ?_⟩
    obtain ⟨h1, v, h2, h3⟩ := (h'.el _ el hm).2 t y hy
    refine ⟨h1, v, ?_, h3⟩
    have he : m * sz + t = vals.length + ((m - es.length) * sz + t) := by
      rw [h.len, Nat.sub_mul]
      have := Nat.mul_le_mul_right sz (show es.length ≤ m by omega)
      omega
    rw [he, List.getElem?_append_right (by omega), Nat.add_sub_cancel_left]
    exact h2
theorem Row.take {N : Nat → Prop} {w : World} {sz : Nat} {es : List AV} {vals : List Value} (h : Row N w sz es vals) (n : Nat) : Row N w sz (es.take n) (vals.take (n * sz)) := by
  refine ⟨?_, fun m el hm => ?_⟩
  · simp only [List.length_take, h.len]
    rcases Nat.le_total n es.length with h1 | h1
    · rw [Nat.min_eq_left h1, Nat.min_eq_left (Nat.mul_le_mul_right _ h1)]
    · rw [Nat.min_eq_right h1, Nat.min_eq_right (Nat.mul_le_mul_right _ h1)]
  · rw [List.getElem?_take] at hm
    split at hm
    · rename_i hmn
      refine ⟨(h.el m el hm).1, fun t y hy => ?_⟩
      obtain ⟨h1, v, h2, h3⟩ := (h.el m el hm).2 t y hy
      refine ⟨h1, v, ?_, h3⟩
      have ht : t < sz := by rw [← (h.el m el hm).1]; exact (List.getElem?_eq_some_iff.1 hy).1
      have := Nat.mul_le_mul_right sz (show m + 1 ≤ n from hmn)
      rw [Nat.add_mul] at this
      rw [List.getElem?_take, if_pos (by omega)]
      exact h2
    · cases hm
theorem Row.drop {N : Nat → Prop} {w : World} {sz : Nat} {es : List AV} {vals : List Value} (h : Row N w sz es vals) (n : Nat) : Row N w sz (es.drop n) (vals.drop (n * sz)) := by
  refine ⟨by simp [h.len, Nat.sub_mul], fun m el hm => ?_⟩
  rw [List.getElem?_drop] at hm
  refine ⟨(h.el _ el hm).1, fun t y hy => ?_⟩
  obtain ⟨h1, v, h2, h3⟩ := (h.el _ el hm).2 t y hy
  refine ⟨h1, v, ?_, h3⟩
  rw [List.getElem?_drop, show n * sz + (m * sz + t) = (n + m) * sz + t by rw [Nat.add_mul]; omega]
  exact h2
theorem Row.flat {N : Nat → Prop} {w : World} {sz : Nat} {es : List AV} {vals : List Value} (h : Row N w sz es vals) : Flat es := fun m el t _ _ h1 h2 => ((h.el m el h1).2 t _ h2).1.1 _ _ rfl
theorem Row.one {N : Nat → Prop} {w : World} {sz : Nat} {es : List AV} {vals : List Value} (h : Row N w sz es vals) : ∀ u ∈ vals, u.oneCell' = true := by
  intro u hu
  obtain ⟨k, hk⟩ := List.getElem?_of_mem hu
  have hlt : k < es.length * sz := by rw [← h.len]; exact (List.getElem?_eq_some_iff.1 hk).1
  have hpos : 0 < sz := by
    rcases Nat.eq_zero_or_pos sz with h0 | h0
    · subst h0; simp at hlt
    · exact h0
  have hd : k / sz < es.length := Nat.div_lt_of_lt_mul (by rw [Nat.mul_comm]; exact hlt)
  obtain ⟨h1, h2⟩ := h.el (k / sz) _ (List.getElem?_eq_getElem hd)
  have hm : k % sz < (es[k / sz]).cells.length := by rw [h1]; exact Nat.mod_lt _ hpos
  obtain ⟨_, v, h3, h4, _⟩ := h2 (k % sz) _ (List.getElem?_eq_getElem hm)
  rw [show k / sz * sz + k % sz = k by rw [Nat.mul_comm]; exact Nat.div_add_mod k sz, hk] at h3
  cases h3
  exact h4

theorem row_cells {c : Cx} {r te : Nat} {mv nest : Bool} {es : List AV} {cap : Nat} {cs : Array Value} (hr : c.σ.getD r .dead = .live mv false nest te es) (hf : Flat es) (hcs : cs.size = cap * P.cellsOf te) (hle : es.length ≤ cap)
    (h : ∀ (m : Nat) (el : AV), es[m]? = some el → el.cells.length = P.cellsOf te ∧ ∀ (t : Nat) (y : AV), el.cells[t]? = some y → ∃ v, cs[m * P.cellsOf te + t]? = some v ∧ v.oneCell' = true ∧ CellR P c r [] m t y v) : Row c.N c.w (P.cellsOf te) es (cs.toList.take (es.length * P.cellsOf te)) := by
  refine ⟨?_, fun m el hm => ⟨(h m el hm).1, fun t y hy => ?_⟩⟩
  · have := Nat.mul_le_mul_right (P.cellsOf te) hle
    simp only [List.length_take]
    rw [show cs.toList.length = cap * P.cellsOf te by rw [← hcs]; simp]
    exact Nat.min_eq_left this
  · obtain ⟨v, h1, h2, h3⟩ := (h m el hm).2 t y hy
    have hnw : ∀ e es, y ≠ .nw e es := by rintro e es rfl; exact hf m el t e es hm hy
    have hlit : litAt c.σ r [] = false := by unfold litAt; rw [hr]; rfl
    have h4 : VI c.N c.w y v := by
      unfold CellR at h3
      cases y <;> first | (simp only [hlit] at h3; exact h3) | exact (hnw _ _ rfl).elim
    have hna : ∀ l, y ≠ .agg l := by rintro l rfl; cases h4; simp [Value.oneCell'] at h2
    refine ⟨⟨hnw, hna⟩, v, ?_, h2, h4⟩
    · have ht : t < P.cellsOf te := by rw [← (h m el hm).1]; exact (List.getElem?_eq_some_iff.1 hy).1
      have := Nat.mul_le_mul_right (P.cellsOf te) (show m + 1 ≤ es.length from (List.getElem?_eq_some_iff.1 hm).1)
      rw [Nat.add_mul] at this
      rw [List.getElem?_take, if_pos (by omega), Array.getElem?_toList]
      exact h1

/-- The values of a row that is only read. -/
theorem imm_row {N : Nat → Prop} {w : World} {z : Nat} {es : List AV} {v : Value} (h : VI N w (.imm z es) v) : ∃ A cap, v = .slice A es.length cap ∧ es.length ≤ cap ∧ (es = [] ∨ ∃ a vals, A = some a ∧ Row N w z es vals ∧ ∀ j u, vals[j]? = some u → w.cell? (a.add j) = some u) := by
  cases h with
  | imm0 _ A cap => exact ⟨A, cap, rfl, Nat.zero_le _, .inl rfl⟩
  | imm _ a cap _ f hl hn hlt hz hc hv =>
    refine ⟨some a, cap, rfl, hl, ?_⟩
    rcases Nat.eq_zero_or_pos z with h0 | hpos
    · subst h0
      right
      refine ⟨a, [], rfl, ⟨by simp, fun m el hm => ⟨hz m el hm, fun t y hy => ?_⟩⟩, by simp⟩
      have := hz m el hm
      have : t < el.cells.length := (List.getElem?_eq_some_iff.1 hy).1
      omega
    · right
      have key : ∀ k, k < es.length * z → ∃ el y, es[k / z]? = some el ∧ el.cells[k % z]? = some y ∧ k / z * z + k % z = k := by
        intro k hk
        have hd : k / z < es.length := Nat.div_lt_of_lt_mul (by rw [Nat.mul_comm]; exact hk)
        have h1 := hz (k / z) _ (List.getElem?_eq_getElem hd)
        have hm : k % z < (es[k / z]).cells.length := by rw [h1]; exact Nat.mod_lt _ hpos
        exact ⟨_, _, List.getElem?_eq_getElem hd, List.getElem?_eq_getElem hm, by rw [Nat.mul_comm]; exact Nat.div_add_mod k z⟩
      refine ⟨a, (List.range (es.length * z)).map (fun k => f (k / z) (k % z)), rfl, ⟨by simp, fun m el hm => ⟨hz m el hm, fun t y hy => ?_⟩⟩, fun j u hj => ?_⟩
      · have ht : t < z := by rw [← hz m el hm]; exact (List.getElem?_eq_some_iff.1 hy).1
        have hml : m < es.length := (List.getElem?_eq_some_iff.1 hm).1
        have hlt2 : m * z + t < es.length * z := by
          have := Nat.mul_le_mul_right z (show m + 1 ≤ es.length from hml)
          rw [Nat.add_mul] at this
          omega
        have e1 : (m * z + t) / z = m := by rw [Nat.mul_comm, Nat.mul_add_div hpos, Nat.div_eq_of_lt ht, Nat.add_zero]
        have e2 : (m * z + t) % z = t := by rw [Nat.mul_comm, Nat.mul_add_mod, Nat.mod_eq_of_lt ht]
        have hone := (hc m el t y hm hy).2
        have hvi := hv m el t y hm hy
        refine ⟨⟨?_, ?_⟩, f m t, ?_, hone, hvi⟩
        · rintro e es' rfl; cases hvi
        · rintro l rfl; generalize f m t = u at hone hvi; cases hvi; simp [Value.oneCell'] at hone
        · rw [List.getElem?_map, List.getElem?_range hlt2]
          simp [e1, e2]
      · have hj' : j < es.length * z := by have := (List.getElem?_eq_some_iff.1 hj).1; simpa using this
        rw [List.getElem?_map, List.getElem?_range hj'] at hj
        simp only [Option.map_some, Option.some.injEq] at hj
        obtain ⟨el, y, h1, h2, h3⟩ := key j hj'
        have := (hc _ el _ y h1 h2).1
        rw [h3, hj] at this
        exact this
end Go.Proofs.YtkicholhkoahhaaIT
