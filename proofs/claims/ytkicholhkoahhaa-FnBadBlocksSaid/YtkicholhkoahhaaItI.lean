/- Stores into variables and rows; new variables. No condition beyond what each theorem states. -/
import Derived.Test.YtkicholhkoahhaaItH
namespace Go.Proofs.YtkicholhkoahhaaIT
open Go
variable {P : Program} {E : Env}

/-- The cells of a value, tree and machine. -/
theorem V.cellsv {c : Cx} {y : AV} {x : Value} (h : V P c y x) : ∃ vs : List Value, y.cells.length = vs.length ∧ (∀ (t : Nat) (z : AV) (u : Value), y.cells[t]? = some z → vs[t]? = some u → V P c z u) ∧ ((∀ u ∈ vs, u.oneCell' = true) → x.cells.toList = vs) := by
  by_cases ha : ∃ cs, y = .agg cs
  · obtain ⟨cs, rfl⟩ := ha
    obtain ⟨vs, rfl, hl, hk⟩ := h.inv_agg
    exact ⟨vs, hl, hk, fun _ => by simp [Value.cells]⟩
  · have hc : y.cells = [y] := by cases y <;> first | rfl | exact absurd ⟨_, rfl⟩ ha
    rw [hc]
    refine ⟨[x], rfl, fun t z u h1 h2 => ?_, fun h1 => ?_⟩
    · cases t with
      | zero => simp only [List.getElem?_cons_zero, Option.some.injEq] at h1 h2; subst h1; subst h2; exact h
      | succ t => simp at h1
    · have := h1 x (by simp)
      cases x <;> first | rfl | simp [Value.oneCell'] at this

theorem setCells_length : ∀ (vs cs : List AV) (k : Nat), (setCells cs k vs).length = cs.length
  | [], _, _ => rfl
  | v :: vs, cs, k => by simp [setCells, setCells_length vs]
theorem setCells_get : ∀ (vs cs : List AV) (k t : Nat), k + vs.length ≤ cs.length → (setCells cs k vs)[t]? = if k ≤ t ∧ t < k + vs.length then vs[t - k]? else cs[t]?
  | [], cs, k, t, _ => by simp only [setCells, List.length_nil]; rw [if_neg (by omega)]
  | v :: vs, cs, k, t, h => by
    simp only [List.length_cons] at h
    rw [setCells, setCells_get vs _ (k + 1) t (by simp; omega)]
    simp only [List.length_cons]
    by_cases h1 : k + 1 ≤ t ∧ t < k + 1 + vs.length
    · rw [if_pos h1, if_pos (by omega), show t - k = (t - (k + 1)) + 1 by omega, List.getElem?_cons_succ]
    · rw [if_neg h1]
      by_cases h2 : t = k
      · subst h2
        rw [if_pos (by omega), List.getElem?_set_self (by omega)]
        simp
      · rw [if_neg (by omega), List.getElem?_set_ne (by omega)]
theorem putCells_get {el : AV} {k n : Nat} {cs : List AV} (hn : el.cells.length = n) (hk : k + cs.length ≤ n) (h0 : 0 < cs.length) (hp : ∀ (t : Nat) (y : AV), cs[t]? = some y → Plain y) (t : Nat) :
    (el.putCells k cs).cells[t]? = if k ≤ t ∧ t < k + cs.length then cs[t - k]? else el.cells[t]? := by
  by_cases ha : ∃ l, el = .agg l
  · obtain ⟨l, rfl⟩ := ha
    simp only [AV.putCells, AV.cells] at hn ⊢
    exact setCells_get cs l k t (by omega)
  · have hc : el.cells = [el] := by cases el <;> first | rfl | exact absurd ⟨_, rfl⟩ ha
    have hpc : el.putCells k cs = cs.headD el := by cases el <;> first | rfl | exact absurd ⟨_, rfl⟩ ha
    rw [hc] at hn
    simp only [List.length_cons, List.length_nil] at hn
    obtain ⟨y, rfl⟩ : ∃ y, cs = [y] := by
      match cs, h0, hk with
      | [y], _, _ => exact ⟨y, rfl⟩
      | _ :: _ :: _, _, hk => simp at hk; omega
    have hk0 : k = 0 := by simp at hk; omega
    subst hk0
    have hy : y.cells = [y] := by have := (hp 0 y rfl).2; cases y <;> first | rfl | exact absurd rfl (this _)
    rw [hpc, hc]
    simp only [List.headD_cons, hy, List.length_cons, List.length_nil]
    cases t <;> simp
theorem putCells_length {el : AV} {k n : Nat} {cs : List AV} (hn : el.cells.length = n) (hk : k + cs.length ≤ n) (h0 : 0 < cs.length) (hp : ∀ (t : Nat) (y : AV), cs[t]? = some y → Plain y) : (el.putCells k cs).cells.length = n := by
  by_cases ha : ∃ l, el = .agg l
  · obtain ⟨l, rfl⟩ := ha
    simp only [AV.putCells, AV.cells] at hn ⊢
    rw [setCells_length]; exact hn
  · have hc : el.cells = [el] := by cases el <;> first | rfl | exact absurd ⟨_, rfl⟩ ha
    have hpc : el.putCells k cs = cs.headD el := by cases el <;> first | rfl | exact absurd ⟨_, rfl⟩ ha
    rw [hc] at hn
    simp only [List.length_cons, List.length_nil] at hn
    obtain ⟨y, rfl⟩ : ∃ y, cs = [y] := by
      match cs, h0, hk with
      | [y], _, _ => exact ⟨y, rfl⟩
      | _ :: _ :: _, _, hk => simp at hk; omega
    have hy : y.cells = [y] := by have := (hp 0 y rfl).2; cases y <;> first | rfl | exact absurd rfl (this _)
    rw [hpc]
    simp [hy, hn]

theorem mul_apart {m m' sz t x : Nat} (h : m ≠ m') (ht : t < sz) (hx : x < sz) : m' * sz + t ≠ m * sz + x := by
  intro he
  rcases Nat.lt_or_gt_of_ne h with h1 | h1
  · have := Nat.mul_le_mul_right sz (show m + 1 ≤ m' from h1)
    rw [Nat.add_mul] at this
    omega
  · have := Nat.mul_le_mul_right sz (show m' + 1 ≤ m from h1)
    rw [Nat.add_mul] at this
    omega

theorem evStore_ok {t : TypeId} {A B : AV} {c : Cx} {st : St} {R : Type} {K : St → Option R} {r : R} {a x : Value} (hE : EnvOk P E) (hm : Mem P c) (hσ : c.σ = st.σ) (ha : V P c A a) (hx : V P c B x) (h : evStore E t A B st K = some r) :
    ∃ st' c', K st' = some r ∧ (Instr.storeAt t a x).run P c.w = .ok () c'.w ∧ c'.σ = st'.σ ∧ Mem P c' ∧ Kp c c' ∧ st'.t = st.t := by
  unfold evStore at h
  split at h
  · cases h
  rename_i ti hti
  have ht := hE.tyo hti
  split at h <;> try (cases h; done)
  rename_i r0 m k
  split at h <;> try (cases h; done)
  rename_i mv rf e es hr0
  split at h
  · cases h
  rename_i te hte
  have hte' := hE.tyo hte
  split at h <;> try (cases h; done)
  rename_i hcond
  obtain ⟨hk, hvl⟩ := hcond
  split at h <;> try (cases h; done)
  rename_i cs σ1 hmv
  split at h <;> try (cases h; done)
  rename_i mv1 rf1 nest1 e1 es1 hr1
  obtain ⟨vs, hl, hvs, hcells⟩ := hx.cellsv
  obtain ⟨c1, g1, g2, g3, g4, g5, g6, g7, g8, _, g10⟩ := mvIn_ok rf ti.sh.leaves B.cells st.σ c vs cs σ1 hσ hm ht.leafOk hmv hl hvs
  have hsame : Root.live mv rf false e es = .live mv1 rf1 nest1 e1 es1 := by
    rcases g10 r0 with h1 | h1
    · rw [hr1] at h1; cases h1
    · rw [hr1, hr0] at h1; exact h1.symm
  cases hsame
  rw [← g1] at hr1
  have hone : ∀ u ∈ vs, u.oneCell' = true := by
    intro u hu
    obtain ⟨i, hi⟩ := List.getElem?_of_mem hu
    have hi' : i < cs.length := by rw [g7]; exact (List.getElem?_eq_some_iff.1 hi).1
    exact (g8 i _ u (List.getElem?_eq_getElem hi') hi).1
  have hpl : ∀ (i : Nat) (y : AV), cs[i]? = some y → Plain y := by
    intro i y hi
    have hi' : i < vs.length := by rw [← g7]; exact (List.getElem?_eq_some_iff.1 hi).1
    exact (g8 i y _ hi (List.getElem?_eq_getElem hi')).2.1
  have hxc := hcells hone
  obtain ⟨hlt, hd, b, cur, cap, hj, hmlt, rfl, hblk, hcur, hcap, hmax, hel⟩ := V.inv_pt g5 (ha.kp P g6) hr1
  have hsz := hte'.cells
  have hn : vs.length = ti.size := by rw [← hl]; exact hvl
  have hpos : 0 < ti.size := by obtain ⟨i, z, _, h2, _, _, h3, _⟩ := ht.info; omega
  -- the machine
  have hfit : m * P.cellsOf e + k + 0 + vs.length ≤ cur.size := by
    rw [hcur, hn]
    have := Nat.mul_le_mul_right (P.cellsOf e) (show m + 1 ≤ cap by omega)
    rw [Nat.add_mul, hsz] at this
    rw [hsz]
    omega
  have hrun := run_storeCells_at (P := P) b (m * P.cellsOf e + k) e vs 0 cur c1.w hblk hfit hone
  rw [Nat.add_zero] at hrun hfit
  generalize ho : m * P.cellsOf e + k = o at hrun hfit
  generalize hw' : c1.w.setRow b (cur.toList.take o ++ vs ++ cur.toList.drop (o + vs.length)).toArray = w' at hrun
  have hstore : (Instr.storeAt t (.pointer (some ((⟨b, m * P.cellsOf e, none⟩ : Addr).add k))) x).run P c.w = .ok () w' := by
    have hsize : x.cells.size = ti.size := by rw [← Array.length_toList, hxc, hn]
    rw [← g2, Addr.add_mid, ho]
    simp [Instr.storeAt, Instr.sureAddr, storeVar, ht.sizeOf, hsize, hxc, hrun]
  have hblk' : w'.heap[b]? = some (.cells (cur.toList.take o ++ vs ++ cur.toList.drop (o + vs.length)).toArray e (0, 0)) := by rw [← hw']; exact setRow_heap c1.w b cur _ e _ hblk
  have hoth : ∀ i, i ≠ b → w'.heap[i]? = c1.w.heap[i]? := fun i hi => by rw [← hw']; exact setRow_other c1.w b i _ hi
  have hsizes : w'.heap.size = c1.w.heap.size := by rw [← hw']; simp [World.setRow]
  have hnewsize : (cur.toList.take o ++ vs ++ cur.toList.drop (o + vs.length)).toArray.size = cur.size := by simp; omega
  have hget : ∀ i, (cur.toList.take o ++ vs ++ cur.toList.drop (o + vs.length)).toArray[i]? = if o ≤ i ∧ i < o + vs.length then vs[i - o]? else cur[i]? := by
    intro i
    rw [List.getElem?_toArray]
    by_cases h1 : i < o
    · rw [if_neg (by omega), List.append_assoc, List.getElem?_append_left (by simp; omega), List.getElem?_take, if_pos h1, Array.getElem?_toList]
    · by_cases h2 : i < o + vs.length
      · rw [if_pos ⟨by omega, h2⟩, List.append_assoc, List.getElem?_append_right (by simp; omega), List.getElem?_append_left (by simp; omega)]
        simp only [List.length_take, Array.length_toList]
        rw [Nat.min_eq_left (by omega)]
      · rw [if_neg (by omega), List.getElem?_append_right (by simp; omega), List.getElem?_drop, Array.getElem?_toList]
        congr 1
        simp only [List.length_append, List.length_take, Array.length_toList]
        rw [Nat.min_eq_left (by omega)]
        omega
  have hflat := g5.flat _ _ _ _ _ hr1
  have hes : es[m]? = some (es.getD m .x) := by simp [List.getD_eq_getElem?_getD, hmlt]
  obtain ⟨hel1, hel2⟩ := hel m _ hes
  have hcsl : cs.length = ti.size := by rw [g7, hn]
  have hpc := fun t => putCells_get (el := es.getD m .x) (k := k) hel1 (by rw [hsz, hcsl]; exact hk) (by omega) hpl t
  have hf' : Flat (es.set m ((es.getD m .x).putCells k cs)) := by
    intro m' el t' te' es' hm' ht'
    rw [List.getElem?_set] at hm'
    by_cases hmm : m = m'
    · subst hmm
      rw [if_pos rfl, if_pos hmlt] at hm'
      cases hm'
      rw [hpc] at ht'
      split at ht'
      · exact (hpl _ _ ht').1 _ _ rfl
      · exact hflat m _ t' te' es' hes ht'
    · rw [if_neg hmm] at hm'
      exact hflat m' el t' te' es' hm' ht'
  have hbut : But c1.w w' (c1.j r0 []) := by
    refine ⟨by rw [← hw']; rfl, by rw [← hw']; rfl, by rw [← hw']; rfl, by omega, fun i _ hi => hoth i fun h => hi (by rw [hj, h])⟩
  have hbl : ∀ b' cs' el, c1.j r0 [] = some b' → c1.w.heap[b']? = some (.cells cs' el (0, 0)) → ∃ cs2, w'.heap[b']? = some (.cells cs2 el (0, 0)) ∧ cs2.size = cs'.size := by
    intro b' cs' el h1 h2
    rw [hj] at h1
    cases h1
    rw [hblk] at h2
    cases h2
    exact ⟨_, hblk', hnewsize⟩
  have hlen : es.length = (es.set m ((es.getD m .x).putCells k cs)).length := by simp
  have kp := kp_set P g5 hr1 hd _ hlen hf' w' hbut hbl
  refine ⟨_, c1.set r0 (.live mv rf false e (es.set m ((es.getD m .x).putCells k cs))) w', h, by rw [hstore]; rfl, by simp [Cx.set, g1], ?_, g6.trans kp, rfl⟩
  refine mem_set P g5 hr1 hd _ hlen hf' w' hbut hbl (.inr (.inl ⟨hte'.ne, b, _, cap, hj, hblk', by rw [hnewsize]; exact hcur, by rw [← hlen]; exact hcap, hmax, fun m' el hm' => ?_⟩))
  have hlit : litAt (c1.set r0 (.live mv rf false e (es.set m ((es.getD m .x).putCells k cs))) w').σ r0 [] = rf := by
    unfold litAt Cx.set; simp only; rw [getD_set_eq _ _ _ _ hlt]; simp
  have hlit1 : litAt c1.σ r0 [] = rf := by unfold litAt; rw [hr1]; simp
  have mk : ∀ (m1 t : Nat) (y : AV) (v : Value), (∀ e es, y ≠ .nw e es) → (if rf then V P c1 y v else VI c1.N c1.w y v) → CellR P (c1.set r0 (.live mv rf false e (es.set m ((es.getD m .x).putCells k cs))) w') r0 [] m1 t y v := by
    intro m' t y v hnw hyv
    have goal : if litAt (c1.set r0 (.live mv rf false e (es.set m ((es.getD m .x).putCells k cs))) w').σ r0 [] then V P (c1.set r0 (.live mv rf false e (es.set m ((es.getD m .x).putCells k cs))) w') y v else VI (c1.set r0 (.live mv rf false e (es.set m ((es.getD m .x).putCells k cs))) w').N (c1.set r0 (.live mv rf false e (es.set m ((es.getD m .x).putCells k cs))) w').w y v := by
      rw [hlit]
      cases rf
      · exact VI.gr kp.toGr hyv
      · exact V.kp P kp hyv
    unfold CellR
    cases y <;> first | exact goal | exact (hnw _ _ rfl).elim
  have old : ∀ (m t : Nat) (el y : AV), es[m]? = some el → el.cells[t]? = some y → ∃ v, cur[m * P.cellsOf e + t]? = some v ∧ v.oneCell' = true ∧ (∀ e es, y ≠ .nw e es) ∧ (if rf then V P c1 y v else VI c1.N c1.w y v) := by
    intro m t el y h1 h2
    obtain ⟨v, h3, h4, h5⟩ := (hel m el h1).2 t y h2
    have hnw : ∀ e es, y ≠ .nw e es := by rintro e es rfl; exact hflat m el t e es h1 h2
    refine ⟨v, h3, h4, hnw, ?_⟩
    unfold CellR at h5
    cases y <;> first | (simp only [hlit1] at h5; exact h5) | exact (hnw _ _ rfl).elim
  rw [List.getElem?_set] at hm'
  by_cases hmm : m = m'
  · subst hmm
    rw [if_pos rfl, if_pos hmlt] at hm'
    cases hm'
    refine ⟨putCells_length hel1 (by rw [hsz, hcsl]; exact hk) (by omega) hpl, fun t' y hy => ?_⟩
    rw [hpc] at hy
    have htl : t' < P.cellsOf e := by
      split at hy
      · rw [hsz]; omega
      · rw [← hel1]; exact (List.getElem?_eq_some_iff.1 hy).1
    rw [hget]
    split at hy
    · rename_i hin
      have hyl : t' - k < vs.length := by rw [← g7]; exact (List.getElem?_eq_some_iff.1 hy).1
      obtain ⟨h1, h2, h3⟩ := g8 (t' - k) y _ hy (List.getElem?_eq_getElem hyl)
      refine ⟨_, ?_, h1, mk _ _ _ _ h2.1 h3⟩
      rw [if_pos (by omega), show m * P.cellsOf e + t' - o = t' - k by omega]
      exact List.getElem?_eq_getElem hyl
    · rename_i hout
      obtain ⟨v, h1, h2, h3, h4⟩ := old m t' _ y hes hy
      exact ⟨v, by rw [if_neg (by omega)]; exact h1, h2, mk _ _ _ _ h3 h4⟩
  · rw [if_neg hmm] at hm'
    refine ⟨(hel m' el hm').1, fun t' y hy => ?_⟩
    have htl : t' < P.cellsOf e := by rw [← (hel m' el hm').1]; exact (List.getElem?_eq_some_iff.1 hy).1
    obtain ⟨v, h1, h2, h3, h4⟩ := old m' t' el y hm' hy
    refine ⟨v, ?_, h2, mk _ _ _ _ h3 h4⟩
    rw [hget, if_neg ?_]
    · exact h1
    · rintro ⟨h5, h6⟩
      have := mul_apart (x := m' * P.cellsOf e + t' - m * P.cellsOf e) hmm htl (by omega)
      omega
end Go.Proofs.YtkicholhkoahhaaIT
