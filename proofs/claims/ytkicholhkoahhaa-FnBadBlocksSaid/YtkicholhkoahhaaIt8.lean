/- clear of a slice of the call's own. No condition beyond what each theorem states. -/
import Derived.Test.YtkicholhkoahhaaItM
namespace Go.Proofs.YtkicholhkoahhaaIT
open Go
variable {P : Program} {E : Env}

theorem zeroCells_get {z : Array Value} {sz n k t : Nat} (hz : z.size = sz) (ht : t < sz) (hk : k < n) : (Builtin.zeroCells z n)[k * sz + t]? = z[t]? := by
  have e2 : (k * sz + t) % sz = t := by rw [Nat.mul_comm, Nat.mul_add_mod, Nat.mod_eq_of_lt ht]
  have hlt : k * sz + t < n * sz := by
    have := Nat.mul_le_mul_right sz (show k + 1 ≤ n by omega)
    rw [Nat.add_mul] at this
    omega
  simp only [Builtin.zeroCells, Array.getElem?_map]
  rw [Array.getElem?_eq_getElem (by simp [hz]; exact hlt)]
  simp only [Array.getElem_range, Option.map_some, hz, e2]
  rw [Array.getElem?_eq_getElem (by omega)]
  congr 1
  exact getElem!_pos z t (by omega)

theorem clearEs_length {w : Option (Nat × Nat)} {z : AV} {es : List AV} (h : ∀ q, w = some q → q.1 + q.2 ≤ es.length) : (clearEs w z es).length = es.length := by
  cases w with
  | none => simp [clearEs]
  | some q => have := h q rfl; simp only [clearEs, List.length_append, List.length_take, List.length_replicate, List.length_drop]; omega

theorem clear_zero {w : Option (Nat × Nat)} {z : AV} {es : List AV} (h : ∀ q, w = some q → q.2 = 0) (h0 : w = none → es = []) : clearEs w z es = es := by
  cases w with
  | none => rw [h0 rfl]; rfl
  | some q => have := h q rfl; simp [clearEs, this]

/-- Which elements are new, and which are as they were. -/
theorem clearEs_get {w : Option (Nat × Nat)} {z : AV} {es : List AV} (off n : Nat) (h1 : ∀ q, w = some q → q = (off, n)) (h2 : w = none → off = 0 ∧ n = es.length) (hle : off + n ≤ es.length) (m : Nat) :
    (clearEs w z es)[m]? = if off ≤ m ∧ m < off + n then some z else es[m]? := by
  have key : (es.take off ++ List.replicate n z ++ es.drop (off + n))[m]? = if off ≤ m ∧ m < off + n then some z else es[m]? := by
    by_cases c1 : m < off
    · rw [if_neg (by omega), List.append_assoc, List.getElem?_append_left (by simp; omega), List.getElem?_take, if_pos c1]
    · by_cases c2 : m < off + n
      · rw [if_pos ⟨by omega, c2⟩, List.append_assoc, List.getElem?_append_right (by simp; omega), List.getElem?_append_left (by simp; omega), List.getElem?_replicate, if_pos (by simp; omega)]
      · rw [if_neg (by omega), List.getElem?_append_right (by simp; omega), List.getElem?_drop]
        congr 1
        simp only [List.length_append, List.length_take, List.length_replicate]
        omega
  cases w with
  | some q => have := h1 q rfl; subst this; exact key
  | none =>
    obtain ⟨rfl, rfl⟩ := h2 rfl
    rw [← key]
    simp [clearEs]

theorem clear_ok {cl : Call} {o : Oper} {x : Operand} {t e z0 s0 b0 r0 : Nat} {fl : List (Nat × Nat)} {te : TI} {w : Option (Nat × Nat)} {mv : Bool} {es : List AV} {a : Act} {c : Cx} {st : St} (hE : EnvOk P E) (ho : o.op = .call cl) (hcl : cl.callee = .builtin .clear) (ha : cl.args = #[x]) (hat : cl.argTypes = #[t])
    (hti : E.Γ t = some ⟨.sl e z0, s0, b0, e, fl⟩) (hte : E.Γ e = some te) (hσ : c.σ = st.σ) (hm : Mem P c) (he : st.ev x = .sl r0 [] w) (hx : V P c (.sl r0 [] w) (a.eval x)) (hr : st.σ.getD r0 .dead = .live mv false false e es) :
    OpRes P E o a c st .x ⟨st.t, st.σ.set r0 (.live mv false false e (clearEs w (zero true te.sh) es))⟩ := by
  rw [← hσ] at hr
  have ht := hE.tyo hti
  have hte' := hE.tyo hte
  obtain ⟨hund, _, _⟩ := ht.und_sl
  obtain ⟨i, z, g1, g2, g3, g4, g5, g6, g7⟩ := hte'.info
  have hzs := hte'.zsize g7
  have hsz := hte'.cells
  obtain ⟨hz1, hz2⟩ := hte'.zeros g7 c.N c.w true
  have hzr : ∀ w', (zeroValue e).run P w' = .ok z w' := fun w' => by simp [zeroValue, typeInfo, g1, g6]
  obtain ⟨hd, hs, hn⟩ := V.inv_sl hm hx hr
  have hrl := lt_of_live hr
  have hlk : cl.args[0]? = some x ∧ cl.argTypes[0]? = some t := by rw [ha, hat]; exact ⟨rfl, rfl⟩
  -- nothing to clear
  have triv : clearEs w (zero true te.sh) es = es → (∀ ty, (Builtin.clear_ #[t] ty #[a.eval x]).run P c.w = .ok (.tuple #[]) c.w) → OpRes P E o a c st .x ⟨st.t, st.σ.set r0 (.live mv false false e (clearEs w (zero true te.sh) es))⟩ := by
    intro h1 h2
    have hset : st.σ.set r0 (.live mv false false e es) = st.σ := by
      rw [← hσ]
      have := hr
      rw [List.getD_eq_getElem?_getD, List.getElem?_eq_getElem hrl] at this
      simp only [Option.getD_some] at this
      rw [← this, List.set_getElem_self]
    rw [h1, hset]
    exact opRes_pure (y := .tuple #[]) hσ hm (by simp [execOp, ho, resolve, hcl, invoke, builtin, ha, hat, h2]) (.vi (.x _))
  rcases hn with ⟨rfl, hj⟩ | ⟨b, cs, cap, hj, h1, h2, h3, h4, h5⟩
  · rw [hj] at hs
    obtain ⟨_, hq, A0, hv⟩ := hs
    refine triv (clear_zero (fun q h => (hq q h).2) fun _ => rfl) fun ty => ?_
    rw [hv]; cases A0 <;> simp [Builtin.clear_, run_underlying hund]
  rw [hj] at hs
  obtain ⟨cap', cs', k1, k2, k3, k4, k5⟩ := hs
  rw [h1] at k1
  cases k1
  have hcap : cap' = cap := by
    have hpos : 0 < P.cellsOf e := by rw [hsz]; obtain ⟨i', z', _, h2', _, _, h3', _⟩ := hte'.info; omega
    exact Nat.eq_of_mul_eq_mul_right hpos (k2.symm.trans h2)
  subst hcap
  obtain ⟨off, n, A, cp, hxv, hw1, hw2, hle, hA⟩ : ∃ off n A cp, a.eval x = .slice A n cp ∧ (∀ q, w = some q → q = (off, n)) ∧ (w = none → off = 0 ∧ n = es.length) ∧ off + n ≤ es.length ∧ (n = 0 ∨ A = some ⟨b, off * P.cellsOf e, none⟩) := by
    cases w with
    | none => exact ⟨0, es.length, _, _, k5, by simp, fun _ => ⟨rfl, rfl⟩, by omega, .inr (by simp)⟩
    | some q =>
      obtain ⟨q1, A, q2, q3⟩ := k5
      refine ⟨q.1, q.2, A, _, q2, by simp, by simp, q1, ?_⟩
      rcases q3 with ⟨q4, _⟩ | q4
      · exact .inl (by omega)
      · exact .inr q4
  by_cases hn0 : n = 0
  · subst hn0
    refine triv (clear_zero (fun q h => by rw [hw1 q h]) fun h => by have := (hw2 h).2; exact List.length_eq_zero_iff.1 this.symm) fun ty => ?_
    rw [hxv]; cases A <;> simp [Builtin.clear_, run_underlying hund]
  have hA' := hA.resolve_left hn0
  subst hA'
  obtain ⟨vs, hvs⟩ : ∃ vs, vs = (Builtin.zeroCells z.cells n).toList := ⟨_, rfl⟩
  have hvl : vs.length = n * P.cellsOf e := by rw [hvs, Array.length_toList, size_zeroCells, hzs, hsz]
  have hone : ∀ u ∈ vs, u.oneCell' = true := by
    intro u hu
    obtain ⟨q, hq, rfl⟩ := List.mem_iff_getElem.1 hu
    have hpos : 0 < te.size := by omega
    have hqk : q = (q / te.size) * te.size + q % te.size := by rw [Nat.mul_comm]; exact (Nat.div_add_mod q te.size).symm
    have hqn : q / te.size < n := by rw [Nat.div_lt_iff_lt_mul hpos, ← hsz, ← hvl]; exact hq
    have hmod := Nat.mod_lt q hpos
    obtain ⟨y, hy⟩ : ∃ y, (zero true te.sh).cells[q % te.size]? = some y := ⟨_, List.getElem?_eq_getElem (by rw [hz1]; exact hmod)⟩
    obtain ⟨_, v, f1, f2, _⟩ := hz2 _ _ hy
    have f3 := zeroCells_get (z := z.cells) (n := n) hzs hmod hqn
    rw [← hqk, f1] at f3
    have f4 : vs[q]? = some v := by rw [hvs, Array.getElem?_toList]; exact f3
    rw [List.getElem?_eq_getElem hq] at f4
    simp only [Option.some.injEq] at f4
    rw [f4]; exact f2
  have hfit : off * P.cellsOf e + 0 + vs.length ≤ cs.size := by
    rw [hvl, h2, Nat.add_zero, ← Nat.add_mul]
    exact Nat.mul_le_mul_right _ (by omega)
  have hrun := run_storeCells_at (P := P) b (off * P.cellsOf e) e vs 0 cs c.w h1 hfit hone
  rw [Nat.add_zero] at hrun hfit
  generalize ho' : off * P.cellsOf e = oo at hrun hfit
  generalize hw' : c.w.setRow b (cs.toList.take oo ++ vs ++ cs.toList.drop (oo + vs.length)).toArray = w' at hrun
  have hclear : ∀ ty, (Builtin.clear_ #[t] ty #[a.eval x]).run P c.w = .ok (.tuple #[]) w' := by
    intro ty
    rw [hxv, ho']
    obtain ⟨n', rfl⟩ : ∃ n', n = n' + 1 := ⟨n - 1, by omega⟩
    rw [hvs] at hrun
    simp [Builtin.clear_, run_underlying hund, hzr, hrun]
  have hblk' : w'.heap[b]? = some (.cells (cs.toList.take oo ++ vs ++ cs.toList.drop (oo + vs.length)).toArray e (0, 0)) := by rw [← hw']; exact setRow_heap c.w b cs _ e _ h1
  have hoth : ∀ i, i ≠ b → w'.heap[i]? = c.w.heap[i]? := fun i hi => by rw [← hw']; exact setRow_other c.w b i _ hi
  have hsizes : w'.heap.size = c.w.heap.size := by rw [← hw']; simp [World.setRow]
  have hnewsize : (cs.toList.take oo ++ vs ++ cs.toList.drop (oo + vs.length)).toArray.size = cs.size := by simp; omega
  have hget : ∀ i, (cs.toList.take oo ++ vs ++ cs.toList.drop (oo + vs.length)).toArray[i]? = if oo ≤ i ∧ i < oo + vs.length then vs[i - oo]? else cs[i]? := by
    intro i
    rw [List.getElem?_toArray]
    by_cases h1 : i < oo
    · rw [if_neg (by omega), List.append_assoc, List.getElem?_append_left (by simp; omega), List.getElem?_take, if_pos h1, Array.getElem?_toList]
    · by_cases h2 : i < oo + vs.length
      · rw [if_pos ⟨by omega, h2⟩, List.append_assoc, List.getElem?_append_right (by simp; omega), List.getElem?_append_left (by simp; omega)]
        simp only [List.length_take, Array.length_toList]
        rw [Nat.min_eq_left (by omega)]
      · rw [if_neg (by omega), List.getElem?_append_right (by simp; omega), List.getElem?_drop, Array.getElem?_toList]
        congr 1
        simp only [List.length_append, List.length_take, Array.length_toList]
        rw [Nat.min_eq_left (by omega)]
        omega
  have hflat := hm.flat _ _ _ _ _ hr
  have hceg := fun m => clearEs_get (z := zero true te.sh) off n hw1 hw2 hle m
  have hf' : Flat (clearEs w (zero true te.sh) es) := by
    intro m' el t' te' es' hm' ht'
    rw [hceg] at hm'
    split at hm'
    · simp only [Option.some.injEq] at hm'
      subst hm'
      exact (hz2 t' _ ht').1.1 _ _ rfl
    · exact hflat m' el t' te' es' hm' ht'
  have hbut : But c.w w' (c.j r0 []) := by
    refine ⟨by rw [← hw']; rfl, by rw [← hw']; rfl, by rw [← hw']; rfl, by omega, fun i _ hi => hoth i fun h => hi (by rw [hj, h])⟩
  have hbl : ∀ b' cs' el, c.j r0 [] = some b' → c.w.heap[b']? = some (.cells cs' el (0, 0)) → ∃ cs2, w'.heap[b']? = some (.cells cs2 el (0, 0)) ∧ cs2.size = cs'.size := by
    intro b' cs' el q1 q2
    rw [hj] at q1
    cases q1
    rw [h1] at q2
    cases q2
    exact ⟨_, hblk', hnewsize⟩
  have hlen : es.length = (clearEs w (zero true te.sh) es).length := (clearEs_length fun q h => by rw [hw1 q h]; exact hle).symm
  have kp := kp_set P hm hr hd _ hlen hf' w' hbut hbl
  have hmem := mem_set P hm hr hd _ hlen hf' w' hbut hbl (.inr (.inl ⟨hte'.ne, b, _, cap', hj, hblk', by rw [hnewsize]; exact h2, by rw [← hlen]; exact h3, h4, fun m' el hm' => by
    rw [hceg] at hm'
    have hlit : litAt (c.set r0 (.live mv false false e (clearEs w (zero true te.sh) es)) w').σ r0 [] = false := by
      unfold litAt Cx.set; simp only; rw [getD_set_eq _ _ _ _ hrl]; simp
    have mk : ∀ (m1 t : Nat) (y : AV) (v : Value), (∀ e es, y ≠ .nw e es) → VI c.N c.w y v → CellR P (c.set r0 (.live mv false false e (clearEs w (zero true te.sh) es)) w') r0 [] m1 t y v := by
      intro m' t y v hnw hyv
      have goal : if litAt (c.set r0 (.live mv false false e (clearEs w (zero true te.sh) es)) w').σ r0 [] then V P (c.set r0 (.live mv false false e (clearEs w (zero true te.sh) es)) w') y v else VI (c.set r0 (.live mv false false e (clearEs w (zero true te.sh) es)) w').N (c.set r0 (.live mv false false e (clearEs w (zero true te.sh) es)) w').w y v := by
        rw [hlit]
        exact VI.gr kp.toGr hyv
      unfold CellR
      cases y <;> first | exact goal | exact (hnw _ _ rfl).elim
    split at hm'
    · rename_i hin
      simp only [Option.some.injEq] at hm'
      subst hm'
      refine ⟨by rw [hz1, hsz], fun t' y hy => ?_⟩
      have htl : t' < te.size := by rw [← hz1]; exact (List.getElem?_eq_some_iff.1 hy).1
      obtain ⟨p1, v, p2, p3, p4⟩ := hz2 t' y hy
      refine ⟨v, ?_, p3, mk _ _ _ _ p1.1 p4⟩
      have hbd := Nat.mul_le_mul_right te.size (show (m' - off) + 1 ≤ n by omega)
      rw [Nat.add_mul, Nat.sub_mul] at hbd
      have hmo := Nat.mul_le_mul_right te.size hin.1
      rw [hsz] at ho' hvl ⊢
      rw [hget, if_pos (by omega), show m' * te.size + t' - oo = (m' - off) * te.size + t' by rw [Nat.sub_mul]; omega, hvs, Array.getElem?_toList]
      exact (zeroCells_get hzs htl (by omega)).trans p2
    · rename_i hout
      refine ⟨(h5 m' el hm').1, fun t' y hy => ?_⟩
      have htl : t' < P.cellsOf e := by rw [← (h5 m' el hm').1]; exact (List.getElem?_eq_some_iff.1 hy).1
      obtain ⟨v, p1, p2, p3⟩ := (h5 m' el hm').2 t' y hy
      have hnw : ∀ e es, y ≠ .nw e es := by rintro e es rfl; exact hflat m' el t' e es hm' hy
      have hlit1 : litAt c.σ r0 [] = false := by unfold litAt; rw [hr]; simp
      refine ⟨v, ?_, p2, mk _ _ _ _ hnw ?_⟩
      · rw [hget, if_neg ?_]
        · exact p1
        · rintro ⟨q1, q2⟩
          apply hout
          rw [hvl, ← ho', ← Nat.add_mul] at q2
          rw [← ho'] at q1
          have hpos : 0 < P.cellsOf e := by omega
          constructor
          · rcases Nat.lt_or_ge m' off with q3 | q3
            · have := Nat.mul_le_mul_right (P.cellsOf e) (show m' + 1 ≤ off from q3)
              rw [Nat.add_mul] at this
              omega
            · exact q3
          · rcases Nat.lt_or_ge m' (off + n) with q3 | q3
            · exact q3
            · have := Nat.mul_le_mul_right (P.cellsOf e) q3
              omega
      · unfold CellR at p3
        cases y <;> first | (simp only [hlit1] at p3; exact p3) | exact (hnw _ _ rfl).elim⟩))
  intro next Q hn
  refine wp_value (y := .tuple #[]) (w' := w') (by simp [execOp, ho, resolve, hcl, invoke, builtin, ha, hat, hclear]) (hn (c.set r0 (.live mv false false e (clearEs w (zero true te.sh) es)) w') _ (by simp [Cx.set, hσ]) hmem (.vi (.x _)) (.inl ⟨rfl, kp⟩) (fun hq => by simp [ho, quietOp, hcl] at hq) fun _ _ _ h => h.kp P kp)
end Go.Proofs.YtkicholhkoahhaaIT
