/- Maps from integers to truth values that a function makes for itself: sets. No condition beyond what each theorem states. -/
import Derived.Test.YtkicholhkoahhaaIt5
namespace Go.Proofs.YtkicholhkoahhaaIT
open Go
variable {P : Program} {E : Env}

theorem getObj_run {w : World} {b : Nat} {es : Array MapEntry} {cl : Nat} (h : w.heap[b]? = some (.map es cl)) : (getObj b).run P w = .ok (.map es cl) w := by
  simp [getObj, Sem.run, h]
theorem setObj_run {w : World} {b : Nat} {es : Array MapEntry} {cl : Nat} (o' : Obj) (h : w.heap[b]? = some (.map es cl)) : (setObj b o').run P w = .ok () { w with heap := w.heap.setIfInBounds b o' } := by
  simp [setObj, Sem.run, h]

/-- What a search finds. -/
theorem findNow_ok (n : Int) : ∀ (l : List MapEntry) (i : Nat), (∀ e, e ∈ l → ∃ m, e.key = .int .i64 m) →
    ∃ q, Instr.findNow (.int .i64) (.int .i64 n) l i = some q ∧ ((q = none ∧ ∀ e, e ∈ l → e.key ≠ .int .i64 n) ∨ ∃ (j : Nat) (e : MapEntry), q = some (i + j, e.val) ∧ l[j]? = some e ∧ e.key = .int .i64 n)
  | [], i, _ => ⟨none, rfl, .inl ⟨rfl, by simp⟩⟩
  | e :: l, i, h => by
    obtain ⟨m, hm⟩ := h e (by simp)
    unfold Instr.findNow
    rw [hm]
    simp only [Instr.sameNow, if_true]
    by_cases hc : n = m
    · subst hc
      rw [beq_self_eq_true]
      exact ⟨_, rfl, .inr ⟨0, e, rfl, rfl, hm⟩⟩
    · rw [beq_eq_false_iff_ne.2 hc]
      obtain ⟨q, h1, h2⟩ := findNow_ok n l (i + 1) fun e he => h e (by simp [he])
      refine ⟨q, h1, ?_⟩
      rcases h2 with ⟨h3, h4⟩ | ⟨j, e', h3, h4, h5⟩
      · refine .inl ⟨h3, fun e' he' => ?_⟩
        rcases List.mem_cons.1 he' with rfl | h6
        · rw [hm]; intro h7; cases h7; exact hc rfl
        · exact h4 e' h6
      · exact .inr ⟨j + 1, e', by rw [h3]; congr 2; omega, by simpa using h4, h5⟩

theorem MapOk.find {ents : Array MapEntry} {ks : List AV} (h : MapOk ents ks) (n : Int) :
    ∃ q, Instr.findNow (.int .i64) (.int .i64 n) ents.toList 0 = some q ∧ ((q = none ∧ hasI ks n = false) ∨ ∃ (j : Nat) (e : MapEntry), q = some (j, .bool true) ∧ ents[j]? = some e ∧ e.key = .int .i64 n ∧ hasI ks n = true) := by
  obtain ⟨q, h1, h2⟩ := findNow_ok n ents.toList 0 fun e he => by
    obtain ⟨i, hi⟩ := List.getElem?_of_mem he
    exact (h.1 i e (by rw [← Array.getElem?_toList]; exact hi)).2
  refine ⟨q, h1, ?_⟩
  rcases h2 with ⟨h3, h4⟩ | ⟨j, e, h3, h4, h5⟩
  · refine .inl ⟨h3, ?_⟩
    rw [← Bool.not_eq_true]
    intro hk
    obtain ⟨i, e, h6, h7⟩ := (h.2 n).2 hk
    exact h4 e (List.mem_of_getElem? (by rw [Array.getElem?_toList]; exact h6)) h7
  · rw [Array.getElem?_toList] at h4
    refine .inr ⟨j, e, ?_, h4, h5, (h.2 n).1 ⟨j, e, h4, h5⟩⟩
    rw [h3, (h.1 j e h4).1, Nat.zero_add]

theorem mkMap_ok {o : Oper} {t : TypeId} {a : Act} {c : Cx} {st : St} (ho : o.op = .makeMap t none) (hσ : c.σ = st.σ) (hm : Mem P c) : OpRes P E o a c st (.pt st.σ.length [(0, 0)] 0 0) (st.push (.live false false false mapT [.fn 0 []])) := by
  have hs : Same c.w (c.w.alloc (.map #[] 0)) := Same.alloc _ _
  have hjb : ∀ b, some c.w.heap.size = some b → c.w.heap.size ≤ b := fun b h => by cases h; exact Nat.le_refl _
  have hf : Flat [.fn 0 []] := by
    intro m el t te' es' h1 h2
    cases m with
    | succ m => simp at h1
    | zero =>
      simp only [List.getElem?_cons_zero, Option.some.injEq] at h1
      subst h1
      cases t <;> simp [AV.cells] at h2
  have hnode : NodeR P (c.push (.live false false false mapT [.fn 0 []]) (some c.w.heap.size) (c.w.alloc (.map #[] 0))) c.σ.length [] mapT [.fn 0 []] := by
    refine .inr (.inr ⟨rfl, rfl, ?_, c.w.heap.size, #[], 0, [], by simp [Cx.push], alloc_heap _ _, rfl, by simp, fun n => ?_⟩)
    · unfold litAt Cx.push; simp only; rw [getD_append_new]; rfl
    · simp [hasI]
  obtain ⟨n1, n2⟩ := mem_push P hm false false false mapT [.fn 0 []] (some c.w.heap.size) (c.w.alloc (.map #[] 0)) hs hjb hf hnode
  refine opRes_push (c' := c.push (.live false false false mapT [.fn 0 []]) (some c.w.heap.size) (c.w.alloc (.map #[] 0))) (z := .map (some c.w.heap.size)) (by rw [show execOp a.eval o = _ from rfl]; simp [execOp, ho, show ∀ w, (Instr.makeMap t none).run P w = .ok (.map (some w.heap.size)) (w.alloc (.map #[] 0)) from fun _ => rfl, Cx.push]) (by simp [Cx.push, St.push, hσ]) n1 ?_ n2 (Qt.push c _ _ _ hs hjb) rfl
  rw [← hσ]
  have hnn : ∀ te es, nodeAt (c.push (.live false false false mapT [.fn 0 []]) (some c.w.heap.size) (c.w.alloc (.map #[] 0))).σ c.σ.length [] = some (te, es) → te = mapT := by
    intro te es h
    unfold nodeAt Cx.push at h
    simp only at h
    rw [getD_append_new] at h
    simp only [Root.node, nodeOf, Option.some.injEq, Prod.mk.injEq] at h
    exact h.1.symm
  refine .pt _ _ _ _ _ (by simp [Cx.push]) (.inr rfl) (fun te es h => ?_) fun te es _ h => ⟨hnn te es h, _, by simp [Cx.push], rfl⟩
  unfold nodeAt Cx.push at h
  simp only at h
  rw [getD_append_new] at h
  simp [Root.node, nodeOf, AV.cells] at h

/-- A map's own block. -/
theorem V.inv_map {c : Cx} {r m k : Nat} {v : Value} (hm : Mem P c) (h : V P c (.pt r [(0, 0)] m k) v) {mv rf nest : Bool} {te : Nat} {es : List AV} (hr : c.σ.getD r .dead = .live mv rf nest te es) (ht : te = mapT) :
    ∃ b ents clock ks, c.D r ∧ c.j r [] = some b ∧ v = .map (some b) ∧ c.w.heap[b]? = some (.map ents clock) ∧ es = [.fn 0 ks] ∧ MapOk ents ks ∧ litAt c.σ r [] = false := by
  cases h with
  | vi h => cases h
  | pt _ _ _ _ _ hlt hd _ h =>
    have hn := nodeAt_live hr
    obtain ⟨_, b, h1, h2⟩ := h te es rfl hn
    rcases hm.node r [] te es hd hn with ⟨_, h4⟩ | ⟨h4, _⟩ | ⟨_, _, h3, b', ents, clock, ks, h4, h5, h6, h7⟩
    · rw [h1] at h4; cases h4
    · exact absurd ht h4
    · rw [h1] at h4
      cases h4
      exact ⟨b, ents, clock, ks, hd, h1, h2, h5, h6, h7, h3⟩
theorem checkKey_i (b : Bool) {w : World} {k : TypeId} (hk : P.underlying k = some (.int .i64)) (n : Int) (d : Nat) : (Instr.checkKey b (d + 1) k (.int .i64 n)).run P w = .ok () w := by
  unfold Instr.checkKey
  simp [run_underlying hk]

theorem mapLook_ok {o : Oper} {t s0 b0 e0 : Nat} {q : Nat × Nat} {x ix : Operand} {a : Act} {c : Cx} {st : St} {r0 m m' te : Nat} {mv rf nest : Bool} {ks : List AV} {n : Int} (hE : EnvOk P E) (ho : o.op = .lookup t x ix false) (hti : E.Γ t = some ⟨.fn, s0, b0, e0, [q]⟩) (hσ : c.σ = st.σ) (hm : Mem P c)
    (he : st.ev x = .pt r0 [(0, 0)] m m') (hr : st.σ.getD r0 .dead = .live mv rf nest te [.fn 0 ks]) (hee : te = mapT) (hi : st.ev ix = .i .i64 n) (hx : V P c (st.ev x) (a.eval x)) (hy : V P c (st.ev ix) (a.eval ix)) : OpRes P E o a c st (.b (hasI ks n)) st := by
  obtain ⟨kt, et⟩ := q
  obtain ⟨hu, hk, hb, inf, hinf, hz⟩ := (hE.tyo hti).und_map
  rw [he] at hx
  rw [hi] at hy
  rw [← hσ] at hr
  obtain ⟨b, ents, clock, ks', _, _, h1, h2, h3, h4, _⟩ := V.inv_map hm hx hr hee
  cases h3
  have h5 := hy.inv_i
  obtain ⟨q, h6, h7⟩ := h4.find n
  have hrun : (Instr.findKey kt (.int .i64 n) ents.toList).run P c.w = .ok q c.w := by
    simp [Instr.findKey, run_underlying hk, h6]
  have hck : (Instr.checkKey ents.isEmpty 10000 kt (.int .i64 n)).run P c.w = .ok () c.w := checkKey_i _ hk n _
  have hz' : (zeroValue et).run P c.w = .ok (.bool false) c.w := by simp [zeroValue, typeInfo, hinf, hz]
  refine opRes_pure hσ hm ?_ (.vi (.b _))
  rcases h7 with ⟨rfl, h8⟩ | ⟨j, ent, rfl, _, _, h8⟩
  · rw [h8]
    simp [execOp, ho, h1, h5, Instr.lookup, run_underlying hu, getObj_run h2, hck, hrun, hz']
  · rw [h8]
    simp [execOp, ho, h1, h5, Instr.lookup, run_underlying hu, getObj_run h2, hck, hrun]

theorem mapUp_ok {o : Oper} {t : Nat} {s0 b0 e0 : Nat} {q : Nat × Nat} {x ix y : Operand} {a : Act} {c : Cx} {st : St} {r0 m m' te : Nat} {mv rf nest : Bool} {ks : List AV} {n : Int} (hE : EnvOk P E) (ho : o.op = .mapUpdate t x ix y) (hti : E.Γ t = some ⟨.fn, s0, b0, e0, [q]⟩) (hσ : c.σ = st.σ) (hm : Mem P c)
    (he : st.ev x = .pt r0 [(0, 0)] m m') (hr : st.σ.getD r0 .dead = .live mv rf nest te [.fn 0 ks]) (hee : te = mapT) (hi : st.ev ix = .i .i64 n) (hb : st.ev y = .b true) (hx : V P c (st.ev x) (a.eval x)) (hy : V P c (st.ev ix) (a.eval ix)) (hz : V P c (st.ev y) (a.eval y)) :
    OpRes P E o a c st .u ⟨st.t, st.σ.set r0 (.live mv rf nest te [.fn 0 (ks ++ [.i .i64 n])])⟩ := by
  obtain ⟨kt, et⟩ := q
  obtain ⟨hu, hk, _, _, _, _⟩ := (hE.tyo hti).und_map
  rw [he] at hx
  rw [hi] at hy
  rw [hb] at hz
  rw [← hσ] at hr
  obtain ⟨b, ents, clock, ks', hd, hj, h1, h2, h3, h4, hlit⟩ := V.inv_map hm hx hr hee
  cases h3
  have h5 := hy.inv_i
  have h5b := hz.inv_b
  obtain ⟨q, h6, h7⟩ := h4.find n
  have hrun : (Instr.findKey kt (.int .i64 n) ents.toList).run P c.w = .ok q c.w := by
    simp [Instr.findKey, run_underlying hk, h6]
  have hck : (Instr.checkKey false 10000 kt (.int .i64 n)).run P c.w = .ok () c.w := checkKey_i _ hk n _
  have hblt : b < c.w.heap.size := (Array.getElem?_eq_some_iff.1 h2).1
  have fin : ∀ (ents' : Array MapEntry) (clock' : Nat), MapOk ents' (ks ++ [.i .i64 n]) → (execOp a.eval o).run P c.w = .ok .skip { c.w with heap := c.w.heap.setIfInBounds b (.map ents' clock') } →
      OpRes P E o a c st .u ⟨st.t, st.σ.set r0 (.live mv rf nest te [.fn 0 (ks ++ [.i .i64 n])])⟩ := by
    intro ents' clock' hok hx2
    generalize hw' : ({ c.w with heap := c.w.heap.setIfInBounds b (.map ents' clock') } : World) = w' at hx2
    have hb1 : w'.heap[b]? = some (.map ents' clock') := by rw [← hw']; simp [hblt]
    have hb2 : ∀ i, i ≠ b → w'.heap[i]? = c.w.heap[i]? := fun i hne => by rw [← hw']; simp [hne.symm]
    have hbut : But c.w w' (c.j r0 []) := by
      refine ⟨by rw [← hw'], by rw [← hw'], by rw [← hw'], by rw [← hw']; simp, fun i _ hne => hb2 i fun h => hne ?_⟩
      rw [hj, h]
    have hf : Flat [.fn 0 (ks ++ [.i .i64 n])] := by
      intro m el t te' es' g1 g2
      cases m with
      | succ m => simp at g1
      | zero =>
        simp only [List.getElem?_cons_zero, Option.some.injEq] at g1
        subst g1
        cases t <;> simp [AV.cells] at g2
    have hbl : ∀ b' cs el, c.j r0 [] = some b' → c.w.heap[b']? = some (.cells cs el (0, 0)) → ∃ cs', w'.heap[b']? = some (.cells cs' el (0, 0)) ∧ cs'.size = cs.size := by
      intro b' cs el g1 g2
      rw [hj] at g1
      cases g1
      rw [h2] at g2
      cases g2
    have kp := kp_set P hm hr hd [.fn 0 (ks ++ [.i .i64 n])] rfl hf w' hbut hbl
    have hlt := lt_of_live hr
    have hmem := mem_set P hm hr hd [.fn 0 (ks ++ [.i .i64 n])] rfl hf w' hbut hbl (.inr (.inr ⟨hee, rfl, by
      unfold litAt at hlit ⊢
      rw [hr] at hlit
      simp only [Cx.set]
      rw [getD_set_eq _ _ _ _ hlt]
      exact hlit, b, ents', clock', _, hj, hb1, rfl, hok⟩))
    refine fun next Q hn => ?_
    exact wp_skip' (w' := w') hx2 (hn (c.set r0 (.live mv rf nest te [.fn 0 (ks ++ [.i .i64 n])]) w') undef (by simp [Cx.set, hσ]) hmem (.vi .u) (.inl ⟨rfl, kp⟩) (fun hq => by simp [ho, quietOp] at hq) fun _ _ _ h => h.kp P kp)
  have hkey : ∀ l : List AV, hasI (l ++ [.i .i64 n]) = fun m => hasI l m || decide (n = m) := by
    intro l; funext m; unfold hasI; rw [List.any_append]; simp only [List.any_cons, List.any_nil, Bool.or_false]; rfl
  rcases h7 with ⟨rfl, h8⟩ | ⟨j, ent, rfl, h9, h10, h8⟩
  · refine fin (ents.push { key := .int .i64 n, val := .bool true, born := clock }) (clock + 1) ⟨fun i e hi' => ?_, fun m => ?_⟩ ?_
    · rw [Array.getElem?_push] at hi'
      split at hi'
      · cases hi'; exact ⟨rfl, n, rfl⟩
      · exact h4.1 i e hi'
    · rw [hkey]
      simp only [Bool.or_eq_true, decide_eq_true_eq]
      constructor
      · rintro ⟨i, e, g1, g2⟩
        rw [Array.getElem?_push] at g1
        split at g1
        · cases g1; simp only [Value.int.injEq, true_and] at g2; exact .inr g2
        · exact .inl ((h4.2 m).1 ⟨i, e, g1, g2⟩)
      · rintro (g1 | rfl)
        · obtain ⟨i, e, g2, g3⟩ := (h4.2 m).2 g1
          refine ⟨i, e, ?_, g3⟩
          have : i < ents.size := (Array.getElem?_eq_some_iff.1 g2).1
          rw [Array.getElem?_push, if_neg (by omega)]
          exact g2
        · exact ⟨ents.size, { key := .int .i64 n, val := .bool true, born := clock }, by simp, rfl⟩
    · simp [execOp, ho, h1, h5, h5b, Instr.mapUpdate, run_underlying hu, getObj_run h2, hck, hrun, setObj_run _ h2]
  · refine fin (ents.modify j fun e => { e with key := .int .i64 n, val := .bool true }) clock ⟨fun i e hi' => ?_, fun m => ?_⟩ ?_
    · rw [Array.getElem?_modify] at hi'
      split at hi'
      · obtain ⟨e0, g1, rfl⟩ := Option.map_eq_some_iff.1 hi'
        exact ⟨rfl, n, rfl⟩
      · exact h4.1 i e hi'
    · rw [hkey]
      simp only [Bool.or_eq_true, decide_eq_true_eq]
      constructor
      · rintro ⟨i, e, g1, g2⟩
        rw [Array.getElem?_modify] at g1
        split at g1
        · obtain ⟨e0, g3, rfl⟩ := Option.map_eq_some_iff.1 g1
          simp only [Value.int.injEq, true_and] at g2
          exact .inr g2
        · exact .inl ((h4.2 m).1 ⟨i, e, g1, g2⟩)
      · have both : hasI ks m = true → ∃ (i : Nat) (e : MapEntry), (ents.modify j fun e => { e with key := .int .i64 n, val := .bool true })[i]? = some e ∧ e.key = .int .i64 m := by
          intro g1
          obtain ⟨i, e, g2, g3⟩ := (h4.2 m).2 g1
          by_cases hij : j = i
          · subst hij
            rw [h9] at g2
            cases g2
            rw [h10] at g3
            cases g3
            exact ⟨j, _, by rw [Array.getElem?_modify, if_pos rfl, h9]; rfl, rfl⟩
          · exact ⟨i, e, by rw [Array.getElem?_modify, if_neg hij]; exact g2, g3⟩
        rintro (g1 | rfl)
        · exact both g1
        · exact both h8
    · have hst : (Instr.keyThatStays (.int .i64 n) (.int .i64 n)).run P c.w = .ok (.int .i64 n) c.w := by
        simp [Instr.keyThatStays, Instr.sameBits]
      simp [execOp, ho, h1, h5, h5b, Instr.mapUpdate, run_underlying hu, getObj_run h2, hck, hrun, setObj_run _ h2, h9, h10, hst]
end Go.Proofs.YtkicholhkoahhaaIT
