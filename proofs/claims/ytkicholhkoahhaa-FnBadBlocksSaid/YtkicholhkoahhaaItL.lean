/- Appending to rows. No condition beyond what each theorem states. -/
import Derived.Test.YtkicholhkoahhaaItK
namespace Go.Proofs.YtkicholhkoahhaaIT
open Go
variable {P : Program} {E : Env}

/-- A root's row, read through a slice. -/
theorem own_row {c : Cx} (hm : Mem P c) {r te : Nat} {mv nest : Bool} {es : List AV} {w : Option (Nat × Nat)} {x : Value} (hr : c.σ.getD r .dead = .live mv false nest te es) (hf : Flat es) (hv : V P c (.sl r [] w) x) :
    ∃ A m cap, x = .slice A m cap ∧ m ≤ cap ∧ m = (match w with | none => es.length | some q => q.2) ∧ m = (win w es).length ∧ (match w with | none => True | some q => q.1 + q.2 ≤ es.length) ∧
      (m = 0 ∨ ∃ a vals, A = some a ∧ Row c.N c.w (P.cellsOf te) (win w es) vals ∧ ∀ j u, vals[j]? = some u → c.w.cell? (a.add j) = some u) := by
  obtain ⟨hd, hs, hn⟩ := V.inv_sl hm hv hr
  rcases hn with ⟨rfl, hj⟩ | ⟨b, cs, cap, hj, h1, h2, h3, h4, h5⟩
  · rw [hj] at hs
    obtain ⟨_, hq, A0, rfl⟩ := hs
    cases w with
    | none => exact ⟨A0, 0, 0, rfl, Nat.le_refl _, rfl, rfl, trivial, .inl rfl⟩
    | some q => obtain ⟨q1, q2⟩ := hq q rfl; exact ⟨A0, 0, 0, rfl, Nat.le_refl _, q2.symm, by simp [win], by simp [q1, q2], .inl rfl⟩
  · rw [hj] at hs
    obtain ⟨cap', cs', h6, h7, h8, h9, h10⟩ := hs
    rw [h1] at h6
    cases h6
    have hrow := row_cells hr hf h7 h8 h5
    have hcell : ∀ j u, (cs.toList.take (es.length * P.cellsOf te))[j]? = some u → c.w.cell? ((⟨b, 0, none⟩ : Addr).add j) = some u := by
      intro j u hj
      rw [Addr.add_mid, Nat.zero_add, cell_of_row c.w b j cs te (0, 0) h1, ← Array.getElem?_toList]
      rw [List.getElem?_take] at hj
      split at hj
      · exact hj
      · cases hj
    cases w with
    | none => exact ⟨_, _, cap', h10, h8, rfl, rfl, trivial, .inr ⟨_, _, rfl, hrow, hcell⟩⟩
    | some q =>
      obtain ⟨h11, A, rfl, hA⟩ := h10
      refine ⟨A, q.2, cap' - q.1, rfl, by omega, rfl, by simp [win]; omega, h11, ?_⟩
      rcases hA with ⟨hA, _⟩ | rfl
      · left; omega
      · right
        refine ⟨_, _, rfl, (hrow.drop q.1).take q.2, fun j u hj => ?_⟩
        rw [List.getElem?_take] at hj
        split at hj
        · rw [List.getElem?_drop] at hj
          have := hcell _ u hj
          rw [Addr.add_mid] at this ⊢
          simpa using this
        · cases hj

theorem src_ok {c : Cx} (hm : Mem P c) {e z : Nat} {B : AV} {ys : List AV} {x : Value} (hz : P.cellsOf e = z) (hv : V P c B x) (h : srcElems e z c.σ B = some ys) :
    ∃ A cap, x = .slice A ys.length cap ∧ (ys = [] ∨ ∃ a vals, A = some a ∧ Row c.N c.w z ys vals ∧ ∀ j u, vals[j]? = some u → c.w.cell? (a.add j) = some u) := by
  unfold srcElems at h
  split at h
  · cases h
    obtain ⟨A0, rfl⟩ := hv.inv_nils
    exact ⟨_, _, rfl, .inl rfl⟩
  · split at h
    · cases h
      rename_i hz'
      subst hz'
      obtain ⟨A, cap, h1, _, h2⟩ := imm_row (hv.vi_of trivial)
      exact ⟨A, cap, h1, h2⟩
    · cases h
  · split at h
    · rename_i e' es hr
      split at h
      · rename_i hc
        obtain ⟨rfl, rfl⟩ := hc
        cases h
        obtain ⟨A, m, cap, h1, _, _, h3, _, h4⟩ := own_row hm hr (hm.flat _ _ _ _ _ hr) hv
        refine ⟨A, cap, by rw [h1, h3], ?_⟩
        rcases h4 with h4 | ⟨a, vals, h5, h6, h7⟩
        · left; exact List.eq_nil_of_length_eq_zero (by omega)
        · right; exact ⟨a, vals, h5, hz ▸ h6, h7⟩
      · cases h
    · cases h
  · cases h

theorem run_append_zero {w : World} {t ty e : TypeId} (ht : P.underlying t = some (.slice e)) {i : TypeInfo} (hi : P.info? e = some i) (A : Option Addr) (n cap : Nat) (hle : n ≤ cap) (B : Option Addr) (cap2 : Nat) :
    (Builtin.append_ #[t, t] ty #[.slice A n cap, .slice B 0 cap2]).run P w = .ok (.slice A n cap) w := by
  cases A <;> cases B <;> simp [Builtin.append_, run_underlying ht, sizeOf, typeInfo, hi, Builtin.lenOf, Builtin.firstCells, hle, storeCells, loadCells, loadCellsFrom]

/-- Onto an empty slice without room it is no matter where the slice lies. -/
theorem run_append_grow {w : World} {t ty e : TypeId} (ht : P.underlying t = some (.slice e)) {i : TypeInfo} (hi : P.info? e = some i) {A : Option Addr} {n : Nat} (hn : 0 < n) (hb : n * i.bytes ≤ 140737488355328) {B : Option Addr} {cap2 : Nat} :
    (Builtin.append_ #[t, t] ty #[.slice A 0 0, .slice B n cap2]).run P w = (Builtin.append_ #[t, t] ty #[.slice none 0 0, .slice B n cap2]).run P w := by
  cases A with
  | none => rfl
  | some a =>
    have h1 : ¬ n = 0 := by omega
    have h2 : Builtin.nextslicecap n 0 = n := by simp [Builtin.nextslicecap, hn]
    have h3 : ¬ n * i.bytes > 2 ^ 48 := by omega
    simp [Builtin.append_, run_underlying ht, sizeOf, typeInfo, hi, Builtin.lenOf, Builtin.firstCells, h1, h2, h3, loadCells, loadCellsFrom]

theorem wp_append {o : Oper} {a : Act} {w w' : World} {next : Act → World → Prop} {Q : Exit → Act → World → Prop} {z : Value} {cl : Call} {t : TypeId} {x y : Operand} (ho : o.op = .call cl) (hc : cl.callee = .builtin .append) (ha : cl.args.toList = [x, y]) (hat : cl.argTypes.toList = [t, t])
    (hr : (Builtin.append_ #[t, t] o.type #[a.eval x, a.eval y]).run P w = .ok z w') (hn : next (a.put o.dst z) w') : o.wp P a w next Q := by
  have e1 : cl.args = #[x, y] := by rw [← Array.toArray_toList (xs := cl.args), ha]
  have e2 : cl.argTypes = #[t, t] := by rw [← Array.toArray_toList (xs := cl.argTypes), hat]
  refine wp_value (y := z) (w' := w') ?_ hn
  simp [execOp, ho, resolve, hc, invoke, builtin, e1, e2, hr]

theorem grown_same {w w' : World} (h : w.grownBy w' none) : Same w w' := ⟨h.os, h.tape, h.output, h.size, fun b hb => h.block b hb (by simp)⟩

theorem room_len {n by_ : Nat} (hb : 0 < by_) (h : n * by_ ≤ 140737488355328) : n ≤ 140737488355328 := Nat.le_trans (Nat.le_mul_of_pos_right _ hb) h

/-- A row's cells behind an append, where the machine tells what it holds. -/
theorem cur_row {N : Nat → Prop} {w : World} {sz : Nat} {es : List AV} {vals : List Value} {cur : Array Value} (h : Row N w sz es vals) (ht : cur.toList.take (es.length * sz) = vals) :
    ∀ (m : Nat) (el : AV), es[m]? = some el → el.cells.length = sz ∧ ∀ (t : Nat) (y : AV), el.cells[t]? = some y → Plain y ∧ ∃ v, cur[m * sz + t]? = some v ∧ v.oneCell' = true ∧ VI N w y v := by
  intro m el hm
  refine ⟨(h.el m el hm).1, fun t y hy => ?_⟩
  obtain ⟨h1, v, h2, h3⟩ := (h.el m el hm).2 t y hy
  refine ⟨h1, v, ?_, h3⟩
  rw [← ht, List.getElem?_take] at h2
  split at h2
  · rw [← Array.getElem?_toList]; exact h2
  · cases h2

theorem evAppend_ok {t ty : TypeId} {A B : AV} {c : Cx} {st : St} {R : Type} {K : AV → St → Option R} {r : R} {x y : Value} (hE : EnvOk P E) (hm : Mem P c) (hσ : c.σ = st.σ) (hx : V P c A x) (hy : V P c B y) (h : evAppend E t A B st K = some r) :
    ∃ v st' c' z, K v st' = some r ∧ (Builtin.append_ #[t, t] ty #[x, y]).run P c.w = .ok z c'.w ∧ c'.σ = st'.σ ∧ Mem P c' ∧ V P c' v z ∧ Stp c c' st.t st'.t ∧ ((∀ r p w, A ≠ .sl r p w) → ∀ y1 u, V P c y1 u → V P c' y1 u) := by
  unfold evAppend at h
  split at h <;> try (cases h; done)
  rename_i ety _ _ _ elem _ hti
  split at h
  · cases h
  rename_i te hte
  have ht := hE.tyo hti
  obtain ⟨hund, rfl, hel⟩ := ht.und_sl
  have hte' := hE.tyo hte
  obtain ⟨i, z, hi1, hi2, hi3, hi4, hi5, hi6, hi7⟩ := hte'.info
  have hcells : P.cellsOf elem = te.size := hte'.cells
  have hzsz : z.cells.size = te.size := hte'.zsize hi7
  split at h
  · cases h
  rename_i ys hsrc
  rw [← hσ] at hsrc
  obtain ⟨A2, cap2, rfl, hsrc2⟩ := src_ok hm hcells hy hsrc
  split at h
  · -- onto nil
    obtain ⟨A0, rfl⟩ := hx.inv_nils
    split at h
    · rename_i hroom
      rcases hsrc2 with rfl | ⟨a2, news, rfl, hrow, hnews⟩
      · -- nothing
        refine ⟨_, _, c.push (.live true false false elem []) none c.w, .slice A0 0 0, h, run_append_zero hund hi1 A0 0 0 (Nat.le_refl _) A2 cap2, by simp [Cx.push, hσ], ?_, ?_, .inl ⟨rfl, kp_push c _ none c.w (Same.refl _) (by simp) fun b h => Cx.O_lt P hm h⟩, fun _ _ _ h => h.kp P (kp_push c _ none c.w (Same.refl _) (by simp) fun b h => Cx.O_lt P hm h)⟩
        · exact (mem_push P hm true false false elem [] none c.w (Same.refl _) (by simp) (by simp) (.inl ⟨rfl, by simp [Cx.push]⟩)).1
        · rw [← hσ]
          refine .sl _ _ _ _ (by simp [Cx.push]) (.inr rfl) fun te' es' hn => ?_
          unfold nodeAt Cx.push at hn
          simp only at hn
          rw [getD_append_new] at hn
          simp only [Root.node, nodeOf, Option.some.injEq, Prod.mk.injEq] at hn
          obtain ⟨rfl, rfl⟩ := hn
          simp only [Cx.push, if_true]
          exact ⟨rfl, by simp, A0, rfl⟩
      · by_cases h0 : ys.length = 0
        · obtain rfl := List.eq_nil_of_length_eq_zero h0
          refine ⟨_, _, c.push (.live true false false elem []) none c.w, .slice A0 0 0, h, run_append_zero hund hi1 A0 0 0 (Nat.le_refl _) (some a2) cap2, by simp [Cx.push, hσ], ?_, ?_, .inl ⟨rfl, kp_push c _ none c.w (Same.refl _) (by simp) fun b h => Cx.O_lt P hm h⟩, fun _ _ _ h => h.kp P (kp_push c _ none c.w (Same.refl _) (by simp) fun b h => Cx.O_lt P hm h)⟩
          · exact (mem_push P hm true false false elem [] none c.w (Same.refl _) (by simp) (by simp) (.inl ⟨rfl, by simp [Cx.push]⟩)).1
          · rw [← hσ]
            refine .sl _ _ _ _ (by simp [Cx.push]) (.inr rfl) fun te' es' hn => ?_
            unfold nodeAt Cx.push at hn
            simp only at hn
            rw [getD_append_new] at hn
            simp only [Root.node, nodeOf, Option.some.injEq, Prod.mk.injEq] at hn
            obtain ⟨rfl, rfl⟩ := hn
            simp only [Cx.push, if_true]
            exact ⟨rfl, by simp, A0, rfl⟩
        · have hb := room_len (by rw [← hi3]; exact hi4) hroom
          obtain ⟨z', w', hrun, hown, hgr, _, hat⟩ := run_append_own_at (P := P) c.w 0 t ty elem i z te.size te.bytes hund hi1 hi6 hi2 hi3 hzsz (by omega) (.slice none 0 0) 0 [] (World.ownsRow_nil _ _ _ _) a2 ys.length cap2 news hrow.len hnews hrow.one (by simp only [maxLen]; omega) (by rw [Nat.zero_add]; exact hroom) (Nat.zero_le _)
          rw [← run_append_grow hund hi1 (A := A0) (by omega) (by rw [hi3]; exact hroom)] at hrun
          rw [Nat.zero_add, List.nil_append] at hown
          rcases hown.2 with ⟨_, h1⟩ | ⟨g, cap, cur, rfl, _, hg, hle, hmax, hcs, htake⟩
          · exact absurd h1 h0
          · have hgs : g = c.w.heap.size := by rcases hat with h1 | h1 <;> simp [Value.ownBlock] at h1; exact h1
            subst hgs
            have hs := grown_same hgr
            obtain ⟨n1, n2, n3, n4, _⟩ := new_ok hm true false elem hte'.ne ys cur cap w' hs hg (by rw [hcells]; exact hcs) hle hmax (by
              rw [hcells]
              intro m el hm'
              refine ⟨(hrow.el m el hm').1, fun t' y' hy' => ?_⟩
              obtain ⟨k1, v, k2, k3, k4⟩ := (cur_row hrow htake m el hm').2 t' y' hy'
              exact ⟨k1, v, k2, k3, by simpa using k4⟩)
            exact ⟨_, _, _, _, h, hrun, by simp [Cx.push, hσ], n1, by rw [← hσ]; exact n4, .inl ⟨rfl, n2⟩, fun _ _ _ h => h.kp P n2⟩
    · cases h
  · -- onto a row of the call's own
    rename_i r0 w
    split at h
    · rename_i e es hr
      rw [← hσ] at hr
      split at h
      · rename_i xs hxs
        split at h <;> try (cases h; done)
        rename_i hee
        split at h
        · rename_i hroom
          subst hee
          have hf := hm.flat _ _ _ _ _ hr
          obtain ⟨hd, hs, hn⟩ := V.inv_sl hm hx hr
          have hxse : xs = es := by
            cases w with
            | none => simpa using hxs.symm
            | some q => simp at hxs
          have hbase : ∃ x0 vals, (x = x0 ∨ xs = [] ∧ x0 = .slice none 0 0 ∧ ∃ A0, x = .slice A0 0 0) ∧ Row c.N c.w te.size xs vals ∧ c.w.ownsRow 0 e te.size x0 xs.length vals ∧ x0.ownBlock = c.j r0 [] ∧ ∃ A cap, x0 = .slice A xs.length cap ∧ xs.length ≤ cap := by
            rcases hn with ⟨rfl, hj⟩ | ⟨b, cs, cap, hj, hb1, hb2, hb3, hb4, hb5⟩
            · rw [hj] at hs ⊢
              obtain ⟨_, hq, A0, rfl⟩ := hs
              have hxs0 : xs = [] := by
                cases w with
                | none => simpa using hxs.symm
                | some q =>
                  obtain ⟨q1, q2⟩ := q
                  simp at hxs
              subst hxs0
              exact ⟨.slice none 0 0, [], .inr ⟨rfl, rfl, _, rfl⟩, Row.nil _ _ _, World.ownsRow_nil _ _ _ _, rfl, none, 0, rfl, Nat.le_refl _⟩
            · rw [hj] at hs ⊢
              obtain ⟨cap', cs', h6, h7, h8, h9, h10⟩ := hs
              rw [hb1] at h6
              cases h6
              have hrow := row_cells hr hf h7 h8 hb5
              have fin : ∀ n, n ≤ es.length → x = .slice (some ⟨b, 0, none⟩) n cap' → xs = es.take n → ∃ x0 vals, (x = x0 ∨ xs = [] ∧ x0 = .slice none 0 0 ∧ ∃ A0, x = .slice A0 0 0) ∧ Row c.N c.w te.size xs vals ∧ c.w.ownsRow 0 e te.size x0 xs.length vals ∧ x0.ownBlock = some b ∧ ∃ A cap, x0 = .slice A xs.length cap ∧ xs.length ≤ cap := by
                rintro n hn rfl rfl
                have hlen : (es.take n).length = n := by simp; omega
                have h11 := hrow.take n
                rw [hcells] at h11
                rw [hlen]
                refine ⟨_, _, .inl rfl, h11, ⟨by rw [h11.len, hlen], .inr ⟨b, cap', cs, rfl, Nat.zero_le _, hb1, by omega, h9, by rw [← hcells]; exact h7, ?_⟩⟩, rfl, _, cap', rfl, by omega⟩
                rw [List.take_take, Nat.min_eq_left (Nat.mul_le_mul_right _ hn)]
              cases w with
              | none =>
                simp only [Option.some.injEq] at hxs
                subst hxs
                exact fin es.length (Nat.le_refl _) h10 (by simp)
              | some q =>
                obtain ⟨q1, q2⟩ := q
                simp at hxs
          obtain ⟨x0, vals, hx0, hrow1, hown1, hblk, A1, cap1, hxe, hcap1⟩ := hbase
          have hgo : ∃ z' w' news, Row c.N c.w te.size ys news ∧ (Builtin.append_ #[t, t] ty #[x0, .slice A2 ys.length cap2]).run P c.w = .ok z' w' ∧ w'.ownsRow 0 e te.size z' (xs.length + ys.length) (vals ++ news) ∧ c.w.grownBy w' x0.ownBlock ∧ (z'.ownBlock = x0.ownBlock ∨ z'.ownBlock = some c.w.heap.size) ∧ (ys.length = 0 → z'.ownBlock = x0.ownBlock ∧ w' = c.w) := by
            by_cases h0 : ys.length = 0
            · obtain rfl := List.eq_nil_of_length_eq_zero h0
              refine ⟨x0, c.w, [], Row.nil _ _ _, ?_, by simpa using hown1, ⟨rfl, rfl, rfl, Nat.le_refl _, fun _ _ _ => rfl⟩, .inl rfl, fun _ => ⟨rfl, rfl⟩⟩
              rw [hxe]
              exact run_append_zero hund hi1 A1 xs.length cap1 hcap1 A2 cap2
            · rcases hsrc2 with rfl | ⟨a2, news, rfl, hrow, hnews⟩
              · exact absurd rfl h0
              · have hb := room_len (by rw [← hi3]; exact hi4) hroom
                obtain ⟨z', w', hrun, hown, hgr, _, hat⟩ := run_append_own_at (P := P) c.w 0 t ty e i z te.size te.bytes hund hi1 hi6 hi2 hi3 hzsz (by omega) x0 xs.length vals hown1 a2 ys.length cap2 news hrow.len hnews hrow.one (by simp only [maxLen]; omega) hroom (Nat.zero_le _)
                exact ⟨z', w', news, hrow, hrun, hown, hgr, hat, fun h => absurd h h0⟩
          obtain ⟨z', w', news, hrow, hrun, hown, hgr, hat, hzero⟩ := hgo
          have hreal : ∃ z2, (Builtin.append_ #[t, t] ty #[x, .slice A2 ys.length cap2]).run P c.w = .ok z2 w' ∧ (z2 = z' ∨ (xs ++ ys = [] ∧ z' = .slice none 0 0 ∧ ∃ A0, z2 = .slice A0 0 0)) := by
            rcases hx0 with rfl | ⟨rfl, rfl, A0, rfl⟩
            · exact ⟨z', hrun, .inl rfl⟩
            · by_cases h0 : ys.length = 0
              · obtain rfl := List.eq_nil_of_length_eq_zero h0
                have h1 := run_append_zero (P := P) (w := c.w) (ty := ty) hund hi1 none 0 0 (Nat.le_refl _) A2 cap2
                rw [show (([] : List AV).length) = 0 from rfl, h1] at hrun
                cases hrun
                exact ⟨_, run_append_zero hund hi1 A0 0 0 (Nat.le_refl _) A2 cap2, .inr ⟨rfl, rfl, _, rfl⟩⟩
              · refine ⟨z', ?_, .inl rfl⟩
                rw [run_append_grow hund hi1 (by omega) (by rw [hi3]; simp only [List.length_nil, Nat.zero_add] at hroom; exact hroom)]
                exact hrun
          obtain ⟨z2, hrun2, hz2⟩ := hreal
          have hrow2 := hrow1.append hrow
          have hlen2 : (xs ++ ys).length = xs.length + ys.length := List.length_append
          have hbut : But c.w w' (c.j r0 []) := ⟨hgr.os, hgr.tape, hgr.output, hgr.size, fun k hk hne => hgr.block k hk (by rw [hblk]; exact fun h => hne h.symm)⟩
          have hjb : z'.ownBlock = c.j r0 [] ∨ ∀ b, z'.ownBlock = some b → c.w.heap.size ≤ b := by
            rcases hat with h1 | h1
            · left; rw [h1, hblk]
            · right; intro b hb; rw [h1] at hb; cases hb; exact Nat.le_refl _
          have hgw : e = e ∧ es.length ≤ (xs ++ ys).length ∧ (es.length = (xs ++ ys).length → z'.ownBlock = c.j r0 [] ∧ w' = c.w) := by
            refine ⟨rfl, by rw [hlen2, hxse]; omega, fun he => ?_⟩
            rw [hlen2, hxse] at he
            obtain ⟨g1, g2⟩ := hzero (by omega)
            exact ⟨g1.trans hblk, g2⟩
          have kx := kx_app P hm hr hd true e (xs ++ ys) hrow2.flat z'.ownBlock w' hbut hjb hgw
          have hrow3 := hrow2.gr kx.toGr
          have hlt := lt_of_live hr
          have hlit : litAt (c.app r0 (.live true false false e (xs ++ ys)) z'.ownBlock w').σ r0 [] = false := by
            unfold litAt Cx.app; simp only; rw [getD_map_kill, getD_set_eq _ _ _ _ hlt]; rfl
          have hj' : (c.app r0 (.live true false false e (xs ++ ys)) z'.ownBlock w').j r0 [] = z'.ownBlock := by simp [Cx.app]
          have hcase : (xs ++ ys = [] ∧ z' = .slice none 0 0) ∨ ∃ g cap cur, z' = .slice (some ⟨g, 0, none⟩) (xs ++ ys).length cap ∧ w'.heap[g]? = some (.cells cur e (0, 0)) ∧ (xs ++ ys).length ≤ cap ∧ cap ≤ maxLen ∧ cur.size = cap * te.size ∧ cur.toList.take ((xs ++ ys).length * te.size) = vals ++ news := by
            rcases hown.2 with ⟨h1, h2⟩ | ⟨g, cap, cur, h1, _, h3, h4, h5, h6, h7⟩
            · exact .inl ⟨List.eq_nil_of_length_eq_zero (by omega), h1⟩
            · exact .inr ⟨g, cap, cur, by rw [hlen2]; exact h1, h3, by omega, h5, h6, by rw [hlen2]; exact h7⟩
          have hnode : NodeR P (c.app r0 (.live true false false e (xs ++ ys)) z'.ownBlock w') r0 [] e (xs ++ ys) := by
            rcases hcase with ⟨h1, h2⟩ | ⟨g, cap, cur, h1, h3, h4, h5, h6, h7⟩
            · refine .inl ⟨h1, ?_⟩; rw [hj', h2]; rfl
            · refine .inr (.inl ⟨hte'.ne, g, cur, cap, by rw [hj', h1]; rfl, h3, by rw [hcells]; exact h6, h4, h5, fun m el hel => ?_⟩)
              obtain ⟨k1, k2⟩ := cur_row hrow3 h7 m el hel
              rw [hcells]
              refine ⟨k1, fun t' y' hy' => ?_⟩
              obtain ⟨k3, v, k4, k5, k6⟩ := k2 t' y' hy'
              refine ⟨v, k4, k5, ?_⟩
              unfold CellR
              cases y' <;> first | exact (k3.1 _ _ rfl).elim | (simp only [hlit]; exact k6)
          have hmem := mem_app P hm hr hd true e (xs ++ ys) hrow2.flat z'.ownBlock w' hbut hjb hgw hnode
          refine ⟨_, _, _, z2, h, hrun2, by simp [Cx.app, St.kill, hσ], hmem, ?_, .inr (.inl ⟨r0, rfl, kx⟩), fun h => absurd rfl (h _ _ _)⟩
          refine .sl _ _ _ _ (by simpa [Cx.app] using hlt) hd fun te' es' hn' => ?_
          unfold nodeAt Cx.app at hn'
          simp only at hn'
          rw [getD_map_kill, getD_set_eq _ _ _ _ hlt] at hn'
          simp only [killRoot, Root.node, nodeOf, Option.some.injEq, Prod.mk.injEq] at hn'
          obtain ⟨rfl, rfl⟩ := hn'
          rw [hj']
          rcases hcase with ⟨h1, h2⟩ | ⟨g, cap, cur, h1, h3, h4, h5, h6, h7⟩
          · rcases hz2 with rfl | ⟨_, _, A0, rfl⟩
            · rw [h2, h1]; exact ⟨rfl, by simp, _, rfl⟩
            · rw [h2, h1]; exact ⟨rfl, by simp, A0, rfl⟩
          · rcases hz2 with rfl | ⟨_, h8, _⟩
            rotate_left
            · rw [h1] at h8; cases h8
            rw [h1]; exact ⟨cap, cur, h3, by rw [hcells]; exact h6, h4, h5, rfl⟩
        · cases h
      · cases h
    · cases h
  · cases h
end Go.Proofs.YtkicholhkoahhaaIT
