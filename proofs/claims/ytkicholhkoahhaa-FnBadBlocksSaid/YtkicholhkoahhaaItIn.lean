/- slices.Insert of one element into a row of the call's own, as a function given. No condition beyond what each theorem states. -/
import Derived.Test.YtkicholhkoahhaaIt7
namespace Go.Proofs.YtkicholhkoahhaaIT
open Go
variable {P : Program}

/-- What the library's text does, where the row lies in memory of the call's own. -/
structure InsOk (P : Program) (f e z by_ : Nat) : Prop where
  run : ∀ (w : World) (x0 : Value) (n i : Nat) (vals news : List Value) (b2 cap2 : Nat) (cur2 : Array Value), w.ownsRow 0 e z x0 n vals → i ≤ n → (∀ v ∈ vals, v.oneCell' = true) → w.heap[b2]? = some (.cells cur2 e (0, 0)) → z ≤ cur2.size → cur2.toList.take z = news →
    (∀ v ∈ news, v.oneCell' = true) → x0.ownBlock ≠ some b2 → 1 ≤ cap2 → (n + 1) * by_ ≤ 140737488355328 →
    Calls P f #[x0, .int .i64 i, .slice (some ⟨b2, 0, none⟩) 1 cap2] w fun e' w' => ∃ z', e' = .returned z' ∧ w'.ownsRow 0 e z z' (n + 1) (vals.take (i * z) ++ news ++ vals.drop (i * z)) ∧ w.grownBy w' x0.ownBlock ∧ (z'.ownBlock = x0.ownBlock ∨ z'.ownBlock = some w.heap.size)
  nil : ∀ (w : World) (a : Addr) (news : List Value) (b2 cap2 : Nat) (cur2 : Array Value), w.heap[b2]? = some (.cells cur2 e (0, 0)) → z ≤ cur2.size → cur2.toList.take z = news → (∀ v ∈ news, v.oneCell' = true) → 1 ≤ cap2 → by_ ≤ 140737488355328 →
    Calls P f #[.slice (some a) 0 0, .int .i64 (0 : Nat), .slice (some ⟨b2, 0, none⟩) 1 cap2] w fun e' w' => ∃ z', e' = .returned z' ∧ w'.ownsRow 0 e z z' 1 news ∧ w.grownBy w' none ∧ (z'.ownBlock = none ∨ z'.ownBlock = some w.heap.size)
  place : ∀ (w : World) (b n cap i : Nat) (cur : Array Value) (vals news : List Value) (b2 cap2 : Nat) (cur2 : Array Value), w.heap[b]? = some (.cells cur e (0, 0)) → n + 1 ≤ cap → cap ≤ maxLen → cur.size = cap * z → cur.toList.take (n * z) = vals → (∀ v ∈ vals, v.oneCell' = true) → i ≤ n →
    w.heap[b2]? = some (.cells cur2 e (0, 0)) → z ≤ cur2.size → cur2.toList.take z = news → (∀ v ∈ news, v.oneCell' = true) → b2 ≠ b → 1 ≤ cap2 →
    Calls P f #[.slice (some ⟨b, 0, none⟩) n cap, .int .i64 i, .slice (some ⟨b2, 0, none⟩) 1 cap2] w fun e' w' => ∃ cur', e' = .returned (.slice (some ⟨b, 0, none⟩) (n + 1) cap) ∧ w'.heap[b]? = some (.cells cur' e (0, 0)) ∧ cur'.size = cur.size ∧
      cur'.toList.take ((n + 1) * z) = vals.take (i * z) ++ news ++ vals.drop (i * z) ∧ (∀ k, (n + 1) * z ≤ k → cur'[k]? = cur[k]?) ∧ w.grownBy w' (some b)

def prInsert (by_ e : Nat) : List AV → List Root → Option (AV × List Root)
  | [.sl 0 [] none, .i .i64 i, .sl 1 [] none], [.live true false false e1 es, .live true false false e2 [el]] =>
    if (e1 = e ∧ e2 = e) ∧ (0 ≤ i ∧ i ≤ ((es.length : Nat) : Int)) ∧ (es.length + 1) * by_ ≤ room then
      some (.sl 0 [] none, [.live true false false e (es.take i.toNat ++ [el] ++ es.drop i.toNat), .live true false false e [el]]) else none
  | [.sl 0 [] (some w), .i .i64 i, .sl 1 [] none], [.live true false false e1 es, .live true false false e2 [el]] =>
    if (w.1 = 0 ∧ e1 = e ∧ e2 = e) ∧ (0 ≤ i ∧ i ≤ ((w.2 : Nat) : Int)) ∧ w.2 ≤ es.length ∧ (w.2 + 1) * by_ ≤ room then
      some (.sl 0 [] (some (0, w.2 + 1)), [.live true false false e (es.take i.toNat ++ [el] ++ (es.take w.2).drop i.toNat ++ es.drop (w.2 + 1)), .live true false false e [el]]) else none
  | _, _ => none

theorem insert_ok {f e : Nat} {te : TI} {E0 : Env} (hE : EnvOk P E0) (hte : E0.Γ e = some te) (hI : InsOk P f e te.size te.bytes) : PoOk P f (prInsert te.bytes e) := by
  intro args ins q hq c vs hσ hm hl hv
  unfold prInsert at hq
  split at hq <;> try (cases hq; done)
  · rename_i i e1 es e2 el
    split at hq <;> try (cases hq; done)
    rename_i hcond
    obtain ⟨⟨rfl, he2⟩, ⟨h0, h1⟩, hroom⟩ := hcond
    subst he2
    cases hq
    have hte' := hE.tyo hte
    have hcells : P.cellsOf e2 = te.size := hte'.cells
    match vs, hl with
    | [v0, v1, v2], _ =>
    have hv0 := hv 0 _ v0 rfl rfl
    have hv1 := hv 1 _ v1 rfl rfl
    have hv2 := hv 2 _ v2 rfl rfl
    obtain ⟨k, rfl⟩ : ∃ k : Nat, i = k := ⟨i.toNat, by omega⟩
    have hk : k ≤ es.length := by omega
    simp only [room] at hroom
    have hr0 : c.σ.getD 0 .dead = .live true false false e2 es := by rw [hσ]; rfl
    have hr1 : c.σ.getD 1 .dead = .live true false false e2 [el] := by rw [hσ]; rfl
    have hf0 := hm.flat _ _ _ _ _ hr0
    have hf1 := hm.flat _ _ _ _ _ hr1
    obtain ⟨hd0, hs0, hn0⟩ := V.inv_sl hm hv0 hr0
    obtain ⟨hd1, hs1, hn1⟩ := V.inv_sl hm hv2 hr1
    rw [hv1.inv_i]
    -- the element
    rcases hn1 with ⟨h, _⟩ | ⟨b2, cs2, cap0, hj2, g1, g2, g3, g4, g5⟩
    · cases h
    rw [hj2] at hs1
    obtain ⟨cap2, cs2', k1, k2, k3, k4, k5⟩ := hs1
    rw [g1] at k1
    cases k1
    have hrow2 := row_cells hr1 hf1 k2 k3 g5
    rw [hcells] at hrow2 k2
    obtain ⟨news, hnews⟩ : ∃ news, news = cs2.toList.take ([el].length * te.size) := ⟨_, rfl⟩
    rw [← hnews] at hrow2
    have hnews' : cs2.toList.take te.size = news := by rw [hnews]; simp
    have hcap2 : 1 ≤ cap2 := by simpa using k3
    have hsz2 : te.size ≤ cs2.size := by rw [k2]; exact Nat.le_mul_of_pos_left _ (by omega)
    rw [show v2 = .slice (some ⟨b2, 0, none⟩) 1 cap2 from k5]
    -- the call
    have hcall : ∃ vals, Row c.N c.w te.size es vals ∧ Calls P f #[v0, .int .i64 ((k : Nat) : Int), .slice (some ⟨b2, 0, none⟩) 1 cap2] c.w (fun e' w' => ∃ z', e' = .returned z' ∧ w'.ownsRow 0 e2 te.size z' (es.length + 1) (vals.take (k * te.size) ++ news ++ vals.drop (k * te.size)) ∧ c.w.grownBy w' (c.j 0 []) ∧ (z'.ownBlock = c.j 0 [] ∨ z'.ownBlock = some c.w.heap.size)) := by
      rcases hn0 with ⟨rfl, hj⟩ | ⟨b, cs, cap, hj, hb1, hb2, hb3, hb4, hb5⟩
      · rw [hj] at hs0 ⊢
        obtain ⟨_, _, A0, rfl⟩ := hs0
        have hk0 : k = 0 := by simpa using hk
        subst hk0
        refine ⟨[], Row.nil _ _ _, ?_⟩
        cases A0 with
        | none =>
          have := hI.run c.w (.slice none 0 0) 0 0 [] news b2 cap2 cs2 (World.ownsRow_nil _ _ _ _) (Nat.le_refl _) (by simp) g1 hsz2 hnews' hrow2.one (by simp [Value.ownBlock]) hcap2 (by simpa using hroom)
          simpa [Value.ownBlock] using this
        | some a =>
          have := hI.nil c.w a news b2 cap2 cs2 g1 hsz2 hnews' hrow2.one hcap2 (by simpa using hroom)
          simpa using this
      · rw [hj] at hs0 ⊢
        obtain ⟨cap', cs', h6, h7, h8, h9, h10⟩ := hs0
        rw [hb1] at h6
        cases h6
        have hrow := row_cells hr0 hf0 h7 h8 hb5
        rw [hcells] at hrow h7
        have hne : b ≠ b2 := fun hq => by
          have := hm.inj 0 [] 1 [] _ _ b hd0 hd1 (nodeAt_live hr0) (nodeAt_live hr1) hj (hq ▸ hj2)
          exact absurd this.1 (by decide)
        refine ⟨_, hrow, ?_⟩
        rw [show v0 = .slice (some ⟨b, 0, none⟩) es.length cap' from by simpa using h10]
        have := hI.run c.w (.slice (some ⟨b, 0, none⟩) es.length cap') es.length k _ news b2 cap2 cs2 ⟨by rw [hrow.len], .inr ⟨b, cap', cs, rfl, Nat.zero_le _, hb1, h8, h9, h7, rfl⟩⟩ hk hrow.one g1 hsz2 hnews' hrow2.one (by simp only [Value.ownBlock]; exact fun h => hne (by simpa using h)) hcap2 hroom
        simpa only [Value.ownBlock] using this
    obtain ⟨vals, hrow1, hcall⟩ := hcall
    refine Calls.mono hcall ?_
    rintro e' w' ⟨z', rfl, hown, hgr, hat⟩
    have hrowL : Row c.N c.w te.size (es.take k ++ [el] ++ es.drop k) (vals.take (k * te.size) ++ news ++ vals.drop (k * te.size)) := ((hrow1.take k).append hrow2).append (hrow1.drop k)
    obtain ⟨L, hL⟩ : ∃ L, L = es.take k ++ [el] ++ es.drop k := ⟨_, rfl⟩
    obtain ⟨VL, hVL⟩ : ∃ VL, VL = vals.take (k * te.size) ++ news ++ vals.drop (k * te.size) := ⟨_, rfl⟩
    rw [← hL, ← hVL] at hrowL
    rw [← hVL] at hown
    have hlenL : L.length = es.length + 1 := by rw [hL]; simp only [List.length_append, List.length_take, List.length_drop, List.length_cons, List.length_nil]; omega
    have hbut : But c.w w' (c.j 0 []) := ⟨hgr.os, hgr.tape, hgr.output, hgr.size, fun k hk hne => hgr.block k hk (fun h => hne h.symm)⟩
    have hjb : z'.ownBlock = c.j 0 [] ∨ ∀ b, z'.ownBlock = some b → c.w.heap.size ≤ b := by
      rcases hat with h1 | h1
      · exact .inl h1
      · right; intro b hb; rw [h1] at hb; cases hb; exact Nat.le_refl _
    have hgw : e2 = e2 ∧ es.length ≤ L.length ∧ (es.length = L.length → z'.ownBlock = c.j 0 [] ∧ w' = c.w) := ⟨rfl, by omega, fun h => by omega⟩
    have kx := kx_app P hm hr0 hd0 true e2 L hrowL.flat z'.ownBlock w' hbut hjb hgw
    have hrow3 := hrowL.gr kx.toGr
    have hlt := lt_of_live hr0
    have hlit : litAt (c.app 0 (.live true false false e2 L) z'.ownBlock w').σ 0 [] = false := by
      unfold litAt Cx.app; simp only; rw [getD_map_kill, getD_set_eq _ _ _ _ hlt]; rfl
    have hj' : (c.app 0 (.live true false false e2 L) z'.ownBlock w').j 0 [] = z'.ownBlock := by simp [Cx.app]
    obtain ⟨g, cap, cur, h1', h3, h4, h5, h6, h7⟩ : ∃ g cap cur, z' = .slice (some ⟨g, 0, none⟩) L.length cap ∧ w'.heap[g]? = some (.cells cur e2 (0, 0)) ∧ L.length ≤ cap ∧ cap ≤ maxLen ∧ cur.size = cap * te.size ∧ cur.toList.take (L.length * te.size) = VL := by
      rcases hown.2 with ⟨_, h2⟩ | ⟨g, cap, cur, h1, _, h3, h4, h5, h6, h7⟩
      · omega
      · exact ⟨g, cap, cur, by rw [hlenL]; exact h1, h3, by omega, h5, h6, by rw [hlenL]; exact h7⟩
    have hnode : NodeR P (c.app 0 (.live true false false e2 L) z'.ownBlock w') 0 [] e2 L := by
      refine .inr (.inl ⟨hte'.ne, g, cur, cap, by rw [hj', h1']; rfl, h3, by rw [hcells]; exact h6, h4, h5, fun m el hel => ?_⟩)
      obtain ⟨k1, k2⟩ := cur_row hrow3 h7 m el hel
      rw [hcells]
      refine ⟨k1, fun t' y' hy' => ?_⟩
      obtain ⟨k3, v, k4, k5, k6⟩ := k2 t' y' hy'
      refine ⟨v, k4, k5, ?_⟩
      unfold CellR
      cases y' <;> first | exact (k3.1 _ _ rfl).elim | (simp only [hlit]; exact k6)
    have hmem := mem_app P hm hr0 hd0 true e2 L hrowL.flat z'.ownBlock w' hbut hjb hgw hnode
    refine ⟨z', c.app 0 (.live true false false e2 L) z'.ownBlock w', rfl, rfl, ?_, hmem, ?_, kx.toGr, kx.kv⟩
    · simp only [Cx.app, hσ, Int.toNat_natCast, hL]
      rfl
    refine .sl _ _ _ _ (by simpa [Cx.app] using hlt) hd0 fun te' es' hn' => ?_
    unfold nodeAt Cx.app at hn'
    simp only at hn'
    rw [getD_map_kill, getD_set_eq _ _ _ _ hlt] at hn'
    simp only [killRoot, Root.node, nodeOf, Option.some.injEq, Prod.mk.injEq] at hn'
    obtain ⟨rfl, rfl⟩ := hn'
    rw [hj', h1']
    exact ⟨cap, cur, h3, by rw [hcells]; exact h6, h4, h5, rfl⟩
  · rename_i wd i e1 es e2 el
    obtain ⟨w0, n⟩ := wd
    split at hq <;> try (cases hq; done)
    rename_i hcond
    obtain ⟨⟨hw0, rfl, he2⟩, ⟨h0, h1⟩, hn, hroom⟩ := hcond
    simp only at hw0 hn hroom h1
    subst hw0
    subst he2
    cases hq
    have hte' := hE.tyo hte
    have hcells : P.cellsOf e2 = te.size := hte'.cells
    match vs, hl with
    | [v0, v1, v2], _ =>
    have hv0 := hv 0 _ v0 rfl rfl
    have hv1 := hv 1 _ v1 rfl rfl
    have hv2 := hv 2 _ v2 rfl rfl
    obtain ⟨k, rfl⟩ : ∃ k : Nat, i = k := ⟨i.toNat, by omega⟩
    have hk : k ≤ n := by omega
    simp only [room] at hroom
    have hr0 : c.σ.getD 0 .dead = .live true false false e2 es := by rw [hσ]; rfl
    have hr1 : c.σ.getD 1 .dead = .live true false false e2 [el] := by rw [hσ]; rfl
    have hf0 := hm.flat _ _ _ _ _ hr0
    have hf1 := hm.flat _ _ _ _ _ hr1
    obtain ⟨hd0, hs0, hn0⟩ := V.inv_sl hm hv0 hr0
    obtain ⟨hd1, hs1, hn1⟩ := V.inv_sl hm hv2 hr1
    rw [hv1.inv_i]
    -- the element
    rcases hn1 with ⟨h, _⟩ | ⟨b2, cs2, cap0, hj2, g1, g2, g3, g4, g5⟩
    · cases h
    rw [hj2] at hs1
    obtain ⟨cap2, cs2', k1, k2, k3, k4, k5⟩ := hs1
    rw [g1] at k1
    cases k1
    have hrow2 := row_cells hr1 hf1 k2 k3 g5
    rw [hcells] at hrow2 k2
    obtain ⟨news, hnews⟩ : ∃ news, news = cs2.toList.take ([el].length * te.size) := ⟨_, rfl⟩
    rw [← hnews] at hrow2
    have hnews' : cs2.toList.take te.size = news := by rw [hnews]; simp
    have hcap2 : 1 ≤ cap2 := by simpa using k3
    have hsz2 : te.size ≤ cs2.size := by rw [k2]; exact Nat.le_mul_of_pos_left _ (by omega)
    rw [show v2 = .slice (some ⟨b2, 0, none⟩) 1 cap2 from k5]
    simp only [Int.toNat_natCast]
    by_cases hin : n + 1 ≤ es.length
    · -- there is room in place
      rcases hn0 with ⟨rfl, _⟩ | ⟨b, cs, cap, hj, hb1, hb2, hb3, hb4, hb5⟩
      · simp at hin
      rw [hj] at hs0
      obtain ⟨cap', cs', h6, h7, h8, h9, hwn, A, hv0e, hA⟩ := hs0
      rw [hb1] at h6
      cases h6
      have hrow := row_cells hr0 hf0 h7 h8 hb5
      rw [hcells] at hrow h7
      have hAe : A = some ⟨b, 0, none⟩ := by
        rcases hA with ⟨_, h⟩ | h
        · exact absurd rfl h
        · rw [h]; simp
      subst hAe
      simp only [Nat.sub_zero] at hv0e
      subst hv0e
      have hne : b2 ≠ b := fun hq => by
        have := hm.inj 0 [] 1 [] _ _ b hd0 hd1 (nodeAt_live hr0) (nodeAt_live hr1) hj (hq ▸ hj2)
        exact absurd this.1 (by decide)
      have hnm : n * te.size ≤ es.length * te.size := Nat.mul_le_mul_right _ hn
      have hvals : cs.toList.take (n * te.size) = (cs.toList.take (es.length * te.size)).take (n * te.size) := by rw [List.take_take, Nat.min_eq_left hnm]
      have hcall := hI.place c.w b n cap' k cs _ news b2 cap2 cs2 hb1 (by omega) h9 h7 hvals (fun v hv => hrow.one v (List.mem_of_mem_take hv)) hk g1 hsz2 hnews' hrow2.one hne hcap2
      refine Calls.mono hcall ?_
      rintro e' w' ⟨cur', rfl, hblk', hsz', htk, hrest, hgr⟩
      obtain ⟨L, hL⟩ : ∃ L, L = es.take k ++ [el] ++ (es.take n).drop k ++ es.drop (n + 1) := ⟨_, rfl⟩
      rw [← hL]
      have hlenL : es.length = L.length := by rw [hL]; simp only [List.length_append, List.length_take, List.length_drop, List.length_cons, List.length_nil]; omega
      have hR1 := (((hrow.take k).append hrow2).append ((hrow.take n).drop k)).append (hrow.drop (n + 1))
      rw [← hL] at hR1
      have hcurT : cur'.toList.take (L.length * te.size) = (cs.toList.take (es.length * te.size)).take (k * te.size) ++ news ++ ((cs.toList.take (es.length * te.size)).take (n * te.size)).drop (k * te.size) ++ (cs.toList.take (es.length * te.size)).drop ((n + 1) * te.size) := by
        rw [← hlenL]
        have hnm1 : (n + 1) * te.size ≤ es.length * te.size := Nat.mul_le_mul_right _ hin
        have hdr : (cur'.toList.take (es.length * te.size)).drop ((n + 1) * te.size) = (cs.toList.take (es.length * te.size)).drop ((n + 1) * te.size) := by
          apply List.ext_getElem?
          intro q
          rw [List.getElem?_drop, List.getElem?_drop, List.getElem?_take, List.getElem?_take, Array.getElem?_toList, Array.getElem?_toList, hrest _ (by omega)]
        rw [← List.take_append_drop ((n + 1) * te.size) (cur'.toList.take (es.length * te.size)), hdr, List.take_take, Nat.min_eq_left hnm1, htk, List.take_take, Nat.min_eq_left (Nat.mul_le_mul_right _ hk)]
      rw [← hcurT] at hR1
      have hbut : But c.w w' (c.j 0 []) := ⟨hgr.os, hgr.tape, hgr.output, hgr.size, fun q hq hne => hgr.block q hq (fun h => hne (by rw [hj]; exact h.symm))⟩
      have hbl : ∀ b' cs' el', c.j 0 [] = some b' → c.w.heap[b']? = some (.cells cs' el' (0, 0)) → ∃ cs2, w'.heap[b']? = some (.cells cs2 el' (0, 0)) ∧ cs2.size = cs'.size := by
        intro b' cs' el' h1 h2
        rw [hj] at h1
        cases h1
        rw [hb1] at h2
        cases h2
        exact ⟨_, hblk', hsz'⟩
      have kp := kp_set P hm hr0 hd0 L hlenL hR1.flat w' hbut hbl
      have hrow3 := hR1.gr kp.toGr
      have hlt := lt_of_live hr0
      have hlit : litAt (c.set 0 (.live true false false e2 L) w').σ 0 [] = false := by
        unfold litAt Cx.set; simp only; rw [getD_set_eq _ _ _ _ hlt]; rfl
      have hmem := mem_set P hm hr0 hd0 L hlenL hR1.flat w' hbut hbl (.inr (.inl ⟨hte'.ne, b, cur', cap', hj, hblk', by rw [hcells, hsz']; exact h7, by rw [← hlenL]; exact h8, h9, fun m el' hel => by
        obtain ⟨k1, k2⟩ := cur_row hrow3 rfl m el' hel
        rw [hcells]
        refine ⟨k1, fun t' y' hy' => ?_⟩
        obtain ⟨k3, v, k4, k5, k6⟩ := k2 t' y' hy'
        refine ⟨v, k4, k5, ?_⟩
        unfold CellR
        cases y' <;> first | exact (k3.1 _ _ rfl).elim | (simp only [hlit]; exact k6)⟩))
      refine ⟨_, c.set 0 (.live true false false e2 L) w', rfl, rfl, ?_, hmem, ?_, kp.toGr, kp.kv⟩
      · simp only [Cx.set, hσ]
        rfl
      refine .sl _ _ _ _ (by simpa [Cx.set] using hlt) hd0 fun te' es' hn' => ?_
      unfold nodeAt Cx.set at hn'
      simp only at hn'
      rw [getD_set_eq _ _ _ _ hlt] at hn'
      simp only [Root.node, nodeOf, Option.some.injEq, Prod.mk.injEq] at hn'
      obtain ⟨rfl, rfl⟩ := hn'
      rw [show (c.set 0 (.live true false false e2 L) w').j 0 [] = some b from hj]
      exact ⟨cap', cur', hblk', by rw [hcells, hsz']; exact h7, by rw [← hlenL]; exact h8, h9, by simp only; omega, some ⟨b, 0, none⟩, rfl, .inr (by simp)⟩
    -- at the end of the row
    have hnl : n = es.length := by omega
    subst hnl
    have e1 : (es.take es.length).drop k = es.drop k := by rw [List.take_length]
    have e2' : es.drop (es.length + 1) = [] := List.drop_eq_nil_of_le (by omega)
    rw [e1, e2', List.append_nil]
    -- the call
    have hcall : ∃ vals, Row c.N c.w te.size es vals ∧ Calls P f #[v0, .int .i64 ((k : Nat) : Int), .slice (some ⟨b2, 0, none⟩) 1 cap2] c.w (fun e' w' => ∃ z', e' = .returned z' ∧ w'.ownsRow 0 e2 te.size z' (es.length + 1) (vals.take (k * te.size) ++ news ++ vals.drop (k * te.size)) ∧ c.w.grownBy w' (c.j 0 []) ∧ (z'.ownBlock = c.j 0 [] ∨ z'.ownBlock = some c.w.heap.size)) := by
      rcases hn0 with ⟨rfl, hj⟩ | ⟨b, cs, cap, hj, hb1, hb2, hb3, hb4, hb5⟩
      · rw [hj] at hs0 ⊢
        obtain ⟨_, _, A0, rfl⟩ := hs0
        have hk0 : k = 0 := by simpa using hk
        subst hk0
        refine ⟨[], Row.nil _ _ _, ?_⟩
        cases A0 with
        | none =>
          have := hI.run c.w (.slice none 0 0) 0 0 [] news b2 cap2 cs2 (World.ownsRow_nil _ _ _ _) (Nat.le_refl _) (by simp) g1 hsz2 hnews' hrow2.one (by simp [Value.ownBlock]) hcap2 (by simpa using hroom)
          simpa [Value.ownBlock] using this
        | some a =>
          have := hI.nil c.w a news b2 cap2 cs2 g1 hsz2 hnews' hrow2.one hcap2 (by simpa using hroom)
          simpa using this
      · rw [hj] at hs0 ⊢
        obtain ⟨cap', cs', h6, h7, h8, h9, _, A, h10, hA⟩ := hs0
        rw [hb1] at h6
        cases h6
        have hrow := row_cells hr0 hf0 h7 h8 hb5
        rw [hcells] at hrow h7
        have hne : b ≠ b2 := fun hq => by
          have := hm.inj 0 [] 1 [] _ _ b hd0 hd1 (nodeAt_live hr0) (nodeAt_live hr1) hj (hq ▸ hj2)
          exact absurd this.1 (by decide)
        refine ⟨_, hrow, ?_⟩
        have hAe : A = some ⟨b, 0, none⟩ := by
          rcases hA with ⟨_, h⟩ | h
          · exact absurd rfl h
          · rw [h]; simp
        rw [show v0 = .slice (some ⟨b, 0, none⟩) es.length cap' from by simpa [hAe] using h10]
        have := hI.run c.w (.slice (some ⟨b, 0, none⟩) es.length cap') es.length k _ news b2 cap2 cs2 ⟨by rw [hrow.len], .inr ⟨b, cap', cs, rfl, Nat.zero_le _, hb1, h8, h9, h7, rfl⟩⟩ hk hrow.one g1 hsz2 hnews' hrow2.one (by simp only [Value.ownBlock]; exact fun h => hne (by simpa using h)) hcap2 hroom
        simpa only [Value.ownBlock] using this
    obtain ⟨vals, hrow1, hcall⟩ := hcall
    refine Calls.mono hcall ?_
    rintro e' w' ⟨z', rfl, hown, hgr, hat⟩
    have hrowL : Row c.N c.w te.size (es.take k ++ [el] ++ es.drop k) (vals.take (k * te.size) ++ news ++ vals.drop (k * te.size)) := ((hrow1.take k).append hrow2).append (hrow1.drop k)
    obtain ⟨L, hL⟩ : ∃ L, L = es.take k ++ [el] ++ es.drop k := ⟨_, rfl⟩
    obtain ⟨VL, hVL⟩ : ∃ VL, VL = vals.take (k * te.size) ++ news ++ vals.drop (k * te.size) := ⟨_, rfl⟩
    rw [← hL, ← hVL] at hrowL
    rw [← hVL] at hown
    have hlenL : L.length = es.length + 1 := by rw [hL]; simp only [List.length_append, List.length_take, List.length_drop, List.length_cons, List.length_nil]; omega
    have hbut : But c.w w' (c.j 0 []) := ⟨hgr.os, hgr.tape, hgr.output, hgr.size, fun k hk hne => hgr.block k hk (fun h => hne h.symm)⟩
    have hjb : z'.ownBlock = c.j 0 [] ∨ ∀ b, z'.ownBlock = some b → c.w.heap.size ≤ b := by
      rcases hat with h1 | h1
      · exact .inl h1
      · right; intro b hb; rw [h1] at hb; cases hb; exact Nat.le_refl _
    have hgw : e2 = e2 ∧ es.length ≤ L.length ∧ (es.length = L.length → z'.ownBlock = c.j 0 [] ∧ w' = c.w) := ⟨rfl, by omega, fun h => by omega⟩
    have kx := kx_app P hm hr0 hd0 true e2 L hrowL.flat z'.ownBlock w' hbut hjb hgw
    have hrow3 := hrowL.gr kx.toGr
    have hlt := lt_of_live hr0
    have hlit : litAt (c.app 0 (.live true false false e2 L) z'.ownBlock w').σ 0 [] = false := by
      unfold litAt Cx.app; simp only; rw [getD_map_kill, getD_set_eq _ _ _ _ hlt]; rfl
    have hj' : (c.app 0 (.live true false false e2 L) z'.ownBlock w').j 0 [] = z'.ownBlock := by simp [Cx.app]
    obtain ⟨g, cap, cur, h1', h3, h4, h5, h6, h7⟩ : ∃ g cap cur, z' = .slice (some ⟨g, 0, none⟩) L.length cap ∧ w'.heap[g]? = some (.cells cur e2 (0, 0)) ∧ L.length ≤ cap ∧ cap ≤ maxLen ∧ cur.size = cap * te.size ∧ cur.toList.take (L.length * te.size) = VL := by
      rcases hown.2 with ⟨_, h2⟩ | ⟨g, cap, cur, h1, _, h3, h4, h5, h6, h7⟩
      · omega
      · exact ⟨g, cap, cur, by rw [hlenL]; exact h1, h3, by omega, h5, h6, by rw [hlenL]; exact h7⟩
    have hnode : NodeR P (c.app 0 (.live true false false e2 L) z'.ownBlock w') 0 [] e2 L := by
      refine .inr (.inl ⟨hte'.ne, g, cur, cap, by rw [hj', h1']; rfl, h3, by rw [hcells]; exact h6, h4, h5, fun m el hel => ?_⟩)
      obtain ⟨k1, k2⟩ := cur_row hrow3 h7 m el hel
      rw [hcells]
      refine ⟨k1, fun t' y' hy' => ?_⟩
      obtain ⟨k3, v, k4, k5, k6⟩ := k2 t' y' hy'
      refine ⟨v, k4, k5, ?_⟩
      unfold CellR
      cases y' <;> first | exact (k3.1 _ _ rfl).elim | (simp only [hlit]; exact k6)
    have hmem := mem_app P hm hr0 hd0 true e2 L hrowL.flat z'.ownBlock w' hbut hjb hgw hnode
    refine ⟨z', c.app 0 (.live true false false e2 L) z'.ownBlock w', rfl, rfl, ?_, hmem, ?_, kx.toGr, kx.kv⟩
    · simp only [Cx.app, hσ, hL]
      rfl
    refine .sl _ _ _ _ (by simpa [Cx.app] using hlt) hd0 fun te' es' hn' => ?_
    unfold nodeAt Cx.app at hn'
    simp only at hn'
    rw [getD_map_kill, getD_set_eq _ _ _ _ hlt] at hn'
    simp only [killRoot, Root.node, nodeOf, Option.some.injEq, Prod.mk.injEq] at hn'
    obtain ⟨rfl, rfl⟩ := hn'
    rw [hj', h1']
    exact ⟨cap, cur, h3, by rw [hcells]; exact h6, h4, h5, by simp only; omega, some ⟨g, 0, none⟩, by rw [hlenL]; rfl, .inr (by simp)⟩
end Go.Proofs.YtkicholhkoahhaaIT
