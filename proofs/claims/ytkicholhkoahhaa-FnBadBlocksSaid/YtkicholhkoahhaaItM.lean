/- Each operation: what the machine does is what the trees tell. No condition beyond what each theorem states. -/
import Derived.Test.YtkicholhkoahhaaItL
namespace Go.Proofs.YtkicholhkoahhaaIT
open Go
variable {P : Program} {E : Env}

theorem zero_plain (mem : Bool) {h : Sh} {v : Value} (hz : zeroLeaf h v = true) : Plain (zero mem h) := by
  cases h with
  | sl e z => cases mem <;> exact ⟨by simp [zero], by simp [zero]⟩
  | i k => exact ⟨by simp [zero], by simp [zero]⟩
  | b => exact ⟨by simp [zero], by simp [zero]⟩
  | s => exact ⟨by simp [zero], by simp [zero]⟩
  | fn => exact ⟨by simp [zero], by simp [zero]⟩
  | pt => exact ⟨by simp [zero], by simp [zero]⟩
  | _ => cases v <;> simp [zeroLeaf] at hz
theorem zeroL_plain (mem : Bool) : ∀ (hs : List Sh) (vs : List Value), zeroLeaves hs vs = true → ∀ (t : Nat) (y : AV), (zeroL mem hs)[t]? = some y → Plain y
  | [], _, _, t, y, h => by simp [zeroL] at h
  | _ :: _, [], h, _, _, _ => by simp [zeroLeaves] at h
  | h :: hs, v :: vs, hz, t, y, hy => by
    simp only [zeroLeaves, Bool.and_eq_true] at hz
    cases t with
    | zero => simp only [zeroL, List.getElem?_cons_zero, Option.some.injEq] at hy; subst hy; exact zero_plain mem hz.1.1
    | succ t => exact zeroL_plain mem hs vs hz.2 t y (by simpa [zeroL] using hy)
theorem TyOk.zeros {t : Nat} {ti : TI} (ht : TyOk P t ti) {z : Value} (hz : zeroOk ti.sh z = true) (N : Nat → Prop) (w : World) (mem : Bool) :
    (zero mem ti.sh).cells.length = ti.size ∧ ∀ (t : Nat) (y : AV), (zero mem ti.sh).cells[t]? = some y → Plain y ∧ ∃ v, z.cells[t]? = some v ∧ v.oneCell' = true ∧ VI N w y v := by
  by_cases ha : ti.sh.isAgg = true
  · obtain ⟨l, hsh⟩ : ∃ l, ti.sh = .agg l := by cases hs : ti.sh <;> simp [hs, Sh.isAgg] at ha ⊢
    rw [hsh] at hz ⊢
    have hl := ht.leaves
    rw [hsh] at hl
    cases z <;> simp only [zeroOk] at hz <;> first | (cases hz; done) | skip
    rename_i cs
    obtain ⟨h1, h2⟩ := zeroL_ok (N := N) (w := w) mem _ _ hz
    have h3 := zeroLeaves_len _ _ hz
    simp only [zero, AV.cells, Value.cells]
    refine ⟨by rw [h1, ← h3]; exact hl, fun t y hy => ⟨zeroL_plain mem _ _ hz t y hy, ?_⟩⟩
    obtain ⟨v, h4, h5⟩ := h2 t y hy
    exact ⟨v, by rw [← Array.getElem?_toList]; exact h4, h5⟩
  · have h1 : zeroLeaf ti.sh z = true ∧ z.oneCell' = true := by cases hs : ti.sh <;> simp_all [Sh.isAgg, zeroOk]
    have hp := zero_plain mem h1.1
    have hc : (zero mem ti.sh).cells = [zero mem ti.sh] := by
      have := hp.2
      cases hzz : zero mem ti.sh <;> first | rfl | exact absurd hzz (this _)
    have hzc : z.cells = #[z] := by have := h1.2; cases z <;> first | rfl | simp [Value.oneCell'] at this
    rw [hc, hzc, ht.size1 (by simpa using ha)]
    refine ⟨rfl, fun t y hy => ?_⟩
    cases t with
    | succ t => simp at hy
    | zero =>
      simp only [List.getElem?_cons_zero, Option.some.injEq] at hy
      subst hy
      exact ⟨hp, z, rfl, h1.2, zero_leaf mem h1.1⟩

theorem opRes_push {o : Oper} {a : Act} {c c' : Cx} {st st' : St} {v : AV} {z : Value} (h : (execOp a.eval o).run P c.w = .ok (.value z) c'.w) (hσ : c'.σ = st'.σ) (hm : Mem P c') (hv : V P c' v z) (hk : Kp c c') (hq : Qt c c') (ht : st'.t = st.t) : OpRes P E o a c st v st' :=
  fun _ _ hn => wp_value h (hn c' z hσ hm hv (.inl ⟨ht, hk⟩) (fun _ => ⟨hq, ht⟩) fun _ _ _ h => h.kp P hk)

theorem run_alloc {t : TypeId} {z : Value} {i : TypeInfo} (hi : P.info? t = some i) (hz : i.zero = some z) (w : World) : (Instr.alloc t true (.tuple #[])).run P w = .ok (.pointer (some ⟨w.heap.size, 0, none⟩)) (w.alloc (.cells z.cells t)) := by
  simp [Instr.alloc, zeroValue, typeInfo, hi, hz, newVar, newRow]

theorem alloc_ok {o : Oper} {t : TypeId} {ti : TI} {a : Act} {c : Cx} {st : St} (hE : EnvOk P E) (ho : o.op = .alloc t) (hti : E.Γ t = some ti) (hσ : c.σ = st.σ) (hm : Mem P c) : OpRes P E o a c st (.pt st.σ.length [] 0 0) (st.push (.live false true false t [zero false ti.sh])) := by
  have ht := hE.tyo hti
  obtain ⟨i, z, h1, h2, h3, h4, h5, h6, h7⟩ := ht.info
  obtain ⟨hz1, hz2⟩ := ht.zeros h7 c.N c.w false
  obtain ⟨n1, n2, n3, _, n5⟩ := new_ok hm false true t ht.ne [zero false ti.sh] z.cells 1 (c.w.alloc (.cells z.cells t)) (Same.alloc _ _) (alloc_heap _ _) (by rw [ht.zsize h7, ht.cells, Nat.one_mul]) (Nat.le_refl _) (by decide) (by
    intro m el hm'
    cases m with
    | succ m => simp at hm'
    | zero =>
      simp only [List.getElem?_cons_zero, Option.some.injEq] at hm'
      subst hm'
      refine ⟨by rw [hz1, ht.cells], fun t' y hy => ?_⟩
      obtain ⟨k1, v, k2, k3, k4⟩ := hz2 t' y hy
      exact ⟨k1, v, by simpa using k2, k3, .vi k4⟩)
  refine opRes_push ?_ (by simp [Cx.push, St.push, hσ]) n1 (by rw [← hσ]; exact n5 (by simp)) n2 n3 rfl
  simp [execOp, ho, run_alloc h1 h6, Cx.push]

theorem Qt.trans {a b c : Cx} (h : Qt a b) (k : Qt b c) : Qt a c := by
  obtain ⟨l, hl⟩ := h.σ
  obtain ⟨l', hl'⟩ := k.σ
  have h1 : a.σ.length ≤ b.σ.length := by rw [hl]; simp
  have h2 : b.σ.length ≤ c.σ.length := by rw [hl']; simp
  refine ⟨h.same.trans k.same, ⟨l ++ l', by rw [hl', hl, List.append_assoc]⟩, fun r p hr => (k.j r p (by omega)).trans (h.j r p hr), fun r => ?_, fun r p b' h3 h4 h5 => ?_⟩
  · rw [k.D, h.D]
    constructor
    · rintro ((h | h) | h)
      · exact .inl h
      · exact .inr (by omega)
      · exact .inr (by omega)
    · rintro (h | h)
      · exact .inl (.inl h)
      · by_cases h7 : r < b.σ.length
        · exact .inl (.inr ⟨h.1, h7⟩)
        · exact .inr (by omega)
  · by_cases h7 : r < b.σ.length
    · rw [k.j r p h7] at h5; exact h.fresh r p b' h3 h7 h5
    · have := k.fresh r p b' (by omega) h4 h5
      have := h.same.size
      omega

theorem nilN_ok : ∀ (hs : List Sh) (cs : List AV) (vs : List Value) (c : Cx), Mem P c → (∀ (t : Nat) (y : AV), cs[t]? = some y → ∃ v, vs[t]? = some v ∧ V P c y v) →
    ∃ c1, c1.σ = (nilN hs cs c.σ).2 ∧ c1.w = c.w ∧ Mem P c1 ∧ Kp c c1 ∧ Qt c c1 ∧ (nilN hs cs c.σ).1.length = cs.length ∧ ∀ (t : Nat) (y : AV), (nilN hs cs c.σ).1[t]? = some y → (cs[t]? = some y ∨ Plain y) ∧ ∃ v, vs[t]? = some v ∧ V P c1 y v
  | [], cs, vs, c, hm, hv => ⟨c, by simp [nilN], rfl, hm, Kp.refl c, Qt.refl c, by simp [nilN], fun t y h => ⟨.inl (by simpa [nilN] using h), hv t y (by simpa [nilN] using h)⟩⟩
  | _ :: _, [], vs, c, hm, hv => ⟨c, by simp [nilN], rfl, hm, Kp.refl c, Qt.refl c, by simp [nilN], by simp [nilN]⟩
  | h :: hs, y0 :: cs, vs, c, hm, hv => by
    have tl : ∀ (c1 : Cx), Kp c c1 → ∀ (t : Nat) (y : AV), cs[t]? = some y → ∃ v, vs.tail[t]? = some v ∧ V P c1 y v := by
      intro c1 k t y hy
      obtain ⟨v, h2, h3⟩ := hv (t + 1) y (by simpa using hy)
      exact ⟨v, by rw [List.getElem?_tail]; exact h2, h3.kp P k⟩
    obtain ⟨v0, hv0, hV0⟩ := hv 0 y0 rfl
    by_cases hc : (∃ e z, h = .sl e z) ∧ y0 = .nils
    · obtain ⟨⟨e, z, rfl⟩, rfl⟩ := hc
      obtain ⟨A0, h1⟩ := hV0.inv_nils
      obtain ⟨m1, m2⟩ := mem_push P hm true false false e [] none c.w (Same.refl _) (by simp) (by simp) (.inl ⟨rfl, by simp [Cx.push]⟩)
      have q1 := Qt.push c (.live true false false e []) none c.w (Same.refl _) (by simp)
      obtain ⟨c1, k1, k2, k3, k4, k5, k6, k7⟩ := nilN_ok hs cs vs.tail (c.push (.live true false false e []) none c.w) m1 (tl _ m2)
      refine ⟨c1, by simpa [nilN, Cx.push] using k1, k2, k3, m2.trans k4, q1.trans k5, by simpa [nilN, Cx.push] using k6, fun t y hy => ?_⟩
      cases t with
      | zero =>
        simp only [nilN, List.getElem?_cons_zero, Option.some.injEq] at hy
        subst hy
        refine ⟨.inr ⟨by simp, by simp⟩, v0, hv0, V.kp P k4 ?_⟩
        rw [h1]
        refine .sl _ _ _ _ (by simp [Cx.push]) (.inr rfl) fun te' es' hn => ?_
        unfold nodeAt Cx.push at hn
        simp only at hn
        rw [getD_append_new] at hn
        simp only [Root.node, nodeOf, Option.some.injEq, Prod.mk.injEq] at hn
        obtain ⟨rfl, rfl⟩ := hn
        simp only [Cx.push, if_true]
        exact ⟨rfl, by simp, A0, rfl⟩
      | succ t =>
        obtain ⟨g1, v, g2, g3⟩ := k7 t y (by simpa [nilN, Cx.push] using hy)
        exact ⟨by simpa using g1, v, by rw [List.getElem?_tail] at g2; exact g2, g3⟩
    · have e1 : nilN (h :: hs) (y0 :: cs) c.σ = (y0 :: (nilN hs cs c.σ).1, (nilN hs cs c.σ).2) := by
        cases h with
        | sl e z =>
          cases y0 with
          | nils => exact absurd ⟨⟨_, _, rfl⟩, rfl⟩ hc
          | _ => rfl
        | _ => rfl
      obtain ⟨c1, k1, k2, k3, k4, k5, k6, k7⟩ := nilN_ok hs cs vs.tail c hm (tl _ (Kp.refl c))
      rw [e1]
      refine ⟨c1, k1, k2, k3, k4, k5, by simpa using k6, fun t y hy => ?_⟩
      cases t with
      | zero =>
        simp only [List.getElem?_cons_zero, Option.some.injEq] at hy
        subst hy
        exact ⟨.inl rfl, v0, hv0, hV0.kp P k4⟩
      | succ t =>
        obtain ⟨g1, v, g2, g3⟩ := k7 t y (by simpa using hy)
        exact ⟨by simpa using g1, v, by rw [List.getElem?_tail] at g2; exact g2, g3⟩

theorem allocN_ok {o : Oper} {t : TypeId} {ti : TI} {a : Act} {c : Cx} {st : St} (hE : EnvOk P E) (ho : o.op = .alloc t) (hti : E.Γ t = some ti) (hσ : c.σ = st.σ) (hm : Mem P c) :
    OpRes P E o a c st (.pt (nilN ti.sh.leaves (zero false ti.sh).cells st.σ).2.length [] 0 0) ⟨st.t, (nilN ti.sh.leaves (zero false ti.sh).cells st.σ).2 ++ [.live false true false t [ofCells ti.sh (nilN ti.sh.leaves (zero false ti.sh).cells st.σ).1]]⟩ := by
  have ht := hE.tyo hti
  obtain ⟨i, z, h1, h2, h3, h4, h5, h6, h7⟩ := ht.info
  obtain ⟨hz1, hz2⟩ := ht.zeros h7 c.N c.w false
  obtain ⟨c1, k1, k2, k3, k4, k5, k6, k7⟩ := nilN_ok ti.sh.leaves (zero false ti.sh).cells z.cells.toList c hm (fun t y hy => by
    obtain ⟨g1, v, g2, g3, g4⟩ := hz2 t y hy
    exact ⟨v, by simpa using g2, .vi g4⟩)
  have k7 : ∀ (t : Nat) (y : AV), (nilN ti.sh.leaves (zero false ti.sh).cells c.σ).1[t]? = some y → Plain y ∧ ∃ v, z.cells.toList[t]? = some v ∧ V P c1 y v := fun t y hy => by
    obtain ⟨g1, g2⟩ := k7 t y hy
    exact ⟨g1.elim (fun h => (hz2 t y h).1) id, g2⟩
  rw [hσ] at k1 k6 k7
  have hofc : (ofCells ti.sh (nilN ti.sh.leaves (zero false ti.sh).cells st.σ).1).cells = (nilN ti.sh.leaves (zero false ti.sh).cells st.σ).1 := by
    refine ofCells_cells ht ?_ fun y hy => (k7 0 y hy).1.2
    rw [k6]; exact hz1
  have hone : ∀ (t : Nat) (y : AV), (nilN ti.sh.leaves (zero false ti.sh).cells st.σ).1[t]? = some y → ∃ v, z.cells.toList[t]? = some v ∧ v.oneCell' = true := by
    intro t y hy
    have hlt : t < (zero false ti.sh).cells.length := by rw [← k6]; exact (List.getElem?_eq_some_iff.1 hy).1
    obtain ⟨g1, v, g2, g3, g4⟩ := hz2 t _ (List.getElem?_eq_getElem hlt)
    exact ⟨v, by simpa using g2, g3⟩
  obtain ⟨n1, n2, n3, _, n5⟩ := new_ok k3 false true t ht.ne [ofCells ti.sh (nilN ti.sh.leaves (zero false ti.sh).cells st.σ).1] z.cells 1 (c1.w.alloc (.cells z.cells t)) (Same.alloc _ _) (alloc_heap _ _) (by rw [ht.zsize h7, ht.cells, Nat.one_mul]) (Nat.le_refl _) (by decide) (by
    intro m el hm'
    cases m with
    | succ m => simp at hm'
    | zero =>
      simp only [List.getElem?_cons_zero, Option.some.injEq] at hm'
      subst hm'
      refine ⟨by rw [hofc, k6, hz1, ht.cells], fun t' y hy => ?_⟩
      rw [hofc] at hy
      obtain ⟨g1, v, g2, g3⟩ := k7 t' y hy
      obtain ⟨v', g4, g5⟩ := hone t' y hy
      rw [g2] at g4; cases g4
      exact ⟨g1, v, by simpa using g2, g5, by simpa using g3⟩)
  refine opRes_push ?_ (by simp [Cx.push, k1]) n1 (by rw [← k1]; exact n5 (by simp)) (k4.trans n2) (k5.trans n3) rfl
  simp [execOp, ho, run_alloc h1 h6, Cx.push, k2]

theorem madeCells_get {z : Array Value} {sz n k t : Nat} (hz : z.size = sz) (ht : t < sz) (hk : k * sz + t < n) : (madeCells z n)[k * sz + t]? = z[t]? := by
  have e2 : (k * sz + t) % sz = t := by rw [Nat.mul_comm, Nat.mul_add_mod, Nat.mod_eq_of_lt ht]
  simp only [madeCells, Array.getElem?_map]
  rw [Array.getElem?_eq_getElem (by simpa using hk)]
  simp only [Array.getElem_range, Option.map_some, hz, e2]
  rw [Array.getElem?_eq_getElem (by omega)]
  congr 1
  exact getElem!_pos z t (by omega)

theorem make_ok {o : Oper} {t : TypeId} {l cp : Operand} {e z0 s0 b0 : Nat} {fl : List (Nat × Nat)} {te : TI} {n m : Int} {a : Act} {c : Cx} {st : St} (hE : EnvOk P E) (ho : o.op = .makeSlice t l cp) (hti : E.Γ t = some ⟨.sl e z0, s0, b0, e, fl⟩) (hte : E.Γ e = some te)
    (hσ : c.σ = st.σ) (hm : Mem P c) (hl : a.eval l = .int .i64 n) (hcp : a.eval cp = .int .i64 m) (hn : 0 ≤ n) (hnm : n ≤ m) (hroom : m * te.bytes ≤ room) (h63 : m ≤ 9223372036854775807) :
    OpRes P E o a c st (.sl st.σ.length [] none) (st.push (.live true false false e (List.replicate n.toNat (zero true te.sh)))) := by
  have ht := hE.tyo hti
  have hte' := hE.tyo hte
  obtain ⟨hund, _, _⟩ := ht.und_sl
  obtain ⟨i, z, h1, h2, h3, h4, h5, h6, h7⟩ := hte'.info
  have hzs := hte'.zsize h7
  have hrun := run_make (P := P) c.w t e i z hund h1 h6 .i64 .i64 n m hn hnm (by rw [h3, Int.mul_comm]; simp only [room] at hroom; omega) h63
  obtain ⟨hz1, hz2⟩ := hte'.zeros h7 c.N c.w true
  have hle : n.toNat ≤ m.toNat := by omega
  obtain ⟨n1, n2, n3, n4, _⟩ := new_ok hm true false e hte'.ne (List.replicate n.toNat (zero true te.sh)) (madeCells z.cells (m.toNat * i.size)) m.toNat (c.w.alloc (.cells (madeCells z.cells (m.toNat * i.size)) e)) (Same.alloc _ _) (alloc_heap _ _) (by rw [size_madeCells, h2, hte'.cells]) (by simpa using hle) (by simp only [maxLen]; omega) (by
    intro k el hk
    rw [List.getElem?_replicate] at hk
    split at hk
    · rename_i hkn
      simp only [Option.some.injEq] at hk
      subst hk
      refine ⟨by rw [hz1, hte'.cells], fun t' y hy => ?_⟩
      obtain ⟨k1, v, k2, k3, k4⟩ := hz2 t' y hy
      have htl : t' < te.size := by rw [← hz1]; exact (List.getElem?_eq_some_iff.1 hy).1
      refine ⟨k1, v, ?_, k3, by simpa using k4⟩
      rw [hte'.cells, madeCells_get hzs htl ?_]
      · exact k2
      · rw [h2]
        have := Nat.mul_le_mul_right te.size (show k + 1 ≤ m.toNat by omega)
        rw [Nat.add_mul] at this
        omega
    · cases hk)
  refine opRes_push ?_ (by simp [Cx.push, St.push, hσ]) n1 (by rw [← hσ]; simpa using n4) n2 n3 rfl
  simp [execOp, ho, hl, hcp, hrun, Cx.push]

theorem box_ok {o : Oper} {t : TypeId} {x : Operand} {a : Act} {c : Cx} {st : St} {R : Type} {K : AV → St → Option R} {r : R} (hE : EnvOk P E) (ho : o.op = .box t x) (hσ : c.σ = st.σ) (hm : Mem P c) (hx : V P c (st.ev x) (a.eval x)) (h : evBox E t (st.ev x) st K = some r) :
    ∃ v st', K v st' = some r ∧ OpRes P E o a c st v st' := by
  obtain ⟨v, st', c', z, h1, h2, h3, h4, h5, h6, h7, h8⟩ := evBox_ok hE hm hσ hx h
  exact ⟨v, st', h1, opRes_push (by simp [execOp, ho, h2]) h3 h4 h5 h6 h7 h8⟩

theorem load_op {o : Oper} {t : TypeId} {x : Operand} {a : Act} {c : Cx} {st : St} {R : Type} {K : AV → Option R} {r : R} (hE : EnvOk P E) (ho : o.op = .load t x) (hσ : c.σ = st.σ) (hm : Mem P c) (hx : V P c (st.ev x) (a.eval x)) (h : evLoad E t (st.ev x) st K = some r) :
    ∃ v, K v = some r ∧ OpRes P E o a c st v st := by
  obtain ⟨v, z, h1, h2, h3⟩ := evLoad_ok hE hm hσ hx h
  exact ⟨v, h1, opRes_pure hσ hm (by simp [execOp, ho, h2]) h3⟩

theorem store_op {o : Oper} {t : TypeId} {x y : Operand} {a : Act} {c : Cx} {st : St} {R : Type} {K : St → Option R} {r : R} (hE : EnvOk P E) (ho : o.op = .store t x y) (hσ : c.σ = st.σ) (hm : Mem P c) (hx : V P c (st.ev x) (a.eval x)) (hy : V P c (st.ev y) (a.eval y)) (h : evStoreN E t (st.ev x) (st.ev y) st K = some r) :
    ∃ st', K st' = some r ∧ OpRes P E o a c st .u st' := by
  unfold evStoreN at h
  split at h
  · split at h <;> try (cases h; done)
    rename_i ti cs hti hag
    obtain ⟨vs, hz, hl, hvs⟩ := (hag ▸ hy).inv_agg
    obtain ⟨c1, k1, k2, k3, k4, _, k6, k7⟩ := nilN_ok ti.sh.leaves cs vs c hm (fun t y hy => by
      have hlt : t < vs.length := by rw [← hl]; exact (List.getElem?_eq_some_iff.1 hy).1
      exact ⟨vs[t], List.getElem?_eq_getElem hlt, hvs t y _ hy (List.getElem?_eq_getElem hlt)⟩)
    rw [hσ] at k1 k6 k7
    obtain ⟨st', c', h1, h2, h3, h4, h5, h6⟩ := evStore_ok (c := c1) (x := a.eval y) (a := a.eval x) (st := ⟨st.t, (nilN ti.sh.leaves cs st.σ).2⟩) hE k3 k1 (hx.kp P k4) (by
      rw [hz]
      exact .agg _ vs (by rw [k6, hl]) fun t y v h1 h2 => by
        obtain ⟨_, v', h3, h4⟩ := k7 t y h1
        rw [h2] at h3; cases h3
        exact h4) h
    refine ⟨st', h1, fun next Q hn => ?_⟩
    exact wp_skip' (w' := c'.w) (by rw [← k2]; simp [execOp, ho]; rw [h2]; simp) (hn c' undef h3 h4 (.vi .u) (.inl ⟨h6, k4.trans h5⟩) (fun hq => by simp [ho, quietOp] at hq) fun _ _ _ h => h.kp P (k4.trans h5))
  obtain ⟨st', c', h1, h2, h3, h4, h5, h6⟩ := evStore_ok hE hm hσ hx hy h
  refine ⟨st', h1, fun next Q hn => ?_⟩
  exact wp_skip' (w' := c'.w) (by simp [execOp, ho, h2]) (hn c' undef h3 h4 (.vi .u) (.inl ⟨h6, h5⟩) (fun hq => by simp [ho, quietOp] at hq) fun _ _ _ h => h.kp P h5)
end Go.Proofs.YtkicholhkoahhaaIT
