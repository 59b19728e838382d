/- What is handed on to be read; calls. No condition beyond what each theorem states. -/
import Derived.Test.YtkicholhkoahhaaItQ
namespace Go.Proofs.YtkicholhkoahhaaIT
open Go
variable {P : Program} {E : Env}

theorem row_imm {N N' : Nat → Prop} {w : World} {z : Nat} {es : List AV} {vals : List Value} {a : Addr} {cap : Nat} (h : Row N w z es vals) (hc : ∀ (j : Nat) (u : Value), vals[j]? = some u → w.cell? (a.add j) = some u) (hz : 0 < z) (hN : ∀ b, N' b → N b) (hb : ¬ N' a.block) (hcap : es.length ≤ cap) :
    VI N' w (.imm z es) (.slice (some a) es.length cap) := by
  cases es with
  | nil => exact .imm0 _ _ _
  | cons e0 es =>
    have hg : ∀ (m : Nat) (el : AV) (t : Nat) (y : AV), (e0 :: es)[m]? = some el → el.cells[t]? = some y → w.cell? (a.add (m * z + t)) = some (vals.getD (m * z + t) undef) ∧ (vals.getD (m * z + t) undef).oneCell' = true ∧ VI N w y (vals.getD (m * z + t) undef) := by
      intro m el t y hm hy
      obtain ⟨_, v, h2, h3, h4⟩ := (h.el m el hm).2 t y hy
      rw [show vals.getD (m * z + t) undef = v by rw [List.getD_eq_getElem?_getD, h2]; rfl]
      exact ⟨hc _ v h2, h3, h4⟩
    obtain ⟨k1, _⟩ := h.el 0 e0 rfl
    have h0 := (hg 0 e0 0 _ rfl (List.getElem?_eq_getElem (show 0 < e0.cells.length by omega))).1
    have hlt := World.cell?_lt h0
    rw [add_block] at hlt
    refine .imm _ a cap z (fun m t => vals.getD (m * z + t) undef) hcap hb hlt (fun m el hm => (h.el m el hm).1) (fun m el t y hm hy => ⟨(hg m el t y hm hy).1, (hg m el t y hm hy).2.1⟩) (fun m el t y hm hy => ?_)
    exact VI.gen (Nat.le_refl _) (fun _ _ _ => rfl) (fun b _ hn h => hn (hN b h)) (hg m el t y hm hy).2.2

theorem own_blk {c : Cx} (hm : Mem P c) {r te : Nat} {mv nest : Bool} {es : List AV} {w : Option (Nat × Nat)} {a : Addr} {m cap : Nat} (hr : c.σ.getD r .dead = .live mv false nest te es) (hv : V P c (.sl r [] w) (.slice (some a) m cap)) (h0 : m ≠ 0) (hc : m ≤ cap) : ¬ c.F a.block := by
  obtain ⟨hd, hs, hn⟩ := V.inv_sl hm hv hr
  intro hF
  refine (hm.out _ hF).2 ?_
  cases hj : c.j r [] with
  | none => rw [hj] at hs; obtain ⟨_, _, A0, h⟩ := hs; cases h; exact absurd rfl h0
  | some b =>
    rw [hj] at hs
    obtain ⟨cap', cs', _, _, _, _, h10⟩ := hs
    have hb : a.block = b := by
      cases w with
      | none => cases h10; rfl
      | some q =>
        obtain ⟨_, A, h11, hA⟩ := h10
        cases h11
        rcases hA with ⟨hA, _⟩ | hA
        · omega
        · cases hA; rfl
    exact ⟨r, [], _, hd, nodeAt_live hr, by rw [hb]; exact hj⟩

theorem frz_agg {σ : List Root} : ∀ (d : Nat) (y : AV), (∀ l, y ≠ .agg l) → ∀ l, frz E σ d y ≠ .agg l
  | 0, y, _, l => by simp [frz]
  | d + 1, y, h, l => by
    unfold frz
    split <;> (try split) <;> (try split) <;> (try simp) <;> (rintro rfl; exact h _ rfl)

theorem VI.less {c : Cx} {N' : Nat → Prop} {y : AV} {v : Value} {q : Prop} (h : VI c.N c.w y v) (hN : (∀ b, N' b → c.F b) ∨ (N' = c.N ∧ q)) : VI N' c.w y v := by
  rcases hN with hN | ⟨hN, _⟩
  · exact VI.gen (Nat.le_refl _) (fun _ _ _ => rfl) (fun b _ hn h => hn (.inl (hN b h))) h
  · rw [hN]; exact h

/-- What is handed on to be read is only read. -/
theorem frz_ok {c : Cx} (hE : EnvOk P E) (hm : Mem P c) {N' : Nat → Prop} : ∀ (d : Nat) (y : AV) (v : Value), V P c y v → ((∀ b, N' b → c.F b) ∨ (N' = c.N ∧ refsLt 0 y = true)) → VI N' c.w (frz E c.σ d y) v
  | 0, y, v, _, _ => by simp only [frz]; exact .x _
  | d + 1, y, v, hv, hN => by
    have lst : ∀ (cs : List AV) (vs : List Value), (∀ (t : Nat) (y : AV) (v : Value), cs[t]? = some y → vs[t]? = some v → V P c y v) → ((∀ b, N' b → c.F b) ∨ (N' = c.N ∧ refsLtL 0 cs = true)) →
        ∀ (t : Nat) (y : AV) (v : Value), (cs.map (frz E c.σ d))[t]? = some y → vs[t]? = some v → VI N' c.w y v := by
      intro cs vs hk hN t y v hy hv
      rw [List.getElem?_map] at hy
      obtain ⟨y0, h1, rfl⟩ := Option.map_eq_some_iff.1 hy
      refine frz_ok hE hm d y0 v (hk t y0 v h1 hv) ?_
      rcases hN with h | ⟨h, h2⟩
      · exact .inl h
      · right
        refine ⟨h, ?_⟩
        clear hk hv hy
        induction cs generalizing t with
        | nil => simp at h1
        | cons a cs ih =>
          simp only [refsLtL, Bool.and_eq_true] at h2
          cases t with
          | zero => simp only [List.getElem?_cons_zero, Option.some.injEq] at h1; subst h1; exact h2.1
          | succ t => exact ih t (by simpa using h1) h2.2
    unfold frz
    cases y with
    | sl r p w =>
      have hN' : ∀ b, N' b → c.F b := hN.resolve_right fun h => by simp [refsLt] at h
      cases p with
      | cons q p => simp only; exact .x _
      | nil =>
        simp only
        split
        · rename_i mv e es hr
          split
          · rename_i te hte
            have hte' := hE.tyo hte
            obtain ⟨A, m, cap, rfl, hle, _, hm2, _, h4⟩ := own_row hm hr (hm.flat _ _ _ _ _ hr) hv
            have hpos : 0 < te.size := by obtain ⟨i, z, _, h2, _, _, h3, _⟩ := hte'.info; omega
            by_cases h0 : m = 0
            · subst h0
              rw [List.eq_nil_of_length_eq_zero (hm2.symm)]
              exact .imm0 _ _ _
            · obtain ⟨a, vals, rfl, h5, h6⟩ := h4.resolve_left h0
              rw [hm2, ← hte'.cells]
              exact row_imm h5 h6 (by rw [hte'.cells]; exact hpos) (fun b h => .inl (hN' b h)) (fun h => own_blk hm hr hv h0 hle (hN' _ h)) (by omega)
          · exact .x _
        · exact .x _
    | pt r p m k =>
      have hN' : ∀ b, N' b → c.F b := hN.resolve_right fun h => by simp [refsLt] at h
      cases p with
      | cons q p => simp only; exact .x _
      | nil =>
        simp only
        split
        · rename_i mv rf e es hr
          obtain ⟨_, _, b, cs, cap, h1, h2, rfl, h4, h5, h6, h7, h8⟩ := V.inv_pt hm hv hr
          have hel : es[m]? = some (es.getD m .x) := by simp [List.getD_eq_getElem?_getD, h2]
          obtain ⟨_, h10⟩ := h8 m _ hel
          have hnb : ¬ N' b := fun h => (hm.out b (hN' b h)).2 ⟨r, [], _, ‹_›, nodeAt_live hr, ‹_›⟩
          have hblk : b < c.w.heap.size := (Array.getElem?_eq_some_iff.1 h4).1
          have hcell : ∀ (t : Nat) (y : AV), (es.getD m .x).cells[t]? = some y → c.w.cell? ((⟨b, m * P.cellsOf e, none⟩ : Addr).add t) = some (cs.toList.getD (m * P.cellsOf e + t) undef) ∧ (cs.toList.getD (m * P.cellsOf e + t) undef).oneCell' = true ∧ V P c y (cs.toList.getD (m * P.cellsOf e + t) undef) := by
            intro t y hy
            obtain ⟨u, k1, k2, k3⟩ := h10 t y hy
            have hnw : ∀ e es, y ≠ .nw e es := by rintro e' es' rfl; exact hm.flat _ _ _ _ _ hr m _ t e' es' hel hy
            rw [show cs.toList.getD (m * P.cellsOf e + t) undef = u by rw [List.getD_eq_getElem?_getD, Array.getElem?_toList, k1]; rfl]
            exact ⟨by rw [Addr.add_mid, cell_of_row c.w b _ cs e (0, 0) h4]; exact k1, k2, k3.v hnw⟩
          split
          · rename_i l hl
            rw [hl] at hcell
            simp only [AV.cells] at hcell
            refine .ip _ k ⟨b, m * P.cellsOf e, none⟩ (fun t => cs.toList.getD (m * P.cellsOf e + t) undef) hnb hblk (fun t y hy => ?_) (fun t y hy => ?_)
            · simp only [AV.cells, List.getElem?_map] at hy
              obtain ⟨y0, g1, _⟩ := Option.map_eq_some_iff.1 hy
              exact ⟨(hcell t y0 g1).1, (hcell t y0 g1).2.1⟩
            · simp only [AV.cells, List.getElem?_map] at hy
              obtain ⟨y0, g1, rfl⟩ := Option.map_eq_some_iff.1 hy
              exact frz_ok hE hm d y0 _ (hcell t y0 g1).2.2 (.inl hN')
          · rename_i hl
            generalize hy0 : es.getD m .x = y0 at hcell hl
            have hna : ∀ l, y0 ≠ .agg l := fun l h => hl l h
            have hc0 : y0.cells = [y0] := by cases y0 <;> first | rfl | exact absurd rfl (hna _)
            have hc1 : (frz E c.σ d y0).cells = [frz E c.σ d y0] := by
              have := frz_agg (E := E) (σ := c.σ) d y0 hna
              cases hf : frz E c.σ d y0 <;> first | rfl | exact absurd hf (this _)
            rw [hc0] at hcell
            refine .ip _ k ⟨b, m * P.cellsOf e, none⟩ (fun t => cs.toList.getD (m * P.cellsOf e + t) undef) hnb hblk (fun t y hy => ?_) (fun t y hy => ?_)
            · rw [hc1] at hy
              cases t with
              | succ t => simp at hy
              | zero => exact ⟨(hcell 0 y0 rfl).1, (hcell 0 y0 rfl).2.1⟩
            · rw [hc1] at hy
              cases t with
              | succ t => simp at hy
              | zero =>
                simp only [List.getElem?_cons_zero, Option.some.injEq] at hy
                subst hy
                exact frz_ok hE hm d y0 _ (hcell 0 y0 rfl).2.2 (.inl hN')
        · exact .x _
    | nils => obtain ⟨A0, rfl⟩ := hv.inv_nils; exact .imm0 _ _ _
    | agg cs =>
      obtain ⟨vs, rfl, hl, hk⟩ := hv.inv_agg
      exact .agg _ vs (by simpa using hl) (lst cs vs hk (by simpa [refsLt] using hN))
    | tup cs =>
      obtain ⟨vs, rfl, hl, hk⟩ := hv.inv_tup
      exact .tup _ vs (by simpa using hl) (lst cs vs hk (by simpa [refsLt] using hN))
    | fn g cs =>
      obtain ⟨vs, rfl, hl, hk⟩ := hv.inv_fn
      exact .fn g _ vs (by simpa using hl) (lst cs vs hk (by simpa [refsLt] using hN))
    | nw e es => simp only; exact .x _
    | i k n => exact (hv.vi_of trivial).less hN
    | b y => exact (hv.vi_of trivial).less hN
    | s y => exact (hv.vi_of trivial).less hN
    | imm z es => exact (hv.vi_of trivial).less hN
    | ip el k => exact (hv.vi_of trivial).less hN
    | nilp => exact (hv.vi_of trivial).less hN
    | u => cases hv with | vi h => cases h; exact .u
    | x => exact .x _

mutual
/-- What holds no slice is the same everywhere. -/
theorem VI.any {N N' : Nat → Prop} {w w' : World} : ∀ (h : Sh) (y : AV) (v : Value), okSh h y = true → h.deep = false → VI N w y v → VI N' w' y v
  | .i k, .i _ _, v, _, _, hv => by cases hv; exact .i _ _
  | .b, .b _, v, _, _, hv => by cases hv; exact .b _
  | .s, .s _, v, _, _, hv => by cases hv; exact .s _
  | .agg l, .agg cs, v, ho, hd, hv => by
    cases hv with
    | agg _ vs hl hk => exact .agg _ vs hl (VI.anyL l cs vs (by simpa [okSh] using ho) (by simpa [Sh.deep] using hd) hk)
  | .tup l, .tup cs, v, ho, hd, hv => by
    cases hv with
    | tup _ vs hl hk => exact .tup _ vs hl (VI.anyL l cs vs (by simpa [okSh] using ho) (by simpa [Sh.deep] using hd) hk)
  | .so _, .sl _ _ _, _, _, _, hv => by cases hv
  | .pr _, .sl _ _ _, _, _, _, hv => by cases hv
  | .po _, .pt _ _ _ _, _, _, _, hv => by cases hv
theorem VI.anyL {N N' : Nat → Prop} {w w' : World} : ∀ (hs : List Sh) (cs : List AV) (vs : List Value), okShL hs cs = true → Sh.deepL hs = false → (∀ (t : Nat) (y : AV) (v : Value), cs[t]? = some y → vs[t]? = some v → VI N w y v) → ∀ (t : Nat) (y : AV) (v : Value), cs[t]? = some y → vs[t]? = some v → VI N' w' y v
  | [], [], vs, _, _, _, t, y, v, h, _ => by simp at h
  | h :: hs, y0 :: cs, [], _, _, _, _, _, _, _, h2 => by simp at h2
  | h :: hs, y0 :: cs, v0 :: vs, ho, hd, hk, t, y, v, h1, h2 => by
    simp only [okShL, Bool.and_eq_true] at ho
    simp only [Sh.deepL, Bool.or_eq_false_iff] at hd
    cases t with
    | zero =>
      simp only [List.getElem?_cons_zero, Option.some.injEq] at h1 h2
      subst h1; subst h2
      exact VI.any h y0 v0 ho.1 hd.1 (hk 0 y0 v0 rfl rfl)
    | succ t => exact VI.anyL hs cs vs ho.2 hd.2 (fun t y v h1 h2 => hk (t + 1) y v h1 h2) t y v (by simpa using h1) (by simpa using h2)
end

/-- A callee's answers are the machine's. -/
def CalOkP (P : Program) (E : Env) (C : Nat → List AV → List AV → Option AV) : Prop := ∀ g args r, C g args [] = some r → ∀ fi, E.Φ g = some fi → ∀ (N : Nat → Prop) (w : World) (vs : List Value), (∀ b, N b → b < w.heap.size) → args.length = vs.length →
  (∀ (t : Nat) (y : AV) (v : Value), args[t]? = some y → vs[t]? = some v → VI N w y v) → Calls P g vs.toArray w (fun e w' => ∃ z, e = .returned z ∧ Same w w' ∧ VI N w' r z)

/-- A callee that is handed memory: from whatever memory looks so. -/
def CalOkO (P : Program) (E : Env) (C : Nat → List AV → List Root → Option (AV × List Root)) : Prop := ∀ g args ins q, C g args ins = some q → ∀ fi, E.Φ g = some fi → ∀ (c : Cx) (vs : List Value), c.σ = ins → Mem P c → args.length = vs.length →
  (∀ (t : Nat) (y : AV) (v : Value), args[t]? = some y → vs[t]? = some v → V P c y v) → Calls P g vs.toArray c.w (fun e w' => ∃ z c', e = .returned z ∧ c'.w = w' ∧ c'.σ = q.2 ∧ Mem P c' ∧ V P c' q.1 z ∧ Gr c c' ∧ KV c c')
structure CalOk (P : Program) (E : Env) (C : Cal) : Prop where
  p : CalOkP P E C.p
  o : CalOkO P E C.o

def Cx.at (c : Cx) (w : World) : Cx := ⟨c.σ, c.j, w, c.D, c.F⟩
theorem mem_same {c : Cx} (hm : Mem P c) {w' : World} (hs : Same c.w w') : Mem P (c.at w') ∧ Kp c (c.at w') ∧ Qt c (c.at w') := by
  have hlt : ∀ b, c.O b → b < c.w.heap.size := fun b h => Cx.O_lt P hm h
  have k : Kp c (c.at w') := ⟨⟨hs.os, hs.tape, hs.output, hs.size, fun b hb _ => hs.heap b hb, fun b h => .inl h, rfl⟩, Nat.le_refl _, fun _ _ h => h, fun _ _ _ es' _ _ h => ⟨es', h, rfl, rfl⟩,
    fun r p te es b cs el n' _ hd hn _ hj h => ⟨cs, by simp only [Cx.at]; rw [hs.heap b (hlt b ⟨r, p, _, hd, hn, hj⟩)]; exact h, rfl⟩, fun _ mv _ nest e es _ h => ⟨mv, nest, e, es, h⟩⟩
  refine ⟨⟨hm.flat, fun r p te es hd hn => NodeR.kp P k hd hn hn rfl (fun b hb => hs.heap b (hlt b ⟨r, p, _, hd, hn, hb⟩)) (hm.node r p te es hd hn), hm.inj, out_gr hm.out k.toGr⟩, k, ⟨hs, ⟨[], by simp [Cx.at]⟩, fun _ _ _ => rfl, fun r => ⟨.inl, fun h => h.elim id fun h => by simp only [Cx.at] at h; omega⟩, fun r p b h1 h2 => by simp only [Cx.at] at h2; omega⟩⟩

theorem call_ok {o : Oper} {cl : Call} {f : Operand} {g : Nat} {caps : List AV} {fi : FI} {a : Act} {c : Cx} {st : St} {C : Cal} {R : Type} {K : AV → Option R} {r : R} (hE : EnvOk P E) (hC : CalOk P E C) (ho : o.op = .call cl) (hcl : cl.callee = .value f) (hσ : c.σ = st.σ) (hm : Mem P c)
    (hv : ∀ x ∈ cl.args.toList, V P c (st.ev x) (a.eval x)) (hf : V P c (.fn g caps) (a.eval f)) (hfi : E.Φ g = some fi) (hdeep : (fi.rty.deep && !refsLtL 0 (cl.args.toList.map st.ev ++ caps)) = false)
    (h : bSh fi.rty (C.p g ((cl.args.toList.map st.ev ++ caps).map (frz E st.σ 4)) []) K = some r) : ∃ y, K y = some r ∧ reify fi.rty y = y ∧ OpRes P E o a c st y st := by
  unfold bSh at h
  obtain ⟨y, h1, h2⟩ := Option.bind_eq_some_iff.1 h
  split at h2 <;> try (cases h2; done)
  rename_i hok
  refine ⟨y, h2, reify_ok _ _ hok, fun next Q hn => ?_⟩
  obtain ⟨cvs, hfe, hl, hcv⟩ := hf.inv_fn
  obtain ⟨fn, p1, p2, p3, _, _⟩ := hE.fn g fi hfi
  have hlen : (cl.args.toList.map st.ev ++ caps).length = (cl.args.toList.map a.eval ++ cvs).length := by simp [hl]
  have hpair : ∀ (t : Nat) (y : AV) (v : Value), (cl.args.toList.map st.ev ++ caps)[t]? = some y → (cl.args.toList.map a.eval ++ cvs)[t]? = some v → V P c y v := by
    intro t y v hy hv'
    by_cases ht : t < cl.args.toList.length
    · rw [List.getElem?_append_left (by simpa using ht), List.getElem?_map] at hy
      rw [List.getElem?_append_left (by simpa using ht), List.getElem?_map] at hv'
      obtain ⟨x, h3, rfl⟩ := Option.map_eq_some_iff.1 hy
      rw [h3] at hv'
      simp only [Option.map_some, Option.some.injEq] at hv'
      subst hv'
      exact hv x (List.mem_of_getElem? h3)
    · rw [List.getElem?_append_right (by simp at ht ⊢; omega)] at hy hv'
      simp only [List.length_map] at hy hv'
      exact hcv _ y v hy hv'
  have hrun : (execOp a.eval o).run P c.w = .ok (.enter g (cl.args.toList.map a.eval ++ cvs).toArray) c.w := by
    have hb : fn.body.isNone = false := by rw [p3]; rfl
    have harr : (cl.args.toList.map a.eval ++ cvs).toArray = cl.args.map a.eval ++ cvs.toArray := by
      rw [← Array.toArray_toList (xs := cl.args.map a.eval ++ cvs.toArray)]; simp
    rw [harr]
    simp [execOp, ho, resolve, hcl, hfe, Deferred.ofValue, invoke, callFunc, p1, p2, p3]
  unfold Oper.wp
  rw [hrun, Oper.upon_enter]
  rw [← hσ] at h1
  have fin : ∀ (N' : Nat → Prop), (∀ b, N' b → b < c.w.heap.size) → (∀ (t : Nat) (y : AV) (v : Value), ((cl.args.toList.map st.ev ++ caps).map (frz E c.σ 4))[t]? = some y → (cl.args.toList.map a.eval ++ cvs)[t]? = some v → VI N' c.w y v) →
      (∀ w' z, Same c.w w' → VI N' w' y z → VI c.N w' y z) → Calls P g (cl.args.toList.map a.eval ++ cvs).toArray c.w fun
        | .returned v, w'' => next (a.put o.dst v) w''
        | .panicked chain, w'' => Q (.panic chain) a w''
        | .outgrown, _ => LetsOut Q := by
    intro N' hN' hargs hres
    refine Calls.mono (hC.p g _ y h1 fi hfi N' c.w _ hN' (by rw [List.length_map]; exact hlen) hargs) ?_
    rintro e w' ⟨z, rfl, hs, hz⟩
    obtain ⟨m1, m2, m3⟩ := mem_same hm hs
    exact hn (c.at w') z hσ m1 (.vi (hres w' z hs hz)) (.inl ⟨rfl, m2⟩) (fun _ => ⟨m3, rfl⟩) fun _ _ _ h => h.kp P m2
  have hmap : ∀ (N' : Nat → Prop), ((∀ b, N' b → c.F b) ∨ (N' = c.N ∧ refsLtL 0 (cl.args.toList.map st.ev ++ caps) = true)) → ∀ (t : Nat) (y : AV) (v : Value), ((cl.args.toList.map st.ev ++ caps).map (frz E c.σ 4))[t]? = some y → (cl.args.toList.map a.eval ++ cvs)[t]? = some v → VI N' c.w y v := by
    intro N' hN t y v hy hv'
    rw [List.getElem?_map] at hy
    obtain ⟨y0, h3, rfl⟩ := Option.map_eq_some_iff.1 hy
    refine frz_ok hE hm 4 y0 v (hpair t y0 v h3 hv') ?_
    rcases hN with h | ⟨h, h4⟩
    · exact .inl h
    · right
      refine ⟨h, ?_⟩
      have : ∀ (l : List AV) (t : Nat), refsLtL 0 l = true → l[t]? = some y0 → refsLt 0 y0 = true := by
        intro l
        induction l with
        | nil => intro t _ h; simp at h
        | cons q l ih =>
          intro t h5 h6
          simp only [refsLtL, Bool.and_eq_true] at h5
          cases t with
          | zero => simp only [List.getElem?_cons_zero, Option.some.injEq] at h6; subst h6; exact h5.1
          | succ t => exact ih t h5.2 (by simpa using h6)
      exact this _ t h4 h3
  cases hd : fi.rty.deep with
  | false => exact fin (fun _ => False) (fun _ h => h.elim) (hmap _ (.inl fun _ h => h.elim)) fun w' z _ hz => VI.any fi.rty y z hok hd hz
  | true =>
    rw [hd] at hdeep
    have href : refsLtL 0 (cl.args.toList.map st.ev ++ caps) = true := by simpa using hdeep
    exact fin c.N (fun b h => Cx.N_lt P hm h) (hmap _ (.inr ⟨rfl, href⟩)) fun _ _ _ hz => hz
end Go.Proofs.YtkicholhkoahhaaIT
