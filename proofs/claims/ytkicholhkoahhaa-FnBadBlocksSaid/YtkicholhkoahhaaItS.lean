/- Every operation together. No condition beyond what each theorem states. -/
import Derived.Test.YtkicholhkoahhaaItMp
namespace Go.Proofs.YtkicholhkoahhaaIT
open Go
variable {P : Program} {E : Env}

theorem un_ok {op : UnOp} {xt : TypeId} {x : Operand} {o : Oper} {a : Act} {c : Cx} {R : Type} {K : AV → Option R} {r : R} {A : AV} (ho : o.op = .unOp op xt x) (hx : V P c A (a.eval x)) (h : evUn op A K = some r) :
    ∃ v z, K v = some r ∧ (execOp a.eval o).run P c.w = .ok (.value z) c.w ∧ V P c v z := by
  unfold evUn at h
  cases op <;> simp only at h
  · split at h <;> try (cases h; done)
    have h1 := hx.inv_i
    exact ⟨_, _, h, by simp [execOp, ho, h1, Op.unary, Op.intArith], .vi (.i _ _)⟩
  · split at h <;> try (cases h; done)
    have h1 := hx.inv_i
    rename_i k n
    refine ⟨_, .int k (k.wrap (BitVec.ofInt k.bits (if k.signed then -1 else k.max) ^^^ BitVec.ofInt k.bits n).toNat), h, ?_, .vi (.i _ _)⟩
    have hz : (Op.unary .xor (.int k n)).run P c.w = .ok (.int k (k.wrap (BitVec.ofInt k.bits (if k.signed then -1 else k.max) ^^^ BitVec.ofInt k.bits n).toNat)) c.w := rfl
    simp only [execOp, ho, h1, Sem.run_bind, hz, Result.andThen_ok]
    rfl
  · split at h <;> try (cases h; done)
    have h1 := hx.inv_b
    exact ⟨_, _, h, by simp [execOp, ho, h1, Op.unary], .vi (.b _)⟩
  · cases h

/-- A literal without elements. -/
theorem empty_ok {o : Oper} {t : Nat} {e z0 s0 b0 : Nat} {fl : List (Nat × Nat)} {te : TI} {a : Act} {c : Cx} {st : St} (hE : EnvOk P E) (ho : o.op = .buildSlice t 0 #[]) (hti : E.Γ t = some ⟨.sl e z0, s0, b0, e, fl⟩) (hte : E.Γ e = some te) (hσ : c.σ = st.σ) (hm : Mem P c) : OpRes P E o a c st .nils st := by
  obtain ⟨hund, _, _⟩ := (hE.tyo hti).und_sl
  have hte' := hE.tyo hte
  have hrun : (Instr.buildSlice t 0 #[]).run P c.w = .ok (.slice (some ⟨c.w.heap.size, 0, none⟩) 0 0) (c.w.alloc (.cells #[] e)) := by
    simp [Instr.buildSlice, run_underlying hund, hte'.sizeOf, Instr.fill, newRow, Array.range_zero']
  obtain ⟨m1, m2, m3⟩ := mem_same hm (Same.alloc c.w (.cells #[] e))
  intro next Q hn
  exact wp_value (y := .slice (some ⟨c.w.heap.size, 0, none⟩) 0 0) (w' := c.w.alloc (.cells #[] e)) (by simp [execOp, ho, hrun]) (hn (c.at _) _ hσ m1 (.vi (.nils _)) (.inl ⟨rfl, m2⟩) (fun _ => ⟨m3, rfl⟩) fun _ _ _ h => h.kp P m2)

theorem virt_ok {o : Oper} {x : Operand} {a : Act} {c : Cx} {st : St} (e : Nat) (ho : o.op = .assign x) (hσ : c.σ = st.σ) (hm : Mem P c) (hx : V P c .nils (a.eval x)) : OpRes P E o a c st (.sl st.σ.length [] none) (st.push (.live true false false e [])) := by
  obtain ⟨A0, h1⟩ := hx.inv_nils
  obtain ⟨m1, m2⟩ := mem_push P hm true false false e [] none c.w (Same.refl _) (by simp) (by simp) (.inl ⟨rfl, by simp [Cx.push]⟩)
  refine opRes_push (c' := c.push (.live true false false e []) none c.w) (z := .slice A0 0 0) (by simp [execOp, ho, h1, Cx.push]) (by simp [Cx.push, St.push, hσ]) m1 ?_ m2 (Qt.push c _ none c.w (Same.refl _) (by simp)) rfl
  rw [← hσ]
  refine .sl _ _ _ _ (by simp [Cx.push]) (.inr rfl) fun te' es' hn => ?_
  unfold nodeAt Cx.push at hn
  simp only at hn
  rw [getD_append_new] at hn
  simp only [Root.node, nodeOf, Option.some.injEq, Prod.mk.injEq] at hn
  obtain ⟨rfl, rfl⟩ := hn
  simp only [Cx.push, if_true]
  exact ⟨rfl, by simp, A0, rfl⟩

theorem TyOk.und {t : Nat} {ti : TI} (h : TyOk P t ti) : ∃ d, P.underlying t = some d := by
  have hd := h.desc
  unfold descOk at hd
  split at hd <;> first | cases hd | exact ⟨_, ‹_›⟩

theorem op_ok {o : Oper} {st : St} {a : Act} {c : Cx} {C : Cal} {R : Type} {K : AV → St → Option R} {r : R} (hE : EnvOk P E) (hC : CalOk P E C) (hσ : c.σ = st.σ) (hm : Mem P c) (ht : ∀ x ∈ o.op.operands, V P c (st.ev x) (a.eval x)) (h : evOp E C o st K = some r) :
    ∃ v st', K v st' = some r ∧ OpRes P E o a c st v st' := by
  unfold evOp at h
  split at h
  · rename_i x ho
    have hx := ht x (by simp [ho, Op.operands])
    exact ⟨_, _, h, opRes_pure hσ hm (by simp [execOp, ho]) hx⟩
  · rename_i x ho
    have hx := ht x (by simp [ho, Op.operands])
    split at h
    · rename_i he
      split at h <;> try (cases h; done)
      rw [he] at hx
      exact ⟨_, _, h, virt_ok _ ho hσ hm hx⟩
    · exact ⟨_, _, h, opRes_pure hσ hm (by simp [execOp, ho]) hx⟩
  · rename_i x y z ho
    have hx := ht x (by simp [ho, Op.operands])
    have hy := ht y (by simp [ho, Op.operands])
    have hz := ht z (by simp [ho, Op.operands])
    split at h <;> try (cases h; done)
    rename_i b he
    rw [he] at hx
    have h1 := hx.inv_b
    cases b with
    | true => exact ⟨_, _, h, opRes_pure hσ hm (by simp [execOp, ho, h1, asBool]) hy⟩
    | false => exact ⟨_, _, h, opRes_pure hσ hm (by simp [execOp, ho, h1, asBool]) hz⟩
  · rename_i t ho
    split at h <;> try (cases h; done)
    rename_i ti hti
    split at h
    · exact ⟨_, _, h, allocN_ok hE ho hti hσ hm⟩
    · exact ⟨_, _, h, alloc_ok hE ho hti hσ hm⟩
  · rename_i t x ho
    exact box_ok hE ho hσ hm (ht x (by simp [ho, Op.operands])) h
  · rename_i t ps ho
    split at h <;> try (cases h; done)
    rename_i l n b0 e0 fl hti
    split at h <;> try (cases h; done)
    rename_i hok
    simp only [Bool.and_eq_true] at hok
    exact ⟨_, _, h, build_ok hE ho hti hσ hm (fun q hq => ht q.2 (by simp [ho, Op.operands]; exact ⟨q.1, by simpa using hq⟩)) hok.1 hok.2⟩
  · rename_i t n ps ho
    split at h <;> try (cases h; done)
    rename_i e z0 s0 b0 e0 fl hti
    obtain ⟨_, rfl, _⟩ := (hE.tyo hti).und_sl
    split at h
    · cases h
    rename_i te hte
    split at h
    · rename_i h00
      simp only [Bool.and_eq_true, beq_iff_eq, Array.isEmpty_iff] at h00
      obtain ⟨rfl, rfl⟩ := h00
      exact ⟨_, _, h, empty_ok hE ho hti hte hσ hm⟩
    rename_i h00
    split at h <;> try (cases h; done)
    rename_i hok
    simp only [Bool.and_eq_true, decide_eq_true_eq] at hok
    split at h <;> try (cases h; done)
    rename_i es σ1 hmv
    exact ⟨_, _, h, buildSlice_ok hE ho hti hte hσ hm (fun q hq => ht q.2 (by simp [ho, Op.operands]; exact ⟨q.1, by simpa using hq⟩)) hok.1 hok.2 hmv (fun hq => by rw [ho] at hq; simp only [quietOp, hti, hte, Bool.or_eq_true] at hq; exact hq.resolve_left h00)⟩
  · rename_i t x ho
    obtain ⟨v, h1, h2⟩ := load_op hE ho hσ hm (ht x (by simp [ho, Op.operands])) h
    exact ⟨v, st, h1, h2⟩
  · rename_i t x y ho
    obtain ⟨st', h1, h2⟩ := store_op hE ho hσ hm (ht x (by simp [ho, Op.operands])) (ht y (by simp [ho, Op.operands])) h
    exact ⟨_, st', h1, h2⟩
  · rename_i x ho
    have hx := ht x (by simp [ho, Op.operands])
    split at h <;> try (cases h; done)
    · rename_i r0 p m k he
      rw [he] at hx
      split at h
      · split at h
        · rename_i hr
          rw [← hσ] at hr
          refine ⟨_, _, h, opRes_pure hσ hm ?_ hx⟩
          obtain ⟨_, _, b, _, _, _, _, h1, _⟩ := V.inv_pt hm hx hr
          simp [execOp, ho, h1]
        · cases h
      · cases h
    · rename_i el k he
      rw [he] at hx
      obtain ⟨B, h1, _⟩ := hx.inv_ip
      exact ⟨_, _, h, opRes_pure hσ hm (by simp [execOp, ho, h1]) hx⟩
    · rename_i f l he
      rw [he] at hx
      obtain ⟨vs, h1, _⟩ := hx.inv_fn
      exact ⟨_, _, h, opRes_pure hσ hm (by simp [execOp, ho, h1]) hx⟩
  · rename_i op xt x y yt ho
    obtain ⟨v, z, h1, h2, h3⟩ := binA_ok hE ho (ht x (by simp [ho, Op.operands])) (ht y (by simp [ho, Op.operands])) h
    exact ⟨v, st, h1, opRes_pure hσ hm h2 h3⟩
  · rename_i op xt x ho
    obtain ⟨v, z, h1, h2, h3⟩ := un_ok ho (ht x (by simp [ho, Op.operands])) h
    exact ⟨v, st, h1, opRes_pure hσ hm h2 h3⟩
  · rename_i s d x ho
    have hx := ht x (by simp [ho, Op.operands])
    split at h <;> try (cases h; done)
    · rename_i k _ _ _ _ hd
      have hud := (hE.tyo hd).und_i
      split at h <;> try (cases h; done)
      rename_i he
      split at h <;> try (cases h; done)
      rename_i hs
      obtain ⟨d0, hus⟩ := (hE.tyo hs).und
      rw [he] at hx
      have h1 := hx.inv_i
      exact ⟨_, _, h, opRes_pure hσ hm (by simp [execOp, ho, h1, convert, run_underlying hud, run_underlying hus, Conv.intToInt]) (.vi (.i _ _))⟩
    · rename_i hd
      have hud := (hE.tyo hd).und_s
      split at h <;> try (cases h; done)
      · rename_i he
        split at h <;> try (cases h; done)
        rename_i hs
        have hus := (hE.tyo hs).und_s
        rw [he] at hx
        have h1 := hx.inv_s
        exact ⟨_, _, h, opRes_pure hσ hm (by simp [execOp, ho, h1, convert, run_underlying hud, run_underlying hus]) (.vi (.s _))⟩
      · split at h <;> try (cases h; done)
        rename_i e z0 s0 b0 e0 fl hs
        split at h <;> try (cases h; done)
        rename_i s1 b1 e1 fl1 he
        split at h <;> try (cases h; done)
        rename_i es hes
        split at h <;> try (cases h; done)
        rename_i hu
        have hte := hE.tyo he
        have hsz := hte.cells
        have h1s := hte.size1 rfl
        rw [h1s] at hsz
        rw [← hσ] at hes
        exact ⟨_, _, h, opRes_pure hσ hm (y := .string (bytesOf es)) (by simp [execOp, ho, bytes_ok hm hsz (hE.tyo hs).und_sl.1 hte.und_i hud hx hes hu]) (.vi (.s _))⟩
  · rename_i f first caps ho
    split at h <;> try (cases h; done)
    rename_i hf
    have hf' : first = #[] := by simpa using hf
    subst hf'
    refine ⟨_, _, h, opRes_pure (y := .func (.func f) #[] (caps.map a.eval)) hσ hm (by simp [execOp, ho, Instr.makeFunc]) ?_⟩
    have := V.fn (P := P) (c := c) f (caps.toList.map st.ev) (caps.toList.map a.eval) (by simp) (fun t y v h1 h2 => by
      rw [List.getElem?_map] at h1 h2
      obtain ⟨x, h3, rfl⟩ := Option.map_eq_some_iff.1 h1
      rw [h3] at h2
      simp only [Option.map_some, Option.some.injEq] at h2
      subst h2
      have hmem := List.mem_of_getElem? h3
      exact ht x (by simp only [ho, Op.operands]; simpa using hmem))
    have harr : (caps.toList.map a.eval).toArray = caps.map a.eval := by rw [← Array.toArray_toList (xs := caps.map a.eval)]; simp
    rw [harr] at this
    exact this
  · rename_i t l cp ho
    have hl := ht l (by simp [ho, Op.operands])
    have hcp := ht cp (by simp [ho, Op.operands])
    split at h <;> try (cases h; done)
    rename_i e z0 s0 b0 e0 fl hti
    obtain ⟨_, rfl, _⟩ := (hE.tyo hti).und_sl
    split at h
    · cases h
    rename_i te hte
    split at h <;> try (cases h; done)
    rename_i n m he1 he2
    rw [he1] at hl
    rw [he2] at hcp
    split at h <;> try (cases h; done)
    rename_i hc
    exact ⟨_, _, h, make_ok hE ho hti hte hσ hm hl.inv_i hcp.inv_i hc.1 hc.2.1 hc.2.2.1 hc.2.2.2⟩
  · rename_i t x lo hi mx ho
    have hx := ht x (by simp [ho, Op.operands])
    have hlo : ∀ y, lo = some y → V P c (st.ev y) (a.eval y) := fun y hy => ht y (by subst hy; simp [ho, Op.operands])
    have hhi : ∀ y, hi = some y → V P c (st.ev y) (a.eval y) := fun y hy => ht y (by subst hy; simp [ho, Op.operands])
    split at h <;> try (cases h; done)
    · rename_i e z0 s0 b0 e' fl hti
      split at h <;> try (cases h; done)
      rename_i te hte
      split at h <;> try (cases h; done)
      rename_i hee
      subst hee
      have hns : ∀ y, st.ev x ≠ .s y := by intro y hy; rw [hy] at h; cases h
      have h' : evSlice e te.size (st.ev x) lo hi mx st (fun v => K v st) = some r := by
        generalize st.ev x = A at h hns
        cases A <;> first | exact h | exact absurd rfl (hns _)
      obtain ⟨v, z, h1, h2, h3⟩ := evSlice_ok (a := a) hE hm hσ hti hte hx hns hlo hhi h'
      exact ⟨v, st, h1, opRes_pure hσ hm (by simp [execOp, ho, h2]) h3⟩
    · rename_i hti
      split at h <;> try (cases h; done)
      rename_i s he
      rw [he] at hx
      obtain ⟨v, z, h1, h2, h3⟩ := cutS_ok (a := a) (c := c) hE hti hlo hhi h
      exact ⟨v, st, h1, opRes_pure hσ hm (by simp [execOp, ho, hx.inv_s, h2]) h3⟩
  · rename_i t x f ho
    have hx := ht x (by simp [ho, Op.operands])
    split at h
    · cases h
    rename_i ti hti
    split at h
    · cases h
    rename_i fd hfd
    split at h
    · cases h
    rename_i tf htf
    split at h
    · cases h
    rename_i h0
    split at h <;> try (cases h; done)
    rename_i l hsh
    have hfl : ∃ fs : Array Field, P.underlying t = some (.struct fs) ∧ fldOk P fs.toList ti.flds = true := by
      obtain ⟨sh, s0, b0, e0, fl⟩ := ti
      simp only at hsh
      subst hsh
      obtain ⟨fs, f1, _, f2⟩ := (hE.tyo hti).und_agg
      exact ⟨fs, f1, f2⟩
    split at h <;> try (cases h; done)
    · rename_i r0 m k he
      split at h <;> try (cases h; done)
      rename_i hr
      rw [← hσ] at hr
      obtain ⟨v, h1, h2⟩ := fieldAddr_ok (a := a) (K := fun v => K v st) hE ho hσ hm hti hfd htf h0 hx (by rw [he]; exact h) hfl (by
        intro r1 p1 m1 k1 he1
        rw [he] at he1
        cases he1
        exact ⟨_, nodeAt_live hr⟩)
      exact ⟨v, st, h1, h2⟩
    · rename_i el k he
      obtain ⟨v, h1, h2⟩ := fieldAddr_ok (a := a) (K := fun v => K v st) hE ho hσ hm hti hfd htf h0 hx (by rw [he]; exact h) hfl (by
        intro r1 p1 m1 k1 he1
        rw [he] at he1
        cases he1)
      exact ⟨v, st, h1, h2⟩
  · rename_i t x f ho
    have hx := ht x (by simp [ho, Op.operands])
    split at h
    · cases h
    rename_i ti hti
    split at h
    · cases h
    rename_i fd hfd
    split at h
    · cases h
    rename_i tf htf
    split at h <;> try (cases h; done)
    rename_i l hsh
    split at h <;> try (cases h; done)
    rename_i cs he
    split at h <;> try (cases h; done)
    rename_i hle
    rw [he] at hx
    obtain ⟨vs, h1, hl, hk⟩ := hx.inv_agg
    obtain ⟨sh, s0, b0, e0, fl⟩ := ti
    simp only at hsh
    subst hsh
    obtain ⟨fs, f1, _, f2⟩ := (hE.tyo hti).und_agg
    obtain ⟨fld, g1, g2, g3⟩ := fldOk_get f2 hfd
    have hg : fs[f]? = some fld := by rw [← Array.getElem?_toList]; exact g1
    obtain ⟨z, k1, k2⟩ := part_ok (c := c) (hE.tyo htf) hl hk hle
    refine ⟨_, _, h, opRes_pure hσ hm ?_ k2⟩
    rw [← g2, ← g3] at k1
    simp [execOp, ho, h1, Instr.field, run_underlying f1, hg, asAgg, k1]
  · rename_i t x ix ho
    have hx := ht x (by simp [ho, Op.operands])
    have hy := ht ix (by simp [ho, Op.operands])
    split at h <;> try (cases h; done)
    rename_i e z0 s0 b0 e' fl hti
    split at h <;> try (cases h; done)
    rename_i te hte
    split at h <;> try (cases h; done)
    rename_i hee
    subst hee
    obtain ⟨v, z, h1, h2, h3⟩ := evIndexAddr_ok hE hm hσ hti hte hx hy h
    exact ⟨v, st, h1, opRes_pure hσ hm (by simp [execOp, ho, h2]) h3⟩
  · rename_i t x ix ho
    have hx := ht x (by simp [ho, Op.operands])
    have hy := ht ix (by simp [ho, Op.operands])
    split at h <;> try (cases h; done)
    rename_i hti
    have hu := (hE.tyo hti).und_s
    split at h <;> try (cases h; done)
    rename_i s he
    split at h <;> try (cases h; done)
    rename_i k n hi
    split at h <;> try (cases h; done)
    rename_i hc
    rw [he] at hx
    rw [hi] at hy
    have h1 := hx.inv_s
    have h2 := hy.inv_i
    have hlt : n.toNat < s.size := by omega
    have hget : s[n.toNat]? = some (s.toList.getD n.toNat 0) := by
      rw [Lib.toList_data, List.getD_eq_getElem?_getD, Array.getElem?_toList]
      have hd : n.toNat < s.data.size := hlt
      rw [Array.getElem?_eq_getElem hd, Option.getD_some]
      show s[n.toNat]? = _
      rw [getElem?_pos s n.toNat hlt]
      rfl
    refine ⟨_, _, h, opRes_pure hσ hm ?_ (.vi (.i _ _))⟩
    simp [execOp, ho, h1, h2, Instr.index, asIntOf, run_underlying hu, hc.1, hget]
  · rename_i x n ho
    have hx := ht x (by simp [ho, Op.operands])
    split at h <;> try (cases h; done)
    rename_i vs he
    split at h <;> try (cases h; done)
    rename_i hlt
    rw [he] at hx
    obtain ⟨us, h1, hl, hk⟩ := hx.inv_tup
    have hn : n < us.length := by omega
    refine ⟨_, _, h, opRes_pure (y := us[n]) hσ hm ?_ ?_⟩
    · simp [execOp, ho, h1, Instr.extract, List.getElem?_eq_getElem hn]
    · exact hk n _ _ (by simp [List.getD_eq_getElem?_getD, List.getElem?_eq_getElem hlt]) (List.getElem?_eq_getElem hn)
  · rename_i t l ho
    unfold evMk at h
    split at h
    · cases h
    split at h <;> try (cases h; done)
    exact ⟨_, _, h, mkMap_ok ho hσ hm⟩
  · rename_i t x ix ok ho
    unfold evLk at h
    split at h
    · cases h
    split at h <;> try (cases h; done)
    rename_i hti
    split at h <;> try (cases h; done)
    rename_i r0 m k he
    split at h <;> try (cases h; done)
    rename_i mv rf nest e ks hr
    split at h <;> try (cases h; done)
    rename_i hee
    split at h <;> try (cases h; done)
    rename_i n hi
    exact ⟨_, _, h, mapLook_ok hE ho hti hσ hm he hr hee hi (ht x (by simp [ho, Op.operands])) (ht ix (by simp [ho, Op.operands]))⟩
  · rename_i t x ix y ho
    unfold evUp at h
    split at h <;> try (cases h; done)
    rename_i hti
    split at h <;> try (cases h; done)
    rename_i r0 m k he
    split at h <;> try (cases h; done)
    rename_i mv rf nest e ks hr
    split at h <;> try (cases h; done)
    rename_i hee
    split at h <;> try (cases h; done)
    rename_i n hi
    split at h <;> try (cases h; done)
    rename_i hb
    exact ⟨_, _, h, mapUp_ok hE ho hti hσ hm he hr hee hi hb (ht x (by simp [ho, Op.operands])) (ht ix (by simp [ho, Op.operands])) (ht y (by simp [ho, Op.operands]))⟩
  · rename_i cl ho
    have hargs : ∀ x ∈ cl.args.toList, V P c (st.ev x) (a.eval x) := fun x hx => ht x (by simp only [ho, Op.operands, Call.operands]; simp; right; simpa using hx)
    split at h
    · rename_i bi hcl
      split at h <;> try (cases h; done)
      · rename_i x t ha hat
        have hx := hargs x (by rw [ha]; simp)
        have e1 : cl.args = #[x] := by rw [← Array.toArray_toList (xs := cl.args), ha]
        have e2 : cl.argTypes = #[t] := by rw [← Array.toArray_toList (xs := cl.argTypes), hat]
        split at h <;> try (cases h; done)
        · rename_i hti
          have hu := (hE.tyo hti).und_s
          split at h <;> try (cases h; done)
          rename_i y he
          rw [he] at hx
          have h1 := hx.inv_s
          exact ⟨_, _, h, opRes_pure hσ hm (by simp [execOp, ho, resolve, hcl, invoke, builtin, e1, e2, Builtin.len_, run_underlying hu, h1, goInt]) (.vi (.i _ _))⟩
        · rename_i hti
          obtain ⟨hu, _, _⟩ := (hE.tyo hti).und_sl
          split at h <;> try (cases h; done)
          rename_i hns
          split at h <;> try (cases h; done)
          rename_i n hn
          rw [← hσ] at hn
          obtain ⟨B, cap, h1, _⟩ := lenA_ok hm hx (fun y hy => hns y hy) hn
          exact ⟨_, _, h, opRes_pure hσ hm (by simp [execOp, ho, resolve, hcl, invoke, builtin, e1, e2, Builtin.len_, run_underlying hu, h1, goInt]) (.vi (.i _ _))⟩
      · rename_i x y t t' ha hat
        split at h <;> try (cases h; done)
        rename_i htt
        subst htt
        obtain ⟨v, st', c', z, h1, h2, h3, h4, h5, h6, h7⟩ := evAppend_ok (ty := o.type) hE hm hσ (hargs x (by rw [ha]; simp)) (hargs y (by rw [ha]; simp)) h
        exact ⟨v, st', h1, fun next Q hn => wp_append ho hcl ha hat h2 (hn c' z h3 h4 h5 h6 (fun hq => by rw [ho] at hq; simp only [quietOp, hcl] at hq; cases hq) fun hs y1 u hu => h7 (fun r p w he => by
          rw [ho] at hs
          simp only [softAt, okAt, isApp, hcl, touch, ha, he, Bool.and_eq_true, Bool.not_true, Bool.false_or, if_true, refsOf, List.isEmpty_cons] at hs
          cases hs.2.1) y1 u hu)⟩
      · rename_i x t ha hat
        have hx := hargs x (by rw [ha]; simp)
        have e1 : cl.args = #[x] := by rw [← Array.toArray_toList (xs := cl.args), ha]
        have e2 : cl.argTypes = #[t] := by rw [← Array.toArray_toList (xs := cl.argTypes), hat]
        split at h <;> try (cases h; done)
        rename_i e z0 s0 b0 e' fl hti
        split at h <;> try (cases h; done)
        rename_i te hte
        split at h <;> try (cases h; done)
        rename_i hee
        subst hee
        split at h <;> try (cases h; done)
        rename_i r0 w he
        split at h <;> try (cases h; done)
        rename_i mv e9 es hr
        split at h <;> try (cases h; done)
        rename_i he2
        subst he2
        rw [he] at hx
        exact ⟨_, _, h, clear_ok hE ho hcl e1 e2 hti hte hσ hm he hx hr⟩
      · rename_i _ x y ha
        have hx := hargs x (by rw [ha]; simp)
        have hy := hargs y (by rw [ha]; simp)
        have e1 : cl.args = #[x, y] := by rw [← Array.toArray_toList (xs := cl.args), ha]
        split at h <;> try (cases h; done)
        · rename_i he1 he2
          split at h <;> try (cases h; done)
          rw [he1] at hx
          rw [he2] at hy
          exact ⟨_, _, h, opRes_pure hσ hm (by simp [execOp, ho, resolve, hcl, invoke, builtin, e1, Builtin.min_, Builtin.min2, hx.inv_i, hy.inv_i]) (.vi (.i _ _))⟩
        · rename_i sx sy he1 he2
          rw [he1] at hx
          rw [he2] at hy
          simp only [cmpS] at h
          refine ⟨_, _, h, opRes_pure hσ hm ?_ (.vi (.s _))⟩
          simp [execOp, ho, resolve, hcl, invoke, builtin, e1, Builtin.min_, Builtin.min2, hx.inv_s, hy.inv_s, Op.stringOp, lessS, asBool, run_bytes_eq]
      · rename_i _ x y ha
        have hx := hargs x (by rw [ha]; simp)
        have hy := hargs y (by rw [ha]; simp)
        have e1 : cl.args = #[x, y] := by rw [← Array.toArray_toList (xs := cl.args), ha]
        split at h <;> try (cases h; done)
        · rename_i he1 he2
          split at h <;> try (cases h; done)
          rw [he1] at hx
          rw [he2] at hy
          exact ⟨_, _, h, opRes_pure hσ hm (by simp [execOp, ho, resolve, hcl, invoke, builtin, e1, Builtin.max_, Builtin.max2, hx.inv_i, hy.inv_i]) (.vi (.i _ _))⟩
        · rename_i sx sy he1 he2
          rw [he1] at hx
          rw [he2] at hy
          simp only [cmpS] at h
          refine ⟨_, _, h, opRes_pure hσ hm ?_ (.vi (.s _))⟩
          simp [execOp, ho, resolve, hcl, invoke, builtin, e1, Builtin.max_, Builtin.max2, hx.inv_s, hy.inv_s, Op.stringOp, lessS, asBool]
          cases Op.bytesLess sx.toList sy.toList <;> rfl
    · rename_i f hcl
      split at h <;> try (cases h; done)
      rename_i g caps he
      split at h <;> try (cases h; done)
      rename_i fi hfi
      split at h
      · split at h
        · cases h
        rename_i hdeep
        have hf := ht f (by simp [ho, Op.operands, Call.operands, hcl])
        rw [he] at hf
        obtain ⟨y, h1, h2, h3⟩ := call_ok hE hC ho hcl hσ hm hargs hf hfi (by simpa using hdeep) h
        rw [h2] at h1
        exact ⟨y, st, h1, h3⟩
      · rename_i hown
        split at h <;> try (cases h; done)
        simp only [St.ev, AV.fn.injEq] at he
        obtain ⟨rfl, rfl⟩ := he
        simp only [List.append_nil] at h
        exact own_ok hE hC ho hcl hσ hm hargs hfi (by rw [hown]; rfl) h
    · cases h
  · cases h
end Go.Proofs.YtkicholhkoahhaaIT
