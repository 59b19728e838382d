/- Fields, composites, function values, numbers; calls. No condition beyond what each theorem states. -/
import Derived.Test.YtkicholhkoahhaaItN
import Derived.Test.YtkicholhkoahhaaIt8
import Derived.Laws.BytesString
namespace Go.Proofs.YtkicholhkoahhaaIT
open Go
variable {P : Program} {E : Env}

theorem cutS_ok {t s0 b0 e0 : Nat} {fl : List (Nat × Nat)} {c : Cx} {st : St} {R : Type} {K : AV → Option R} {r : R} {a : Act} {lo hi mx : Option Operand} {s : ByteArray} (hE : EnvOk P E) (hti : E.Γ t = some ⟨.s, s0, b0, e0, fl⟩)
    (hlo : ∀ y, lo = some y → V P c (st.ev y) (a.eval y)) (hhi : ∀ y, hi = some y → V P c (st.ev y) (a.eval y)) (h : evSlice 0 1 (.s s) lo hi mx st K = some r) :
    ∃ v z, K v = some r ∧ (Instr.sliceAt t (.string s) (lo.map a.eval) (hi.map a.eval) (mx.map a.eval)).run P c.w = .ok z c.w ∧ V P c v z := by
  have hu := (hE.tyo hti).und_s
  unfold evSlice at h
  simp only [lenA] at h
  split at h
  · cases h
  split at h <;> try (cases h; done)
  rename_i x y hblo hbhi
  split at h <;> try (cases h; done)
  rename_i hc
  obtain ⟨h0, h1, h2⟩ := hc
  refine ⟨_, _, h, ?_, .vi (.s _)⟩
  have hy0 : 0 ≤ y := by omega
  have hmx : max y 0 = y := by omega
  have hlt : ¬ y < x := by omega
  rcases bound_ok hlo hblo with ⟨f1, rfl⟩ | ⟨k1, f1⟩ <;> rcases bound_ok hhi hbhi with ⟨g1, rfl⟩ | ⟨k2, g1⟩ <;>
    simp [f1, g1, Instr.sliceAt, run_underlying hu, Instr.slice, Instr.sliceBounds, Instr.sliceBound, asIntOf, h0, h1, h2, hy0, hmx]

theorem fieldAddr_ok {t f : Nat} {ti tf : TI} {fd : Nat × Nat} {x : Operand} {o : Oper} {a : Act} {c : Cx} {st : St} {R : Type} {K : AV → Option R} {r : R} (hE : EnvOk P E) (ho : o.op = .fieldAddr t x f) (hσ : c.σ = st.σ) (hm : Mem P c) (_hti : E.Γ t = some ti) (hf : ti.flds[f]? = some fd) (htf : E.Γ fd.2 = some tf) (h0 : tf.size ≠ 0)
    (hx : V P c (st.ev x) (a.eval x)) (h : (match st.ev x with
          | .pt r p m k => K (.pt r p m (k + fd.1))
          | .ip el k => K (.ip el (k + fd.1))
          | _ => none) = some r) (hfl : ∃ fs : Array Field, P.underlying t = some (.struct fs) ∧ fldOk P fs.toList ti.flds = true) (hlive : ∀ r p m k, st.ev x = .pt r p m k → ∃ n, nodeAt c.σ r p = some n) : ∃ v, K v = some r ∧ OpRes P E o a c st v st := by
  obtain ⟨fs, hund, hfo⟩ := hfl
  obtain ⟨fld, hg1, hg2, hg3⟩ := fldOk_get hfo hf
  have hg : fs[f]? = some fld := by rw [← Array.getElem?_toList]; exact hg1
  have htf' := hE.tyo htf
  have hs : ∀ w, (sizeOf fld.type).run P w = .ok tf.size w := by rw [hg3]; exact htf'.sizeOf
  split at h
  · rename_i r0 p m k he
    rw [he] at hx
    obtain ⟨⟨te, es⟩, hn⟩ := hlive r0 p m k he
    cases hx with
    | vi hx => cases hx
    | pt _ _ _ _ _ hlt hd hv hv' =>
      obtain ⟨b, k1, k2, k3, k4⟩ := hv te es hn
      refine ⟨_, h, opRes_pure (y := .pointer (some ⟨b, m * P.cellsOf te + (k + fd.1), none⟩)) hσ hm ?_ (.pt _ _ _ _ _ hlt hd (fun te' es' hn' => ?_) fun te' es' hp hn' => ?_)⟩
      · simp [execOp, ho, k3, Instr.fieldAt, run_underlying hund, hg, Instr.sureAddr, fieldPlace, hs, h0, hg2, Addr.add_mid, Nat.add_assoc]
      · rw [hn] at hn'; cases hn'; exact ⟨b, k1, k2, rfl, k4⟩
      · obtain ⟨_, b', _, g1⟩ := hv' te' es' hp hn'
        rw [k3] at g1; cases g1
  · rename_i el k he
    rw [he] at hx
    generalize hex : a.eval x = xv at hx
    cases hx with
    | vi hx =>
      cases hx with
      | ip _ _ B g hn hlt hc hv =>
        refine ⟨_, h, opRes_pure (y := .pointer (some (B.add (k + fd.1)))) hσ hm ?_ (.vi (.ip _ _ B g hn hlt hc hv))⟩
        simp [execOp, ho, hex, Instr.fieldAt, run_underlying hund, hg, Instr.sureAddr, fieldPlace, hs, h0, hg2, Addr.add_add]
  · cases h

theorem part_ok {c : Cx} {t : TypeId} {ti : TI} (ht : TyOk P t ti) {cs : List AV} {vs : List Value} {off : Nat} (hl : cs.length = vs.length) (hv : ∀ (t : Nat) (y : AV) (v : Value), cs[t]? = some y → vs[t]? = some v → V P c y v) (hle : off + ti.size ≤ cs.length) :
    ∃ z, (part t vs.toArray off).run P c.w = .ok z c.w ∧ V P c (ofCells ti.sh ((cs.drop off).take ti.size)) z := by
  by_cases ha : ti.sh.isAgg = true
  · obtain ⟨l, hsh⟩ : ∃ l, ti.sh = .agg l := by cases hs : ti.sh <;> simp [hs, Sh.isAgg] at ha ⊢
    refine ⟨.agg ((vs.drop off).take ti.size).toArray, ?_, ?_⟩
    · simp [part, ht.isAgg, ha, ht.sizeOf, List.extract_toArray]
    · rw [hsh]
      refine .agg _ _ (by simp [hl]) fun t y v h1 h2 => ?_
      rw [List.getElem?_take] at h1 h2
      split at h1
      · rename_i hlt
        rw [if_pos hlt] at h2
        rw [List.getElem?_drop] at h1 h2
        exact hv _ y v h1 h2
      · cases h1
  · have h1 := ht.size1 (by simpa using ha)
    have hlt : off < vs.length := by omega
    have hof : ofCells ti.sh ((cs.drop off).take ti.size) = cs.getD off .x := by
      rw [h1]
      have : (cs.drop off).take 1 = [cs.getD off .x] := by
        rw [List.drop_eq_getElem_cons (show off < cs.length by omega)]
        simp only [List.take_succ_cons, List.take_zero, List.getD_eq_getElem?_getD, List.getElem?_eq_getElem (show off < cs.length by omega), Option.getD_some]
      rw [this]
      cases hs : ti.sh <;> simp_all [Sh.isAgg, ofCells]
    refine ⟨vs[off], ?_, ?_⟩
    · simp [part, ht.isAgg, ha, List.getElem?_eq_getElem hlt]
    · rw [hof]
      exact hv off _ _ (by simp [List.getD_eq_getElem?_getD, List.getElem?_eq_getElem (show off < cs.length by omega)]) (List.getElem?_eq_getElem hlt)

theorem bytes_ok {src dst e : TypeId} {v : AV} {c : Cx} {x : Value} {es : List AV} (hm : Mem P c) (hz : P.cellsOf e = 1) (hs : P.underlying src = some (.slice e)) (he : P.underlying e = some (.int .u8)) (hd : P.underlying dst = some .string)
    (hv : V P c v x) (h : srcElems e 1 c.σ v = some es) (hu : es.all isU8 = true) : (convert src dst x).run P c.w = .ok (.string (bytesOf es)) c.w := by
  obtain ⟨A, cap, rfl, hrow⟩ := src_ok hm hz hv h
  rw [run_convert_bytes_string c.w src dst e A _ cap hs he hd]
  rcases hrow with rfl | ⟨a, vals, rfl, hr, hc⟩
  · cases A with
    | none => simp [Conv.bytesToString, bytesOf]
    | some a => exact run_bytesToString c.w a 0 cap [] (by simpa using run_loadCells_list c.w a [] (by simp))
  · have hvals : vals = (es.map AV.toI).map (Value.int .u8) := by
      apply List.ext_getElem?
      intro i
      rw [List.getElem?_map, List.getElem?_map]
      have hl := hr.len
      cases hi : es[i]? with
      | none =>
        have : es.length ≤ i := by simpa using hi
        simp only [Option.map_none]
        rw [List.getElem?_eq_none (by omega)]
      | some el =>
        obtain ⟨_, h2⟩ := hr.el i el hi
        have hel : isU8 el = true := List.all_eq_true.1 hu el (List.mem_of_getElem? hi)
        obtain ⟨n, rfl⟩ : ∃ n, el = .i .u8 n := by
          cases el with
          | i k n => cases k <;> first | exact ⟨n, rfl⟩ | (simp [isU8] at hel)
          | _ => simp [isU8] at hel
        obtain ⟨_, u, h3, _, h5⟩ := h2 0 _ rfl
        cases h5
        simp only [Option.map_some, AV.toI]
        simpa using h3
    refine run_bytesToString c.w a _ cap _ ?_
    rw [← hvals]
    have hl : vals.length = es.length := by have := hr.len; omega
    rw [← hl]
    exact run_loadCells_list c.w a vals hc
end Go.Proofs.YtkicholhkoahhaaIT
