/- slices.Clone, told by hand. No condition beyond what each theorem states. -/
import Derived.Test.YtkicholhkoahhaaIt3
import Derived.Lib.Slices
import Derived.Lib.SliceRun
namespace Go.Proofs.YtkicholhkoahhaaIT
open Go
variable {P : Program}

/-- A row that is only read, taken over into a new one. z: cells of an element; by_: its bytes. -/
def prClone (z by_ e : Nat) : List AV → List Root → Option (AV × List Root)
  | [.imm z' es], [] => if z = z' ∧ es.length * by_ ≤ room then some (.sl 0 [] none, [.live true false false e es]) else none
  | _, _ => none
noncomputable def retO (E : Env) (fi : FI) (e : Ex) (st : St) : Option (AV × List Root) :=
  match e with
  | .ret => endO E fi 0 [] (.so 0) .ret st
  | _ => none
def noCal : Cal := ⟨fun _ _ _ => none, fun _ _ _ => none⟩
theorem noCal_ok (P : Program) (E : Env) : CalOk P E noCal := ⟨fun g a r h => (by cases h), fun g a i r h => (by cases h)⟩

theorem clone_ok {E0 : Env} (hE : EnvOk P E0) {g : Nat} {f : Func} {fi : FI} {i1 : Nat} {c0 cA rest : Code} {p1 p2 : Oper} {t e el z by_ : Nat} {st1 : List AV → St}
    (hf : P.funcs[g]? = some f) (hn8 : f.ntmps = 8) (hb : f.body = some (.seq c0 (.seq (.seq (.region i1 #[p1, p2] false) (.cond (.tmp 4) cA .skip)) rest))) (hres : f.results.toList = fi.results)
    (hp1 : p1.op = .move (.tmp 0) ∧ p1.dst = some 3 ∧ p1.guard = none) (hp2 : p2.op = .binOp .eql t (.tmp 3) (.const (.slice none 0 0)) t ∧ p2.dst = some 4 ∧ p2.guard = none)
    (hu : P.underlying t = some (.slice el))
    (h0 : ∀ es, evC E0 noCal loopD [] c0 ⟨.imm z es :: List.replicate 7 .u, []⟩ (fun e s => some (e, s)) = some (.normal, st1 es))
    (ht0 : ∀ es, (st1 es).t.getD 0 .x = .imm z es) (hlen : ∀ es, (st1 es).t.length = 8)
    (hA : evC E0 noCal loopD [] cA (((st1 []).put (some 3) (.imm z [])).put (some 4) (.b true)) (retO E0 fi) = some (.sl 0 [] none, [.live true false false e []]))
    (hR : ∀ es : List AV, es.length * by_ ≤ room → evC E0 noCal loopD [] rest (((st1 es).put (some 3) (.imm z es)).put (some 4) (.b false)) (endO E0 fi 0 [] (.so 0)) = some (.sl 0 [] none, [.live true false false e es])) :
    PoOk P g (prClone z by_ e) := by
  intro args ins q hq c vs hσ hm hl hv
  unfold prClone at hq
  split at hq <;> try (cases hq; done)
  rename_i z' es
  split at hq <;> try (cases hq; done)
  rename_i hcond
  obtain ⟨rfl, hroom⟩ := hcond
  cases hq
  match vs, hl with
  | [v], _ =>
  have hv0 := hv 0 _ v rfl rfl
  have hC := noCal_ok P E0
  have hD := draw_rule hE noCal hC
  refine calls_of_wp hf hb ?_
  have hrel : Rel P c c ⟨.imm z es :: List.replicate 7 .u, []⟩ { tmps := [v].toArray ++ Array.replicate (f.ntmps - [v].toArray.size) undef, defers := [] } := by
    refine ⟨hσ, hm, ⟨by simp [hn8], fun i y hy => ?_⟩, Gr.refl _, rfl, KV.refl _⟩
    cases i with
    | zero =>
      simp only [List.getElem?_cons_zero, Option.some.injEq] at hy
      subst hy
      have : ([v].toArray ++ Array.replicate (f.ntmps - [v].toArray.size) undef).getD 0 undef = v := by simp [hn8]
      rw [this]; exact hv0
    | succ i =>
      simp only [List.getElem?_cons_succ] at hy
      rw [List.getElem?_replicate] at hy
      split at hy
      · cases hy
        have : ([v].toArray ++ Array.replicate (f.ntmps - [v].toArray.size) undef).getD (i + 1) undef = undef := by
          rw [Array.getD_eq_getD_getElem?, Array.getElem?_append_right (by simp), Array.getElem?_replicate]
          split <;> rfl
        rw [this]; exact .vi .u
      · cases hy
  have hkp : ∀ q : Nat × List Nat × Nat, q ∈ ([] : List (Nat × List Nat × Nat)) → c.σ.length ≤ cutK q.2.2 := fun q h => by simp at h
  have done : ∀ (e0 : Ex) (st' : St) (c' : Cx) (a' : Act) (q : AV × List Root), endO E0 fi 0 [] (.so 0) e0 st' = some q → Rel P c c' st' a' → bodyPost P f (fun e w' => ∃ z c', e = .returned z ∧ c'.w = w' ∧ c'.σ = q.2 ∧ Mem P c' ∧ V P c' q.1 z ∧ Gr c c' ∧ KV c c') e0.ex a' c'.w := by
    intro e0 st' c' a' q g1 g2
    have fin : evRes E0 st' fi.results (fun vs => ret 0 [] (.so 0) fi.rty (one vs) st'.σ) = some q → a'.defers = [] ∧ ∃ v, (results f a'.tmps).run P c'.w = .ok v c'.w ∧ (∃ z c'', Ending.returned v = .returned z ∧ c''.w = c'.w ∧ c''.σ = q.2 ∧ Mem P c'' ∧ V P c'' q.1 z ∧ Gr c c'' ∧ KV c c'') := by
      intro hres'
      obtain ⟨ys, zs, h1, h2, h3, h4⟩ := res_ok hE g2.mem g2.σ g2.tm _ _ _ hres'
      have hone : V P c' (one ys) (if h : zs.toArray.size = 1 then zs.toArray[0] else .tuple zs.toArray) := by
        unfold one
        split
        · rename_i v
          obtain ⟨z, rfl⟩ : ∃ z, zs = [z] := by
            cases zs with
            | nil => simp at h3
            | cons z zs => cases zs with
              | nil => exact ⟨z, rfl⟩
              | cons => simp at h3
          exact h4 0 v z rfl rfl
        · rename_i hne
          have hz : zs.toArray.size ≠ 1 := by
            intro hz
            have : ys.length = 1 := by rw [h3]; simpa using hz
            match ys, this with
            | [y], _ => exact hne y rfl
          rw [dif_neg hz]
          exact .tup ys zs h3 h4
      rw [← g2.σ] at h1
      obtain ⟨c'', k1, k2, k3, k4, k5, k6⟩ := ret_ok (c0 := c) g2.mem hone (by rw [hσ]; rfl) g2.gr g2.kv h1
      refine ⟨g2.df, (if h : zs.toArray.size = 1 then zs.toArray[0] else .tuple zs.toArray), ?_, _, c'', rfl, k1, k2, k3, k4, k5, k6⟩
      change (do let vs ← f.results.mapM (resF a'.tmps); pure (if h : vs.size = 1 then vs[0] else .tuple vs) : Sem Value).run P c'.w = _
      rw [Array.mapM_eq_mapM_toList, hres]
      simp only [Sem.run_bind, map_eq_pure_bind]
      rw [h2]
      simp
    cases e0 with
    | normal => exact fin g1
    | ret => exact fin g1
    | exit id => cases g1
  refine wp_seq (code_ok hE hC hD loopD_ok hkp c0 _ _ _ c _ _ hrel (h0 es) fun e0 st' c' a' g1 g2 => ?_)
  cases g1
  simp only [Ex.ex]
  -- the test
  refine wp_seq (wp_seq (wp_region_list ?_))
  have hV3 : V P c' (.imm z es) (a'.tmps.getD 0 undef) := by rw [← ht0 es]; exact g2.tm.at_ P 0
  have form : ∃ A n cap, a'.tmps.getD 0 undef = .slice A n cap ∧ (A = none → es = []) := by
    have h1 := hV3.vi_of trivial
    generalize a'.tmps.getD 0 undef = v0 at h1
    cases h1 with
    | imm0 z A cap => exact ⟨A, 0, cap, rfl, fun _ => rfl⟩
    | imm es a cap sz f => exact ⟨some a, es.length, cap, rfl, fun h => by cases h⟩
  obtain ⟨A, n, cap, hform, hnil⟩ := form
  have hsz : 8 ≤ a'.tmps.size := by have := g2.tm.1; rw [hlen es] at this; exact this
  have ev0 : a'.eval (.tmp 0) = .slice A n cap := by
    rw [← hform]
    simp [Act.eval, Array.getD_eq_getD_getElem?]
  have ev3 : (a'.put (some 3) (.slice A n cap)).eval (.tmp 3) = .slice A n cap := by
    have : 3 < a'.tmps.size := by omega
    simp [Act.eval, Act.put, this]
  have hr1 : Rel P c c' ((st1 es).put (some 3) (.imm z es)) (a'.put (some 3) (.slice A n cap)) := g2.step g2.σ g2.mem (by rw [← hform]; exact hV3) (.inl ⟨rfl, Kp.refl c'⟩)
  have hr2 : ∀ b : Bool, Rel P c c' (((st1 es).put (some 3) (.imm z es)).put (some 4) (.b b)) ((a'.put (some 3) (.slice A n cap)).put (some 4) (.bool b)) := fun b => hr1.step hr1.σ hr1.mem (.vi (.b b)) (.inl ⟨rfl, Kp.refl c'⟩)
  have ev4 : ((a'.put (some 3) (.slice A n cap)).put (some 4) (.bool A.isNone)).eval (.tmp 4) = .bool A.isNone := by
    have : 4 < a'.tmps.size := by omega
    simp [Act.eval, Act.put, this]
  unfold wpList
  rw [if_pos (by simp [Region.wanted, hp1.2.2])]
  left
  refine wp_value (y := .slice A n cap) (w' := c'.w) (by simp [execOp, hp1.1, ev0]) ?_
  rw [hp1.2.1]
  unfold wpList
  rw [if_pos (by simp [Region.wanted, hp2.2.2])]
  left
  refine wp_value (y := .bool A.isNone) (w' := c'.w) ?_ ?_
  · simp only [execOp, hp2.1, ev3]
    have := Lib.run_eql_slice_nil c'.w t el A n cap 0 0 hu
    simp only [Act.eval]
    simp [this, eqGuard]
  rw [hp2.2.1]
  unfold wpList
  cases hA0 : A.isNone with
  | true =>
    have he : es = [] := hnil (Option.isNone_iff_eq_none.1 hA0)
    subst he
    rw [hA0] at ev4
    refine wp_cond_true ev4 ?_
    refine code_ok hE hC hD loopD_ok hkp cA _ _ _ c' _ _ (hr2 true) hA fun e0 st' c' a' g1 g2 => ?_
    cases e0 with
    | normal => cases g1
    | ret => exact done .ret st' c' a' _ g1 g2
    | exit id => cases g1
  | false =>
    rw [hA0] at ev4
    refine wp_cond_false ev4 (wp_skip ?_)
    exact code_ok hE hC hD loopD_ok hkp rest _ _ _ c' _ _ (hr2 false) (hR es hroom) fun e0 st' c' a' g1 g2 => done e0 st' c' a' _ g1 g2
end Go.Proofs.YtkicholhkoahhaaIT
