/- What the types' table must be; how a value of a known form looks; the operations that touch no memory. No condition beyond what each theorem states. -/
import Derived.Test.YtkicholhkoahhaaItE
import Derived.Lib.Strings
import Derived.Laws.StructEq
namespace Go.Proofs.YtkicholhkoahhaaIT
open Go

def zeroLeaf : Sh → Value → Bool
  | .i k, .int k' n => decide (k = k') && decide (n = 0)
  | .b, .bool y => !y
  | .s, .string y => decide (y = .empty)
  | .sl _ _, .slice none 0 0 => true
  | .fn, _ => true
  | .pt, .pointer none => true
  | _, _ => false
def zeroLeaves : List Sh → List Value → Bool
  | [], [] => true
  | h :: hs, v :: vs => zeroLeaf h v && v.oneCell' && zeroLeaves hs vs
  | _, _ => false
def zeroOk : Sh → Value → Bool
  | .agg l, .agg cs => zeroLeaves l cs.toList
  | .agg _, _ => false
  | h, v => zeroLeaf h v && v.oneCell'
def fldOk (P : Program) : List Field → List (Nat × Nat) → Bool
  | [], [] => true
  | f :: fs, d :: ds => decide (f.offset = d.1) && decide (f.type = d.2) && (P.info? f.type).isSome && fldOk P fs ds
  | _, _ => false
def leafOk (P : Program) : Sh → Bool
  | .sl e z => decide (P.cellsOf e = z)
  | .agg _ | .tup _ | .so _ | .pr _ | .po _ => false
  | _ => true
/-- A map from integers to truth values. -/
def mapOk (P : Program) (fl : List (Nat × Nat)) (k e : Nat) : Bool :=
  decide (fl = [(k, e)]) && (match P.underlying k with | some (.int .i64) => true | _ => false) && (match P.underlying e with | some .bool => true | _ => false) && (match P.info? e with | some i => (match i.zero with | some (.bool false) => true | _ => false) | none => false)
def descOk (P : Program) (t : Nat) (ti : TI) : Bool :=
  match ti.sh, P.underlying t with
  | .i k, some (.int k') => decide (k = k') && decide (ti.size = 1)
  | .b, some .bool => decide (ti.size = 1)
  | .s, some .string => decide (ti.size = 1)
  | .sl e z, some (.slice e') => decide (e = e') && decide (ti.elem = e) && decide (ti.size = 1) && decide (P.cellsOf e = z)
  | .agg l, some (.struct fs) => decide (l.length = ti.size) && l.all (leafOk P) && fldOk P fs.toList ti.flds
  | .fn, some (.func _ _ _) => decide (ti.size = 1) && ti.flds.isEmpty
  | .fn, some (.map k e) => decide (ti.size = 1) && mapOk P ti.flds k e
  | .pt, some (.pointer _) => decide (ti.size = 1)
  | _, _ => false
/-- Structs that may be held against each other. -/
def eqOk (P : Program) (t : Nat) : Bool := !P.stoodInHeld t && !P.eqGuardType P.depth t && (match P.underlying t with | some (.struct fs) => fs.toList.all fun f => f.name != "_" | _ => false)
def tyOk (P : Program) (t : Nat) (ti : TI) : Bool :=
  match P.info? t with
  | none => false
  | some i => decide (t ≠ mapT) && decide (i.size = ti.size) && decide (i.bytes = ti.bytes) && decide (0 < i.bytes) && decide (0 < i.size) && (match i.zero with | some z => zeroOk ti.sh z | none => false) && descOk P t ti && (decide (ti.elem ≠ 1) || !ti.sh.isAgg || eqOk P t)

structure TyOk (P : Program) (t : Nat) (ti : TI) : Prop where
  info : ∃ i z, P.info? t = some i ∧ i.size = ti.size ∧ i.bytes = ti.bytes ∧ 0 < i.bytes ∧ 0 < i.size ∧ i.zero = some z ∧ zeroOk ti.sh z = true
  desc : descOk P t ti = true
  ne : t ≠ mapT
  eq : ti.elem = 1 → ti.sh.isAgg = true → eqOk P t = true
theorem tyOk_spec {P : Program} {t : Nat} {ti : TI} (h : tyOk P t ti = true) : TyOk P t ti := by
  unfold tyOk at h
  cases hi : P.info? t with
  | none => rw [hi] at h; cases h
  | some i =>
    rw [hi] at h
    simp only [Bool.and_eq_true, decide_eq_true_eq] at h
    obtain ⟨⟨⟨⟨⟨⟨⟨h0, h1⟩, h2⟩, h3⟩, h4⟩, h5⟩, h6⟩, h7⟩ := h
    cases hz : i.zero with
    | none => rw [hz] at h5; cases h5
    | some z =>
      rw [hz] at h5
      refine ⟨⟨i, z, hi, h1, h2, h3, h4, hz, h5⟩, h6, h0, fun g1 g2 => ?_⟩
      simpa [g1, g2] using h7

/-- A function that is told by hand. -/
def PrOk (P : Program) (g : Nat) (p : List AV → Option AV) : Prop := ∀ args r, p args = some r → ∀ (N : Nat → Prop) (w : World) (vs : List Value), (∀ b, N b → b < w.heap.size) → args.length = vs.length →
  (∀ (t : Nat) (y : AV) (v : Value), args[t]? = some y → vs[t]? = some v → VI N w y v) → Calls P g vs.toArray w (fun e w' => ∃ z, e = .returned z ∧ Same w w' ∧ VI N w' r z)
/-- A function that is told by hand and gives memory back. -/
def PoOk (P : Program) (g : Nat) (p : List AV → List Root → Option (AV × List Root)) : Prop := ∀ args ins q, p args ins = some q → ∀ (c : Cx) (vs : List Value), c.σ = ins → Mem P c → args.length = vs.length →
  (∀ (t : Nat) (y : AV) (v : Value), args[t]? = some y → vs[t]? = some v → V P c y v) → Calls P g vs.toArray c.w (fun e w' => ∃ z c', e = .returned z ∧ c'.w = w' ∧ c'.σ = q.2 ∧ Mem P c' ∧ V P c' q.1 z ∧ Gr c c' ∧ KV c c')
structure EnvOk (P : Program) (E : Env) : Prop where
  ty : ∀ t ti, E.Γ t = some ti → tyOk P t ti = true
  fn : ∀ g fi, E.Φ g = some fi → ∃ f : Func, P.funcs[g]? = some f ∧ f.name ≠ "runtime.NumGoroutine" ∧ f.body = some fi.code ∧ f.ntmps = fi.ntmps ∧ f.results.toList = fi.results
  mixed : P.follows .mixedOrders = true
  pr : ∀ g p, E.pr g = some p → PrOk P g p
  po : ∀ g p, E.po g = some p → PoOk P g p

variable {P : Program} {E : Env}
theorem EnvOk.tyo (h : EnvOk P E) {t : Nat} {ti : TI} (ht : E.Γ t = some ti) : TyOk P t ti := tyOk_spec (h.ty t ti ht)
theorem TyOk.cells {t : Nat} {ti : TI} (h : TyOk P t ti) : P.cellsOf t = ti.size := by
  obtain ⟨i, z, h1, h2, _⟩ := h.info
  simp [Program.cellsOf, h1, h2]
theorem TyOk.sizeOf {t : Nat} {ti : TI} (h : TyOk P t ti) (w : World) : (Go.sizeOf t).run P w = .ok ti.size w := by
  obtain ⟨i, z, h1, h2, _⟩ := h.info
  simp [Go.sizeOf, typeInfo, h1, h2]
theorem TyOk.und_i {t : Nat} {k : IntKind} {a b c d} (h : TyOk P t ⟨.i k, a, b, c, d⟩) : P.underlying t = some (.int k) := by
  have := h.desc
  unfold descOk at this
  simp only at this
  split at this <;> first | cases this | simp_all
theorem TyOk.und_b {t : Nat} {a b c d} (h : TyOk P t ⟨.b, a, b, c, d⟩) : P.underlying t = some .bool := by
  have := h.desc
  unfold descOk at this
  simp only at this
  split at this <;> first | cases this | simp_all
theorem TyOk.und_s {t : Nat} {a b c d} (h : TyOk P t ⟨.s, a, b, c, d⟩) : P.underlying t = some .string := by
  have := h.desc
  unfold descOk at this
  simp only at this
  split at this <;> first | cases this | simp_all
theorem TyOk.und_sl {t : Nat} {e z a b c d} (h : TyOk P t ⟨.sl e z, a, b, c, d⟩) : P.underlying t = some (.slice e) ∧ c = e ∧ P.cellsOf e = z := by
  have := h.desc
  unfold descOk at this
  simp only at this
  split at this <;> first | cases this | (rename_i h1 h2; cases h1; done) | (rename_i h1 h2; cases h1; simp only [Bool.and_eq_true, decide_eq_true_eq] at this; obtain ⟨⟨⟨h3, h4⟩, _⟩, h5⟩ := this; subst h3; exact ⟨h2, h4, h5⟩)
theorem TyOk.und_agg {t : Nat} {l a b c d} (h : TyOk P t ⟨.agg l, a, b, c, d⟩) : ∃ fs, P.underlying t = some (.struct fs) ∧ l.length = a ∧ fldOk P fs.toList d = true := by
  have := h.desc
  unfold descOk at this
  simp only at this
  split at this <;> first | cases this | (rename_i h1 h2; cases h1; done) | (rename_i h1 h2; cases h1; simp only [Bool.and_eq_true, decide_eq_true_eq] at this; exact ⟨_, h2, this.1.1, this.2⟩)
theorem TyOk.und_map {t k e : Nat} {a b c} (h : TyOk P t ⟨.fn, a, b, c, [(k, e)]⟩) : P.underlying t = some (.map k e) ∧ P.underlying k = some (.int .i64) ∧ P.underlying e = some .bool ∧ ∃ i, P.info? e = some i ∧ i.zero = some (.bool false) := by
  have := h.desc
  unfold descOk at this
  simp only at this
  split at this <;> first | cases this | (rename_i h1 h2; cases h1; done) | (simp at this; done) | skip
  rename_i k' e' _ h2
  simp only [mapOk, Bool.and_eq_true, decide_eq_true_eq, List.cons.injEq, Prod.mk.injEq, and_true] at this
  obtain ⟨_, ⟨⟨⟨h3, h4⟩, h5⟩, h6⟩, h7⟩ := this
  subst h3 h4
  refine ⟨h2, ?_, ?_, ?_⟩
  · split at h5 <;> first | assumption | cases h5
  · split at h6 <;> first | assumption | cases h6
  · split at h7
    · rename_i i hi
      refine ⟨i, hi, ?_⟩
      split at h7 <;> first | assumption | cases h7
    · cases h7
theorem fldOk_get : ∀ {fs : List Field} {ds : List (Nat × Nat)}, fldOk P fs ds = true → ∀ {f : Nat} {d : Nat × Nat}, ds[f]? = some d → ∃ x, fs[f]? = some x ∧ x.offset = d.1 ∧ x.type = d.2
  | [], [], _, _, _, h => by simp at h
  | f :: fs, d :: ds, h, 0, d', hd => by
    simp only [fldOk, Bool.and_eq_true, decide_eq_true_eq] at h
    simp only [List.getElem?_cons_zero, Option.some.injEq] at hd
    subst hd
    exact ⟨f, rfl, h.1.1.1, h.1.1.2⟩
  | f :: fs, d :: ds, h, n + 1, d', hd => by
    simp only [fldOk, Bool.and_eq_true] at h
    exact fldOk_get h.2 (by simpa using hd)
theorem fldOk_places : ∀ {fs : List Field} {ds : List (Nat × Nat)}, fldOk P fs ds = true → ∃ places : List (Nat × Nat), fs.mapM (fun f => (P.info? f.type).map fun i => (f.offset, i.size)) = some places ∧ ∀ (f : Nat) (d : Nat × Nat), ds[f]? = some d → ∃ i, P.info? d.2 = some i ∧ places[f]? = some (d.1, i.size)
  | [], [], _ => ⟨[], rfl, by simp⟩
  | [], _ :: _, h => by simp [fldOk] at h
  | _ :: _, [], h => by simp [fldOk] at h
  | f :: fs, d :: ds, h => by
    simp only [fldOk, Bool.and_eq_true, decide_eq_true_eq] at h
    obtain ⟨⟨⟨h1, h2⟩, h3⟩, h4⟩ := h
    obtain ⟨places, h5, h6⟩ := fldOk_places h4
    obtain ⟨i, hi⟩ := Option.isSome_iff_exists.1 h3
    refine ⟨(f.offset, i.size) :: places, by simp [List.mapM_cons, hi, h5], fun g d' hd => ?_⟩
    cases g with
    | zero =>
      simp only [List.getElem?_cons_zero, Option.some.injEq] at hd
      subst hd
      exact ⟨i, by rw [← h2]; exact hi, by simp [h1]⟩
    | succ g => exact h6 g d' (by simpa using hd)
theorem TyOk.isAgg {t : Nat} {ti : TI} (h : TyOk P t ti) (w : World) : (Go.isAgg t).run P w = .ok ti.sh.isAgg w := by
  have hd := h.desc
  unfold descOk at hd
  split at hd <;> first | cases hd | (rename_i h1 h2; simp [Go.isAgg, run_underlying h2, h1, Sh.isAgg])
theorem TyOk.size1 {t : Nat} {ti : TI} (h : TyOk P t ti) (ha : ti.sh.isAgg = false) : ti.size = 1 := by
  have hd := h.desc
  unfold descOk at hd
  split at hd <;> first | cases hd | simp_all [Sh.isAgg]
theorem TyOk.leaves {t : Nat} {ti : TI} (h : TyOk P t ti) : ti.sh.leaves.length = ti.size := by
  have hd := h.desc
  unfold descOk at hd
  split at hd <;> first | cases hd | simp_all [Sh.leaves]

theorem TyOk.leafOk {t : Nat} {ti : TI} (h : TyOk P t ti) : ∀ x ∈ ti.sh.leaves, leafOk P x = true := by
  have hd := h.desc
  unfold descOk at hd
  split at hd <;> first
    | cases hd
    | (rename_i h1 h2; rw [h1]; simp only [Sh.leaves, List.mem_singleton]; rintro x rfl; simp only [Bool.and_eq_true, decide_eq_true_eq] at hd; simp only [Go.Proofs.YtkicholhkoahhaaIT.leafOk, decide_eq_true_eq]; try exact hd.2)
    | (rename_i h1 h2; rw [h1]; simp only [Sh.leaves]; simp only [Bool.and_eq_true, decide_eq_true_eq] at hd; intro x hx; exact List.all_eq_true.1 hd.1.2 x hx)

/-! How a value looks. -/
section
variable {c : Cx} {v : Value}
theorem V.inv_i {k : IntKind} {n : Int} (h : V P c (.i k n) v) : v = .int k n := by cases h with | vi h => cases h; rfl
theorem V.inv_b {y : Bool} (h : V P c (.b y) v) : v = .bool y := by cases h with | vi h => cases h; rfl
theorem V.inv_s {y : ByteArray} (h : V P c (.s y) v) : v = .string y := by cases h with | vi h => cases h; rfl
theorem V.inv_nils (h : V P c .nils v) : ∃ A, v = .slice A 0 0 := by cases h with | vi h => cases h; exact ⟨_, rfl⟩
theorem V.inv_agg {cs : List AV} (h : V P c (.agg cs) v) : ∃ vs : List Value, v = .agg vs.toArray ∧ cs.length = vs.length ∧ ∀ (t : Nat) (y : AV) (v : Value), cs[t]? = some y → vs[t]? = some v → V P c y v := by
  cases h with
  | vi h => cases h with | agg _ vs hl h => exact ⟨vs, rfl, hl, fun t y v h1 h2 => .vi (h t y v h1 h2)⟩
  | agg _ vs hl h => exact ⟨vs, rfl, hl, h⟩
theorem V.inv_tup {cs : List AV} (h : V P c (.tup cs) v) : ∃ vs : List Value, v = .tuple vs.toArray ∧ cs.length = vs.length ∧ ∀ (t : Nat) (y : AV) (v : Value), cs[t]? = some y → vs[t]? = some v → V P c y v := by
  cases h with
  | vi h => cases h with | tup _ vs hl h => exact ⟨vs, rfl, hl, fun t y v h1 h2 => .vi (h t y v h1 h2)⟩
  | tup _ vs hl h => exact ⟨vs, rfl, hl, h⟩
theorem V.inv_fn {g : Nat} {cs : List AV} (h : V P c (.fn g cs) v) : ∃ vs : List Value, v = .func (.func g) #[] vs.toArray ∧ cs.length = vs.length ∧ ∀ (t : Nat) (y : AV) (v : Value), cs[t]? = some y → vs[t]? = some v → V P c y v := by
  cases h with
  | vi h => cases h with | fn _ _ vs hl h => exact ⟨vs, rfl, hl, fun t y v h1 h2 => .vi (h t y v h1 h2)⟩
  | fn _ _ vs hl h => exact ⟨vs, rfl, hl, h⟩
end

/-! Steps. -/
def Stp (c c' : Cx) (t t' : List AV) : Prop := (t' = t ∧ Kp c c') ∨ (∃ r, t' = killL r t ∧ Kx r c c') ∨ ∃ f, t' = renL f t ∧ Kf false f c c' ∧ Gr c c' ∧ KV c c'
/-- A quiet step: only new roots. -/
structure Qt (c c' : Cx) : Prop where
  same : Same c.w c'.w
  σ : ∃ l, c'.σ = c.σ ++ l
  j : ∀ r p, r < c.σ.length → c'.j r p = c.j r p
  D : ∀ r, c'.D r ↔ c.D r ∨ (c.σ.length ≤ r ∧ r < c'.σ.length)
  fresh : ∀ r p b, c.σ.length ≤ r → r < c'.σ.length → c'.j r p = some b → c.w.heap.size ≤ b
theorem Qt.refl (c : Cx) : Qt c c := ⟨Same.refl _, ⟨[], by simp⟩, fun _ _ _ => rfl, fun r => ⟨.inl, fun h => h.elim id fun h => by omega⟩, fun r p b h1 h2 => by omega⟩
theorem Qt.push (c : Cx) (ro : Root) (jb : Option Nat) (w' : World) (hs : Same c.w w') (hjb : ∀ b, jb = some b → c.w.heap.size ≤ b) : Qt c (c.push ro jb w') := by
  refine ⟨hs, ⟨[ro], rfl⟩, fun r p hr => by simp only [Cx.push]; rw [if_neg (by omega)], fun r => ?_, fun r p b h1 h2 h3 => ?_⟩
  · simp only [Cx.push, List.length_append, List.length_cons, List.length_nil]
    constructor
    · rintro (h | h)
      · exact .inl h
      · exact .inr (by omega)
    · rintro (h | h)
      · exact .inl h
      · exact .inr (by omega)
  · simp only [Cx.push, List.length_append, List.length_cons, List.length_nil] at h2 h3
    rw [if_pos (by omega)] at h3
    split at h3
    · exact hjb b h3
    · cases h3

/-- What an operation comes to. -/
def OpRes (P : Program) (E : Env) (o : Oper) (a : Act) (c : Cx) (st : St) (v : AV) (st' : St) : Prop :=
  ∀ (next : Act → World → Prop) (Q : Exit → Act → World → Prop),
    (∀ c' y, c'.σ = st'.σ → Mem P c' → V P c' v y → Stp c c' st.t st'.t → (quietOp E o.op = true → Qt c c' ∧ st'.t = st.t) → (softAt E o.op st = true → ∀ y1 u, V P c y1 u → V P c' y1 u) → next (a.put o.dst y) c'.w) → o.wp P a c.w next Q

theorem wp_value {o : Oper} {a : Act} {w w' : World} {next : Act → World → Prop} {Q : Exit → Act → World → Prop} {y : Value} (h : (execOp a.eval o).run P w = .ok (.value y) w') (hn : next (a.put o.dst y) w') : o.wp P a w next Q := by
  unfold Oper.wp; rw [h]; exact hn
theorem wp_skip' {o : Oper} {a : Act} {w w' : World} {next : Act → World → Prop} {Q : Exit → Act → World → Prop} (h : (execOp a.eval o).run P w = .ok .skip w') (hn : next (a.put o.dst undef) w') : o.wp P a w next Q := by
  unfold Oper.wp; rw [h]; exact hn

/-- An operation that touches no memory. -/
theorem opRes_pure {o : Oper} {a : Act} {c : Cx} {st : St} {v : AV} {y : Value} (hσ : c.σ = st.σ) (hm : Mem P c) (h : (execOp a.eval o).run P c.w = .ok (.value y) c.w) (hv : V P c v y) : OpRes P E o a c st v st :=
  fun _ _ hn => wp_value h (hn c y hσ hm hv (.inl ⟨rfl, Kp.refl c⟩) (fun _ => ⟨Qt.refl c, rfl⟩) fun _ _ _ h => h)

theorem run_bytes_eq (x y : ByteArray) : (x.toList == y.toList) = decide (x = y) := by
  by_cases h : x = y
  · subst h; simp
  · simp only [h, decide_false, beq_eq_false_iff_ne, ne_eq]
    intro h2
    apply h
    rw [Lib.toList_data, Lib.toList_data] at h2
    exact ByteArray.ext (Array.toList_inj.mp h2)

theorem run_equalIn_bool {t : TypeId} (hu : P.underlying t = some .bool) (n m : Bool) (w : World) (d : Nat) : (Op.equalIn (d + 1) t (.bool n) (.bool m)).run P w = .ok (n == m) w := by
  simp only [Op.equalIn, Sem.run_bind, run_underlying hu, Result.andThen_ok]
  rfl
theorem run_equal_bool {t : TypeId} (hu : P.underlying t = some .bool) (n m : Bool) (w : World) : (Op.equal t (.bool n) (.bool m)).run P w = .ok (n == m) w := run_equalIn_bool hu n m w 9999
theorem run_bin {op : BinOp} {xt yt : TypeId} {x y : Operand} {o : Oper} {a : Act} {w : World} {A B z : Value} (ho : o.op = .binOp op xt x y yt) (h1 : a.eval x = A) (h2 : a.eval y = B)
    (hA : match A with | .int _ _ | .string _ | .bool _ => True | _ => False) (hz : (binOp op xt A B).run P w = .ok z w) : (execOp a.eval o).run P w = .ok (.value z) w := by
  cases A <;> first | exact hA.elim | simp [execOp, ho, h1, h2, eqGuard, hz]

theorem bin_ok {op : BinOp} {xt yt : TypeId} {x y : Operand} {o : Oper} {a : Act} {c : Cx} {R : Type} {K : AV → Option R} {r : R} {A B : AV} (hE : EnvOk P E) (ho : o.op = .binOp op xt x y yt)
    (hx : V P c A (a.eval x)) (hy : V P c B (a.eval y)) (h : evBin E op xt A B K = some r) :
    ∃ v z, K v = some r ∧ (execOp a.eval o).run P c.w = .ok (.value z) c.w ∧ V P c v z := by
  unfold evBin at h
  cases A with
  | i k n =>
    cases B with
    | i k' m =>
      have h1 := hx.inv_i
      have h2 := hy.inv_i
      have go : ∀ {z}, (binOp op xt (.int k n) (.int k' m)).run P c.w = .ok z c.w → (execOp a.eval o).run P c.w = .ok (.value z) c.w := fun hz => run_bin ho h1 h2 trivial hz
      cases op <;> simp only [cmpI] at h <;> split at h <;> (try cases h; done) <;> rename_i hk <;> (try subst hk) <;>
        first
        | (split at h <;> rename_i h0 <;> first | (cases h; done) | (refine ⟨_, _, h, go ?_, .vi (.i _ _)⟩; simp [binOp, Op.intDiv, h0]; done))
        | (refine ⟨_, _, h, go ?_, .vi (.i _ _)⟩; unfold binOp; simp only [ne_eq, not_true_eq_false, if_false]; first | rfl | (unfold Op.intArith; rfl))
        | (refine ⟨_, _, h, go ?_, .vi (.i _ _)⟩; unfold binOp; first | rfl | (unfold Op.intBits; rfl))
        | (refine ⟨_, _, h, go (z := .int k (k.wrap (n * 2 ^ min m.toNat k.bits))) ?_, .vi (.i _ _)⟩; show (Op.shift .shl k n k' m).run P c.w = _; unfold Op.shift; rw [if_neg (Int.not_lt.2 hk)]; rfl)
        | (refine ⟨_, _, h, go (z := .int k (n.fdiv (2 ^ min m.toNat k.bits))) ?_, .vi (.i _ _)⟩; show (Op.shift .shr k n k' m).run P c.w = _; unfold Op.shift; rw [if_neg (Int.not_lt.2 hk)]; rfl)
        | (refine ⟨_, _, h, go ?_, .vi (.b _)⟩; simp [binOp, Op.intCmp]; done) | (refine ⟨_, _, h, go ?_, .vi (.b _)⟩; simp [binOp, Op.intCmp, bne]; rfl)
        | skip
    | _ => simp at h
  | s n =>
    cases B with
    | s m =>
      have h1 := hx.inv_s
      have h2 := hy.inv_s
      cases op <;> simp only [cmpS] at h <;>
        first
        | (cases h; done)
        | (split at h <;> rename_i h0 <;> first | (cases h; done) | (refine ⟨_, _, h, ?_, .vi (.s _)⟩; simp [execOp, ho, h1, h2, eqGuard, binOp, Op.stringOp, IntKind.max, IntKind.signed, IntKind.bits]; omega))
        | (refine ⟨_, _, h, ?_, .vi (.b _)⟩; simp [execOp, ho, h1, h2, eqGuard, binOp, Op.stringOp, lessS, run_bytes_eq]; done)
        | skip
    | _ => simp at h
  | b n =>
    cases B with
    | b m =>
      have h1 := hx.inv_b
      have h2 := hy.inv_b
      simp only at h
      split at h
      · rename_i ht
        have hu := (hE.tyo ht).und_b
        cases op <;> simp only at h <;>
          first
          | (cases h; done)
          | (refine ⟨_, _, h, run_bin ho h1 h2 trivial (z := .bool (decide (n = m))) ?_, .vi (.b _)⟩
             show (do pure (.bool (← Op.equal xt (.bool n) (.bool m))) : Sem Value).run P c.w = _
             simp only [Sem.run_bind, run_equal_bool hu, Result.andThen_ok]; cases n <;> cases m <;> rfl)
          | (refine ⟨_, _, h, run_bin ho h1 h2 trivial (z := .bool (!decide (n = m))) ?_, .vi (.b _)⟩
             show (do pure (.bool (!(← Op.equal xt (.bool n) (.bool m)))) : Sem Value).run P c.w = _
             simp only [Sem.run_bind, run_equal_bool hu, Result.andThen_ok]; cases n <;> cases m <;> rfl)
          | skip
      · cases h
    | _ => simp at h
  | _ => simp at h

/-! Equality of structs. -/
theorem eqLeaf_run {c : Cx} {t : Nat} {ti : TI} {a1 y : AV} {v u : Value} {p : Bool} (ht : TyOk P t ti) (hx : V P c a1 v) (hy : V P c y u) (h : eqLeaf ti.sh a1 y = some p) (d : Nat) : (Op.equalIn (d + 1) t v u).run P c.w = .ok p c.w ∧ ti.sh.isAgg = false := by
  obtain ⟨sh, n1, n2, n3, n4⟩ := ti
  cases sh with
  | i k0 =>
    cases a1 <;> try (cases h; done)
    cases y <;> try (cases h; done)
    rename_i k a k' b
    simp only [eqLeaf] at h
    split at h <;> try (cases h; done)
    rename_i hk
    subst hk
    cases h
    rw [hx.inv_i, hy.inv_i]
    refine ⟨?_, rfl⟩
    rw [run_equalIn_int c.w d t k k0 a b ht.und_i]
    by_cases hab : a = b <;> simp [hab]
  | s =>
    cases a1 <;> try (cases h; done)
    cases y <;> try (cases h; done)
    cases h
    rw [hx.inv_s, hy.inv_s]
    refine ⟨?_, rfl⟩
    rw [run_equalIn_string c.w d t _ _ ht.und_s, run_bytes_eq]
  | b =>
    cases a1 <;> try (cases h; done)
    cases y <;> try (cases h; done)
    rename_i a b
    cases h
    rw [hx.inv_b, hy.inv_b]
    refine ⟨?_, rfl⟩
    rw [run_equalIn_bool ht.und_b a b c.w d]
    cases a <;> cases b <;> rfl
  | _ => cases a1 <;> cases y <;> cases h
theorem part_leaf {t : Nat} {ti : TI} (ht : TyOk P t ti) (ha : ti.sh.isAgg = false) {vs : List Value} {n : Nat} {v : Value} (hv : vs[n]? = some v) (w : World) : (part t vs.toArray n).run P w = .ok v w := by
  simp [part, ht.isAgg, ha, hv]
theorem eqCs_run {c : Cx} (hE : EnvOk P E) (d : Nat) : ∀ (fs : List Field) (fl : List (Nat × Nat)) (n : Nat) (xs ys : List AV) (vs us : List Value) (p : Bool), fldOk P fs fl = true → (fs.all fun f => f.name != "_") = true →
    (∀ (t : Nat) (y : AV), xs[t]? = some y → ∃ v, vs[n + t]? = some v ∧ V P c y v) → (∀ (t : Nat) (y : AV), ys[t]? = some y → ∃ v, us[n + t]? = some v ∧ V P c y v) →
    eqCs E n fl xs ys = some p → (Op.eqFields (d + 1) vs.toArray us.toArray fs).run P c.w = .ok p c.w
  | [], fl, n, xs, ys, vs, us, p, hf, _, _, _, h => by
    cases fl with
    | cons _ _ => simp [fldOk] at hf
    | nil =>
      cases xs <;> cases ys <;> simp [eqCs] at h
      subst h
      simp [Op.eqFields]
  | f :: fs, [], _, _, _, _, _, _, hf, _, _, _, _ => by simp [fldOk] at hf
  | f :: fs, fd :: fl, n, xs, ys, vs, us, p, hf, hn, hx, hy, h => by
    cases xs with
    | nil => cases ys <;> simp [eqCs] at h
    | cons a1 xs =>
    cases ys with
    | nil => simp [eqCs] at h
    | cons y ys =>
      simp only [eqCs] at h
      split at h <;> try (cases h; done)
      rename_i ho
      split at h <;> try (cases h; done)
      rename_i ti hti
      split at h <;> try (cases h; done)
      rename_i p1 hp1
      split at h <;> try (cases h; done)
      rename_i q hq
      cases h
      simp only [fldOk, Bool.and_eq_true, decide_eq_true_eq] at hf
      obtain ⟨⟨⟨h1, h2⟩, _⟩, h4⟩ := hf
      simp only [List.all_cons, Bool.and_eq_true] at hn
      obtain ⟨v, hv, gv⟩ := hx 0 a1 rfl
      obtain ⟨u, hu, gu⟩ := hy 0 y rfl
      rw [Nat.add_zero] at hv hu
      have ht := hE.tyo hti
      obtain ⟨e1, e2⟩ := eqLeaf_run ht gv gu hp1 d
      have hn' : f.name ≠ "_" := by simpa using hn.1
      have ih := eqCs_run hE d fs fl (n + 1) xs ys vs us q h4 hn.2
        (fun t y ht => by
          obtain ⟨v, k1, k2⟩ := hx (t + 1) y (by simpa using ht)
          exact ⟨v, by rw [show n + 1 + t = n + (t + 1) by omega]; exact k1, k2⟩)
        (fun t y ht => by
          obtain ⟨v, k1, k2⟩ := hy (t + 1) y (by simpa using ht)
          exact ⟨v, by rw [show n + 1 + t = n + (t + 1) by omega]; exact k1, k2⟩) hq
      rw [Op.eqFields, if_pos hn', h1, h2, ho]
      simp only [Sem.run_bind, part_leaf ht e2 hv, part_leaf ht e2 hu, e1, Result.andThen_ok]
      cases p1
      · simp
      · simpa using ih
theorem binA_ok {op : BinOp} {xt yt : TypeId} {x y : Operand} {o : Oper} {a : Act} {c : Cx} {R : Type} {K : AV → Option R} {r : R} {A B : AV} (hE : EnvOk P E) (ho : o.op = .binOp op xt x y yt)
    (hx : V P c A (a.eval x)) (hy : V P c B (a.eval y)) (h : evBinA E op xt A B K = some r) :
    ∃ v z, K v = some r ∧ (execOp a.eval o).run P c.w = .ok (.value z) c.w ∧ V P c v z := by
  unfold evBinA at h
  cases A with
  | agg xs =>
    simp only at h
    split at h <;> try (cases h; done)
    rename_i ys
    split at h <;> try (cases h; done)
    rename_i l s1 s2 fl hti
    split at h <;> try (cases h; done)
    rename_i p hp
    have ht := hE.tyo hti
    obtain ⟨fs, hund, _, hfl⟩ := ht.und_agg
    have heq := ht.eq rfl rfl
    unfold eqOk at heq
    simp only [hund, Bool.and_eq_true, Bool.not_eq_true'] at heq
    obtain ⟨⟨g1, g2⟩, g3⟩ := heq
    obtain ⟨vs, hv, hvl, hvk⟩ := hx.inv_agg
    obtain ⟨us, hu, hul, huk⟩ := hy.inv_agg
    have hrun := eqCs_run hE 9998 fs.toList fl 0 xs ys vs us p hfl g3
      (fun t y h => by
        have hlt : t < vs.length := by rw [← hvl]; exact (List.getElem?_eq_some_iff.1 h).1
        exact ⟨vs[t], by rw [Nat.zero_add]; exact List.getElem?_eq_getElem hlt, hvk t y _ h (List.getElem?_eq_getElem hlt)⟩)
      (fun t y h => by
        have hlt : t < us.length := by rw [← hul]; exact (List.getElem?_eq_some_iff.1 h).1
        exact ⟨us[t], by rw [Nat.zero_add]; exact List.getElem?_eq_getElem hlt, huk t y _ h (List.getElem?_eq_getElem hlt)⟩) hp
    have hff : P.fieldsOf xt = fs := by simp [Program.fieldsOf, hund]
    have heqr : (Op.equalIn 10000 xt (.agg vs.toArray) (.agg us.toArray)).run P c.w = .ok p c.w := by
      rw [run_equalIn_struct (P := P) c.w 9999 xt vs.toArray us.toArray (by rw [hff]; exact hund) g1, hff]
      exact hrun
    have hgd : ∀ op, (eqGuard op xt x y (.agg vs.toArray) (.agg us.toArray)).run P c.w = .ok () c.w := fun op => run_eqGuard_agg c.w op xt x y vs.toArray us.toArray g2
    split at h <;> try (cases h; done)
    · refine ⟨_, .bool p, h, ?_, .vi (.b _)⟩
      simp [execOp, ho, hv, hu, hgd, run_eql_struct, heqr, Result.andThen]
    · refine ⟨_, .bool (!p), h, ?_, .vi (.b _)⟩
      simp [execOp, ho, hv, hu, hgd, run_neq_struct, heqr, Result.andThen]
  | _ => exact bin_ok hE ho hx hy h
end Go.Proofs.YtkicholhkoahhaaIT
