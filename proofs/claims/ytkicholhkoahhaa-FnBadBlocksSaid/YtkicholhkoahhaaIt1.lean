/- Words for the printed tables and equations. No condition beyond what each theorem states. -/
import Derived.Test.YtkicholhkoahhaaItZ
namespace Go.Proofs.YtkicholhkoahhaaIT
open Go
variable {P : Program} {E : Env}

/-- A search tree by numbers. -/
inductive BT (α : Type) where
  | nil
  | node (l : BT α) (k : Nat) (v : α) (r : BT α)
variable {α : Type}
def BT.get : BT α → Nat → Option α
  | .nil, _ => none
  | .node l k v r, n => cond (Nat.blt n k) (l.get n) (cond (Nat.beq n k) (some v) (r.get n))
def BT.all (p : Nat → α → Bool) : BT α → Bool
  | .nil => true
  | .node l k v r => l.all p && p k v && r.all p
def BT.All (p : Nat → α → Prop) : BT α → Prop
  | .nil => True
  | .node l k v r => l.All p ∧ p k v ∧ r.All p
theorem BT.get_All {p : Nat → α → Prop} : ∀ {t : BT α}, t.All p → ∀ {n : Nat} {v : α}, t.get n = some v → p n v
  | .nil, _, _, _, h => by cases h
  | .node l k v r, ⟨h1, h2, h3⟩, n, x, h => by
    simp only [BT.get] at h
    cases h4 : Nat.blt n k with
    | true => rw [h4] at h; exact BT.get_All h1 h
    | false =>
      rw [h4] at h
      cases h5 : Nat.beq n k with
      | true =>
        rw [h5] at h
        have := Nat.eq_of_beq_eq_true h5
        subst this
        cases h
        exact h2
      | false => rw [h5] at h; exact BT.get_All h3 h
theorem BT.all_All {p : Nat → α → Bool} : ∀ {t : BT α}, t.all p = true → t.All fun n v => p n v = true
  | .nil, _ => trivial
  | .node l k v r, h => by
    simp only [BT.all, Bool.and_eq_true] at h
    exact ⟨BT.all_All h.1.1, h.1.2, BT.all_All h.2⟩
theorem BT.get_all {p : Nat → α → Bool} {t : BT α} (h : t.all p = true) {n : Nat} {v : α} (hg : t.get n = some v) : p n v = true := BT.get_All (BT.all_All h) hg

def mkFI (f : Func) (rty : Sh) (kp : List (Nat × List Nat × Nat)) (own : List OI) (ms : List Nat) : FI := ⟨f.body.getD .skip, f.ntmps, f.results.toList, rty, ms.map fun i => (i, .no), false, [], kp, own⟩
def FnOk (P : Program) (g : Nat) (fi : FI) : Prop := ∃ f : Func, P.funcs[g]? = some f ∧ f.name ≠ "runtime.NumGoroutine" ∧ f.body = some fi.code ∧ f.ntmps = fi.ntmps ∧ f.results.toList = fi.results
theorem fnOk_mk {g : Nat} {f : Func} {rty : Sh} {kp : List (Nat × List Nat × Nat)} {own : List OI} {ms : List Nat} (h : P.funcs[g]? = some f) (h1 : (decide (f.name ≠ "runtime.NumGoroutine") && f.body.isSome) = true) : FnOk P g (mkFI f rty kp own ms) := by
  simp only [Bool.and_eq_true, decide_eq_true_eq] at h1
  obtain ⟨b, hb⟩ := Option.isSome_iff_exists.1 h1.2
  exact ⟨f, h, h1.1, by simp [mkFI, hb], rfl, rfl⟩

def mkT (n : Nat) (l : List (Nat × AV)) : List AV := l.foldl (fun t p => t.set p.1 p.2) (List.replicate n .x)

/-! A place in a code, and what follows it. -/
def subC : Code → List Bool → Code
  | c, [] => c
  | .seq a b, d :: p => subC (cond d b a) p
  | .cond _ a b, d :: p => subC (cond d b a) p
  | .block _ a, _ :: p => subC a p
  | .loop a, _ :: p => subC a p
  | c, _ :: _ => c
noncomputable def endK (E : Env) (fi : FI) (e : Ex) (st : St) : Option AV :=
  match e with
  | .normal | .ret => evRes E st fi.results fun vs => some (frz E st.σ 4 (one vs))
  | _ => none
noncomputable def conK {R : Type} (E : Env) (C : Cal) (kp : List (Nat × List Nat × Nat)) : Code → List Bool → (Ex → St → Option R) → Ex → St → Option R
  | _, [], K => K
  | .seq a b, d :: p, K => cond d (conK E C kp b p K) (conK E C kp a p fun e st' => match e with
    | .normal => evC E C loopD kp b st' K
    | e => K e st')
  | .cond _ a b, d :: p, K => conK E C kp (cond d b a) p K
  | .block id a, _ :: p, K => conK E C kp a p fun e st' => match e with
    | .exit id' => if id' = id then K .normal st' else K (.exit id') st'
    | e => K e st'
  | .loop a, _ :: p, K => conK E C kp a p fun e s => match e with
    | .normal => s.cut (lookAt a kp) fun s => (loopD (fun s => evC E C loopD kp a s (rnd (lookAt a kp))) s).bind fun q => K q.1 q.2
    | e => K e s
  | _, _ :: _, K => K
noncomputable def JnK {R : Type} (E : Env) (fi : FI) (kp : List (Nat × List Nat × Nat)) (K : Ex → St → Option R) (p : List Bool) (t : List AV) (σ : List Root) : Option R :=
  evC E (denC E) loopD kp (subC fi.code p) ⟨t, σ⟩ (conK E (denC E) kp fi.code p K)
/-- A loop at a place: its round is that of the code below. -/
noncomputable def LpK {R : Type} (E : Env) (fi : FI) (kp : List (Nat × List Nat × Nat)) (K : Ex → St → Option R) (p : List Bool) (t : List AV) (σ : List Root) : Option R :=
  (loopD (fun s => evC E (denC E) loopD kp (subC fi.code (p ++ [false])) s (rnd (lookAt (subC fi.code (p ++ [false])) kp))) ⟨t, σ⟩).bind fun q => conK E (denC E) kp fi.code p K q.1 q.2
theorem LpK_eq {R : Type} (E : Env) (fi : FI) (kp : List (Nat × List Nat × Nat)) (K : Ex → St → Option R) (p : List Bool) (t : List AV) (σ : List Root) : LpK E fi kp K p t σ =
    evC E (denC E) loopD kp (subC fi.code (p ++ [false])) ⟨t, σ⟩ fun e s => match e with
      | .normal => s.cut (lookAt (subC fi.code (p ++ [false])) kp) fun s => (loopD (fun s => evC E (denC E) loopD kp (subC fi.code (p ++ [false])) s (rnd (lookAt (subC fi.code (p ++ [false])) kp))) s).bind fun q => conK E (denC E) kp fi.code p K q.1 q.2
      | e => conK E (denC E) kp fi.code p K e s := loop_eq _ _ _ _
noncomputable def Jn (E : Env) (fi : FI) (p : List Bool) (t : List AV) (σ : List Root) : Option AV := JnK E fi fi.kp (endK E fi) p t σ
noncomputable def Lp (E : Env) (fi : FI) (p : List Bool) (t : List AV) (σ : List Root) : Option AV := LpK E fi fi.kp (endK E fi) p t σ
theorem Lp_eq (E : Env) (fi : FI) (p : List Bool) (t : List AV) (σ : List Root) : Lp E fi p t σ =
    evC E (denC E) loopD fi.kp (subC fi.code (p ++ [false])) ⟨t, σ⟩ fun e s => match e with
      | .normal => s.cut (lookAt (subC fi.code (p ++ [false])) fi.kp) fun s => (loopD (fun s => evC E (denC E) loopD fi.kp (subC fi.code (p ++ [false])) s (rnd (lookAt (subC fi.code (p ++ [false])) fi.kp))) s).bind fun q => conK E (denC E) fi.kp fi.code p (endK E fi) q.1 q.2
      | e => conK E (denC E) fi.kp fi.code p (endK E fi) e s := LpK_eq _ _ _ _ _ _ _
/-! Functions that are handed memory. k: how many roots. -/
noncomputable def endO (E : Env) (fi : FI) (k : Nat) (gs : List Nat) (sh : Sh) (e : Ex) (st : St) : Option (AV × List Root) :=
  match e with
  | .normal | .ret => evRes E st fi.results fun vs => ret k gs sh fi.rty (one vs) st.σ
  | _ => none
noncomputable def JnO (E : Env) (fi : FI) (kp : List (Nat × List Nat × Nat)) (k : Nat) (gs : List Nat) (sh : Sh) (p : List Bool) (t : List AV) (σ : List Root) : Option (AV × List Root) := JnK E fi kp (endO E fi k gs sh) p t σ
noncomputable def LpO (E : Env) (fi : FI) (kp : List (Nat × List Nat × Nat)) (k : Nat) (gs : List Nat) (sh : Sh) (p : List Bool) (t : List AV) (σ : List Root) : Option (AV × List Root) := LpK E fi kp (endO E fi k gs sh) p t σ
theorem LpO_eq (E : Env) (fi : FI) (kp : List (Nat × List Nat × Nat)) (k : Nat) (gs : List Nat) (sh : Sh) (p : List Bool) (t : List AV) (σ : List Root) : LpO E fi kp k gs sh p t σ =
    evC E (denC E) loopD kp (subC fi.code (p ++ [false])) ⟨t, σ⟩ fun e s => match e with
      | .normal => s.cut (lookAt (subC fi.code (p ++ [false])) kp) fun s => (loopD (fun s => evC E (denC E) loopD kp (subC fi.code (p ++ [false])) s (rnd (lookAt (subC fi.code (p ++ [false])) kp))) s).bind fun q => conK E (denC E) kp fi.code p (endO E fi k gs sh) q.1 q.2
      | e => conK E (denC E) kp fi.code p (endO E fi k gs sh) e s := LpK_eq _ _ _ _ _ _ _
/-- An answer with memory, taken to its parts. F: the callee read rows of the caller's own, so the answer must not lead to memory that is only read. -/
def bOwn {R : Type} (sh : Sh) (rs : List RSh) (k : Nat) (o : Option (AV × List Root)) (K : AV × List Root → Option R) : Option R := o.bind fun q => if okSh sh q.1 && okRs rs q.2 && decide (k ≤ rs.length) && (!false || (flatV q.1 && q.2.all flatRoot)) then K q else none
def bOwnF {R : Type} (sh : Sh) (rs : List RSh) (k : Nat) (o : Option (AV × List Root)) (K : AV × List Root → Option R) : Option R := o.bind fun q => if okSh sh q.1 && okRs rs q.2 && decide (k ≤ rs.length) && (!true || (flatV q.1 && q.2.all flatRoot)) then K q else none
/-- An element's cells are overwritten. -/
def putAt (es : List AV) (i k : Nat) (vs : List AV) : List AV := es.set i ((es.getD i .x).putCells k vs)
/-- As bOwn, where references to rows that were handed on live on: ins: the roots that were handed on. -/
def bOwnS {R : Type} (sh : Sh) (rs : List RSh) (k : Nat) (ins : List Root) (o : Option (AV × List Root)) (K : AV × List Root → Option R) : Option R := bOwn sh rs k o fun q => if okLens rs ins q.2 then K q else none
def bOwnFS {R : Type} (sh : Sh) (rs : List RSh) (k : Nat) (ins : List Root) (o : Option (AV × List Root)) (K : AV × List Root → Option R) : Option R := bOwnF sh rs k o fun q => if okLens rs ins q.2 then K q else none
end Go.Proofs.YtkicholhkoahhaaIT
