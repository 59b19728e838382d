/- Words for the printed tables and equations. No condition beyond what each theorem states. -/
import Derived.Test.YthlmjmejnlalaaaItZ
namespace Go.Proofs.YthlmjmejnlalaaaIT
open Go
variable {P : Program} {E : Env}

/-- A search tree by numbers. -/
inductive BT (α : Type) where
  | nil
  | node (l : BT α) (k : Nat) (v : α) (r : BT α)
variable {α : Type}
def BT.get : BT α → Nat → Option α
  | .nil, _ => none
  | .node l k v r, n => cond (Nat.blt n k) (l.get n) (cond (Nat.beq n k) (some v) (r.get n))
def BT.all (p : Nat → α → Bool) : BT α → Bool
  | .nil => true
  | .node l k v r => l.all p && p k v && r.all p
def BT.All (p : Nat → α → Prop) : BT α → Prop
  | .nil => True
  | .node l k v r => l.All p ∧ p k v ∧ r.All p
theorem BT.get_All {p : Nat → α → Prop} : ∀ {t : BT α}, t.All p → ∀ {n : Nat} {v : α}, t.get n = some v → p n v
  | .nil, _, _, _, h => by cases h
  | .node l k v r, ⟨h1, h2, h3⟩, n, x, h => by
    simp only [BT.get] at h
    cases h4 : Nat.blt n k with
    | true => rw [h4] at h; exact BT.get_All h1 h
    | false =>
      rw [h4] at h
      cases h5 : Nat.beq n k with
      | true =>
        rw [h5] at h
        have := Nat.eq_of_beq_eq_true h5
        subst this
        cases h
        exact h2
      | false => rw [h5] at h; exact BT.get_All h3 h
theorem BT.all_All {p : Nat → α → Bool} : ∀ {t : BT α}, t.all p = true → t.All fun n v => p n v = true
  | .nil, _ => trivial
  | .node l k v r, h => by
    simp only [BT.all, Bool.and_eq_true] at h
    exact ⟨BT.all_All h.1.1, h.1.2, BT.all_All h.2⟩
theorem BT.get_all {p : Nat → α → Bool} {t : BT α} (h : t.all p = true) {n : Nat} {v : α} (hg : t.get n = some v) : p n v = true := BT.get_All (BT.all_All h) hg

def mkFI (f : Func) (rty : Sh) (kp : List (Nat × List Nat × Nat)) : FI := ⟨f.body.getD .skip, f.ntmps, f.results.toList, rty, [], false, [], kp⟩
def FnOk (P : Program) (g : Nat) (fi : FI) : Prop := ∃ f : Func, P.funcs[g]? = some f ∧ f.name ≠ "runtime.NumGoroutine" ∧ f.body = some fi.code ∧ f.ntmps = fi.ntmps ∧ f.results.toList = fi.results
theorem fnOk_mk {g : Nat} {f : Func} {rty : Sh} {kp : List (Nat × List Nat × Nat)} (h : P.funcs[g]? = some f) (h1 : (decide (f.name ≠ "runtime.NumGoroutine") && f.body.isSome) = true) : FnOk P g (mkFI f rty kp) := by
  simp only [Bool.and_eq_true, decide_eq_true_eq] at h1
  obtain ⟨b, hb⟩ := Option.isSome_iff_exists.1 h1.2
  exact ⟨f, h, h1.1, by simp [mkFI, hb], rfl, rfl⟩

def mkT (n : Nat) (l : List (Nat × AV)) : List AV := l.foldl (fun t p => t.set p.1 p.2) (List.replicate n .x)

/-! A place in a code, and what follows it. -/
def subC : Code → List Bool → Code
  | c, [] => c
  | .seq a b, d :: p => subC (cond d b a) p
  | .cond _ a b, d :: p => subC (cond d b a) p
  | .block _ a, _ :: p => subC a p
  | .loop a, _ :: p => subC a p
  | c, _ :: _ => c
noncomputable def endK (E : Env) (fi : FI) (e : Ex) (st : St) : Option AV :=
  match e with
  | .normal | .ret => evRes E st fi.results fun vs => some (frz E st.σ 4 (one vs))
  | _ => none
noncomputable def conK (E : Env) (C : Cal) (kp : List (Nat × List Nat × Nat)) : Code → List Bool → (Ex → St → Option AV) → Ex → St → Option AV
  | _, [], K => K
  | .seq a b, d :: p, K => cond d (conK E C kp b p K) (conK E C kp a p fun e st' => match e with
    | .normal => evC E C loopD kp b st' K
    | e => K e st')
  | .cond _ a b, d :: p, K => conK E C kp (cond d b a) p K
  | .block id a, _ :: p, K => conK E C kp a p fun e st' => match e with
    | .exit id' => if id' = id then K .normal st' else K (.exit id') st'
    | e => K e st'
  | .loop a, _ :: p, K => conK E C kp a p fun e s => match e with
    | .normal => s.cut (lookAt a kp) fun s => (loopD (fun s => evC E C loopD kp a s (rnd (lookAt a kp))) s).bind fun q => K q.1 q.2
    | e => K e s
  | _, _ :: _, K => K
noncomputable def Jn (E : Env) (fi : FI) (p : List Bool) (t : List AV) (σ : List Root) : Option AV :=
  evC E (den E) loopD fi.kp (subC fi.code p) ⟨t, σ⟩ (conK E (den E) fi.kp fi.code p (endK E fi))
/-- A loop at a place: its round is that of the code below. -/
noncomputable def Lp (E : Env) (fi : FI) (p : List Bool) (t : List AV) (σ : List Root) : Option AV :=
  (loopD (fun s => evC E (den E) loopD fi.kp (subC fi.code (p ++ [false])) s (rnd (lookAt (subC fi.code (p ++ [false])) fi.kp))) ⟨t, σ⟩).bind fun q => conK E (den E) fi.kp fi.code p (endK E fi) q.1 q.2
theorem Lp_eq (E : Env) (fi : FI) (p : List Bool) (t : List AV) (σ : List Root) : Lp E fi p t σ =
    evC E (den E) loopD fi.kp (subC fi.code (p ++ [false])) ⟨t, σ⟩ fun e s => match e with
      | .normal => s.cut (lookAt (subC fi.code (p ++ [false])) fi.kp) fun s => (loopD (fun s => evC E (den E) loopD fi.kp (subC fi.code (p ++ [false])) s (rnd (lookAt (subC fi.code (p ++ [false])) fi.kp))) s).bind fun q => conK E (den E) fi.kp fi.code p (endK E fi) q.1 q.2
      | e => conK E (den E) fi.kp fi.code p (endK E fi) e s := loop_eq _ _ _ _
end Go.Proofs.YthlmjmejnlalaaaIT
