/- Code and functions. No condition beyond what each theorem states. -/
import Derived.Test.YtkicholhkoahhaaItT
import Derived.Test.YtkicholhkoahhaaIt6
namespace Go.Proofs.YtkicholhkoahhaaIT
open Go
variable {P : Program} {E : Env}

def Ex.ex : Ex → Exit
  | .normal => .normal
  | .exit id => .exit id
  | .ret => .ret

def loopN : Nat → (St → Option (Ex × St)) → St → Option (Ex × St)
  | 0, _, _ => none
  | n + 1, F, st => match F st with
    | some (.normal, s) => loopN n F s
    | q => q
abbrev Lop := (St → Option (Ex × St)) → St → Option (Ex × St)
def LpOk (LP : Lop) : Prop := ∀ F st q, LP F st = some q → ∃ n, loopN n F st = some q

/-- What is asked of regions whose order is open. -/
def DrawRule (P : Program) (E : Env) (C : Cal) : Prop := ∀ (ops : Array Oper) (id : Nat) (c0 c : Cx) (st : St) (a : Act) {R : Type} (K : St → Option R) (r : R) (Q : Exit → Act → World → Prop), (drawOk E ops.toList = true ∧ evOps E C ops.toList ops.toList st K = some r ∨ drawOk2 E ops.toList = true ∧ evOpsD E C ops.toList (befL ops.toList []) 0 ops.toList st K = some r ∨
   ∃ s m, drawOk3 E ops.toList s m = true ∧ evOps3 E C ops.toList s m st K = some r) → Rel P c0 c st a →
   (∀ st' c' a', K st' = some r → Rel P c0 c' st' a' → Q .normal a' c'.w) → (Code.region id ops true).wp P Q a c.w

theorem code_ok {C : Cal} {c0 : Cx} {LP : Lop} {kp : List (Nat × List Nat × Nat)} (hE : EnvOk P E) (hC : CalOk P E C) (hD : DrawRule P E C) (hL : LpOk LP) (hkp : ∀ q, q ∈ kp → c0.σ.length ≤ cutK q.2.2) :
    ∀ (c : Code) {R : Type} (st : St) (K : Ex → St → Option R) (r : R) (cx : Cx) (a : Act) (Q : Exit → Act → World → Prop), Rel P c0 cx st a → evC E C LP kp c st K = some r →
      (∀ e st' c' a', K e st' = some r → Rel P c0 c' st' a' → Q e.ex a' c'.w) → c.wp P Q a cx.w := by
  have hlk : ∀ id l m, look id kp = some (l, m) → c0.σ.length ≤ cutK m := by
    intro id l m h
    have : ∀ (kp : List (Nat × List Nat × Nat)), (∀ q, q ∈ kp → c0.σ.length ≤ cutK q.2.2) → look id kp = some (l, m) → c0.σ.length ≤ cutK m := by
      intro kp
      induction kp with
      | nil => intro _ h; cases h
      | cons q kp ih =>
        intro hq h
        simp only [look] at h
        split at h
        · simp only [Option.some.injEq] at h
          have := hq q (by simp)
          rw [h] at this; exact this
        · exact ih (fun x hx => hq x (List.mem_cons_of_mem _ hx)) h
    exact this kp hkp h
  have hla : ∀ (x : Code) l m, lookAt x kp = some (l, m) → c0.σ.length ≤ cutK m := by
    intro x l m h
    unfold lookAt at h
    split at h
    · exact hlk _ l m h
    · cases h
  intro c
  induction c with
  | skip =>
    intro R st K r cx a Q h hk hQ
    simp only [evC] at hk
    exact wp_skip (hQ _ _ _ _ hk h)
  | region id ops draw =>
    intro R st K r cx a Q h hk hQ
    simp only [evC] at hk
    obtain ⟨st1, c1, hw, hk1, h1⟩ := h.cut (hlk id) hk
    rw [← hw]
    split at hk1
    · rename_i hd
      cases draw with
      | false => exact wp_region_list (ops_ok hE hC (fun st' c' a' g1 g2 => hQ .normal st' c' a' g1 g2) _ _ _ _ h1 hk1)
      | true => exact hD ops id c0 c1 st1 a _ r Q (.inl ⟨by simpa using hd, hk1⟩) h1 fun st' c' a' g1 g2 => hQ .normal st' c' a' g1 g2
    · rename_i hd
      cases draw with
      | false => exact absurd rfl hd
      | true =>
        split at hk1
        · rename_i hd2
          exact hD ops id c0 c1 st1 a _ r Q (.inr (.inl ⟨hd2, hk1⟩)) h1 fun st' c' a' g1 g2 => hQ .normal st' c' a' g1 g2
        · split at hk1 <;> try (cases hk1; done)
          rename_i s hs
          exact hD ops id c0 c1 st1 a _ r Q (.inr (.inr ⟨s, _, by simpa using List.find?_some hs, hk1⟩)) h1 fun st' c' a' g1 g2 => hQ .normal st' c' a' g1 g2
  | seq x y ihx ihy =>
    intro R st K r cx a Q h hk hQ
    simp only [evC] at hk
    refine wp_seq (ihx st _ r cx a _ h hk fun e st' c' a' g1 g2 => ?_)
    cases e with
    | normal => exact ihy st' K r c' a' Q g2 g1 hQ
    | exit id => exact hQ _ st' c' a' g1 g2
    | ret => exact hQ _ st' c' a' g1 g2
  | cond c x y ihx ihy =>
    intro R st K r cx a Q h hk hQ
    simp only [evC] at hk
    split at hk <;> try (cases hk; done)
    rename_i b hb
    have hv := h.tm.ev P c
    rw [hb] at hv
    have hev := hv.inv_b
    have fin : (cond b (evC E C LP kp x st K) (evC E C LP kp y st K)) = some r → (Code.cond c x y).wp P Q a cx.w := by
      intro hk
      cases b with
      | true => exact wp_cond_true hev (ihx st K r cx a Q h hk hQ)
      | false => exact wp_cond_false hev (ihy st K r cx a Q h hk hQ)
    split at hk
    · rename_i d
      refine fin ?_
      have hs : st.t.set d (.b b) = st.t := List.set_same hb
      cases b with
      | true => rw [hs] at hk; exact hk
      | false => rw [hs] at hk; exact hk
    · exact fin hk
  | block id x ih =>
    intro R st K r cx a Q h hk hQ
    simp only [evC] at hk
    refine wp_block (ih st _ r cx a _ h hk fun e st' c' a' g1 g2 => ?_)
    cases e with
    | normal => exact hQ _ st' c' a' g1 g2
    | exit id' =>
      simp only [Ex.ex, Exit.inBlock]
      simp only at g1
      by_cases hid : id' = id
      · rw [if_pos hid] at g1 ⊢; exact hQ _ st' c' a' g1 g2
      · rw [if_neg hid] at g1 ⊢; exact hQ _ st' c' a' g1 g2
    | ret => exact hQ _ st' c' a' g1 g2
  | loop x ih =>
    intro R st K r cx a Q h hk hQ
    simp only [evC] at hk
    obtain ⟨st0, c0', hw, hk, h⟩ := h.cut (hla x) hk
    rw [← hw]
    obtain ⟨q, h1, h2⟩ := Option.bind_eq_some_iff.1 hk
    obtain ⟨n, h3⟩ := hL _ _ _ h1
    refine wp_loop_ghost (fun n a w => ∃ c st, c.w = w ∧ Rel P c0 c st a ∧ loopN n (fun s => evC E C LP kp x s (rnd (lookAt x kp))) st = some q) n ⟨c0', st0, rfl, h, h3⟩ ?_
    rintro m a1 w1 ⟨c1, st1, rfl, g1, g2⟩
    cases m with
    | zero => cases g2
    | succ m =>
      simp only [loopN] at g2
      cases hF : evC E C LP kp x st1 (rnd (lookAt x kp)) with
      | none => rw [hF] at g2; cases g2
      | some q' =>
        rw [hF] at g2
        refine ih st1 _ q' c1 a1 _ g1 hF fun e st' c' a' g3 g4 => ?_
        cases e with
        | normal =>
          obtain ⟨st2, c2, hw2, g5, g6⟩ := g4.cut (K := fun s' => some (Ex.normal, s')) (hla x) g3
          cases g5
          exact ⟨m, Nat.lt_succ_self m, c2, st2, hw2, g6, g2⟩
        | exit id => cases g3; cases g2; exact hQ _ st' c' a' h2 g4
        | ret => cases g3; cases g2; exact hQ _ st' c' a' h2 g4
  | exit id =>
    intro R st K r cx a Q h hk hQ
    simp only [evC] at hk
    exact wp_exit (hQ _ _ _ _ hk h)
  | ret =>
    intro R st K r cx a Q h hk hQ
    simp only [evC] at hk
    exact wp_ret (hQ _ _ _ _ hk h)
  | _ => intro R st K r cx a Q h hk hQ; simp [evC] at hk

theorem load_res {t : TypeId} {v z : Value} {w : World} (h : (Instr.loadAt t v).run P w = .ok z w) : (do loadVar t (← asAddr v) : Sem Value).run P w = .ok z w := by
  unfold Instr.loadAt at h
  cases v with
  | pointer a =>
    cases a with
    | some a => exact h
    | none => simp [Instr.sureAddr] at h
  | _ => simp [Instr.sureAddr] at h

def resF (tmps : Array Value) : ResultVar → Sem Value
  | .tmp t => pure (tmps.getD t undef)
  | .cell a t => do loadVar t (← asAddr (tmps.getD a undef))

theorem res_ok {c : Cx} {st : St} {tmps : Array Value} (hE : EnvOk P E) (hm : Mem P c) (hσ : c.σ = st.σ) (ht : Tm P c st.t tmps) : ∀ (rs : List ResultVar) {R : Type} (K : List AV → Option R) (r : R), evRes E st rs K = some r →
    ∃ vs zs, K vs = some r ∧ (rs.mapM (resF tmps)).run P c.w = .ok zs c.w ∧ vs.length = zs.length ∧ ∀ (t : Nat) (y : AV) (v : Value), vs[t]? = some y → zs[t]? = some v → V P c y v
  | [], R, K, r, h => ⟨[], [], h, by simp, rfl, fun t y v h => by simp at h⟩
  | .tmp t :: rs, R, K, r, h => by
    simp only [evRes] at h
    obtain ⟨vs, zs, h1, h2, h3, h4⟩ := res_ok hE hm hσ ht rs _ r h
    refine ⟨_, tmps.getD t undef :: zs, h1, by simp [List.mapM_cons, resF, h2], by simp [h3], fun n y v hy hv => ?_⟩
    cases n with
    | zero => simp only [List.getElem?_cons_zero, Option.some.injEq] at hy hv; subst hy; subst hv; exact ht.at_ P t
    | succ n => exact h4 n y v (by simpa using hy) (by simpa using hv)
  | .cell a t :: rs, R, K, r, h => by
    simp only [evRes] at h
    obtain ⟨v0, z0, h1, h2, h3⟩ := evLoad_ok hE hm hσ (ht.at_ P a) h
    obtain ⟨vs, zs, h4, h5, h6, h7⟩ := res_ok hE hm hσ ht rs _ r h1
    have h8 := load_res h2
    refine ⟨_, z0 :: zs, h4, ?_, by simp [h6], fun n y v hy hv => ?_⟩
    · rw [List.mapM_cons, Sem.run_bind]
      have h9 : (resF tmps (.cell a t)).run P c.w = .ok z0 c.w := h8
      rw [h9]
      simp [h5]
    · cases n with
      | zero => simp only [List.getElem?_cons_zero, Option.some.injEq] at hy hv; subst hy; subst hv; exact h3
      | succ n => exact h7 n y v (by simpa using hy) (by simpa using hv)

/-- A function's body. -/
theorem body_okP {C : Cal} {LP : Lop} (hE : EnvOk P E) (hC : CalOk P E C) (hD : DrawRule P E C) (hL : LpOk LP) : CalOkP P E (fun g args ins => evBody E C LP g args ins) := by
  intro g args r h fi hfi N w vs hN hl hv
  simp only [evBody] at h
  split at h
  · rename_i p hp
    exact hE.pr g p hp args r h N w vs hN hl hv
  simp only [hfi] at h
  obtain ⟨fn, p1, p2, p3, p4, p5⟩ := hE.fn g fi hfi
  refine calls_of_wp p1 p3 ?_
  let c0 : Cx := ⟨[], fun _ _ => none, w, fun _ => True, N⟩
  have hno : ∀ r p n, nodeAt ([] : List Root) r p = some n → False := fun r p n h => by simpa using nodeAt_lt h
  have hO : ∀ b, ¬ c0.O b := by rintro b ⟨r, p, n, _, hn, _⟩; exact hno _ _ _ hn
  have hm0 : Mem P c0 := by
    refine ⟨fun r mv rf te es h => by simp [c0] at h, fun r p te es _ hn => (hno _ _ _ hn).elim, fun r p r' p' n n' b _ _ hn => (hno _ _ _ hn).elim, fun b hb => ⟨hN b hb, hO b⟩⟩
  have hNN : ∀ b, c0.N b → N b := fun b h => h.elim id fun h => (hO b h).elim
  have hrel : Rel P c0 c0 ⟨args ++ List.replicate (fi.ntmps - args.length) .u, []⟩ { tmps := vs.toArray ++ Array.replicate (fn.ntmps - vs.toArray.size) undef, defers := [] } := by
    refine ⟨rfl, hm0, ⟨by simp [p4, hl], fun i y hy => ?_⟩, Gr.refl _, rfl, KV.refl _⟩
    by_cases hi : i < args.length
    · rw [List.getElem?_append_left hi] at hy
      have hiv : i < vs.length := by omega
      have : (vs.toArray ++ Array.replicate (fn.ntmps - vs.toArray.size) undef).getD i undef = vs[i] := by
        rw [Array.getD_eq_getD_getElem?, Array.getElem?_append_left (by simpa using hiv)]
        simp [hiv]
      rw [this]
      exact .vi (VI.gen (Nat.le_refl _) (fun _ _ _ => rfl) (fun b _ hn h => hn (hNN b h)) (hv i y _ hy (List.getElem?_eq_getElem hiv)))
    · rw [List.getElem?_append_right (by omega)] at hy
      have hyu : y = .u := by
        rw [List.getElem?_replicate] at hy
        split at hy
        · cases hy; rfl
        · cases hy
      subst hyu
      have : (vs.toArray ++ Array.replicate (fn.ntmps - vs.toArray.size) undef).getD i undef = undef := by
        rw [Array.getD_eq_getD_getElem?, Array.getElem?_append_right (by simp; omega)]
        rw [Array.getElem?_replicate]
        split <;> rfl
      rw [this]
      exact .vi .u
  refine code_ok hE hC hD hL (fun _ _ => Nat.zero_le _) fi.code _ _ r c0 _ _ hrel h fun e st' c' a' g1 g2 => ?_
  have done : evRes E st' fi.results (fun vs => some (frz E st'.σ 4 (one vs))) = some r → a'.defers = [] ∧ ∃ v, (results fn a'.tmps).run P c'.w = .ok v c'.w ∧ (∃ z, Ending.returned v = .returned z ∧ Same w c'.w ∧ VI N c'.w r z) := by
    intro hres
    obtain ⟨ys, zs, h1, h2, h3, h4⟩ := res_ok hE g2.mem g2.σ g2.tm _ _ _ hres
    cases h1
    refine ⟨g2.df, (if h : zs.toArray.size = 1 then zs.toArray[0] else .tuple zs.toArray), ?_, _, rfl, ?_, ?_⟩
    · change (do let vs ← fn.results.mapM (resF a'.tmps); pure (if h : vs.size = 1 then vs[0] else .tuple vs) : Sem Value).run P c'.w = _
      rw [Array.mapM_eq_mapM_toList, p5]
      simp only [Sem.run_bind, map_eq_pure_bind]
      rw [h2]
      simp
    · have hg := g2.gr
      exact ⟨hg.os, hg.tape, hg.output, hg.size, fun b hb => hg.heap b hb (hO b)⟩
    · have hF : c'.F = N := g2.gr.F
      rw [← g2.σ]
      refine frz_ok hE g2.mem 4 _ _ ?_ (.inl fun b hb => by rw [hF]; exact hb)
      unfold one
      split
      · rename_i v
        obtain ⟨z, rfl⟩ : ∃ z, zs = [z] := by
          cases zs with
          | nil => simp at h3
          | cons z zs => cases zs with
            | nil => exact ⟨z, rfl⟩
            | cons => simp at h3
        exact h4 0 v z rfl rfl
      · rename_i hne
        have hz : zs.toArray.size ≠ 1 := by
          intro hz
          have : ys.length = 1 := by rw [h3]; simpa using hz
          match ys, this with
          | [y], _ => exact hne y rfl
        rw [dif_neg hz]
        exact .tup ys zs h3 h4
  cases e with
  | normal => exact done g1
  | ret => exact done g1
  | exit id => cases g1

/-- A function's body that is handed memory. -/
theorem body_okO {C : Cal} {LP : Lop} (hE : EnvOk P E) (hC : CalOk P E C) (hD : DrawRule P E C) (hL : LpOk LP) : CalOkO P E (fun g args ins => evBodyO E C LP g args ins) := by
  intro g args ins q h fi hfi c vs hσ hm hl hv
  simp only [evBodyO] at h
  split at h
  · rename_i p hp
    exact hE.po g p hp args ins q h c vs hσ hm hl hv
  simp only [hfi] at h
  split at h <;> try (cases h; done)
  rename_i oi hoi
  split at h <;> try (cases h; done)
  rename_i hkp
  obtain ⟨fn, p1, p2, p3, p4, p5⟩ := hE.fn g fi hfi
  refine calls_of_wp p1 p3 ?_
  have hrel : Rel P c c ⟨args ++ List.replicate (fi.ntmps - args.length) .u, ins⟩ { tmps := vs.toArray ++ Array.replicate (fn.ntmps - vs.toArray.size) undef, defers := [] } := by
    refine ⟨hσ, hm, ⟨by simp [p4, hl], fun i y hy => ?_⟩, Gr.refl _, rfl, KV.refl _⟩
    by_cases hi : i < args.length
    · rw [List.getElem?_append_left hi] at hy
      have hiv : i < vs.length := by omega
      have : (vs.toArray ++ Array.replicate (fn.ntmps - vs.toArray.size) undef).getD i undef = vs[i] := by
        rw [Array.getD_eq_getD_getElem?, Array.getElem?_append_left (by simpa using hiv)]
        simp [hiv]
      rw [this]
      exact hv i y _ hy (List.getElem?_eq_getElem hiv)
    · rw [List.getElem?_append_right (by omega)] at hy
      have hyu : y = .u := by
        rw [List.getElem?_replicate] at hy
        split at hy
        · cases hy; rfl
        · cases hy
      subst hyu
      have : (vs.toArray ++ Array.replicate (fn.ntmps - vs.toArray.size) undef).getD i undef = undef := by
        rw [Array.getD_eq_getD_getElem?, Array.getElem?_append_right (by simp; omega)]
        rw [Array.getElem?_replicate]
        split <;> rfl
      rw [this]
      exact .vi .u
  have hins : ins.length = c.σ.length := by rw [hσ]
  refine code_ok hE hC hD hL (c0 := c) (fun q hq => by have := List.all_eq_true.1 hkp q hq; rw [← hins]; simpa using this) fi.code _ _ q c _ _ hrel h fun e st' c' a' g1 g2 => ?_
  have done : evRes E st' fi.results (fun vs => ret ins.length (goneIx 0 (oi.rs.take ins.length)) oi.sh fi.rty (one vs) st'.σ) = some q → a'.defers = [] ∧ ∃ v, (results fn a'.tmps).run P c'.w = .ok v c'.w ∧ (∃ z c'', Ending.returned v = .returned z ∧ c''.w = c'.w ∧ c''.σ = q.2 ∧ Mem P c'' ∧ V P c'' q.1 z ∧ Gr c c'' ∧ KV c c'') := by
    intro hres
    obtain ⟨ys, zs, h1, h2, h3, h4⟩ := res_ok hE g2.mem g2.σ g2.tm _ _ _ hres
    have hone : V P c' (one ys) (if h : zs.toArray.size = 1 then zs.toArray[0] else .tuple zs.toArray) := by
      unfold one
      split
      · rename_i v
        obtain ⟨z, rfl⟩ : ∃ z, zs = [z] := by
          cases zs with
          | nil => simp at h3
          | cons z zs => cases zs with
            | nil => exact ⟨z, rfl⟩
            | cons => simp at h3
        exact h4 0 v z rfl rfl
      · rename_i hne
        have hz : zs.toArray.size ≠ 1 := by
          intro hz
          have : ys.length = 1 := by rw [h3]; simpa using hz
          match ys, this with
          | [y], _ => exact hne y rfl
        rw [dif_neg hz]
        exact .tup ys zs h3 h4
    rw [← g2.σ] at h1
    obtain ⟨c'', k1, k2, k3, k4, k5, k6⟩ := ret_ok (c0 := c) g2.mem hone hins.symm g2.gr g2.kv h1
    refine ⟨g2.df, (if h : zs.toArray.size = 1 then zs.toArray[0] else .tuple zs.toArray), ?_, _, c'', rfl, k1, k2, k3, k4, k5, k6⟩
    change (do let vs ← fn.results.mapM (resF a'.tmps); pure (if h : vs.size = 1 then vs[0] else .tuple vs) : Sem Value).run P c'.w = _
    rw [Array.mapM_eq_mapM_toList, p5]
    simp only [Sem.run_bind, map_eq_pure_bind]
    rw [h2]
    simp
  cases e with
  | normal => exact done g1
  | ret => exact done g1
  | exit id => cases g1

theorem body_ok {C : Cal} {LP : Lop} (hE : EnvOk P E) (hC : CalOk P E C) (hD : DrawRule P E C) (hL : LpOk LP) : CalOk P E ⟨fun g args ins => evBody E C LP g args ins, fun g args ins => evBodyO E C LP g args ins⟩ := ⟨body_okP hE hC hD hL, body_okO hE hC hD hL⟩
end Go.Proofs.YtkicholhkoahhaaIT
