/- What a callee gives back of its own. No condition beyond what each theorem states. -/
import Derived.Test.YtkicholhkoahhaaIt5
namespace Go.Proofs.YtkicholhkoahhaaIT
open Go
variable {P : Program} {E : Env}

structure Pk (P : Program) (c c1 : Cx) : Prop where
  kp : Kp c c1
  mem : Mem P c1
  w : c1.w = c.w
  n0 : c1.σ.all nest0 = true
theorem Pk.trans {a b c : Cx} (h : Pk P a b) (k : Pk P b c) : Pk P a c := ⟨h.kp.trans k.kp, k.mem, k.w.trans h.w, k.n0⟩

/-- A row of the call's own is moved behind all roots. -/
def Cx.mov (c : Cx) (r : Nat) (ro : Root) : Cx := ⟨c.σ.set r .dead ++ [ro], fun r' p => if r' = c.σ.length then (if p = [] then c.j r [] else none) else c.j r' p, c.w, fun r' => c.D r' ∨ r' = c.σ.length, c.F⟩

theorem mov_get {c : Cx} {r : Nat} {ro : Root} (hr : r < c.σ.length) (i : Nat) : (c.mov r ro).σ.getD i .dead = if i = c.σ.length then ro else if i = r then .dead else c.σ.getD i .dead := by
  simp only [Cx.mov]
  by_cases h1 : i = c.σ.length
  · subst h1
    rw [if_pos rfl, List.getD_eq_getElem?_getD, List.getElem?_append_right (by simp)]
    simp
  · rw [if_neg h1]
    by_cases h2 : i < c.σ.length
    · rw [getD_append_left _ _ _ _ (by simpa using h2)]
      by_cases h3 : i = r
      · subst h3; rw [if_pos rfl, getD_set_eq _ _ _ _ h2]
      · rw [if_neg h3, getD_set_ne _ _ _ _ _ (Ne.symm h3)]
    · rw [List.getD_eq_getElem?_getD, List.getElem?_eq_none (by simp; omega), if_neg (by omega), List.getD_eq_getElem?_getD, List.getElem?_eq_none (by omega)]

theorem mov_ok {c : Cx} (hm : Mem P c) (h0 : c.σ.all nest0 = true) {r e : Nat} {es : List AV} (hr : c.σ.getD r .dead = .live true false false e es) (hd : c.D r) :
    Pk P c (c.mov r (.live true false false e es)) ∧ Kf false (fun x => if x = r then some c.σ.length else some x) c (c.mov r (.live true false false e es)) := by
  have hlt := lt_of_live hr
  have hget := mov_get (c := c) (ro := .live true false false e es) hlt
  have hflat := hm.flat _ _ _ _ _ hr
  have node : ∀ i p te es', nodeAt (c.mov r (.live true false false e es)).σ i p = some (te, es') → (i = c.σ.length ∧ p = [] ∧ te = e ∧ es' = es) ∨ (i ≠ c.σ.length ∧ i ≠ r ∧ nodeAt c.σ i p = some (te, es')) := by
    intro i p te es' hn
    unfold nodeAt at hn
    rw [hget] at hn
    by_cases h1 : i = c.σ.length
    · rw [if_pos h1] at hn
      obtain ⟨h2, h3⟩ := hflat.node hn
      cases h3
      exact .inl ⟨h1, h2, rfl, rfl⟩
    · rw [if_neg h1] at hn
      by_cases h2 : i = r
      · rw [if_pos h2] at hn; cases hn
      · rw [if_neg h2] at hn; exact .inr ⟨h1, h2, hn⟩
  have hO : ∀ b, (c.mov r (.live true false false e es)).O b → c.O b := by
    rintro b ⟨i, p, ⟨te, es'⟩, hd', hn, hj⟩
    rcases node i p te es' hn with ⟨rfl, rfl, rfl, rfl⟩ | ⟨h1, h2, h3⟩
    · simp only [Cx.mov, if_true] at hj
      exact ⟨r, [], _, hd, nodeAt_live hr, hj⟩
    · simp only [Cx.mov, if_neg h1] at hj hd'
      exact ⟨i, p, _, hd'.resolve_right h1, h3, hj⟩
  have hg : Gr c (c.mov r (.live true false false e es)) := ⟨rfl, rfl, rfl, Nat.le_refl _, fun _ _ _ => rfl, fun b h => .inl (hO b h), rfl⟩
  have hvi : ∀ (y : AV) (v : Value), VI c.N c.w y v → VI (c.mov r (.live true false false e es)).N (c.mov r (.live true false false e es)).w y v := fun y v h => h.gr hg
  have kp : Kp c (c.mov r (.live true false false e es)) := by
    refine ⟨hg, by simp [Cx.mov], fun r' _ h => .inl h, fun r' p te es' hr' _ hn => ?_, fun _ _ _ _ _ cs _ _ _ _ _ _ _ h => ⟨cs, h, rfl⟩, fun r' mv f nest e' es' hr' h => ?_⟩
    · rcases node r' p te es' hn with ⟨rfl, _⟩ | ⟨h1, h2, h3⟩
      · omega
      · exact ⟨es', h3, rfl, by simp only [Cx.mov, if_neg h1]⟩
    · rw [hget, if_neg (by omega)] at h
      by_cases h2 : r' = r
      · rw [if_pos h2] at h; cases h
      · rw [if_neg h2] at h; exact ⟨_, _, _, _, h⟩
  have kf : Kf false (fun x => if x = r then some c.σ.length else some x) c (c.mov r (.live true false false e es)) := by
    refine ⟨fun y v _ => hvi y v, fun x i hx hdx hf => ?_, fun x i p te es' hx hdx hf hn => ?_, fun _ _ _ _ _ _ cs _ _ _ _ _ _ _ _ h => ⟨cs, h, rfl⟩⟩
    · by_cases h1 : x = r
      · rw [if_pos h1] at hf; cases hf
        exact ⟨by simp [Cx.mov], .inr rfl⟩
      · rw [if_neg h1] at hf; cases hf
        exact ⟨by simp [Cx.mov]; omega, .inl hdx⟩
    · by_cases h1 : x = r
      · rw [if_pos h1] at hf; cases hf
        subst h1
        rcases node _ p te es' hn with ⟨_, rfl, rfl, rfl⟩ | ⟨h2, _⟩
        · exact ⟨es', nodeAt_live hr, rfl, by simp [Cx.mov]⟩
        · exact absurd rfl h2
      · rw [if_neg h1] at hf; cases hf
        rcases node _ p te es' hn with ⟨h2, _⟩ | ⟨h2, _, h3⟩
        · omega
        · exact ⟨es', h3, rfl, by simp only [Cx.mov, if_neg h2]⟩
  have n0 : (c.mov r (.live true false false e es)).σ.all nest0 = true := by
    simp only [Cx.mov, List.all_append, Bool.and_eq_true]
    refine ⟨?_, rfl⟩
    rw [List.all_eq_true] at h0 ⊢
    intro ro hro
    rcases List.mem_or_eq_of_mem_set hro with h | h
    · exact h0 _ h
    · subst h; rfl
  refine ⟨⟨kp, mem_from (fun i mv rf nest e' es' hi => ?_) (fun i i' b hdi hdi' hn hn' hj hj' => ?_) fun b hb => ?_, rfl, n0⟩, kf⟩
  · have hi' := hi
    rw [hget] at hi
    by_cases h1 : i = c.σ.length
    · rw [if_pos h1] at hi
      refine ⟨c, _, r, ⟨false, kf, fun h => by cases h⟩, hm, h0, fun _ => hd, by simp [h1], ?_, fun _ _ _ => rfl⟩
      rw [hget, if_pos h1, hr]; rfl
    · rw [if_neg h1] at hi
      by_cases h2 : i = r
      · rw [if_pos h2] at hi; cases hi
      · rw [if_neg h2] at hi
        have kid : Kf false some c (c.mov r (.live true false false e es))   := ⟨fun y v _ => hvi y v, fun x i hx hdx hf => by cases hf; exact ⟨by simp [Cx.mov]; omega, .inl hdx⟩, fun x i p te es' hx hdx hf hn => by cases hf; exact kp.nd x p te es' hx hdx hn, fun x i p te es b cs el n' hx hdx hf => by cases hf; exact kp.blk x p te es b cs el n' hx hdx⟩
        refine ⟨c, some, i, ⟨false, kid, fun h => by cases h⟩, hm, h0, fun h => h.resolve_right h1, rfl, ?_, fun _ _ _ => rfl⟩
        rw [hget, if_neg h1, if_neg h2]
        cases c.σ.getD i .dead with
        | dead => rfl
        | live a b d e0 l => cases b <;> simp [renRoot, renL_some_id]
  · have src : ∀ i, (∃ n, nodeAt (c.mov r (.live true false false e es)).σ i [] = some n) → (c.mov r (.live true false false e es)).D i → (c.mov r (.live true false false e es)).j i [] = some b → ∃ x n, (if x = r then c.σ.length else x) = i ∧ c.D x ∧ nodeAt c.σ x [] = some n ∧ c.j x [] = some b := by
      rintro i ⟨⟨te, es'⟩, hn⟩ hdi hj
      rcases node i [] te es' hn with ⟨h1, _, _, _⟩ | ⟨h1, h2, h3⟩
      · refine ⟨r, _, by simp [h1], hd, nodeAt_live hr, ?_⟩
        simpa [Cx.mov, h1] using hj
      · refine ⟨i, _, by simp [h2], hdi.resolve_right h1, h3, ?_⟩
        simpa [Cx.mov, h1] using hj
    obtain ⟨x, n, a1, a2, a3, a4⟩ := src i hn hdi hj
    obtain ⟨x', n', b1, b2, b3, b4⟩ := src i' hn' hdi' hj'
    obtain ⟨rfl, _⟩ := hm.inj x [] x' [] n n' b a2 b2 a3 b3 a4 b4
    rw [← a1, ← b1]
  · have h1 := hm.out b hb
    exact ⟨h1.1, fun h => h1.2 (hO b h)⟩

theorem movP_ok {c : Cx} (hm : Mem P c) (h0 : c.σ.all nest0 = true) {r e : Nat} {mv0 : Bool} {es : List AV} (hr : c.σ.getD r .dead = .live mv0 true false e es) (hd : c.D r) :
    Pk P c (c.mov r (.live mv0 true false e (renL (fun x => if x = r then some c.σ.length else some x) es))) ∧ Kf false (fun x => if x = r then some c.σ.length else some x) c (c.mov r (.live mv0 true false e (renL (fun x => if x = r then some c.σ.length else some x) es))) := by
  have hlt := lt_of_live hr
  have hget := mov_get (c := c) (ro := .live mv0 true false e (renL (fun x => if x = r then some c.σ.length else some x) es)) hlt
  have hflat := hm.flat _ _ _ _ _ hr
  have node : ∀ i p te es', nodeAt (c.mov r (.live mv0 true false e (renL (fun x => if x = r then some c.σ.length else some x) es))).σ i p = some (te, es') → (i = c.σ.length ∧ p = [] ∧ te = e ∧ es' = renL (fun x => if x = r then some c.σ.length else some x) es) ∨ (i ≠ c.σ.length ∧ i ≠ r ∧ nodeAt c.σ i p = some (te, es')) := by
    intro i p te es' hn
    unfold nodeAt at hn
    rw [hget] at hn
    by_cases h1 : i = c.σ.length
    · rw [if_pos h1] at hn
      obtain ⟨h2, h3⟩ := (flat_ren hflat).node hn
      cases h3
      exact .inl ⟨h1, h2, rfl, rfl⟩
    · rw [if_neg h1] at hn
      by_cases h2 : i = r
      · rw [if_pos h2] at hn; cases hn
      · rw [if_neg h2] at hn; exact .inr ⟨h1, h2, hn⟩
  have hO : ∀ b, (c.mov r (.live mv0 true false e (renL (fun x => if x = r then some c.σ.length else some x) es))).O b → c.O b := by
    rintro b ⟨i, p, ⟨te, es'⟩, hd', hn, hj⟩
    rcases node i p te es' hn with ⟨rfl, rfl, rfl, rfl⟩ | ⟨h1, h2, h3⟩
    · simp only [Cx.mov, if_true] at hj
      exact ⟨r, [], _, hd, nodeAt_live hr, hj⟩
    · simp only [Cx.mov, if_neg h1] at hj hd'
      exact ⟨i, p, _, hd'.resolve_right h1, h3, hj⟩
  have hg : Gr c (c.mov r (.live mv0 true false e (renL (fun x => if x = r then some c.σ.length else some x) es))) := ⟨rfl, rfl, rfl, Nat.le_refl _, fun _ _ _ => rfl, fun b h => .inl (hO b h), rfl⟩
  have hvi : ∀ (y : AV) (v : Value), VI c.N c.w y v → VI (c.mov r (.live mv0 true false e (renL (fun x => if x = r then some c.σ.length else some x) es))).N (c.mov r (.live mv0 true false e (renL (fun x => if x = r then some c.σ.length else some x) es))).w y v := fun y v h => h.gr hg
  have kp : Kp c (c.mov r (.live mv0 true false e (renL (fun x => if x = r then some c.σ.length else some x) es))) := by
    refine ⟨hg, by simp [Cx.mov], fun r' _ h => .inl h, fun r' p te es' hr' _ hn => ?_, fun _ _ _ _ _ cs _ _ _ _ _ _ _ h => ⟨cs, h, rfl⟩, fun r' mv f nest e' es' hr' h => ?_⟩
    · rcases node r' p te es' hn with ⟨rfl, _⟩ | ⟨h1, h2, h3⟩
      · omega
      · exact ⟨es', h3, rfl, by simp only [Cx.mov, if_neg h1]⟩
    · rw [hget, if_neg (by omega)] at h
      by_cases h2 : r' = r
      · rw [if_pos h2] at h; cases h
      · rw [if_neg h2] at h; exact ⟨_, _, _, _, h⟩
  have kf : Kf false (fun x => if x = r then some c.σ.length else some x) c (c.mov r (.live mv0 true false e (renL (fun x => if x = r then some c.σ.length else some x) es))) := by
    refine ⟨fun y v _ => hvi y v, fun x i hx hdx hf => ?_, fun x i p te es' hx hdx hf hn => ?_, fun _ _ _ _ _ _ cs _ _ _ _ _ _ _ _ h => ⟨cs, h, rfl⟩⟩
    · by_cases h1 : x = r
      · rw [if_pos h1] at hf; cases hf
        exact ⟨by simp [Cx.mov], .inr rfl⟩
      · rw [if_neg h1] at hf; cases hf
        exact ⟨by simp [Cx.mov]; omega, .inl hdx⟩
    · by_cases h1 : x = r
      · rw [if_pos h1] at hf; cases hf
        subst h1
        rcases node _ p te es' hn with ⟨_, rfl, rfl, rfl⟩ | ⟨h2, _⟩
        · exact ⟨_, nodeAt_live hr, (renL_length ..).symm, by simp [Cx.mov]⟩
        · exact absurd rfl h2
      · rw [if_neg h1] at hf; cases hf
        rcases node _ p te es' hn with ⟨h2, _⟩ | ⟨h2, _, h3⟩
        · omega
        · exact ⟨es', h3, rfl, by simp only [Cx.mov, if_neg h2]⟩
  have n0 : (c.mov r (.live mv0 true false e (renL (fun x => if x = r then some c.σ.length else some x) es))).σ.all nest0 = true := by
    simp only [Cx.mov, List.all_append, Bool.and_eq_true]
    refine ⟨?_, rfl⟩
    rw [List.all_eq_true] at h0 ⊢
    intro ro hro
    rcases List.mem_or_eq_of_mem_set hro with h | h
    · exact h0 _ h
    · subst h; rfl
  refine ⟨⟨kp, mem_from (fun i mv rf nest e' es' hi => ?_) (fun i i' b hdi hdi' hn hn' hj hj' => ?_) fun b hb => ?_, rfl, n0⟩, kf⟩
  · have hi' := hi
    rw [hget] at hi
    by_cases h1 : i = c.σ.length
    · rw [if_pos h1] at hi
      refine ⟨c, _, r, ⟨false, kf, fun h => by cases h⟩, hm, h0, fun _ => hd, by simp [h1], ?_, fun _ _ _ => rfl⟩
      rw [hget, if_pos h1, hr]; rfl
    · rw [if_neg h1] at hi
      by_cases h2 : i = r
      · rw [if_pos h2] at hi; cases hi
      · rw [if_neg h2] at hi
        have kid : Kf false some c (c.mov r (.live mv0 true false e (renL (fun x => if x = r then some c.σ.length else some x) es)))   := ⟨fun y v _ => hvi y v, fun x i hx hdx hf => by cases hf; exact ⟨by simp [Cx.mov]; omega, .inl hdx⟩, fun x i p te es' hx hdx hf hn => by cases hf; exact kp.nd x p te es' hx hdx hn, fun x i p te es b cs el n' hx hdx hf => by cases hf; exact kp.blk x p te es b cs el n' hx hdx⟩
        refine ⟨c, some, i, ⟨false, kid, fun h => by cases h⟩, hm, h0, fun h => h.resolve_right h1, rfl, ?_, fun _ _ _ => rfl⟩
        rw [hget, if_neg h1, if_neg h2]
        cases c.σ.getD i .dead with
        | dead => rfl
        | live a b d e0 l => cases b <;> simp [renRoot, renL_some_id]
  · have src : ∀ i, (∃ n, nodeAt (c.mov r (.live mv0 true false e (renL (fun x => if x = r then some c.σ.length else some x) es))).σ i [] = some n) → (c.mov r (.live mv0 true false e (renL (fun x => if x = r then some c.σ.length else some x) es))).D i → (c.mov r (.live mv0 true false e (renL (fun x => if x = r then some c.σ.length else some x) es))).j i [] = some b → ∃ x n, (if x = r then c.σ.length else x) = i ∧ c.D x ∧ nodeAt c.σ x [] = some n ∧ c.j x [] = some b := by
      rintro i ⟨⟨te, es'⟩, hn⟩ hdi hj
      rcases node i [] te es' hn with ⟨h1, _, _, _⟩ | ⟨h1, h2, h3⟩
      · refine ⟨r, _, by simp [h1], hd, nodeAt_live hr, ?_⟩
        simpa [Cx.mov, h1] using hj
      · refine ⟨i, _, by simp [h2], hdi.resolve_right h1, h3, ?_⟩
        simpa [Cx.mov, h1] using hj
    obtain ⟨x, n, a1, a2, a3, a4⟩ := src i hn hdi hj
    obtain ⟨x', n', b1, b2, b3, b4⟩ := src i' hn' hdi' hj'
    obtain ⟨rfl, _⟩ := hm.inj x [] x' [] n n' b a2 b2 a3 b3 a4 b4
    rw [← a1, ← b1]
  · have h1 := hm.out b hb
    exact ⟨h1.1, fun h => h1.2 (hO b h)⟩

theorem n0_append {σ : List Root} {ro : Root} (h : σ.all nest0 = true) (h1 : nest0 ro = true) : (σ ++ [ro]).all nest0 = true := by simp [h, h1]

theorem none_ok {c : Cx} (hm : Mem P c) (h0 : c.σ.all nest0 = true) (e : Nat) (A0 : Option Addr) : Pk P c (c.push (.live true false false e []) none c.w) ∧ V P (c.push (.live true false false e []) none c.w) (.sl c.σ.length [] none) (.slice A0 0 0) := by
  have hpush := mem_push P hm true false false e [] none c.w (Same.refl _) (fun b h => by cases h) (fun m el t te' es' h => by simp at h) (.inl ⟨rfl, by simp [Cx.push]⟩)
  have hget : (c.push (.live true false false e []) none c.w).σ.getD c.σ.length .dead = .live true false false e [] := by simp only [Cx.push]; rw [getD_append_new]
  refine ⟨⟨hpush.2, hpush.1, rfl, n0_append h0 rfl⟩, .sl _ _ _ _ (by simp [Cx.push]) (.inr rfl) fun te es hn => ?_⟩
  rw [nodeAt_live hget] at hn
  cases hn
  have hj : (c.push (.live true false false e []) none c.w).j c.σ.length [] = none := by simp [Cx.push]
  rw [hj]
  exact ⟨rfl, fun q h => (by cases h), A0, rfl⟩

theorem pack_ok {k : Nat → Bool} {h : Sh} {a v : AV} {σ1 : List Root} {c : Cx} {z : Value} (hm : Mem P c) (h0 : c.σ.all nest0 = true) (hv : V P c a z) (hp : pack k h a c.σ = some (v, σ1)) : ∃ c1, c1.σ = σ1 ∧ Pk P c c1 ∧ V P c1 v z := by
  have same : Pk P c c := ⟨Kp.refl c, hm, rfl, h0⟩
  unfold pack at hp
  split at hp <;> try (cases hp; done)
  · cases hp
    obtain ⟨A0, rfl⟩ := hv.inv_nils
    have h12 := fun e => none_ok hm h0 e A0
    exact ⟨_, rfl, (h12 _).1, (h12 _).2⟩
  · rename_i r w
    split at hp
    · cases hp; exact ⟨c, rfl, same, hv⟩
    · split at hp <;> try (cases hp; done)
      rename_i e es hr
      cases hp
      obtain ⟨hd, _⟩ := V.inv_sl hm hv hr
      obtain ⟨h1, h2⟩ := mov_ok hm h0 hr hd
      refine ⟨_, rfl, h1, ?_⟩
      have := V.ren h2 hv (fun h => by cases h)
      simpa [ren] using this
  · cases hp; exact ⟨c, rfl, same, hv⟩
  · split at hp <;> try (cases hp; done)
    rename_i mv e es hr
    cases hp
    obtain ⟨_, hd, _⟩ := V.inv_pt hm hv hr
    obtain ⟨h1, h2⟩ := movP_ok hm h0 hr hd
    refine ⟨_, rfl, h1, ?_⟩
    have := V.ren h2 hv (fun h => by cases h)
    simpa [ren] using this
  · cases hp; exact ⟨c, rfl, same, hv⟩
  · cases hp; exact ⟨c, rfl, same, hv⟩
  · cases hp; exact ⟨c, rfl, same, hv⟩

/-- Values beside trees, in a context. -/
inductive Vs (P : Program) (c : Cx) : List AV → List Value → Prop
  | nil : Vs P c [] []
  | cons {a : AV} {v : Value} {as : List AV} {vs : List Value} : V P c a v → Vs P c as vs → Vs P c (a :: as) (v :: vs)
theorem Vs.mk {c : Cx} : ∀ {as : List AV} {vs : List Value}, as.length = vs.length → (∀ (t : Nat) (y : AV) (v : Value), as[t]? = some y → vs[t]? = some v → V P c y v) → Vs P c as vs
  | [], [], _, _ => .nil
  | [], _ :: _, h, _ => by simp at h
  | _ :: _, [], h, _ => by simp at h
  | a :: as, v :: vs, hl, h => .cons (h 0 a v rfl rfl) (Vs.mk (by simpa using hl) fun t y v h1 h2 => h (t + 1) y v (by simpa using h1) (by simpa using h2))
theorem Vs.spec {c : Cx} {as : List AV} {vs : List Value} (h : Vs P c as vs) : as.length = vs.length ∧ ∀ (t : Nat) (y : AV) (v : Value), as[t]? = some y → vs[t]? = some v → V P c y v := by
  induction h with
  | nil => exact ⟨rfl, fun t y v h => by simp at h⟩
  | cons h1 _ ih =>
    refine ⟨by simp [ih.1], fun t y v h h' => ?_⟩
    cases t with
    | zero => simp only [List.getElem?_cons_zero, Option.some.injEq] at h h'; subst h h'; exact h1
    | succ t => exact ih.2 t y v (by simpa using h) (by simpa using h')
theorem Vs.kp {c c' : Cx} (k : Kp c c') {as : List AV} {vs : List Value} (h : Vs P c as vs) : Vs P c' as vs := by
  induction h with
  | nil => exact .nil
  | cons h1 _ ih => exact .cons (h1.kp P k) ih

theorem packL_ok {k : Nat → Bool} : ∀ {hs : List Sh} {as vs : List AV} {σ1 : List Root} {c : Cx} {zs : List Value}, Mem P c → c.σ.all nest0 = true → Vs P c as zs → packL k hs as c.σ = some (vs, σ1) → ∃ c1, c1.σ = σ1 ∧ Pk P c c1 ∧ Vs P c1 vs zs
  | [], [], vs, σ1, c, zs, hm, h0, hv, hp => by
    simp only [packL] at hp
    cases hp
    cases hv
    exact ⟨c, rfl, ⟨Kp.refl c, hm, rfl, h0⟩, .nil⟩
  | [], _ :: _, _, _, _, _, _, _, _, hp => by simp [packL] at hp
  | _ :: _, [], _, _, _, _, _, _, _, hp => by simp [packL] at hp
  | h :: hs, a :: as, vs, σ1, c, zs, hm, h0, hv, hp => by
    simp only [packL] at hp
    split at hp <;> try (cases hp; done)
    rename_i v σ2 h1
    split at hp <;> try (cases hp; done)
    rename_i ws σ3 h2
    cases hp
    cases hv with
    | cons g1 g2 =>
      obtain ⟨c1, rfl, k1, k2⟩ := pack_ok hm h0 g1 h1
      obtain ⟨c2, rfl, k3, k4⟩ := packL_ok k1.mem k1.n0 (g2.kp k1.kp) h2
      exact ⟨c2, rfl, k1.trans k3, .cons (k2.kp P k3.kp) k4⟩
theorem packV_ok {k : Nat → Bool} {h : Sh} {a v : AV} {σ1 : List Root} {c : Cx} {z : Value} (hm : Mem P c) (h0 : c.σ.all nest0 = true) (hv : V P c a z) (hp : packV k h a c.σ = some (v, σ1)) : ∃ c1, c1.σ = σ1 ∧ Pk P c c1 ∧ V P c1 v z := by
  unfold packV at hp
  split at hp
  · obtain ⟨q, h1, h2⟩ := Option.map_eq_some_iff.1 hp
    cases h2
    obtain ⟨vs, rfl, hl, hk⟩ := hv.inv_agg
    obtain ⟨c1, g1, g2, g3⟩ := packL_ok hm h0 (Vs.mk hl hk) h1
    exact ⟨c1, g1, g2, .agg _ vs g3.spec.1 g3.spec.2⟩
  · exact pack_ok hm h0 hv hp
theorem packT_ok {k : Nat → Bool} : ∀ {hs : List Sh} {as vs : List AV} {σ1 : List Root} {c : Cx} {zs : List Value}, Mem P c → c.σ.all nest0 = true → Vs P c as zs → packT k hs as c.σ = some (vs, σ1) → ∃ c1, c1.σ = σ1 ∧ Pk P c c1 ∧ Vs P c1 vs zs
  | [], [], vs, σ1, c, zs, hm, h0, hv, hp => by
    simp only [packT] at hp
    cases hp
    cases hv
    exact ⟨c, rfl, ⟨Kp.refl c, hm, rfl, h0⟩, .nil⟩
  | [], _ :: _, _, _, _, _, _, _, _, hp => by simp [packT] at hp
  | _ :: _, [], _, _, _, _, _, _, _, hp => by simp [packT] at hp
  | h :: hs, a :: as, vs, σ1, c, zs, hm, h0, hv, hp => by
    simp only [packT] at hp
    split at hp <;> try (cases hp; done)
    rename_i v σ2 h1
    split at hp <;> try (cases hp; done)
    rename_i ws σ3 h2
    cases hp
    cases hv with
    | cons g1 g2 =>
      obtain ⟨c1, rfl, k1, k2⟩ := packV_ok hm h0 g1 h1
      obtain ⟨c2, rfl, k3, k4⟩ := packT_ok k1.mem k1.n0 (g2.kp k1.kp) h2
      exact ⟨c2, rfl, k1.trans k3, .cons (k2.kp P k3.kp) k4⟩
theorem packR_ok {k : Nat → Bool} {h : Sh} {a v : AV} {σ1 : List Root} {c : Cx} {z : Value} (hm : Mem P c) (h0 : c.σ.all nest0 = true) (hv : V P c a z) (hp : packR k h a c.σ = some (v, σ1)) : ∃ c1, c1.σ = σ1 ∧ Pk P c c1 ∧ V P c1 v z := by
  unfold packR at hp
  split at hp
  · obtain ⟨q, h1, h2⟩ := Option.map_eq_some_iff.1 hp
    cases h2
    obtain ⟨vs, rfl, hl, hk⟩ := hv.inv_tup
    obtain ⟨c1, g1, g2, g3⟩ := packT_ok hm h0 (Vs.mk hl hk) h1
    exact ⟨c1, g1, g2, .tup _ vs g3.spec.1 g3.spec.2⟩
  · exact packV_ok hm h0 hv hp

/-! The first k roots and those from L on. -/
def Cx.drp (c : Cx) (k L : Nat) : Cx := ⟨((c.σ.take k) ++ (c.σ.drop L)).map (renRoot (dropF k L)), fun i p => c.j (if i < k then i else i - k + L) p, c.w, fun i => c.D (if i < k then i else i - k + L), c.F⟩
theorem drp_ok {c : Cx} {k L : Nat} (hm : Mem P c) (h0 : c.σ.all nest0 = true) (hk : k ≤ L) (hL : L ≤ c.σ.length) {c0 : Cx} (hc0 : c0.σ.length = k) (g : Gr c0 c) (kv : KV c0 c) :
    Kf false (dropF k L) c (c.drp k L) ∧ Mem P (c.drp k L) ∧ Gr c0 (c.drp k L) ∧ KV c0 (c.drp k L) := by
  have hsrc : ∀ i, (c.drp k L).σ.getD i .dead = renRoot (dropF k L) (c.σ.getD (if i < k then i else i - k + L) .dead) := by
    intro i
    simp only [Cx.drp]
    rw [List.getD_eq_getElem?_getD, List.getElem?_map]
    have htl : (c.σ.take k).length = k := by rw [List.length_take]; omega
    by_cases hi : i < k
    · rw [if_pos hi, List.getElem?_append_left (by omega), List.getElem?_take, if_pos hi, List.getD_eq_getElem?_getD]
      cases c.σ[i]? <;> rfl
    · rw [if_neg hi, List.getElem?_append_right (by omega), List.getElem?_drop, htl, List.getD_eq_getElem?_getD, show L + (i - k) = i - k + L by omega]
      cases c.σ[i - k + L]? <;> rfl
  have hlen : (c.drp k L).σ.length = k + (c.σ.length - L) := by simp [Cx.drp]; omega
  have hf : ∀ {x i}, dropF k L x = some i → x = if i < k then i else i - k + L := by
    intro x i h
    unfold dropF at h
    by_cases h1 : x < k
    · rw [if_pos h1] at h; cases h; rw [if_pos h1]
    · rw [if_neg h1] at h
      by_cases h2 : L ≤ x
      · rw [if_pos h2] at h; cases h; rw [if_neg (by omega)]; omega
      · rw [if_neg h2] at h; cases h
  have hf' : ∀ i, dropF k L (if i < k then i else i - k + L) = some i := by
    intro i
    unfold dropF
    by_cases h1 : i < k
    · rw [if_pos h1, if_pos h1]
    · rw [if_neg h1, if_neg (by omega), if_pos (by omega)]; congr 1; omega
  have node : ∀ {i p te es'}, nodeAt (c.drp k L).σ i p = some (te, es') → ∃ es, nodeAt c.σ (if i < k then i else i - k + L) p = some (te, es) ∧ es.length = es'.length := by
    intro i p te es' hn
    unfold nodeAt at hn
    rw [hsrc] at hn
    obtain ⟨es, h1, h2⟩ := node_renRoot hn
    refine ⟨es, h1, ?_⟩
    rw [h2, apply_ite List.length, renL_length, ite_self]
  have hO : ∀ {b}, (c.drp k L).O b → c.O b := by
    rintro b ⟨i, p, ⟨te, es'⟩, hd, hn, hj⟩
    obtain ⟨es, h1, _⟩ := node hn
    exact ⟨_, p, _, hd, h1, hj⟩
  have hg : Gr c (c.drp k L) := ⟨rfl, rfl, rfl, Nat.le_refl _, fun _ _ _ => rfl, fun b h => .inl (hO h), rfl⟩
  have kf : Kf false (dropF k L) c (c.drp k L) := by
    refine ⟨fun y v _ h => h.gr hg, fun x i hx hd h => ?_, fun x i p te es' hx hd h hn => ?_, fun _ _ _ _ _ _ cs _ _ _ _ _ _ _ _ h => ⟨cs, h, rfl⟩⟩
    · have hx' := hf h
      refine ⟨?_, by simp only [Cx.drp]; rw [← hx']; exact hd⟩
      rw [hlen]
      by_cases hi : i < k
      · omega
      · rw [if_neg hi] at hx'; omega
    · obtain ⟨es, h1, h2⟩ := node hn
      rw [hf h]
      exact ⟨es, h1, h2, rfl⟩
  refine ⟨kf, mem_from (fun i mv rf nest e es hi => ⟨c, dropF k L, _, ⟨false, kf, fun h => by cases h⟩, hm, h0, id, hf' i, hsrc i, fun _ _ _ => rfl⟩) (fun i i' b hd hd' hn hn' hj hj' => ?_) fun b hb => ⟨(hm.out b hb).1, fun h => (hm.out b hb).2 (hO h)⟩, g.trans hg, ?_⟩
  · obtain ⟨⟨te, es⟩, hn⟩ := hn
    obtain ⟨⟨te', es'⟩, hn'⟩ := hn'
    obtain ⟨e1, h1, _⟩ := node hn
    obtain ⟨e2, h2, _⟩ := node hn'
    obtain ⟨h3, _⟩ := hm.inj _ [] _ [] _ _ b hd hd' h1 h2 hj hj'
    have := hf' i
    rw [h3, hf' i'] at this
    exact (Option.some.inj this).symm
  · have low : ∀ {r}, r < c0.σ.length → (if r < k then r else r - k + L) = r := fun h => if_pos (by omega)
    refine ⟨by rw [hlen]; omega, fun r hr hd => ?_, fun r p te es' hr hv hd hn => ?_, fun r p te es b cs el n' hr hv hd hn hn' hj hh => ?_, fun r mv f nest e es hr h => ?_, fun r mv nest te es' hr hd h => ?_⟩
    · simp only [Cx.drp]; rw [low hr]; exact kv.D r hr hd
    · obtain ⟨es1, h1, h2⟩ := node hn
      rw [low hr] at h1
      obtain ⟨es, h3, h4, h5⟩ := kv.nd r p te es1 hr hv hd h1
      exact ⟨es, h3, h4.trans h2, by simp only [Cx.drp]; rw [low hr]; exact h5⟩
    · obtain ⟨te', es'⟩ := n'
      obtain ⟨es1, h1, _⟩ := node hn'
      rw [low hr] at h1
      exact kv.blk r p te es b cs el _ hr hv hd hn h1 hj hh
    · rw [hsrc, low hr] at h
      have flip : ∀ {h : Nat → Option Nat} {ro : Root} {mv f nest : Bool} {e : Nat} {es : List AV}, renRoot h ro = .live mv f nest e es → ∃ mv' nest' e' es', ro = .live mv' f nest' e' es' := by
        intro h ro mv f nest e es hq
        cases ro with
        | dead => cases hq
        | live a b c d e' => cases b <;> (simp only [renRoot] at hq; cases hq; exact ⟨_, _, _, _, rfl⟩)
      obtain ⟨mv1, nest1, e1, es1, h1⟩ := flip h
      exact kv.rf r _ _ _ _ _ hr h1
    · rw [hsrc, low hr] at h
      have h1 : c.σ.getD r .dead = .live mv false nest te es' := by
        cases hro : c.σ.getD r .dead with
        | dead => rw [hro] at h; cases h
        | live a b c d e' =>
          rw [hro] at h
          cases b with
          | true => simp [renRoot] at h
          | false => simpa [renRoot] using h
      obtain ⟨mv0, nest0, es, h2, h3, h4⟩ := kv.rw r mv nest te es' hr hd h1
      refine ⟨_, _, _, h2, h3, fun he => ?_⟩
      obtain ⟨h5, h6⟩ := h4 he
      refine ⟨?_, h6⟩
      simp only [Cx.drp]; rw [low hr]; exact h5

theorem coe_sl {c : Cx} (hm : Mem P c) {r : Nat} {mv nest : Bool} {e : Nat} {es : List AV} {v : Value} (hr : c.σ.getD r .dead = .live mv false nest e es) (h : V P c (.sl r [] none) v) : V P c (.sl r [] (some (0, es.length))) v := by
  have hlt := lt_of_live hr
  obtain ⟨hd, hs, hn⟩ := V.inv_sl hm h hr
  refine .sl r [] _ v hlt hd fun te es' hn' => ?_
  rw [nodeAt_live hr] at hn'
  simp only [Option.some.injEq, Prod.mk.injEq] at hn'
  obtain ⟨rfl, rfl⟩ := hn'
  cases hj : c.j r [] with
  | none =>
    rw [hj] at hs
    obtain ⟨h1, h2, h3⟩ := hs
    exact ⟨h1, fun q hq => by cases hq; exact ⟨rfl, h1⟩, h3⟩
  | some b =>
    rw [hj] at hs
    obtain ⟨cap, cs, k1, k2, k3, k4, k5⟩ := hs
    exact ⟨cap, cs, k1, k2, k3, k4, by simp, some ⟨b, 0, none⟩, by simpa using k5, .inr (by simp)⟩
mutual
theorem coe_ok {c : Cx} (hm : Mem P c) : ∀ (h : Sh) (a : AV) (v : Value), V P c a v → V P c (coe h a c.σ) v
  | .agg l, a, v, hv => by
    cases a with
    | agg cs =>
      obtain ⟨vs, rfl, hl, hk⟩ := hv.inv_agg
      simp only [coe]
      obtain ⟨h1, h2⟩ := coeL_ok hm l cs vs hl hk
      exact .agg _ vs h1 h2
    | _ => simpa only [coe] using hv
  | .tup l, a, v, hv => by
    cases a with
    | tup cs =>
      obtain ⟨vs, rfl, hl, hk⟩ := hv.inv_tup
      simp only [coe]
      obtain ⟨h1, h2⟩ := coeL_ok hm l cs vs hl hk
      exact .tup _ vs h1 h2
    | _ => simpa only [coe] using hv
  | .pr j, a, v, hv => by
    cases a with
    | sl r p w =>
      cases p with
      | nil =>
        cases w with
        | none =>
          simp only [coe]
          split
          · rename_i h1
            exact coe_sl hm h1 hv
          · exact hv
        | some w => simpa only [coe] using hv
      | cons _ _ => simpa only [coe] using hv
    | _ => simpa only [coe] using hv
  | .i _, a, v, hv | .b, a, v, hv | .s, a, v, hv | .sl _ _, a, v, hv | .so _, a, v, hv | .po _, a, v, hv | .fn, a, v, hv | .pt, a, v, hv | .no, a, v, hv => by simpa only [coe] using hv
theorem coeL_ok {c : Cx} (hm : Mem P c) : ∀ (hs : List Sh) (as : List AV) (vs : List Value), as.length = vs.length → (∀ (t : Nat) (y : AV) (v : Value), as[t]? = some y → vs[t]? = some v → V P c y v) →
    (coeL hs as c.σ).length = vs.length ∧ ∀ (t : Nat) (y : AV) (v : Value), (coeL hs as c.σ)[t]? = some y → vs[t]? = some v → V P c y v
  | [], as, vs, hl, hk => by unfold coeL; exact ⟨hl, hk⟩
  | h :: hs, [], vs, hl, hk => by unfold coeL; exact ⟨hl, hk⟩
  | h :: hs, a :: as, [], hl, hk => by simp at hl
  | h :: hs, a :: as, v :: vs, hl, hk => by
    unfold coeL
    obtain ⟨h1, h2⟩ := coeL_ok hm hs as vs (by simpa using hl) fun t y v g1 g2 => hk (t + 1) y v (by simpa using g1) (by simpa using g2)
    refine ⟨by simp [h1], fun t y u g1 g2 => ?_⟩
    cases t with
    | zero =>
      simp only [List.getElem?_cons_zero, Option.some.injEq] at g1 g2
      subst g1; subst g2
      exact coe_ok hm h a _ (hk 0 a _ rfl rfl)
    | succ t => exact h2 t y u (by simpa using g1) (by simpa using g2)
end
theorem gone_ok : ∀ (gs : List Nat) {c : Cx}, Mem P c → c.σ.all nest0 = true → ∃ c1, c1.σ = goneAll gs c.σ ∧ Pk P c c1
  | [], c, hm, h0 => ⟨c, rfl, Kp.refl c, hm, rfl, h0⟩
  | r :: gs, c, hm, h0 => by
    obtain ⟨h1, h2⟩ := mem_dead P hm r
    have n1 : (c.set r .dead c.w).σ.all nest0 = true := by
      simp only [Cx.set]
      rw [List.all_eq_true] at h0 ⊢
      intro ro hro
      rcases List.mem_or_eq_of_mem_set hro with h | h
      · exact h0 _ h
      · subst h; rfl
    obtain ⟨c1, g1, g2⟩ := gone_ok gs h1 n1
    exact ⟨c1, g1, Pk.trans ⟨h2, h1, rfl, n1⟩ g2⟩
theorem ret_ok {k : Nat} {gs : List Nat} {sh h : Sh} {a : AV} {q : AV × List Root} {c c0 : Cx} {z : Value} (hm : Mem P c) (hv : V P c a z) (hc0 : c0.σ.length = k) (g : Gr c0 c) (kv : KV c0 c) (hr : ret k gs sh h a c.σ = some q) :
    ∃ c', c'.w = c.w ∧ c'.σ = q.2 ∧ Mem P c' ∧ V P c' q.1 z ∧ Gr c0 c' ∧ KV c0 c' := by
  unfold ret at hr
  split at hr <;> try (cases hr; done)
  rename_i hok
  simp only [Bool.or_eq_true, Bool.not_eq_true', decide_eq_true_eq, not_or, Bool.not_eq_false] at hok
  obtain ⟨h0, hkl⟩ := hok
  obtain ⟨q1, h1, rfl⟩ := Option.map_eq_some_iff.1 hr
  obtain ⟨c0', rw0, p1', p2'⟩ := packR_ok hm h0 hv h1
  obtain ⟨c1, rw1', pg⟩ := gone_ok gs p1'.mem p1'.n0
  have p1 := p1'.trans pg
  have p2 := p2'.kp P pg.kp
  have rw1 : c1.σ = goneAll gs q1.2 := by rw [rw1', rw0]
  have hl := p1.kp.len
  obtain ⟨d1, d2, d3, d4⟩ := drp_ok (L := c.σ.length) p1.mem p1.n0 (by omega) hl hc0 (g.trans p1.kp.toGr) (kv.trans p1.kp.kv)
  have hσ' : (c1.drp k c.σ.length).σ = (((goneAll gs q1.2).take k) ++ ((goneAll gs q1.2).drop c.σ.length)).map (renRoot (dropF k c.σ.length)) := by simp only [Cx.drp]; rw [rw1]
  refine ⟨c1.drp k c.σ.length, p1.w, hσ', d2, ?_, d3, d4⟩
  have := coe_ok d2 sh _ _ (V.ren d1 p2 (fun h => by cases h))
  rw [hσ'] at this
  exact this
end Go.Proofs.YtkicholhkoahhaaIT
