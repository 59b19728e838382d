/- Memory that is handed on and back. No condition beyond what each theorem states. -/
import Derived.Test.YtkicholhkoahhaaIt4
namespace Go.Proofs.YtkicholhkoahhaaIT
open Go
variable {P : Program} {E : Env}

/-- A block of a root that is handed on. -/
def Cx.Pb (c : Cx) (rs : List Nat) (b : Nat) : Prop := ∃ (i r : Nat) (p : List (Nat × Nat)) (n : Nat × List AV), rs[i]? = some r ∧ c.D r ∧ nodeAt c.σ r p = some n ∧ c.j r p = some b
/-- What the callee sees. -/
def Cx.ent (c : Cx) (rs : List Nat) (fz : Bool) : Cx := ⟨rs.map fun r => renRoot (ixOf rs) (c.σ.getD r .dead), fun i p => c.j (rs.getD i 0) p, c.w, fun i => c.D (rs.getD i 0), fun b => c.F b ∨ (fz = false ∧ c.O b ∧ ¬ c.Pb rs b)⟩

theorem getD_map_get {α β : Type} {l : List α} {i : Nat} {a : α} {d : β} (g : α → β) (h : l[i]? = some a) : (l.map g).getD i d = g a := by
  rw [List.getD_eq_getElem?_getD, List.getElem?_map, h]; rfl
theorem getD_get {α : Type} {l : List α} {i : Nat} {a d : α} (h : l[i]? = some a) : l.getD i d = a := by
  rw [List.getD_eq_getElem?_getD, h]; rfl
theorem node_fwd {f : Nat → Option Nat} {ro : Root} {te : Nat} {es : List AV} (h : ro.node [] = some (te, es)) : ∃ es', (renRoot f ro).node [] = some (te, es') := by
  cases ro with
  | dead => cases h
  | live mv rf nest e es0 =>
    simp only [Root.node, nodeOf, Option.some.injEq, Prod.mk.injEq] at h
    obtain ⟨rfl, rfl⟩ := h
    cases rf with
    | false => exact ⟨es0, rfl⟩
    | true => exact ⟨renL f es0, rfl⟩

theorem ent_O {c : Cx} {rs : List Nat} {fz : Bool} {b : Nat} (h : (c.ent rs fz).O b) : c.Pb rs b := by
  obtain ⟨i, p, n, hd, hn, hj⟩ := h
  have hi : i < rs.length := by have := nodeAt_lt hn; simpa [Cx.ent] using this
  have hg := List.getElem?_eq_getElem hi
  unfold nodeAt at hn
  simp only [Cx.ent] at hn hd hj
  rw [getD_map_get _ hg] at hn
  rw [getD_get hg] at hd hj
  obtain ⟨te, es'⟩ := n
  obtain ⟨es, h1, _⟩ := node_renRoot hn
  exact ⟨i, _, p, (te, es), hg, hd, h1, hj⟩
theorem Pb_O {c : Cx} {rs : List Nat} {b : Nat} (h : c.Pb rs b) : c.O b := by
  obtain ⟨i, r, p, n, _, hd, hn, hj⟩ := h
  exact ⟨r, p, n, hd, hn, hj⟩
theorem ent_N {c : Cx} {rs : List Nat} {fz : Bool} {b : Nat} (h : (c.ent rs fz).N b) : c.N b := by
  rcases h with (h | h) | h
  · exact .inl h
  · exact .inr h.2.1
  · exact .inr (Pb_O (ent_O h))

theorem ent_ok {c : Cx} {rs : List Nat} {fz : Bool} (hm : Mem P c) (h0 : c.σ.all nest0 = true) (hnd : nodupB rs = true) : Kf false (ixOf rs) c (c.ent rs fz) ∧ Mem P (c.ent rs fz) := by
  have k : Kf false (ixOf rs) c (c.ent rs fz) := by
    refine ⟨fun y v _ h => h.gen (Nat.le_refl _) (fun _ _ _ => rfl) fun b _ hn hn' => hn (ent_N hn'), ?_, ?_, ?_⟩
    · intro r i _ hd hf
      have hg := ixOf_some hf
      refine ⟨by simpa [Cx.ent] using (List.getElem?_eq_some_iff.1 hg).1, ?_⟩
      simp only [Cx.ent]; rw [getD_get hg]; exact hd
    · intro r i p te es' _ hd hf hn
      have hg := ixOf_some hf
      unfold nodeAt at hn
      simp only [Cx.ent] at hn ⊢
      rw [getD_map_get _ hg] at hn
      obtain ⟨es, h1, h2⟩ := node_renRoot hn
      refine ⟨es, h1, ?_, by rw [getD_get hg]⟩
      rw [h2]; split
      · rw [renL_length]
      · rfl
    · intro r i p te es b cs el n' _ _ _ _ _ _ hh
      exact ⟨cs, hh, rfl⟩
  refine ⟨k, mem_from (fun i mv rf nest e es hr => ?_) (fun i i' b hd hd' hn hn' hj hj' => ?_) fun b hb => ?_⟩
  · have hi : i < rs.length := by have := lt_of_live hr; simpa [Cx.ent] using this
    have hg := List.getElem?_eq_getElem hi
    refine ⟨c, ixOf rs, _, ⟨false, k, fun h => by cases h⟩, hm, h0, fun hd => ?_, ixOf_get hnd hg, ?_, fun _ b _ => rfl⟩
    · simp only [Cx.ent] at hd; rw [getD_get hg] at hd; exact hd
    · simp only [Cx.ent]; rw [getD_map_get _ hg]
  · have key : ∀ i, (∃ n, nodeAt (c.ent rs fz).σ i [] = some n) → ∃ r n, rs[i]? = some r ∧ nodeAt c.σ r [] = some n := by
      rintro i ⟨n, hn⟩
      have hi : i < rs.length := by have := nodeAt_lt hn; simpa [Cx.ent] using this
      have hg := List.getElem?_eq_getElem hi
      unfold nodeAt at hn
      simp only [Cx.ent] at hn
      rw [getD_map_get _ hg] at hn
      obtain ⟨te, es'⟩ := n
      obtain ⟨es, h1, _⟩ := node_renRoot hn
      exact ⟨_, _, hg, h1⟩
    obtain ⟨r, n, g1, g2⟩ := key i hn
    obtain ⟨r', n', g1', g2'⟩ := key i' hn'
    simp only [Cx.ent] at hd hd' hj hj'
    rw [getD_get g1] at hd hj
    rw [getD_get g1'] at hd' hj'
    obtain ⟨rfl, _⟩ := hm.inj r [] r' [] n n' b hd hd' g2 g2' hj hj'
    have h1 := ixOf_get hnd g1
    have h2 := ixOf_get hnd g1'
    rw [h1] at h2
    exact Option.some.inj h2
  · simp only [Cx.ent] at hb ⊢
    have h1 : b < c.w.heap.size := hb.elim (fun h => (hm.out b h).1) fun h => Cx.O_lt P hm h.2.1
    refine ⟨h1, fun hO => ?_⟩
    have h2 := ent_O hO
    rcases hb with hb | hb
    · exact (hm.out b hb).2 (Pb_O h2)
    · exact hb.2.2 h2

theorem flatRoot_get {σ : List Root} (h : σ.all flatRoot = true) (i : Nat) : flatRoot (σ.getD i .dead) = true := by
  rw [List.getD_eq_getElem?_getD]
  cases hi : σ[i]? with
  | none => rfl
  | some ro => exact List.all_eq_true.1 h _ (List.mem_of_getElem? hi)

/-! Back again. -/
def srcOf (rs : List Nat) (L r : Nat) : Option Nat := if r < L then ixOf rs r else some (rs.length + (r - L))
theorem src_bk {rs : List Nat} {L r i : Nat} (hnd : nodupB rs = true) (hlt : ∀ r, r ∈ rs → r < L) : srcOf rs L r = some i ↔ bkOf rs L i = some r := by
  unfold srcOf bkOf
  constructor
  · intro h
    by_cases hr : r < L
    · rw [if_pos hr] at h
      have hg := ixOf_some h
      rw [if_pos (List.getElem?_eq_some_iff.1 hg).1]
      exact hg
    · rw [if_neg hr] at h
      simp only [Option.some.injEq] at h
      rw [if_neg (by omega)]
      congr 1; omega
  · intro h
    by_cases hi : i < rs.length
    · rw [if_pos hi] at h
      rw [if_pos (hlt r (List.mem_of_getElem? h))]
      exact ixOf_get hnd h
    · rw [if_neg hi] at h
      simp only [Option.some.injEq] at h
      rw [if_neg (by omega)]
      congr 1; omega
def Cx.mrg (c c2 : Cx) (rs : List Nat) (ks : List Bool) : Cx := ⟨mergeR rs ks c.σ c2.σ, fun r p => match srcOf rs c.σ.length r with | some i => c2.j i p | none => c.j r p, c2.w, fun r => match srcOf rs c.σ.length r with | some i => c2.D i | none => c.D r, c.F⟩
theorem merge_get (rs : List Nat) (ks : List Bool) (σ outs : List Root) (r : Nat) : (mergeR rs ks σ outs).getD r .dead = match srcOf rs σ.length r with
    | some i => renRoot (bkOf rs σ.length) (outs.getD i .dead)
    | none => renRoot (keepF rs ks σ) (σ.getD r .dead) := by
  unfold mergeR srcOf
  by_cases hr : r < σ.length
  · rw [if_pos hr, getD_append_left _ _ _ _ (by simpa using hr), getD_map_get (a := r) _ (by simp [hr])]
    rfl
  · rw [if_neg hr, List.getD_eq_getElem?_getD, List.getElem?_append_right (by simpa using Nat.le_of_not_lt hr)]
    simp only [List.length_map, List.length_range, List.getElem?_map, List.getElem?_drop]
    rw [List.getD_eq_getElem?_getD]
    cases outs[rs.length + (r - σ.length)]? <;> rfl
theorem merge_len (rs : List Nat) (ks : List Bool) (σ outs : List Root) : (mergeR rs ks σ outs).length = σ.length + (outs.length - rs.length) := by simp [mergeR]

structure Mrg (P : Program) (c c2 : Cx) (rs : List Nat) (ks : List Bool) (fz : Bool) : Prop where
  bk : Kf fz (bkOf rs c.σ.length) c2 (c.mrg c2 rs ks)
  kp : Kf false (keepF rs ks c.σ) c (c.mrg c2 rs ks)
  gr : Gr c (c.mrg c2 rs ks)
  kv : KV c (c.mrg c2 rs ks)
  mem : Mem P (c.mrg c2 rs ks)

theorem mrg_ok {c c2 : Cx} {rs : List Nat} {ks : List Bool} {fz : Bool} (hm : Mem P c) (h0 : c.σ.all nest0 = true) (hnd : nodupB rs = true) (hlt : ∀ r, r ∈ rs → r < c.σ.length) (hm2 : Mem P c2) (h02 : c2.σ.all nest0 = true) (g : Gr (c.ent rs fz) c2) (kv : KV (c.ent rs fz) c2)
    (hlen : rs.length ≤ c2.σ.length) (hflat : fz = true → c2.σ.all flatRoot = true)
    (hks : ∀ i, i < rs.length → ks.getD i false = true → ∃ mv e es2, c2.σ.getD i .dead = .live mv false false e es2 ∧ ((c.ent rs fz).σ.getD i .dead).row.length = es2.length) : Mrg P c c2 rs ks fz := by
  have hsb : ∀ {r i}, srcOf rs c.σ.length r = some i ↔ bkOf rs c.σ.length i = some r := src_bk hnd hlt
  have hent : (c.ent rs fz).σ.length = rs.length := by simp [Cx.ent]
  have hsn : ∀ {r}, srcOf rs c.σ.length r = none → r < c.σ.length ∧ ixOf rs r = none := by
    intro r h
    unfold srcOf at h
    by_cases hr : r < c.σ.length
    · rw [if_pos hr] at h; exact ⟨hr, h⟩
    · rw [if_neg hr] at h; cases h
  -- blocks of roots that stay behind
  have stay : ∀ {r p n b}, srcOf rs c.σ.length r = none → c.D r → nodeAt c.σ r p = some n → c.j r p = some b → ¬ c.Pb rs b := by
    rintro r p n b hs hd hn hj ⟨i, r', p', n', h1, h2, h3, h4⟩
    obtain ⟨rfl, _⟩ := hm.inj r p r' p' n n' b hd h2 hn h3 hj h4
    have := ixOf_get hnd h1
    rw [(hsn hs).2] at this; cases this
  have hO : ∀ {b}, (c.mrg c2 rs ks).O b → c2.O b ∨ (c.O b ∧ ¬ c.Pb rs b) := by
    rintro b ⟨r, p, n, hd, hn, hj⟩
    unfold nodeAt at hn
    simp only [Cx.mrg] at hn hd hj
    rw [merge_get] at hn
    obtain ⟨te, es'⟩ := n
    cases hs : srcOf rs c.σ.length r with
    | some i =>
      rw [hs] at hn hd hj
      obtain ⟨es, h1, _⟩ := node_renRoot hn
      exact .inl ⟨i, p, _, hd, h1, hj⟩
    | none =>
      rw [hs] at hn hd hj
      obtain ⟨es, h1, _⟩ := node_renRoot hn
      exact .inr ⟨⟨r, p, _, hd, h1, hj⟩, stay hs hd h1 hj⟩
  have hN2 : fz = false → ∀ {b}, (c.mrg c2 rs ks).N b → c2.N b := by
    intro hfz b h
    rcases h with h | h
    · left; rw [g.F]; exact .inl h
    · rcases hO h with h | h
      · exact .inr h
      · left; rw [g.F]; exact .inr ⟨hfz, h⟩
  have heap : ∀ b, b < c.w.heap.size → ¬ c.Pb rs b → c2.w.heap[b]? = c.w.heap[b]? := fun b hb hn => g.heap b hb fun h => hn (ent_O h)
  have hNN : ∀ b, b < c.w.heap.size → ¬ c.N b → ¬ (c.mrg c2 rs ks).N b := by
    intro b hb hn h
    rcases h with h | h
    · exact hn (.inl h)
    · rcases hO h with h | h
      · rcases g.O b h with h1 | h1
        · exact hn (.inr (Pb_O (ent_O h1)))
        · exact absurd hb (Nat.not_lt.2 h1)
      · exact hn (.inr h.1)
  have kb : Kf fz (bkOf rs c.σ.length) c2 (c.mrg c2 rs ks) := by
    refine ⟨fun y v hy h => ?_, ?_, ?_, ?_⟩
    · cases hfz : fz with
      | true => exact h.flat (hy hfz)
      | false => exact h.gen (Nat.le_refl _) (fun _ _ _ => rfl) fun b _ hn hn' => hn (hN2 hfz hn')
    · intro i r hi hd hf
      have hs := hsb.2 hf
      refine ⟨?_, by simp only [Cx.mrg]; rw [hs]; exact hd⟩
      simp only [Cx.mrg]
      rw [merge_len]
      unfold bkOf at hf
      by_cases h1 : i < rs.length
      · rw [if_pos h1] at hf
        have := hlt r (List.mem_of_getElem? hf)
        omega
      · rw [if_neg h1] at hf
        simp only [Option.some.injEq] at hf
        omega
    · intro i r p te es' _ hd hf hn
      have hs := hsb.2 hf
      unfold nodeAt at hn
      simp only [Cx.mrg] at hn ⊢
      rw [merge_get, hs] at hn
      obtain ⟨es, h1, h2⟩ := node_renRoot hn
      refine ⟨es, h1, ?_, by rw [hs]⟩
      rw [h2]; split
      · rw [renL_length]
      · rfl
    · intro i r p te es b cs el n' _ _ _ _ _ _ hh
      exact ⟨cs, hh, rfl⟩
  -- a passed variable
  have var : ∀ {r i}, srcOf rs c.σ.length r = some i → r < c.σ.length → rs[i]? = some r := by
    intro r i h hr
    unfold srcOf at h
    rw [if_pos hr] at h
    exact ixOf_some h
  have entg : ∀ {r i}, rs[i]? = some r → (c.ent rs fz).σ.getD i .dead = renRoot (ixOf rs) (c.σ.getD r .dead) := fun h => getD_map_get _ h
  have kp_some : ∀ {r r'}, keepF rs ks c.σ r = some r' → r' = r ∧ (srcOf rs c.σ.length r = none ∨ isVar (c.σ.getD r .dead) = true ∨ c.σ.length ≤ r ∨ ∃ i, rs[i]? = some r ∧ ks.getD i false = true) := by
    intro r r' h
    unfold keepF at h
    unfold srcOf
    by_cases hr : r < c.σ.length
    · rw [if_pos hr]
      cases hi : ixOf rs r with
      | none => rw [hi] at h; cases h; exact ⟨rfl, .inl rfl⟩
      | some i =>
        rw [hi] at h
        simp only at h
        split at h
        · rename_i hv
          cases h
          rw [Bool.or_eq_true] at hv
          exact ⟨rfl, hv.elim (fun hv => .inr (.inl hv)) fun hv => .inr (.inr (.inr ⟨i, ixOf_some hi, hv⟩))⟩
        · cases h
    · refine ⟨?_, .inr (.inr (.inl (Nat.le_of_not_lt hr)))⟩
      split at h
      · split at h
        · cases h; rfl
        · cases h
      · cases h; rfl
  have hkd : ∀ r, r < c.σ.length → c.D r → (c.mrg c2 rs ks).D r := by
    intro r hr hd
    simp only [Cx.mrg]
    cases hs : srcOf rs c.σ.length r with
    | none => exact hd
    | some i =>
      have hg := var hs hr
      refine kv.D i (by rw [hent]; exact (List.getElem?_eq_some_iff.1 hg).1) ?_
      simp only [Cx.ent]; rw [getD_get hg]; exact hd
  have knd : ∀ r p te es', r < c.σ.length → (srcOf rs c.σ.length r = none ∨ isVar (c.σ.getD r .dead) = true) → c.D r → nodeAt (c.mrg c2 rs ks).σ r p = some (te, es') → ∃ es, nodeAt c.σ r p = some (te, es) ∧ es.length = es'.length ∧ (c.mrg c2 rs ks).j r p = c.j r p := by
    intro r p te es' hr hcase hd hn
    unfold nodeAt at hn
    simp only [Cx.mrg] at hn ⊢
    rw [merge_get] at hn
    cases hs : srcOf rs c.σ.length r with
    | none =>
      rw [hs] at hn
      obtain ⟨es, h1, h2⟩ := node_renRoot hn
      refine ⟨es, h1, ?_, rfl⟩
      rw [h2]; split
      · rw [renL_length]
      · rfl
    | some i =>
      have hv : isVar (c.σ.getD r .dead) = true := hcase.resolve_left (by rw [hs]; simp)
      rw [hs] at hn
      have hg := var hs hr
      obtain ⟨es2, h1, h2⟩ := node_renRoot hn
      have hl2 : es2.length = es'.length := by
        rw [h2]; split
        · rw [renL_length]
        · rfl
      obtain ⟨es1, h3, h4, h5⟩ := kv.nd i p te es2 (by rw [hent]; exact (List.getElem?_eq_some_iff.1 hg).1) (by rw [entg hg, renRoot_var]; exact hv) (by simp only [Cx.ent]; rw [getD_get hg]; exact hd) h1
      unfold nodeAt at h3
      rw [entg hg] at h3
      obtain ⟨es, h6, h7⟩ := node_renRoot h3
      refine ⟨es, h6, ?_, ?_⟩
      · rw [← hl2, ← h4, h7]; split
        · rw [renL_length]
        · rfl
      · simp only; rw [h5]; simp only [Cx.ent]; rw [getD_get hg]
  have kblk : ∀ r p te es b cs el n', r < c.σ.length → (srcOf rs c.σ.length r = none ∨ isVar (c.σ.getD r .dead) = true) → c.D r → nodeAt c.σ r p = some (te, es) → nodeAt (c.mrg c2 rs ks).σ r p = some n' → c.j r p = some b → c.w.heap[b]? = some (.cells cs el (0, 0)) →
      ∃ cs', (c.mrg c2 rs ks).w.heap[b]? = some (.cells cs' el (0, 0)) ∧ cs'.size = cs.size := by
    intro r p te es b cs el n' hr hcase hd hn hn' hj hh
    cases hs : srcOf rs c.σ.length r with
    | none =>
      refine ⟨cs, ?_, rfl⟩
      simp only [Cx.mrg]
      rw [heap b (Array.getElem?_eq_some_iff.1 hh).1 (stay hs hd hn hj)]
      exact hh
    | some i =>
      have hv : isVar (c.σ.getD r .dead) = true := hcase.resolve_left (by rw [hs]; simp)
      have hg := var hs hr
      unfold nodeAt at hn'
      simp only [Cx.mrg] at hn'
      rw [merge_get, hs] at hn'
      obtain ⟨te', es'⟩ := n'
      obtain ⟨es2, h1, _⟩ := node_renRoot hn'
      have hi : i < (c.ent rs fz).σ.length := by rw [hent]; exact (List.getElem?_eq_some_iff.1 hg).1
      have hvi : isVar ((c.ent rs fz).σ.getD i .dead) = true := by rw [entg hg, renRoot_var]; exact hv
      have hdi : (c.ent rs fz).D i := by simp only [Cx.ent]; rw [getD_get hg]; exact hd
      obtain ⟨es1, h3, _, _⟩ := kv.nd i p te' es2 hi hvi hdi h1
      exact kv.blk i p te' es1 b cs el _ hi hvi hdi h3 h1 (by simp only [Cx.ent]; rw [getD_get hg]; exact hj) hh
  -- a row of which references live on
  have krow : ∀ r i, r < c.σ.length → rs[i]? = some r → ks.getD i false = true → c.D r → ∃ e es es2, (∃ mv nest, c.σ.getD r .dead = .live mv false nest e es) ∧ (∀ p n, nodeAt (c.mrg c2 rs ks).σ r p = some n → p = [] ∧ n = (e, es2)) ∧ es.length = es2.length ∧ (c.mrg c2 rs ks).j r [] = c.j r [] ∧ srcOf rs c.σ.length r = some i ∧
      ∀ b cs el, c.j r [] = some b → c.w.heap[b]? = some (.cells cs el (0, 0)) → ∃ cs', (c.mrg c2 rs ks).w.heap[b]? = some (.cells cs' el (0, 0)) ∧ cs'.size = cs.size := by
    intro r i hr hg hk hd
    have hil := (List.getElem?_eq_some_iff.1 hg).1
    obtain ⟨mv, e, es2, h1, h2⟩ := hks i hil hk
    have hs : srcOf rs c.σ.length r = some i := by
      unfold srcOf; rw [if_pos hr]; exact ixOf_get hnd hg
    have hdi : (c.ent rs fz).D i := by simp only [Cx.ent]; rw [getD_get hg]; exact hd
    obtain ⟨mv0, nest0, es1, h3, _, h5⟩ := kv.rw i mv false e es2 (by rw [hent]; exact hil) hdi h1
    have hl : es1.length = es2.length := by rw [h3] at h2; exact h2
    obtain ⟨h6, h7⟩ := h5 hl
    have hσr : c.σ.getD r .dead = .live mv0 false nest0 e es1 := by
      rw [entg hg] at h3
      cases hro : c.σ.getD r .dead with
      | dead => rw [hro] at h3; cases h3
      | live a b c' d l =>
        rw [hro] at h3
        cases b with
        | true => simp [renRoot] at h3
        | false => simpa [renRoot] using h3
    refine ⟨e, es1, es2, ⟨_, _, hσr⟩, fun p n hn => ?_, hl, ?_, hs, fun b cs el hj hh => ?_⟩
    · unfold nodeAt at hn
      simp only [Cx.mrg] at hn
      rw [merge_get, hs] at hn
      simp only at hn
      rw [h1] at hn
      exact (hm2.flat _ _ _ _ _ h1).node hn
    · simp only [Cx.mrg]; rw [hs]; simp only; rw [h6]; simp only [Cx.ent]; rw [getD_get hg]
    · simp only [Cx.mrg]
      exact h7 b cs el (by simp only [Cx.ent]; rw [getD_get hg]; exact hj) hh
  have nodeAt_live' : ∀ {σ : List Root} {r te : Nat} {es : List AV}, (∃ mv nest, σ.getD r .dead = .live mv false nest te es) → nodeAt σ r [] = some (te, es) := fun h => by
    obtain ⟨mv, nest, h⟩ := h; exact nodeAt_live h
  have kk : Kf false (keepF rs ks c.σ) c (c.mrg c2 rs ks) := by
    refine ⟨fun y v _ h => h.gen g.size (fun b hb hn => heap b hb fun h => hn (.inr (Pb_O h))) fun b hb hn => hNN b hb hn, ?_, ?_, ?_⟩
    · intro r r' hr hd hf
      obtain ⟨rfl, _⟩ := kp_some hf
      exact ⟨by simp only [Cx.mrg]; rw [merge_len]; omega, hkd _ hr hd⟩
    · intro r r' p te es' hr hd hf hn
      obtain ⟨rfl, h⟩ := kp_some hf
      rcases h with h | h | h | ⟨i, hg, hk⟩
      · exact knd _ p te es' hr (.inl h) hd hn
      · exact knd _ p te es' hr (.inr h) hd hn
      · omega
      · obtain ⟨e, es, es2, h1, h2, h3, h4, h5, _⟩ := krow _ i hr hg hk hd
        obtain ⟨rfl, h6⟩ := h2 _ _ hn
        cases h6
        exact ⟨es, nodeAt_live' h1, h3, h4⟩
    · intro r r' p te es b cs el n' hr hd hf hn hn' hj hh
      obtain ⟨rfl, h⟩ := kp_some hf
      rcases h with h | h | h | ⟨i, hg, hk⟩
      · exact kblk _ p te es b cs el n' hr (.inl h) hd hn hn' hj hh
      · exact kblk _ p te es b cs el n' hr (.inr h) hd hn hn' hj hh
      · omega
      · obtain ⟨e, es0, es2, h1, h2, h3, h4, _, h5⟩ := krow _ i hr hg hk hd
        obtain ⟨rfl, _⟩ := h2 _ _ hn'
        exact h5 b cs el hj hh
  have gg : Gr c (c.mrg c2 rs ks) := by
    refine ⟨g.os, g.tape, g.output, g.size, fun b hb hn => heap b hb fun h => hn (Pb_O h), fun b h => ?_, rfl⟩
    rcases hO h with h | h
    · rcases g.O b h with h | h
      · exact .inl (Pb_O (ent_O h))
      · exact .inr h
    · exact .inl h.1
  have kkv : KV c (c.mrg c2 rs ks) := by
    refine ⟨by simp only [Cx.mrg]; rw [merge_len]; omega, hkd, fun r p te es' hr hv hd => knd r p te es' hr (.inr hv) hd, fun r p te es b cs el n' hr hv hd => kblk r p te es b cs el n' hr (.inr hv) hd, ?_, ?_⟩
    rotate_left 1
    · intro r mv nest te es' hr hd h
      cases hs : srcOf rs c.σ.length r with
      | none => exact rw_of (fun te es' => knd r [] te es' hr (.inl hs) hd) (fun te es b cs el n' => kblk r [] te es b cs el n' hr (.inl hs) hd) (fun mv f nest e es h => by
          simp only [Cx.mrg] at h
          rw [merge_get, hs] at h
          simp only at h
          cases hro : c.σ.getD r .dead with
          | dead => rw [hro] at h; cases h
          | live a b c d e' => rw [hro] at h; cases b <;> (simp only [renRoot] at h; cases h; exact ⟨_, _, _, _, rfl⟩)) h
      | some i =>
        have hg := var hs hr
        have hil := (List.getElem?_eq_some_iff.1 hg).1
        simp only [Cx.mrg] at h
        rw [merge_get, hs] at h
        simp only at h
        have h1 : c2.σ.getD i .dead = .live mv false nest te es' := by
          cases hro : c2.σ.getD i .dead with
          | dead => rw [hro] at h; cases h
          | live a b c d e' =>
            rw [hro] at h
            cases b with
            | true => simp [renRoot] at h
            | false => simpa [renRoot] using h
        obtain ⟨mv0, nest0, es1, h3, h4, h5⟩ := kv.rw i mv nest te es' (by rw [hent]; exact hil) (by simp only [Cx.ent]; rw [getD_get hg]; exact hd) h1
        rw [entg hg] at h3
        have hσr : c.σ.getD r .dead = .live mv0 false nest0 te es1 := by
          cases hro : c.σ.getD r .dead with
          | dead => rw [hro] at h3; cases h3
          | live a b c' d l =>
            rw [hro] at h3
            cases b with
            | true => simp [renRoot] at h3
            | false => simpa [renRoot] using h3
        refine ⟨_, _, _, hσr, h4, fun he => ?_⟩
        obtain ⟨h6, h7⟩ := h5 he
        refine ⟨?_, fun b cs el hj hh => ?_⟩
        · simp only [Cx.mrg]; rw [hs]; simp only; rw [h6]; simp only [Cx.ent]; rw [getD_get hg]
        · simp only [Cx.mrg]
          exact h7 b cs el (by simp only [Cx.ent]; rw [getD_get hg]; exact hj) hh
    intro r mv f nest e es hr h
    simp only [Cx.mrg] at h
    rw [merge_get] at h
    have flip : ∀ {h : Nat → Option Nat} {ro : Root} {mv f nest : Bool} {e : Nat} {es : List AV}, renRoot h ro = .live mv f nest e es → ∃ mv' nest' e' es', ro = .live mv' f nest' e' es' := by
      intro h ro mv f nest e es hq
      cases ro with
      | dead => cases hq
      | live a b c d e' => cases b <;> (simp only [renRoot] at hq; cases hq; exact ⟨_, _, _, _, rfl⟩)
    cases hs : srcOf rs c.σ.length r with
    | none => rw [hs] at h; exact flip h
    | some i =>
      rw [hs] at h
      have hg := var hs hr
      obtain ⟨mv1, nest1, e1, es1, h1⟩ := flip h
      obtain ⟨mv2, nest2, e2, es2, h2⟩ := kv.rf i _ _ _ _ _ (by rw [hent]; exact (List.getElem?_eq_some_iff.1 hg).1) h1
      rw [entg hg] at h2
      exact flip h2
  refine ⟨kb, kk, gg, kkv, mem_from (fun r mv rf nest e es hr => ?_) (fun r r' b hd hd' hn hn' hj hj' => ?_) fun b hb => ?_⟩
  · cases hs : srcOf rs c.σ.length r with
    | some i => exact ⟨c2, bkOf rs c.σ.length, i, ⟨fz, kb, fun hz => flatRoot_get (hflat hz) i⟩, hm2, h02, fun hd => by simp only [Cx.mrg] at hd; rw [hs] at hd; exact hd, hsb.1 hs, by simp only [Cx.mrg]; rw [merge_get, hs], fun _ _ _ => rfl⟩
    | none =>
      have hrr := hsn hs
      refine ⟨c, keepF rs ks c.σ, r, ⟨false, kk, fun h => by cases h⟩, hm, h0, fun hd => by simp only [Cx.mrg] at hd; rw [hs] at hd; exact hd, by unfold keepF; rw [hrr.2], by simp only [Cx.mrg]; rw [merge_get, hs], fun hd b hj => ?_⟩
      simp only [Cx.mrg] at hd hr ⊢
      rw [hs] at hd
      rw [merge_get, hs] at hr
      have hl : ∃ n, nodeAt c.σ r [] = some n := by
        cases hro : c.σ.getD r .dead with
        | dead => rw [hro] at hr; cases hr
        | live a b' c' d e' => exact ⟨_, nodeAt_live hro⟩
      obtain ⟨n, hl⟩ := hl
      have hO : c.O b := ⟨r, [], n, hd, hl, hj⟩
      exact heap b (Cx.O_lt P hm hO) (stay hs hd hl hj)
  · have src : ∀ r, (∃ n, nodeAt (c.mrg c2 rs ks).σ r [] = some n) → (c.mrg c2 rs ks).D r → (c.mrg c2 rs ks).j r [] = some b →
        (∃ i n, srcOf rs c.σ.length r = some i ∧ c2.D i ∧ nodeAt c2.σ i [] = some n ∧ c2.j i [] = some b) ∨ (∃ n, srcOf rs c.σ.length r = none ∧ c.D r ∧ nodeAt c.σ r [] = some n ∧ c.j r [] = some b) := by
      rintro r ⟨n, hn⟩ hd hj
      unfold nodeAt at hn
      simp only [Cx.mrg] at hn hd hj
      rw [merge_get] at hn
      obtain ⟨te, es'⟩ := n
      cases hs : srcOf rs c.σ.length r with
      | some i =>
        rw [hs] at hn hd hj
        obtain ⟨es, h1, _⟩ := node_renRoot hn
        exact .inl ⟨i, _, rfl, hd, h1, hj⟩
      | none =>
        rw [hs] at hn hd hj
        obtain ⟨es, h1, _⟩ := node_renRoot hn
        exact .inr ⟨_, rfl, hd, h1, hj⟩
    have apart : ∀ {i r n n'}, c2.D i → nodeAt c2.σ i [] = some n → c2.j i [] = some b → srcOf rs c.σ.length r = none → c.D r → nodeAt c.σ r [] = some n' → c.j r [] = some b → False := by
      intro i r n n' h1 h2 h3 h4 h5 h6 h7
      rcases g.O b ⟨i, [], n, h1, h2, h3⟩ with h | h
      · exact stay h4 h5 h6 h7 (ent_O h)
      · exact absurd (Cx.O_lt P hm ⟨r, [], n', h5, h6, h7⟩) (Nat.not_lt.2 h)
    rcases src r hn hd hj with ⟨i, n, a1, a2, a3, a4⟩ | ⟨n, a1, a2, a3, a4⟩
    · rcases src r' hn' hd' hj' with ⟨i', n', b1, b2, b3, b4⟩ | ⟨n', b1, b2, b3, b4⟩
      · obtain ⟨rfl, _⟩ := hm2.inj i [] i' [] n n' b a2 b2 a3 b3 a4 b4
        have h1 := hsb.1 a1
        rw [hsb.1 b1] at h1
        exact (Option.some.inj h1).symm
      · exact (apart a2 a3 a4 b1 b2 b3 b4).elim
    · rcases src r' hn' hd' hj' with ⟨i', n', b1, b2, b3, b4⟩ | ⟨n', b1, b2, b3, b4⟩
      · exact (apart b2 b3 b4 a1 a2 a3 a4).elim
      · exact (hm.inj r [] r' [] n n' b a2 b2 a3 b3 a4 b4).1
  · have h1 := hm.out b hb
    refine ⟨Nat.lt_of_lt_of_le h1.1 g.size, fun h => ?_⟩
    rcases hO h with h | h
    · exact (hm2.out b (by rw [g.F]; exact .inl hb)).2 h
    · exact h1.2 h.1

theorem reifyR_ok {h : RSh} {ro : Root} (ho : okR h ro = true) : reifyR h ro = ro ∧ nest0 ro = true := by
  unfold okR at ho
  split at ho
  · simp only [Bool.and_eq_true, beq_iff_eq] at ho
    obtain ⟨rfl, rfl⟩ := ho
    exact ⟨rfl, rfl⟩
  · simp only [Bool.and_eq_true, beq_iff_eq] at ho
    obtain ⟨rfl, h2⟩ := ho
    exact ⟨by simp [reifyR, Root.row, reify_ok _ _ h2], rfl⟩
  · exact ⟨rfl, rfl⟩
  · simp only [beq_iff_eq] at ho
    subst ho
    exact ⟨rfl, rfl⟩
  · cases ho
theorem reifyRs_ok : ∀ (hs : List RSh) (l l' : List Root) (n : Nat), okRs hs l = true → (∀ i, l'.getD (n + i) .dead = l.getD i .dead) → reifyRs hs l' n = l ∧ l.all nest0 = true ∧ l.length = hs.length
  | [], [], _, _, _, _ => ⟨rfl, rfl, rfl⟩
  | [], _ :: _, _, _, h, _ => by cases h
  | _ :: _, [], _, _, h, _ => by cases h
  | h :: hs, ro :: l, l', n, ho, hl => by
    simp only [okRs, Bool.and_eq_true] at ho
    obtain ⟨h1, h2⟩ := reifyR_ok ho.1
    obtain ⟨h3, h4, h5⟩ := reifyRs_ok hs l l' (n + 1) ho.2 fun i => by have := hl (i + 1); rw [show n + 1 + i = n + (i + 1) by omega, this]; simp
    simp only [reifyRs]
    rw [show l'.getD n .dead = ro by simpa using hl 0, h1, h3]
    exact ⟨rfl, by simp [h2, h4], by simp [h5]⟩

theorem okLens_get : ∀ {hs : List RSh} {as bs : List Root}, okLens hs as bs = true → ∀ i, (hs.map RSh.kept).getD i false = true → (as.getD i .dead).row.length = (bs.getD i .dead).row.length
  | [], _, _, _, i, h => by simp at h
  | h :: hs, as, bs, hl, i, hk => by
    simp only [okLens, Bool.and_eq_true, Bool.or_eq_true, Bool.not_eq_true', decide_eq_true_eq] at hl
    cases i with
    | zero =>
      simp only [List.map_cons, List.getD_cons_zero] at hk
      rcases hl.1 with h1 | h1
      · rw [hk] at h1; cases h1
      · cases as <;> cases bs <;> exact h1
    | succ i =>
      have := okLens_get hl.2 i (by simpa using hk)
      cases as <;> cases bs <;> first | exact this | rfl
theorem okRs_same : ∀ {hs : List RSh} {l : List Root}, okRs hs l = true → ∀ i, (hs.map RSh.kept).getD i false = true → ∃ e es, l.getD i .dead = .live true false false e es
  | [], _, _, i, h => by simp at h
  | _ :: _, [], h, _, _ => by cases h
  | h :: hs, ro :: l, ho, i, hk => by
    simp only [okRs, Bool.and_eq_true] at ho
    cases i with
    | zero =>
      simp only [List.map_cons, List.getD_cons_zero] at hk ⊢
      have h1 := ho.1
      unfold okR at h1
      split at h1 <;> first | (cases hk; done) | (cases h1; done) | exact ⟨_, _, rfl⟩
    | succ i =>
      have := okRs_same ho.2 i (by simpa using hk)
      simpa using this

theorem frzArgs_get (ms : List Nat) (σ : List Root) (g : Nat → Option Nat) : ∀ (l : List AV) (n t : Nat), (frzArgs E ms σ g n l)[t]? = (l[t]?).map fun a => if ms.contains (n + t) then ren g a else frz E σ 4 a
  | [], n, t => by simp [frzArgs]
  | a :: l, n, 0 => by simp [frzArgs]
  | a :: l, n, t + 1 => by
    simp only [frzArgs, List.getElem?_cons_succ]
    rw [frzArgs_get ms σ g l (n + 1) t, show n + 1 + t = n + (t + 1) by omega]
theorem frzArgs_length (ms : List Nat) (σ : List Root) (g : Nat → Option Nat) : ∀ (l : List AV) (n : Nat), (frzArgs E ms σ g n l).length = l.length
  | [], n => rfl
  | a :: l, n => by simp [frzArgs, frzArgs_length ms σ g l (n + 1)]
theorem anyFz_get (ms : List Nat) : ∀ (l : List AV) (n t : Nat) (a : AV), anyFz ms n l = false → l[t]? = some a → ms.contains (n + t) = false → refsLt 0 a = true
  | [], n, t, a, _, h, _ => by simp at h
  | b :: l, n, 0, a, hz, h, hc => by
    simp only [List.getElem?_cons_zero, Option.some.injEq] at h
    subst h
    simp only [anyFz, Bool.or_eq_false_iff, Bool.and_eq_false_iff] at hz
    rcases hz.1 with h | h
    · rw [Nat.add_zero] at hc; rw [hc] at h; cases h
    · simpa using h
  | b :: l, n, t + 1, a, hz, h, hc => by
    simp only [anyFz, Bool.or_eq_false_iff] at hz
    exact anyFz_get ms l (n + 1) t a hz.2 (by simpa using h) (by rw [show n + 1 + t = n + (t + 1) by omega]; exact hc)

/-- What is left to read when the roots rs are handed on. -/
def Cx.ded (c : Cx) (rs : List Nat) : Cx := ⟨deadAll rs c.σ, c.j, c.w, c.D, fun b => c.F b ∨ c.Pb rs b⟩
theorem dead_get (rs : List Nat) (σ : List Root) (r : Nat) : (deadAll rs σ).getD r .dead = if rs.contains r then .dead else σ.getD r .dead := by
  unfold deadAll
  by_cases hr : r < σ.length
  · rw [getD_map_get (a := r) _ (by simp [hr])]
  · rw [List.getD_eq_getElem?_getD, List.getElem?_eq_none (by simp; omega), List.getD_eq_getElem?_getD, List.getElem?_eq_none (by omega)]
    simp
theorem ded_ok {c : Cx} {rs : List Nat} (hm : Mem P c) (h0 : c.σ.all nest0 = true) : Kf false some c (c.ded rs) ∧ Mem P (c.ded rs) ∧ ∀ b, c.N b → (c.ded rs).N b := by
  have node : ∀ {r p n}, nodeAt (c.ded rs).σ r p = some n → rs.contains r = false ∧ nodeAt c.σ r p = some n := by
    intro r p n h
    unfold nodeAt at h
    simp only [Cx.ded] at h
    rw [dead_get] at h
    split at h
    · cases h
    · rename_i hc
      exact ⟨by simpa using hc, h⟩
  have hO : ∀ {b}, (c.ded rs).O b → c.O b ∧ ¬ c.Pb rs b := by
    rintro b ⟨r, p, n, hd, hn, hj⟩
    obtain ⟨h1, h2⟩ := node hn
    refine ⟨⟨r, p, n, hd, h2, hj⟩, ?_⟩
    rintro ⟨i, r', p', n', g1, g2, g3, g4⟩
    obtain ⟨rfl, _⟩ := hm.inj r p r' p' n n' b hd g2 h2 g3 hj g4
    have := List.mem_of_getElem? g1
    have h3 : rs.contains r = true := by simpa using this
    rw [h1] at h3; cases h3
  have hN : ∀ b, (c.ded rs).N b → c.N b := by
    rintro b ((h | h) | h)
    · exact .inl h
    · exact .inr (Pb_O h)
    · exact .inr (hO h).1
  have hN' : ∀ b, c.N b → (c.ded rs).N b := by
    rintro b (h | ⟨r, p, n, hd, hn, hj⟩)
    · exact .inl (.inl h)
    · cases hc : rs.contains r with
      | true =>
        obtain ⟨i, hi⟩ := List.getElem?_of_mem (show r ∈ rs by simpa using hc)
        exact .inl (.inr ⟨i, r, p, n, hi, hd, hn, hj⟩)
      | false =>
        refine .inr ⟨r, p, n, hd, ?_, hj⟩
        unfold nodeAt at hn ⊢
        simp only [Cx.ded]
        rw [dead_get, hc]
        exact hn
  have k : Kf false some c (c.ded rs) := by
    refine ⟨fun y v _ h => h.gen (Nat.le_refl _) (fun _ _ _ => rfl) fun b _ hn hn' => hn (hN b hn'), fun r i hr hd hf => ?_, fun r i p te es' hr hd hf hn => ?_, fun _ _ _ _ _ _ cs _ _ _ _ _ _ _ _ h => ⟨cs, h, rfl⟩⟩
    · cases hf; exact ⟨by simp [Cx.ded, deadAll]; exact hr, hd⟩
    · cases hf; exact ⟨es', (node hn).2, rfl, rfl⟩
  refine ⟨k, mem_from (fun i mv rf nest e es hi => ?_) (fun i i' b hd hd' hn hn' hj hj' => ?_) fun b hb => ?_, hN'⟩
  · refine ⟨c, some, i, ⟨false, k, fun h => by cases h⟩, hm, h0, id, rfl, ?_, fun _ _ _ => rfl⟩
    simp only [Cx.ded] at hi ⊢
    rw [dead_get] at hi ⊢
    split at hi
    · cases hi
    · rename_i hc
      rw [if_neg hc]
      cases c.σ.getD i .dead with
      | dead => rfl
      | live a b d e0 l => cases b <;> simp [renRoot, renL_some_id]
  · obtain ⟨n, hn⟩ := hn
    obtain ⟨n', hn'⟩ := hn'
    exact (hm.inj i [] i' [] n n' b hd hd' (node hn).2 (node hn').2 hj hj').1
  · rcases hb with hb | hb
    · exact ⟨(hm.out b hb).1, fun h => (hm.out b hb).2 (hO h).1⟩
    · exact ⟨Cx.O_lt P hm (Pb_O hb), fun h => (hO h).2 hb⟩

theorem reach_flat {σ : List Root} : ∀ (n : Nat) (todo acc : List Nat), (∀ r ∈ todo, rootRefs (σ.getD r .dead) = []) → ∀ r ∈ reach σ n todo acc, r ∈ acc ∨ r ∈ todo
  | 0, todo, acc, _, r, h => by simp only [reach] at h; exact .inl h
  | n + 1, [], acc, _, r, h => by simp only [reach] at h; exact .inl h
  | n + 1, x :: todo, acc, ht, r, h => by
    simp only [reach] at h
    split at h
    · rcases reach_flat n todo acc (fun r hr => ht r (by simp [hr])) r h with h1 | h1
      · exact .inl h1
      · exact .inr (by simp [h1])
    · rw [ht x (by simp), List.append_nil] at h
      rcases reach_flat n todo (acc ++ [x]) (fun r hr => ht r (by simp [hr])) r h with h1 | h1
      · rcases List.mem_append.1 h1 with h2 | h2
        · exact .inl h2
        · exact .inr (by simp [List.mem_singleton.1 h2])
      · exact .inr (by simp [h1])
theorem pickArgs_nil {σ : List Root} (ms : List Nat) (l : List AV) (h : ms.isEmpty = true ∨ (refsOfL (pickArgs ms 0 l)).all (fun r => isVar (σ.getD r .dead) && (rootRefs (σ.getD r .dead)).isEmpty) = true) : ∀ r ∈ refsOfL (pickArgs ms 0 l), isVar (σ.getD r .dead) = true ∧ rootRefs (σ.getD r .dead) = [] := by
  rcases h with h | h
  · rw [List.isEmpty_iff] at h
    have hp : ∀ (l : List AV) (n : Nat), pickArgs [] n l = [] := by
      intro l
      induction l with
      | nil => intro n; rfl
      | cons y l ih => intro n; simp [pickArgs, ih]
    rw [h, hp]
    intro r hr
    simp [refsOfL] at hr
  · intro r hr
    have := List.all_eq_true.1 h r hr
    simpa only [Bool.and_eq_true, List.isEmpty_iff] using this
theorem own_var {σ : List Root} {l : List Nat} (h : ∀ r ∈ l, isVar (σ.getD r .dead) = true ∧ rootRefs (σ.getD r .dead) = []) : (∀ r ∈ reach σ 64 l [], isVar (σ.getD r .dead) = true) ∧ ∀ r ∈ reach σ 64 l [], r ∈ l := by
  have := fun r hr => (reach_flat (σ := σ) 64 l [] (fun r hr => (h r hr).2) r hr).resolve_left (by simp)
  exact ⟨fun r hr => (h r (this r hr)).1, this⟩
theorem keepF_some {rs : List Nat} (ks : List Bool) {σ : List Root} (h : ∀ r ∈ rs, isVar (σ.getD r .dead) = true) : keepF rs ks σ = some := by
  funext r
  unfold keepF
  split
  · rename_i i hi
    rw [h r (List.mem_of_getElem? (ixOf_some hi))]
    rfl
  · rfl

theorem own_ok {o : Oper} {cl : Call} {g : Nat} {fi : FI} {a : Act} {c : Cx} {st : St} {C : Cal} {R : Type} {K : AV → St → Option R} {r : R} (hE : EnvOk P E) (hC : CalOk P E C) (ho : o.op = .call cl) (hcl : cl.callee = .value (.func g)) (hσ : c.σ = st.σ) (hm : Mem P c)
    (hv : ∀ x ∈ cl.args.toList, V P c (st.ev x) (a.eval x)) (hfi : E.Φ g = some fi) (hown : fi.own.isEmpty = false)
    (h : evOwn E C g fi (cl.args.toList.map st.ev) st K = some r) : ∃ v st', K v st' = some r ∧ OpRes P E o a c st v st' := by
  unfold evOwn at h
  simp only at h
  generalize hms : fi.muts.map (·.1) = ms at h
  generalize hrs : reach st.σ 64 (refsOfL (pickArgs ms 0 (cl.args.toList.map st.ev))) [] = rs at h
  generalize hfz : anyFz ms 0 (cl.args.toList.map st.ev) = fz at h
  split at h <;> try (cases h; done)
  rename_i hok
  simp only [Bool.and_eq_true, List.all_eq_true, decide_eq_true_eq] at hok
  obtain ⟨⟨hnd, hlt⟩, h0⟩ := hok
  have h0 : c.σ.all nest0 = true := by rw [hσ]; exact List.all_eq_true.2 h0
  split at h <;> try (cases h; done)
  rename_i oi hoi
  obtain ⟨q, hq, h⟩ := Option.bind_eq_some_iff.1 h
  split at h <;> try (cases h; done)
  rename_i hsh
  simp only [Bool.and_eq_true, decide_eq_true_eq, Bool.or_eq_true, Bool.not_eq_true'] at hsh
  obtain ⟨⟨⟨hs1, hs2⟩, hs3⟩, hs4⟩ := hsh
  split at h <;> try (cases h; done)
  rename_i hol
  generalize hksd : oi.rs.map RSh.kept = ks at h
  obtain ⟨hr1, hr2, hr3⟩ := reifyRs_ok oi.rs q.2 q.2 0 hs2 (fun i => by simp)
  rw [reify_ok _ _ hs1, hr1] at h
  refine ⟨_, _, h, fun next Q hn => ?_⟩
  obtain ⟨fn, p1, p2, p3, _, _⟩ := hE.fn g fi hfi
  obtain ⟨ke, me⟩ := ent_ok (fz := fz) hm h0 hnd
  obtain ⟨kd, md, nd⟩ := ded_ok (rs := rs) hm h0
  have hrun : (execOp a.eval o).run P c.w = .ok (.enter g (cl.args.toList.map a.eval).toArray) c.w := by
    have hb : fn.body.isNone = false := by rw [p3]; rfl
    have harr : (cl.args.toList.map a.eval).toArray = cl.args.map a.eval := by
      rw [← Array.toArray_toList (xs := cl.args.map a.eval)]; simp
    rw [harr]
    simp [execOp, ho, resolve, hcl, Act.eval, Deferred.ofValue, invoke, callFunc, p1, p2, p3]
  unfold Oper.wp
  rw [hrun, Oper.upon_enter]
  have hcall := hC.o g _ _ q hq fi hfi (c.ent rs fz) (cl.args.toList.map a.eval) (by simp [Cx.ent, hσ]) me (by rw [frzArgs_length]; simp) fun t y v hy hv' => by
    rw [frzArgs_get, List.getElem?_map] at hy
    rw [List.getElem?_map] at hv'
    obtain ⟨y1, h1, h4⟩ := Option.map_eq_some_iff.1 hy
    obtain ⟨x, h2, h3⟩ := Option.map_eq_some_iff.1 h1
    rw [h2] at hv'
    simp only [Option.map_some, Option.some.injEq] at hv'
    subst hv'
    have hvx := hv x (List.mem_of_getElem? h2)
    rw [h3] at hvx
    cases hcm : ms.contains (0 + t) with
    | true =>
      rw [if_pos hcm] at h4
      rw [← h4]
      exact V.ren ke hvx (fun h => by cases h)
    | false =>
      rw [if_neg (by rw [hcm]; simp)] at h4
      have hvd := V.ren kd hvx (fun h => by cases h)
      rw [ren_some_id] at hvd
      rw [← h4, ← hσ]
      cases hfz2 : fz with
      | true =>
        refine .vi (frz_ok hE md (N' := (c.ent rs true).N) 4 _ _ hvd (.inl fun b hb => ?_))
        rcases hb with (hb | hb) | hb
        · exact .inl hb
        · cases hb.1
        · exact .inr (ent_O hb)
      | false =>
        rw [hfz2] at hfz
        have href := anyFz_get ms _ 0 t y1 hfz (by rw [List.getElem?_map, h2]; simp [h3]) hcm
        have := frz_ok hE md (N' := (c.ded rs).N) 4 _ _ hvd (.inr ⟨rfl, href⟩)
        exact .vi (VI.gen (Nat.le_refl _) (fun _ _ _ => rfl) (fun b _ hn hn' => hn (nd b (ent_N hn'))) this)
  refine Calls.mono hcall ?_
  rintro e w' ⟨z, c2, rfl, rfl, hc2, hm2, hz, hg, hkv⟩
  have hfl : fz = true → flatV q.1 = true ∧ q.2.all flatRoot = true := fun hz => by
    rcases hs4 with h | h
    · rw [hz] at h; cases h
    · exact h
  have M := mrg_ok hm h0 hnd (fun r hr => by rw [hσ]; exact hlt r hr) hm2 (by rw [hc2]; exact hr2) hg hkv (by rw [hc2, hr3]; exact hs3) (fun hz => by rw [hc2]; exact (hfl hz).2) (ks := ks) (fun i hi hk => by
    rw [← hksd] at hk
    obtain ⟨e, es, h1⟩ := okRs_same hs2 i hk
    refine ⟨_, e, es, by rw [hc2]; exact h1, ?_⟩
    have h2 := okLens_get hol i hk
    rw [h1] at h2
    simp only [Cx.ent]
    rw [hσ]; exact h2)
  refine hn (c.mrg c2 rs ks) z ?_ M.mem ?_ (.inr (.inr ⟨keepF rs ks c.σ, ?_, M.kp, M.gr, M.kv⟩)) (fun hqt => ?_) fun hs y1 u hu => ?_
  · simp only [Cx.mrg]; rw [hc2, hσ]
  · rw [← hσ]; exact V.ren M.bk hz (fun h => (hfl h).1)
  · rw [hσ]
  · simp only [ho, quietOp, hcl, hfi, hown] at hqt
    cases hqt
  · have hoM : ownM E o.op = ms := by rw [ho]; simp only [ownM, hcl, hfi, hown, Bool.false_eq_true, if_false, hms]
    have hto : touch E o.op st = refsOfL (pickArgs ms 0 (cl.args.toList.map st.ev)) := by rw [← hoM, ho]; simp only [touch, isApp, hcl, Bool.false_eq_true, if_false]
    simp only [softAt, okAt, Bool.and_eq_true, hoM, Bool.or_eq_true, hto] at hs
    have hvar := own_var (σ := st.σ) (pickArgs_nil _ _ hs.2.2)
    rw [hrs] at hvar
    have := V.ren M.kp hu (fun h => by cases h)
    have hk : keepF rs ks c.σ = some := by rw [hσ]; exact keepF_some ks hvar.1
    rw [hk, ren_some_id] at this
    exact this
end Go.Proofs.YtkicholhkoahhaaIT
