/- Loops that fill, mark and look again. No condition beyond what each theorem states. -/
import Derived.Test.YtkicholhkoahhaaIt9
namespace Go.Proofs.YtkicholhkoahhaaIT
open Go

/-- A loop that sets each element. -/
theorem fill_loop {R : Type} {L : Int → List AV → Option R} {xs ys0 : List AV} {F : List AV → Option R} (h0 : ys0.length = xs.length)
    (step : ∀ (i : Nat) (ys : List AV), i < xs.length → ys.length = xs.length → ys.getD i .x = ys0.getD i .x → L i ys = L ((i : Int) + 1) (ys.set i (xs.getD i .x))) (last : L xs.length xs = F xs) : L 0 ys0 = F xs := by
  have key : ∀ (k i : Nat) (ys : List AV), i + k = xs.length → ys.length = xs.length → ys.take i = xs.take i → ys.drop i = ys0.drop i → L i ys = F xs := by
    intro k
    induction k with
    | zero =>
      intro i ys h hl h1 h2
      have : i = xs.length := by omega
      subst this
      rw [List.take_length, ← hl, List.take_length] at h1
      rw [h1, last]
    | succ k ih =>
      intro i ys h hl h1 h2
      have hi : i < xs.length := by omega
      have hg : ys.getD i .x = ys0.getD i .x := by
        have h3 := congrArg (fun l => l.getD 0 AV.x) h2
        simpa [List.getD_eq_getElem?_getD, List.getElem?_drop] using h3
      rw [step i ys hi hl hg, show ((i : Int) + 1) = ((i + 1 : Nat) : Int) by omega]
      refine ih (i + 1) _ (by omega) (by simpa using hl) ?_ ?_
      · rw [take_getD (by simpa using (by omega : i < ys.length)), take_getD hi, List.take_set_of_le (Nat.le_refl i), h1]
        congr 2
        rw [List.getD_eq_getElem?_getD, List.getElem?_set_self (by omega)]; rfl
      · rw [List.drop_set_of_lt (by omega)]
        have := congrArg (List.drop 1) h2
        simpa [List.drop_drop] using this
  exact key xs.length 0 ys0 (by omega) h0 (by simp) (by simp)

/-- What marks leave. -/
def mkL (n : Nat) (g : Nat → AV) : List AV := (List.range n).map g
theorem mkL_length (n : Nat) (g : Nat → AV) : (mkL n g).length = n := by simp [mkL]
theorem mkL_getD {n : Nat} {g : Nat → AV} {i : Nat} (h : i < n) : (mkL n g).getD i .x = g i := by simp [mkL, List.getD_eq_getElem?_getD, h]
theorem mkL_flat {n : Nat} {g : Nat → AV} (h : ∀ i, flatV (g i) = true) : ∀ y, y ∈ mkL n g → flatV y = true := by
  intro y hy
  obtain ⟨i, _, rfl⟩ := List.mem_map.1 hy
  exact h i

/-- Two loops that go on alike, with a state of each. -/
theorem loop_to {R : Type} {L : Int → Option R} {n : Nat} {X : Option R} (step : ∀ i : Nat, i < n → L i = L ((i : Int) + 1)) (last : L n = X) : L 0 = X := by
  have key : ∀ (k i : Nat), i + k = n → L i = X := by
    intro k
    induction k with
    | zero => intro i h; have : i = n := by omega
              subst this; exact last
    | succ k ih => intro i h; rw [step i (by omega), show ((i : Int) + 1) = ((i + 1 : Nat) : Int) by omega]; exact ih (i + 1) (by omega)
  exact key n 0 (by omega)
/-- Two loops that go on alike while something holds. -/
theorem same_loop_inv {R S : Type} {A : Type} {L : A → Int → Option R} {L' : A → Int → Option S} {n : Nat} {I : A → Prop} {F : A → Option R} {F' : A → Option S}
    (step : ∀ (a : A) (i : Nat), i < n → I a → ∃ a', I a' ∧ L a i = L a' ((i : Int) + 1) ∧ L' a i = L' a' ((i : Int) + 1)) (last : ∀ a, L a n = F a ∧ L' a n = F' a) :
    ∀ (k i : Nat) (a : A), i + k = n → I a → ∃ a', I a' ∧ L a i = F a' ∧ L' a i = F' a'
  | 0, i, a, h, ha => by
    have : i = n := by omega
    subst this
    exact ⟨a, ha, last a⟩
  | k + 1, i, a, h, ha => by
    obtain ⟨a', h0, h1, h2⟩ := step a i (by omega) ha
    obtain ⟨b, hb, h3, h4⟩ := same_loop_inv step last k (i + 1) a' (by omega) h0
    rw [show ((i : Int) + 1) = ((i + 1 : Nat) : Int) by omega] at h1 h2
    exact ⟨b, hb, h1.trans h3, h2.trans h4⟩

/-! Answers with memory. -/
theorem bOwn_some {R : Type} (sh : Sh) (rs : List RSh) (k : Nat) (v : AV) (outs : List Root) (K : AV × List Root → Option R) : bOwn sh rs k (some (v, outs)) K = if okSh sh v && okRs rs outs && decide (k ≤ rs.length) then K (v, outs) else none := by
  simp [bOwn]
theorem bOwnF_some {R : Type} (sh : Sh) (rs : List RSh) (k : Nat) (v : AV) (outs : List Root) (K : AV × List Root → Option R) : bOwnF sh rs k (some (v, outs)) K = if okSh sh v && okRs rs outs && decide (k ≤ rs.length) && (flatV v && outs.all flatRoot) then K (v, outs) else none := by
  simp [bOwnF]
theorem bOwnS_some {R : Type} (sh : Sh) (rs : List RSh) (k : Nat) (ins : List Root) (v : AV) (outs : List Root) (K : AV × List Root → Option R) : bOwnS sh rs k ins (some (v, outs)) K = if okSh sh v && okRs rs outs && decide (k ≤ rs.length) then (if okLens rs ins outs then K (v, outs) else none) else none := bOwn_some ..
theorem bOwnFS_some {R : Type} (sh : Sh) (rs : List RSh) (k : Nat) (ins : List Root) (v : AV) (outs : List Root) (K : AV × List Root → Option R) : bOwnFS sh rs k ins (some (v, outs)) K = if okSh sh v && okRs rs outs && decide (k ≤ rs.length) && (flatV v && outs.all flatRoot) then (if okLens rs ins outs then K (v, outs) else none) else none := bOwnF_some ..
theorem okRs_nil : okRs [] [] = true := rfl
theorem okRs_cons (h : RSh) (hs : List RSh) (r : Root) (rs : List Root) : okRs (h :: hs) (r :: rs) = (okR h r && okRs hs rs) := rfl
theorem okR_row (mv : Bool) (e : Nat) (es : List AV) : okR (.row mv e) (.live mv false false e es) = true := by simp [okR]
theorem okR_same (e : Nat) (es : List AV) : okR (.same e) (.live true false false e es) = true := by simp [okR]
theorem okR_var (e : Nat) (sh : Sh) (c : AV) : okR (.var e sh) (.live false true false e [c]) = okSh sh c := by simp [okR]
theorem okR_gone : okR .gone .dead = true := rfl
theorem okS_so (n : Nat) : okSh (.so n) (.sl n [] none) = true := by simp [okSh]
theorem okS_po (n : Nat) : okSh (.po n) (.pt n [] 0 0) = true := by simp [okSh]
theorem okS_pr (n a b : Nat) : okSh (.pr n) (.sl n [] (some (a, b))) = true := by simp [okSh]
theorem okLens_nil (as bs : List Root) : okLens [] as bs = true := rfl
theorem okLens_same (e : Nat) (hs : List RSh) (a b : Root) (as bs : List Root) : okLens (.same e :: hs) (a :: as) (b :: bs) = (decide (a.row.length = b.row.length) && okLens hs as bs) := rfl
theorem okLens_row (mv : Bool) (e : Nat) (hs : List RSh) (a b : Root) (as bs : List Root) : okLens (.row mv e :: hs) (a :: as) (b :: bs) = okLens hs as bs := rfl
theorem okLens_var (e : Nat) (sh : Sh) (hs : List RSh) (a b : Root) (as bs : List Root) : okLens (.var e sh :: hs) (a :: as) (b :: bs) = okLens hs as bs := rfl
theorem row_live (mv rf n : Bool) (e : Nat) (es : List AV) : (Root.live mv rf n e es).row = es := rfl
theorem flatR_live (mv rf n : Bool) (e : Nat) (es : List AV) : flatRoot (.live mv rf n e es) = flatVL es := rfl
theorem flatL_nil : flatVL [] = true := rfl
theorem flatL_cons (a : AV) (as : List AV) : flatVL (a :: as) = (flatV a && flatVL as) := rfl
theorem flat_i (k : IntKind) (n : Int) : flatV (.i k n) = true := rfl
theorem flat_b (b : Bool) : flatV (.b b) = true := rfl
theorem flat_s (b : ByteArray) : flatV (.s b) = true := rfl
theorem flat_sl (r : Nat) (p : List (Nat × Nat)) (w : Option (Nat × Nat)) : flatV (.sl r p w) = true := rfl
theorem flat_agg (l : List AV) : flatV (.agg l) = flatVL l := rfl
theorem flat_tup (l : List AV) : flatV (.tup l) = flatVL l := rfl
theorem mk_flat {n : Nat} {g : Nat → AV} (h : ∀ i, flatV (g i) = true) : flatVL (mkL n g) = true := flatVL_of (mkL_flat h)
end Go.Proofs.YtkicholhkoahhaaIT
