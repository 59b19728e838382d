/- From the row's own reading of an argument to the print's reading of it: for whole numbers, bools, strings, structs and slices of them, however nested. -/
import Derived.Test.YthlmjmejnlalaaaWWords
import Derived.ChangeArms
import Derived.DataReads
import Derived.WideShapes
import Derived.Deep.Slices
namespace Go.Proofs.YthlmjmejnlalaaaW.Open
open Go.RowKit Go.WideShapes Go.ChangeShapes Go.Deep Go.Proofs.YthlmjmejnlalaaaW.PrintWords
set_option linter.unusedVariables false

/-- Whatever the form reads as data of type t is a value of the kind d, and fits. -/
def Opens {α : Type} (P : Program) (t : TypeId) (d : Kd α) (F : α → Prop) : Prop :=
  P.cellsOf t = d.sz ∧ ∀ (H : Type) (enc : TypeId × Value → H) (w : World) (base : Nat) (sp : Nat → Bool) (held : Bool) (fuel : Nat) (cs : List Value) (x : DataW H × List MemPlace),
    DataW.trod enc P w base sp held fuel t cs = some x → ∃ a, d.K w a cs ∧ F a

variable {P : Program}

theorem opens_int {t : TypeId} {k : IntKind} (hu : P.underlying t = some (.int k)) (hc : P.cellsOf t = 1) : Opens P t (Kd.int k) (fun a => (Lit.int k a).wf = true) :=
  ⟨hc, fun H enc w base sp held fuel cs x h => by
    obtain ⟨n, rfl, _, hw⟩ := DataW.trod_int hu h
    exact ⟨n, rfl, hw⟩⟩
theorem opens_bool {t : TypeId} (hu : P.underlying t = some .bool) (hc : P.cellsOf t = 1) : Opens P t Kd.bool (fun _ => True) :=
  ⟨hc, fun H enc w base sp held fuel cs x h => by
    obtain ⟨b, rfl, _⟩ := DataW.trod_bool hu h
    exact ⟨b, rfl, trivial⟩⟩
theorem opens_string {t : TypeId} (hu : P.underlying t = some .string) (hc : P.cellsOf t = 1) : Opens P t Kd.string (fun s => s.size ≤ 9223372036854775807) :=
  ⟨hc, fun H enc w base sp held fuel cs x h => by
    obtain ⟨s, rfl, _, hs⟩ := DataW.trod_string hu h
    exact ⟨s, rfl, hs⟩⟩

theorem opens_slice {α : Type} {t e : TypeId} {d : Kd α} {F : α → Prop} (hu : P.underlying t = some (.slice e)) (hc : P.cellsOf t = 1) (O : Opens P e d F) :
    Opens P t (Kd.slice e d) (fun l => l.length ≤ 9223372036854775807 ∧ ∀ x, x ∈ l → F x) :=
  ⟨hc, fun H enc w base sp held fuel cs x h => by
    rcases open_slice hu h with ⟨rfl, _⟩ | ⟨a, len, cap, m, n, D, Pl, rfl, hb, hl, hm, hmm, _, hx⟩
    · exact ⟨[], ⟨none, 0, rfl, Nat.le_refl _, rfl, by simp, fun h0 => absurd h0 (Nat.lt_irrefl _)⟩, by simp, fun x hx => by simp at hx⟩
    · have hle : len ≤ m := by rw [hmm]; split <;> omega
      have hmax : cap ≤ 9223372036854775807 := hm
      have each : ∀ i : Fin len, ∃ y : α, ∃ cs', w.cells? base (a.add (i.1 * P.cellsOf e)) (P.cellsOf e) = some cs' ∧ d.K w y cs' ∧ F y := fun i => by
        obtain ⟨cs', h1, h2⟩ := hx i.1 (Nat.lt_of_lt_of_le i.2 hle)
        obtain ⟨y, hK, hF⟩ := O.2 H enc w base sp held n cs' _ h2
        exact ⟨y, cs', h1, hK, hF⟩
      obtain ⟨f, hf⟩ := Classical.axiomOfChoice each
      have hlen : (List.ofFn f).length = len := List.length_ofFn
      refine ⟨List.ofFn f, ⟨some a, cap, by rw [hlen], by rw [hlen]; exact hl, rfl, by rw [hlen]; omega, fun _ => ⟨a, rfl, fun j p hj => ?_⟩⟩, by rw [hlen]; omega, fun x hx => ?_⟩
      · have hjl : j < len := by
          have := (List.getElem?_eq_some_iff.1 hj).1
          rwa [hlen] at this
        have hp : f ⟨j, hjl⟩ = p := by
          obtain ⟨h1, h2⟩ := List.getElem?_eq_some_iff.1 hj
          rw [← h2, List.getElem_ofFn]
        obtain ⟨cs', h1, hK, _⟩ := hf ⟨j, hjl⟩
        obtain ⟨_, hl', hc'⟩ := World.cells?_some h1
        rw [hp] at hK
        refine ⟨cs', by rw [hl', O.1], hK, fun i u hu => ?_⟩
        have hi : i < P.cellsOf e := by
          have := (List.getElem?_eq_some_iff.1 hu).1
          omega
        rw [← O.1, ← Deep.add_add, hc' i hi, hu]
      · rw [List.mem_ofFn] at hx
        obtain ⟨i, rfl⟩ := hx
        obtain ⟨_, _, _, hF⟩ := hf i
        exact hF⟩

/-- Fields one behind the other, from a cell on. -/
def OpensFs {β : Type} (P : Program) (fs : List Field) (off : Nat) (d : Kd β) (F : β → Prop) : Prop :=
  ∀ (H : Type) (enc : TypeId × Value → H) (w : World) (base : Nat) (sp : Nat → Bool) (held : Bool) (n : Nat) (cs : List Value),
    (∀ f, f ∈ fs → ∃ y : DataW H × List MemPlace, DataW.trod enc P w base sp held n f.type ((cs.drop f.offset).take (P.cellsOf f.type)) = some y) → cs.length = off + d.sz → ∃ b, d.K w b (cs.drop off) ∧ F b

theorem opensFs_one {β : Type} {f : Field} {off : Nat} {d : Kd β} {F : β → Prop} (ho : f.offset = off) (O : Opens P f.type d F) : OpensFs P [f] off d F :=
  fun H enc w base sp held n cs h hl => by
    obtain ⟨y, hy⟩ := h f (by simp)
    obtain ⟨b, hK, hF⟩ := O.2 H enc w base sp held n _ _ hy
    refine ⟨b, ?_, hF⟩
    rwa [ho, O.1, List.take_of_length_le (by rw [List.length_drop]; omega)] at hK

theorem opensFs_cons {β γ : Type} {f : Field} {fs : List Field} {off : Nat} {d : Kd β} {d' : Kd γ} {F : β → Prop} {G : γ → Prop} (ho : f.offset = off) (O : Opens P f.type d F) (R : OpensFs P fs (off + d.sz) d' G) :
    OpensFs P (f :: fs) off (Kd.pair d d') (fun p => F p.1 ∧ G p.2) :=
  fun H enc w base sp held n cs h hl => by
    obtain ⟨y, hy⟩ := h f (by simp)
    obtain ⟨b, hK, hF⟩ := O.2 H enc w base sp held n _ _ hy
    rw [ho, O.1] at hK
    have hl' : cs.length = off + (d.sz + d'.sz) := hl
    obtain ⟨c, hK', hG⟩ := R H enc w base sp held n cs (fun g hg => h g (List.mem_cons_of_mem _ hg)) (by omega)
    refine ⟨(b, c), ⟨_, _, ?_, hK, hK'⟩, hF, hG⟩
    rw [← List.drop_drop, List.take_append_drop]

theorem opens_struct {α β : Type} {t : TypeId} {fs : Array Field} {d : Kd β} {F : β → Prop} (hu : P.underlying t = some (.struct fs)) (hc : P.cellsOf t = d.sz) (R : OpensFs P fs.toList 0 d F) (f : α → β) (g : β → α) (hg : ∀ b, f (g b) = b) :
    Opens P t (Kd.iso d f) (fun x => F (f x)) :=
  ⟨hc, fun H enc w base sp held fuel cs x h => by
    obtain ⟨xs, n, _, _, hlen, hxl, hx⟩ := DataW.trod_struct hu h
    obtain ⟨b, hK, hF⟩ := R H enc w base sp held n cs (fun fl hfl => by
      obtain ⟨i, hi⟩ := List.getElem?_of_mem hfl
      have hi' : fs[i]? = some fl := by rw [← Array.getElem?_toList]; exact hi
      have h1 := hx i fl hi'
      have hlt : i < xs.length := by
        have := (Array.getElem?_eq_some_iff.1 hi').1
        omega
      exact ⟨xs[i], by rw [h1, List.getElem?_eq_getElem hlt]⟩) (by omega)
    exact ⟨g b, by show d.K w (f (g b)) cs; rw [hg]; exact hK, by show F (f (g b)); rw [hg]; exact hF⟩⟩

theorem Opens.imp {α : Type} {t : TypeId} {d : Kd α} {F G : α → Prop} (O : Opens P t d F) (h : ∀ a, F a → G a) : Opens P t d G :=
  ⟨O.1, fun H enc w base sp held fuel cs x hx => by
    obtain ⟨a, hK, hF⟩ := O.2 H enc w base sp held fuel cs x hx
    exact ⟨a, hK, h a hF⟩⟩

/-- An argument. -/
theorem Opens.arg {α : Type} {t : TypeId} {d : Kd α} {F : α → Prop} (O : Opens P t d F) {H : Type} {enc : TypeId × Value → H} {w : World} {base : Nat} {sp : Nat → Bool} {held : Bool} {v : Value} {dd : DataW H} {ps : List MemPlace}
    (h : DataW.Trod enc P w base sp held t v dd ps) : ∃ a, d.K w a v.cells.toList ∧ F a := by
  obtain ⟨fuel, hf⟩ := h
  exact O.2 H enc w base sp held fuel _ _ hf
theorem Opens.slice_arg {α : Type} {t e : TypeId} {d : Kd α} {F : List α → Prop} (hu : P.underlying t = some (.slice e)) (O : Opens P t (Kd.slice e d) F) {H : Type} {enc : TypeId × Value → H} {w : World} {r : Reach} {b0 base : Nat} {sp : Nat → Bool} {held : Bool} {v : Value} {dd : DataW H} {ps : List MemPlace}
    (hv : Value.okWide P w r b0 t v) (h : DataW.Trod enc P w base sp held t v dd ps) : ∃ A c l, v = .slice A l.length c ∧ l.length ≤ c ∧ Kd.C d w A l.length l ∧ F l := by
  obtain ⟨a, len, cap, rfl⟩ := okWide_slice hu hv
  obtain ⟨l, ⟨A, c, he, hl, hC⟩, hF⟩ := O.arg h
  simp only [Value.cells, List.cons.injEq, and_true, Value.slice.injEq] at he
  obtain ⟨rfl, rfl, rfl⟩ := he
  exact ⟨a, cap, l, rfl, hl, hC, hF⟩
theorem Opens.struct_arg {α : Type} {t : TypeId} {fs : Array Field} {d : Kd α} {F : α → Prop} (hu : P.underlying t = some (.struct fs)) (O : Opens P t d F) {H : Type} {enc : TypeId × Value → H} {w : World} {r : Reach} {b0 base : Nat} {sp : Nat → Bool} {held : Bool} {v : Value} {dd : DataW H} {ps : List MemPlace}
    (hv : Value.okWide P w r b0 t v) (h : DataW.Trod enc P w base sp held t v dd ps) : ∃ x cs, v = .agg cs.toArray ∧ d.K w x cs ∧ F x := by
  obtain ⟨cs, rfl, _⟩ := okWide_struct hu hv
  obtain ⟨x, hK, hF⟩ := O.arg h
  exact ⟨x, cs.toList, by simp, hK, hF⟩
end Go.Proofs.YthlmjmejnlalaaaW.Open
