/- Functions that are told by hand. No condition beyond what each theorem states. -/
import Derived.Test.YtkicholhkoahhaaIt2
import Derived.Lib.Bytealg
namespace Go.Proofs.YtkicholhkoahhaaIT
open Go
variable {P : Program}

/-- strings.Compare's ground: -1, 0 or 1. -/
def cmpB (a b : ByteArray) : Int := Lib.compareBytes a.data.toList b.data.toList
def prCmp : List AV → Option AV
  | [.s a, .s b] => some (.i .i64 (cmpB a b))
  | _ => none
theorem prCmp_ok {g : Nat} (h : ∀ (a b : ByteArray) (w : World), Calls P g #[.string a, .string b] w fun e w' => e = .returned (.int .i64 (Lib.compareBytes a.data.toList b.data.toList)) ∧ w' = w) : PrOk P g prCmp := by
  intro args r hr N w vs hN hl hv
  unfold prCmp at hr
  split at hr <;> try (cases hr; done)
  rename_i a b
  cases hr
  match vs, hl with
  | [v0, v1], _ =>
    have h0 := hv 0 _ v0 rfl rfl
    have h1 := hv 1 _ v1 rfl rfl
    cases h0; cases h1
    refine (h a b w).mono ?_
    rintro e w' ⟨rfl, rfl⟩
    exact ⟨_, rfl, Same.refl _, .i _ _⟩
end Go.Proofs.YtkicholhkoahhaaIT
