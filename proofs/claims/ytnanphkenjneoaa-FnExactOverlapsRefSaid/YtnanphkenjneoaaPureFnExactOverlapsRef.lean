/- The program's OverlapsRef answers what the reference's answers: the pure statement, of all arguments. -/
import Derived.Test.YtnanphkenjneoaaPFnExactOverlapsRefx1
namespace Go.Proofs.Ytnanphkenjneoaa.Pure
open Go.RowKit Go.Proofs.Ytnanphkenjneoaa.PFnExactOverlapsRef Go.Proofs.YtnanphkenjneoaaW.PrintWords Go.Proofs.YtnanphkenjneoaaW.PrintLast Go.Proofs.YtnanphkenjneoaaW.PrintMore

theorem overlaps_same (a0 a1 a2 a3 a4 : Int) (a5 a6 : ByteArray) (a7 a8 a9 : Int) (b c : ByteArray) : ∃ r, spec_OverlapsRef.f a0 a1 a2 a3 a4 a5 a6 a7 a8 a9 b c = some r ∧ impl_OverlapsRef.f a0 a1 a2 a3 a4 a5 a6 a7 a8 a9 b c = some r := by
  unfold spec_OverlapsRef.f impl_OverlapsRef.f
  split
  · exact ⟨_, rfl, rfl⟩
  · exact ⟨_, rfl, rfl⟩
theorem sz_some (a0 a1 a2 a3 a4 : Int) (a5 a6 : ByteArray) (a7 a8 a9 : Int) (b : Int) : ∃ r, laws_szTableRef.f a0 a1 a2 a3 a4 a5 a6 a7 a8 a9 b = some r := by
  unfold laws_szTableRef.f
  split
  · exact ⟨_, rfl⟩
  · split <;> exact ⟨_, rfl⟩

theorem FnExactOverlapsRef : laws_FnExactOverlapsRef.Pure := by
  intro x0 x1 x2 h0 h1 h2
  unfold laws_FnExactOverlapsRef.f
  split
  · rfl
  · split
    · rfl
    · obtain ⟨z, hz⟩ := sz_some x0.f0 x0.f1 x0.f2 x0.f3 x0.f4 x0.f5 x0.f6 x0.f7 x0.f8 x0.f9 1048576
      rw [hz]
      simp only [Option.bind_some]
      split
      · rfl
      · obtain ⟨r, hs, hi⟩ := overlaps_same x0.f0 x0.f1 x0.f2 x0.f3 x0.f4 x0.f5 x0.f6 x0.f7 x0.f8 x0.f9 x1 x2
        simp only [laws_toTableRef.f, Option.bind_some, hs, hi]
        simp

end Go.Proofs.Ytnanphkenjneoaa.Pure
