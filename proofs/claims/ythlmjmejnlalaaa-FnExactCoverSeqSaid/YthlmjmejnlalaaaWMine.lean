/- What this work adds to the walk: how strings compare, the greater and the smaller of two strings. -/
import Derived.Test.YthlmjmejnlalaaaWWords
import Derived.Tactics
import Derived.Test.YthlmjmejnlalaaaWLast
namespace Go.Proofs.YthlmjmejnlalaaaW.Mine
open Go.RowKit Go.Proofs.YthlmjmejnlalaaaW.PrintWords Go.Proofs.YthlmjmejnlalaaaW.PrintLast

theorem less_total : ∀ x y : List UInt8, (Op.bytesLess x y || x == y) = !(Op.bytesLess y x)
  | [], [] => by simp [Op.bytesLess]
  | [], b :: y => by simp [Op.bytesLess]
  | a :: x, [] => by simp [Op.bytesLess]
  | a :: x, b :: y => by
    have ih := less_total x y
    simp only [Op.bytesLess]
    rcases Decidable.em (a = b) with h | h
    · subst h
      have hn : ¬ a < a := UInt8.lt_irrefl a
      simp only [hn, decide_false, Bool.false_or, beq_self_eq_true, Bool.true_and]
      rw [← ih]
      simp
    · have h1 : (a == b) = false := by simpa using h
      have h2 : (b == a) = false := by simpa using fun e => h e.symm
      have h3 : ((a :: x) == (b :: y)) = false := by simp [h]
      rw [h1, h2, h3]
      simp only [Bool.false_and, Bool.or_false]
      by_cases c : a < b
      · have : ¬ b < a := UInt8.lt_asymm c
        simp [c, this]
      · have : b < a := by
          rcases UInt8.lt_or_lt_of_ne h with h | h
          · exact absurd h c
          · exact h
        simp [c, this]
theorem str_leq (t : TypeId) (a b : ByteArray) : binOp .leq t (.string a) (.string b) = pure (.bool (!(Op.bytesLess b.toList a.toList))) := by
  rw [← less_total]; simp [binOp, Op.stringOp]
theorem str_gtr (t : TypeId) (a b : ByteArray) : binOp .gtr t (.string a) (.string b) = pure (.bool (Op.bytesLess b.toList a.toList)) := by
  have : Op.bytesLess b.toList a.toList = !(Op.bytesLess a.toList b.toList || a.toList == b.toList) := by rw [less_total]; simp
  rw [this]; simp [binOp, Op.stringOp]
theorem str_geq (t : TypeId) (a b : ByteArray) : binOp .geq t (.string a) (.string b) = pure (.bool (!(Op.bytesLess a.toList b.toList))) := by simp [binOp, Op.stringOp]
theorem max2_str (x y : ByteArray) : Builtin.max2 (.string x) (.string y) = pure (.string (if Op.bytesLess x.toList y.toList = true then y else x)) := by
  simp only [Builtin.max2, Op.stringOp, asBool, pure_bind]
  cases Op.bytesLess x.toList y.toList <;> simp
theorem min2_str (x y : ByteArray) : Builtin.min2 (.string x) (.string y) = pure (.string (if Op.bytesLess y.toList x.toList = true then y else x)) := by
  simp only [Builtin.min2, Op.stringOp, asBool, pure_bind, less_total]
  cases Op.bytesLess y.toList x.toList <;> simp
/-- A call of a function value that came in, in a region that draws its order. -/
theorem goesF_ {P : Program} {ops : Array Oper} {Q : Exit → Act → World → Prop} {oi : Oper} {N : Option Tmp} {a : Act} {w : World} {K : Act → World → Prop} {t : Operand} {as : Array Operand} {ts : Array TypeId} (g : Nat) (lb : Array Value) (eg : ∀ args w, (callFunc g args).run P w = .ok (.enter g args) w) (args : Array Value)
    (hw : Region.wanted oi (yielded ops a.tmps) = true) (hN : oi.dst = N) (hop : oi.op = .call { callee := .value t, args := as, argTypes := ts }) (hf : a.eval t = .func (.func g) #[] lb) (hargs : as.map a.eval = args)
    (h : Calls P g (args ++ lb) w fun e w' => ∃ v, e = .returned v ∧ K (a.put N v) w') : if Region.wanted oi (yielded ops a.tmps) = true then Oper.wp P oi a w K Q else K (a.put N undef) w := by
  refine call_ g (args ++ lb) hw hN ?_ h
  have he := eg (args ++ lb) w
  unfold execOp
  simp [hop, resolve, Deferred.ofValue, invoke, hf, hargs, he]
end Go.Proofs.YthlmjmejnlalaaaW.Mine
