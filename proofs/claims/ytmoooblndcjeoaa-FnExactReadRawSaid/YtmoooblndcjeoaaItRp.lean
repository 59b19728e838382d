/- strings.Repeat, told by its contract. No condition beyond what each theorem states. -/
import Derived.Test.YtmoooblndcjeoaaIt3
import Derived.Lib.Repeat
import Derived.Below
namespace Go.Proofs.YtmoooblndcjeoaaIT
open Go
variable {P : Program}

/-- A string, so many times. -/
def repS (a : ByteArray) (n : Nat) : ByteArray := ⟨(Lib.repeatL a.data.toList n).toArray⟩
def prRepeat : List AV → Option AV
  | [.s a, .i .i64 n] => if 0 ≤ n then (if n ≤ 9223372036854775807 then (if a.size * n.toNat ≤ 140737488355328 then some (.s (repS a n.toNat)) else none) else none) else none
  | _ => none
theorem prRepeat_ok {g : Nat} (h : ∀ (s : ByteArray) (c : Nat) (w : World), c ≤ 9223372036854775807 → s.size * c ≤ 140737488355328 →
    Calls P g #[.string s, .int .i64 c] w fun e w' => e = .returned (.string ⟨(Lib.repeatL s.data.toList c).toArray⟩) ∧ RowKit.Below w.heap.size w w') : PrOk P g prRepeat := by
  intro args r hr N w vs hN hl hv
  unfold prRepeat at hr
  split at hr <;> try (cases hr; done)
  rename_i a n
  split at hr <;> try (cases hr; done)
  rename_i h0
  split at hr <;> try (cases hr; done)
  rename_i h1
  split at hr <;> try (cases hr; done)
  rename_i h2
  cases hr
  match vs, hl with
  | [v0, v1], _ =>
    have e0 := hv 0 _ v0 rfl rfl
    have e1 := hv 1 _ v1 rfl rfl
    cases e0; cases e1
    have := h a n.toNat w (by omega) h2
    rw [Int.toNat_of_nonneg h0] at this
    refine this.mono ?_
    rintro e w' ⟨rfl, hb⟩
    exact ⟨_, rfl, ⟨hb.os, hb.tape, hb.output, hb.size, hb.block⟩, .s _⟩

/-! As lists of bytes. -/
theorem bytes_list : ∀ (l : List Int) (r : ByteArray), (l.foldl (fun r n => r.push (UInt8.ofNat n.toNat)) r).data.toList = r.data.toList ++ l.map fun n => UInt8.ofNat n.toNat
  | [], r => by simp
  | n :: l, r => by
    rw [List.foldl_cons, bytes_list l]
    simp [ByteArray.push]
theorem bytesOf_list (es : List AV) : (bytesOf es).data.toList = es.map fun y => UInt8.ofNat y.toI.toNat := by
  unfold bytesOf
  rw [bytes_list]
  simp [ByteArray.empty, ByteArray.emptyWithCapacity, Function.comp_def]
  rfl
theorem bytes_ext {a b : ByteArray} (h : a.data.toList = b.data.toList) : a = b := by
  cases a with
  | mk x0 =>
    cases b with
    | mk y0 => exact congrArg _ (Array.toList_inj.1 h)
theorem repS_list (a : ByteArray) (n : Nat) : (repS a n).data.toList = (List.replicate n a.data.toList).flatten := by
  unfold repS
  simp only
  induction n with
  | zero => simp [Lib.repeatL]
  | succ n ih => simp [Lib.repeatL, List.replicate_succ]; simpa using ih
end Go.Proofs.YtmoooblndcjeoaaIT
