/- An evaluator of the program's regions on trees: values without addresses, slices that are read as lists, memory that the call itself made as roots. What it answers, the machine answers (the texts behind this one). -/
import Derived.Calls
import Derived.Orders
import Derived.Tactics
namespace Go.Proofs.YtkicholhkoahhaaIT
open Go

/-- A value as a tree. imm: a slice that is only read; nw: a slice of the call's own, inside a root; sl, pt: a slice of, a pointer into a root; ip: a pointer to what is only read; u: undefined; x: unknown. -/
inductive AV where
  | i (k : IntKind) (n : Int)
  | b (b : Bool)
  | s (s : ByteArray)
  | agg (cs : List AV)
  | tup (vs : List AV)
  | imm (z : Nat) (es : List AV)
  | nw (e : Nat) (es : List AV)
  | nils
  | sl (r : Nat) (p : List (Nat × Nat)) (w : Option (Nat × Nat))
  | pt (r : Nat) (p : List (Nat × Nat)) (m k : Nat)
  | ip (el : AV) (k : Nat)
  | fn (f : Nat) (caps : List AV)
  | nilp
  | u
  | x

instance : Inhabited AV := ⟨.x⟩

inductive Root where
  | live (mv rf nest : Bool) (e : Nat) (es : List AV)
  | dead
instance : Inhabited Root := ⟨.dead⟩

structure St where
  t : List AV
  σ : List Root

inductive Ex where
  | normal
  | exit (id : Nat)
  | ret

/-- The shape of a type's values. -/
inductive Sh where
  | i (k : IntKind)
  | b
  | s
  | sl (e z : Nat)
  | so (e : Nat)
  | pr (j : Nat)
  | po (j : Nat)
  | agg (l : List Sh)
  | tup (l : List Sh)
  | fn
  | pt
  | no
instance : Inhabited Sh := ⟨.no⟩

structure TI where
  sh : Sh
  size : Nat
  bytes : Nat
  elem : Nat
  flds : List (Nat × Nat)
instance : Inhabited TI := ⟨⟨.no, 0, 0, 0, []⟩⟩

/-- What a root is, where a call hands memory of the caller's on or back: a row, a variable. -/
inductive RSh where
  | row (mv : Bool) (e : Nat)
  | var (e : Nat) (sh : Sh)
  | gone
  | same (e : Nat)
/-- A row of which what refers to it lives on. -/
def RSh.kept : RSh → Bool
  | .same _ => true
  | _ => false
/-- A call that is handed memory: the forms of its arguments, the shapes of what comes back, what is kept at cuts. -/
structure OI where
  key : List Nat
  sh : Sh
  rs : List RSh
  kp : List (Nat × List Nat × Nat)

structure FI where
  code : Code
  ntmps : Nat
  results : List ResultVar
  rty : Sh
  muts : List (Nat × Sh)
  clean : Bool
  nest : List Nat
  kp : List (Nat × List Nat × Nat)
  own : List OI

def Sh.isAgg : Sh → Bool
  | .agg _ => true
  | _ => false

/-! Cells of an element. -/
def AV.cells : AV → List AV
  | .agg cs => cs
  | a => [a]

/-- n cells from k on, as a value of a struct type or not. -/
def sub (agg : Bool) (cs : List AV) (k n : Nat) : AV := if agg then .agg ((cs.drop k).take n) else cs.getD k .x

def setCells (cs : List AV) (k : Nat) : List AV → List AV
  | [] => cs
  | v :: vs => setCells (cs.set k v) (k + 1) vs
def AV.putCells (a : AV) (k : Nat) (vs : List AV) : AV :=
  match a with
  | .agg cs => .agg (setCells cs k vs)
  | _ => vs.headD a

def nodeOf (e : Nat) (es : List AV) : List (Nat × Nat) → Option (Nat × List AV)
  | [] => some (e, es)
  | (m, k) :: p =>
    match es[m]? with
    | some el => match el.cells[k]? with
      | some (.nw e' es') => nodeOf e' es' p
      | _ => none
    | none => none

def updNode (es : List AV) (f : List AV → List AV) : List (Nat × Nat) → List AV
  | [] => f es
  | (m, k) :: p =>
    match es[m]? with
    | some el => match el.cells[k]? with
      | some (.nw e' es') => es.set m (el.putCells k [.nw e' (updNode es' f p)])
      | _ => es
    | none => es

def Root.node : Root → List (Nat × Nat) → Option (Nat × List AV)
  | .live _ _ _ e es, p => nodeOf e es p
  | .dead, _ => none

def nodeAt (σ : List Root) (r : Nat) (p : List (Nat × Nat)) : Option (Nat × List AV) := (σ.getD r .dead).node p

def updAt (σ : List Root) (r : Nat) (p : List (Nat × Nat)) (f : List AV → List AV) : List Root :=
  match σ.getD r .dead with
  | .live mv rf nest e es => σ.set r (.live mv rf nest e (updNode es f p))
  | .dead => σ

/-! Shapes. -/
mutual
def okSh : Sh → AV → Bool
  | .i k, .i k' _ => decide (k = k')
  | .b, .b _ => true
  | .s, .s _ => true
  | .sl _ z, .imm z' _ => z == z'
  | .so j, .sl j' [] none => j == j'
  | .pr j, .sl j' [] (some _) => j == j'
  | .po j, .pt j' [] 0 0 => j == j'
  | .agg l, .agg cs => okShL l cs
  | .tup l, .tup vs => okShL l vs
  | _, _ => false
def okShL : List Sh → List AV → Bool
  | [], [] => true
  | h :: hs, a :: as => okSh h a && okShL hs as
  | _, _ => false
end

def AV.toI : AV → Int
  | .i _ n => n
  | _ => 0
def AV.toB : AV → Bool
  | .b y => y
  | _ => false
def AV.toS : AV → ByteArray
  | .s y => y
  | _ => .empty
def AV.toL : AV → List AV
  | .imm _ es => es
  | .nw _ es => es
  | _ => []
def AV.off : AV → Nat
  | .sl _ _ (some w) => w.1
  | _ => 0
def AV.cnt : AV → Nat
  | .sl _ _ (some w) => w.2
  | _ => 0
def AV.nth : AV → Nat → AV
  | .agg cs, n => cs.getD n .x
  | .tup vs, n => vs.getD n .x
  | _, _ => .x

mutual
def reify : Sh → AV → AV
  | .i k, a => .i k a.toI
  | .b, a => .b a.toB
  | .s, a => .s a.toS
  | .sl _ z, a => .imm z a.toL
  | .so j, _ => .sl j [] none
  | .pr j, a => .sl j [] (some (a.off, a.cnt))
  | .po j, _ => .pt j [] 0 0
  | .agg l, a => .agg (reifyL l a 0)
  | .tup l, a => .tup (reifyL l a 0)
  | .fn, a => a
  | .pt, a => a
  | .no, a => a
def reifyL : List Sh → AV → Nat → List AV
  | [], _, _ => []
  | h :: hs, a, n => reify h (a.nth n) :: reifyL hs a (n + 1)
end

/-- An answer of a known shape is taken to its parts. -/
def bSh {R : Type} (sh : Sh) (o : Option AV) (K : AV → Option R) : Option R := o.bind fun a => if okSh sh a then K a else none

/-! Roots that come back. -/
def Root.row : Root → List AV
  | .live _ _ _ _ es => es
  | .dead => []
def okR : RSh → Root → Bool
  | .row mv e, .live mv' false false e' _ => mv == mv' && e == e'
  | .var e sh, .live false true false e' [c] => e == e' && okSh sh c
  | .gone, .dead => true
  | .same e, .live true false false e' _ => e == e'
  | _, _ => false
def okRs : List RSh → List Root → Bool
  | [], [] => true
  | h :: hs, r :: rs => okR h r && okRs hs rs
  | _, _ => false
def reifyR : RSh → Root → Root
  | .row mv e, r => .live mv false false e r.row
  | .var e sh, r => .live false true false e [reify sh (r.row.headD .x)]
  | .gone, _ => .dead
  | .same e, r => .live true false false e r.row
/-- Rows of which what refers to them lives on are as long as they were. -/
def okLens : List RSh → List Root → List Root → Bool
  | [], _, _ => true
  | h :: hs, as, bs => (!h.kept || decide ((as.headD .dead).row.length = (bs.headD .dead).row.length)) && okLens hs as.tail bs.tail
def reifyRs : List RSh → List Root → Nat → List Root
  | [], _, _ => []
  | h :: hs, rs, n => reifyR h (rs.getD n .dead) :: reifyRs hs rs (n + 1)

/-! Zero values. -/
mutual
def zero (mem : Bool) : Sh → AV
  | .i k => .i k 0
  | .b => .b false
  | .s => .s .empty
  | .sl _ z => if mem then .imm z [] else .nils
  | .so _ => .x
  | .pr _ => .x
  | .po _ => .x
  | .agg l => .agg (zeroL mem l)
  | .tup l => .tup (zeroL mem l)
  | .fn => .x
  | .pt => .nilp
  | .no => .x
def zeroL (mem : Bool) : List Sh → List AV
  | [] => []
  | h :: hs => zero mem h :: zeroL mem hs
end

mutual
def Sh.deep : Sh → Bool
  | .sl _ _ => true
  | .so _ => true
  | .pr _ => true
  | .po _ => true
  | .agg l => Sh.deepL l
  | .tup l => Sh.deepL l
  | .fn => true
  | .pt => true
  | _ => false
def Sh.deepL : List Sh → Bool
  | [] => false
  | h :: hs => h.deep || Sh.deepL hs
end
/-! Sets of integers (maps whose values are all true): a root of one cell, which holds the keys. -/
abbrev mapT : Nat := 1000000
def hasI (ks : List AV) (n : Int) : Bool := ks.any fun a => decide (a.toI = n)
end Go.Proofs.YtkicholhkoahhaaIT
