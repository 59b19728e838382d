/- The evaluator: what each operation, region, code and function comes to on trees. No condition: these are definitions. -/
import Derived.Test.YtkicholhkoahhaaItA
namespace Go.Proofs.YtkicholhkoahhaaIT
open Go

/-- Types, functions, and functions that are told by hand. -/
structure Env where
  Γ : Nat → Option TI
  Φ : Nat → Option FI
  pr : Nat → Option (List AV → Option AV)
  po : Nat → Option (List AV → List Root → Option (AV × List Root))

/-- Callees: those that only read what they are handed (p), those that are handed memory (o). -/
structure Cal where
  p : Nat → List AV → List AV → Option AV
  o : Nat → List AV → List Root → Option (AV × List Root)

def ofV : Value → AV
  | .int k n => .i k n
  | .bool b => .b b
  | .string s => .s s
  | .slice none 0 0 => .nils
  | .pointer none => .nilp
  | _ => .x

def St.ev (st : St) : Operand → AV
  | .tmp t => st.t.getD t .x
  | .const v => ofV v
  | .func f => .fn f []
  | .global _ => .x

def St.put (st : St) (d : Option Tmp) (v : AV) : St :=
  match d with
  | some d => ⟨st.t.set d v, st.σ⟩
  | none => st

def St.push (st : St) (ro : Root) : St := ⟨st.t, st.σ ++ [ro]⟩

/-! What refers to roots. -/
mutual
def refsLt (m : Nat) : AV → Bool
  | .sl r _ _ => decide (r < m)
  | .pt r _ _ _ => decide (r < m)
  | .agg cs => refsLtL m cs
  | .tup vs => refsLtL m vs
  | .fn _ cs => refsLtL m cs
  | _ => true
def refsLtL (m : Nat) : List AV → Bool
  | [] => true
  | a :: as => refsLt m a && refsLtL m as
end
mutual
/-- References into root r are struck. -/
def kill (r : Nat) : AV → AV
  | .sl r' p w => if r' = r then .x else .sl r' p w
  | .pt r' p m k => if r' = r then .x else .pt r' p m k
  | .agg cs => .agg (killL r cs)
  | .tup vs => .tup (killL r vs)
  | .fn f cs => .fn f (killL r cs)
  | a => a
def killL (r : Nat) : List AV → List AV
  | [] => []
  | a :: as => kill r a :: killL r as
end
def killRoot (r : Nat) : Root → Root
  | .live mv true nest e es => .live mv true nest e (killL r es)
  | ro => ro
def St.kill (st : St) (r : Nat) : St := ⟨killL r st.t, st.σ.map (killRoot r)⟩

/-! Memory that is handed on. -/
mutual
/-- References by new numbers; those without one are struck. -/
def ren (f : Nat → Option Nat) : AV → AV
  | .sl r p w => match f r with
    | some i => .sl i p w
    | none => .x
  | .pt r p m k => match f r with
    | some i => .pt i p m k
    | none => .x
  | .agg cs => .agg (renL f cs)
  | .tup vs => .tup (renL f vs)
  | .fn g cs => .fn g (renL f cs)
  | a => a
def renL (f : Nat → Option Nat) : List AV → List AV
  | [] => []
  | a :: as => ren f a :: renL f as
end
def renRoot (f : Nat → Option Nat) : Root → Root
  | .live mv true nest e es => .live mv true nest e (renL f es)
  | ro => ro
mutual
def refsOf : AV → List Nat
  | .sl r _ _ => [r]
  | .pt r _ _ _ => [r]
  | .agg cs => refsOfL cs
  | .tup vs => refsOfL vs
  | .fn _ cs => refsOfL cs
  | _ => []
def refsOfL : List AV → List Nat
  | [] => []
  | a :: as => refsOf a ++ refsOfL as
end
def rootRefs : Root → List Nat
  | .live _ true _ _ es => refsOfL es
  | _ => []
def reach (σ : List Root) : Nat → List Nat → List Nat → List Nat
  | 0, _, acc => acc
  | _ + 1, [], acc => acc
  | n + 1, r :: todo, acc => if acc.contains r then reach σ n todo acc else reach σ n (todo ++ rootRefs (σ.getD r .dead)) (acc ++ [r])
def nodupB : List Nat → Bool
  | [] => true
  | r :: rs => !rs.contains r && nodupB rs
def ixOf : List Nat → Nat → Option Nat
  | [], _ => none
  | r :: rs, q => if r = q then some 0 else (ixOf rs q).map (· + 1)
/-- Back to the caller's numbers. -/
def bkOf (rs : List Nat) (L i : Nat) : Option Nat := if i < rs.length then rs[i]? else some (L + (i - rs.length))
mutual
/-- No slice, no pointer into memory that is only read. -/
def flatV : AV → Bool
  | .imm _ _ | .ip _ _ | .nw _ _ => false
  | .agg cs => flatVL cs
  | .tup cs => flatVL cs
  | .fn _ cs => flatVL cs
  | _ => true
def flatVL : List AV → Bool
  | [] => true
  | a :: as => flatV a && flatVL as
end
def flatRoot : Root → Bool
  | .live _ _ _ _ es => flatVL es
  | .dead => true
def deadAll (rs : List Nat) (σ : List Root) : List Root := (List.range σ.length).map fun r => if rs.contains r then .dead else σ.getD r .dead
def nest0 : Root → Bool
  | .live _ _ n _ _ => !n
  | .dead => true
def isVar : Root → Bool
  | .live _ true _ _ _ => true
  | _ => false
def keepF (rs : List Nat) (ks : List Bool) (σ : List Root) (r : Nat) : Option Nat :=
  match ixOf rs r with
  | some i => if isVar (σ.getD r .dead) || ks.getD i false then some r else none
  | none => some r
def mergeR (rs : List Nat) (ks : List Bool) (σ outs : List Root) : List Root :=
  (List.range σ.length).map (fun r => match ixOf rs r with
    | some i => renRoot (bkOf rs σ.length) (outs.getD i .dead)
    | none => renRoot (keepF rs ks σ) (σ.getD r .dead)) ++ (outs.drop rs.length).map (renRoot (bkOf rs σ.length))
mutual
/-- The forms of arguments, as a key. -/
def kinds : AV → List Nat
  | .nils => [0]
  | .imm _ _ => [1]
  | .sl r _ none => [10 + 2 * r]
  | .sl r _ (some _) => [11 + 2 * r]
  | .pt r _ _ _ => [1000 + r]
  | .agg cs => kindsL cs
  | .tup vs => kindsL vs
  | .fn g cs => (10000 + g) :: kindsL cs
  | _ => [5]
def kindsL : List AV → List Nat
  | [] => []
  | a :: as => kinds a ++ kindsL as
end
def lookK (key : List Nat) : List OI → Option OI
  | [] => none
  | o :: os => if o.key == key then some o else lookK key os

def win (w : Option (Nat × Nat)) (es : List AV) : List AV :=
  match w with
  | none => es
  | some (off, n) => (es.drop off).take n

/-- What is handed on to be read: slices of the call's own as trees. -/
def frz (E : Env) (σ : List Root) : Nat → AV → AV
  | 0, _ => .x
  | d + 1, a =>
    match a with
    | .sl r [] w =>
      match σ.getD r .dead with
      | .live _ false false e es => match E.Γ e with
        | some te => .imm te.size (win w es)
        | none => .x
      | _ => .x
    | .pt r [] m k =>
      match σ.getD r .dead with
      | .live _ _ false _ es => match es.getD m .x with
        | .agg cs => .ip (.agg (cs.map (frz E σ d))) k
        | c => .ip (frz E σ d c) k
      | _ => .x
    | .nils => .imm 0 []
    | .agg cs => .agg (cs.map (frz E σ d))
    | .tup cs => .tup (cs.map (frz E σ d))
    | .fn f cs => .fn f (cs.map (frz E σ d))
    | .sl _ _ _ | .pt _ _ _ _ | .nw _ _ => .x
    | a => a

def Sh.leaves : Sh → List Sh
  | .agg l => l
  | h => [h]
def ofCells (sh : Sh) (cs : List AV) : AV :=
  match sh with
  | .agg _ => .agg cs
  | _ => cs.headD .x

/-- The cells of a value that is laid into memory. allow: references may stay (a variable); else a row of the call's own that nothing else needs is only read from now on. -/
def mvIn (allow : Bool) : List Sh → List AV → List Root → Option (List AV × List Root)
  | _, [], σ => some ([], σ)
  | [], _ :: _, _ => none
  | h :: hs, c :: cs, σ =>
    match c with
    | .nils => match h with
      | .sl _ z => (mvIn allow hs cs σ).map fun r => ((if allow then .nils else .imm z []) :: r.1, r.2)
      | _ => none
    | .sl r p w =>
      if allow then (match p, σ.getD r .dead with
        | [], .live _ _ _ _ _ => (mvIn allow hs cs σ).map fun q => (c :: q.1, q.2)
        | _, _ => none) else
      match h with
      | .sl e z =>
        match p, w with
        | [], none =>
          match σ.getD r .dead with
          | .live true false false e' es => if e' = e then (mvIn allow hs cs (σ.set r .dead)).map fun q => (.imm z es :: q.1, q.2) else none
          | _ => none
        | _, _ => none
      | _ => none
    | .pt r p _ _ => if allow then (match p, σ.getD r .dead with
        | [], .live _ _ _ _ _ => (mvIn allow hs cs σ).map fun q => (c :: q.1, q.2)
        | _, _ => none) else none
    | .fn _ l => if allow || refsLtL 0 l then (mvIn allow hs cs σ).map fun q => (c :: q.1, q.2) else none
    | .i _ _ | .b _ | .s _ | .imm _ _ | .ip _ _ | .nilp => (mvIn allow hs cs σ).map fun q => (c :: q.1, q.2)
    | _ => none

/-- The cells of one element, as a load sees them. -/
def ldLeaf (lit : Bool) (h : Sh) (c : AV) : AV := if lit then c else reify h c
/-- An empty row that is only read may stand for one of any kind. -/
def isE : Sh → AV → Bool
  | .sl _ _, .imm _ [] => true
  | .pt, .ip _ _ => true
  | _, _ => false
def okLeaf (lit : Bool) (h : Sh) (c : AV) : Bool :=
  if lit then (match c with | .x | .u | .nw _ _ | .agg _ | .tup _ => false | _ => true) else (match h with | .so _ => false | h => okSh h c || isE h c)
def ldCells (lit : Bool) (el : AV) : Nat → List Sh → List AV
  | _, [] => []
  | k, h :: hs => ldLeaf lit h (el.cells.getD k .x) :: ldCells lit el (k + 1) hs
def okCells (lit : Bool) (el : AV) : Nat → List Sh → Bool
  | _, [] => true
  | k, h :: hs => okLeaf lit h (el.cells.getD k .x) && okCells lit el (k + 1) hs

variable {R : Type} (E : Env) (C : Cal)

def evLoad (t : TypeId) (a : AV) (st : St) (K : AV → Option R) : Option R :=
  match E.Γ t with
  | none => none
  | some ti =>
  match a with
  | .pt r [] m k =>
    match st.σ.getD r .dead with
    | .live _ rf false _ es =>
      if okCells rf (es.getD m .x) k ti.sh.leaves then K (ofCells ti.sh (ldCells rf (es.getD m .x) k ti.sh.leaves)) else none
    | _ => none
  | .ip el k => if okCells false el k ti.sh.leaves then K (ofCells ti.sh (ldCells false el k ti.sh.leaves)) else none
  | _ => none

def evStore (t : TypeId) (a v : AV) (st : St) (K : St → Option R) : Option R :=
  match E.Γ t with
  | none => none
  | some ti =>
  match a with
  | .pt r [] m k =>
    match st.σ.getD r .dead with
    | .live _ rf false e _ =>
      match E.Γ e with
      | none => none
      | some te =>
      if k + ti.size ≤ te.size ∧ v.cells.length = ti.size then
        match mvIn rf ti.sh.leaves v.cells st.σ with
        | some (cs, σ1) =>
          match σ1.getD r .dead with
          | .live mv rf nest e es => K ⟨st.t, σ1.set r (.live mv rf nest e (es.set m ((es.getD m .x).putCells k cs)))⟩
          | .dead => none
        | none => none
      else none
    | _ => none
  | _ => none

def evBox (t : TypeId) (v : AV) (st : St) (K : AV → St → Option R) : Option R :=
  match E.Γ t with
  | none => none
  | some ti =>
  if v.cells.length = ti.size then
    match mvIn true ti.sh.leaves v.cells st.σ with
    | some (cs, σ1) => K (.pt σ1.length [] 0 0) ⟨st.t, σ1 ++ [.live false true false t [ofCells ti.sh cs]]⟩
    | none => none
  else none

def cmpI (op : BinOp) (x y : Int) : Option Bool :=
  match op with
  | .eql => some (decide (x = y)) | .neq => some (!decide (x = y))
  | .lss => some (decide (x < y)) | .leq => some (decide (x ≤ y)) | .gtr => some (decide (y < x)) | .geq => some (decide (y ≤ x))
  | _ => none
def lessS (x y : ByteArray) : Bool := Op.bytesLess x.toList y.toList
def cmpS (op : BinOp) (x y : ByteArray) : Option Bool :=
  match op with
  | .eql => some (decide (x = y)) | .neq => some (!decide (x = y))
  | .lss => some (lessS x y) | .leq => some (lessS x y || decide (x = y)) | .gtr => some (!(lessS x y || decide (x = y))) | .geq => some (!lessS x y)
  | _ => none
def evBin (op : BinOp) (xt : TypeId) (a b : AV) (K : AV → Option R) : Option R :=
  match a with
  | .i k x => match b with
    | .i k' y =>
      match op with
      | .shl => if 0 ≤ y then K (.i k (k.wrap (x * 2 ^ (min y.toNat k.bits)))) else none
      | .shr => if 0 ≤ y then K (.i k (x.fdiv (2 ^ (min y.toNat k.bits)))) else none
      | op =>
        if k = k' then
          match op with
          | .add => K (.i k (k.wrap (x + y))) | .sub => K (.i k (k.wrap (x - y))) | .mul => K (.i k (k.wrap (x * y)))
          | .quo => if y = 0 then none else K (.i k (k.wrap (x.tdiv y)))
          | .rem => if y = 0 then none else K (.i k (x.tmod y))
          | .and => K (.i k (k.wrap (BitVec.ofInt k.bits x &&& BitVec.ofInt k.bits y).toNat))
          | .or => K (.i k (k.wrap (BitVec.ofInt k.bits x ||| BitVec.ofInt k.bits y).toNat))
          | .xor => K (.i k (k.wrap (BitVec.ofInt k.bits x ^^^ BitVec.ofInt k.bits y).toNat))
          | .andNot => K (.i k (k.wrap (BitVec.ofInt k.bits x &&& ~~~BitVec.ofInt k.bits y).toNat))
          | op => match cmpI op x y with
            | some r => K (.b r)
            | none => none
        else none
    | _ => none
  | .s x => match b with
    | .s y => match op with
      | .add => if x.size + y.size ≤ 9223372036854775807 then K (.s (x ++ y)) else none
      | op => match cmpS op x y with
        | some r => K (.b r)
        | none => none
    | _ => none
  | .b x => match b with
    | .b y => match E.Γ xt with
      | some ⟨.b, _, _, _, _⟩ => match op with
        | .eql => K (.b (decide (x = y)))
        | .neq => K (.b (!decide (x = y)))
        | _ => none
      | _ => none
    | _ => none
  | _ => none

/-! Structs of which every field is one cell: their equality. -/
def eqLeaf : Sh → AV → AV → Option Bool
  | .i _, .i k x, .i k' y => if k = k' then some (decide (x = y)) else none
  | .s, .s x, .s y => some (decide (x = y))
  | .b, .b x, .b y => some (decide (x = y))
  | _, _, _ => none
def eqCs : Nat → List (Nat × Nat) → List AV → List AV → Option Bool
  | _, [], [], [] => some true
  | n, fd :: fl, a1 :: xs, a2 :: ys => if fd.1 = n then (match E.Γ fd.2 with
    | some ti => (match eqLeaf ti.sh a1 a2 with
      | some p => (match eqCs (n + 1) fl xs ys with
        | some q => some (p && q)
        | none => none)
      | none => none)
    | none => none) else none
  | _, _, _, _ => none
def evBinA (op : BinOp) (xt : TypeId) (a b : AV) (K : AV → Option R) : Option R :=
  match a with
  | .agg xs => match b with
    | .agg ys => match E.Γ xt with
      | some ⟨.agg _, _, _, 1, fl⟩ => match eqCs E 0 fl xs ys with
        | some p => match op with
          | .eql => K (.b p)
          | .neq => K (.b (!p))
          | _ => none
        | none => none
      | _ => none
    | _ => none
  | a => evBin E op xt a b K

def evUn (op : UnOp) (a : AV) (K : AV → Option R) : Option R :=
  match op with
  | .neg => match a with
    | .i k n => K (.i k (k.wrap (0 - n)))
    | _ => none
  | .xor => match a with
    | .i k n => K (.i k (k.wrap (BitVec.ofInt k.bits (if k.signed then -1 else k.max) ^^^ BitVec.ofInt k.bits n).toNat))
    | _ => none
  | .not => match a with
    | .b y => K (.b (!y))
    | _ => none
  | .plus => none

/-- How many elements a slice or a string has. -/
def lenA (σ : List Root) : AV → Option Nat
  | .imm _ es => some es.length
  | .nils => some 0
  | .s s => some s.size
  | .sl r [] w => match σ.getD r .dead with
    | .live _ false false _ es => (match w with
      | none => some es.length
      | some q => some q.2)
    | _ => none
  | _ => none

def evIndexAddr (e sz : Nat) (a i : AV) (st : St) (K : AV → Option R) : Option R :=
  match i with
  | .i _ n =>
    match lenA st.σ a with
    | some l => if 0 ≤ n ∧ n < l then
        (match a with
        | .imm z es => if z = sz then K (.ip (es.getD n.toNat .x) 0) else none
        | .sl r [] w => (match st.σ.getD r .dead with
          | .live _ _ _ e' _ => if e' = e then K (.pt r [] ((match w with | none => 0 | some q => q.1) + n.toNat) 0) else none
          | .dead => none)
        | _ => none) else none
    | none => none
  | _ => none

/-- A bound of a cut: none, or a number. -/
def bound (st : St) (o : Option Operand) (d : Int) : Option Int :=
  match o with
  | none => some d
  | some x => match st.ev x with
    | .i _ n => some n
    | _ => none

def evSlice (e sz : Nat) (a : AV) (lo hi mx : Option Operand) (st : St) (K : AV → Option R) : Option R :=
  match lenA st.σ a with
  | none => none
  | some l =>
    match mx with
    | some m => match bound st (some m) 0, bound st lo 0, bound st hi 0 with
      | _, _, _ => none
    | none =>
      match bound st lo 0, bound st hi l with
      | some x, some y => if 0 ≤ x ∧ x ≤ y ∧ y ≤ l then
          (match a with
          | .s s => K (.s (s.extract x.toNat y.toNat))
          | .imm z es => if z = sz then (match lo, hi with
            | none, none => K (.imm z es)
            | none, some _ => K (.imm z (es.take y.toNat))
            | some _, none => K (.imm z (es.drop x.toNat))
            | some _, some _ => K (.imm z ((es.drop x.toNat).take (y.toNat - x.toNat)))) else none
          | .nils => K .nils
          | .sl r [] w => (match st.σ.getD r .dead with
            | .live _ _ _ e' _ => if e' = e then (match w with
              | none => K (.sl r [] (some (x.toNat, y.toNat - x.toNat)))
              | some w => K (.sl r [] (some (w.1 + x.toNat, y.toNat - x.toNat)))) else none
            | .dead => none)
          | _ => none) else none
      | _, _ => none

def fillCells (flds : List (Nat × Nat)) (st : St) : List (Nat × Operand) → List AV → List AV
  | [], cs => cs
  | (f, x) :: ps, cs => fillCells flds st ps (setCells cs (flds.getD f (0, 0)).1 (st.ev x).cells)
/-- A value whose make is known. -/
def solid (σ : List Root) : AV → Bool
  | .x | .u | .nw _ _ | .tup _ => false
  | .sl r p _ => (match p, σ.getD r .dead with | [], .live _ _ _ _ _ => true | _, _ => false)
  | .pt r p _ _ => (match p, σ.getD r .dead with | [], .live _ _ _ _ _ => true | _, _ => false)
  | _ => true
def fillOk (st : St) : List (Nat × Nat) → List (Nat × Operand) → Bool
  | _, [] => true
  | fl, (f, x) :: ps => (match fl[f]? with
    | some fd => match E.Γ fd.2 with
      | some tf => solid st.σ (st.ev x) && decide ((st.ev x).cells.length = tf.size)
      | none => false
    | none => false) && fillOk st fl ps
def fillIn (n : Nat) (fl : List (Nat × Nat)) (Γ : Nat → Option TI) : List (Nat × Operand) → Bool
  | [] => true
  | (f, _) :: ps => (match fl[f]? with
    | some fd => match Γ fd.2 with
      | some tf => decide (fd.1 + tf.size ≤ n)
      | none => false
    | none => false) && fillIn n fl Γ ps
def fillElems (st : St) : List (Nat × Operand) → List AV → List AV
  | [], es => es
  | (i, x) :: ps, es => fillElems st ps (es.set i (st.ev x))

/-- Elements that are laid into a row, one after the other. -/
def mvElems (sh : Sh) : List AV → List Root → Option (List AV × List Root)
  | [], σ => some ([], σ)
  | v :: vs, σ =>
    match mvIn false sh.leaves v.cells σ with
    | some (cs, σ1) => (mvElems sh vs σ1).map fun q => (ofCells sh cs :: q.1, q.2)
    | none => none

/-- The elements that are appended. -/
def srcElems (e z : Nat) (σ : List Root) : AV → Option (List AV)
  | .nils => some []
  | .imm z' es => if z' = z then some es else none
  | .sl r p w =>
    match σ.getD r .dead with
    | .live _ false false e' es => if e' = e ∧ p = [] then some (win w es) else none
    | _ => none
  | _ => none

def isU8 : AV → Bool
  | .i .u8 _ => true
  | _ => false
/-- Bytes as a string. -/
def bytesOf (es : List AV) : ByteArray := (es.map AV.toI).foldl (fun r n => r.push (UInt8.ofNat n.toNat)) ByteArray.empty
def room : Nat := 140737488355328

def evAppend (t : TypeId) (a b : AV) (st : St) (K : AV → St → Option R) : Option R :=
  match E.Γ t with
  | some ⟨.sl ety _, _, _, _, _⟩ =>
    match E.Γ ety with
    | none => none
    | some te =>
    match srcElems ety te.size st.σ b with
    | none => none
    | some ys =>
    match a with
    | .nils => if ys.length * te.bytes ≤ room then K (.sl st.σ.length [] none) ⟨st.t, st.σ ++ [.live true false false ety ys]⟩ else none
    | .sl r [] w =>
      match st.σ.getD r .dead with
      | .live true false false e es =>
        match (match w with | none => some es | _ => none) with
        | some xs =>
          if e = ety then (if (xs.length + ys.length) * te.bytes ≤ room then
            K (.sl r [] none) ((⟨st.t, st.σ.set r (.live true false false ety (xs ++ ys))⟩ : St).kill r)
          else none) else none
        | none => none
      | _ => none
    | _ => none
  | _ => none

def clearEs (w : Option (Nat × Nat)) (z : AV) (es : List AV) : List AV :=
  match w with
  | none => List.replicate es.length z
  | some q => es.take q.1 ++ List.replicate q.2 z ++ es.drop (q.1 + q.2)
def pickArgs (ms : List Nat) : Nat → List AV → List AV
  | _, [] => []
  | n, a :: as => (if ms.contains n then [a] else []) ++ pickArgs ms (n + 1) as
def frzArgs (ms : List Nat) (σ : List Root) (g : Nat → Option Nat) : Nat → List AV → List AV
  | _, [] => []
  | n, a :: as => (if ms.contains n then ren g a else frz E σ 4 a) :: frzArgs ms σ g (n + 1) as
def anyFz (ms : List Nat) : Nat → List AV → Bool
  | _, [] => false
  | n, a :: as => (!ms.contains n && !refsLt 0 a) || anyFz ms (n + 1) as
/-- A call that is handed memory: the arguments that fi.muts names; of the others the callee sees what they tell. -/
def evOwn (g : Nat) (fi : FI) (args : List AV) (st : St) (K : AV → St → Option R) : Option R :=
  let ms := fi.muts.map (·.1)
  let rs := reach st.σ 64 (refsOfL (pickArgs ms 0 args)) []
  let fz := anyFz ms 0 args
  if nodupB rs && rs.all (fun r => decide (r < st.σ.length)) && st.σ.all nest0 then
    match lookK (kindsL (frzArgs E ms (deadAll rs st.σ) (ixOf rs) 0 args)) fi.own with
    | some oi => (C.o g (frzArgs E ms (deadAll rs st.σ) (ixOf rs) 0 args) (rs.map fun r => renRoot (ixOf rs) (st.σ.getD r .dead))).bind fun q =>
        if okSh oi.sh q.1 && okRs oi.rs q.2 && decide (rs.length ≤ oi.rs.length) && (!fz || (flatV q.1 && q.2.all flatRoot)) then
          if okLens oi.rs (rs.map fun r => renRoot (ixOf rs) (st.σ.getD r .dead)) q.2 then
            K (ren (bkOf rs st.σ.length) (reify oi.sh q.1)) ⟨renL (keepF rs (oi.rs.map RSh.kept) st.σ) st.t, mergeR rs (oi.rs.map RSh.kept) st.σ (reifyRs oi.rs q.2 0)⟩
          else none
        else none
    | none => none
  else none

/-! Sets. -/
def evMk (t : TypeId) (l : Option Operand) (st : St) (K : AV → St → Option R) : Option R :=
  match l with
  | some _ => none
  | none => match E.Γ t with
    | some ⟨.fn, _, _, _, [_]⟩ => K (.pt st.σ.length [(0, 0)] 0 0) (st.push (.live false false false mapT [.fn 0 []]))
    | _ => none
def evLk (t : TypeId) (ok : Bool) (a i : AV) (σ : List Root) (K : AV → Option R) : Option R :=
  match ok with
  | true => none
  | false => match E.Γ t with
    | some ⟨.fn, _, _, _, [_]⟩ => match a with
      | .pt r [(0, 0)] _ _ => match σ.getD r .dead with
        | .live _ _ _ e [.fn 0 ks] => if e = mapT then (match i with
          | .i .i64 n => K (.b (hasI ks n))
          | _ => none) else none
        | _ => none
      | _ => none
    | _ => none
def evUp (t : TypeId) (a i v : AV) (st : St) (K : AV → St → Option R) : Option R :=
  match E.Γ t with
  | some ⟨.fn, _, _, _, [_]⟩ => match a with
    | .pt r [(0, 0)] _ _ => match st.σ.getD r .dead with
      | .live mv rf nest e [.fn 0 ks] => if e = mapT then (match i with
        | .i .i64 n => match v with
          | .b true => K .u ⟨st.t, st.σ.set r (.live mv rf nest e [.fn 0 (ks ++ [.i .i64 n])])⟩
          | _ => none
        | _ => none) else none
      | _ => none
    | _ => none
  | _ => none

/-- Slices that are nil, as rows of their own without elements. -/
def nilN : List Sh → List AV → List Root → List AV × List Root
  | .sl e _ :: hs, .nils :: cs, σ => match nilN hs cs (σ ++ [.live true false false e []]) with
    | (cs', σ') => (.sl σ.length [] none :: cs', σ')
  | _ :: hs, c :: cs, σ => match nilN hs cs σ with
    | (cs', σ') => (c :: cs', σ')
  | _, cs, σ => (cs, σ)

def unnil (t : TypeId) : Bool := match E.Γ t with
  | some ti => ti.elem == 2 && ti.sh.isAgg
  | none => false
/-- A store of a struct whose slices may be nil: these become rows of the call's own. -/
def evStoreN (t : TypeId) (a v : AV) (st : St) (K : St → Option R) : Option R :=
  if unnil E t then
    match E.Γ t, v with
    | some ti, .agg cs => match nilN ti.sh.leaves cs st.σ with
      | (cs', σ1) => evStore E t a (.agg cs') ⟨st.t, σ1⟩ K
    | _, _ => none
  else evStore E t a v st K

def evOp (o : Oper) (st : St) (K : AV → St → Option R) : Option R :=
  match o.op with
  | .move a => K (st.ev a) st
  | .assign a => match st.ev a with
    | .nils => match E.Γ o.type with
      | some ⟨.sl e _, _, _, _, _⟩ => K (.sl st.σ.length [] none) (st.push (.live true false false e []))
      | _ => none
    | v => K v st
  | .pick c a b => match st.ev c with
    | .b c => cond c (K (st.ev a) st) (K (st.ev b) st)
    | _ => none
  | .alloc t => match E.Γ t with
    | some ti => if ti.elem == 2 then (match nilN ti.sh.leaves (zero false ti.sh).cells st.σ with
        | (cs, σ1) => K (.pt σ1.length [] 0 0) ⟨st.t, σ1 ++ [.live false true false t [ofCells ti.sh cs]]⟩)
      else K (.pt st.σ.length [] 0 0) (st.push (.live false true false t [zero false ti.sh]))
    | none => none
  | .box t v => evBox E t (st.ev v) st K
  | .build t ps => match E.Γ t with
    | some ⟨.agg l, n, _, _, fl⟩ => if fillOk E st fl ps.toList && fillIn n fl E.Γ ps.toList then K (.agg (fillCells fl st ps.toList (zeroL false l))) st else none
    | _ => none
  | .buildSlice t n ps => match E.Γ t with
    | some ⟨.sl e _, _, _, _, _⟩ => match E.Γ e with
      | none => none
      | some te =>
        if (n == 0 && ps.isEmpty) = true then K .nils st else
        if ps.toList.all (fun q => solid st.σ (st.ev q.2) && decide ((st.ev q.2).cells.length = te.size) && decide (q.1 < n)) && decide (n * te.size ≤ 16777216) then
          match mvElems te.sh (fillElems st ps.toList (List.replicate n (zero false te.sh))) st.σ with
          | some (es, σ1) => K (.sl σ1.length [] none) ⟨st.t, σ1 ++ [.live true false false e es]⟩
          | none => none
        else none
    | _ => none
  | .load t a => evLoad E t (st.ev a) st fun v => K v st
  | .store t a v => evStoreN E t (st.ev a) (st.ev v) st fun st' => K .u st'
  | .nilCheck a => match st.ev a with
    | .pt r p m k => (match p with
      | [] => (match st.σ.getD r .dead with
        | .live _ _ _ _ _ => K (.pt r [] m k) st
        | .dead => none)
      | _ => none)
    | .ip el k => K (.ip el k) st
    | .fn f l => K (.fn f l) st
    | _ => none
  | .binOp op xt a b _ => evBinA E op xt (st.ev a) (st.ev b) fun v => K v st
  | .unOp op _ a => evUn op (st.ev a) fun v => K v st
  | .convert s d a => match E.Γ d with
    | some ⟨.i k, _, _, _, _⟩ => match st.ev a with
      | .i _ n => match E.Γ s with
        | some _ => K (.i k (k.wrap n)) st
        | none => none
      | _ => none
    | some ⟨.s, _, _, _, _⟩ => match st.ev a with
      | .s y => match E.Γ s with
        | some ⟨.s, _, _, _, _⟩ => K (.s y) st
        | _ => none
      | v => match E.Γ s with
        | some ⟨.sl e _, _, _, _, _⟩ => match E.Γ e with
          | some ⟨.i .u8, _, _, _, _⟩ => match srcElems e 1 st.σ v with
            | some es => if es.all isU8 then K (.s (bytesOf es)) st else none
            | none => none
          | _ => none
        | _ => none
    | _ => none
  | .makeFunc (.func f) first caps => if first.isEmpty then K (.fn f (caps.toList.map st.ev)) st else none
  | .makeSlice t l c => match E.Γ t with
    | some ⟨.sl e _, _, _, _, _⟩ => match E.Γ e with
      | none => none
      | some te =>
        match st.ev l, st.ev c with
        | .i .i64 n, .i .i64 m => if 0 ≤ n ∧ n ≤ m ∧ m * te.bytes ≤ room ∧ m ≤ 9223372036854775807 then
            K (.sl st.σ.length [] none) (st.push (.live true false false e (List.replicate n.toNat (zero true te.sh)))) else none
        | _, _ => none
    | _ => none
  | .slice t a lo hi mx => match E.Γ t with
    | some ⟨.sl e _, _, _, e', _⟩ => match E.Γ e' with
      | some te => if e = e' then (match st.ev a with
        | .s _ => none
        | a => evSlice e te.size a lo hi mx st fun v => K v st) else none
      | none => none
    | some ⟨.s, _, _, _, _⟩ => match st.ev a with
      | .s y => evSlice 0 1 (.s y) lo hi mx st fun v => K v st
      | _ => none
    | _ => none
  | .fieldAddr t a f => match E.Γ t with
    | none => none
    | some ti => match ti.flds[f]? with
      | none => none
      | some fd => match E.Γ fd.2 with
        | none => none
        | some tf => if tf.size = 0 then none else match ti.sh with
          | .agg _ => (match st.ev a with
            | .pt r [] m k => (match st.σ.getD r .dead with
              | .live _ _ _ _ _ => K (.pt r [] m (k + fd.1)) st
              | .dead => none)
            | .ip el k => K (.ip el (k + fd.1)) st
            | _ => none)
          | _ => none
  | .field t a f => match E.Γ t with
    | none => none
    | some ti => match ti.flds[f]? with
      | none => none
      | some fd => match E.Γ fd.2 with
        | none => none
        | some tf => match ti.sh with
         | .agg _ => (match st.ev a with
          | .agg cs => if fd.1 + tf.size ≤ cs.length then K (ofCells tf.sh ((cs.drop fd.1).take tf.size)) st else none
          | _ => none)
         | _ => none
  | .indexAddr t a i => match E.Γ t with
    | some ⟨.sl e _, _, _, e', _⟩ => match E.Γ e' with
      | some te => if e = e' then evIndexAddr e te.size (st.ev a) (st.ev i) st fun v => K v st else none
      | none => none
    | _ => none
  | .index t a i => match E.Γ t with
    | some ⟨.s, _, _, _, _⟩ => match st.ev a with
      | .s s => match st.ev i with
        | .i _ n => if 0 ≤ n ∧ n < s.size then K (.i .u8 (s.toList.getD n.toNat 0).toNat) st else none
        | _ => none
      | _ => none
    | _ => none
  | .extract a n => match st.ev a with
    | .tup vs => if n < vs.length then K (vs.getD n .x) st else none
    | _ => none
  | .makeMap t l => evMk E t l st K
  | .lookup t x ix ok => evLk E t ok (st.ev x) (st.ev ix) st.σ fun v => K v st
  | .mapUpdate t m k v => evUp E t (st.ev m) (st.ev k) (st.ev v) st K
  | .call c =>
    match c.callee with
    | .builtin bi =>
      match bi, c.args.toList, c.argTypes.toList with
      | .len, [x], [t] => (match E.Γ t with
        | some ⟨.s, _, _, _, _⟩ => (match st.ev x with
          | .s y => K (.i .i64 (y.size : Int)) st
          | _ => none)
        | some ⟨.sl _ _, _, _, _, _⟩ => (match st.ev x with
          | .s _ => none
          | a => match lenA st.σ a with
            | some n => K (.i .i64 (n : Int)) st
            | none => none)
        | _ => none)
      | .append, [x, y], [t, t'] => if t = t' then evAppend E t (st.ev x) (st.ev y) st K else none
      | .clear, [x], [t] => (match E.Γ t with
        | some ⟨.sl e _, _, _, e', _⟩ => (match E.Γ e' with
          | some te => if e = e' then (match st.ev x with
            | .sl r [] w => (match st.σ.getD r .dead with
              | .live mv false false e2 es => if e2 = e then K .x ⟨st.t, st.σ.set r (.live mv false false e (clearEs w (zero true te.sh) es))⟩ else none
              | _ => none)
            | _ => none) else none
          | none => none)
        | _ => none)
      | .min, [x, y], _ => (match st.ev x, st.ev y with
        | .i k n, .i k' m => if k = k' then K (.i k (if m < n then m else n)) st else none
        | .s x, .s y => (match cmpS .leq x y with
          | some b => K (.s (cond b x y)) st
          | none => none)
        | _, _ => none)
      | .max, [x, y], _ => (match st.ev x, st.ev y with
        | .i k n, .i k' m => if k = k' then K (.i k (if m > n then m else n)) st else none
        | .s x, .s y => (match cmpS .geq x y with
          | some b => K (.s (cond b x y)) st
          | none => none)
        | _, _ => none)
      | _, _, _ => none
    | .value f =>
      match st.ev f with
      | .fn g caps =>
        match E.Φ g with
        | some fi =>
          match fi.own with
          | [] => if fi.rty.deep && !refsLtL 0 (c.args.toList.map st.ev ++ caps) then none
            else bSh fi.rty (C.p g ((c.args.toList.map st.ev ++ caps).map (frz E st.σ 4)) []) fun a => K (reify fi.rty a) st
          | _ :: _ => match f with
            | .func _ => evOwn E C g fi (c.args.toList.map st.ev ++ caps) st K
            | _ => none
        | none => none
      | _ => none
    | _ => none
  | _ => none

def evOps (ops : List Oper) : List Oper → St → (St → Option R) → Option R
  | [], st, K => K st
  | o :: rest, st, K =>
    match o.guard with
    | none => evOp E C o st fun v st' => evOps ops rest (st'.put o.dst v) K
    | some (j, want) =>
      match (ops[j]?).bind (·.dst) with
      | some d =>
        match st.t.getD d .x with
        | .b y => cond (y == want)
            (evOp E C o ⟨st.t.set d (.b want), st.σ⟩ fun v st' => evOps ops rest (st'.put o.dst v) K)
            (evOps ops rest ((⟨st.t.set d (.b (!want)), st.σ⟩ : St).put o.dst .u) K)
        | .u => evOps ops rest (st.put o.dst .u) K
        | _ => none
      | none => none

def keepL (l : List Nat) : Nat → List AV → List AV
  | _, [] => []
  | n, a :: as => (if l.contains n then a else .x) :: keepL l (n + 1) as
def rootOk (m : Nat) : Root → Bool
  | .live _ true _ _ es => refsLtL m es
  | _ => true
/-- In which order roots are kept: the first k, then those that are led to. -/
def ordOf (σ : List Root) (k : Nat) (t : List AV) : List Nat := reach σ 64 (refsOfL t ++ (List.range k).flatMap fun r => rootRefs (σ.getD r .dead)) (List.range k)
/-- How many roots a cut leaves where they are. -/
def cutK (m : Nat) : Nat := if m < 1000000 then m else m - 1000000
/-- At a cut: only what is told is kept; from a million on: the roots are put into an order of their own. -/
def St.cut (st : St) (q : Option (List Nat × Nat)) (K : St → Option R) : Option R :=
  match q with
  | none => K st
  | some (l, m) =>
    let t := keepL l 0 st.t
    let σ := st.σ.take m
    if m < 1000000 then (if refsLtL m t && σ.all (rootOk m) then K ⟨t, σ⟩ else none) else
    let rs := ordOf st.σ (m - 1000000) t
    if nodupB rs && rs.all (fun r => decide (r < st.σ.length)) && (rs.take (m - 1000000) == List.range (m - 1000000)) && st.σ.all nest0 then
      K ⟨renL (ixOf rs) t, rs.map fun r => renRoot (ixOf rs) (st.σ.getD r .dead)⟩
    else none

def look (id : Nat) : List (Nat × List Nat × Nat) → Option (List Nat × Nat)
  | [] => none
  | (n, q) :: l => if n = id then some q else look id l

/-- May the operations of a region be carried out in any order that it leaves open? -/
def quietOp (E : Env) : Op → Bool
  | .store .. | .mapUpdate .. | .insert .. | .mapEntry .. | .entryStore .. => false
  | .buildSlice t n ps => n == 0 && ps.isEmpty || (match E.Γ t with
    | some ⟨.sl e _, _, _, _, _⟩ => (match E.Γ e with
      | some te => te.sh.leaves.all fun h => !h.deep
      | none => false)
    | _ => false)
  | .call c => (match c.callee with
    | .builtin b => (match b with
      | .len | .min | .max => true
      | _ => false)
    | .value (.func g) => (match E.Φ g with
      | some fi => fi.own.isEmpty
      | none => true)
    | _ => true)
  | _ => true
/-- Operations that leave memory as it is. -/
def stillOp (E : Env) : Op → Bool
  | .move _ | .pick .. | .build .. | .load .. | .nilCheck _ | .binOp .. | .unOp .. | .convert .. | .makeFunc .. | .slice .. | .fieldAddr .. | .field .. | .indexAddr .. | .index .. | .extract .. | .lookup .. => true
  | .buildSlice _ n ps => n == 0 && ps.isEmpty
  | .call c => (match c.callee with
    | .builtin b => (match b with
      | .len | .min | .max => true
      | _ => false)
    | .value (.func g) => (match E.Φ g with
      | some fi => fi.own.isEmpty
      | none => true)
    | _ => true)
  | _ => false
def befOf (acc : List Nat) (o : Oper) : Nat := o.after.toList.foldl (fun s e => if Region.binds .any e then s ||| 2 ^ e.on ||| acc.getD e.on 0 else s) 0
/-- Which operations must come before which. -/
def befL : List Oper → List Nat → List Nat
  | [], acc => acc
  | o :: os, acc => befL os (acc ++ [befOf acc o])
def allIx {α : Type} (p : Nat → α → Bool) : Nat → List α → Bool
  | _, [] => true
  | n, a :: l => p n a && allIx p (n + 1) l
/-- May the operations of a region be carried out in any order that it leaves open? -/
def drawOk (E : Env) (ops : List Oper) : Bool :=
  let b := befL ops []
  allIx (fun i o => o.after.toList.all (fun e => !Region.binds .any e || decide (e.on < i)) &&
    allIx (fun j q => (match o.dst with | some d => (j == i || q.dst != some d) && (!(q.looksAt ops.toArray).contains d || j == i || (b.getD j 0).testBit i || (b.getD i 0).testBit j) | none => true) &&
      (stillOp E o.op || j == i || (b.getD i 0).testBit j || (b.getD j 0).testBit i)) 0 ops) 0 ops

/-! Regions in which operations that add memory, or write to a place of their own, may come before or after those that read elsewhere. -/
/-- Operations that leave what they don't touch. -/
def soft (E : Env) : Op → Bool
  | .alloc _ | .box _ _ | .makeSlice _ _ _ | .assign _ | .makeMap .. | .mapUpdate .. => true
  | .buildSlice t _ _ => (match E.Γ t with
    | some ⟨.sl e _, _, _, _, _⟩ => (match E.Γ e with
      | some te => te.sh.leaves.all fun h => !h.deep
      | none => false)
    | _ => false)
  | .store _ _ _ => true
  | .call c => (match c.callee with
    | .builtin b => (match b with
      | .append => true
      | _ => false)
    | .value (.func g) => (match E.Φ g with
      | some fi => !fi.own.isEmpty
      | none => false)
    | _ => false)
  | _ => false
def isApp : Op → Bool
  | .call c => (match c.callee with
    | .builtin b => (match b with
      | .append => true
      | _ => false)
    | _ => false)
  | _ => false
/-- Still, and no call. -/
def plain : Op → Bool
  | .move _ | .pick .. | .build .. | .load .. | .nilCheck _ | .binOp .. | .unOp .. | .convert .. | .makeFunc .. | .slice .. | .fieldAddr .. | .field .. | .indexAddr .. | .index .. | .extract .. | .lookup .. => true
  | .buildSlice _ n ps => n == 0 && ps.isEmpty
  | .call c => (match c.callee with
    | .builtin b => (match b with
      | .len | .min | .max => true
      | _ => false)
    | _ => false)
  | _ => false
def evs (st : St) (xs : Array Operand) : List AV := xs.toList.map st.ev
/-- The roots that an operation writes to. -/
def ownM (E : Env) : Op → List Nat
  | .call c => (match c.callee with
    | .value (.func g) => (match E.Φ g with
      | some fi => if fi.own.isEmpty then [] else fi.muts.map (·.1)
      | none => [])
    | _ => [])
  | _ => []
def touch (E : Env) (o : Op) (st : St) : List Nat :=
  match o with
  | .store _ a v => refsOf (st.ev a) ++ refsOfL (st.ev v).cells
  | .mapUpdate _ a _ _ => refsOf (st.ev a)
  | .call c => if isApp (.call c) then (match c.args.toList with
      | x :: _ => refsOf (st.ev x)
      | [] => []) else refsOfL (pickArgs (ownM E (.call c)) 0 (c.args.toList.map st.ev))
  | _ => []
/-- As touch; a store into a variable leaves the rows that it comes to refer to. -/
def touchF (E : Env) (o : Op) (st : St) : List Nat :=
  match o with
  | .store _ a v => (match st.ev a with
    | .pt r _ _ _ => (match st.σ.getD r .dead with
      | .live _ true _ _ _ => [r]
      | _ => refsOf (st.ev a) ++ refsOfL (st.ev v).cells)
    | _ => refsOf (st.ev a) ++ refsOfL (st.ev v).cells)
  | o => touch E o st
/-- Only variables that refer to nothing are written by a callee. -/
def okAt (E : Env) (o : Op) (st : St) : Bool := (!isApp o || (touch E o st).isEmpty) && ((ownM E o).isEmpty || (touch E o st).all fun r => isVar (st.σ.getD r .dead) && (rootRefs (st.σ.getD r .dead)).isEmpty)
def isCond (E : Env) (o : Op) : Bool := isApp o || !(ownM E o).isEmpty
def softAt (E : Env) (o : Op) (st : St) : Bool := soft E o && okAt E o st
/-- Operations that look at no memory. -/
def memless : Op → Bool
  | .move _ | .pick .. | .makeFunc .. | .extract .. | .binOp .. | .unOp .. => true
  | _ => false
/-- The roots that an operation may look at. -/
def refsLk (o : Op) (st : St) : List Nat := if memless o then [] else refsOfL (evs st o.operands)
def disj (a b : List Nat) : Bool := a.all fun r => !b.contains r
/-- No edge either way. -/
def free (b : List Nat) (i j : Nat) : Bool := j != i && !(b.getD i 0).testBit j && !(b.getD j 0).testBit i
/-- Between two operations nothing writes what the first looks at. -/
def noOver (E : Env) (ops : List Oper) (b : List Nat) (lo hi : Nat) (o : Oper) : Bool :=
  allIx (fun k q => decide (k < lo) || decide (hi ≤ k) || ((stillOp E q.op || (soft E q.op && (!isCond E q.op || (List.range ops.length).any fun j => free b k j))) && (match q.dst with | some d => !(o.looksAt ops.toArray).contains d | none => true))) 0 ops
def drawOk2 (E : Env) (ops : List Oper) : Bool :=
  let b := befL ops []
  allIx (fun i o => o.after.toList.all (fun e => !Region.binds .any e || decide (e.on < i)) &&
    allIx (fun j q => (match o.dst with | some d => (j == i || q.dst != some d) && (!(q.looksAt ops.toArray).contains d || j == i || (b.getD j 0).testBit i || (b.getD i 0).testBit j) | none => true) &&
      (stillOp E o.op || j == i || (b.getD i 0).testBit j || (b.getD j 0).testBit i || (soft E o.op && plain q.op && noOver E ops b (min i j) (max i j) (if i < j then o else q)))) 0 ops) 0 ops
/-- What is asked where an operation is carried out. -/
def okStep (E : Env) (ops : List Oper) (b : List Nat) (i : Nat) (o : Oper) (st : St) : Bool :=
  allIx (fun j q => !free b i j ||
    ((if stillOp E o.op then (stillOp E q.op || decide (i ≤ j) || disj (touch E q.op st) (refsLk o.op st)) else
      (okAt E o.op st && (decide (i ≤ j) || disj (touchF E o.op st) (refsLk q.op st)))))) 0 ops
def evOpsD {R : Type} (E : Env) (C : Cal) (ops : List Oper) (b : List Nat) : Nat → List Oper → St → (St → Option R) → Option R
  | _, [], st, K => K st
  | i, o :: rest, st, K => if okStep E ops b i o st then evOps E C ops [o] st (fun st' => evOpsD E C ops b (i + 1) rest st' K) else none

/-! Regions in which a variable is laid out, whatever else is done first, and stored to after all that. -/
def isAl (o : Oper) : Bool := (match o.op with
  | .alloc _ => true
  | _ => false) && o.guard.isNone && o.dst.isSome
def runAl : List Oper → Nat
  | o :: os => if isAl o then runAl os + 1 else 0
  | [] => 0
def inR (s m k : Nat) : Bool := decide (s ≤ k) && decide (k < m)
/-- As if the variables from s on to m were laid out after what stands before. -/
def b3 (s m : Nat) : Nat → List Nat → List Nat
  | _, [] => []
  | k, x :: l => (if inR s m k then x ||| (2 ^ s - 1) else x) :: b3 s m (k + 1) l
def drawOk3 (E : Env) (ops : List Oper) (s m : Nat) : Bool :=
  let b := b3 s m 0 (befL ops [])
  decide (s < m) && decide (m ≤ ops.length) && allIx (fun i o => (!inR s m i || isAl o) && (decide (i < m) || (allIx (fun k q => decide (m ≤ k) || (!inR s m k && stillOp E q.op) || (b.getD i 0).testBit k) 0 ops)) &&
    (decide (s ≤ i) || !stillOp E o.op || !allIx (fun k q => decide (s ≤ k) || stillOp E q.op || !(b.getD k 0).testBit i) 0 ops || (plain o.op && allIx (fun k _ => !inR s m k || noOver E ops b i k o) 0 ops)) && o.after.toList.all (fun e => !Region.binds .any e || decide (e.on < i)) &&
    allIx (fun j q => (match o.dst with | some d => (j == i || q.dst != some d) && (!(q.looksAt ops.toArray).contains d || ((j == i || (b.getD j 0).testBit i || (b.getD i 0).testBit j) && !(inR s m i && decide (j < s)))) | none => true) &&
      (inR s m i || inR s m j || stillOp E o.op || j == i || (b.getD i 0).testBit j || (b.getD j 0).testBit i || (soft E o.op && plain q.op && noOver E ops b (min i j) (max i j) (if i < j then o else q)))) 0 ops) 0 ops
def ghS (E : Env) (ops : List Oper) : Option Nat := (List.range ops.length).find? fun s => drawOk3 E ops s (s + runAl (ops.drop s))
def xs (l : List Oper) (t : List AV) : List AV := l.foldl (fun t o => match o.dst with | some d => t.set d .x | none => t) t
def evOps3 {R : Type} (E : Env) (C : Cal) (ops : List Oper) (s m : Nat) (st : St) (K : St → Option R) : Option R := evOpsD E C ops (b3 s m 0 (befL ops [])) 0 ops ⟨xs ((ops.take m).drop s) st.t, st.σ⟩ K

/-- The first region of a code, by its number. -/
def headId : Code → Option Nat
  | .region id _ _ => some id
  | .seq a _ => headId a
  | .block _ a => headId a
  | .loop a => headId a
  | _ => none
def lookAt (c : Code) (kp : List (Nat × List Nat × Nat)) : Option (List Nat × Nat) :=
  match headId c with
  | some id => look id kp
  | none => none
/-- What a loop's round leaves. -/
def rnd (q : Option (List Nat × Nat)) (e : Ex) (s : St) : Option (Ex × St) :=
  match e with
  | .normal => s.cut q fun s' => some (.normal, s')
  | e => some (e, s)

variable (LP : (St → Option (Ex × St)) → St → Option (Ex × St)) (kp : List (Nat × List Nat × Nat))

def evC : (c : Code) → {R : Type} → St → (Ex → St → Option R) → Option R
  | .skip, _, st, K => K .normal st
  | .region id ops draw, _, st, K => st.cut (look id kp) fun st => if !draw || drawOk E ops.toList then evOps E C ops.toList ops.toList st fun st' => K .normal st'
    else if drawOk2 E ops.toList then evOpsD E C ops.toList (befL ops.toList []) 0 ops.toList st fun st' => K .normal st'
    else match ghS E ops.toList with
      | some s => evOps3 E C ops.toList s (s + runAl (ops.toList.drop s)) st fun st' => K .normal st'
      | none => none
  | .seq a b, _, st, K => evC a st fun e st' => match e with
    | .normal => evC b st' K
    | e => K e st'
  | .cond c a b, _, st, K =>
    match st.ev c with
    | .b y =>
      match c with
      | .tmp d => cond y (evC a ⟨st.t.set d (.b true), st.σ⟩ K) (evC b ⟨st.t.set d (.b false), st.σ⟩ K)
      | _ => cond y (evC a st K) (evC b st K)
    | _ => none
  | .block id a, _, st, K => evC a st fun e st' => match e with
    | .exit id' => if id' = id then K .normal st' else K (.exit id') st'
    | e => K e st'
  | .loop a, _, st, K => st.cut (lookAt a kp) fun st => (LP (fun s => evC a s (rnd (lookAt a kp))) st).bind fun q => K q.1 q.2
  | .exit id, _, st, K => K (.exit id) st
  | .ret, _, st, K => K .ret st
  | _, _, _, _ => none

def evRes (st : St) : List ResultVar → (List AV → Option R) → Option R
  | [], K => K []
  | .tmp t :: rs, K => evRes st rs fun vs => K (st.t.getD t .x :: vs)
  | .cell a t :: rs, K => evLoad E t (st.t.getD a .x) st fun v => evRes st rs fun vs => K (v :: vs)

def one : List AV → AV
  | [v] => v
  | vs => .tup vs

/-- Slices that go back to the caller as its own: moved behind all roots. k: the roots that stay where they are. -/
def pack (k : Nat → Bool) : Sh → AV → List Root → Option (AV × List Root)
  | .sl e _, .nils, σ => some (.sl σ.length [] none, σ ++ [.live true false false e []])
  | .sl _ _, .sl r [] w, σ =>
    if k r then some (.sl r [] w, σ) else
    match σ.getD r .dead with
    | .live true false false e es => some (.sl σ.length [] w, σ.set r .dead ++ [.live true false false e es])
    | _ => none
  | .sl _ _, .imm z es, σ => some (.imm z es, σ)
  | .pt, .pt r [] 0 0, σ =>
    match σ.getD r .dead with
    | .live mv true false e es => some (.pt σ.length [] 0 0, σ.set r .dead ++ [.live mv true false e (renL (fun x => if x = r then some σ.length else some x) es)])
    | _ => none
  | .i _, .i k n, σ => some (.i k n, σ)
  | .b, .b y, σ => some (.b y, σ)
  | .s, .s y, σ => some (.s y, σ)
  | _, _, _ => none
def packL (k : Nat → Bool) : List Sh → List AV → List Root → Option (List AV × List Root)
  | [], [], σ => some ([], σ)
  | h :: hs, a :: as, σ => match pack k h a σ with
    | some (v, σ1) => match packL k hs as σ1 with
      | some (vs, σ2) => some (v :: vs, σ2)
      | none => none
    | none => none
  | _, _, _ => none
def packV (k : Nat → Bool) (h : Sh) (a : AV) (σ : List Root) : Option (AV × List Root) :=
  match h, a with
  | .agg l, .agg cs => (packL k l cs σ).map fun q => (.agg q.1, q.2)
  | h, a => pack k h a σ
def packT (k : Nat → Bool) : List Sh → List AV → List Root → Option (List AV × List Root)
  | [], [], σ => some ([], σ)
  | h :: hs, a :: as, σ => match packV k h a σ with
    | some (v, σ1) => match packT k hs as σ1 with
      | some (vs, σ2) => some (v :: vs, σ2)
      | none => none
    | none => none
  | _, _, _ => none
def packR (k : Nat → Bool) (h : Sh) (a : AV) (σ : List Root) : Option (AV × List Root) :=
  match h, a with
  | .tup l, .tup cs => (packT k l cs σ).map fun q => (.tup q.1, q.2)
  | h, a => packV k h a σ
/-- The first k roots and those from L on. -/
def dropF (k L r : Nat) : Option Nat := if r < k then some r else if L ≤ r then some (r - L + k) else none
mutual
/-- An answer in the form that is told: a whole row as a part of itself. -/
def coe : Sh → AV → List Root → AV
  | .pr _, .sl r [] none, σ => match σ.getD r .dead with
    | .live _ false _ _ es => .sl r [] (some (0, es.length))
    | _ => .sl r [] none
  | .agg l, .agg cs, σ => .agg (coeL l cs σ)
  | .tup l, .tup cs, σ => .tup (coeL l cs σ)
  | _, a, _ => a
def coeL : List Sh → List AV → List Root → List AV
  | h :: hs, a :: as, σ => coe h a σ :: coeL hs as σ
  | _, as, _ => as
end
/-- Rows that were handed in and are given up. -/
def goneIx : Nat → List RSh → List Nat
  | _, [] => []
  | n, .gone :: hs => n :: goneIx (n + 1) hs
  | n, _ :: hs => goneIx (n + 1) hs
def goneAll : List Nat → List Root → List Root
  | [], σ => σ
  | r :: rs, σ => goneAll rs (σ.set r .dead)
def ret (k : Nat) (gs : List Nat) (sh h : Sh) (a : AV) (σ : List Root) : Option (AV × List Root) :=
  if !σ.all nest0 || decide (σ.length < k) then none else (packR (fun r => decide (r < k) && !gs.contains r) h a σ).map fun q =>
    let ρ := (((goneAll gs q.2).take k) ++ ((goneAll gs q.2).drop σ.length)).map (renRoot (dropF k σ.length))
    (coe sh (ren (dropF k σ.length) q.1) ρ, ρ)

/-- A function's body, on trees. -/
def evBody (f : Nat) (args ins : List AV) : Option AV :=
  match E.pr f with
  | some p => p args
  | none =>
  match E.Φ f with
  | some fi =>
    match ins with
    | [] => evC E C LP fi.kp fi.code ⟨args ++ List.replicate (fi.ntmps - args.length) .u, []⟩ fun e st =>
        match e with
        | .normal | .ret => evRes E st fi.results fun vs => some (frz E st.σ 4 (one vs))
        | _ => none
    | _ => none
  | none => none
/-- A function's body that is handed memory. -/
def evBodyO (f : Nat) (args : List AV) (ins : List Root) : Option (AV × List Root) :=
  match E.po f with
  | some p => p args ins
  | none =>
  match E.Φ f with
  | some fi =>
    match lookK (kindsL args) fi.own with
    | some oi => if oi.kp.all (fun q => decide (ins.length ≤ cutK q.2.2)) then
        evC E C LP oi.kp fi.code ⟨args ++ List.replicate (fi.ntmps - args.length) .u, ins⟩ fun e st =>
          match e with
          | .normal | .ret => evRes E st fi.results fun vs => ret ins.length (goneIx 0 (oi.rs.take ins.length)) oi.sh fi.rty (one vs) st.σ
          | _ => none
      else none
    | none => none
  | none => none
end Go.Proofs.YtkicholhkoahhaaIT
