/- SameDB: the program's answer is the reference's, for all databases. No condition beyond what each theorem states. -/
import Derived.Test.YtkpmplggbbiebaaISameDBf
import Derived.Test.YtkpmplggbbiebaaItMk
namespace Go.Proofs.Ytkpmplggbbiebaa.ISameDB
open Go Go.Proofs.YtkpmplggbbiebaaIT
set_option linter.unusedSimpArgs false

/-! Rows that are held against each other, element by element. -/
def rowB (p : AV → AV → Bool) (l m : List AV) : Bool := decide (((l.length : Nat) : Int) = ((m.length : Nat) : Int)) && (List.range' 0 l.length).all fun i => p (l.getD i .x) (m.getD i .x)
theorem row_fin {p : AV → AV → Bool} {l m : List AV} {L : Int → Option AV} (step : l.length = m.length → ∀ i : Nat, i < l.length → L i = cond (p (l.getD i .x) (m.getD i .x)) (L ((i : Int) + 1)) (some (.b false))) (last : L l.length = some (.b true)) :
    cond (!decide (((l.length : Nat) : Int) = ((m.length : Nat) : Int))) (some (.b false)) (L 0) = some (.b (rowB p l m)) := by
  unfold rowB
  by_cases h : ((l.length : Nat) : Int) = ((m.length : Nat) : Int)
  · have := all_loop (L := L) (n := l.length) (p := fun i => p (l.getD i .x) (m.getD i .x)) (X := some (.b true)) (F := some (.b false)) (step (by omega)) last l.length 0 (by omega)
    rw [dT h, Bool.not_true, cond_false, Bool.true_and]
    refine this.trans ?_
    rw [cond_andb, Bool.and_true]
  · rw [dF h]; rfl
def sI (a b : AV) : Bool := decide ((a.cells.getD 0 .x).toI = (b.cells.getD 0 .x).toI)
def sS (a b : AV) : Bool := decide ((a.cells.getD 0 .x).toS = (b.cells.getD 0 .x).toS)
abbrev cI (a : AV) (k : Nat) : Int := (a.cells.getD k .x).toI
abbrev cS (a : AV) (k : Nat) : ByteArray := (a.cells.getD k .x).toS
abbrev cL (a : AV) (k : Nat) : List AV := (a.cells.getD k .x).toL
theorem spec_ints {l m : List AV} (h : Rw (T2 1048576) 1048576 l) (g : Rw (T2 1048576) 1048576 m) : den E 89 [(.imm 1 l), (.imm 1 m)] [] = some (.b (rowB sI l m)) := by
  have hl := h.1
  rw [f89_eq]
  refine row_fin (L := fun i => f89_l1 l m i) (fun he i hi => ?_) ?_
  · have hT := h.at hi
    have gT := g.at (i := i) (by omega)
    rw [f89_l1_eq, dT (show (i : Int) < ((l.length : Nat) : Int) by omega), cond_true, if_pos (by omega), Int.toNat_natCast, hT.ok, if_pos rfl, if_pos (by omega), gT.ok, if_pos rfl, w64 (x := (i : Int) + 1) (by omega) (by omega)]
    show cond (!sI (l.getD i .x) (m.getD i .x)) _ _ = _
    cases sI (l.getD i .x) (m.getD i .x) <;> rfl
  · show f89_l1 l m _ = _
    rw [f89_l1_eq, dF (Int.lt_irrefl _), cond_false]
theorem spec_ints2 {l m : List AV} (h : Rw (T2 1048576) 1048576 l) (g : Rw (T2 1048576) 1048576 m) : den E 40 [(.imm 1 l), (.imm 1 m)] [] = some (.b (rowB sI l m)) := by
  have hl := h.1
  rw [f40_eq]
  refine row_fin (L := fun i => f40_l1 l m i) (fun he i hi => ?_) ?_
  · have hT := h.at hi
    have gT := g.at (i := i) (by omega)
    rw [f40_l1_eq, dT (show (i : Int) < ((l.length : Nat) : Int) by omega), cond_true, if_pos (by omega), Int.toNat_natCast, hT.ok, if_pos rfl, if_pos (by omega), gT.ok, if_pos rfl, w64 (x := (i : Int) + 1) (by omega) (by omega)]
    show cond (!sI (l.getD i .x) (m.getD i .x)) _ _ = _
    cases sI (l.getD i .x) (m.getD i .x) <;> rfl
  · show f40_l1 l m _ = _
    rw [f40_l1_eq, dF (Int.lt_irrefl _), cond_false]
theorem impl_ints {l m : List AV} (h : Rw (T2 1048576) 1048576 l) (g : Rw (T2 1048576) 1048576 m) : den E 48 [(.imm 1 l), (.imm 1 m)] [] = some (.b (rowB sI l m)) := by
  have hl := h.1
  rw [f48_eq]
  refine row_fin (L := fun i => f48_l1 l m ((l.length : Nat) : Int) i) (fun he i hi => ?_) ?_
  · have hT := h.at hi
    have gT := g.at (i := i) (by omega)
    try dsimp only
    rw [f48_l1_eq, dT (show (i : Int) < ((l.length : Nat) : Int) by omega), cond_true, if_pos (by omega), Int.toNat_natCast, hT.ok, if_pos rfl, if_pos (by omega), gT.ok, if_pos rfl, w64 (x := (i : Int) + 1) (by omega) (by omega)]
    show cond (!sI (l.getD i .x) (m.getD i .x)) _ _ = _
    cases sI (l.getD i .x) (m.getD i .x) <;> rfl
  · try dsimp only
    rw [f48_l1_eq, dF (Int.lt_irrefl _), cond_false]
theorem spec_texts {l m : List AV} (h : Rw (T9 1048576) 1048576 l) (g : Rw (T9 1048576) 1048576 m) : den E 90 [(.imm 1 l), (.imm 1 m)] [] = some (.b (rowB sS l m)) := by
  have hl := h.1
  rw [f90_eq]
  refine row_fin (L := fun i => f90_l1 l m i) (fun he i hi => ?_) ?_
  · have hT := h.at hi
    have gT := g.at (i := i) (by omega)
    rw [f90_l1_eq, dT (show (i : Int) < ((l.length : Nat) : Int) by omega), cond_true, if_pos (by omega), Int.toNat_natCast, hT.ok, if_pos rfl, if_pos (by omega), gT.ok, if_pos rfl, w64 (x := (i : Int) + 1) (by omega) (by omega)]
    show cond (!sS (l.getD i .x) (m.getD i .x)) _ _ = _
    cases sS (l.getD i .x) (m.getD i .x) <;> rfl
  · show f90_l1 l m _ = _
    rw [f90_l1_eq, dF (Int.lt_irrefl _), cond_false]
theorem impl_texts {l m : List AV} (h : Rw (T9 1048576) 1048576 l) (g : Rw (T9 1048576) 1048576 m) : den E 140 [(.imm 1 l), (.imm 1 m)] [] = some (.b (rowB sS l m)) := by
  have hl := h.1
  rw [f140_eq]
  refine row_fin (L := fun i => f140_l1 l m ((l.length : Nat) : Int) i) (fun he i hi => ?_) ?_
  · have hT := h.at hi
    have gT := g.at (i := i) (by omega)
    try dsimp only
    rw [f140_l1_eq, dT (show (i : Int) < ((l.length : Nat) : Int) by omega), cond_true, if_pos (by omega), Int.toNat_natCast, hT.ok, if_pos rfl, if_pos (by omega), gT.ok, if_pos rfl, w64 (x := (i : Int) + 1) (by omega) (by omega)]
    show cond (!sS (l.getD i .x) (m.getD i .x)) _ _ = _
    cases sS (l.getD i .x) (m.getD i .x) <;> rfl
  · try dsimp only
    rw [f140_l1_eq, dF (Int.lt_irrefl _), cond_false]

/-! Blocks. -/
def sBl (a b : AV) : Bool := decide (cI a 0 = cI b 0) && (decide (cI a 1 = cI b 1) && (decide ((a.cells.getD 2 .x).toB = (b.cells.getD 2 .x).toB) && rowB sS (cL a 3) (cL b 3)))
theorem spec_block {a b : AV} (h : T202 1048576 a) (g : T202 1048576 b) : den E 134 [a, b] [] = some (.b (sBl a b)) := by
  obtain ⟨a0, a1, a2, a3, rfl, _, _, ha, _⟩ := h
  obtain ⟨b0, b1, b2, b3, rfl, _, _, hb, _⟩ := g
  have hl := ha.1
  rw [f134_eq]
  have key : cond (!decide (((a3.length : Nat) : Int) = ((b3.length : Nat) : Int))) (some (.b false)) (f134_l1 0 a0 a1 a2 a3 b0 b1 b2 b3) = some (.b (rowB sS a3 b3)) := by
    refine row_fin (L := fun i => f134_l1 i a0 a1 a2 a3 b0 b1 b2 b3) (fun he i hi => ?_) ?_
    · have hT := ha.at hi
      have gT := hb.at (i := i) (by omega)
      try dsimp only
      rw [f134_l1_eq, dT (show (i : Int) < ((a3.length : Nat) : Int) by omega), cond_true, if_pos (by omega), Int.toNat_natCast, hT.ok, if_pos rfl, if_pos (by omega), gT.ok, if_pos rfl, w64 (x := (i : Int) + 1) (by omega) (by omega)]
      show cond (!sS (a3.getD i .x) (b3.getD i .x)) _ _ = _
      cases sS (a3.getD i .x) (b3.getD i .x) <;> rfl
    · try dsimp only
      rw [f134_l1_eq, dF (Int.lt_irrefl _), cond_false]
  rw [key]
  show cond ((!decide (a0 = b0)) == false) (cond ((!decide (a1 = b1)) == false) (cond ((!decide (a2 = b2)) == false) _ _) _) _ = some (AV.b (decide (a0 = b0) && (decide (a1 = b1) && (decide (a2 = b2) && rowB sS a3 b3))))
  cases decide (a0 = b0) <;> cases decide (a1 = b1) <;> cases decide (a2 = b2) <;> rfl
theorem impl_block {a b : AV} (h : T202 1048576 a) (g : T202 1048576 b) : den E 139 [a, b] [] = some (.b (sBl a b)) := by
  obtain ⟨a0, a1, a2, a3, rfl, _, _, ha, _⟩ := h
  obtain ⟨b0, b1, b2, b3, rfl, _, _, hb, _⟩ := g
  rw [f139_eq, impl_texts ha hb, bSh_b]
  show cond (decide (a0 = b0) == true) (cond (decide (a1 = b1) == true) (cond (decide (a2 = b2) == true) _ _) _) _ = some (AV.b (decide (a0 = b0) && (decide (a1 = b1) && (decide (a2 = b2) && rowB sS a3 b3))))
  cases decide (a0 = b0) <;> cases decide (a1 = b1) <;> cases decide (a2 = b2) <;> rfl

/-! Arrays. -/
abbrev flV (d b p : Int) (l : List AV) (fu ke : Int) (o : Bool) (op : Int) : AV := .agg [(.i .i64 d), (.i .i64 b), (.i .i64 p), (.imm 4 l), (.i .i64 fu), (.i .i64 ke), (.b o), (.i .i64 op)]
def sFl (d b p : Int) (l : List AV) (fu ke : Int) (o : Bool) (op : Int) (d' b' p' : Int) (l' : List AV) (fu' ke' : Int) (o' : Bool) (op' : Int) : Bool :=
  (decide (d = d') && (decide (b = b') && (decide (p = p') && true))) && (rowB sBl l l' && (decide (fu = fu') && (decide (ke = ke') && (decide (o = o') && decide (op = op')))))
section
variable {d b p fu ke op d' b' p' fu' ke' op' : Int} {l l' : List AV} {o o' : Bool}
theorem spec_flash (h : Rw (T202 1048576) 1048576 l) (g : Rw (T202 1048576) 1048576 l') : den E 88 [flV d b p l fu ke o op, flV d' b' p' l' fu' ke' o' op'] [] = some (.b (sFl d b p l fu ke o op d' b' p' l' fu' ke' o' op')) := by
  have hl := h.1
  rw [f88_eq]
  have key : cond (!decide (((l.length : Nat) : Int) = ((l'.length : Nat) : Int))) (some (.b false)) (f88_l1 0 d b p l fu ke o op d' b' p' l' fu' ke' o' op') = some (.b (rowB sBl l l')) := by
    refine row_fin (L := fun i => f88_l1 i d b p l fu ke o op d' b' p' l' fu' ke' o' op') (fun he i hi => ?_) ?_
    · have hT := h.at hi
      have gT := g.at (i := i) (by omega)
      try dsimp only
      rw [f88_l1_eq, dT (show (i : Int) < ((l.length : Nat) : Int) by omega), cond_true, if_pos (by omega), Int.toNat_natCast, hT.ok, if_pos rfl, if_pos (by omega), gT.ok, if_pos rfl, hT.eta, gT.eta, spec_block hT gT, bSh_b, w64 (x := (i : Int) + 1) (by omega) (by omega)]
      cases sBl (l.getD i .x) (l'.getD i .x) <;> rfl
    · try dsimp only
      rw [f88_l1_eq, dF (Int.lt_irrefl _), cond_false]
  unfold sFl
  generalize f88_l1 0 d b p l fu ke o op d' b' p' l' fu' ke' o' op' = X at key ⊢
  have key2 : rowB sBl l l' = (decide (((l.length : Nat) : Int) = ((l'.length : Nat) : Int)) && rowB sBl l l') := by
    unfold rowB; cases decide (((l.length : Nat) : Int) = ((l'.length : Nat) : Int)) <;> rfl
  rw [key2]
  revert key
  cases (decide (d = d') && (decide (b = b') && (decide (p = p') && true))) <;> cases decide (((l.length : Nat) : Int) = ((l'.length : Nat) : Int)) <;> cases decide (fu = fu') <;> cases decide (ke = ke') <;> cases decide (o = o') <;> cases decide (op = op') <;> intro key <;> first | rfl | (simp only [Bool.true_and, Bool.and_true, Bool.and_false]; first | exact key | rfl)
theorem impl_flash (h : Rw (T202 1048576) 1048576 l) (g : Rw (T202 1048576) 1048576 l') : den E 94 [flV d b p l fu ke o op, flV d' b' p' l' fu' ke' o' op'] [] = some (.b (sFl d b p l fu ke o op d' b' p' l' fu' ke' o' op')) := by
  have hl := h.1
  have key : den E 138 [(.imm 4 l), (.imm 4 l'), (.fn 139 [])] [] = some (.b (rowB sBl l l')) := by
    rw [f138q1_eq]
    refine row_fin (L := fun i => f138q1_l1 l' l ((l.length : Nat) : Int) i) (fun he i hi => ?_) ?_
    · have hT := h.at hi
      have gT := g.at (i := i) (by omega)
      try dsimp only
      rw [f138q1_l1_eq, dT (show (i : Int) < ((l.length : Nat) : Int) by omega), cond_true, if_pos (by omega), Int.toNat_natCast, hT.ok, if_pos rfl, if_pos (by omega), gT.ok, if_pos rfl, hT.eta, gT.eta, impl_block hT gT, bSh_b, w64 (x := (i : Int) + 1) (by omega) (by omega)]
      cases sBl (l.getD i .x) (l'.getD i .x) <;> rfl
    · try dsimp only
      rw [f138q1_l1_eq, dF (Int.lt_irrefl _), cond_false]
  rw [f94_eq, key, bSh_b]
  unfold sFl
  simp only [toB_b]
  cases (decide (d = d') && (decide (b = b') && (decide (p = p') && true))) <;> cases rowB sBl l l' <;> cases decide (fu = fu') <;> cases decide (ke = ke') <;> cases decide (o = o') <;> cases decide (op = op') <;> rfl
end

/-! Zones, devices. -/
def sZo (a b : AV) : Bool := decide (cI a 0 = cI b 0) && (decide (cI a 2 = cI b 2) && (decide (cI a 3 = cI b 3) && (rowB sI (cL a 1) (cL b 1) && (rowB sI (cL a 4) (cL b 4) && rowB sS (cL a 5) (cL b 5)))))
theorem impl_zone {a b : AV} (h : T167 1048576 a) (g : T167 1048576 b) : den E 96 [a, b] [] = some (.b (sZo a b)) := by
  obtain ⟨a0, a1, a2, a3, a4, a5, rfl, _, h1, _, _, h4, h5, _⟩ := h
  obtain ⟨b0, b1, b2, b3, b4, b5, rfl, _, g1, _, _, g4, g5, _⟩ := g
  rw [f96_eq, impl_ints h1 g1, impl_ints h4 g4, impl_texts h5 g5]
  simp only [bSh_b, toB_b]
  show cond (decide (a0 = b0) == true) (cond (rowB sI a1 b1 == true) (cond (decide (a2 = b2) == true) (cond (decide (a3 = b3) == true) (cond (rowB sI a4 b4 == true) _ _) _) _) _) _ = some (AV.b (decide (a0 = b0) && (decide (a2 = b2) && (decide (a3 = b3) && (rowB sI a1 b1 && (rowB sI a4 b4 && rowB sS a5 b5))))))
  cases decide (a0 = b0) <;> cases decide (a2 = b2) <;> cases decide (a3 = b3) <;> cases rowB sI a1 b1 <;> cases rowB sI a4 b4 <;> rfl
abbrev dvV (d b p : Int) (l : List AV) (fu ke : Int) (o : Bool) (op : Int) (zs : List AV) : AV := .agg [(.i .i64 d), (.i .i64 b), (.i .i64 p), (.imm 4 l), (.i .i64 fu), (.i .i64 ke), (.b o), (.i .i64 op), (.imm 6 zs)]
section
variable {d b p fu ke op d' b' p' fu' ke' op' : Int} {l l' zs zs' : List AV} {o o' : Bool}
theorem spec_dev (h : Rw (T202 1048576) 1048576 l) (g : Rw (T202 1048576) 1048576 l') (hz : Rw (T167 1048576) 1048576 zs) (gz : Rw (T167 1048576) 1048576 zs') :
    den E 37 [dvV d b p l fu ke o op zs, dvV d' b' p' l' fu' ke' o' op' zs'] [] = some (.b (sFl d b p l fu ke o op d' b' p' l' fu' ke' o' op' && rowB sZo zs zs')) := by
  have hl := hz.1
  have hf := spec_flash (d := d) (b := b) (p := p) (fu := fu) (ke := ke) (op := op) (o := o) (d' := d') (b' := b') (p' := p') (fu' := fu') (ke' := ke') (op' := op') (o' := o') h g
  simp only [flV] at hf
  rw [f37_eq, hf, bSh_b]
  have key : cond (!decide (((zs.length : Nat) : Int) = ((zs'.length : Nat) : Int))) (some (.b false)) (f37_l1 0 d b p l fu ke o op zs d' b' p' l' fu' ke' o' op' zs') = some (.b (rowB sZo zs zs')) := by
    refine row_fin (L := fun i => f37_l1 i d b p l fu ke o op zs d' b' p' l' fu' ke' o' op' zs') (fun he i hi => ?_) ?_
    · have hT := hz.at hi
      have gT := gz.at (i := i) (by omega)
      try dsimp only
      rw [f37_l1_eq, dT (show (i : Int) < ((zs.length : Nat) : Int) by omega), cond_true, if_pos (by omega), Int.toNat_natCast, hT.ok, if_pos rfl, if_pos (by omega), gT.ok, if_pos rfl, w64 (x := (i : Int) + 1) (by omega) (by omega)]
      obtain ⟨a0, a1, a2, a3, a4, a5, he1, _, h1, _, _, h4, h5, _⟩ := hT
      obtain ⟨b0, b1, b2, b3, b4, b5, he2, _, g1, _, _, g4, g5, _⟩ := gT
      have e1 : ∀ (X Y : Option AV), sZo (zs.getD i .x) (zs'.getD i .x) = (decide (a0 = b0) && (decide (a2 = b2) && (decide (a3 = b3) && (rowB sI a1 b1 && (rowB sI a4 b4 && rowB sS a5 b5))))) := fun _ _ => by rw [he1, he2]; rfl
      rw [e1 none none, he1, he2]
      show cond ((!decide (a0 = b0)) == false) (cond ((!decide (a2 = b2)) == false) (cond ((!decide (a3 = b3)) == false) (bSh .b (den E 89 [(.imm 1 a1), (.imm 1 b1)] []) fun q1 => cond ((!q1.toB) == false) (bSh .b (den E 89 [(.imm 1 a4), (.imm 1 b4)] []) fun q2 => cond ((!q2.toB) == false) (bSh .b (den E 90 [(.imm 1 a5), (.imm 1 b5)] []) fun q3 => _) _) _) _) _) _ = _
      rw [spec_ints h1 g1, spec_ints h4 g4, spec_texts h5 g5]
      simp only [bSh_b, toB_b]
      cases decide (a0 = b0) <;> cases decide (a2 = b2) <;> cases decide (a3 = b3) <;> cases rowB sI a1 b1 <;> cases rowB sI a4 b4 <;> cases rowB sS a5 b5 <;> rfl
    · try dsimp only
      rw [f37_l1_eq, dF (Int.lt_irrefl _), cond_false]
  rw [key]
  cases sFl d b p l fu ke o op d' b' p' l' fu' ke' o' op' <;> rfl
theorem impl_dev (h : Rw (T202 1048576) 1048576 l) (g : Rw (T202 1048576) 1048576 l') (hz : Rw (T167 1048576) 1048576 zs) (gz : Rw (T167 1048576) 1048576 zs') :
    den E 45 [dvV d b p l fu ke o op zs, dvV d' b' p' l' fu' ke' o' op' zs'] [] = some (.b (sFl d b p l fu ke o op d' b' p' l' fu' ke' o' op' && rowB sZo zs zs')) := by
  have hl := hz.1
  have hf := impl_flash (d := d) (b := b) (p := p) (fu := fu) (ke := ke) (op := op) (o := o) (d' := d') (b' := b') (p' := p') (fu' := fu') (ke' := ke') (op' := op') (o' := o') h g
  simp only [flV] at hf
  have key : den E 95 [(.imm 6 zs), (.imm 6 zs'), (.fn 96 [])] [] = some (.b (rowB sZo zs zs')) := by
    rw [f95q1_eq]
    refine row_fin (L := fun i => f95q1_l1 zs' zs ((zs.length : Nat) : Int) i) (fun he i hi => ?_) ?_
    · have hT := hz.at hi
      have gT := gz.at (i := i) (by omega)
      try dsimp only
      rw [f95q1_l1_eq, dT (show (i : Int) < ((zs.length : Nat) : Int) by omega), cond_true, if_pos (by omega), Int.toNat_natCast, hT.ok, if_pos rfl, if_pos (by omega), gT.ok, if_pos rfl, hT.eta, gT.eta, impl_zone hT gT, bSh_b, w64 (x := (i : Int) + 1) (by omega) (by omega)]
      cases sZo (zs.getD i .x) (zs'.getD i .x) <;> rfl
    · try dsimp only
      rw [f95q1_l1_eq, dF (Int.lt_irrefl _), cond_false]
  rw [f45_eq, hf, bSh_b, key, bSh_b]
  simp only [toB_b]
  cases sFl d b p l fu ke o op d' b' p' l' fu' ke' o' op' <;> rfl
end

/-! Versions, records. -/
def sTa (a b : AV) : Bool := decide (cI a 0 = cI b 0) && (decide (cI a 1 = cI b 1) && (decide (cI a 2 = cI b 2) && (decide (cI a 3 = cI b 3) && (decide (cI a 4 = cI b 4) && (decide (cS a 5 = cS b 5) && (decide (cS a 6 = cS b 6) && (decide (cI a 7 = cI b 7) && (decide (cI a 8 = cI b 8) && (decide (cI a 9 = cI b 9) && true)))))))))
def sRe (a b : AV) : Bool := decide (cS a 0 = cS b 0) && (decide (cI a 1 = cI b 1) && (decide (cI a 2 = cI b 2) && (decide (cS a 3 = cS b 3) && (decide (cS a 4 = cS b 4) && true))))
section
variable {n z s n' z' s' : Int} {m m' : List AV}
theorem spec_ver (h : Rw (T169 1048576) 1048576 m) (g : Rw (T169 1048576) 1048576 m') : den E 38 [.agg [(.i .i64 n), (.i .i64 z), (.i .i64 s), (.imm 10 m)], .agg [(.i .i64 n'), (.i .i64 z'), (.i .i64 s'), (.imm 10 m')]] [] =
    some (.b (decide (n = n') && (decide (z = z') && (decide (s = s') && rowB sTa m m')))) := by
  have hl := h.1
  rw [f38_eq]
  have key : cond (!decide (((m.length : Nat) : Int) = ((m'.length : Nat) : Int))) (some (.b false)) (f38_l1 0 n z s m n' z' s' m') = some (.b (rowB sTa m m')) := by
    refine row_fin (L := fun i => f38_l1 i n z s m n' z' s' m') (fun he i hi => ?_) ?_
    · have hT := h.at hi
      have gT := g.at (i := i) (by omega)
      try dsimp only
      rw [f38_l1_eq, dT (show (i : Int) < ((m.length : Nat) : Int) by omega), cond_true, if_pos (by omega), Int.toNat_natCast, hT.ok, if_pos rfl, if_pos (by omega), gT.ok, if_pos rfl, w64 (x := (i : Int) + 1) (by omega) (by omega)]
      show cond (!sTa (m.getD i .x) (m'.getD i .x)) _ _ = _
      cases sTa (m.getD i .x) (m'.getD i .x) <;> rfl
    · try dsimp only
      rw [f38_l1_eq, dF (Int.lt_irrefl _), cond_false]
  rw [key]
  cases decide (n = n') <;> cases decide (z = z') <;> cases decide (s = s') <;> rfl
theorem impl_ver (h : Rw (T169 1048576) 1048576 m) (g : Rw (T169 1048576) 1048576 m') : den E 46 [.agg [(.i .i64 n), (.i .i64 z), (.i .i64 s), (.imm 10 m)], .agg [(.i .i64 n'), (.i .i64 z'), (.i .i64 s'), (.imm 10 m')]] [] =
    some (.b (decide (n = n') && (decide (z = z') && (decide (s = s') && rowB sTa m m')))) := by
  have hl := h.1
  have key : den E 97 [(.imm 10 m), (.imm 10 m')] [] = some (.b (rowB sTa m m')) := by
    rw [f97_eq]
    refine row_fin (L := fun i => f97_l1 m m' ((m.length : Nat) : Int) i) (fun he i hi => ?_) ?_
    · have hT := h.at hi
      have gT := g.at (i := i) (by omega)
      try dsimp only
      rw [f97_l1_eq, dT (show (i : Int) < ((m.length : Nat) : Int) by omega), cond_true, if_pos (by omega), Int.toNat_natCast, hT.ok, if_pos rfl, if_pos (by omega), gT.ok, if_pos rfl, w64 (x := (i : Int) + 1) (by omega) (by omega)]
      show cond (!sTa (m.getD i .x) (m'.getD i .x)) _ _ = _
      cases sTa (m.getD i .x) (m'.getD i .x) <;> rfl
    · try dsimp only
      rw [f97_l1_eq, dF (Int.lt_irrefl _), cond_false]
  rw [f46_eq, key, bSh_b]
  simp only [toB_b]
  cases decide (n = n') <;> cases decide (z = z') <;> cases decide (s = s') <;> rfl
end
theorem spec_recs {l m : List AV} (h : Rw (T63 1048576) 1048576 l) (g : Rw (T63 1048576) 1048576 m) : den E 39 [(.imm 5 l), (.imm 5 m)] [] = some (.b (rowB sRe l m)) := by
  have hl := h.1
  rw [f39_eq]
  refine row_fin (L := fun i => f39_l1 l m i) (fun he i hi => ?_) ?_
  · have hT := h.at hi
    have gT := g.at (i := i) (by omega)
    try dsimp only
    rw [f39_l1_eq, dT (show (i : Int) < ((l.length : Nat) : Int) by omega), cond_true, if_pos (by omega), Int.toNat_natCast, hT.ok, if_pos rfl, if_pos (by omega), gT.ok, if_pos rfl, w64 (x := (i : Int) + 1) (by omega) (by omega)]
    show cond (!sRe (l.getD i .x) (m.getD i .x)) _ _ = _
    cases sRe (l.getD i .x) (m.getD i .x) <;> rfl
  · try dsimp only
    rw [f39_l1_eq, dF (Int.lt_irrefl _), cond_false]
theorem impl_recs {l m : List AV} (h : Rw (T63 1048576) 1048576 l) (g : Rw (T63 1048576) 1048576 m) : den E 47 [(.imm 5 l), (.imm 5 m)] [] = some (.b (rowB sRe l m)) := by
  have hl := h.1
  rw [f47_eq]
  refine row_fin (L := fun i => f47_l1 l m ((l.length : Nat) : Int) i) (fun he i hi => ?_) ?_
  · have hT := h.at hi
    have gT := g.at (i := i) (by omega)
    try dsimp only
    rw [f47_l1_eq, dT (show (i : Int) < ((l.length : Nat) : Int) by omega), cond_true, if_pos (by omega), Int.toNat_natCast, hT.ok, if_pos rfl, if_pos (by omega), gT.ok, if_pos rfl, w64 (x := (i : Int) + 1) (by omega) (by omega)]
    show cond (!sRe (l.getD i .x) (m.getD i .x)) _ _ = _
    cases sRe (l.getD i .x) (m.getD i .x) <;> rfl
  · try dsimp only
    rw [f47_l1_eq, dF (Int.lt_irrefl _), cond_false]

theorem exq_cond {c : Bool} {A B : Option AV} (hA : ∃ q : Bool, A = some (.b q)) (hB : ∃ q : Bool, B = some (.b q)) : ∃ q : Bool, cond c A B = some (.b q) := by
  cases c
  · exact hB
  · exact hA
theorem answers {a b : AV} (h : T36 1048576 a) (g : T36 1048576 b) : ∃ q : Bool, den E 8 [a, b] [] = some (.b q) ∧ den E 10 [a, b] [] = some (.b q) := by
  obtain ⟨a0, a1, a2, a3, a4, a5, a6, a7, a8, a9, a10, a11, a12, a13, a14, a15, a16, a17, a18, rfl, u0, u1, u2, u3, u4, u5, u7, u8, u9, u10, u11, u12, u13, u14, u15, u16, u17, u18, _⟩ := h
  obtain ⟨b0, b1, b2, b3, b4, b5, b6, b7, b8, b9, b10, b11, b12, b13, b14, b15, b16, b17, b18, rfl, v0, v1, v2, v3, v4, v5, v7, v8, v9, v10, v11, v12, v13, v14, v15, v16, v17, v18, _⟩ := g
  have s1 := spec_dev (d := a0) (b := a1) (p := a2) (fu := a4) (ke := a5) (o := a6) (op := a7) (d' := b0) (b' := b1) (p' := b2) (fu' := b4) (ke' := b5) (o' := b6) (op' := b7) u3 v3 u8 v8
  have i1 := impl_dev (d := a0) (b := a1) (p := a2) (fu := a4) (ke := a5) (o := a6) (op := a7) (d' := b0) (b' := b1) (p' := b2) (fu' := b4) (ke' := b5) (o' := b6) (op' := b7) u3 v3 u8 v8
  simp only [dvV] at s1 i1
  have s2 := spec_ver (n := a9) (z := a10) (s := a11) (n' := b9) (z' := b10) (s' := b11) u12 v12
  have i2 := impl_ver (n := a9) (z := a10) (s := a11) (n' := b9) (z' := b10) (s' := b11) u12 v12
  rw [f8_eq, f10_eq, s1, i1, s2, i2, spec_recs u15 v15, impl_recs u15 v15, spec_ints2 u18 v18, impl_ints u18 v18]
  simp only [bSh_b, toB_b]
  simp only [and_self]
  repeat' (first | exact ⟨_, rfl⟩ | refine exq_cond ?_ ?_)

theorem pure (ea : AV) (h : T36 9223372036854775807 ea) (eb : AV) (g : T36 9223372036854775807 eb) : den E 3 [ea, eb] [] = some (.b true) := by
  obtain ⟨t, ht, hq⟩ := sz7 h 1048576 (by omega) (by omega)
  have hh := h
  have gg := g
  obtain ⟨a0, a1, a2, a3, a4, a5, a6, a7, a8, a9, a10, a11, a12, a13, a14, a15, a16, a17, a18, rfl, _⟩ := h
  obtain ⟨b0, b1, b2, b3, b4, b5, b6, b7, b8, b9, b10, b11, b12, b13, b14, b15, b16, b17, b18, rfl, _⟩ := g
  rw [f3_eq, ht]
  simp only [bSh_i, toI_i]
  rcases hq with hq | ⟨h0, h1, hT⟩
  · simp only [hq, decide_true, cond_true]
  have hn : ¬ t < 0 := by omega
  simp only [hn, decide_false, cond_false]
  obtain ⟨t2, ht2, hq2⟩ := sz7 gg t (by omega) (by omega)
  rw [ht2]
  simp only [bSh_i, toI_i]
  rcases hq2 with hq2 | ⟨h2, h3, hV⟩
  · simp only [hq2, decide_true, cond_true]
  have hn2 : ¬ t2 < 0 := by omega
  simp only [hn2, decide_false, cond_false]
  have e0 := to9 hT
  have q0 := eq11 hT
  have e1 := to9 hV
  have q1 := eq11 hV
  obtain ⟨q, g1, g2⟩ := answers hT hV
  simp only [e0, q0, e1, q1, g1, g2, okC_nil, okC_agg, okC_i, okC_b, okC_s, okC_imm, okL_i, okL_b, okL_s, okL_sl, okS_i, okS_b, okS_s, okS_sl, okS_agg, okS_tup, okS_nil, okS_cons, cells_agg, cells_i, cells_b, cells_s, cells_imm, toI_i, toB_b, toS_s, toL_imm, nth_agg, nth_tup, put_agg, put_i, put_b, put_s, put_imm, setCells, List.getD_cons_zero, List.getD_cons_succ, bSh_b, bSh_i, bSh_s, bSh_sl, bSh_some, cond_true, cond_false, decide_true, decide_false, Int.toNat_natCast, Nat.zero_add, Nat.reduceAdd, beq_self_eq_true, Bool.and_true, Bool.true_and, if_true, Bool.false_eq_true, if_false, List.set_cons_zero, List.set_cons_succ, Bool.not_true, Bool.not_false, Bool.and_self]
  try (cases q <;> rfl)
end Go.Proofs.Ytkpmplggbbiebaa.ISameDB
