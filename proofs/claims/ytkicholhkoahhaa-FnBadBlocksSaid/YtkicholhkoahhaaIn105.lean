/- slices.Insert of one element into a row of the call's own: the library's text, walked. No condition beyond what each theorem states. -/
import Derived.Shelf.Spec.SlicesInsertGrow
import Derived.Maps.AppendAt
import Derived.Laws.CopyRow
import Derived.Test.YtkicholhkoahhaaChecked
import Derived.Test.YtkicholhkoahhaaItIn
set_option linter.unusedVariables false
set_option linter.unusedSimpArgs false
namespace Go.Proofs.YtkicholhkoahhaaIns105
open Go Go.RowKit Go.Lib

theorem run_copy_rowZ {P : Program} (w : World) (dT sT ty elem : TypeId) (g o dLen dCap : Nat) (a : Addr) (sLen sCap : Nat) (cur : Array Value) (t : TypeId) (cs : List Value) (z k : Nat)
    (hu : P.underlying dT = some (.slice elem)) (hs : (P.info? elem).map (·.size) = some z)
    (hg : w.heap[g]? = some (.cells cur t (0, 0))) (hk : k = Nat.min sLen dLen) (hn : cs.length = k * z)
    (hsrc : ∀ j v, cs[j]? = some v → w.cell? (a.add j) = some v) (hfit : o + cs.length ≤ cur.size) (h1 : ∀ v ∈ cs, v.oneCell' = true) :
    (Builtin.copy_ #[dT, sT] ty #[.slice (some ⟨g, o, none⟩) dLen dCap, .slice (some a) sLen sCap]).run P w =
      .ok (goInt k) (w.setRow g (cur.toList.take o ++ cs ++ cur.toList.drop (o + cs.length)).toArray) := by
  have hl := run_loadCells_list (P := P) w a cs hsrc
  have hst := run_storeCells_at P g o t cs 0 cur w hg (by simpa using hfit) h1
  cases hq : P.info? elem with
  | none => simp [hq] at hs
  | some i =>
    have hi : i.size = z := by simpa [hq] using hs
    rw [hn] at hl
    simp [Builtin.copy_, run_underlying hu, Builtin.lenOf, Builtin.firstCells, sizeOf, typeInfo, hq, hi, ← hk, hl, hst]

theorem info_e : (Try.prog.info? 2).map (fun i => (i.zero, i.size, i.bytes)) = some (some (Value.int .i64 0), 1, 8) := by kernel_rfl
theorem und_s : Try.prog.underlying 43 = some (.slice 2) := Try.underlying43
theorem mixed : Try.prog.follows .mixedOrders = true := by kernel_rfl
theorem size_e : ∀ w, (Go.sizeOf 2).run Try.prog w = .ok 1 w := Try.sizeOf2

/-- What is told of the inserted element. -/
structure New (w : World) (b2 : Nat) (news : List Value) : Prop where
  blk : ∃ cur : Array Value, w.heap[b2]? = some (.cells cur 2 (0, 0)) ∧ 1 ≤ cur.size ∧ cur.toList.take 1 = news
  len : news.length = 1
  one : ∀ v ∈ news, v.oneCell' = true
theorem New.cell {w : World} {b2 : Nat} {news : List Value} (h : New w b2 news) : ∀ j v, news[j]? = some v → w.cell? ((⟨b2, 0, none⟩ : Addr).add j) = some v := by
  intro j v hj
  obtain ⟨cur, h1, h2, h3⟩ := h.blk
  have hjl : j < 1 := by rw [← h.len]; exact (List.getElem?_eq_some_iff.1 hj).1
  rw [← h3, List.getElem?_take, if_pos hjl, Array.getElem?_toList] at hj
  rw [Addr.add_lit]
  simp only [World.cell?, h1, Nat.zero_add]
  exact hj

set_option maxHeartbeats 4000000 in
set_option maxRecDepth 100000 in
/-- At the end. -/
theorem ins_end (w : World) (x0 : Value) (n : Nat) (vals : List Value) (own : w.ownsRow 0 2 1 x0 n vals) (b2 cap2 : Nat) (news : List Value) (hw : New w b2 news) (hc2 : 1 ≤ cap2) (hbig : (n + 1) * 8 ≤ 140737488355328) :
    Calls Try.prog 105 #[x0, .int .i64 n, .slice (some ⟨b2, 0, none⟩) 1 cap2] w fun e w' => ∃ z', e = .returned z' ∧ w'.ownsRow 0 2 1 z' (n + 1) (vals ++ news) ∧ w.grownBy w' x0.ownBlock ∧ (z'.ownBlock = x0.ownBlock ∨ z'.ownBlock = some w.heap.size) := by
  obtain ⟨i0, hi0, hz0, hzs, hzb⟩ := info_parts info_e
  have hu := und_s
  obtain ⟨z', w', hrun, hown, hgr, _, hat⟩ := run_append_own_at (P := Try.prog) w 0 43 43 2 i0 (Value.int .i64 0) 1 8 hu hi0 hz0 hzs hzb rfl (by decide) x0 n vals own ⟨b2, 0, none⟩ 1 cap2 news (by rw [hw.len]) hw.cell hw.one (by simp only [maxLen]; omega) hbig (Nat.zero_le _)
  have t0 := Try.underlying0; have a0 := Try.isAgg0; have z0 := Try.sizeOf0; have v0 := Try.zeroValue0
  have t3 := Try.underlying3; have a3 := Try.isAgg3; have z3 := Try.sizeOf3; have v3 := Try.zeroValue3
  have t4 := Try.underlying4; have a4 := Try.isAgg4; have z4 := Try.sizeOf4; have v4 := Try.zeroValue4
  have tT := Try.underlying43; have aT := Try.isAgg43; have zT := Try.sizeOf43; have vT := Try.zeroValue43
  have zE := size_e
  have u0 := run_underlying Try.underlying0; have u3 := run_underlying Try.underlying3; have u4 := run_underlying Try.underlying4; have uT := run_underlying Try.underlying43
  have hmix := mixed
  have hfin : ∃ z, Ending.returned z' = .returned z ∧ w'.ownsRow 0 2 1 z (n + 1) (vals ++ news) ∧ w.grownBy w' x0.ownBlock ∧ (z.ownBlock = x0.ownBlock ∨ z.ownBlock = some w.heap.size) := ⟨z', rfl, hown, hgr, hat⟩
  have hnc : x0 = .slice none 0 0 ∧ n = 0 ∨ ∃ g cap, x0 = .slice (some ⟨g, 0, none⟩) n cap ∧ n ≤ cap ∧ cap ≤ maxLen := by
    rcases own.2 with ⟨h1, h2⟩ | ⟨g, cap, cur, h1, _, _, h4, h5, _⟩
    · exact .inl ⟨h1, h2⟩
    · exact .inr ⟨g, cap, h1, h4, h5⟩
  clear hown hgr hat own hw hbig hi0 hz0 hzs hzb hu
  generalize hQ : (fun (e : Ending) (w'' : World) => ∃ z', e = .returned z' ∧ w''.ownsRow 0 2 1 z' (n + 1) (vals ++ news) ∧ w.grownBy w'' x0.ownBlock ∧ (z'.ownBlock = x0.ownBlock ∨ z'.ownBlock = some w.heap.size)) = Q
  have hQ' : Q (.returned z') w' := by rw [← hQ]; exact hfin
  clear hQ hfin
  rcases hnc with ⟨rfl, rfl⟩ | ⟨g, cap, rfl, h4, h5⟩
  · go_enter Try.func105, Try.ntmps105
    go_wp2_with (at_builtin; refine Lib.wpList_append_run _ rfl _ _ _ _ rfl _ _ rfl rfl _ _ hrun ?_)
    all_goals exact hQ'
  · simp only [maxLen] at h5
    go_enter Try.func105, Try.ntmps105
    go_wp2_with (at_builtin; refine Lib.wpList_append_run _ rfl _ _ _ _ rfl _ _ rfl rfl _ _ hrun ?_)
    all_goals exact hQ'

set_option maxHeartbeats 4000000 in
set_option maxRecDepth 100000 in
/-- Into a row without elements and without memory. -/
theorem ins_nil (w : World) (a : Addr) (b2 cap2 : Nat) (news : List Value) (hw : New w b2 news) (hc2 : 1 ≤ cap2) (hbig : (0 + 1) * 8 ≤ 140737488355328) :
    Calls Try.prog 105 #[.slice (some a) 0 0, .int .i64 (0 : Nat), .slice (some ⟨b2, 0, none⟩) 1 cap2] w fun e w' => ∃ z', e = .returned z' ∧ w'.ownsRow 0 2 1 z' 1 news ∧ w.grownBy w' none ∧ (z'.ownBlock = none ∨ z'.ownBlock = some w.heap.size) := by
  obtain ⟨i0, hi0, hz0, hzs, hzb⟩ := info_parts info_e
  have hu := und_s
  obtain ⟨z', w', hrun, hown, hgr, _, hat⟩ := run_append_own_at (P := Try.prog) w 0 43 43 2 i0 (Value.int .i64 0) 1 8 hu hi0 hz0 hzs hzb rfl (by decide) (.slice none 0 0) 0 [] (World.ownsRow_nil _ _ _ _) ⟨b2, 0, none⟩ 1 cap2 news (by rw [hw.len]) hw.cell hw.one (by simp only [maxLen]; omega) hbig (Nat.zero_le _)
  rw [← Go.Proofs.YtkicholhkoahhaaIT.run_append_grow hu hi0 (A := some a) (by decide) (by rw [hzb]; omega)] at hrun
  have t0 := Try.underlying0; have a0 := Try.isAgg0; have z0 := Try.sizeOf0; have v0 := Try.zeroValue0
  have t3 := Try.underlying3; have a3 := Try.isAgg3; have z3 := Try.sizeOf3; have v3 := Try.zeroValue3
  have t4 := Try.underlying4; have a4 := Try.isAgg4; have z4 := Try.sizeOf4; have v4 := Try.zeroValue4
  have tT := Try.underlying43; have aT := Try.isAgg43; have zT := Try.sizeOf43; have vT := Try.zeroValue43
  have zE := size_e
  have u0 := run_underlying Try.underlying0; have u3 := run_underlying Try.underlying3; have u4 := run_underlying Try.underlying4; have uT := run_underlying Try.underlying43
  have hmix := mixed
  have hfin : ∃ z, Ending.returned z' = .returned z ∧ w'.ownsRow 0 2 1 z 1 news ∧ w.grownBy w' none ∧ (z.ownBlock = none ∨ z.ownBlock = some w.heap.size) := ⟨z', rfl, by simpa using hown, hgr, hat⟩
  clear hown hgr hat hw hbig hi0 hz0 hzs hzb hu
  generalize hQ : (fun (e : Ending) (w'' : World) => ∃ z', e = .returned z' ∧ w''.ownsRow 0 2 1 z' 1 news ∧ w.grownBy w'' none ∧ (z'.ownBlock = none ∨ z'.ownBlock = some w.heap.size)) = Q
  have hQ' : Q (.returned z') w' := by rw [← hQ]; exact hfin
  clear hQ hfin
  obtain ⟨ab, ao, asp⟩ := a
  go_enter Try.func105, Try.ntmps105
  go_wp2_with (at_builtin; refine Lib.wpList_append_run _ rfl _ _ _ _ rfl _ _ rfl rfl _ _ hrun ?_)
  all_goals exact hQ'

/-- In place. -/
def Pl (w w' : World) (b n c i : Nat) (cur : Array Value) (vals news : List Value) (e : Ending) : Prop := ∃ cur' : Array Value, e = .returned (.slice (some ⟨b, 0, none⟩) (n + 1) c) ∧ w'.heap[b]? = some (.cells cur' 2 (0, 0)) ∧ cur'.size = cur.size ∧
  cur'.toList.take ((n + 1) * 1) = vals.take (i * 1) ++ news ++ vals.drop (i * 1) ∧ (∀ k, (n + 1) * 1 ≤ k → cur'[k]? = cur[k]?) ∧ w.grownBy w' (some b)
theorem Pl.row {w w' : World} {b n c i : Nat} {cur : Array Value} {vals news : List Value} {e : Ending} (h : Pl w w' b n c i cur vals news e) (hroom : n + 1 ≤ c) (hcm : c ≤ maxLen) (hcur : cur.size = c * 1) (hvl : vals.length = n * 1) (hn : news.length = 1) (hi : i ≤ n) :
    ∃ z', e = .returned z' ∧ w'.ownsRow 0 2 1 z' (n + 1) (vals.take (i * 1) ++ news ++ vals.drop (i * 1)) ∧ w.grownBy w' (some b) ∧ (z'.ownBlock = some b ∨ z'.ownBlock = some w.heap.size) := by
  obtain ⟨cur', rfl, h1, h2, h3, _, h4⟩ := h
  refine ⟨_, rfl, ⟨?_, .inr ⟨b, c, cur', rfl, Nat.zero_le _, h1, hroom, hcm, by rw [h2]; exact hcur, h3⟩⟩, h4, .inl rfl⟩
  have := Nat.mul_le_mul_right 1 hi
  simp only [List.length_append, List.length_take, List.length_drop, hvl, hn, Nat.add_mul]; omega
theorem heap_row {w : World} {g : Nat} {cur : Array Value} (h : w.heap[g]? = some (.cells cur 2 (0, 0))) {o : Nat} {l : List Value} (hl : ∀ j v, l[j]? = some v → cur[o + j]? = some v) : ∀ j v, l[j]? = some v → w.cell? ((⟨g, o, none⟩ : Addr).add j) = some v := by
  intro j v hj
  rw [Addr.add_lit]
  simp only [World.cell?, h]
  exact hl j v hj
/-- The row behind both copies. -/
theorem row_fin {cur : Array Value} {vals news : List Value} {i n Z : Nat} (hn : n * Z + Z ≤ cur.size) (hi : i * Z + Z ≤ n * Z) (hv : cur.toList.take (n * Z) = vals) (hl : news.length = Z) :
    ((((cur.toList.take (i * Z + Z) ++ vals.drop (i * Z) ++ cur.toList.drop (i * Z + Z + (n * Z - i * Z))).toArray.toList.take (i * Z) ++ news ++ (cur.toList.take (i * Z + Z) ++ vals.drop (i * Z) ++ cur.toList.drop (i * Z + Z + (n * Z - i * Z))).toArray.toList.drop (i * Z + news.length)).toArray).toList.take (n * Z + Z) = vals.take (i * Z) ++ news ++ vals.drop (i * Z)) ∧
    (((cur.toList.take (i * Z + Z) ++ vals.drop (i * Z) ++ cur.toList.drop (i * Z + Z + (n * Z - i * Z))).toArray.toList.take (i * Z) ++ news ++ (cur.toList.take (i * Z + Z) ++ vals.drop (i * Z) ++ cur.toList.drop (i * Z + Z + (n * Z - i * Z))).toArray.toList.drop (i * Z + news.length)).toArray).size = cur.size ∧
    ∀ k, n * Z + Z ≤ k → (((cur.toList.take (i * Z + Z) ++ vals.drop (i * Z) ++ cur.toList.drop (i * Z + Z + (n * Z - i * Z))).toArray.toList.take (i * Z) ++ news ++ (cur.toList.take (i * Z + Z) ++ vals.drop (i * Z) ++ cur.toList.drop (i * Z + Z + (n * Z - i * Z))).toArray.toList.drop (i * Z + news.length)).toArray)[k]? = cur[k]? := by
  have hcl : ∀ k, cur[k]? = cur.toList[k]? := fun k => by rw [Array.getElem?_toList]
  simp only [hcl]
  generalize hA : cur.toList = A at *
  have hAl : A.length = cur.size := by rw [← hA]; simp
  generalize i * Z = a at *
  generalize n * Z = m at *
  subst hl
  subst hv
  have e1 : (A.take (a + news.length) ++ (A.take m).drop a ++ A.drop (a + news.length + (m - a))).take a = A.take a := by
    rw [List.append_assoc, List.take_append_of_le_length (by rw [List.length_take]; omega), List.take_take, Nat.min_eq_left (by omega)]
  have e2 : (A.take (a + news.length) ++ (A.take m).drop a ++ A.drop (a + news.length + (m - a))).drop (a + news.length) = (A.take m).drop a ++ A.drop (a + news.length + (m - a)) := by
    rw [List.append_assoc, List.drop_append_of_le_length (by rw [List.length_take]; omega), List.drop_eq_nil_of_le (by rw [List.length_take]; omega), List.nil_append]
  have l1 : ((A.take m).drop a).length = m - a := by rw [List.length_drop, List.length_take]; omega
  simp only [List.toList_toArray, e1, e2]
  refine ⟨?_, ?_, fun k hk => ?_⟩
  · rw [List.take_take, Nat.min_eq_left (by omega)]
    rw [← List.append_assoc, List.take_append_of_le_length (by simp only [List.length_append, l1, List.length_take]; omega), List.take_of_length_le (by simp only [List.length_append, l1, List.length_take]; omega)]
  · simp only [List.size_toArray, List.length_append, l1, List.length_take, List.length_drop]
    omega
  · rw [List.getElem?_toArray, ← List.append_assoc, List.getElem?_append_right (by simp only [List.length_append, l1, List.length_take]; omega), List.getElem?_drop]
    congr 1
    simp only [List.length_append, l1, List.length_take]
    omega

set_option maxHeartbeats 4000000 in
set_option maxRecDepth 100000 in
/-- Ahead of the end, where there is room. -/
theorem ins_shift (w : World) (b n c i : Nat) (cur : Array Value) (vals : List Value) (hb : w.heap[b]? = some (.cells cur 2 (0, 0))) (hroom : n + 1 ≤ c) (hcm : c ≤ maxLen) (hcur : cur.size = c * 1) (hv : cur.toList.take (n * 1) = vals) (h1c : ∀ v ∈ vals, v.oneCell' = true) (hi : i < n)
    (b2 cap2 : Nat) (news : List Value) (hw : New w b2 news) (hne : b2 ≠ b) (hc2 : 1 ≤ cap2) :
    Calls Try.prog 105 #[.slice (some ⟨b, 0, none⟩) n c, .int .i64 i, .slice (some ⟨b2, 0, none⟩) 1 cap2] w fun e w' => Pl w w' b n c i cur vals news e := by
  obtain ⟨i0, hi0, hz0, hzs, hzb⟩ := info_parts info_e
  have hu := und_s
  have hsz : (Try.prog.info? 2).map (·.size) = some 1 := by rw [hi0]; simp [hzs]
  have hvl : vals.length = n * 1 := by rw [← hv, List.length_take, Array.length_toList, hcur]; have := Nat.mul_le_mul_right 1 (show n ≤ c by omega); omega
  have hnz : n * 1 + 1 ≤ cur.size := by rw [hcur]; have := Nat.mul_le_mul_right 1 hroom; omega
  have hiz : i * 1 + 1 ≤ n * 1 := by have := Nat.mul_le_mul_right 1 (show i + 1 ≤ n from hi); omega
  have hdl : (vals.drop (i * 1)).length = (n - i) * 1 := by rw [List.length_drop, hvl, Nat.sub_mul]
  have hvget : ∀ j v, (vals.drop (i * 1))[j]? = some v → cur[i * 1 + j]? = some v := fun j v hj => by
    rw [List.getElem?_drop, ← hv, List.getElem?_take] at hj
    split at hj
    · rw [← Array.getElem?_toList]; exact hj
    · cases hj
  obtain ⟨row1, hrow1⟩ : ∃ row1 : Array Value, row1 = (cur.toList.take (i * 1 + 1) ++ vals.drop (i * 1) ++ cur.toList.drop (i * 1 + 1 + (n * 1 - i * 1))).toArray := ⟨_, rfl⟩
  obtain ⟨row2, hrow2⟩ : ∃ row2 : Array Value, row2 = (row1.toList.take (i * 1) ++ news ++ row1.toList.drop (i * 1 + news.length)).toArray := ⟨_, rfl⟩
  have hr1s : row1.size = cur.size := by
    rw [hrow1]
    simp only [List.size_toArray, List.length_append, List.length_take, List.length_drop, Array.length_toList, hvl]
    omega
  have hfin := row_fin (i := i) (n := n) (Z := 1) (news := news) hnz hiz hv hw.len
  rw [← hrow1, ← hrow2] at hfin
  have hcp1 : ∀ (W : World), W.heap = w.heap → ∀ ty dc sc, (Builtin.copy_ #[43, 43] ty #[.slice (some ⟨b, i + 1, none⟩) (n - i) dc, .slice (some ⟨b, i, none⟩) (n + 1 - i) sc]).run Try.prog W = .ok (goInt ((n - i : Nat) : Int)) (W.setRow b row1) := fun W hW ty dc sc => by
    rw [show (⟨b, i + 1, none⟩ : Addr) = ⟨b, i * 1 + 1, none⟩ from congrArg (fun o => (⟨b, o, none⟩ : Addr)) (by omega), show (⟨b, i, none⟩ : Addr) = ⟨b, i * 1, none⟩ from congrArg (fun o => (⟨b, o, none⟩ : Addr)) (by omega)]
    have := run_copy_rowZ (P := Try.prog) W 43 43 ty 2 b (i * 1 + 1) (n - i) dc ⟨b, i * 1, none⟩ (n + 1 - i) sc cur 2 (vals.drop (i * 1)) 1 (n - i) hu hsz (by rw [hW]; exact hb) (by simp only [Nat.min_def]; split <;> omega) hdl (heap_row (by rw [hW]; exact hb) hvget) (by rw [hdl, Nat.sub_mul]; omega) (fun v hv => h1c v (List.mem_of_mem_drop hv))
    rw [this, hrow1, hdl, Nat.sub_mul]
  have hcp2 : ∀ (W : World), W.heap = (w.setRow b row1).heap → ∀ ty dc, (Builtin.copy_ #[43, 43] ty #[.slice (some ⟨b, i, none⟩) (n + 1 - i) dc, .slice (some ⟨b2, 0, none⟩) 1 cap2]).run Try.prog W = .ok (goInt ((1 : Nat) : Int)) (W.setRow b row2) := fun W hW ty dc => by
    rw [show (⟨b, i, none⟩ : Addr) = ⟨b, i * 1, none⟩ from congrArg (fun o => (⟨b, o, none⟩ : Addr)) (by omega)]
    have hWb : W.heap[b]? = some (.cells row1 2 (0, 0)) := by rw [hW]; exact setRow_heap w b cur row1 2 (0, 0) hb
    have := run_copy_rowZ (P := Try.prog) W 43 43 ty 2 b (i * 1) (n + 1 - i) dc ⟨b2, 0, none⟩ 1 cap2 row1 2 news 1 1 hu hsz hWb (by simp only [Nat.min_def]; split <;> omega) (by rw [hw.len]) (fun j v hj => by
      have h := hw.cell j v hj
      rw [Addr.add_lit] at h ⊢
      simp only [World.cell?] at h ⊢
      rw [hW, setRow_other w b b2 row1 hne]
      exact h) (by rw [hw.len, hr1s]; omega) hw.one
    rw [this, hrow2]
  have hov : ∀ o lb cb, (callFunc 133 #[.slice (some ⟨b2, 0, none⟩) 1 cap2, .slice (some ⟨b, o, none⟩) lb cb]).run Try.prog w = .ok (.value (.bool false)) w := fun o lb cb => by
    obtain ⟨cur2, h2, h3, h4⟩ := hw.blk
    rw [run_callFunc_extern Try.func133 (by kernel_rfl) (by kernel_rfl) (by kernel_rfl) (e := Extern.SlicesOverlaps.overlaps #[43, 43] #[4]) (by kernel_rfl),
      Lib.run_overlaps_apart w 43 4 2 und_s 1 size_e ⟨b2, 0, none⟩ ⟨b, o, none⟩ 1 cap2 lb cb hne 2 2 cur2.size cur.size (by simp [World.shape?, h2]) (by simp [World.shape?, hb]) (by omega) (by simp [World.frozen?, h2]) (by simp [World.frozen?, h2])]
    rfl
  have hblk : ∀ W : World, W.heap = (w.setRow b row1).heap → (W.setRow b row2).heap[b]? = some (.cells row2 2 (0, 0)) := fun W hW => setRow_heap W b row1 row2 2 (0, 0) (by rw [hW]; exact setRow_heap w b cur row1 2 (0, 0) hb)
  have hoth : ∀ W : World, W.heap = (w.setRow b row1).heap → ∀ k, k ≠ b → (W.setRow b row2).heap[k]? = w.heap[k]? := fun W hW k hk => by rw [setRow_other W b k row2 hk, hW, setRow_other w b k row1 hk]
  have hend : ∀ W : World, W.heap = (w.setRow b row1).heap → W.os = w.os → W.tape = w.tape → W.output = w.output → Pl w (W.setRow b row2) b n c i cur vals news (Ending.returned (.slice (some ⟨b, 0, none⟩) (n + 1) c)) := fun W hW o1 o2 o3 => by
    refine ⟨row2, rfl, hblk W hW, hfin.2.1, by rw [Nat.add_mul, Nat.one_mul]; exact hfin.1, fun k hk => hfin.2.2 k (by rw [Nat.add_mul, Nat.one_mul] at hk; exact hk), o1, o2, o3, ?_, fun k _ hk => hoth W hW k (fun h => hk (by rw [h]))⟩
    simp [World.setRow, hW]
  clear hfin hblk hoth hvget
  generalize hQ : (fun (e : Ending) (w'' : World) => Pl w w'' b n c i cur vals news e) = Q
  have hQ' : ∀ W : World, W.heap = (w.setRow b row1).heap → W.os = w.os → W.tape = w.tape → W.output = w.output → Q (.returned (.slice (some ⟨b, 0, none⟩) (n + 1) c)) (W.setRow b row2) := fun W h1 h2 h3 h4 => by rw [← hQ]; exact hend W h1 h2 h3 h4
  clear hQ hend hw hu hi0 hz0 hzs hzb hsz hvl hdl hr1s hrow1 hrow2 h1c hv hcur hnz hiz hb
  have t0 := Try.underlying0; have a0 := Try.isAgg0; have z0 := Try.sizeOf0; have v0 := Try.zeroValue0
  have t3 := Try.underlying3; have a3 := Try.isAgg3; have z3 := Try.sizeOf3; have v3 := Try.zeroValue3
  have t4 := Try.underlying4; have a4 := Try.isAgg4; have z4 := Try.sizeOf4; have v4 := Try.zeroValue4
  have tT := Try.underlying43; have aT := Try.isAgg43; have zT := Try.sizeOf43; have vT := Try.zeroValue43
  have zE := size_e
  have u0 := run_underlying Try.underlying0; have u3 := run_underlying Try.underlying3; have u4 := run_underlying Try.underlying4; have uT := run_underlying Try.underlying43
  have hmix := mixed
  simp only [maxLen] at hcm
  have hz2 : ¬ ((i : Int) = (n : Int)) := by omega
  have hw1 : IntKind.i64.wrap ((i : Int) + 1) = (i : Int) + 1 := by rw [IntKind.wrap_i64]; omega
  have hb1 : (0 : Int) ≤ (i : Int) + 1 := by omega
  have hin : i ≤ n := by omega
  have htn : ((i : Int) + 1).toNat = i + 1 := by omega
  have hb2 : ¬ (c = i + 1) := by omega
  have hb3 : (i : Int) ≤ (n : Int) + 1 := by omega
  have hb4 : ¬ (c = i) := by omega
  have hcp1' := hcp1 w.drew rfl
  clear hcp1
  go_enter Try.func105, Try.ntmps105
  go_wp2_with (simp only [hov])
  go_region_law_o (refine step_copy_runI rfl _ _ 43 43 rfl _ _ (by simp [Act.eval, Act.put]) (by simp [Act.eval, Act.put]) (hcp1' _ _ _) ?_)
  have hcp3 := fun ty => hcp2 (w.drew.setRow b row1) rfl ty (c - (i))
  clear hcp2
  go_wp2
  all_goals exact hQ' _ rfl rfl rfl rfl

set_option maxHeartbeats 4000000 in
set_option maxRecDepth 100000 in
/-- At the end, where there is room. -/
theorem ins_end_room (w : World) (b n c : Nat) (cur : Array Value) (vals : List Value) (hb : w.heap[b]? = some (.cells cur 2 (0, 0))) (hroom : n + 1 ≤ c) (hcm : c ≤ maxLen) (hcur : cur.size = c * 1) (hv : cur.toList.take (n * 1) = vals)
    (b2 cap2 : Nat) (news : List Value) (hw : New w b2 news) (hc2 : 1 ≤ cap2) :
    Calls Try.prog 105 #[.slice (some ⟨b, 0, none⟩) n c, .int .i64 n, .slice (some ⟨b2, 0, none⟩) 1 cap2] w fun e w' => Pl w w' b n c n cur vals news e := by
  obtain ⟨i0, hi0, hz0, hzs, hzb⟩ := info_parts info_e
  have hu := und_s
  have hvl : vals.length = n * 1 := by rw [← hv, List.length_take, Array.length_toList, hcur]; have := Nat.mul_le_mul_right 1 (show n ≤ c by omega); omega
  have hnz : n * 1 + 1 ≤ cur.size := by rw [hcur]; have := Nat.mul_le_mul_right 1 hroom; omega
  have hrun := fun ty => run_append_room (P := Try.prog) w 43 ty 2 i0 hu hi0 b n c cur hb ⟨b2, 0, none⟩ 1 cap2 news (by rw [hw.len, hzs]) hw.cell hw.one hroom (by rw [hzs, hw.len]; exact hnz)
  simp only [hzs, hv] at hrun
  have hfin : Pl w (w.setRow b (vals ++ news ++ cur.toList.drop (n * 1 + news.length)).toArray) b n c n cur vals news (.returned (.slice (some ⟨b, 0, none⟩) (n + 1) c)) := by
    have h2 : vals.take (n * 1) = vals := List.take_of_length_le (by rw [hvl]; exact Nat.le_refl _)
    have h3 : vals.drop (n * 1) = [] := List.drop_eq_nil_of_le (by rw [hvl]; exact Nat.le_refl _)
    refine ⟨_, rfl, setRow_heap w b cur _ 2 (0, 0) hb, ?_, ?_, fun k hk => ?_, rfl, rfl, rfl, by simp [World.setRow], fun k _ hk => setRow_other w b k _ (fun h => hk (by rw [h]))⟩
    · simp only [List.size_toArray, List.length_append, List.length_drop, Array.length_toList, hvl, hw.len]; omega
    · rw [h2, h3, List.append_nil, List.toList_toArray, List.take_append_of_le_length (by simp only [List.length_append, hvl, hw.len, Nat.add_mul]; omega), List.take_of_length_le (by simp only [List.length_append, hvl, hw.len, Nat.add_mul]; omega)]
    · rw [Nat.add_mul, Nat.one_mul] at hk
      rw [List.getElem?_toArray, List.getElem?_append_right (by simp only [List.length_append, hvl, hw.len]; omega), List.getElem?_drop, Array.getElem?_toList]
      congr 1
      simp only [List.length_append, hvl, hw.len]
      omega
  have t0 := Try.underlying0; have a0 := Try.isAgg0; have z0 := Try.sizeOf0; have v0 := Try.zeroValue0
  have t3 := Try.underlying3; have a3 := Try.isAgg3; have z3 := Try.sizeOf3; have v3 := Try.zeroValue3
  have t4 := Try.underlying4; have a4 := Try.isAgg4; have z4 := Try.sizeOf4; have v4 := Try.zeroValue4
  have tT := Try.underlying43; have aT := Try.isAgg43; have zT := Try.sizeOf43; have vT := Try.zeroValue43
  have zE := size_e
  have u0 := run_underlying Try.underlying0; have u3 := run_underlying Try.underlying3; have u4 := run_underlying Try.underlying4; have uT := run_underlying Try.underlying43
  have hmix := mixed
  obtain ⟨W1, hW1⟩ : ∃ W1, W1 = w.setRow b (vals ++ news ++ cur.toList.drop (n * 1 + news.length)).toArray := ⟨_, rfl⟩
  rw [← hW1] at hfin
  simp only [← hW1] at hrun
  clear hW1 hw hi0 hz0 hzs hzb hu hvl hnz hv hb hcur
  generalize hQ : (fun (e : Ending) (w'' : World) => Pl w w'' b n c n cur vals news e) = Q
  have hQ' : Q (.returned (.slice (some ⟨b, 0, none⟩) (n + 1) c)) W1 := by rw [← hQ]; exact hfin
  clear hQ hfin
  simp only [maxLen] at hcm
  have hnc : n ≤ c := by omega
  go_enter Try.func105, Try.ntmps105
  go_wp2_with (at_builtin; refine Lib.wpList_append_run _ rfl _ _ _ _ rfl _ _ rfl rfl _ _ (hrun _) ?_)
  all_goals exact hQ'

/-- A new row behind both copies. -/
theorem row_fin2 {R : Array Value} {vals news : List Value} {a m Z : Nat} (hn : m + Z ≤ R.size) (hi : a + Z ≤ m) (hv : vals.length = m) (hR : R.toList.take a = vals.take a) (hl : news.length = Z) :
    ((((R.toList.take a ++ news ++ R.toList.drop (a + news.length)).toArray.toList.take (a + Z) ++ vals.drop a ++ (R.toList.take a ++ news ++ R.toList.drop (a + news.length)).toArray.toList.drop (a + Z + (vals.drop a).length)).toArray).toList.take (m + Z) = vals.take a ++ news ++ vals.drop a) ∧
    (((R.toList.take a ++ news ++ R.toList.drop (a + news.length)).toArray.toList.take (a + Z) ++ vals.drop a ++ (R.toList.take a ++ news ++ R.toList.drop (a + news.length)).toArray.toList.drop (a + Z + (vals.drop a).length)).toArray).size = R.size ∧
    ((R.toList.take a ++ news ++ R.toList.drop (a + news.length)).toArray).size = R.size := by
  generalize hA : R.toList = A at *
  have hAl : A.length = R.size := by rw [← hA]; simp
  subst hl
  have l1 : (vals.drop a).length = m - a := by rw [List.length_drop, hv]
  have l2 : (A.take a).length = a := by rw [List.length_take]; omega
  have e1 : (A.take a ++ news ++ A.drop (a + news.length)).take (a + news.length) = A.take a ++ news := by
    rw [List.take_append_of_le_length (by rw [List.length_append, l2]; omega), List.take_of_length_le (by rw [List.length_append, l2]; omega)]
  simp only [List.toList_toArray, e1, l1]
  refine ⟨?_, ?_, ?_⟩
  · rw [List.take_append_of_le_length (by simp only [List.length_append, l1, l2]; omega), List.take_of_length_le (by simp only [List.length_append, l1, l2]; omega), hR]
  · simp only [List.size_toArray, List.length_append, l1, l2, List.length_drop]
    omega
  · simp only [List.size_toArray, List.length_append, l2, List.length_drop]
    omega

set_option maxHeartbeats 4000000 in
set_option maxRecDepth 100000 in
/-- Ahead of the end, where there is no room. -/
theorem ins_grow (w : World) (b n c i : Nat) (cur : Array Value) (vals : List Value) (hb : w.heap[b]? = some (.cells cur 2 (0, 0))) (hnc : n ≤ c) (hroom : c < n + 1) (hbig : (n + 1) * 8 ≤ 140737488355328) (hcm : c ≤ maxLen) (hcur : cur.size = c * 1) (hv : cur.toList.take (n * 1) = vals) (h1c : ∀ v ∈ vals, v.oneCell' = true) (hi : i < n)
    (b2 cap2 : Nat) (news : List Value) (hw : New w b2 news) (hne : b2 ≠ b) (hc2 : 1 ≤ cap2) :
    Calls Try.prog 105 #[.slice (some ⟨b, 0, none⟩) n c, .int .i64 i, .slice (some ⟨b2, 0, none⟩) 1 cap2] w fun e w' => ∃ z', e = .returned z' ∧ w'.ownsRow 0 2 1 z' (n + 1) (vals.take (i * 1) ++ news ++ vals.drop (i * 1)) ∧ w.grownBy w' (some b) ∧ (z'.ownBlock = some b ∨ z'.ownBlock = some w.heap.size) := by
  obtain ⟨i0, hi0, hz0, hzs, hzb⟩ := info_parts info_e
  have hu := und_s
  have hsz : (Try.prog.info? 2).map (·.size) = some 1 := by rw [hi0]; simp [hzs]
  have hvl : vals.length = n * 1 := by rw [← hv, List.length_take, Array.length_toList, hcur]; have := Nat.mul_le_mul_right 1 (show n ≤ c by omega); omega
  have hiz : i * 1 + 1 ≤ n * 1 := by have := Nat.mul_le_mul_right 1 (show i + 1 ≤ n from hi); omega
  have hdl : (vals.drop (i * 1)).length = (n - i) * 1 := by rw [List.length_drop, hvl, Nat.sub_mul]
  have hbw : b < w.heap.size := by
    rcases Nat.lt_or_ge b w.heap.size with h | h
    · exact h
    · rw [Array.getElem?_eq_none h] at hb; cases hb
  have hb2w : b2 < w.heap.size := by
    obtain ⟨cur2, h2, _⟩ := hw.blk
    rcases Nat.lt_or_ge b2 w.heap.size with h | h
    · exact h
    · rw [Array.getElem?_eq_none h] at h2; cases h2
  have hkk : (n : Int) + 1 - (i : Int) = ((n + 1 - i : Nat) : Int) := by omega
  have hik : i + (n + 1 - i) = n + 1 := by omega
  have hvget : ∀ o j v, (vals.drop o)[j]? = some v → cur[o + j]? = some v := fun o j v hj => by
    rw [List.getElem?_drop, ← hv, List.getElem?_take] at hj
    split at hj
    · rw [← Array.getElem?_toList]; exact hj
    · cases hj
  have hold : (Builtin.firstCells i0.size i (.slice (some ⟨b, 0, none⟩) i c)).run Try.prog w.drew = .ok (vals.take (i * 1)).toArray w.drew := by
    rw [hzs]
    exact run_firstCells_some w.drew 1 i ⟨b, 0, none⟩ i c (vals.take (i * 1)) (by rw [List.length_take]; omega) (fun j v hj => by
      rw [List.getElem?_take] at hj
      split at hj
      · exact heap_row (w := w) hb (o := 0) (l := vals) (fun j v hj => hvget 0 j v (by simpa using hj)) j v hj
      · cases hj)
  have hrz : ∀ ty, (Builtin.append_ #[43, 3] ty #[.slice (some ⟨b, 0, none⟩) i c, .int .i64 ((n : Int) + 1 - (i : Int))]).run Try.prog w =
      .ok (.slice (some ⟨w.heap.size, 0, none⟩) (n + 1) (grownCap w (n + 1) c 2)) (w.drew.alloc (.cells ((vals.take (i * 1)).toArray ++ Builtin.zeroCells (Value.int .i64 0).cells (n + 1 - i) ++ Builtin.zeroCells (Value.int .i64 0).cells (grownCap w (n + 1) c 2 - (n + 1))) 2)) := fun ty => by
    have h := Lib.run_append_grow_zeros w 43 3 ty 2 i0 _ .i64 .i64 und_s Try.underlying3 hi0 hz0 (some ⟨b, 0, none⟩) i c (vals.take (i * 1)) hold (n + 1 - i) (by omega) (by rw [hzs]; decide) (by omega) (by omega) (by rw [hzb]; omega) (by rw [hzb, hik]; exact growslice_fits hroom hbig)
    rw [hik] at h
    rw [hkk]
    exact h
  have hGn : n + 1 ≤ grownCap w (n + 1) c 2 := grownCap_ge w _ _ _
  have hG63 := grownCap_le_maxLen w (n + 1) c 2 (by unfold maxLen; omega)
  generalize hG : grownCap w (n + 1) c 2 = G at hrz hGn hG63
  obtain ⟨ROW, hROW⟩ : ∃ ROW : Array Value, ROW = (vals.take (i * 1)).toArray ++ Builtin.zeroCells (Value.int .i64 0).cells (n + 1 - i) ++ Builtin.zeroCells (Value.int .i64 0).cells (G - (n + 1)) := ⟨_, rfl⟩
  rw [← hROW] at hrz
  have hRs : ROW.size = G * 1 := by
    have hzz : (Value.int .i64 0).cells.size = 1 := rfl
    rw [hROW]
    simp only [Array.size_append, List.size_toArray, List.length_take, size_zeroCells, hzz, hvl, Nat.sub_mul, Nat.add_mul]
    have := Nat.mul_le_mul_right 1 hGn
    rw [Nat.add_mul] at this
    omega
  have hRt : ROW.toList.take (i * 1) = vals.take (i * 1) := by
    rw [hROW]
    simp only [Array.toList_append, List.append_assoc, List.toList_toArray]
    rw [List.take_append_of_le_length (by rw [List.length_take]; omega), List.take_take, Nat.min_self]
  obtain ⟨rowA, hrowA⟩ : ∃ rowA : Array Value, rowA = (ROW.toList.take (i * 1) ++ news ++ ROW.toList.drop (i * 1 + news.length)).toArray := ⟨_, rfl⟩
  obtain ⟨rowB, hrowB⟩ : ∃ rowB : Array Value, rowB = (rowA.toList.take (i * 1 + 1) ++ vals.drop (i * 1) ++ rowA.toList.drop (i * 1 + 1 + (vals.drop (i * 1)).length)).toArray := ⟨_, rfl⟩
  have hnG : n * 1 + 1 ≤ ROW.size := by rw [hRs]; have := Nat.mul_le_mul_right 1 hGn; omega
  have hfin := row_fin2 (a := i * 1) (m := n * 1) (Z := 1) (news := news) hnG hiz hvl hRt hw.len
  rw [← hrowA, ← hrowB] at hfin
  obtain ⟨W0, hW0⟩ : ∃ W0, W0 = w.alloc (.cells ROW 2) := ⟨_, rfl⟩
  have hg0 : W0.heap[w.heap.size]? = some (.cells ROW 2 (0, 0)) := by
    rw [hW0]
    show (w.heap.push _)[w.heap.size]? = _
    simp
  have ho0 : ∀ k, k < w.heap.size → W0.heap[k]? = w.heap[k]? := fun k hk => by
    rw [hW0]
    show (w.heap.push _)[k]? = _
    rw [Array.getElem?_push_lt hk, Array.getElem?_eq_getElem hk]
  have hs0 : W0.heap.size = w.heap.size + 1 := by
    rw [hW0]
    show (w.heap.push _).size = _
    simp
  have hcpA : ∀ (W : World), W.heap = W0.heap → ∀ ty dc, (Builtin.copy_ #[43, 43] ty #[.slice (some ⟨w.heap.size, i, none⟩) (n + 1 - i) dc, .slice (some ⟨b2, 0, none⟩) 1 cap2]).run Try.prog W = .ok (goInt ((1 : Nat) : Int)) (W.setRow w.heap.size rowA) := fun W hW ty dc => by
    rw [show (⟨w.heap.size, i, none⟩ : Addr) = ⟨w.heap.size, i * 1, none⟩ from congrArg (fun o => (⟨w.heap.size, o, none⟩ : Addr)) (by omega)]
    have := run_copy_rowZ (P := Try.prog) W 43 43 ty 2 w.heap.size (i * 1) (n + 1 - i) dc ⟨b2, 0, none⟩ 1 cap2 ROW 2 news 1 1 hu hsz (by rw [hW]; exact hg0) (by simp only [Nat.min_def]; split <;> omega) (by rw [hw.len]) (fun j v hj => by
      have h := hw.cell j v hj
      rw [Addr.add_lit] at h ⊢
      simp only [World.cell?] at h ⊢
      rw [hW, ho0 b2 hb2w]
      exact h) (by rw [hw.len]; omega) hw.one
    rw [this, hrowA]
  have hbN : b ≠ w.heap.size := by omega
  have hcpB : ∀ (W : World), W.heap = (W0.setRow w.heap.size rowA).heap → ∀ ty dc sc, (Builtin.copy_ #[43, 43] ty #[.slice (some ⟨w.heap.size, i + 1, none⟩) (n - i) dc, .slice (some ⟨b, i, none⟩) (n - i) sc]).run Try.prog W = .ok (goInt ((n - i : Nat) : Int)) (W.setRow w.heap.size rowB) := fun W hW ty dc sc => by
    rw [show (⟨w.heap.size, i + 1, none⟩ : Addr) = ⟨w.heap.size, i * 1 + 1, none⟩ from congrArg (fun o => (⟨w.heap.size, o, none⟩ : Addr)) (by omega), show (⟨b, i, none⟩ : Addr) = ⟨b, i * 1, none⟩ from congrArg (fun o => (⟨b, o, none⟩ : Addr)) (by omega)]
    have := run_copy_rowZ (P := Try.prog) W 43 43 ty 2 w.heap.size (i * 1 + 1) (n - i) dc ⟨b, i * 1, none⟩ (n - i) sc rowA 2 (vals.drop (i * 1)) 1 (n - i) hu hsz (by rw [hW]; exact setRow_heap W0 w.heap.size ROW rowA 2 (0, 0) hg0) (by simp only [Nat.min_def]; split <;> omega) hdl (heap_row (by rw [hW, setRow_other W0 w.heap.size b rowA hbN, ho0 b hbw]; exact hb) (hvget (i * 1))) (by rw [hdl, hfin.2.2, Nat.sub_mul]; omega) (fun v hv => h1c v (List.mem_of_mem_drop hv))
    rw [this, hrowB]
  have hend : ∀ W : World, W.heap = (W0.setRow w.heap.size rowA).heap → W.os = w.os → W.tape = w.tape → W.output = w.output → ∃ z', Ending.returned (.slice (some ⟨w.heap.size, 0, none⟩) (n + 1) G) = .returned z' ∧ (W.setRow w.heap.size rowB).ownsRow 0 2 1 z' (n + 1) (vals.take (i * 1) ++ news ++ vals.drop (i * 1)) ∧ w.grownBy (W.setRow w.heap.size rowB) (some b) ∧ (z'.ownBlock = some b ∨ z'.ownBlock = some w.heap.size) := fun W hW o1 o2 o3 => by
    refine ⟨_, rfl, ⟨?_, .inr ⟨w.heap.size, G, rowB, rfl, Nat.zero_le _, ?_, hGn, hG63, ?_, ?_⟩⟩, ⟨o1, o2, o3, ?_, fun k hk _ => ?_⟩, .inr rfl⟩
    · simp only [List.length_append, List.length_take, List.length_drop, hvl, hw.len, Nat.add_mul]; omega
    · exact setRow_heap W w.heap.size rowA rowB 2 (0, 0) (by rw [hW]; exact setRow_heap W0 w.heap.size ROW rowA 2 (0, 0) hg0)
    · rw [hfin.2.1]; exact hRs
    · rw [Nat.add_mul, Nat.one_mul]; exact hfin.1
    · simp [World.setRow, hW, hs0]
    · rw [setRow_other W w.heap.size k rowB (by omega), hW, setRow_other W0 w.heap.size k rowA (by omega), ho0 k hk]
  generalize hQ : (fun (e : Ending) (w'' : World) => ∃ z', e = .returned z' ∧ w''.ownsRow 0 2 1 z' (n + 1) (vals.take (i * 1) ++ news ++ vals.drop (i * 1)) ∧ w.grownBy w'' (some b) ∧ (z'.ownBlock = some b ∨ z'.ownBlock = some w.heap.size)) = Q
  have hQ' : ∀ W : World, W.heap = (W0.setRow w.heap.size rowA).heap → W.os = w.os → W.tape = w.tape → W.output = w.output → Q (.returned (.slice (some ⟨w.heap.size, 0, none⟩) (n + 1) G)) (W.setRow w.heap.size rowB) := fun W h1 h2 h3 h4 => by rw [← hQ]; exact hend W h1 h2 h3 h4
  have hcpA1 := fun ty dc => hcpA (w.drew.alloc (.cells ROW 2)) (by rw [hW0]; rfl) ty dc
  have hcpA2 := fun ty dc => hcpA (w.alloc (.cells ROW 2)).drew (by rw [hW0]; rfl) ty dc
  have hQ'' : Q (.returned (.slice (some ⟨w.heap.size, 0, none⟩) (n + 1) G)) (((w.alloc (.cells ROW 2)).drew.setRow w.heap.size rowA).drew.setRow w.heap.size rowB) := hQ' _ (by rw [hW0]; rfl) rfl rfl rfl
  have hcpB1 := fun ty dc sc => hcpB (((w.alloc (.cells ROW 2)).drew.setRow w.heap.size rowA).drew) (by rw [hW0]; rfl) ty dc sc
  clear hQ hend hw hu hi0 hz0 hzs hzb hsz hvl hdl hrowA hrowB h1c hv hcur hnG hiz hb hfin hcpA hcpB hg0 ho0 hs0 hold hRs hRt hROW hG hbig hvget hkk hik hbw hb2w hQ'
  have t0 := Try.underlying0; have a0 := Try.isAgg0; have z0 := Try.sizeOf0; have v0 := Try.zeroValue0
  have t3 := Try.underlying3; have a3 := Try.isAgg3; have z3 := Try.sizeOf3; have v3 := Try.zeroValue3
  have t4 := Try.underlying4; have a4 := Try.isAgg4; have z4 := Try.sizeOf4; have v4 := Try.zeroValue4
  have tT := Try.underlying43; have aT := Try.isAgg43; have zT := Try.sizeOf43; have vT := Try.zeroValue43
  have zE := size_e
  have u0 := run_underlying Try.underlying0; have u3 := run_underlying Try.underlying3; have u4 := run_underlying Try.underlying4; have uT := run_underlying Try.underlying43
  have hmix := mixed
  simp only [maxLen] at hcm hG63
  have hz2 : ¬ ((i : Int) = (n : Int)) := by omega
  have hz3 : (c : Int) < (n : Int) + 1 := by omega
  have hw1 : IntKind.i64.wrap ((i : Int) + 1) = (i : Int) + 1 := by rw [IntKind.wrap_i64]; omega
  have hb1 : (0 : Int) ≤ (i : Int) + 1 := by omega
  have hin : i ≤ n := by omega
  have htn : ((i : Int) + 1).toNat = i + 1 := by omega
  have hGi : ¬ (G = i) := by omega
  have hGim : ¬ (G = i + 1) := by omega
  have hci : ¬ (c = i) := by omega
  have hb3 : (i : Int) ≤ (n : Int) := by omega
  go_enter Try.func105, Try.ntmps105
  go_wp2_with (first
    | (at_builtin; refine Lib.wpList_append_run _ rfl _ _ _ _ rfl _ _ rfl rfl _ _ (hrz _) ?_)
    | (at_builtin; refine wpList_copy_runI _ rfl _ _ 43 43 rfl _ _ rfl rfl (hcpA2 _ _) ?_))
  go_region_law_o (refine step_copy_runI rfl _ _ 43 43 rfl (.slice (some ⟨w.heap.size, i + 1, none⟩) (n - i) (G - (i + 1))) (.slice (some ⟨b, i, none⟩) (n - i) (c - i)) (by simp [Act.eval, Act.put]) (by simp [Act.eval, Act.put]) (hcpB1 3 (G - (i + 1)) (c - i)) ?_)
  go_wp2
  all_goals exact hQ''

theorem ok : Go.Proofs.YtkicholhkoahhaaIT.InsOk Try.prog 105 2 1 8 where
  run := by
    intro w x0 n i vals news b2 cap2 cur2 own hi h1 hb2 hz ht hone hne hc2 hbig
    have hw : New w b2 news := ⟨⟨cur2, hb2, hz, ht⟩, by rw [← ht, List.length_take, Array.length_toList, Nat.min_eq_left hz], hone⟩
    by_cases hin : i = n
    · subst hin
      have := ins_end w x0 i vals own b2 cap2 news hw hc2 hbig
      have h2 : vals.take (i * 1) = vals := List.take_of_length_le (by rw [own.1]; exact Nat.le_refl _)
      have h3 : vals.drop (i * 1) = [] := List.drop_eq_nil_of_le (by rw [own.1]; exact Nat.le_refl _)
      rw [h2, h3, List.append_nil]
      exact this
    · rcases own.2 with ⟨_, h0⟩ | ⟨g, c, cur, rfl, _, hg, hnc, hcm, hcs, htk⟩
      · omega
      · have hgb : b2 ≠ g := fun h => hne (by rw [h]; rfl)
        by_cases hroom : n + 1 ≤ c
        · refine Calls.mono (ins_shift w g n c i cur vals hg hroom hcm hcs htk h1 (by omega) b2 cap2 news hw hgb hc2) fun e' w' h => ?_
          exact h.row hroom hcm hcs own.1 hw.len hi
        · exact ins_grow w g n c i cur vals hg hnc (by omega) hbig hcm hcs htk h1 (by omega) b2 cap2 news hw hgb hc2
  place := by
    intro w b n c i cur vals news b2 cap2 cur2 hb hroom hcm hcs htk h1 hi hb2 hz ht hone hne hc2
    have hw : New w b2 news := ⟨⟨cur2, hb2, hz, ht⟩, by rw [← ht, List.length_take, Array.length_toList, Nat.min_eq_left hz], hone⟩
    by_cases hin : i = n
    · subst hin
      exact ins_end_room w b i c cur vals hb hroom hcm hcs htk b2 cap2 news hw hc2
    · exact ins_shift w b n c i cur vals hb hroom hcm hcs htk h1 (by omega) b2 cap2 news hw hne hc2
  nil := by
    intro w a news b2 cap2 cur2 hb2 hz ht hone hc2 hbig
    exact ins_nil w a b2 cap2 news ⟨⟨cur2, hb2, hz, ht⟩, by rw [← ht, List.length_take, Array.length_toList, Nat.min_eq_left hz], hone⟩ hc2 (by omega)
end Go.Proofs.YtkicholhkoahhaaIns105
