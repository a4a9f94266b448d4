-- PRINTED by print.py (a twelfth state) out of the translation. Not trusted: Lean checks it.
import Derived.Test.YtkmkppchhdkipaaDoorPTrx0
import Derived.Test.YtkmkppchhdkipaaDoorPTrx1
import Derived.Test.YtkmkppchhdkipaaDoorPTrx2
import Derived.Test.YtkmkppchhdkipaaDoorPTrx22
import Derived.Test.YtkmkppchhdkipaaDoorPTrx3
import Derived.Test.YtkmkppchhdkipaaDoorPTrx33
import Derived.Test.YtkmkppchhdkipaaDoorPTrx44
namespace Go.Proofs.YtkmkppchhdkipaaDoor.PTr
open Go.RowKit Go.Proofs.YtkmkppchhdkipaaDoorW.PrintWords Go.Proofs.YtkmkppchhdkipaaDoorW.PrintLast Go.Proofs.YtkmkppchhdkipaaDoorW.PrintMore
attribute [local go_sem] max2_int min2_int max_two min_two max_three min_three max_four min_four   -- for this text's walks alone
set_option linter.unusedVariables false
set_option linter.unusedSimpArgs false

/-! ### tree_Pair_51: function 51 (by hand) -/
open HCopy in
set_option maxHeartbeats 2000000 in
set_option maxRecDepth 100000 in
/-- There is room, and the place is not the end. -/
theorem tree_Pair_51.room (g cap n i : Nat) (cur : Array Value) (inner xs : List Value) (g2 c2 : Nat) (cur2 : Array Value) (w : World)
    (hg : w.heap[g]? = some (.cells cur 91 (0, 0))) (hg2 : w.heap[g2]? = some (.cells cur2 91 (0, 0))) (hne : g2 ≠ g) (hi : i < n) (hroom : n + 1 ≤ cap) (hcm : cap ≤ maxLen)
    (hsz : cur.size = cap * 2) (hin : cur.toList.take (n * 2) = inner) (hsz2 : 2 ≤ cur2.size) (hin2 : cur2.toList.take 2 = xs) (h1 : ∀ v ∈ inner, v.oneCell' = true) (h2 : ∀ v ∈ xs, v.oneCell' = true) :
    Calls Tryd.prog 51 #[.slice (some ⟨g, 0, none⟩) n cap, .int .i64 i, .slice (some ⟨g2, 0, none⟩) 1 c2] w fun e w' =>
      ∃ cur' : Array Value, e = .returned (.slice (some ⟨g, 0, none⟩) (n + 1) cap) ∧ w' = w.drew.setRow g cur' ∧ cur'.size = cap * 2 ∧ cur'.toList.take ((n + 1) * 2) = inner.take (i * 2) ++ xs ++ inner.drop (i * 2) := by
  have hlen : inner.length = n * 2 := by rw [← hin, List.length_take, Array.length_toList, hsz]; omega
  have hxl : xs.length = 2 := by rw [← hin2, List.length_take, Array.length_toList]; omega
  have hmx : cap ≤ 9223372036854775807 := by unfold maxLen at hcm; omega
  have hu := Tryd.underlying75
  have hs : (Tryd.prog.info? 91).map (·.size) = some 2 := by
    have h := info91
    cases hq : Tryd.prog.info? 91 with
    | none => rw [hq] at h; simp at h
    | some i => rw [hq] at h; simp at h; simp [h.2.1]
  have hdl : (inner.drop (i * 2)).length = (n - i) * 2 := by rw [List.length_drop, hlen, Nat.sub_mul]
  -- the first copy
  obtain ⟨cur1, hcur1⟩ : ∃ c : Array Value, c = (cur.toList.take ((i + 1) * 2) ++ inner.drop (i * 2) ++ cur.toList.drop ((i + 1) * 2 + (inner.drop (i * 2)).length)).toArray := ⟨_, rfl⟩
  have hcp1 : ∀ ty dc sc, (Builtin.copy_ #[75, 75] ty #[.slice (some ⟨g, (i + 1) * 2, none⟩) (n - i) dc, .slice (some ⟨g, i * 2, none⟩) (n + 1 - i) sc]).run Tryd.prog w.drew = .ok (goInt (n - i : Nat)) (w.drew.setRow g cur1) := fun ty dc sc => by
    rw [hcur1]
    refine run_copy_k w.drew 75 75 ty 91 g ((i + 1) * 2) (n - i) dc ⟨g, i * 2, none⟩ (n + 1 - i) sc cur 91 (inner.drop (i * 2)) 2 (n - i) hu hs hg (by show _ = min _ _; omega) hdl (fun j v hj => ?_) (by rw [hdl, hsz]; omega) (fun v hv => h1 v (List.mem_of_mem_drop hv))
    rw [List.getElem?_drop, ← hin] at hj
    have hjl : i * 2 + j < n * 2 := by
      rcases Nat.lt_or_ge (i * 2 + j) (n * 2) with h | h
      · exact h
      · rw [List.getElem?_eq_none (by rw [List.length_take]; omega)] at hj; cases hj
    rw [List.getElem?_take_of_lt hjl] at hj
    rw [Addr.add_lit]
    exact (cell_of_row w g _ cur 91 (0, 0) hg).trans (by rw [← hj]; simp)
  have hsz1 : cur1.size = cap * 2 := by
    rw [hcur1]
    simp only [List.size_toArray, List.length_append, List.length_take, List.length_drop, Array.length_toList, hlen, hsz]
    omega
  have hW1 : (w.drew.setRow g cur1).heap[g]? = some (.cells cur1 91 (0, 0)) := setRow_heap w.drew g cur _ 91 _ hg
  have hW2 : (w.drew.setRow g cur1).heap[g2]? = some (.cells cur2 91 (0, 0)) := (setRow_other w.drew g g2 cur1 hne).trans hg2
  obtain ⟨W1, hW⟩ : ∃ W1, W1 = w.drew.setRow g cur1 := ⟨_, rfl⟩
  obtain ⟨cur', hcur'⟩ : ∃ c : Array Value, c = (cur1.toList.take (i * 2) ++ xs ++ cur1.toList.drop (i * 2 + xs.length)).toArray := ⟨_, rfl⟩
  have hcp2 : ∀ ty dc sc, (Builtin.copy_ #[75, 75] ty #[.slice (some ⟨g, i * 2, none⟩) (n + 1 - i) dc, .slice (some ⟨g2, 0, none⟩) 1 sc]).run Tryd.prog W1 = .ok (goInt (1 : Nat)) (W1.setRow g cur') := fun ty dc sc => by
    rw [hcur', hW]
    refine run_copy_k _ 75 75 ty 91 g (i * 2) (n + 1 - i) dc ⟨g2, 0, none⟩ 1 sc cur1 91 xs 2 1 hu hs hW1 (by show _ = min _ _; omega) (by rw [hxl]) (fun j v hj => ?_) (by rw [hxl, hsz1]; omega) h2
    rw [← hin2] at hj
    have hjl : j < 2 := by
      rcases Nat.lt_or_ge j 2 with h | h
      · exact h
      · rw [List.getElem?_eq_none (by rw [List.length_take]; omega)] at hj; cases hj
    rw [List.getElem?_take_of_lt hjl] at hj
    rw [Addr.add_lit]
    exact (cell_of_row _ g2 _ cur2 91 (0, 0) hW2).trans (by rw [← hj]; simp)
  have hov : ∀ lb cb, (callFunc 74 #[.slice (some ⟨g2, 0, none⟩) 1 c2, .slice (some ⟨g, (i + 1) * 2, none⟩) lb cb]).run Tryd.prog w = .ok (.value (.bool false)) w := fun lb cb => by
    rw [run_callFunc_extern Tryd.func74 (by kernel_rfl) (by kernel_rfl) (by kernel_rfl) (e := Extern.SlicesOverlaps.overlaps #[75, 75] #[4]) (by kernel_rfl),
      Lib.run_overlaps_apart w 75 4 91 hu 2 (fun w => by kernel_rfl) ⟨g2, 0, none⟩ ⟨g, (i + 1) * 2, none⟩ 1 c2 lb cb hne 91 91 cur2.size cur.size (by simp [World.shape?, hg2]) (by simp [World.shape?, hg]) (by omega) (by simp [World.frozen?, hg2]) (by simp [World.frozen?, hg2])]
    rfl
  have hfin : cur'.size = cap * 2 ∧ cur'.toList.take ((n + 1) * 2) = inner.take (i * 2) ++ xs ++ inner.drop (i * 2) := by
    constructor
    · rw [hcur']
      simp only [List.size_toArray, List.length_append, List.length_take, List.length_drop, Array.length_toList, hxl, hsz1]
      omega
    · have e1 : cur1.toList.take (i * 2) = inner.take (i * 2) := by
        rw [hcur1, ← hin]
        simp only [List.append_assoc]
        rw [List.take_append_of_le_length (by rw [List.length_take, Array.length_toList, hsz]; omega), List.take_take, List.take_take]
        congr 1
        omega
      have e2 : (cur1.toList.drop (i * 2 + 2)).take ((n - i) * 2) = inner.drop (i * 2) := by
        have h3 : (cur.toList.take ((i + 1) * 2)).length = i * 2 + 2 := by rw [List.length_take, Array.length_toList, hsz]; omega
        rw [hcur1]
        simp only [List.append_assoc]
        rw [← h3, List.drop_left, ← hdl, List.take_left]
      rw [hcur']
      simp only [List.append_assoc]
      have h4 : (cur1.toList.take (i * 2)).length = i * 2 := by rw [List.length_take, Array.length_toList, hsz1]; omega
      have e3 : (n + 1) * 2 = (cur1.toList.take (i * 2)).length + (xs.length + (n - i) * 2) := by rw [h4, hxl]; omega
      rw [e3, List.take_length_add_append, List.take_length_add_append, hxl, e2, e1]
  have HF := Aside0.mk hfin
  have HE := Aside0.mk (show W1.setRow g cur' = w.drew.setRow g cur' by rw [hW, setRow_setRow])
  rw [← hW] at hcp1
  clear hfin hcur' hW hW1 hW2 hsz1 hcur1 hdl hlen hxl hsz hin hsz2 hin2 h1 h2 hg hg2 hcm
  have hin' : (i : Int) ≤ (n : Int) + 1 := by omega
  have hb1 : ¬ ((i : Int) = (n : Int)) := by omega
  have hb2 : ¬ ((n : Int) + 1 > (cap : Int)) := by omega
  have hb7 : (0 : Int) ≤ (i : Int) + 1 := by omega
  have hb8 : i ≤ n := by omega
  have hb9 : i ≤ n + 1 := by omega
  have hb4 : ¬ (cap = i) := by omega
  have hb5 : ¬ (cap = i + 1) := by omega
  have hw1 : IntKind.i64.wrap ((i : Int) + 1) = (i : Int) + 1 := by rw [IntKind.wrap_i64]; omega
  have htn : ((i : Int) + 1).toNat = i + 1 := by omega
  go_enter Tryd.func51, Tryd.ntmps51
  go_wp2_with (simp only [hov])
  go_region_law (refine step_copy_run rfl _ _ 75 75 rfl _ _ (by simp [Act.eval, Act.put]) (by simp [Act.eval, Act.put]) (hcp1 _ _ _) ?_)
  go_wp2_with (at_builtin; refine wpList_copy_run _ rfl _ _ 75 75 rfl _ _ rfl rfl (hcp2 _ _ _) ?_)
  go_ret
  exact ⟨cur', rfl, HE.out, HF.out.1, HF.out.2⟩
open HCopy in
set_option maxHeartbeats 2000000 in
set_option maxRecDepth 100000 in
/-- There is no room, and the place is not the end: a new row. -/
theorem tree_Pair_51.grow (g cap n i : Nat) (cur : Array Value) (inner xs : List Value) (g2 c2 : Nat) (cur2 : Array Value) (w : World)
    (hg : w.heap[g]? = some (.cells cur 91 (0, 0))) (hg2 : w.heap[g2]? = some (.cells cur2 91 (0, 0))) (hi : i < n) (hnc : n ≤ cap) (hroom : cap < n + 1) (hbig : n + 1 < 5864062014805)
    (hsz : cur.size = cap * 2) (hin : cur.toList.take (n * 2) = inner) (hsz2 : 2 ≤ cur2.size) (hin2 : cur2.toList.take 2 = xs) (h1 : ∀ v ∈ inner, v.oneCell' = true) (h2 : ∀ v ∈ xs, v.oneCell' = true) :
    Calls Tryd.prog 51 #[.slice (some ⟨g, 0, none⟩) n cap, .int .i64 i, .slice (some ⟨g2, 0, none⟩) 1 c2] w fun e w' =>
      ∃ (cap' : Nat) (cur' : Array Value), e = .returned (.slice (some ⟨w.heap.size, 0, none⟩) (n + 1) cap') ∧ n + 1 ≤ cap' ∧ cap' ≤ maxLen ∧ w'.heap[w.heap.size]? = some (.cells cur' 91 (0, 0)) ∧ Below w.heap.size w w' ∧ cur'.size = cap' * 2 ∧ cur'.toList.take ((n + 1) * 2) = inner.take (i * 2) ++ xs ++ inner.drop (i * 2) := by
  have hlen : inner.length = n * 2 := by rw [← hin, List.length_take, Array.length_toList, hsz]; omega
  have hxl : xs.length = 2 := by rw [← hin2, List.length_take, Array.length_toList]; omega
  have hu := Tryd.underlying75
  have hs : (Tryd.prog.info? 91).map (·.size) = some 2 := by
    have h := info91
    cases hq : Tryd.prog.info? 91 with
    | none => rw [hq] at h; simp at h
    | some i => rw [hq] at h; simp at h; simp [h.2.1]
  have hdl : (inner.drop (i * 2)).length = (n - i) * 2 := by rw [List.length_drop, hlen, Nat.sub_mul]
  have hgl : g < w.heap.size := blk_lt hg
  have hg2l : g2 < w.heap.size := blk_lt hg2
  obtain ⟨i0, hi0, hzz⟩ := Option.map_eq_some_iff.1 info91
  simp only [Prod.mk.injEq] at hzz
  obtain ⟨cap', hc1, hc2, happ⟩ := run_append_zeros_grow (P := Tryd.prog) w 75 3 75 91 i0 _ 2 24 hu Tryd.underlying3 hi0 hzz.1 hzz.2.1 hzz.2.2 (by rfl) (by omega) (by omega) g i cap cur hg (by rw [hsz]; omega) .i64 (n + 1 - i) (by omega) (by omega) (by omega)
  rw [show i + (n + 1 - i) = n + 1 by omega] at happ
  obtain ⟨cur0, hcur0⟩ : ∃ c : Array Value, c = ((cur.toList.take (i * 2)).toArray ++ Builtin.zeroCells ((.agg #[(.string ⟨#[]⟩), (.int .i64 0)]) : Value).cells (n + 1 - i) ++ Builtin.zeroCells ((.agg #[(.string ⟨#[]⟩), (.int .i64 0)]) : Value).cells (cap' - (i + (n + 1 - i)))) := ⟨_, rfl⟩
  have hsz0 : cur0.size = cap' * 2 := by
    rw [hcur0]
    simp only [Array.size_append, List.size_toArray, List.length_take, Array.length_toList, hsz, size_zeroCells, Value.cells, List.length_cons, List.length_nil]
    omega
  have ht0 : cur0.toList.take (i * 2) = inner.take (i * 2) := by
    rw [hcur0, ← hin]
    simp only [Array.toList_append, List.append_assoc]
    rw [List.take_append_of_le_length (by rw [List.length_take, Array.length_toList, hsz]; omega), List.take_take, List.take_take]
    congr 1
    omega
  rw [show cap' - (n + 1) = cap' - (i + (n + 1 - i)) by omega, ← hcur0] at happ
  obtain ⟨W0, hW0⟩ : ∃ W0, W0 = w.drew.alloc (.cells cur0 91) := ⟨_, rfl⟩
  have hB0 : Below w.heap.size w W0 := by rw [hW0]; exact below_alloc (below_drew (Below.refl _ _)) _
  have hh0 : W0.heap[w.heap.size]? = some (.cells cur0 91 (0, 0)) := by rw [hW0]; exact heap_alloc_new w.drew _
  have hg0 : W0.heap[g]? = some (.cells cur 91 (0, 0)) := (hB0.block g hgl).trans hg
  have hg20 : W0.heap[g2]? = some (.cells cur2 91 (0, 0)) := (hB0.block g2 hg2l).trans hg2
  -- the first copy: v
  obtain ⟨cur1, hcur1⟩ : ∃ c : Array Value, c = (cur0.toList.take (i * 2) ++ xs ++ cur0.toList.drop (i * 2 + xs.length)).toArray := ⟨_, rfl⟩
  have hcp1 : ∀ ty dc sc, (Builtin.copy_ #[75, 75] ty #[.slice (some ⟨w.heap.size, i * 2, none⟩) (n + 1 - i) dc, .slice (some ⟨g2, 0, none⟩) 1 sc]).run Tryd.prog W0 = .ok (goInt (1 : Nat)) (W0.setRow w.heap.size cur1) := fun ty dc sc => by
    rw [hcur1]
    refine run_copy_k _ 75 75 ty 91 w.heap.size (i * 2) (n + 1 - i) dc ⟨g2, 0, none⟩ 1 sc cur0 91 xs 2 1 hu hs hh0 (by show _ = min _ _; omega) (by rw [hxl]) (fun j v hj => ?_) (by rw [hxl, hsz0]; omega) h2
    rw [← hin2] at hj
    have hjl : j < 2 := by
      rcases Nat.lt_or_ge j 2 with h | h
      · exact h
      · rw [List.getElem?_eq_none (by rw [List.length_take]; omega)] at hj; cases hj
    rw [List.getElem?_take_of_lt hjl] at hj
    rw [Addr.add_lit]
    exact (cell_of_row _ g2 _ cur2 91 (0, 0) hg20).trans (by rw [← hj]; simp)
  have hsz1 : cur1.size = cap' * 2 := by
    rw [hcur1]
    simp only [List.size_toArray, List.length_append, List.length_take, List.length_drop, Array.length_toList, hxl, hsz0]
    omega
  obtain ⟨W1, hW1⟩ : ∃ W1, W1 = W0.setRow w.heap.size cur1 := ⟨_, rfl⟩
  have hB1 : Below w.heap.size w W1 := by rw [hW1]; exact below_setRow hB0 (Nat.le_refl _) _
  have hh1 : W1.heap[w.heap.size]? = some (.cells cur1 91 (0, 0)) := by rw [hW1]; exact setRow_heap W0 _ cur0 _ 91 _ hh0
  have hg1 : W1.heap[g]? = some (.cells cur 91 (0, 0)) := (hB1.block g hgl).trans hg
  rw [← hW1] at hcp1
  -- the second one: what stood from i on
  obtain ⟨cur', hcur'⟩ : ∃ c : Array Value, c = (cur1.toList.take ((i + 1) * 2) ++ inner.drop (i * 2) ++ cur1.toList.drop ((i + 1) * 2 + (inner.drop (i * 2)).length)).toArray := ⟨_, rfl⟩
  have hcp2 : ∀ ty dc sc, (Builtin.copy_ #[75, 75] ty #[.slice (some ⟨w.heap.size, (i + 1) * 2, none⟩) (n - i) dc, .slice (some ⟨g, i * 2, none⟩) (n - i) sc]).run Tryd.prog W1.drew = .ok (goInt (n - i : Nat)) (W1.drew.setRow w.heap.size cur') := fun ty dc sc => by
    rw [hcur']
    refine run_copy_k W1.drew 75 75 ty 91 w.heap.size ((i + 1) * 2) (n - i) dc ⟨g, i * 2, none⟩ (n - i) sc cur1 91 (inner.drop (i * 2)) 2 (n - i) hu hs hh1 (by show _ = min _ _; omega) hdl (fun j v hj => ?_) (by rw [hdl, hsz1]; omega) (fun v hv => h1 v (List.mem_of_mem_drop hv))
    rw [List.getElem?_drop, ← hin] at hj
    have hjl : i * 2 + j < n * 2 := by
      rcases Nat.lt_or_ge (i * 2 + j) (n * 2) with h | h
      · exact h
      · rw [List.getElem?_eq_none (by rw [List.length_take]; omega)] at hj; cases hj
    rw [List.getElem?_take_of_lt hjl] at hj
    rw [Addr.add_lit]
    exact (cell_of_row W1.drew g _ cur 91 (0, 0) hg1).trans (by rw [← hj]; simp)
  have hsz' : cur'.size = cap' * 2 := by
    rw [hcur']
    simp only [List.size_toArray, List.length_append, List.length_take, List.length_drop, Array.length_toList, hlen, hsz1]
    omega
  have hfin : cur'.toList.take ((n + 1) * 2) = inner.take (i * 2) ++ xs ++ inner.drop (i * 2) := by
    have h4 : (cur1.toList.take ((i + 1) * 2)) = inner.take (i * 2) ++ xs := by
      have h5 : (cur0.toList.take (i * 2)).length = i * 2 := by rw [List.length_take, Array.length_toList, hsz0]; omega
      rw [hcur1]
      simp only [List.append_assoc]
      rw [show (i + 1) * 2 = (cur0.toList.take (i * 2)).length + xs.length by rw [h5, hxl]; omega, List.take_length_add_append, List.take_left, ht0]
    have h6 : (inner.take (i * 2) ++ xs).length = (i + 1) * 2 := by rw [List.length_append, List.length_take, hlen, hxl]; omega
    rw [hcur', h4]
    simp only [List.append_assoc]
    rw [← List.append_assoc, show (n + 1) * 2 = (inner.take (i * 2) ++ xs).length + (inner.drop (i * 2)).length by rw [h6, hdl]; omega, List.take_length_add_append, List.take_left, List.append_assoc]
  obtain ⟨W2, hW2⟩ : ∃ W2, W2 = W1.drew.setRow w.heap.size cur' := ⟨_, rfl⟩
  have HF := Aside0.mk (show W2.heap[w.heap.size]? = some (.cells cur' 91 (0, 0)) ∧ Below w.heap.size w W2 ∧ cur'.size = cap' * 2 ∧ cur'.toList.take ((n + 1) * 2) = inner.take (i * 2) ++ xs ++ inner.drop (i * 2) from
    ⟨by rw [hW2]; exact setRow_heap W1.drew _ cur1 _ 91 _ hh1, by rw [hW2]; exact below_setRow (below_drew hB1) (Nat.le_refl _) _, hsz', hfin⟩)
  have HC := Aside0.mk (And.intro hc1 hc2)
  rw [← hW2] at hcp2
  rw [← hW0] at happ
  have hcx : cap ≤ 9223372036854775807 := by omega
  have hcy : cap' ≤ 9223372036854775807 := by unfold maxLen at hc2; omega
  have hcz : i + 1 ≤ cap' := by omega
  clear hfin hcur' hW0 hW1 hW2 hsz1 hcur1 hdl hlen hxl hsz hin hsz2 hin2 h1 h2 hg hg2 hc2 hB0 hh0 hg0 hg20 hB1 hh1 hg1 hsz' hsz0 ht0 hcur0 hi0 hzz
  have hin' : (i : Int) ≤ (n : Int) + 1 := by omega
  have hb1 : ¬ ((i : Int) = (n : Int)) := by omega
  have hb7 : (0 : Int) ≤ (i : Int) + 1 := by omega
  have hb8 : i ≤ n := by omega
  have hb9 : i ≤ n + 1 := by omega
  have hb4 : ¬ (cap = i) := by omega
  have hz3 : (cap : Int) < (n : Int) + 1 := by omega
  have hic : i ≤ cap := by omega
  have hb5 : ¬ (cap' = i) := by omega
  have hb6 : ¬ (cap' = i + 1) := by omega
  have hsub : (n : Int) + 1 - (i : Int) = ((n + 1 - i : Nat) : Int) := by omega
  have hw1 : IntKind.i64.wrap ((i : Int) + 1) = (i : Int) + 1 := by rw [IntKind.wrap_i64]; omega
  have htn : ((i : Int) + 1).toNat = i + 1 := by omega
  go_enter Tryd.func51, Tryd.ntmps51
  go_wp2_with (first
    | (at_builtin; refine wpList_append_run _ rfl _ _ 75 3 rfl _ _ rfl rfl _ _ happ ?_)
    | (at_builtin; refine wpList_copy_run _ rfl _ _ 75 75 rfl _ _ rfl rfl (hcp1 _ _ _) ?_)
    | (at_builtin; refine wpList_copy_run _ rfl _ _ 75 75 rfl _ _ rfl rfl (hcp2 _ _ _) ?_))
  go_region_law (refine step_copy_run rfl _ _ 75 75 rfl _ _ (by simp [Act.eval, Act.put]) (by simp [Act.eval, Act.put]) (hcp2 _ _ _) ?_)
  go_wp2
  go_ret
  exact ⟨cap', cur', rfl, by have := HC.out.1; omega, HC.out.2, HF.out.1, HF.out.2.1, HF.out.2.2.1, HF.out.2.2.2⟩
noncomputable def tree_Pair_51.f (l0 : List (S91)) (a1 : Int) (l2 : List (S91)) : Option (List (S91)) := if l2.length = 1 ∧ 0 ≤ a1 ∧ a1 ≤ l0.length ∧ l0.length + 1 < 5864062014805 then some (l0.take a1.toNat ++ l2 ++ l0.drop a1.toNat) else none
theorem tree_Pair_51.one {w : World} {base : Nat} {ok : Nat → Prop} {l : List (S91)} {cs : List Value} (h : Reps (k91.M w base ok) 2 l cs) : ∀ u ∈ cs, u.oneCell' = true := by
  intro u hu
  obtain ⟨q, hq, rfl⟩ := List.mem_iff_getElem.1 hu
  have hql : q / 2 < l.length := by
    have := h.1
    omega
  have hc := h.2 (q / 2) _ (List.getElem?_eq_getElem hql)
  refine k91.K_one (k91.K_of_M hc) _ ?_
  rw [List.mem_iff_getElem?]
  refine ⟨q % 2, ?_⟩
  rw [List.getElem?_take, if_pos (Nat.mod_lt _ (by omega)), List.getElem?_drop, Nat.mul_comm, Nat.div_add_mod, List.getElem?_eq_getElem hq]
open HCopy in
theorem tree_Pair_51.reps {w w' : World} {base base' : Nat} {ok ok' : Nat → Prop} {l l2 : List (S91)} {cs ds : List Value} (i : Nat) (hi : i ≤ l.length) (h : Reps (k91.M w base ok) 2 l cs) (h2 : Reps (k91.M w' base' ok') 2 l2 ds) (hb : base' ≤ base) :
    Reps (k91.M w' base' (fun _ => True)) 2 (l.take i ++ l2 ++ l.drop i) (cs.take (i * 2) ++ ds ++ cs.drop (i * 2)) :=
  Reps.append (Reps.append ((Reps.take h i hi).imp_ fun _ _ hm => flat_move rfl hb hm) (h2.imp_ fun _ _ hm => flat_move rfl (Nat.le_refl _) hm)) ((Reps.drop h i).imp_ fun _ _ hm => flat_move rfl hb hm)
open HCopy in
set_option maxHeartbeats 2000000 in
set_option maxRecDepth 100000 in
/-- The place is the end. -/
theorem tree_Pair_51.last (P0_ : Nat → Prop) (u9000_ : Value) (l0 : List (S91)) (P2_ : Nat → Prop) (u9001_ : Value) (x : (S91)) (w0 w : World) (hB : Below w0.heap.size w0 w) (ho0 : Kd.R k91 91 w w0.heap.size P0_ u9000_ l0) (ho2 : Kd.R k91 91 w w0.heap.size P2_ u9001_ [x]) (hlim : l0.length + 1 < 5864062014805) :
    Calls Tryd.prog 51 #[u9000_, .int .i64 l0.length, u9001_] w fun e w' => ∃ v0_, e = .returned v0_ ∧ Kd.R k91 91 w' w0.heap.size (fun k_ => ((P0_ k_ ∨ P2_ k_) ∨ w.heap.size ≤ k_)) v0_ (l0 ++ [x]) ∧ Below w0.heap.size w0 w' ∧ Kept w w' (fun k_ => P0_ k_ ∨ P2_ k_) := by
  obtain ⟨A2, c2, rfl, hc2, hC2⟩ := Kd.R_reads ho2
  obtain ⟨A0, c0, hu0, hc0, hC0⟩ := Kd.R_reads ho0
  obtain ⟨ad2, rfl, _⟩ := hC2.2.2 (by simp)
  have hoK : Kd.R k91 91 w w0.heap.size (fun k_ => ((P0_ k_ ∨ P2_ k_) ∨ w.heap.size ≤ k_)) u9000_ l0 := Kd.R_mono ho0 (fun k hk => .inl (.inl hk))
  have hP0 := Aside0.mk ho0.1
  have HO := Aside0.mk hoK
  have HC := Aside0.mk hC2
  have HBB := Aside0.mk hB
  have hlen : l0.length ≤ c0 := hc0
  clear ho0 ho2 hC0 hC2 hoK hB
  subst hu0
  go_enter Tryd.func51, Tryd.ntmps51
  go_wp2_with (at_builtin; (refine Kd.R_append_rows k91 (w0 := w0) w0.heap.size rfl _ _ 75 91 ((.agg #[(.string ⟨#[]⟩), (.int .i64 0)])) 24 rfl Tryd.underlying75 info91 rfl (by decide) (by omega) _ l0 [x] _ _ _ (fun k_ => ((P0_ k_ ∨ P2_ k_) ∨ w.heap.size ≤ k_)) (fun _ => False) rfl rfl HO.out HC.out (fun _ _ h => h) (fun _ h => h.elim) (fun k hk => .inr hk) HBB.out HBB.out.size (by show (l0.length + 1) * 24 ≤ 140737488355328; omega) ?_); intro v1 w1 ho hb hg hat)
  all_goals go_ret
  all_goals exact ⟨_, rfl, ho, hb, Kept.of_grown hg (Kept.refl _ _) (fun k hk => .inl (.inl (hP0.out k hk)))⟩
open HCopy in
theorem tree_Pair_51.calls (P0_ : Nat → Prop) (u9000_ : Value) (l0 : List (S91)) (a1 : Int) (P2_ : Nat → Prop) (u9001_ : Value) (l2 : List (S91)) (r : List (S91)) (w0 w : World) (hB : Below w0.heap.size w0 w) (ho0 : Kd.R k91 91 w w0.heap.size P0_ u9000_ l0) (hp0_2 : ∀ k_, P0_ k_ → ¬ P2_ k_) (ho2 : Kd.R k91 91 w w0.heap.size P2_ u9001_ l2) (hp2_0 : ∀ k_, P2_ k_ → ¬ P0_ k_) (h : tree_Pair_51.f l0 a1 l2 = some r) :
    Calls Tryd.prog 51 #[u9000_, .int .i64 a1, u9001_] w fun e w' => ∃ v0_, e = .returned v0_ ∧ Kd.R k91 91 w' w0.heap.size (fun k_ => ((P0_ k_ ∨ P2_ k_) ∨ w.heap.size ≤ k_)) v0_ r ∧ Below w0.heap.size w0 w' ∧ Kept w w' (fun k_ => P0_ k_ ∨ P2_ k_) := by
  unfold tree_Pair_51.f at h
  split at h
  case isFalse => cases h
  case isTrue hc =>
    obtain ⟨hl1, hi0, hil, hlim⟩ := hc
    obtain rfl := Option.some.inj h
    obtain ⟨i, rfl⟩ : ∃ i : Nat, a1 = (i : Int) := ⟨a1.toNat, by omega⟩
    obtain ⟨x, rfl⟩ := List.length_eq_one_iff.1 hl1
    clear h
    rw [Int.toNat_natCast]
    by_cases hin : i < l0.length
    · obtain ⟨hok2, inner2, ⟨hlen2, hcase2⟩, hr2⟩ := ho2
      rcases hcase2 with ⟨_, hn⟩ | ⟨g2, c2, cur2, rfl, hbg2, hg2, hnc2, hcm2, hsz2, ht2⟩
      · simp at hn
      obtain ⟨hok, inner, ⟨hlen, hcase⟩, hr⟩ := ho0
      rcases hcase with ⟨_, hn⟩ | ⟨g, cap, cur, rfl, hbg, hg, hnc, hcm, hsz, ht⟩
      · omega
      have hP0 : P0_ g := hok g (by simp [Value.ownBlock])
      have hP2 : P2_ g2 := hok2 g2 (by simp [Value.ownBlock])
      have hne : g2 ≠ g := fun e => hp0_2 g hP0 (e ▸ hP2)
      have hbw := hB.size
      have hR := fun (w' : World) => tree_Pair_51.reps (w' := w') (base' := w0.heap.size) (ok' := fun _ => True) i (by omega) hr (hr2.imp_ fun _ _ hm => flat_move (w1 := w') (base1 := w0.heap.size) (ok1 := fun _ => True) rfl (Nat.le_refl _) hm) (Nat.le_refl _)
      by_cases hroom : l0.length + 1 ≤ cap
      · refine (tree_Pair_51.room g cap l0.length i cur inner inner2 g2 c2 cur2 w hg hg2 hne hin hroom hcm hsz ht (by show 2 ≤ _; have : k91.sz = 2 := rfl; rw [this] at hsz2; have : 1 ≤ c2 := hnc2; omega) ht2 (tree_Pair_51.one hr) (tree_Pair_51.one hr2)).mono ?_
        rintro e w' ⟨cur', rfl, rfl, hs', ht'⟩
        refine ⟨_, rfl, ?_, ?_, ?_⟩
        · exact row_R k91 rfl (Nat.le_refl _) (setRow_heap w.drew g cur _ 91 _ hg) hbg (by simp; omega) hroom hcm hs' ht' (hR w) (.inl (.inl hP0))
        · exact below_setRow (below_drew hB) hbg _
        · exact ⟨by simp [World.setRow], fun k hk hn => setRow_other w.drew g k cur' (fun e => hn (.inl (e ▸ hP0)))⟩
      · refine (tree_Pair_51.grow g cap l0.length i cur inner inner2 g2 c2 cur2 w hg hg2 hin hnc (by omega) hlim hsz ht (by show 2 ≤ _; have : k91.sz = 2 := rfl; rw [this] at hsz2; have : 1 ≤ c2 := hnc2; omega) ht2 (tree_Pair_51.one hr) (tree_Pair_51.one hr2)).mono ?_
        rintro e w' ⟨cap', cur', rfl, hc1, hc2', hh, hbb, hs', ht'⟩
        refine ⟨_, rfl, ?_, ?_, ?_⟩
        · exact row_R k91 rfl (Nat.le_refl _) hh hbw (by simp; omega) hc1 hc2' hs' ht' (hR w) (.inr (Nat.le_refl _))
        · exact hB.trans (hbb.mono hbw)
        · exact Kept.of_below hbb _
    · obtain rfl : i = l0.length := by omega
      rw [List.take_length, List.drop_length, List.append_nil]
      exact tree_Pair_51.last P0_ u9000_ l0 P2_ u9001_ x w0 w hB ho0 ho2 hlim


/-! ### tree_Add: function 21 -/
noncomputable def tree_Add.j0 : Nat → ByteArray → Int → List (S91) → Int → Bool → Bool → Option ((List (S85)) × Int × List Int × Int)
 | 0, _, _, _, _, _, _ => none
 | k + 1, x1, x2, x8, x9, x10, x21 => if x21 = true then (some (([] : List (S85)), 0, ([] : List Int), 1)) else (if x10 = true then (some (([] : List (S85)), 0, ([] : List Int), 4)) else ((tree_Pair_51.f x8 x9 (([(⟨x1, x2⟩ : S91)] : List (S91)))).bind fun t202 => ((tree_made.f t202).bind fun bt205 => (if (bt205.1.length : Int) > 200 then (some (([] : List (S85)), 0, ([] : List Int), 5)) else (some (bt205.1, bt205.2.1, bt205.2.2, 0))))))
noncomputable def tree_Add.f (k : Nat) (l0_0 : List (S85)) (a0_1 : Int) (l0_2 : List Int) (a1 : ByteArray) (a2 : Int) : Option ((List (S85)) × Int × List Int × Int) := (tree_asked.f k l0_0 a0_1 l0_2 a1).bind fun bt193 => (if bt193.2.2.2 = 0 then (if a2 < 0 then (tree_Add.j0 k a1 a2 bt193.1 bt193.2.1 bt193.2.2.1 true) else (tree_Add.j0 k a1 a2 bt193.1 bt193.2.1 bt193.2.2.1 (decide (a2 > 1073741824)))) else (tree_Add.j0 k a1 a2 bt193.1 bt193.2.1 bt193.2.2.1 true))
theorem tree_Add.mono_l : ∀ k, (∀ y0 y1 y2 y3 y4 y5, LeO (tree_Add.j0 k y0 y1 y2 y3 y4 y5) (tree_Add.j0 (k + 1) y0 y1 y2 y3 y4 y5))
 | 0 => fun _ _ _ _ _ _ r h => by simp [tree_Add.j0] at h
 | k + 1 => by
  have ih0 := tree_Add.mono_l k
  ·intro y0 y1 y2 y3 y4 y5
   unfold tree_Add.j0
   repeat' first
   | (with_reducible exact ih0 _ _ _ _ _ _)
   | (with_reducible exact tree_asked.mono _ _ _ _ _)
   | (with_reducible exact LeO.refl _)
   | (with_reducible exact LeO.none _)
   | (with_reducible refine LeO.ite ?_ ?_)
   | (with_reducible refine LeO.bind ?_ (fun _ => ?_))
   | exact ih0 _ _ _ _ _ _
   | exact tree_asked.mono _ _ _ _ _
   | exact LeO.none _
   | refine LeO.ite ?_ ?_
   | refine LeO.bind ?_ (fun _ => ?_)
theorem tree_Add.mono : ∀ a0 a1 a2 a3 a4 k, LeO (tree_Add.f k a0 a1 a2 a3 a4) (tree_Add.f (k + 1) a0 a1 a2 a3 a4) := by
 intro a0 a1 a2 a3 a4 k
 have ih0 := tree_Add.mono_l k
 unfold tree_Add.f
 repeat' first
   | (with_reducible exact ih0 _ _ _ _ _ _)
   | (with_reducible exact tree_asked.mono _ _ _ _ _)
   | (with_reducible exact LeO.refl _)
   | (with_reducible exact LeO.none _)
   | (with_reducible refine LeO.ite ?_ ?_)
   | (with_reducible refine LeO.bind ?_ (fun _ => ?_))
   | exact ih0 _ _ _ _ _ _
   | exact tree_asked.mono _ _ _ _ _
   | exact LeO.none _
   | refine LeO.ite ?_ ?_
   | refine LeO.bind ?_ (fun _ => ?_)
set_option maxHeartbeats 8000000 in
set_option maxRecDepth 100000 in
theorem tree_Add.calls (k : Nat) (A0_0 : Option Addr) (c0_0 : Nat) (l0_0 : List (S85)) (a0_1 : Int) (A0_2 : Option Addr) (c0_2 : Nat) (l0_2 : List Int) (a1 : ByteArray) (a2 : Int) (r1 : List (S85)) (r2 : Int) (r3 : List Int) (r4 : Int) (w : World) (hr0_0 : Kd.C k85 w A0_0 l0_0.length l0_0) (hc0_0 : l0_0.length ≤ c0_0) (hr0_2 : Kd.C (Kd.int .i64) w A0_2 l0_2.length l0_2) (hc0_2 : l0_2.length ≤ c0_2) (h : tree_Add.f k l0_0 a0_1 l0_2 a1 a2 = some (r1, r2, r3, r4)) :
  Calls Tryd.prog 21 #[.agg #[.slice A0_0 l0_0.length c0_0, .int .i64 a0_1, .slice A0_2 l0_2.length c0_2], .string a1, .int .i64 a2] w fun e w' => ∃ v0_ v2_ : Value, e = .returned (.tuple #[.agg #[v0_, .int .i64 r2, v2_], .int .i64 r4]) ∧ Kd.S k85 85 w' w.heap.size (fun k_ => some k_ ≠ (v2_ : Value).ownBlock) v0_ r1 ∧ Kd.R (Kd.int .i64) 3 w' w.heap.size (fun _ => True) v2_ r3 ∧ Below w.heap.size w w' := by
 have hu25 := Tryd.underlying25
 have hu91 := Tryd.underlying91
 have HR0_0 := mk0 hr0_0
 have HC0_0 := mk0 hc0_0
 clear hr0_0 hc0_0
 have HR0_2 := mk0 hr0_2
 have HC0_2 := mk0 hc0_2
 clear hr0_2 hc0_2
 have HB := mk0 (Below.refl w.heap.size w)
 have H : ((tree_asked.f k l0_0 a0_1 l0_2 a1).bind fun bt193 => (if bt193.2.2.2 = 0 then (if a2 < 0 then (tree_Add.j0 k a1 a2 bt193.1 bt193.2.1 bt193.2.2.1 true) else (tree_Add.j0 k a1 a2 bt193.1 bt193.2.1 bt193.2.2.1 (decide (a2 > 1073741824)))) else (tree_Add.j0 k a1 a2 bt193.1 bt193.2.1 bt193.2.2.1 true))) = some (r1, r2, r3, r4) := h
 clear h
 replace H := Option.bind_eq_some_iff.mp H
 obtain ⟨⟨t193, t196, t197, t198⟩, A40, H⟩ := H
 try dsimp only at H
 have A4 := mk0 A40
 clear A40
 have HC5 := mk0 H
 clear H
 go_enter Tryd.func21, Tryd.ntmps21
 go_upto_region 2 with (first | ((with_reducible refine gate_dst (N := 3) rfl ?_); refine bx_ (N := 3) (cs := #[.slice A0_0 l0_0.length c0_0, .int .i64 a0_1, .slice A0_2 l0_2.length c0_2]) (t := 25) (h := ?_); intro gb191 hg w6 hbox hb; have n2_ := mk0 (gz_ HB hg); have n3_ := mk0 (gz_ HB hg); replace HB := mk0 (bt_ (b_ HB) hb); have BK191 := mk0 (hbox); have GW191 := n2_; have GE191 := n3_; clear n2_ n3_; clear hb hbox hg) | ((with_reducible refine gate_dst (N := 6) rfl ?_); refine bx_ (N := 6) (cs := #[.slice none 0 0, .int .i64 0, .slice none 0 0]) (t := 25) (h := ?_); intro gb192 hg w7 hbox hb; have n3_ := mk0 (gz_ HB hg); have n4_ := mk0 (gz_ HB hg); have n5_ := mk0 (ne1_ BK191 hg); have n6_ := mk0 (ne2_ BK191 hg); replace BK191 := mk0 (u_ BK191 hb); replace HB := mk0 (bt_ (b_ HB) hb); have BK192 := mk0 (hbox); have GW192 := n3_; have GE192 := n4_; have NB191_192 := n5_; have NB192_191 := n6_; clear n3_ n4_ n5_ n6_ hb hbox hg; have hnb8 := NB191_192.out; have hnc8 := NB192_191.out; obtain ⟨hcz9_0, hcz9_1, hcz9_2, hfz9_0, hfz9_1, hfz9_2⟩ := c3_ BK191) | ((with_reducible refine gate_callee (f := 49) rfl ?_); refine gL_ (some 16) Tryd.func49 #[.agg #[.slice A0_0 l0_0.length c0_0, .int .i64 a0_1, .slice A0_2 l0_2.length c0_2], .string a1] (h := ?_); (with_reducible refine (tree_asked.calls k _ _ l0_0 a0_1 _ _ l0_2 a1 t193 t196 t197 t198 _ ?side1 ?side2 ?side3 ?side4 A4.out).mono ?_); (case side1 => exact cb_ HR0_0 HB); (case side2 => exact HC0_0.out); (case side3 => exact cb_ HR0_2 HB); (case side4 => exact HC0_2.out); rintro e w10 ⟨v194, rfl, ho0, hb⟩; refine ⟨_, rfl, ?_⟩; have n0_ := mk0 (Kd.R_lower ho0 (bz_ (b_ HB))); replace BK191 := mk0 (u_ BK191 hb); replace BK192 := mk0 (u_ BK192 hb); replace HB := mk0 (bt_ (b_ HB) hb); have HO195 := n0_; clear n0_; (try clear hb); (try clear ho0)))
 (try simp only [Act.put, List.setIfInBounds_toArray, List.set_cons_zero, List.set_cons_succ])
 go_cut [21] (fun v21 wc => ∃ (kq : Nat) (x21_4 : Bool), v21 = .bool x21_4 ∧ Fc (tree_Add.j0 kq a1 a2 t193 t196 t197 x21_4 = some (r1, r2, r3, r4)) ∧ Fc (kq ≤ k) ∧ Fc (Kd.R k91 91 wc w.heap.size (fun _ => True) v194 t193) ∧ Fc (wc.heap[gb191]? = some (.cells #[(.slice A0_0 l0_0.length c0_0), .int .i64 a0_1, (.slice A0_2 l0_2.length c0_2)] 25 (0, 0))) ∧ Fc (wc.heap[gb192]? = some (.cells #[(.slice none 0 0), .int .i64 0, (.slice none 0 0)] 25 (0, 0))) ∧ Fc (Below w.heap.size w wc))
 case first =>
  have H := HC5.out
  clear HC5
  by_cases c11 : t198 = 0
  ·rw [if_pos c11] at H
   have c11b0 : (t198 == 0) = true := beq_iff_eq.mpr c11
   have c11b1 : (t198 != 0) = false := bne_eq_false_iff_eq.mpr c11
   clear c11
   (first | rw [c11b0] | (simp only [i64_w, i32_w]; rw [c11b0]) | skip)
   by_cases c12 : a2 < 0
   ·rw [if_pos c12] at H
    have c12b0 : decide (a2 < 0) = true := decide_eq_true c12
    clear c12
    have H' := mk0 H
    clear H
    go_wp2
    go_meet
    case rel => exact ⟨_, (true), (by first | rfl | (simp; done) | (simp [*]; done)), H', ⟨by first | omega | exact Nat.le_refl _⟩, ⟨by (with_reducible repeat (first | apply Ra_ | apply Rn_ | apply Rd_)); exact HO195.out⟩, ⟨h_ BK191⟩, ⟨h_ BK192⟩, ⟨b_ HB⟩⟩
   ·rw [if_neg c12] at H
    have c12b0 : decide (a2 < 0) = false := decide_eq_false c12
    clear c12
    have H' := mk0 H
    clear H
    go_wp2
    go_meet
    case rel => exact ⟨_, (decide (a2 > 1073741824)), (by first | rfl | (simp; done) | (simp [*]; done)), H', ⟨by first | omega | exact Nat.le_refl _⟩, ⟨by (with_reducible repeat (first | apply Ra_ | apply Rn_ | apply Rd_)); exact HO195.out⟩, ⟨h_ BK191⟩, ⟨h_ BK192⟩, ⟨b_ HB⟩⟩
  ·rw [if_neg c11] at H
   have c11b0 : (t198 == 0) = false := beq_eq_false_iff_ne.mpr c11
   have c11b1 : (t198 != 0) = true := bne_iff_ne.mpr c11
   (first | rw [c11b0] | (simp only [i64_w, i32_w]; rw [c11b0]) | skip)
   have H' := mk0 H
   clear H
   go_wp2
   go_meet
   case rel => exact ⟨_, (true), (by first | rfl | (simp; done) | (simp [*]; done)), H', ⟨by first | omega | exact Nat.le_refl _⟩, ⟨by (with_reducible repeat (first | apply Ra_ | apply Rn_ | apply Rd_)); exact HO195.out⟩, ⟨h_ BK191⟩, ⟨h_ BK192⟩, ⟨b_ HB⟩⟩
 case rest =>
  clear HC5
  try clear c11
  try clear c11b0
  try clear c11b1
  try clear c12
  try clear c12b0
  try clear hcz9_0
  try clear hcz9_1
  try clear hcz9_2
  try clear hfz9_0
  try clear hfz9_1
  try clear hfz9_2
  obtain ⟨kq, x21_4, rfl, HA, HJ4, HO_8, BK191, BK192, HB⟩ := hcut
  cases kq with
  | zero => exact absurd HA.out (by simp [tree_Add.j0])
  | succ kj4 =>
   have H := HA.out
   clear HA
   simp only [tree_Add.j0] at H
   as_aux_lemma =>
    by_cases c13 : x21_4 = true
    ·subst c13
     rw [if_pos rfl] at H
     simp only [Option.some.injEq, Prod.mk.injEq] at H
     obtain ⟨rfl, rfl, rfl, rfl⟩ := H
     have hnb14 := NB192_191.out
     have hnc14 := NB191_192.out
     obtain ⟨hcz15_0, hcz15_1, hcz15_2, hfz15_0, hfz15_1, hfz15_2⟩ := c3_ BK192
     go_wp2
     refine bodyPost_ret (results_ct rfl _ _ gb192 25 #[.slice none 0 0, .int .i64 0, .slice none 0 0] (0, 0) _ rfl (pu_ (cs := #[.slice none 0 0, .int .i64 0, .slice none 0 0]) (pu_ (cs := #[.slice none 0 0, .int .i64 0, .slice none 0 0]) (pu_ (cs := #[.slice none 0 0, .int .i64 0, .slice none 0 0]) (h_ BK192)))) Tryd.underlying25 rfl (by kernel_rfl)) rfl ?_
     exact ⟨_, _, by first | rfl | (simp [errW_none, errW_some] <;> rfl) | (simp [*, errW_none, errW_some] <;> rfl), by first | exact Kd.S_nil _ _ _ _ _ | exact Kd.N_nil _ _ _ _ _ | exact Kd.V_nil _ _ _ _ _ | exact Kd.Q_nil _ _ _ _ _ | exact Kd.R_nil _ _ _ _ _, by first | exact Kd.R_nil _ _ _ _ _ | exact Kd.N_nil _ _ _ _ _ | exact Kd.V_nil _ _ _ _ _ | exact Kd.Q_nil _ _ _ _ _ | exact Kd.S_nil _ _ _ _ _, b_ HB⟩
    focus
     replace c13 := Bool.eq_false_iff.mpr c13
     subst c13
     rw [if_neg (show ¬ (false = true) by decide)] at H
     by_cases c16 : t197 = true
     ·subst c16
      rw [if_pos rfl] at H
      simp only [Option.some.injEq, Prod.mk.injEq] at H
      obtain ⟨rfl, rfl, rfl, rfl⟩ := H
      have hnb17 := NB192_191.out
      have hnc17 := NB191_192.out
      obtain ⟨hcz18_0, hcz18_1, hcz18_2, hfz18_0, hfz18_1, hfz18_2⟩ := c3_ BK192
      go_wp2
      refine bodyPost_ret (results_ct rfl _ _ gb192 25 #[.slice none 0 0, .int .i64 0, .slice none 0 0] (0, 0) _ rfl (pu_ (cs := #[.slice none 0 0, .int .i64 0, .slice none 0 0]) (pu_ (cs := #[.slice none 0 0, .int .i64 0, .slice none 0 0]) (pu_ (cs := #[.slice none 0 0, .int .i64 0, .slice none 0 0]) (h_ BK192)))) Tryd.underlying25 rfl (by kernel_rfl)) rfl ?_
      exact ⟨_, _, by first | rfl | (simp [errW_none, errW_some] <;> rfl) | (simp [*, errW_none, errW_some] <;> rfl), by first | exact Kd.S_nil _ _ _ _ _ | exact Kd.N_nil _ _ _ _ _ | exact Kd.V_nil _ _ _ _ _ | exact Kd.Q_nil _ _ _ _ _ | exact Kd.R_nil _ _ _ _ _, by first | exact Kd.R_nil _ _ _ _ _ | exact Kd.N_nil _ _ _ _ _ | exact Kd.V_nil _ _ _ _ _ | exact Kd.Q_nil _ _ _ _ _ | exact Kd.S_nil _ _ _ _ _, b_ HB⟩
     focus
      replace c16 := Bool.eq_false_iff.mpr c16
      subst c16
      rw [if_neg (show ¬ (false = true) by decide)] at H
      obtain ⟨y199, hy199⟩ : ∃ y_ : List (S91), y_ = (([(⟨a1, a2⟩ : S91)] : List (S91))) := ⟨_, rfl⟩
      replace H : ((tree_Pair_51.f t193 t196 y199).bind fun t202 => ((tree_made.f t202).bind fun bt205 => (if (bt205.1.length : Int) > 200 then (some (([] : List (S85)), 0, ([] : List Int), 5)) else (some (bt205.1, bt205.2.1, bt205.2.2, 0))))) = some (r1, r2, r3, r4) := by first | (rw [hy199]; with_reducible exact H) | (have H2_ := (Option.bind_some _ _).symm.trans H; rw [hy199]; with_reducible exact H2_) | (have H2_ := (Option.bind_some _ _).symm.trans H; with_reducible exact H2_) | with_reducible exact H | (rw [hy199]; exact H) | exact H
      have Ny199 := mk0 hy199
      clear hy199
      replace H := Option.bind_eq_some_iff.mp H
      obtain ⟨t202, A190, H⟩ := H
      try dsimp only at H
      have A19 := mk0 A190
      clear A190
      replace H := Option.bind_eq_some_iff.mp H
      obtain ⟨⟨t205, t208, t209⟩, A200, H⟩ := H
      try dsimp only at H
      have A20 := mk0 A200
      clear A200
      by_cases c21 : (t205.length : Int) > 200
      focus
       rw [if_pos c21] at H
       have c21b0 : decide (200 < (t205.length : Int)) = true := decide_eq_true c21
       have c21b1 : decide (200 < t205.length) = true := decide_eq_true (by omega)
       clear c21
       simp only [Option.some.injEq, Prod.mk.injEq] at H
       obtain ⟨rfl, rfl, rfl, rfl⟩ := H
      rotate_left 1
      focus
       rw [if_neg c21] at H
       have c21b0 : decide (200 < (t205.length : Int)) = false := decide_eq_false c21
       have c21b1 : decide (200 < t205.length) = false := decide_eq_false (by omega)
       clear c21
       simp only [Option.some.injEq, Prod.mk.injEq] at H
       obtain ⟨rfl, rfl, rfl, rfl⟩ := H
      rotate_right 1
    all_goals go_wp2_with (first | ((with_reducible refine gate_dst (N := 41) rfl ?_); refine Kd.R_lit k91 _ 91 ?hg (N := 41) ?hd (xs := ([(⟨a1, a2⟩ : S91)] : List (S91))) (inner := [.string a1, .int .i64 a2]) (ok := fun _ => True) (okp := fun _ => True) ?hr ?hp (fun _ hk => hk) trivial (Below.refl _ _) (Nat.le_refl _) (by simp) ?_; (case hd => rfl); (case hg => rfl); (case hr => first | (go_simp; done) | (go_simp; rfl)); (case hp => exact (Reps.c2 (show Kd.M k91 _ _ _ (⟨a1, a2⟩ : S91) [.string a1, .int .i64 a2] from (k91_mkM _ _ _ (⟨a1, a2⟩ : S91) )) (Reps.none _ _))); intro v200 w22 ho23 hb hg_ hnew_; clear hg_ hnew_; (first | rw [← Ny199.out] at ho23 | (simp only [Int.reduceToNat] at ho23; rw [← Ny199.out] at ho23)); have n1_ := mk0 (Kd.R_lower (Kd.R_new' ho23 (Kd.R_lt (r_ HO_8))) (bz_ (b_ HB))); replace HO_8 := mk0 (Kd.R_elder' (r_ HO_8) (Kd.R_base ho23) hb); replace BK191 := mk0 (u_ BK191 hb); replace BK192 := mk0 (u_ BK192 hb); replace HB := mk0 (bt_ (b_ HB) hb); have HO201 := n1_; clear n1_ hb ho23; obtain ⟨Ao24, co24, eo24⟩ := Kd.R_slice HO_8.out; subst eo24; obtain ⟨Ao25, co25, eo25⟩ := Kd.R_slice HO201.out; subst eo25) | ((with_reducible refine gate_callee (f := 51) rfl ?_); refine gL_ (some 42) Tryd.func51 #[.slice Ao24 t193.length co24, .int .i64 t196, .slice Ao25 y199.length co25] (h := ?_); (with_reducible refine (tree_Pair_51.calls (fun k_ => some k_ = (.slice Ao24 t193.length co24 : Value).ownBlock) (.slice Ao24 t193.length co24) t193 t196 (fun k_ => some k_ = (.slice Ao25 y199.length co25 : Value).ownBlock) (.slice Ao25 y199.length co25) y199 t202 w _ ?side1 ?side2 ?side3 ?side4 ?side5 A19.out).mono ?_); (case side1 => repeat (first | (with_reducible first | exact HB.out | apply bL_ | apply pN_ | apply b1_ | refine bs_ ?_ GE191.out | refine bs_ ?_ GE192.out) | exact HB.out)); (case side2 => exact Kd.R_tight rfl HO_8.out); (case side3 => exact fun k_ e_ => (HO_8.out.1 k_ e_.symm).2); (case side4 => exact Kd.R_tight rfl HO201.out); (case side5 => exact fun k_ e_ => (HO201.out.1 k_ e_.symm).2); rintro e w26 ⟨v203, rfl, ho0, hb, hkp⟩; refine ⟨_, rfl, ?_⟩; replace BK191 := mk0 (blk_kept (h_ BK191) hkp (fun hs_ => Or.elim hs_ (fun e_ => (fun e_ => (Kd.R_ne HO_8.out BK191.out (by decide)) e_) e_) (fun e_ => (fun e_ => (Kd.R_ne HO201.out BK191.out (by decide)) e_) e_))); replace BK192 := mk0 (blk_kept (h_ BK192) hkp (fun hs_ => Or.elim hs_ (fun e_ => (fun e_ => (Kd.R_ne HO_8.out BK192.out (by decide)) e_) e_) (fun e_ => (fun e_ => (Kd.R_ne HO201.out BK192.out (by decide)) e_) e_))); have HO204 := mk0 (Kd.R_mono (ok' := fun k_ => True) ho0 (fun k_ hk_ => trivial)); replace HB := mk0 (hb); clear HO201 HO_8; (try clear hb); (try clear hkp); (try clear ho0); obtain ⟨Ao27, co27, eo27⟩ := Kd.R_slice HO204.out; subst eo27) | ((with_reducible refine gate_callee (f := 50) rfl ?_); refine gL_ (some 43) Tryd.func50 #[.slice Ao27 t202.length co27] (h := ?_); (with_reducible refine (tree_made.calls _ _ t202 t205 t208 t209 _ ?side1 ?side2 A20.out).mono ?_); (case side1 => exact cr_ HO204); (case side2 => exact (Kd.R_reads' HO204.out).2.1); rintro e w28 ⟨v206, v210, rfl, ho0, ho1, hb⟩; refine ⟨_, rfl, ?_⟩; have n1_ := mk0 (Kd.S_lower ho0 (bz_ (b_ HB))); have n2_ := mk0 (Kd.R_lower ho1 (bz_ (b_ HB))); replace HO204 := mk0 (Kd.R_below (r_ HO204) hb); replace BK191 := mk0 (u_ BK191 hb); replace BK192 := mk0 (u_ BK192 hb); replace HB := mk0 (bt_ (b_ HB) hb); have HO207 := n1_; have HO211 := n2_; clear n1_ n2_; (try clear hb); (try clear ho0); (try clear ho1)) | ((with_reducible refine gate_dst (N := 12) rfl ?_); refine bx_ (N := 12) (cs := #[.slice none 0 0, .int .i64 0, .slice none 0 0]) (t := 25) (h := ?_); intro gb212 hg w29 hbox hb; have n7_ := mk0 (gz_ HB hg); have n8_ := mk0 (gz_ HB hg); have n9_ := mk0 (ne1_ BK191 hg); have n10_ := mk0 (ne2_ BK191 hg); have n11_ := mk0 (ne1_ BK192 hg); have n12_ := mk0 (ne2_ BK192 hg); replace HO204 := mk0 (Kd.R_below (r_ HO204) hb); replace HO207 := mk0 (Kd.S_below (s_ HO207) hb); replace HO211 := mk0 (Kd.R_below (r_ HO211) hb); replace BK191 := mk0 (u_ BK191 hb); replace BK192 := mk0 (u_ BK192 hb); replace HB := mk0 (bt_ (b_ HB) hb); have BK212 := mk0 (hbox); have GW212 := n7_; have GE212 := n8_; have NB191_212 := n9_; have NB212_191 := n10_; have NB192_212 := n11_; have NB212_192 := n12_; clear n7_ n8_ n9_ n10_ n11_ n12_ hb hbox hg; obtain ⟨Ao30, co30, eo30⟩ := Kd.S_slice HO207.out; subst eo30; have hnb31 := NB212_191.out; have hnc31 := NB191_212.out; have hnb32 := NB212_192.out; have hnc32 := NB192_212.out; obtain ⟨hcz33_0, hcz33_1, hcz33_2, hfz33_0, hfz33_1, hfz33_2⟩ := c3_ BK212; obtain ⟨Ao34, co34, eo34⟩ := Kd.R_slice HO211.out; subst eo34; have hnb35 := NB192_191.out; have hnc35 := NB191_192.out; obtain ⟨hcz36_0, hcz36_1, hcz36_2, hfz36_0, hfz36_1, hfz36_2⟩ := c3_ BK192))
    ·refine bodyPost_ret (results_ct rfl _ _ gb192 25 #[.slice none 0 0, .int .i64 0, .slice none 0 0] (0, 0) _ rfl (pu_ (cs := #[.slice none 0 0, .int .i64 0, .slice none 0 0]) (pu_ (cs := #[.slice none 0 0, .int .i64 0, .slice none 0 0]) (pu_ (cs := #[.slice none 0 0, .int .i64 0, .slice none 0 0]) (fa_ (fa_ (fa_ (h_ BK192) NB192_212.out) NB192_212.out) NB192_212.out)))) Tryd.underlying25 rfl (by kernel_rfl)) rfl ?_
     exact ⟨_, _, by first | rfl | (simp [errW_none, errW_some] <;> rfl) | (simp [*, errW_none, errW_some] <;> rfl), by first | exact Kd.S_nil _ _ _ _ _ | exact Kd.N_nil _ _ _ _ _ | exact Kd.V_nil _ _ _ _ _ | exact Kd.Q_nil _ _ _ _ _ | exact Kd.R_nil _ _ _ _ _, by first | exact Kd.R_nil _ _ _ _ _ | exact Kd.N_nil _ _ _ _ _ | exact Kd.V_nil _ _ _ _ _ | exact Kd.Q_nil _ _ _ _ _ | exact Kd.S_nil _ _ _ _ _, b_ HB⟩
    ·refine bodyPost_ret (results_ct rfl _ _ gb192 25 #[.slice Ao30 t205.length co30, .int .i64 t208, .slice Ao34 t209.length co34] (0, 0) _ rfl (pu_ (cs := #[.slice Ao30 t205.length co30, .int .i64 t208, .slice none 0 0]) (pu_ (cs := #[.slice Ao30 t205.length co30, .int .i64 0, .slice none 0 0]) (pu_ (cs := #[.slice none 0 0, .int .i64 0, .slice none 0 0]) (fa_ (fa_ (fa_ (h_ BK192) NB192_212.out) NB192_212.out) NB192_212.out)))) Tryd.underlying25 rfl (by kernel_rfl)) rfl ?_
     exact ⟨_, _, by first | rfl | (simp [errW_none, errW_some] <;> rfl) | (simp [*, errW_none, errW_some] <;> rfl), by (with_reducible repeat (first | apply Kd.S_alloc | apply Kd.S_drewN | apply Kd.S_drew)); exact Kd.S_mono (Kd.S_far (p := ⟨gb192, 2, none⟩) (Kd.S_far (p := ⟨gb192, 1, none⟩) (Kd.S_far (p := ⟨gb192, 0, none⟩) (Kd.S_far (p := ⟨gb212, 2, none⟩) (Kd.S_far (p := ⟨gb212, 1, none⟩) (Kd.S_far (p := ⟨gb212, 0, none⟩) (Kd.S_types (Kd.S_types HO207.out BK212.out (by decide)) BK192.out (by decide)) (fun _ hk => hk.1.2) (.slice Ao30 t205.length co30)) (fun _ hk => hk.1.2) (.int .i64 t208)) (fun _ hk => hk.1.2) (.slice Ao34 t209.length co34)) (fun _ hk => hk.2) (.slice Ao30 t205.length co30)) (fun _ hk => hk.2) (.int .i64 t208)) (fun _ hk => hk.2) (.slice Ao34 t209.length co34)) (fun _ hk => hk.1.1), by (with_reducible repeat (first | apply Ra_ | apply Rn_ | apply Rd_)); exact Kd.R_mono (Kd.R_far (p := ⟨gb192, 2, none⟩) (Kd.R_far (p := ⟨gb192, 1, none⟩) (Kd.R_far (p := ⟨gb192, 0, none⟩) (Kd.R_far (p := ⟨gb212, 2, none⟩) (Kd.R_far (p := ⟨gb212, 1, none⟩) (Kd.R_far (p := ⟨gb212, 0, none⟩) (Kd.R_types (Kd.R_types HO211.out BK212.out (by decide)) BK192.out (by decide)) (fun _ hk => hk.1.2) (.slice Ao30 t205.length co30)) (fun _ hk => hk.1.2) (.int .i64 t208)) (fun _ hk => hk.1.2) (.slice Ao34 t209.length co34)) (fun _ hk => hk.2) (.slice Ao30 t205.length co30)) (fun _ hk => hk.2) (.int .i64 t208)) (fun _ hk => hk.2) (.slice Ao34 t209.length co34)) (fun _ hk => trivial), b_ HB⟩

/-! ### tree_Find: function 26 -/
noncomputable def tree_Find.f (k : Nat) (l0_0 : List (S85)) (a0_1 : Int) (l0_2 : List Int) (a1 : ByteArray) : Option (Int × Int) := (tree_asked.f k l0_0 a0_1 l0_2 a1).bind fun bt214 => (if bt214.2.2.2 = 0 then (if bt214.2.2.1 = true then (if 0 ≤ bt214.2.1 then (if bt214.2.1 < (bt214.1.length : Int) then (some ((rd_T91 bt214.1 bt214.2.1).f1, 0)) else (none)) else (none)) else (some (0, 3))) else (some (0, bt214.2.2.2)))
theorem tree_Find.mono : ∀ a0 a1 a2 a3 k, LeO (tree_Find.f k a0 a1 a2 a3) (tree_Find.f (k + 1) a0 a1 a2 a3) := by
 intro a0 a1 a2 a3 k
 unfold tree_Find.f
 repeat' first
   | (with_reducible exact tree_asked.mono _ _ _ _ _)
   | (with_reducible exact LeO.refl _)
   | (with_reducible exact LeO.none _)
   | (with_reducible refine LeO.ite ?_ ?_)
   | (with_reducible refine LeO.bind ?_ (fun _ => ?_))
   | exact tree_asked.mono _ _ _ _ _
   | exact LeO.none _
   | refine LeO.ite ?_ ?_
   | refine LeO.bind ?_ (fun _ => ?_)
set_option maxHeartbeats 8000000 in
set_option maxRecDepth 100000 in
theorem tree_Find.calls (k : Nat) (A0_0 : Option Addr) (c0_0 : Nat) (l0_0 : List (S85)) (a0_1 : Int) (A0_2 : Option Addr) (c0_2 : Nat) (l0_2 : List Int) (a1 : ByteArray) (r1 : Int) (r2 : Int) (w : World) (hr0_0 : Kd.C k85 w A0_0 l0_0.length l0_0) (hc0_0 : l0_0.length ≤ c0_0) (hr0_2 : Kd.C (Kd.int .i64) w A0_2 l0_2.length l0_2) (hc0_2 : l0_2.length ≤ c0_2) (h : tree_Find.f k l0_0 a0_1 l0_2 a1 = some (r1, r2)) :
  Calls Tryd.prog 26 #[.agg #[.slice A0_0 l0_0.length c0_0, .int .i64 a0_1, .slice A0_2 l0_2.length c0_2], .string a1] w fun e w' => e = .returned (.tuple #[.int .i64 r1, .int .i64 r2]) ∧ Below w.heap.size w w' := by
 have hu25 := Tryd.underlying25
 have HR0_0 := mk0 hr0_0
 have HC0_0 := mk0 hc0_0
 clear hr0_0 hc0_0
 have HR0_2 := mk0 hr0_2
 have HC0_2 := mk0 hc0_2
 clear hr0_2 hc0_2
 have HB := mk0 (Below.refl w.heap.size w)
 have H : ((tree_asked.f k l0_0 a0_1 l0_2 a1).bind fun bt214 => (if bt214.2.2.2 = 0 then (if bt214.2.2.1 = true then (if 0 ≤ bt214.2.1 then (if bt214.2.1 < (bt214.1.length : Int) then (some ((rd_T91 bt214.1 bt214.2.1).f1, 0)) else (none)) else (none)) else (some (0, 3))) else (some (0, bt214.2.2.2)))) = some (r1, r2) := h
 clear h
 replace H := Option.bind_eq_some_iff.mp H
 obtain ⟨⟨t214, t217, t218, t219⟩, A30, H⟩ := H
 try dsimp only at H
 have A3 := mk0 A30
 clear A30
 by_cases c4 : t219 = 0
 focus
  rw [if_pos c4] at H
  have c4b0 : (t219 == 0) = true := beq_iff_eq.mpr c4
  have c4b1 : (t219 != 0) = false := bne_eq_false_iff_eq.mpr c4
  clear c4
  by_cases c5 : t218 = true
  focus
   subst c5
   rw [if_pos rfl] at H
   by_cases c6 : 0 ≤ t217
   focus
    rw [if_pos c6] at H
    have c6b0 : decide (0 ≤ t217) = true := decide_eq_true c6
    clear c6
    by_cases c7 : t217 < (t214.length : Int)
    focus
     rw [if_pos c7] at H
     have c7b0 : decide (t217 < (t214.length : Int)) = true := decide_eq_true c7
     clear c7
     simp only [Option.some.injEq, Prod.mk.injEq] at H
     obtain ⟨rfl, rfl⟩ := H
     go_enter Tryd.func26, Tryd.ntmps26
    rotate_left 1
    ·rw [if_neg c7] at H
     exact absurd H (by simp)
   rotate_left 1
   ·rw [if_neg c6] at H
    exact absurd H (by simp)
  rotate_left 1
  focus
   replace c5 := Bool.eq_false_iff.mpr c5
   subst c5
   rw [if_neg (show ¬ (false = true) by decide)] at H
   simp only [Option.some.injEq, Prod.mk.injEq] at H
   obtain ⟨rfl, rfl⟩ := H
   go_enter Tryd.func26, Tryd.ntmps26
  rotate_right 1
 rotate_left 2
 focus
  rw [if_neg c4] at H
  have c4b0 : (t219 == 0) = false := beq_eq_false_iff_ne.mpr c4
  have c4b1 : (t219 != 0) = true := bne_iff_ne.mpr c4
  simp only [Option.some.injEq, Prod.mk.injEq] at H
  obtain ⟨rfl, rfl⟩ := H
  go_enter Tryd.func26, Tryd.ntmps26
 rotate_right 2
 all_goals go_wp2_with (first | ((with_reducible refine gate_dst (N := 2) rfl ?_); refine bx_ (N := 2) (cs := #[.slice A0_0 l0_0.length c0_0, .int .i64 a0_1, .slice A0_2 l0_2.length c0_2]) (t := 25) (h := ?_); intro gb213 hg w8 hbox hb; have n2_ := mk0 (gz_ HB hg); have n3_ := mk0 (gz_ HB hg); replace HB := mk0 (bt_ (b_ HB) hb); have BK213 := mk0 (hbox); have GW213 := n2_; have GE213 := n3_; clear n2_ n3_ hb hbox hg; obtain ⟨hcz9_0, hcz9_1, hcz9_2, hfz9_0, hfz9_1, hfz9_2⟩ := c3_ BK213) | ((with_reducible refine gate_callee (f := 49) rfl ?_); refine gL_ (some 13) Tryd.func49 #[.agg #[.slice A0_0 l0_0.length c0_0, .int .i64 a0_1, .slice A0_2 l0_2.length c0_2], .string a1] (h := ?_); (with_reducible refine (tree_asked.calls k _ _ l0_0 a0_1 _ _ l0_2 a1 t214 t217 true t219 _ ?side1 ?side2 ?side3 ?side4 A3.out).mono ?_); (case side1 => exact cb_ HR0_0 HB); (case side2 => exact HC0_0.out); (case side3 => exact cb_ HR0_2 HB); (case side4 => exact HC0_2.out); rintro e w10 ⟨v215, rfl, ho0, hb⟩; refine ⟨_, rfl, ?_⟩; have n0_ := mk0 (Kd.R_lower ho0 (bz_ (b_ HB))); replace BK213 := mk0 (u_ BK213 hb); replace HB := mk0 (bt_ (b_ HB) hb); have HO216 := n0_; clear n0_; (try clear hb); (try clear ho0); obtain ⟨Ao11, co11, eo11⟩ := Kd.R_slice HO216.out; subst eo11; have p220 : 0 ≤ (t217 : Int) := of_decide_eq_true (by first | (with_reducible assumption) | assumption); have q220 : t217 < (t214.length : Int) := of_decide_eq_true (by first | (with_reducible assumption) | assumption); obtain ⟨ad220, e220, hx220_0, hx220_1⟩ := at_T91 (Kd.R_reads' HO216.out).2.2 t217 p220 q220; cases e220; replace p220 := eq_true p220; replace q220 := eq_true q220) | ((with_reducible refine gate_callee (f := 49) rfl ?_); refine gL_ (some 13) Tryd.func49 #[.agg #[.slice A0_0 l0_0.length c0_0, .int .i64 a0_1, .slice A0_2 l0_2.length c0_2], .string a1] (h := ?_); (with_reducible refine (tree_asked.calls k _ _ l0_0 a0_1 _ _ l0_2 a1 t214 t217 false t219 _ ?side1 ?side2 ?side3 ?side4 A3.out).mono ?_); (case side1 => exact cb_ HR0_0 HB); (case side2 => exact HC0_0.out); (case side3 => exact cb_ HR0_2 HB); (case side4 => exact HC0_2.out); rintro e w14 ⟨v215, rfl, ho0, hb⟩; refine ⟨_, rfl, ?_⟩; have n0_ := mk0 (Kd.R_lower ho0 (bz_ (b_ HB))); replace BK213 := mk0 (u_ BK213 hb); replace HB := mk0 (bt_ (b_ HB) hb); have HO216 := n0_; clear n0_; (try clear hb); (try clear ho0)) | ((with_reducible refine gate_callee (f := 49) rfl ?_); refine gL_ (some 13) Tryd.func49 #[.agg #[.slice A0_0 l0_0.length c0_0, .int .i64 a0_1, .slice A0_2 l0_2.length c0_2], .string a1] (h := ?_); (with_reducible refine (tree_asked.calls k _ _ l0_0 a0_1 _ _ l0_2 a1 t214 t217 t218 t219 _ ?side1 ?side2 ?side3 ?side4 A3.out).mono ?_); (case side1 => exact cb_ HR0_0 HB); (case side2 => exact HC0_0.out); (case side3 => exact cb_ HR0_2 HB); (case side4 => exact HC0_2.out); rintro e w17 ⟨v215, rfl, ho0, hb⟩; refine ⟨_, rfl, ?_⟩; have n0_ := mk0 (Kd.R_lower ho0 (bz_ (b_ HB))); replace BK213 := mk0 (u_ BK213 hb); replace HB := mk0 (bt_ (b_ HB) hb); have HO216 := n0_; clear n0_; (try clear hb); (try clear ho0)))
 ·go_ret2
  exact ⟨by first | rfl | (simp [errW_none, errW_some] <;> rfl) | (simp [*, errW_none, errW_some] <;> rfl), b_ HB⟩
 ·go_ret2
  exact ⟨by first | rfl | (simp [errW_none, errW_some] <;> rfl) | (simp [*, errW_none, errW_some] <;> rfl), b_ HB⟩
 ·go_ret2
  exact ⟨by first | rfl | (simp [errW_none, errW_some] <;> rfl) | (simp [*, errW_none, errW_some] <;> rfl), b_ HB⟩

/-! ### quorumlaw6_wakes: function 29 -/
noncomputable def quorumlaw6_wakes.f (k : Nat)  : Option (Bool) := (tree_New.f).bind fun bt221 => ((tree_Add.f k bt221.1 bt221.2.1 bt221.2.2 (⟨#[97]⟩ : ByteArray) 7).bind fun bt228 => ((tree_Find.f k bt228.1 bt228.2.1 bt228.2.2.1 (⟨#[97]⟩ : ByteArray)).bind fun bt237 => ((quorumlaw6_num.f bt228.2.2.2).bind fun t239 => (if t239 = 0 then ((quorumlaw6_num.f bt237.2).bind fun t240 => (if t240 = 0 then (some (bt237.1 == 7)) else (some false))) else (some false)))))
theorem quorumlaw6_wakes.mono : ∀ k, LeO (quorumlaw6_wakes.f k ) (quorumlaw6_wakes.f (k + 1) ) := by
 intro  k
 unfold quorumlaw6_wakes.f
 repeat' first
   | (with_reducible exact tree_Add.mono _ _ _ _ _ _)
   | (with_reducible exact tree_Find.mono _ _ _ _ _)
   | (with_reducible exact LeO.refl _)
   | (with_reducible exact LeO.none _)
   | (with_reducible refine LeO.ite ?_ ?_)
   | (with_reducible refine LeO.bind ?_ (fun _ => ?_))
   | exact tree_Add.mono _ _ _ _ _ _
   | exact tree_Find.mono _ _ _ _ _
   | exact LeO.none _
   | refine LeO.ite ?_ ?_
   | refine LeO.bind ?_ (fun _ => ?_)
set_option maxHeartbeats 8000000 in
set_option maxRecDepth 100000 in
theorem quorumlaw6_wakes.calls (k : Nat)  (r : Bool) (w : World) (h : quorumlaw6_wakes.f k  = some r) :
  Calls Tryd.prog 29 #[] w fun e w' => e = .returned (.bool r) ∧ Below w.heap.size w w' := by
 have hu25 := Tryd.underlying25
 have HB := mk0 (Below.refl w.heap.size w)
 have H : ((tree_New.f).bind fun bt221 => ((tree_Add.f k bt221.1 bt221.2.1 bt221.2.2 (⟨#[97]⟩ : ByteArray) 7).bind fun bt228 => ((tree_Find.f k bt228.1 bt228.2.1 bt228.2.2.1 (⟨#[97]⟩ : ByteArray)).bind fun bt237 => ((quorumlaw6_num.f bt228.2.2.2).bind fun t239 => (if t239 = 0 then ((quorumlaw6_num.f bt237.2).bind fun t240 => (if t240 = 0 then (some (bt237.1 == 7)) else (some false))) else (some false)))))) = some r := h
 clear h
 replace H := Option.bind_eq_some_iff.mp H
 obtain ⟨⟨t221, t224, t225⟩, A10, H⟩ := H
 try dsimp only at H
 have A1 := mk0 A10
 clear A10
 replace H := Option.bind_eq_some_iff.mp H
 obtain ⟨⟨t228, t231, t232, t235⟩, A20, H⟩ := H
 try dsimp only at H
 have A2 := mk0 A20
 clear A20
 replace H := Option.bind_eq_some_iff.mp H
 obtain ⟨⟨t237, t238⟩, A30, H⟩ := H
 try dsimp only at H
 have A3 := mk0 A30
 clear A30
 replace H := Option.bind_eq_some_iff.mp H
 obtain ⟨t239, A40, H⟩ := H
 try dsimp only at H
 have A4 := mk0 A40
 clear A40
 by_cases c5 : t239 = 0
 focus
  rw [if_pos c5] at H
  have c5b0 : (t239 == 0) = true := beq_iff_eq.mpr c5
  have c5b1 : (t239 != 0) = false := bne_eq_false_iff_eq.mpr c5
  clear c5
  replace H := Option.bind_eq_some_iff.mp H
  obtain ⟨t240, A60, H⟩ := H
  try dsimp only at H
  have A6 := mk0 A60
  clear A60
  by_cases c7 : t240 = 0
  focus
   rw [if_pos c7] at H
   have c7b0 : (t240 == 0) = true := beq_iff_eq.mpr c7
   have c7b1 : (t240 != 0) = false := bne_eq_false_iff_eq.mpr c7
   clear c7
   obtain rfl := Option.some.inj H
   go_enter Tryd.func29, Tryd.ntmps29
  rotate_left 1
  focus
   rw [if_neg c7] at H
   have c7b0 : (t240 == 0) = false := beq_eq_false_iff_ne.mpr c7
   have c7b1 : (t240 != 0) = true := bne_iff_ne.mpr c7
   obtain rfl := Option.some.inj H
   go_enter Tryd.func29, Tryd.ntmps29
  rotate_right 1
 rotate_left 2
 focus
  rw [if_neg c5] at H
  have c5b0 : (t239 == 0) = false := beq_eq_false_iff_ne.mpr c5
  have c5b1 : (t239 != 0) = true := bne_iff_ne.mpr c5
  obtain rfl := Option.some.inj H
  go_enter Tryd.func29, Tryd.ntmps29
 rotate_right 2
 all_goals go_wp2_with (first | ((with_reducible refine gate_callee (f := 20) rfl ?_); refine gL_ (some 6) Tryd.func20 #[] (h := ?_); (with_reducible refine (tree_New.calls  t221 t224 t225 _ A1.out).mono ?_); rintro e w17 ⟨v222, v226, rfl, ho0, ho1, hb⟩; refine ⟨_, rfl, ?_⟩; have n0_ := mk0 (Kd.S_lower ho0 (bz_ (b_ HB))); have n1_ := mk0 (Kd.R_lower ho1 (bz_ (b_ HB))); replace HB := mk0 (bt_ (b_ HB) hb); have HO223 := n0_; have HO227 := n1_; clear n0_ n1_; (try clear hb); (try clear ho0); (try clear ho1); obtain ⟨Ao18, co18, eo18⟩ := Kd.S_slice HO223.out; subst eo18; obtain ⟨Ao19, co19, eo19⟩ := Kd.R_slice HO227.out; subst eo19) | ((with_reducible refine gate_callee (f := 21) rfl ?_); refine gL_ (some 7) Tryd.func21 #[.agg #[.slice Ao18 t221.length co18, .int .i64 t224, .slice Ao19 t225.length co19], .string (⟨#[97]⟩ : ByteArray), .int .i64 7] (h := ?_); (with_reducible refine (tree_Add.calls k _ _ t221 t224 _ _ t225 (⟨#[97]⟩ : ByteArray) 7 t228 t231 t232 t235 _ ?side1 ?side2 ?side3 ?side4 A2.out).mono ?_); (case side1 => repeat (first | exact (Kd.S_reads' HO223.out).2.2 | (with_reducible refine Kd.C_alloc ?_ _) | (with_reducible refine Kd.C_drewN ?_ _) | (with_reducible refine Kd.C_drew ?_))); (case side2 => exact (Kd.S_reads' HO223.out).2.1); (case side3 => exact cr_ HO227); (case side4 => exact (Kd.R_reads' HO227.out).2.1); rintro e w20 ⟨v229, v233, rfl, ho0, ho1, hb⟩; refine ⟨_, rfl, ?_⟩; have n2_ := mk0 (Kd.S_lower (Kd.S_new' (Kd.S_new' ho0 (Kd.S_lt (s_ HO223))) (Kd.R_lt (r_ HO227))) (bz_ (b_ HB))); have n3_ := mk0 (Kd.R_lower (Kd.R_new' ho1 (Kd.R_lt (r_ HO227))) (bz_ (b_ HB))); replace HO223 := mk0 (Kd.S_mono (Kd.S_told (Kd.S_told (Kd.S_old (s_ HO223) hb) (Kd.S_base ho0)) (Kd.R_base ho1)) (fun _ h_ => h_.1)); replace HO227 := mk0 (Kd.R_elder' (r_ HO227) (Kd.R_base ho1) hb); replace HB := mk0 (bt_ (b_ HB) hb); have HO230 := n2_; have HO234 := n3_; clear n2_ n3_; (try clear hb); (try clear ho0); (try clear ho1)) | ((with_reducible refine gate_dst (N := 1) rfl ?_); refine bx_ (N := 1) (cs := #[.slice none 0 0, .int .i64 0, .slice none 0 0]) (t := 25) (h := ?_); intro gb236 hg w21 hbox hb; have n6_ := mk0 (gz_ HB hg); have n7_ := mk0 (gz_ HB hg); replace HO223 := mk0 (Kd.S_below (s_ HO223) hb); replace HO227 := mk0 (Kd.R_below (r_ HO227) hb); replace HO230 := mk0 (Kd.S_below (s_ HO230) hb); replace HO234 := mk0 (Kd.R_below (r_ HO234) hb); replace HB := mk0 (bt_ (b_ HB) hb); have BK236 := mk0 (hbox); have GW236 := n6_; have GE236 := n7_; clear n6_ n7_ hb hbox hg; obtain ⟨Ao22, co22, eo22⟩ := Kd.S_slice HO230.out; subst eo22; obtain ⟨hcz23_0, hcz23_1, hcz23_2, hfz23_0, hfz23_1, hfz23_2⟩ := c3_ BK236; obtain ⟨Ao24, co24, eo24⟩ := Kd.R_slice HO234.out; subst eo24) | ((with_reducible refine gate_callee (f := 26) rfl ?_); refine gL_ (some 12) Tryd.func26 #[.agg #[.slice Ao22 t228.length co22, .int .i64 t231, .slice Ao24 t232.length co24], .string (⟨#[97]⟩ : ByteArray)] (h := ?_); (with_reducible refine (tree_Find.calls k _ _ t228 t231 _ _ t232 (⟨#[97]⟩ : ByteArray) t237 t238 _ ?side1 ?side2 ?side3 ?side4 A3.out).mono ?_); (case side1 => refine (Kd.S_reads' (e := 85) (base := w.heap.size) (ok := fun k_ => ((some k_ ≠ (.slice Ao24 t232.length co24 : Value).ownBlock ∧ some k_ ≠ (.slice Ao18 t221.length co18 : Value).ownBlock) ∧ some k_ ≠ (.slice Ao19 t225.length co19 : Value).ownBlock)) (n := t228.length) (c := co22) ?_).2.2; exact (s2_ (Kd.S_mono (Kd.S_far (p := ⟨gb236, 2, none⟩) (Kd.S_far (p := ⟨gb236, 1, none⟩) (Kd.S_far (p := ⟨gb236, 0, none⟩) (Kd.S_types HO230.out BK236.out (by decide)) (fun _ hk => hk.2) (.slice Ao22 t228.length co22)) (fun _ hk => hk.2) (.int .i64 t231)) (fun _ hk => hk.2) (.slice Ao24 t232.length co24)) (fun _ h_ => h_.1)))); (case side2 => exact (Kd.S_reads' HO230.out).2.1); (case side3 => refine (Kd.R_reads' (e := 3) (base := w.heap.size) (ok := fun k_ => (True ∧ some k_ ≠ (.slice Ao19 t225.length co19 : Value).ownBlock)) (n := t232.length) (c := co24) ?_).2.2; exact (r2_ (Kd.R_mono (Kd.R_far (p := ⟨gb236, 2, none⟩) (Kd.R_far (p := ⟨gb236, 1, none⟩) (Kd.R_far (p := ⟨gb236, 0, none⟩) (Kd.R_types HO234.out BK236.out (by decide)) (fun _ hk => hk.2) (.slice Ao22 t228.length co22)) (fun _ hk => hk.2) (.int .i64 t231)) (fun _ hk => hk.2) (.slice Ao24 t232.length co24)) (fun _ h_ => h_.1)))); (case side4 => exact (Kd.R_reads' HO234.out).2.1); rintro e w25 ⟨rfl, hb⟩; refine ⟨_, rfl, ?_⟩; have n0_ := mk0 (Kd.S_below (s2_ (Kd.S_mono (Kd.S_far (p := ⟨gb236, 2, none⟩) (Kd.S_far (p := ⟨gb236, 1, none⟩) (Kd.S_far (p := ⟨gb236, 0, none⟩) (Kd.S_types HO223.out BK236.out (by decide)) (fun _ hk => hk.2) (.slice Ao22 t228.length co22)) (fun _ hk => hk.2) (.int .i64 t231)) (fun _ hk => hk.2) (.slice Ao24 t232.length co24)) (fun _ h_ => h_.1))) hb); have n1_ := mk0 (Kd.R_below (r2_ (Kd.R_mono (Kd.R_far (p := ⟨gb236, 2, none⟩) (Kd.R_far (p := ⟨gb236, 1, none⟩) (Kd.R_far (p := ⟨gb236, 0, none⟩) (Kd.R_types HO227.out BK236.out (by decide)) (fun _ hk => hk.2) (.slice Ao22 t228.length co22)) (fun _ hk => hk.2) (.int .i64 t231)) (fun _ hk => hk.2) (.slice Ao24 t232.length co24)) (fun _ h_ => h_.1))) hb); have n2_ := mk0 (Kd.S_below (s2_ (Kd.S_mono (Kd.S_far (p := ⟨gb236, 2, none⟩) (Kd.S_far (p := ⟨gb236, 1, none⟩) (Kd.S_far (p := ⟨gb236, 0, none⟩) (Kd.S_types HO230.out BK236.out (by decide)) (fun _ hk => hk.2) (.slice Ao22 t228.length co22)) (fun _ hk => hk.2) (.int .i64 t231)) (fun _ hk => hk.2) (.slice Ao24 t232.length co24)) (fun _ h_ => h_.1))) hb); have n3_ := mk0 (Kd.R_below (r2_ (Kd.R_mono (Kd.R_far (p := ⟨gb236, 2, none⟩) (Kd.R_far (p := ⟨gb236, 1, none⟩) (Kd.R_far (p := ⟨gb236, 0, none⟩) (Kd.R_types HO234.out BK236.out (by decide)) (fun _ hk => hk.2) (.slice Ao22 t228.length co22)) (fun _ hk => hk.2) (.int .i64 t231)) (fun _ hk => hk.2) (.slice Ao24 t232.length co24)) (fun _ h_ => h_.1))) hb); replace BK236 := mk0 (blk_below (g := gb236) (o := .cells #[.slice Ao22 t228.length co22, .int .i64 t231, .slice Ao24 t232.length co24] 25 (0, 0)) (pu_ (cs := #[.slice Ao22 t228.length co22, .int .i64 t231, .slice none 0 0]) (pu_ (cs := #[.slice Ao22 t228.length co22, .int .i64 0, .slice none 0 0]) (pu_ (cs := #[.slice none 0 0, .int .i64 0, .slice none 0 0]) (h_ BK236)))) hb); replace HB := mk0 (bt_ (b_ HB) hb); clear HO223 HO227 HO230 HO234; have HO223 := n0_; have HO227 := n1_; have HO230 := n2_; have HO234 := n3_; clear n0_ n1_ n2_ n3_; (try clear hb)) | ((with_reducible refine gate_callee (f := 23) rfl ?_); refine gL_ (some 16) Tryd.func23 #[.int .i64 t235] (h := ?_); (with_reducible refine (quorumlaw6_num.calls t235 t239 _ A4.out).mono ?_); rintro e w' ⟨rfl, ⟨nd, rfl⟩⟩; refine ⟨_, rfl, ?_⟩) | (go_at_call 23; (with_reducible refine (quorumlaw6_num.calls t238 t240 _ A6.out).mono ?_); rintro e w' ⟨rfl, ⟨nd, rfl⟩⟩) | ((with_reducible refine gate_callee (f := 23) rfl ?_); refine gL_ (some 16) Tryd.func23 #[.int .i64 t235] (h := ?_); (with_reducible refine (quorumlaw6_num.calls t235 t239 _ A4.out).mono ?_); rintro e w' ⟨rfl, ⟨nd, rfl⟩⟩; refine ⟨_, rfl, ?_⟩))
 ·go_ret
  exact ⟨by first | rfl | (simp [errW_none, errW_some] <;> rfl) | (simp [*, errW_none, errW_some] <;> rfl), b_ HB⟩
 ·go_ret
  exact ⟨by first | rfl | (simp [errW_none, errW_some] <;> rfl) | (simp [*, errW_none, errW_some] <;> rfl), b_ HB⟩
 ·go_ret
  exact ⟨by first | rfl | (simp [errW_none, errW_some] <;> rfl) | (simp [*, errW_none, errW_some] <;> rfl), b_ HB⟩

/-! ### quorumlaw6_way_at: function 47 -/
noncomputable def quorumlaw6_way_at.f (a0 : Int) (a1 : Int) (a2 : Int) : Option (Int) := if a0 = 0 then (some a1) else (if a0 = 1 then (some (wrap64 ((wrap64 (a2 - 1)) - a1))) else (if (Int.tmod a1 2) = 0 then (some (wrap64 (Int.tdiv a1 2))) else (some (wrap64 ((wrap64 (a2 - 1)) - (wrap64 (Int.tdiv a1 2)))))))
set_option maxHeartbeats 8000000 in
set_option maxRecDepth 100000 in
theorem quorumlaw6_way_at.calls (a0 : Int) (a1 : Int) (a2 : Int) (r : Int) (w : World) (h : quorumlaw6_way_at.f a0 a1 a2 = some r) :
  Calls Tryd.prog 47 #[.int .i64 a0, .int .i64 a1, .int .i64 a2] w fun e w' => e = .returned (.int .i64 r) ∧ Drawn0 w w' := by
 have H : (if a0 = 0 then (some a1) else (if a0 = 1 then (some (wrap64 ((wrap64 (a2 - 1)) - a1))) else (if (Int.tmod a1 2) = 0 then (some (wrap64 (Int.tdiv a1 2))) else (some (wrap64 ((wrap64 (a2 - 1)) - (wrap64 (Int.tdiv a1 2)))))))) = some r := h
 clear h
 by_cases c4 : a0 = 0
 ·rw [if_pos c4] at H
  have c4b0 : (a0 == 0) = true := beq_iff_eq.mpr c4
  have c4b1 : (a0 != 0) = false := bne_eq_false_iff_eq.mpr c4
  clear c4
  obtain rfl := Option.some.inj H
  go_enter Tryd.func47, Tryd.ntmps47
  go_wp2
  go_ret
  exact ⟨by first | rfl | (simp; done) | (simp [*]; done), by repeat (first | exact Drawn0.refl _ | apply Drawn0.step)⟩
 ·rw [if_neg c4] at H
  have c4b0 : (a0 == 0) = false := beq_eq_false_iff_ne.mpr c4
  have c4b1 : (a0 != 0) = true := bne_iff_ne.mpr c4
  by_cases c5 : a0 = 1
  ·rw [if_pos c5] at H
   have c5b0 : (a0 == 1) = true := beq_iff_eq.mpr c5
   have c5b1 : (a0 != 1) = false := bne_eq_false_iff_eq.mpr c5
   clear c5
   obtain rfl := Option.some.inj H
   go_enter Tryd.func47, Tryd.ntmps47
   go_wp2
   go_ret
   exact ⟨by first | rfl | (simp; done) | (simp [*]; done), by repeat (first | exact Drawn0.refl _ | apply Drawn0.step)⟩
  ·rw [if_neg c5] at H
   have c5b0 : (a0 == 1) = false := beq_eq_false_iff_ne.mpr c5
   have c5b1 : (a0 != 1) = true := bne_iff_ne.mpr c5
   by_cases c6 : (Int.tmod a1 2) = 0
   ·rw [if_pos c6] at H
    have c6b0 : ((Int.tmod a1 2) == 0) = true := beq_iff_eq.mpr c6
    have c6b1 : ((Int.tmod a1 2) != 0) = false := bne_eq_false_iff_eq.mpr c6
    clear c6
    obtain rfl := Option.some.inj H
    go_enter Tryd.func47, Tryd.ntmps47
    go_wp2
    go_ret
    exact ⟨by first | rfl | (simp; done) | (simp [*]; done), by repeat (first | exact Drawn0.refl _ | apply Drawn0.step)⟩
   ·rw [if_neg c6] at H
    have c6b0 : ((Int.tmod a1 2) == 0) = false := beq_eq_false_iff_ne.mpr c6
    have c6b1 : ((Int.tmod a1 2) != 0) = true := bne_iff_ne.mpr c6
    obtain rfl := Option.some.inj H
    go_enter Tryd.func47, Tryd.ntmps47
    go_wp2
    go_ret
    exact ⟨by first | rfl | (simp; done) | (simp [*]; done), by repeat (first | exact Drawn0.refl _ | apply Drawn0.step)⟩

end Go.Proofs.YtkmkppchhdkipaaDoor.PTr
