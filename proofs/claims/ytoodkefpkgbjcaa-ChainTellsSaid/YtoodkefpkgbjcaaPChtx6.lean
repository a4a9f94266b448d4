-- PRINTED by print.py (a twelfth state) out of the translation. Not trusted: Lean checks it.
import Derived.Test.YtoodkefpkgbjcaaPChtx0
import Derived.Test.YtoodkefpkgbjcaaPChtx2
import Derived.Test.YtoodkefpkgbjcaaPChtx4
namespace Go.Proofs.Ytoodkefpkgbjcaa.PCht
open Go.RowKit Go.Proofs.YtoodkefpkgbjcaaW.PrintWords Go.Proofs.YtoodkefpkgbjcaaW.PrintLast Go.Proofs.YtoodkefpkgbjcaaW.PrintMore
attribute [local go_sem] max2_int min2_int max_two min_two max_three min_three max_four min_four   -- for this text's walks alone
set_option linter.unusedVariables false
set_option linter.unusedSimpArgs false

/-! ### api_Version_122: function 122 (by hand) -/
open HCopy in
set_option maxHeartbeats 2000000 in
set_option maxRecDepth 100000 in
/-- There is room, and the place is not the end. -/
theorem api_Version_122.room (g cap n i : Nat) (cur : Array Value) (inner xs : List Value) (g2 c2 : Nat) (cur2 : Array Value) (w : World)
    (hg : w.heap[g]? = some (.cells cur 39 (0, 0))) (hg2 : w.heap[g2]? = some (.cells cur2 39 (0, 0))) (hne : g2 ≠ g) (hi : i < n) (hroom : n + 1 ≤ cap) (hcm : cap ≤ maxLen)
    (hsz : cur.size = cap * 3) (hin : cur.toList.take (n * 3) = inner) (hsz2 : 3 ≤ cur2.size) (hin2 : cur2.toList.take 3 = xs) (h1 : ∀ v ∈ inner, v.oneCell' = true) (h2 : ∀ v ∈ xs, v.oneCell' = true) :
    Calls Try.prog 122 #[.slice (some ⟨g, 0, none⟩) n cap, .int .i64 i, .slice (some ⟨g2, 0, none⟩) 1 c2] w fun e w' =>
      ∃ cur' : Array Value, e = .returned (.slice (some ⟨g, 0, none⟩) (n + 1) cap) ∧ w' = w.drew.setRow g cur' ∧ cur'.size = cap * 3 ∧ cur'.toList.take ((n + 1) * 3) = inner.take (i * 3) ++ xs ++ inner.drop (i * 3) := by
  have hlen : inner.length = n * 3 := by rw [← hin, List.length_take, Array.length_toList, hsz]; omega
  have hxl : xs.length = 3 := by rw [← hin2, List.length_take, Array.length_toList]; omega
  have hmx : cap ≤ 9223372036854775807 := by unfold maxLen at hcm; omega
  have hu := Try.underlying23
  have hs : (Try.prog.info? 39).map (·.size) = some 3 := by
    have h := info39
    cases hq : Try.prog.info? 39 with
    | none => rw [hq] at h; simp at h
    | some i => rw [hq] at h; simp at h; simp [h.2.1]
  have hdl : (inner.drop (i * 3)).length = (n - i) * 3 := by rw [List.length_drop, hlen, Nat.sub_mul]
  -- the first copy
  obtain ⟨cur1, hcur1⟩ : ∃ c : Array Value, c = (cur.toList.take ((i + 1) * 3) ++ inner.drop (i * 3) ++ cur.toList.drop ((i + 1) * 3 + (inner.drop (i * 3)).length)).toArray := ⟨_, rfl⟩
  have hcp1 : ∀ ty dc sc, (Builtin.copy_ #[23, 23] ty #[.slice (some ⟨g, (i + 1) * 3, none⟩) (n - i) dc, .slice (some ⟨g, i * 3, none⟩) (n + 1 - i) sc]).run Try.prog w.drew = .ok (goInt (n - i : Nat)) (w.drew.setRow g cur1) := fun ty dc sc => by
    rw [hcur1]
    refine run_copy_k w.drew 23 23 ty 39 g ((i + 1) * 3) (n - i) dc ⟨g, i * 3, none⟩ (n + 1 - i) sc cur 39 (inner.drop (i * 3)) 3 (n - i) hu hs hg (by show _ = min _ _; omega) hdl (fun j v hj => ?_) (by rw [hdl, hsz]; omega) (fun v hv => h1 v (List.mem_of_mem_drop hv))
    rw [List.getElem?_drop, ← hin] at hj
    have hjl : i * 3 + j < n * 3 := by
      rcases Nat.lt_or_ge (i * 3 + j) (n * 3) with h | h
      · exact h
      · rw [List.getElem?_eq_none (by rw [List.length_take]; omega)] at hj; cases hj
    rw [List.getElem?_take_of_lt hjl] at hj
    rw [Addr.add_lit]
    exact (cell_of_row w g _ cur 39 (0, 0) hg).trans (by rw [← hj]; simp)
  have hsz1 : cur1.size = cap * 3 := by
    rw [hcur1]
    simp only [List.size_toArray, List.length_append, List.length_take, List.length_drop, Array.length_toList, hlen, hsz]
    omega
  have hW1 : (w.drew.setRow g cur1).heap[g]? = some (.cells cur1 39 (0, 0)) := setRow_heap w.drew g cur _ 39 _ hg
  have hW2 : (w.drew.setRow g cur1).heap[g2]? = some (.cells cur2 39 (0, 0)) := (setRow_other w.drew g g2 cur1 hne).trans hg2
  obtain ⟨W1, hW⟩ : ∃ W1, W1 = w.drew.setRow g cur1 := ⟨_, rfl⟩
  obtain ⟨cur', hcur'⟩ : ∃ c : Array Value, c = (cur1.toList.take (i * 3) ++ xs ++ cur1.toList.drop (i * 3 + xs.length)).toArray := ⟨_, rfl⟩
  have hcp2 : ∀ ty dc sc, (Builtin.copy_ #[23, 23] ty #[.slice (some ⟨g, i * 3, none⟩) (n + 1 - i) dc, .slice (some ⟨g2, 0, none⟩) 1 sc]).run Try.prog W1 = .ok (goInt (1 : Nat)) (W1.setRow g cur') := fun ty dc sc => by
    rw [hcur', hW]
    refine run_copy_k _ 23 23 ty 39 g (i * 3) (n + 1 - i) dc ⟨g2, 0, none⟩ 1 sc cur1 39 xs 3 1 hu hs hW1 (by show _ = min _ _; omega) (by rw [hxl]) (fun j v hj => ?_) (by rw [hxl, hsz1]; omega) h2
    rw [← hin2] at hj
    have hjl : j < 3 := by
      rcases Nat.lt_or_ge j 3 with h | h
      · exact h
      · rw [List.getElem?_eq_none (by rw [List.length_take]; omega)] at hj; cases hj
    rw [List.getElem?_take_of_lt hjl] at hj
    rw [Addr.add_lit]
    exact (cell_of_row _ g2 _ cur2 39 (0, 0) hW2).trans (by rw [← hj]; simp)
  have hov : ∀ lb cb, (callFunc 159 #[.slice (some ⟨g2, 0, none⟩) 1 c2, .slice (some ⟨g, (i + 1) * 3, none⟩) lb cb]).run Try.prog w = .ok (.value (.bool false)) w := fun lb cb => by
    rw [run_callFunc_extern Try.func159 (by kernel_rfl) (by kernel_rfl) (by kernel_rfl) (e := Extern.SlicesOverlaps.overlaps #[23, 23] #[4]) (by kernel_rfl),
      Lib.run_overlaps_apart w 23 4 39 hu 3 (fun w => by kernel_rfl) ⟨g2, 0, none⟩ ⟨g, (i + 1) * 3, none⟩ 1 c2 lb cb hne 39 39 cur2.size cur.size (by simp [World.shape?, hg2]) (by simp [World.shape?, hg]) (by omega) (by simp [World.frozen?, hg2]) (by simp [World.frozen?, hg2])]
    rfl
  have hfin : cur'.size = cap * 3 ∧ cur'.toList.take ((n + 1) * 3) = inner.take (i * 3) ++ xs ++ inner.drop (i * 3) := by
    constructor
    · rw [hcur']
      simp only [List.size_toArray, List.length_append, List.length_take, List.length_drop, Array.length_toList, hxl, hsz1]
      omega
    · have e1 : cur1.toList.take (i * 3) = inner.take (i * 3) := by
        rw [hcur1, ← hin]
        simp only [List.append_assoc]
        rw [List.take_append_of_le_length (by rw [List.length_take, Array.length_toList, hsz]; omega), List.take_take, List.take_take]
        congr 1
        omega
      have e2 : (cur1.toList.drop (i * 3 + 3)).take ((n - i) * 3) = inner.drop (i * 3) := by
        have h3 : (cur.toList.take ((i + 1) * 3)).length = i * 3 + 3 := by rw [List.length_take, Array.length_toList, hsz]; omega
        rw [hcur1]
        simp only [List.append_assoc]
        rw [← h3, List.drop_left, ← hdl, List.take_left]
      rw [hcur']
      simp only [List.append_assoc]
      have h4 : (cur1.toList.take (i * 3)).length = i * 3 := by rw [List.length_take, Array.length_toList, hsz1]; omega
      have e3 : (n + 1) * 3 = (cur1.toList.take (i * 3)).length + (xs.length + (n - i) * 3) := by rw [h4, hxl]; omega
      rw [e3, List.take_length_add_append, List.take_length_add_append, hxl, e2, e1]
  have HF := Aside0.mk hfin
  have HE := Aside0.mk (show W1.setRow g cur' = w.drew.setRow g cur' by rw [hW, setRow_setRow])
  rw [← hW] at hcp1
  clear hfin hcur' hW hW1 hW2 hsz1 hcur1 hdl hlen hxl hsz hin hsz2 hin2 h1 h2 hg hg2 hcm
  have hin' : (i : Int) ≤ (n : Int) + 1 := by omega
  have hb1 : ¬ ((i : Int) = (n : Int)) := by omega
  have hb2 : ¬ ((n : Int) + 1 > (cap : Int)) := by omega
  have hb7 : (0 : Int) ≤ (i : Int) + 1 := by omega
  have hb8 : i ≤ n := by omega
  have hb9 : i ≤ n + 1 := by omega
  have hb4 : ¬ (cap = i) := by omega
  have hb5 : ¬ (cap = i + 1) := by omega
  have hw1 : IntKind.i64.wrap ((i : Int) + 1) = (i : Int) + 1 := by rw [IntKind.wrap_i64]; omega
  have htn : ((i : Int) + 1).toNat = i + 1 := by omega
  go_enter Try.func122, Try.ntmps122
  go_wp2_with (simp only [hov])
  go_region_law (refine step_copy_run rfl _ _ 23 23 rfl _ _ (by simp [Act.eval, Act.put]) (by simp [Act.eval, Act.put]) (hcp1 _ _ _) ?_)
  go_wp2_with (at_builtin; refine wpList_copy_run _ rfl _ _ 23 23 rfl _ _ rfl rfl (hcp2 _ _ _) ?_)
  go_ret
  exact ⟨cur', rfl, HE.out, HF.out.1, HF.out.2⟩
open HCopy in
set_option maxHeartbeats 2000000 in
set_option maxRecDepth 100000 in
/-- There is no room, and the place is not the end: a new row. -/
theorem api_Version_122.grow (g cap n i : Nat) (cur : Array Value) (inner xs : List Value) (g2 c2 : Nat) (cur2 : Array Value) (w : World)
    (hg : w.heap[g]? = some (.cells cur 39 (0, 0))) (hg2 : w.heap[g2]? = some (.cells cur2 39 (0, 0))) (hi : i < n) (hnc : n ≤ cap) (hroom : cap < n + 1) (hbig : n + 1 < 4398046511104)
    (hsz : cur.size = cap * 3) (hin : cur.toList.take (n * 3) = inner) (hsz2 : 3 ≤ cur2.size) (hin2 : cur2.toList.take 3 = xs) (h1 : ∀ v ∈ inner, v.oneCell' = true) (h2 : ∀ v ∈ xs, v.oneCell' = true) :
    Calls Try.prog 122 #[.slice (some ⟨g, 0, none⟩) n cap, .int .i64 i, .slice (some ⟨g2, 0, none⟩) 1 c2] w fun e w' =>
      ∃ (cap' : Nat) (cur' : Array Value), e = .returned (.slice (some ⟨w.heap.size, 0, none⟩) (n + 1) cap') ∧ n + 1 ≤ cap' ∧ cap' ≤ maxLen ∧ w'.heap[w.heap.size]? = some (.cells cur' 39 (0, 0)) ∧ Below w.heap.size w w' ∧ cur'.size = cap' * 3 ∧ cur'.toList.take ((n + 1) * 3) = inner.take (i * 3) ++ xs ++ inner.drop (i * 3) := by
  have hlen : inner.length = n * 3 := by rw [← hin, List.length_take, Array.length_toList, hsz]; omega
  have hxl : xs.length = 3 := by rw [← hin2, List.length_take, Array.length_toList]; omega
  have hu := Try.underlying23
  have hs : (Try.prog.info? 39).map (·.size) = some 3 := by
    have h := info39
    cases hq : Try.prog.info? 39 with
    | none => rw [hq] at h; simp at h
    | some i => rw [hq] at h; simp at h; simp [h.2.1]
  have hdl : (inner.drop (i * 3)).length = (n - i) * 3 := by rw [List.length_drop, hlen, Nat.sub_mul]
  have hgl : g < w.heap.size := blk_lt hg
  have hg2l : g2 < w.heap.size := blk_lt hg2
  obtain ⟨i0, hi0, hzz⟩ := Option.map_eq_some_iff.1 info39
  simp only [Prod.mk.injEq] at hzz
  obtain ⟨cap', hc1, hc2, happ⟩ := run_append_zeros_grow (P := Try.prog) w 23 3 23 39 i0 _ 3 32 hu Try.underlying3 hi0 hzz.1 hzz.2.1 hzz.2.2 (by rfl) (by omega) (by omega) g i cap cur hg (by rw [hsz]; omega) .i64 (n + 1 - i) (by omega) (by omega) (by omega)
  rw [show i + (n + 1 - i) = n + 1 by omega] at happ
  obtain ⟨cur0, hcur0⟩ : ∃ c : Array Value, c = ((cur.toList.take (i * 3)).toArray ++ Builtin.zeroCells ((.agg #[(.int .i64 0), (.string ⟨#[]⟩), (.bool false)]) : Value).cells (n + 1 - i) ++ Builtin.zeroCells ((.agg #[(.int .i64 0), (.string ⟨#[]⟩), (.bool false)]) : Value).cells (cap' - (i + (n + 1 - i)))) := ⟨_, rfl⟩
  have hsz0 : cur0.size = cap' * 3 := by
    rw [hcur0]
    simp only [Array.size_append, List.size_toArray, List.length_take, Array.length_toList, hsz, size_zeroCells, Value.cells, List.length_cons, List.length_nil]
    omega
  have ht0 : cur0.toList.take (i * 3) = inner.take (i * 3) := by
    rw [hcur0, ← hin]
    simp only [Array.toList_append, List.append_assoc]
    rw [List.take_append_of_le_length (by rw [List.length_take, Array.length_toList, hsz]; omega), List.take_take, List.take_take]
    congr 1
    omega
  rw [show cap' - (n + 1) = cap' - (i + (n + 1 - i)) by omega, ← hcur0] at happ
  obtain ⟨W0, hW0⟩ : ∃ W0, W0 = w.drew.alloc (.cells cur0 39) := ⟨_, rfl⟩
  have hB0 : Below w.heap.size w W0 := by rw [hW0]; exact below_alloc (below_drew (Below.refl _ _)) _
  have hh0 : W0.heap[w.heap.size]? = some (.cells cur0 39 (0, 0)) := by rw [hW0]; exact heap_alloc_new w.drew _
  have hg0 : W0.heap[g]? = some (.cells cur 39 (0, 0)) := (hB0.block g hgl).trans hg
  have hg20 : W0.heap[g2]? = some (.cells cur2 39 (0, 0)) := (hB0.block g2 hg2l).trans hg2
  -- the first copy: v
  obtain ⟨cur1, hcur1⟩ : ∃ c : Array Value, c = (cur0.toList.take (i * 3) ++ xs ++ cur0.toList.drop (i * 3 + xs.length)).toArray := ⟨_, rfl⟩
  have hcp1 : ∀ ty dc sc, (Builtin.copy_ #[23, 23] ty #[.slice (some ⟨w.heap.size, i * 3, none⟩) (n + 1 - i) dc, .slice (some ⟨g2, 0, none⟩) 1 sc]).run Try.prog W0 = .ok (goInt (1 : Nat)) (W0.setRow w.heap.size cur1) := fun ty dc sc => by
    rw [hcur1]
    refine run_copy_k _ 23 23 ty 39 w.heap.size (i * 3) (n + 1 - i) dc ⟨g2, 0, none⟩ 1 sc cur0 39 xs 3 1 hu hs hh0 (by show _ = min _ _; omega) (by rw [hxl]) (fun j v hj => ?_) (by rw [hxl, hsz0]; omega) h2
    rw [← hin2] at hj
    have hjl : j < 3 := by
      rcases Nat.lt_or_ge j 3 with h | h
      · exact h
      · rw [List.getElem?_eq_none (by rw [List.length_take]; omega)] at hj; cases hj
    rw [List.getElem?_take_of_lt hjl] at hj
    rw [Addr.add_lit]
    exact (cell_of_row _ g2 _ cur2 39 (0, 0) hg20).trans (by rw [← hj]; simp)
  have hsz1 : cur1.size = cap' * 3 := by
    rw [hcur1]
    simp only [List.size_toArray, List.length_append, List.length_take, List.length_drop, Array.length_toList, hxl, hsz0]
    omega
  obtain ⟨W1, hW1⟩ : ∃ W1, W1 = W0.setRow w.heap.size cur1 := ⟨_, rfl⟩
  have hB1 : Below w.heap.size w W1 := by rw [hW1]; exact below_setRow hB0 (Nat.le_refl _) _
  have hh1 : W1.heap[w.heap.size]? = some (.cells cur1 39 (0, 0)) := by rw [hW1]; exact setRow_heap W0 _ cur0 _ 39 _ hh0
  have hg1 : W1.heap[g]? = some (.cells cur 39 (0, 0)) := (hB1.block g hgl).trans hg
  rw [← hW1] at hcp1
  -- the second one: what stood from i on
  obtain ⟨cur', hcur'⟩ : ∃ c : Array Value, c = (cur1.toList.take ((i + 1) * 3) ++ inner.drop (i * 3) ++ cur1.toList.drop ((i + 1) * 3 + (inner.drop (i * 3)).length)).toArray := ⟨_, rfl⟩
  have hcp2 : ∀ ty dc sc, (Builtin.copy_ #[23, 23] ty #[.slice (some ⟨w.heap.size, (i + 1) * 3, none⟩) (n - i) dc, .slice (some ⟨g, i * 3, none⟩) (n - i) sc]).run Try.prog W1.drew = .ok (goInt (n - i : Nat)) (W1.drew.setRow w.heap.size cur') := fun ty dc sc => by
    rw [hcur']
    refine run_copy_k W1.drew 23 23 ty 39 w.heap.size ((i + 1) * 3) (n - i) dc ⟨g, i * 3, none⟩ (n - i) sc cur1 39 (inner.drop (i * 3)) 3 (n - i) hu hs hh1 (by show _ = min _ _; omega) hdl (fun j v hj => ?_) (by rw [hdl, hsz1]; omega) (fun v hv => h1 v (List.mem_of_mem_drop hv))
    rw [List.getElem?_drop, ← hin] at hj
    have hjl : i * 3 + j < n * 3 := by
      rcases Nat.lt_or_ge (i * 3 + j) (n * 3) with h | h
      · exact h
      · rw [List.getElem?_eq_none (by rw [List.length_take]; omega)] at hj; cases hj
    rw [List.getElem?_take_of_lt hjl] at hj
    rw [Addr.add_lit]
    exact (cell_of_row W1.drew g _ cur 39 (0, 0) hg1).trans (by rw [← hj]; simp)
  have hsz' : cur'.size = cap' * 3 := by
    rw [hcur']
    simp only [List.size_toArray, List.length_append, List.length_take, List.length_drop, Array.length_toList, hlen, hsz1]
    omega
  have hfin : cur'.toList.take ((n + 1) * 3) = inner.take (i * 3) ++ xs ++ inner.drop (i * 3) := by
    have h4 : (cur1.toList.take ((i + 1) * 3)) = inner.take (i * 3) ++ xs := by
      have h5 : (cur0.toList.take (i * 3)).length = i * 3 := by rw [List.length_take, Array.length_toList, hsz0]; omega
      rw [hcur1]
      simp only [List.append_assoc]
      rw [show (i + 1) * 3 = (cur0.toList.take (i * 3)).length + xs.length by rw [h5, hxl]; omega, List.take_length_add_append, List.take_left, ht0]
    have h6 : (inner.take (i * 3) ++ xs).length = (i + 1) * 3 := by rw [List.length_append, List.length_take, hlen, hxl]; omega
    rw [hcur', h4]
    simp only [List.append_assoc]
    rw [← List.append_assoc, show (n + 1) * 3 = (inner.take (i * 3) ++ xs).length + (inner.drop (i * 3)).length by rw [h6, hdl]; omega, List.take_length_add_append, List.take_left, List.append_assoc]
  obtain ⟨W2, hW2⟩ : ∃ W2, W2 = W1.drew.setRow w.heap.size cur' := ⟨_, rfl⟩
  have HF := Aside0.mk (show W2.heap[w.heap.size]? = some (.cells cur' 39 (0, 0)) ∧ Below w.heap.size w W2 ∧ cur'.size = cap' * 3 ∧ cur'.toList.take ((n + 1) * 3) = inner.take (i * 3) ++ xs ++ inner.drop (i * 3) from
    ⟨by rw [hW2]; exact setRow_heap W1.drew _ cur1 _ 39 _ hh1, by rw [hW2]; exact below_setRow (below_drew hB1) (Nat.le_refl _) _, hsz', hfin⟩)
  have HC := Aside0.mk (And.intro hc1 hc2)
  rw [← hW2] at hcp2
  rw [← hW0] at happ
  have hcx : cap ≤ 9223372036854775807 := by omega
  have hcy : cap' ≤ 9223372036854775807 := by unfold maxLen at hc2; omega
  have hcz : i + 1 ≤ cap' := by omega
  clear hfin hcur' hW0 hW1 hW2 hsz1 hcur1 hdl hlen hxl hsz hin hsz2 hin2 h1 h2 hg hg2 hc2 hB0 hh0 hg0 hg20 hB1 hh1 hg1 hsz' hsz0 ht0 hcur0 hi0 hzz
  have hin' : (i : Int) ≤ (n : Int) + 1 := by omega
  have hb1 : ¬ ((i : Int) = (n : Int)) := by omega
  have hb7 : (0 : Int) ≤ (i : Int) + 1 := by omega
  have hb8 : i ≤ n := by omega
  have hb9 : i ≤ n + 1 := by omega
  have hb4 : ¬ (cap = i) := by omega
  have hz3 : (cap : Int) < (n : Int) + 1 := by omega
  have hic : i ≤ cap := by omega
  have hb5 : ¬ (cap' = i) := by omega
  have hb6 : ¬ (cap' = i + 1) := by omega
  have hsub : (n : Int) + 1 - (i : Int) = ((n + 1 - i : Nat) : Int) := by omega
  have hw1 : IntKind.i64.wrap ((i : Int) + 1) = (i : Int) + 1 := by rw [IntKind.wrap_i64]; omega
  have htn : ((i : Int) + 1).toNat = i + 1 := by omega
  go_enter Try.func122, Try.ntmps122
  go_wp2_with (first
    | (at_builtin; refine wpList_append_run _ rfl _ _ 23 3 rfl _ _ rfl rfl _ _ happ ?_)
    | (at_builtin; refine wpList_copy_run _ rfl _ _ 23 23 rfl _ _ rfl rfl (hcp1 _ _ _) ?_)
    | (at_builtin; refine wpList_copy_run _ rfl _ _ 23 23 rfl _ _ rfl rfl (hcp2 _ _ _) ?_))
  go_region_law (refine step_copy_run rfl _ _ 23 23 rfl _ _ (by simp [Act.eval, Act.put]) (by simp [Act.eval, Act.put]) (hcp2 _ _ _) ?_)
  go_wp2
  go_ret
  exact ⟨cap', cur', rfl, by have := HC.out.1; omega, HC.out.2, HF.out.1, HF.out.2.1, HF.out.2.2.1, HF.out.2.2.2⟩
def api_Version_122.f (l0 : List (S39)) (a1 : Int) (l2 : List (S39)) : Option (List (S39)) := if l2.length = 1 ∧ 0 ≤ a1 ∧ a1 ≤ l0.length ∧ l0.length + 1 < 4398046511104 then some (l0.take a1.toNat ++ l2 ++ l0.drop a1.toNat) else none
theorem api_Version_122.one {w : World} {base : Nat} {ok : Nat → Prop} {l : List (S39)} {cs : List Value} (h : Reps (k39.M w base ok) 3 l cs) : ∀ u ∈ cs, u.oneCell' = true := by
  intro u hu
  obtain ⟨q, hq, rfl⟩ := List.mem_iff_getElem.1 hu
  have hql : q / 3 < l.length := by
    have := h.1
    omega
  have hc := h.2 (q / 3) _ (List.getElem?_eq_getElem hql)
  refine k39.K_one (k39.K_of_M hc) _ ?_
  rw [List.mem_iff_getElem?]
  refine ⟨q % 3, ?_⟩
  rw [List.getElem?_take, if_pos (Nat.mod_lt _ (by omega)), List.getElem?_drop, Nat.mul_comm, Nat.div_add_mod, List.getElem?_eq_getElem hq]
open HCopy in
theorem api_Version_122.reps {w w' : World} {base base' : Nat} {ok ok' : Nat → Prop} {l l2 : List (S39)} {cs ds : List Value} (i : Nat) (hi : i ≤ l.length) (h : Reps (k39.M w base ok) 3 l cs) (h2 : Reps (k39.M w' base' ok') 3 l2 ds) (hb : base' ≤ base) :
    Reps (k39.M w' base' (fun _ => True)) 3 (l.take i ++ l2 ++ l.drop i) (cs.take (i * 3) ++ ds ++ cs.drop (i * 3)) :=
  Reps.append (Reps.append ((Reps.take h i hi).imp_ fun _ _ hm => flat_move rfl hb hm) (h2.imp_ fun _ _ hm => flat_move rfl (Nat.le_refl _) hm)) ((Reps.drop h i).imp_ fun _ _ hm => flat_move rfl hb hm)
open HCopy in
set_option maxHeartbeats 2000000 in
set_option maxRecDepth 100000 in
/-- The place is the end. -/
theorem api_Version_122.last (P0_ : Nat → Prop) (u9000_ : Value) (l0 : List (S39)) (P2_ : Nat → Prop) (u9001_ : Value) (x : (S39)) (w0 w : World) (hB : Below w0.heap.size w0 w) (ho0 : Kd.R k39 39 w w0.heap.size P0_ u9000_ l0) (ho2 : Kd.R k39 39 w w0.heap.size P2_ u9001_ [x]) (hlim : l0.length + 1 < 4398046511104) :
    Calls Try.prog 122 #[u9000_, .int .i64 l0.length, u9001_] w fun e w' => ∃ v0_, e = .returned v0_ ∧ Kd.R k39 39 w' w0.heap.size (fun k_ => ((P0_ k_ ∨ P2_ k_) ∨ w.heap.size ≤ k_)) v0_ (l0 ++ [x]) ∧ Below w0.heap.size w0 w' ∧ Kept w w' (fun k_ => P0_ k_ ∨ P2_ k_) := by
  obtain ⟨A2, c2, rfl, hc2, hC2⟩ := Kd.R_reads ho2
  obtain ⟨A0, c0, hu0, hc0, hC0⟩ := Kd.R_reads ho0
  obtain ⟨ad2, rfl, _⟩ := hC2.2.2 (by simp)
  have hoK : Kd.R k39 39 w w0.heap.size (fun k_ => ((P0_ k_ ∨ P2_ k_) ∨ w.heap.size ≤ k_)) u9000_ l0 := Kd.R_mono ho0 (fun k hk => .inl (.inl hk))
  have hP0 := Aside0.mk ho0.1
  have HO := Aside0.mk hoK
  have HC := Aside0.mk hC2
  have HBB := Aside0.mk hB
  have hlen : l0.length ≤ c0 := hc0
  clear ho0 ho2 hC0 hC2 hoK hB
  subst hu0
  go_enter Try.func122, Try.ntmps122
  go_wp2_with (at_builtin; (refine Kd.R_append_rows k39 (w0 := w0) w0.heap.size rfl _ _ 23 39 ((.agg #[(.int .i64 0), (.string ⟨#[]⟩), (.bool false)])) 32 rfl Try.underlying23 info39 rfl (by decide) (by omega) _ l0 [x] _ _ _ (fun k_ => ((P0_ k_ ∨ P2_ k_) ∨ w.heap.size ≤ k_)) (fun _ => False) rfl rfl HO.out HC.out (fun _ _ h => h) (fun _ h => h.elim) (fun k hk => .inr hk) HBB.out HBB.out.size (by show (l0.length + 1) * 32 ≤ 140737488355328; omega) ?_); intro v1 w1 ho hb hg hat)
  all_goals go_ret
  all_goals exact ⟨_, rfl, ho, hb, Kept.of_grown hg (Kept.refl _ _) (fun k hk => .inl (.inl (hP0.out k hk)))⟩
open HCopy in
theorem api_Version_122.calls (P0_ : Nat → Prop) (u9000_ : Value) (l0 : List (S39)) (a1 : Int) (P2_ : Nat → Prop) (u9001_ : Value) (l2 : List (S39)) (r : List (S39)) (w0 w : World) (hB : Below w0.heap.size w0 w) (ho0 : Kd.R k39 39 w w0.heap.size P0_ u9000_ l0) (hp0_2 : ∀ k_, P0_ k_ → ¬ P2_ k_) (ho2 : Kd.R k39 39 w w0.heap.size P2_ u9001_ l2) (hp2_0 : ∀ k_, P2_ k_ → ¬ P0_ k_) (h : api_Version_122.f l0 a1 l2 = some r) :
    Calls Try.prog 122 #[u9000_, .int .i64 a1, u9001_] w fun e w' => ∃ v0_, e = .returned v0_ ∧ Kd.R k39 39 w' w0.heap.size (fun k_ => ((P0_ k_ ∨ P2_ k_) ∨ w.heap.size ≤ k_)) v0_ r ∧ Below w0.heap.size w0 w' ∧ Kept w w' (fun k_ => P0_ k_ ∨ P2_ k_) := by
  unfold api_Version_122.f at h
  split at h
  case isFalse => cases h
  case isTrue hc =>
    obtain ⟨hl1, hi0, hil, hlim⟩ := hc
    obtain rfl := Option.some.inj h
    obtain ⟨i, rfl⟩ : ∃ i : Nat, a1 = (i : Int) := ⟨a1.toNat, by omega⟩
    obtain ⟨x, rfl⟩ := List.length_eq_one_iff.1 hl1
    clear h
    rw [Int.toNat_natCast]
    by_cases hin : i < l0.length
    · obtain ⟨hok2, inner2, ⟨hlen2, hcase2⟩, hr2⟩ := ho2
      rcases hcase2 with ⟨_, hn⟩ | ⟨g2, c2, cur2, rfl, hbg2, hg2, hnc2, hcm2, hsz2, ht2⟩
      · simp at hn
      obtain ⟨hok, inner, ⟨hlen, hcase⟩, hr⟩ := ho0
      rcases hcase with ⟨_, hn⟩ | ⟨g, cap, cur, rfl, hbg, hg, hnc, hcm, hsz, ht⟩
      · omega
      have hP0 : P0_ g := hok g (by simp [Value.ownBlock])
      have hP2 : P2_ g2 := hok2 g2 (by simp [Value.ownBlock])
      have hne : g2 ≠ g := fun e => hp0_2 g hP0 (e ▸ hP2)
      have hbw := hB.size
      have hR := fun (w' : World) => api_Version_122.reps (w' := w') (base' := w0.heap.size) (ok' := fun _ => True) i (by omega) hr (hr2.imp_ fun _ _ hm => flat_move (w1 := w') (base1 := w0.heap.size) (ok1 := fun _ => True) rfl (Nat.le_refl _) hm) (Nat.le_refl _)
      by_cases hroom : l0.length + 1 ≤ cap
      · refine (api_Version_122.room g cap l0.length i cur inner inner2 g2 c2 cur2 w hg hg2 hne hin hroom hcm hsz ht (by show 3 ≤ _; have : k39.sz = 3 := rfl; rw [this] at hsz2; have : 1 ≤ c2 := hnc2; omega) ht2 (api_Version_122.one hr) (api_Version_122.one hr2)).mono ?_
        rintro e w' ⟨cur', rfl, rfl, hs', ht'⟩
        refine ⟨_, rfl, ?_, ?_, ?_⟩
        · exact row_R k39 rfl (Nat.le_refl _) (setRow_heap w.drew g cur _ 39 _ hg) hbg (by simp; omega) hroom hcm hs' ht' (hR w) (.inl (.inl hP0))
        · exact below_setRow (below_drew hB) hbg _
        · exact ⟨by simp [World.setRow], fun k hk hn => setRow_other w.drew g k cur' (fun e => hn (.inl (e ▸ hP0)))⟩
      · refine (api_Version_122.grow g cap l0.length i cur inner inner2 g2 c2 cur2 w hg hg2 hin hnc (by omega) hlim hsz ht (by show 3 ≤ _; have : k39.sz = 3 := rfl; rw [this] at hsz2; have : 1 ≤ c2 := hnc2; omega) ht2 (api_Version_122.one hr) (api_Version_122.one hr2)).mono ?_
        rintro e w' ⟨cap', cur', rfl, hc1, hc2', hh, hbb, hs', ht'⟩
        refine ⟨_, rfl, ?_, ?_, ?_⟩
        · exact row_R k39 rfl (Nat.le_refl _) hh hbw (by simp; omega) hc1 hc2' hs' ht' (hR w) (.inr (Nat.le_refl _))
        · exact hB.trans (hbb.mono hbw)
        · exact Kept.of_below hbb _
    · obtain rfl : i = l0.length := by omega
      rw [List.take_length, List.drop_length, List.append_nil]
      exact api_Version_122.last P0_ u9000_ l0 P2_ u9001_ x w0 w hB ho0 ho2 hlim


/-! ### chain_With: function 66 -/
def chain_With.f (a0_0 : ByteArray) (l0_1 : List (S39)) (a1_0 : Int) (a1_1 : ByteArray) (a1_2 : Bool) : Option (ByteArray × (List (S39))) := (api_Version_123.f l0_1).bind fun t212 => ((api_Version_122.f t212 0 (([(⟨a1_0, a1_1, a1_2⟩ : S39)] : List (S39)))).bind fun t218 => (some (a0_0, t218)))
def chain_With.T1 : Bool × List (List Nat × List Nat) := (true, [([], []), ([0], [0]), ([1], [1]), ([], []), ([3], [3]), ([2, 4, 2], [2, 4]), ([0, 1, 2, 3, 4, 5], []), ([6, 5, 5, 0, 1, 2, 3, 4, 5], [5, 6])])
def chain_With.B1 : List Nat := [0, 1, 3, 0, 8, 31, 63, 127]
theorem chain_With.tab1 : rtab .any (opsOf Try.f66 1) = chain_With.T1 := by kernel_rfl
theorem chain_With.bits1 : waitsOk chain_With.T1.2 chain_With.B1 = true := by kernel_rfl
set_option maxHeartbeats 8000000 in
set_option maxRecDepth 100000 in
theorem chain_With.calls (a0_0 : ByteArray) (A0_1 : Option Addr) (c0_1 : Nat) (l0_1 : List (S39)) (a1_0 : Int) (a1_1 : ByteArray) (a1_2 : Bool) (r1 : ByteArray) (r2 : List (S39)) (w : World) (hr0_1 : Kd.C k39 w A0_1 l0_1.length l0_1) (hc0_1 : l0_1.length ≤ c0_1) (h : chain_With.f a0_0 l0_1 a1_0 a1_1 a1_2 = some (r1, r2)) :
  Calls Try.prog 66 #[.agg #[.string a0_0, .slice A0_1 l0_1.length c0_1], .agg #[.int .i64 a1_0, .string a1_1, .bool a1_2]] w fun e w' => ∃ v1_ : Value, e = .returned (.agg #[.string r1, v1_]) ∧ Kd.R k39 39 w' w.heap.size (fun _ => True) v1_ r2 ∧ Below w.heap.size w w' := by
 have hu30 := Try.underlying30
 have hu39 := Try.underlying39
 have HR0_1 := mk0 hr0_1
 have HC0_1 := mk0 hc0_1
 clear hr0_1 hc0_1
 have HB := mk0 (Below.refl w.heap.size w)
 have H : ((api_Version_123.f l0_1).bind fun t212 => ((api_Version_122.f t212 0 (([(⟨a1_0, a1_1, a1_2⟩ : S39)] : List (S39)))).bind fun t218 => (some (a0_0, t218)))) = some (r1, r2) := h
 clear h
 replace H := Option.bind_eq_some_iff.mp H
 obtain ⟨t212, A30, H⟩ := H
 try dsimp only at H
 have A3 := mk0 A30
 clear A30
 obtain ⟨y215, hy215⟩ : ∃ y_ : List (S39), y_ = (([(⟨a1_0, a1_1, a1_2⟩ : S39)] : List (S39))) := ⟨_, rfl⟩
 replace H : ((api_Version_122.f t212 0 y215).bind fun t218 => (some (a0_0, t218))) = some (r1, r2) := by first | (rw [hy215]; with_reducible exact H) | (have H2_ := (Option.bind_some _ _).symm.trans H; rw [hy215]; with_reducible exact H2_) | (have H2_ := (Option.bind_some _ _).symm.trans H; with_reducible exact H2_) | with_reducible exact H | (rw [hy215]; exact H) | exact H
 have Ny215 := mk0 hy215
 clear hy215
 replace H := Option.bind_eq_some_iff.mp H
 obtain ⟨t218, A40, H⟩ := H
 try dsimp only at H
 have A4 := mk0 A40
 clear A40
 simp only [Option.some.injEq, Prod.mk.injEq] at H
 obtain ⟨rfl, rfl⟩ := H
 go_enter Try.func66, Try.ntmps66
 try go_wp2_with (first | ((with_reducible refine gate_dst (N := 2) rfl ?_); refine bx_ (N := 2) (cs := #[.string a0_0, .slice A0_1 l0_1.length c0_1]) (t := 30) (h := ?_); intro gb209 hg w5 hbox hb; have n2_ := mk0 (gz_ HB hg); have n3_ := mk0 (gz_ HB hg); replace HB := mk0 (bt_ (b_ HB) hb); have BK209 := mk0 (hbox); have GW209 := n2_; have GE209 := n3_; clear n2_ n3_; clear hb hbox hg) | ((with_reducible refine gate_dst (N := 3) rfl ?_); refine bx_ (N := 3) (cs := #[.int .i64 a1_0, .string a1_1, .bool a1_2]) (t := 39) (h := ?_); intro gb210 hg w6 hbox hb; have n3_ := mk0 (gz_ HB hg); have n4_ := mk0 (gz_ HB hg); have n5_ := mk0 (ne1_ BK209 hg); have n6_ := mk0 (ne2_ BK209 hg); replace BK209 := mk0 (u_ BK209 hb); replace HB := mk0 (bt_ (b_ HB) hb); have BK210 := mk0 (hbox); have GW210 := n3_; have GE210 := n4_; have NB209_210 := n5_; have NB210_209 := n6_; clear n3_ n4_ n5_ n6_; clear hb hbox hg) | ((with_reducible refine gate_dst (N := 4) rfl ?_); refine bx_ (N := 4) (cs := #[.string (⟨#[]⟩ : ByteArray), .slice none 0 0]) (t := 30) (h := ?_); intro gb211 hg w7 hbox hb; have n4_ := mk0 (gz_ HB hg); have n5_ := mk0 (gz_ HB hg); have n6_ := mk0 (ne1_ BK209 hg); have n7_ := mk0 (ne2_ BK209 hg); have n8_ := mk0 (ne1_ BK210 hg); have n9_ := mk0 (ne2_ BK210 hg); replace BK209 := mk0 (u_ BK209 hb); replace BK210 := mk0 (u_ BK210 hb); replace HB := mk0 (bt_ (b_ HB) hb); have BK211 := mk0 (hbox); have GW211 := n4_; have GE211 := n5_; have NB209_211 := n6_; have NB211_209 := n7_; have NB210_211 := n8_; have NB211_210 := n9_; clear n4_ n5_ n6_ n7_ n8_ n9_; clear hb hbox hg))
 replace BK209 := mk0 (bD_ BK209.out)
 replace BK210 := mk0 (bD_ BK210.out)
 replace BK211 := mk0 (bD_ BK211.out)
 replace HB := mk0 (b1_ HB.out)
 refine start_ (n := 8) (S := fun w' => w'.cell? ⟨gb209, 0, none⟩ = some (.string a0_0) ∧ w'.cell? ⟨gb209, 1, none⟩ = some (.slice A0_1 l0_1.length c0_1) ∧ w'.cell? ⟨gb210, 0, none⟩ = some (.int .i64 a1_0) ∧ w'.cell? ⟨gb210, 1, none⟩ = some (.string a1_1) ∧ w'.cell? ⟨gb210, 2, none⟩ = some (.bool a1_2)) (ds := [7]) (bt 8 0) (by kernel_rfl) rfl rfl ⟨bk_ BK209 0, bk_ BK209 1, bk_ BK210 0, bk_ BK210 1, bk_ BK210 2⟩ (fun hHeld => ?_); refine with_tabW chain_With.tab1 chain_With.bits1 (fun HT_ HW_ => ?_)
 generalize w7.drew = w8 at BK209 BK210 BK211 HB hHeld ⊢
 refine pq_ HT_.out 0 5 (bt 8 1) (h := ?_)
 refine tq5_ HT_.out HW_.out 1 6 (bt 8 3) hHeld (h := ?_)
 refine tq5_ HT_.out HW_.out 3 8 (bt 8 11) hHeld (h := ?_)
 refine join_ (σ := Value × Value) 3 (bt 8 31) (fun s_ => [(7, s_.1), (9, s_.2)]) (fun s_ w' => (w'.cell? ⟨gb209, 0, none⟩ = some (.string a0_0) ∧ w'.cell? ⟨gb209, 1, none⟩ = some (.slice A0_1 l0_1.length c0_1) ∧ w'.cell? ⟨gb210, 0, none⟩ = some (.int .i64 a1_0) ∧ w'.cell? ⟨gb210, 1, none⟩ = some (.string a1_1) ∧ w'.cell? ⟨gb210, 2, none⟩ = some (.bool a1_2)) ∧ (Kd.R k39 39 w' w.heap.size (fun k_ => some k_ ≠ (s_.2 : Value).ownBlock ∧ k_ ≠ gb210) s_.1 t212) ∧ (Kd.R k39 39 w' w.heap.size (fun k_ => some k_ ≠ (s_.1 : Value).ownBlock ∧ k_ ≠ gb210) s_.2 y215) ∧ (w'.heap[gb209]? = some (.cells #[.string a0_0, .slice A0_1 l0_1.length c0_1] 30 (0, 0))) ∧ (w'.heap[gb210]? = some (.cells #[.int .i64 a1_0, .string a1_1, .bool a1_2] 39 (0, 0))) ∧ (w'.heap[gb211]? = some (.cells #[.string (⟨#[]⟩ : ByteArray), .slice none 0 0] 30 (0, 0))) ∧ (Below w.heap.size w w')) ?_ ?_
 rotate_left
 ·intro hCont
  refine two_ (i := 2) (j := 4) (Ni := some 7) (Nj := some 9) (bt 8 15) (bt 8 27) rfl rfl rfl rfl (two_of HT_.out (by kernel_rfl)) (by decide) (by decide) (fun K hK => ?_) (fun K hK => ?_)
  ·skip
   refine goes_ Try.func123 (by kernel_rfl) rfl #[.slice A0_1 l0_1.length c0_1] (by rfl) rfl rfl (by (try simp only [List.map_toArray, List.map_cons, List.map_nil]); first | done | rfl | (simp only [List.length_drop, List.length_take]; rfl)) ?_
   with_reducible refine (api_Version_123.calls _ _ l0_1 t212 _ ?side1 ?side2 A3.out).mono ?_
   (case side1 => exact cb_ HR0_1 HB)
   (case side2 => exact HC0_1.out)
   rintro e w9 ⟨v213, rfl, ho0, hb⟩
   refine ⟨_, rfl, ?_⟩
   have n0_ := mk0 (Kd.R_lower (Kd.R_newB ho0 (g := gb210) (o := .cells #[.int .i64 a1_0, .string a1_1, .bool a1_2] 39 (0, 0)) (h_ BK210)) (bz_ (b_ HB)))
   replace BK209 := mk0 (u_ BK209 hb)
   replace BK210 := mk0 (u_ BK210 hb)
   replace BK211 := mk0 (blk_below (g := gb211) (o := .cells #[.string (⟨#[]⟩ : ByteArray), .slice none 0 0] 30 (0, 0)) (h_ BK211) hb)
   replace HB := mk0 (bt_ (b_ HB) hb)
   have HO214 := n0_
   clear n0_
   (try clear hb)
   (try clear hb2)
   (try clear hk)
   (try clear hi)
   (try clear ho0)
   refine hK.out _ _ ⟨bk_ BK209 0, bk_ BK209 1, bk_ BK210 0, bk_ BK210 1, bk_ BK210 2⟩ (fun hHeld => ?_)
   clear hK K
   refine norm_ (a' := ?_) ?_ ?_
   rotate_left
   ·show Act.put _ (some 7) _ = _
    simp only [z_]
    rfl
   refine one_ (i := 4) (N := some 9) (bt 8 31) rfl rfl (one_of HT_.out (by kernel_rfl)) (by decide) (fun K hK => ?_)
   refine Kd.R_lit_step k39 _ 39 ?hg (N := 9) ?hd (xs := ([(⟨a1_0, a1_1, a1_2⟩ : S39)] : List (S39))) (inner := [.int .i64 a1_0, .string a1_1, .bool a1_2]) (ok := fun _ => True) (okp := fun _ => True) ?hr ?hp (fun _ hk => hk) trivial (Below.refl _ _) (Nat.le_refl _) (by simp) ?_; (case hd => rfl); (case hg => rfl); (case hr => first | (go_simp; done) | (go_simp; rfl)); (case hp => exact (Reps.c3 (show Kd.M k39 _ _ _ (⟨a1_0, a1_1, a1_2⟩ : S39) [.int .i64 a1_0, .string a1_1, .bool a1_2] from (k39_mkM _ _ _ (⟨a1_0, a1_1, a1_2⟩ : S39) )) (Reps.none _ _)))
   intro v216 w10 ho11 hb hg_ hnew_
   clear hg_ hnew_
   (first | rw [← Ny215.out] at ho11 | (simp only [Int.reduceToNat] at ho11; rw [← Ny215.out] at ho11))
   have n1_ := mk0 (Kd.R_lower (Kd.R_newB (Kd.R_new' ho11 (Kd.R_lt (r_ HO214))) (g := gb210) (o := .cells #[.int .i64 a1_0, .string a1_1, .bool a1_2] 39 (0, 0)) (h_ BK210)) (bz_ (b_ HB)))
   replace HO214 := mk0 (Kd.R_elder' (r_ HO214) (Kd.R_base ho11) hb)
   replace BK209 := mk0 (u_ BK209 hb)
   replace BK210 := mk0 (u_ BK210 hb)
   replace BK211 := mk0 (blk_below (g := gb211) (o := .cells #[.string (⟨#[]⟩ : ByteArray), .slice none 0 0] 30 (0, 0)) (h_ BK211) hb)
   replace HB := mk0 (bt_ (b_ HB) hb)
   have HO217 := n1_
   clear n1_ hb ho11
   refine hK.out _ _ ⟨bk_ BK209 0, bk_ BK209 1, bk_ BK210 0, bk_ BK210 1, bk_ BK210 2⟩ (fun hHeld => ?_)
   clear hK K
   refine norm_ (a' := ?_) ?_ ?_
   rotate_left
   ·show Act.put _ (some 9) _ = _
    simp only [z_]
    rfl
   exact norm_ (by simp only [putAll, Act.put, List.setIfInBounds_toArray, List.set_cons_zero, List.set_cons_succ]) (hCont (v213, v216) _ ⟨hHeld, (r2_ (Kd.R_mono HO214.out (fun _ hk => ⟨hk.2, hk.1.2⟩))), (r2_ (Kd.R_mono HO217.out (fun _ hk => ⟨hk.1.2, hk.2⟩))), (h_ BK209), (h_ BK210), (h_ BK211), (b_ HB)⟩)
  ·skip
   refine Kd.R_lit_step k39 _ 39 ?hg (N := 9) ?hd (xs := ([(⟨a1_0, a1_1, a1_2⟩ : S39)] : List (S39))) (inner := [.int .i64 a1_0, .string a1_1, .bool a1_2]) (ok := fun _ => True) (okp := fun _ => True) ?hr ?hp (fun _ hk => hk) trivial (Below.refl _ _) (Nat.le_refl _) (by simp) ?_; (case hd => rfl); (case hg => rfl); (case hr => first | (go_simp; done) | (go_simp; rfl)); (case hp => exact (Reps.c3 (show Kd.M k39 _ _ _ (⟨a1_0, a1_1, a1_2⟩ : S39) [.int .i64 a1_0, .string a1_1, .bool a1_2] from (k39_mkM _ _ _ (⟨a1_0, a1_1, a1_2⟩ : S39) )) (Reps.none _ _)))
   intro v216 w9 ho10 hb hg_ hnew_
   clear hg_ hnew_
   (first | rw [← Ny215.out] at ho10 | (simp only [Int.reduceToNat] at ho10; rw [← Ny215.out] at ho10))
   have n0_ := mk0 (Kd.R_lower (Kd.R_newB ho10 (g := gb210) (o := .cells #[.int .i64 a1_0, .string a1_1, .bool a1_2] 39 (0, 0)) (h_ BK210)) (bz_ (b_ HB)))
   replace BK209 := mk0 (u_ BK209 hb)
   replace BK210 := mk0 (u_ BK210 hb)
   replace BK211 := mk0 (blk_below (g := gb211) (o := .cells #[.string (⟨#[]⟩ : ByteArray), .slice none 0 0] 30 (0, 0)) (h_ BK211) hb)
   replace HB := mk0 (bt_ (b_ HB) hb)
   have HO217 := n0_
   clear n0_ hb ho10
   refine hK.out _ _ ⟨bk_ BK209 0, bk_ BK209 1, bk_ BK210 0, bk_ BK210 1, bk_ BK210 2⟩ (fun hHeld => ?_)
   clear hK K
   refine norm_ (a' := ?_) ?_ ?_
   rotate_left
   ·show Act.put _ (some 9) _ = _
    simp only [z_]
    rfl
   refine one_ (i := 2) (N := some 7) (bt 8 31) rfl rfl (one_of HT_.out (by kernel_rfl)) (by decide) (fun K hK => ?_)
   refine goes_ Try.func123 (by kernel_rfl) rfl #[.slice A0_1 l0_1.length c0_1] (by rfl) rfl rfl (by (try simp only [List.map_toArray, List.map_cons, List.map_nil]); first | done | rfl | (simp only [List.length_drop, List.length_take]; rfl)) ?_
   with_reducible refine (api_Version_123.calls _ _ l0_1 t212 _ ?side1 ?side2 A3.out).mono ?_
   (case side1 => exact cb_ HR0_1 HB)
   (case side2 => exact HC0_1.out)
   rintro e w11 ⟨v213, rfl, ho0, hb⟩
   refine ⟨_, rfl, ?_⟩
   have n1_ := mk0 (Kd.R_lower (Kd.R_newB (Kd.R_new' ho0 (Kd.R_lt (r_ HO217))) (g := gb210) (o := .cells #[.int .i64 a1_0, .string a1_1, .bool a1_2] 39 (0, 0)) (h_ BK210)) (bz_ (b_ HB)))
   replace HO217 := mk0 (Kd.R_elder' (r_ HO217) (Kd.R_base ho0) hb)
   replace BK209 := mk0 (u_ BK209 hb)
   replace BK210 := mk0 (u_ BK210 hb)
   replace BK211 := mk0 (blk_below (g := gb211) (o := .cells #[.string (⟨#[]⟩ : ByteArray), .slice none 0 0] 30 (0, 0)) (h_ BK211) hb)
   replace HB := mk0 (bt_ (b_ HB) hb)
   have HO214 := n1_
   clear n1_
   (try clear hb)
   (try clear hb2)
   (try clear hk)
   (try clear hi)
   (try clear ho0)
   refine hK.out _ _ ⟨bk_ BK209 0, bk_ BK209 1, bk_ BK210 0, bk_ BK210 1, bk_ BK210 2⟩ (fun hHeld => ?_)
   clear hK K
   refine norm_ (a' := ?_) ?_ ?_
   rotate_left
   ·show Act.put _ (some 7) _ = _
    simp only [z_]
    rfl
   exact norm_ (by simp only [putAll, Act.put, List.setIfInBounds_toArray, List.set_cons_zero, List.set_cons_succ]) (hCont (v213, v216) _ ⟨hHeld, (r2_ (Kd.R_mono HO214.out (fun _ hk => ⟨hk.1.2, hk.2⟩))), (r2_ (Kd.R_mono HO217.out (fun _ hk => ⟨hk.2, hk.1.2⟩))), (h_ BK209), (h_ BK210), (h_ BK211), (b_ HB)⟩)
 rintro ⟨v213, v216⟩ w12 ⟨hS_, h0_, h1_, h2_, h3_, h4_, h5_⟩
 have n0_ : Fc (Kd.R k39 39 w12 w.heap.size (fun k_ => some k_ ≠ (v216 : Value).ownBlock ∧ k_ ≠ gb210) v213 t212) := ⟨h0_⟩
 have n1_ : Fc (Kd.R k39 39 w12 w.heap.size (fun k_ => some k_ ≠ (v213 : Value).ownBlock ∧ k_ ≠ gb210) v216 y215) := ⟨h1_⟩
 have n2_ : Fc (w12.heap[gb209]? = some (.cells #[.string a0_0, .slice A0_1 l0_1.length c0_1] 30 (0, 0))) := ⟨h2_⟩
 have n3_ : Fc (w12.heap[gb210]? = some (.cells #[.int .i64 a1_0, .string a1_1, .bool a1_2] 39 (0, 0))) := ⟨h3_⟩
 have n4_ : Fc (w12.heap[gb211]? = some (.cells #[.string (⟨#[]⟩ : ByteArray), .slice none 0 0] 30 (0, 0))) := ⟨h4_⟩
 have n5_ : Fc (Below w.heap.size w w12) := ⟨h5_⟩
 clear BK209 BK210 BK211 HB h0_ h1_ h2_ h3_ h4_ h5_
 have HO214 := n0_
 have HO217 := n1_
 have BK209 := n2_
 have BK210 := n3_
 have BK211 := n4_
 have HB := n5_
 clear n0_ n1_ n2_ n3_ n4_ n5_
 have hHeld : w12.cell? ⟨gb209, 0, none⟩ = some (.string a0_0) ∧ w12.cell? ⟨gb209, 1, none⟩ = some (.slice A0_1 l0_1.length c0_1) ∧ w12.cell? ⟨gb210, 0, none⟩ = some (.int .i64 a1_0) ∧ w12.cell? ⟨gb210, 1, none⟩ = some (.string a1_1) ∧ w12.cell? ⟨gb210, 2, none⟩ = some (.bool a1_2) := hS_
 obtain ⟨Ao13, co13, eo13⟩ := Kd.R_slice HO214.out
 (first | subst eo13 | (injection eo13 with f1_ f2_ f3_; have f4_ := f1_.symm; have f5_ := f3_.symm; clear f1_ f2_ f3_; subst f4_; subst f5_))
 obtain ⟨Ao14, co14, eo14⟩ := Kd.R_slice HO217.out
 (first | subst eo14 | (injection eo14 with f1_ f2_ f3_; have f4_ := f1_.symm; have f5_ := f3_.symm; clear f1_ f2_ f3_; subst f4_; subst f5_))
 refine norm_ (a' := ?_) ?_ ?_
 rotate_left
 ·simp only [putAll, Act.put, List.setIfInBounds_toArray, List.set_cons_zero, List.set_cons_succ]
  rfl
 refine one_ (i := 5) (N := some 10) (bt 8 63) rfl rfl (one_of HT_.out (by kernel_rfl)) (by decide) (fun K hK => ?_)
 refine goes_ Try.func122 (by kernel_rfl) rfl #[.slice Ao13 t212.length co13, .int .i64 0, .slice Ao14 y215.length co14] (by rfl) rfl rfl (by (try simp only [List.map_toArray, List.map_cons, List.map_nil]); first | done | rfl | (simp only [List.length_drop, List.length_take]; rfl)) ?_
 with_reducible refine (api_Version_122.calls (fun k_ => some k_ = (.slice Ao13 t212.length co13 : Value).ownBlock) (.slice Ao13 t212.length co13) t212 0 (fun k_ => some k_ = (.slice Ao14 y215.length co14 : Value).ownBlock) (.slice Ao14 y215.length co14) y215 t218 w _ ?side1 ?side2 ?side3 ?side4 ?side5 A4.out).mono ?_
 (case side1 => repeat (first | (with_reducible first | exact HB.out | apply bL_ | apply pN_ | apply b1_ | refine bs_ ?_ GE209.out | refine bs_ ?_ GE210.out | refine bs_ ?_ GE211.out) | exact HB.out))
 (case side2 => exact Kd.R_tight rfl HO214.out)
 (case side3 => exact fun k_ e_ => (HO214.out.1 k_ e_.symm).1)
 (case side4 => exact Kd.R_tight rfl HO217.out)
 (case side5 => exact fun k_ e_ => (HO217.out.1 k_ e_.symm).1)
 rintro e w15 ⟨v219, rfl, ho0, hb, hkp⟩
 refine ⟨_, rfl, ?_⟩
 have n3_ := mk0 (Kd.R_mono (ok' := fun k_ => k_ ≠ gb210) ho0 (fun k_ hk_ => Or.elim hk_ (fun hs_ => Or.elim hs_ (fun hs_ => fun e_ => (Kd.R_away HO214.out (fun _ hk => hk.2)) (by rw [← e_]; exact hs_)) (fun hs_ => fun e_ => (Kd.R_away HO217.out (fun _ hk => hk.2)) (by rw [← e_]; exact hs_))) (fun hn_ => (Kd.freshB (g := gb210) (o := .cells #[.int .i64 a1_0, .string a1_1, .bool a1_2] 39 (0, 0)) (h_ BK210) k_ hn_))))
 replace BK209 := mk0 (blk_kept (h_ BK209) hkp (fun hs_ => Or.elim hs_ (fun e_ => (fun e_ => (Kd.R_ne HO214.out BK209.out (by decide)) e_) e_) (fun e_ => (fun e_ => (Kd.R_ne HO217.out BK209.out (by decide)) e_) e_)))
 replace BK210 := mk0 (blk_kept (h_ BK210) hkp (fun hs_ => Or.elim hs_ (fun e_ => (fun e_ => (Kd.R_away HO214.out (fun _ hk => hk.2)) e_) e_) (fun e_ => (fun e_ => (Kd.R_away HO217.out (fun _ hk => hk.2)) e_) e_)))
 replace BK211 := mk0 (blk_kept (h_ BK211) hkp (fun hs_ => Or.elim hs_ (fun e_ => (fun e_ => (Kd.R_ne HO214.out BK211.out (by decide)) e_) e_) (fun e_ => (fun e_ => (Kd.R_ne HO217.out BK211.out (by decide)) e_) e_)))
 replace HB := mk0 (hb)
 clear HO214 HO217
 have HO220 := n3_
 clear n3_
 (try clear hb)
 (try clear hkp)
 (try clear ho0)
 obtain ⟨Ao16, co16, eo16⟩ := Kd.R_slice HO220.out
 (first | subst eo16 | (injection eo16 with f1_ f2_ f3_; have f4_ := f1_.symm; have f5_ := f3_.symm; clear f1_ f2_ f3_; subst f4_; subst f5_))
 refine hK.out _ _ ⟨bk_ BK209 0, bk_ BK209 1, bk_ BK210 0, bk_ BK210 1, bk_ BK210 2⟩ (fun hHeld => ?_)
 clear hK K
 refine norm_ (a' := ?_) ?_ ?_
 rotate_left
 ·show Act.put _ (some 10) _ = _
  simp only [z_]
  rfl
 refine pq_ HT_.out 6 11 (bt 8 127) (h := ?_)
 refine last_ (i := 7) (N := none) (bt 8 255) rfl rfl (one_of HT_.out (by kernel_rfl)) (by decide) (fun K hK => ?_)
 have hs17 : w15.cell? ⟨gb209, 1, none⟩ = some (.slice A0_1 l0_1.length c0_1) := bk_ BK209 1
 have hfs17 := blk_frozen BK209.out 1
 have hns17_1 := NB210_209.out
 have hns17_2 := NB211_209.out
 have hms17_1 := NB209_210.out
 have hms17_2 := NB209_211.out
 refine skip_ (w1 := ?_) (by rfl) rfl ?_ ?_
 rotate_left
 ·go_simp
  rfl
 refine hK.out _ _ ?_
 clear hK K
 refine done_ (done_of HT_.out (by kernel_rfl)) ?_
 have hnb18 := NB209_210.out
 have hnc18 := NB210_209.out
 have hnb19 := NB209_211.out
 have hnc19 := NB211_209.out
 obtain ⟨hcz20_0, hcz20_1, hfz20_0, hfz20_1⟩ := c2_ BK209
 have hnb21 := NB211_210.out
 have hnc21 := NB210_211.out
 obtain ⟨hcz22_0, hcz22_1, hfz22_0, hfz22_1⟩ := c2_ BK211
 try go_wp2
 refine bodyPost_ret (results_cell_row rfl _ _ gb211 30 #[.string a0_0, .slice Ao16 t218.length co16] (0, 0) _ rfl (pu_ (cs := #[.string a0_0, .slice none 0 0]) (pu_ (cs := #[.string (⟨#[]⟩ : ByteArray), .slice none 0 0]) (fa_ (h_ BK211) NB211_209.out))) Try.underlying30 rfl (by kernel_rfl)) rfl ?_
 exact ⟨_, by first | rfl | (simp [errW_none, errW_some] <;> rfl) | (simp [*, errW_none, errW_some] <;> rfl), by (with_reducible repeat (first | apply Ra_ | apply Rn_ | apply Rd_)); exact Kd.R_mono (Kd.R_far (p := ⟨gb211, 1, none⟩) (Kd.R_far (p := ⟨gb211, 0, none⟩) (Kd.R_far (p := ⟨gb209, 1, none⟩) (Kd.R_types (Kd.R_types HO220.out BK209.out (by decide)) BK211.out (by decide)) (fun _ hk => hk.1.2) (.slice Ao16 t218.length co16)) (fun _ hk => hk.2) (.string a0_0)) (fun _ hk => hk.2) (.slice Ao16 t218.length co16)) (fun _ hk => trivial), b_ HB⟩

/-! ### chain_Add: function 26 -/
def chain_Add.f (k : Nat) (a0_0 : ByteArray) (l0_1 : List (S39)) (a1_0 : Int) (a1_1 : ByteArray) (a1_2 : Bool) : Option (ByteArray × (List (S39)) × Int) := (chain_With.f a0_0 l0_1 a1_0 a1_1 a1_2).bind fun bt224 => ((chain_May.f k a0_0 l0_1).bind fun t229 => (if t229 = true then ((chain_May.f k bt224.1 bt224.2).bind fun t230 => (if t230 = true then (some (bt224.1, bt224.2, 0)) else (some ((⟨#[]⟩ : ByteArray), ([] : List (S39)), 1)))) else (some ((⟨#[]⟩ : ByteArray), ([] : List (S39)), 1))))
theorem chain_Add.mono : ∀ a0 a1 a2 a3 a4 k, LeO (chain_Add.f k a0 a1 a2 a3 a4) (chain_Add.f (k + 1) a0 a1 a2 a3 a4) := by
 intro a0 a1 a2 a3 a4 k
 unfold chain_Add.f
 repeat' first
   | (with_reducible exact chain_May.mono _ _ _)
   | (with_reducible exact LeO.refl _)
   | (with_reducible exact LeO.none _)
   | (with_reducible refine LeO.ite ?_ ?_)
   | (with_reducible refine LeO.bind ?_ (fun _ => ?_))
   | exact chain_May.mono _ _ _
   | exact LeO.none _
   | refine LeO.ite ?_ ?_
   | refine LeO.bind ?_ (fun _ => ?_)
set_option maxHeartbeats 8000000 in
set_option maxRecDepth 100000 in
theorem chain_Add.calls (k : Nat) (a0_0 : ByteArray) (A0_1 : Option Addr) (c0_1 : Nat) (l0_1 : List (S39)) (a1_0 : Int) (a1_1 : ByteArray) (a1_2 : Bool) (r1 : ByteArray) (r2 : List (S39)) (r3 : Int) (w : World) (hr0_1 : Kd.C k39 w A0_1 l0_1.length l0_1) (hc0_1 : l0_1.length ≤ c0_1) (h : chain_Add.f k a0_0 l0_1 a1_0 a1_1 a1_2 = some (r1, r2, r3)) :
  Calls Try.prog 26 #[.agg #[.string a0_0, .slice A0_1 l0_1.length c0_1], .agg #[.int .i64 a1_0, .string a1_1, .bool a1_2]] w fun e w' => ∃ v1_ : Value, e = .returned (.tuple #[.agg #[.string r1, v1_], .int .i64 r3]) ∧ Kd.R k39 39 w' w.heap.size (fun _ => True) v1_ r2 ∧ Below w.heap.size w w' := by
 have hu30 := Try.underlying30
 have hu39 := Try.underlying39
 have HR0_1 := mk0 hr0_1
 have HC0_1 := mk0 hc0_1
 clear hr0_1 hc0_1
 have HB := mk0 (Below.refl w.heap.size w)
 have H : ((chain_With.f a0_0 l0_1 a1_0 a1_1 a1_2).bind fun bt224 => ((chain_May.f k a0_0 l0_1).bind fun t229 => (if t229 = true then ((chain_May.f k bt224.1 bt224.2).bind fun t230 => (if t230 = true then (some (bt224.1, bt224.2, 0)) else (some ((⟨#[]⟩ : ByteArray), ([] : List (S39)), 1)))) else (some ((⟨#[]⟩ : ByteArray), ([] : List (S39)), 1))))) = some (r1, r2, r3) := h
 clear h
 replace H := Option.bind_eq_some_iff.mp H
 obtain ⟨⟨t224, t225⟩, A30, H⟩ := H
 try dsimp only at H
 have A3 := mk0 A30
 clear A30
 replace H := Option.bind_eq_some_iff.mp H
 obtain ⟨t229, A40, H⟩ := H
 try dsimp only at H
 have A4 := mk0 A40
 clear A40
 by_cases c5 : t229 = true
 focus
  subst c5
  rw [if_pos rfl] at H
  replace H := Option.bind_eq_some_iff.mp H
  obtain ⟨t230, A60, H⟩ := H
  try dsimp only at H
  have A6 := mk0 A60
  clear A60
  by_cases c7 : t230 = true
  focus
   subst c7
   rw [if_pos rfl] at H
   simp only [Option.some.injEq, Prod.mk.injEq] at H
   obtain ⟨rfl, rfl, rfl⟩ := H
   go_enter Try.func26, Try.ntmps26
  rotate_left 1
  focus
   replace c7 := Bool.eq_false_iff.mpr c7
   subst c7
   rw [if_neg (show ¬ (false = true) by decide)] at H
   simp only [Option.some.injEq, Prod.mk.injEq] at H
   obtain ⟨rfl, rfl, rfl⟩ := H
   go_enter Try.func26, Try.ntmps26
  rotate_right 1
 rotate_left 2
 focus
  replace c5 := Bool.eq_false_iff.mpr c5
  subst c5
  rw [if_neg (show ¬ (false = true) by decide)] at H
  simp only [Option.some.injEq, Prod.mk.injEq] at H
  obtain ⟨rfl, rfl, rfl⟩ := H
  go_enter Try.func26, Try.ntmps26
 rotate_right 2
 all_goals go_wp2_with (first | ((with_reducible refine gate_dst (N := 2) rfl ?_); refine bx_ (N := 2) (cs := #[.string a0_0, .slice A0_1 l0_1.length c0_1]) (t := 30) (h := ?_); intro gb221 hg w8 hbox hb; have n2_ := mk0 (gz_ HB hg); have n3_ := mk0 (gz_ HB hg); replace HB := mk0 (bt_ (b_ HB) hb); have BK221 := mk0 (hbox); have GW221 := n2_; have GE221 := n3_; clear n2_ n3_; clear hb hbox hg) | ((with_reducible refine gate_dst (N := 3) rfl ?_); refine bx_ (N := 3) (cs := #[.int .i64 a1_0, .string a1_1, .bool a1_2]) (t := 39) (h := ?_); intro gb222 hg w9 hbox hb; have n3_ := mk0 (gz_ HB hg); have n4_ := mk0 (gz_ HB hg); have n5_ := mk0 (ne1_ BK221 hg); have n6_ := mk0 (ne2_ BK221 hg); replace BK221 := mk0 (u_ BK221 hb); replace HB := mk0 (bt_ (b_ HB) hb); have BK222 := mk0 (hbox); have GW222 := n3_; have GE222 := n4_; have NB221_222 := n5_; have NB222_221 := n6_; clear n3_ n4_ n5_ n6_; clear hb hbox hg) | ((with_reducible refine gate_dst (N := 4) rfl ?_); refine bx_ (N := 4) (cs := #[.string (⟨#[]⟩ : ByteArray), .slice none 0 0]) (t := 30) (h := ?_); intro gb223 hg w10 hbox hb; have n4_ := mk0 (gz_ HB hg); have n5_ := mk0 (gz_ HB hg); have n6_ := mk0 (ne1_ BK221 hg); have n7_ := mk0 (ne2_ BK221 hg); have n8_ := mk0 (ne1_ BK222 hg); have n9_ := mk0 (ne2_ BK222 hg); replace BK221 := mk0 (u_ BK221 hb); replace BK222 := mk0 (u_ BK222 hb); replace HB := mk0 (bt_ (b_ HB) hb); have BK223 := mk0 (hbox); have GW223 := n4_; have GE223 := n5_; have NB221_223 := n6_; have NB223_221 := n7_; have NB222_223 := n8_; have NB223_222 := n9_; clear n4_ n5_ n6_ n7_ n8_ n9_ hb hbox hg; have hnb11 := NB221_222.out; have hnc11 := NB222_221.out; have hnb12 := NB221_223.out; have hnc12 := NB223_221.out; obtain ⟨hcz13_0, hcz13_1, hfz13_0, hfz13_1⟩ := c2_ BK221; have hnb14 := NB222_223.out; have hnc14 := NB223_222.out; obtain ⟨hcz15_0, hcz15_1, hcz15_2, hfz15_0, hfz15_1, hfz15_2⟩ := c3_ BK222) | ((with_reducible refine gate_callee (f := 66) rfl ?_); refine gL_ (some 9) Try.func66 #[.agg #[.string a0_0, .slice A0_1 l0_1.length c0_1], .agg #[.int .i64 a1_0, .string a1_1, .bool a1_2]] (h := ?_); (with_reducible refine (chain_With.calls a0_0 _ _ l0_1 a1_0 a1_1 a1_2 t224 t225 _ ?side1 ?side2 A3.out).mono ?_); (case side1 => exact cb_ HR0_1 HB); (case side2 => exact HC0_1.out); rintro e w16 ⟨v226, rfl, ho0, hb⟩; refine ⟨_, rfl, ?_⟩; have n0_ := mk0 (Kd.R_lower (Kd.R_newB ho0 (g := gb222) (o := .cells #[.int .i64 a1_0, .string a1_1, .bool a1_2] 39 (0, 0)) (h_ BK222)) (bz_ (b_ HB))); replace BK221 := mk0 (u_ BK221 hb); replace BK222 := mk0 (u_ BK222 hb); replace BK223 := mk0 (blk_below (g := gb223) (o := .cells #[.string (⟨#[]⟩ : ByteArray), .slice none 0 0] 30 (0, 0)) (h_ BK223) hb); replace HB := mk0 (bt_ (b_ HB) hb); have HO227 := n0_; clear n0_; (try clear hb); (try clear ho0)) | ((with_reducible refine gate_dst (N := 6) rfl ?_); refine bx_ (N := 6) (cs := #[.string (⟨#[]⟩ : ByteArray), .slice none 0 0]) (t := 30) (h := ?_); intro gb228 hg w17 hbox hb; have n6_ := mk0 (gz_ HB hg); have n7_ := mk0 (gz_ HB hg); have n8_ := mk0 (ne1_ BK221 hg); have n9_ := mk0 (ne2_ BK221 hg); have n10_ := mk0 (ne1_ BK222 hg); have n11_ := mk0 (ne2_ BK222 hg); have n12_ := mk0 ((by rw [hg]; exact Nat.ne_of_lt (blk_lt (g := gb223) (o := .cells #[.string (⟨#[]⟩ : ByteArray), .slice none 0 0] 30 (0, 0)) (h_ BK223)) : gb223 ≠ gb228)); have n13_ := mk0 ((by rw [hg]; exact Nat.ne_of_gt (blk_lt (g := gb223) (o := .cells #[.string (⟨#[]⟩ : ByteArray), .slice none 0 0] 30 (0, 0)) (h_ BK223)) : gb228 ≠ gb223)); replace HO227 := mk0 (Kd.R_below (r_ HO227) hb); replace BK221 := mk0 (u_ BK221 hb); replace BK222 := mk0 (u_ BK222 hb); replace BK223 := mk0 (blk_below (g := gb223) (o := .cells #[.string (⟨#[]⟩ : ByteArray), .slice none 0 0] 30 (0, 0)) (h_ BK223) hb); replace HB := mk0 (bt_ (b_ HB) hb); have BK228 := mk0 (hbox); have GW228 := n6_; have GE228 := n7_; have NB221_228 := n8_; have NB228_221 := n9_; have NB222_228 := n10_; have NB228_222 := n11_; have NB223_228 := n12_; have NB228_223 := n13_; clear n6_ n7_ n8_ n9_ n10_ n11_ n12_ n13_ hb hbox hg; have hnb18 := NB228_221.out; have hnc18 := NB221_228.out; have hnb19 := NB228_222.out; have hnc19 := NB222_228.out; have hnb20 := NB228_223.out; have hnc20 := NB223_228.out; obtain ⟨hcz21_0, hcz21_1, hfz21_0, hfz21_1⟩ := c2_ BK228; obtain ⟨Ao22, co22, eo22⟩ := Kd.R_slice HO227.out; subst eo22; obtain ⟨hcz23_0, hcz23_1, hfz23_0, hfz23_1⟩ := c2_ BK221) | ((with_reducible refine gate_callee (f := 61) rfl ?_); refine gL_ (some 11) Try.func61 #[.agg #[.string a0_0, .slice A0_1 l0_1.length c0_1]] (h := ?_); (with_reducible refine (chain_May.calls k a0_0 _ _ l0_1 true _ ?side1 ?side2 A4.out).mono ?_); (case side1 => exact Kd.C_below HR0_1.out (b_ HB)); (case side2 => exact HC0_1.out); rintro e w24 ⟨rfl, hb⟩; refine ⟨_, rfl, ?_⟩; have n0_ := mk0 (Kd.R_below (r2_ (Kd.R_mono (Kd.R_far (p := ⟨gb228, 1, none⟩) (Kd.R_far (p := ⟨gb228, 0, none⟩) (Kd.R_types HO227.out BK228.out (by decide)) (fun _ hk => hk.2) (.string t224)) (fun _ hk => hk.2) (.slice Ao22 t225.length co22)) (fun _ h_ => h_.1))) hb); replace BK221 := mk0 (blk_below (g := gb221) (o := .cells #[.string a0_0, .slice A0_1 l0_1.length c0_1] 30 (0, 0)) (fa_ (fa_ (h_ BK221) NB221_228.out) NB221_228.out) hb); replace BK222 := mk0 (blk_below (g := gb222) (o := .cells #[.int .i64 a1_0, .string a1_1, .bool a1_2] 39 (0, 0)) (fa_ (fa_ (h_ BK222) NB222_228.out) NB222_228.out) hb); replace BK223 := mk0 (blk_below (g := gb223) (o := .cells #[.string (⟨#[]⟩ : ByteArray), .slice none 0 0] 30 (0, 0)) (fa_ (fa_ (h_ BK223) NB223_228.out) NB223_228.out) hb); replace BK228 := mk0 (blk_below (g := gb228) (o := .cells #[.string t224, .slice Ao22 t225.length co22] 30 (0, 0)) (pu_ (cs := #[.string t224, .slice none 0 0]) (pu_ (cs := #[.string (⟨#[]⟩ : ByteArray), .slice none 0 0]) (h_ BK228))) hb); replace HB := mk0 (bt_ (b_ HB) hb); clear HO227; have HO227 := n0_; clear n0_; (try clear hb); obtain ⟨hcz25_0, hcz25_1, hfz25_0, hfz25_1⟩ := c2_ BK228; (try obtain ⟨hcz66_0, hcz66_1, hfz66_0, hfz66_1⟩ := c2_ BK223)) | (go_at_call 61; (with_reducible refine (chain_May.calls k t224 _ _ t225 true _ ?side1 ?side2 A6.out).mono ?_); (case side1 => exact cr_ HO227); (case side2 => exact (Kd.R_reads' HO227.out).2.1); rintro e w26 ⟨rfl, hb⟩; replace HO227 := mk0 (Kd.R_below (r_ HO227) hb); replace BK221 := mk0 (u_ BK221 hb); replace BK222 := mk0 (u_ BK222 hb); replace BK223 := mk0 (blk_below (g := gb223) (o := .cells #[.string (⟨#[]⟩ : ByteArray), .slice none 0 0] 30 (0, 0)) (h_ BK223) hb); replace BK228 := mk0 (u_ BK228 hb); replace HB := mk0 (bt_ (b_ HB) hb); (try clear hb); obtain ⟨hcz27_0, hcz27_1, hfz27_0, hfz27_1⟩ := c2_ BK228; obtain ⟨hcz28_0, hcz28_1, hfz28_0, hfz28_1⟩ := c2_ BK223) | ((with_reducible refine gate_callee (f := 61) rfl ?_); refine gL_ (some 11) Try.func61 #[.agg #[.string a0_0, .slice A0_1 l0_1.length c0_1]] (h := ?_); (with_reducible refine (chain_May.calls k a0_0 _ _ l0_1 true _ ?side1 ?side2 A4.out).mono ?_); (case side1 => exact Kd.C_below HR0_1.out (b_ HB)); (case side2 => exact HC0_1.out); rintro e w45 ⟨rfl, hb⟩; refine ⟨_, rfl, ?_⟩; have n0_ := mk0 (Kd.R_below (r2_ (Kd.R_mono (Kd.R_far (p := ⟨gb228, 1, none⟩) (Kd.R_far (p := ⟨gb228, 0, none⟩) (Kd.R_types HO227.out BK228.out (by decide)) (fun _ hk => hk.2) (.string t224)) (fun _ hk => hk.2) (.slice Ao22 t225.length co22)) (fun _ h_ => h_.1))) hb); replace BK221 := mk0 (blk_below (g := gb221) (o := .cells #[.string a0_0, .slice A0_1 l0_1.length c0_1] 30 (0, 0)) (fa_ (fa_ (h_ BK221) NB221_228.out) NB221_228.out) hb); replace BK222 := mk0 (blk_below (g := gb222) (o := .cells #[.int .i64 a1_0, .string a1_1, .bool a1_2] 39 (0, 0)) (fa_ (fa_ (h_ BK222) NB222_228.out) NB222_228.out) hb); replace BK223 := mk0 (blk_below (g := gb223) (o := .cells #[.string (⟨#[]⟩ : ByteArray), .slice none 0 0] 30 (0, 0)) (fa_ (fa_ (h_ BK223) NB223_228.out) NB223_228.out) hb); replace BK228 := mk0 (blk_below (g := gb228) (o := .cells #[.string t224, .slice Ao22 t225.length co22] 30 (0, 0)) (pu_ (cs := #[.string t224, .slice none 0 0]) (pu_ (cs := #[.string (⟨#[]⟩ : ByteArray), .slice none 0 0]) (h_ BK228))) hb); replace HB := mk0 (bt_ (b_ HB) hb); clear HO227; have HO227 := n0_; clear n0_; (try clear hb); obtain ⟨hcz46_0, hcz46_1, hfz46_0, hfz46_1⟩ := c2_ BK228; (try obtain ⟨hcz66_0, hcz66_1, hfz66_0, hfz66_1⟩ := c2_ BK223)) | (go_at_call 61; (with_reducible refine (chain_May.calls k t224 _ _ t225 false _ ?side1 ?side2 A6.out).mono ?_); (case side1 => exact cr_ HO227); (case side2 => exact (Kd.R_reads' HO227.out).2.1); rintro e w47 ⟨rfl, hb⟩; replace HO227 := mk0 (Kd.R_below (r_ HO227) hb); replace BK221 := mk0 (u_ BK221 hb); replace BK222 := mk0 (u_ BK222 hb); replace BK223 := mk0 (blk_below (g := gb223) (o := .cells #[.string (⟨#[]⟩ : ByteArray), .slice none 0 0] 30 (0, 0)) (h_ BK223) hb); replace BK228 := mk0 (u_ BK228 hb); replace HB := mk0 (bt_ (b_ HB) hb); (try clear hb); obtain ⟨hcz48_0, hcz48_1, hfz48_0, hfz48_1⟩ := c2_ BK223) | ((with_reducible refine gate_callee (f := 61) rfl ?_); refine gL_ (some 11) Try.func61 #[.agg #[.string a0_0, .slice A0_1 l0_1.length c0_1]] (h := ?_); (with_reducible refine (chain_May.calls k a0_0 _ _ l0_1 false _ ?side1 ?side2 A4.out).mono ?_); (case side1 => exact Kd.C_below HR0_1.out (b_ HB)); (case side2 => exact HC0_1.out); rintro e w65 ⟨rfl, hb⟩; refine ⟨_, rfl, ?_⟩; have n0_ := mk0 (Kd.R_below (r2_ (Kd.R_mono (Kd.R_far (p := ⟨gb228, 1, none⟩) (Kd.R_far (p := ⟨gb228, 0, none⟩) (Kd.R_types HO227.out BK228.out (by decide)) (fun _ hk => hk.2) (.string t224)) (fun _ hk => hk.2) (.slice Ao22 t225.length co22)) (fun _ h_ => h_.1))) hb); replace BK221 := mk0 (blk_below (g := gb221) (o := .cells #[.string a0_0, .slice A0_1 l0_1.length c0_1] 30 (0, 0)) (fa_ (fa_ (h_ BK221) NB221_228.out) NB221_228.out) hb); replace BK222 := mk0 (blk_below (g := gb222) (o := .cells #[.int .i64 a1_0, .string a1_1, .bool a1_2] 39 (0, 0)) (fa_ (fa_ (h_ BK222) NB222_228.out) NB222_228.out) hb); replace BK223 := mk0 (blk_below (g := gb223) (o := .cells #[.string (⟨#[]⟩ : ByteArray), .slice none 0 0] 30 (0, 0)) (fa_ (fa_ (h_ BK223) NB223_228.out) NB223_228.out) hb); replace BK228 := mk0 (blk_below (g := gb228) (o := .cells #[.string t224, .slice Ao22 t225.length co22] 30 (0, 0)) (pu_ (cs := #[.string t224, .slice none 0 0]) (pu_ (cs := #[.string (⟨#[]⟩ : ByteArray), .slice none 0 0]) (h_ BK228))) hb); replace HB := mk0 (bt_ (b_ HB) hb); clear HO227; have HO227 := n0_; clear n0_; (try clear hb); obtain ⟨hcz66_0, hcz66_1, hfz66_0, hfz66_1⟩ := c2_ BK223; (try obtain ⟨hcz25_0, hcz25_1, hfz25_0, hfz25_1⟩ := c2_ BK228)))
 ·refine bodyPost_ret (results_ct rfl _ _ gb223 30 #[.string t224, .slice Ao22 t225.length co22] (0, 0) _ rfl (pu_ (cs := #[.string t224, .slice none 0 0]) (pu_ (cs := #[.string (⟨#[]⟩ : ByteArray), .slice none 0 0]) (h_ BK223))) Try.underlying30 rfl (by kernel_rfl)) rfl ?_
  exact ⟨_, by first | rfl | (simp [errW_none, errW_some] <;> rfl) | (simp [*, errW_none, errW_some] <;> rfl), by (with_reducible repeat (first | apply Ra_ | apply Rn_ | apply Rd_)); exact Kd.R_mono (Kd.R_far (p := ⟨gb223, 1, none⟩) (Kd.R_far (p := ⟨gb223, 0, none⟩) (Kd.R_types HO227.out BK223.out (by decide)) (fun _ hk => hk.2) (.string t224)) (fun _ hk => hk.2) (.slice Ao22 t225.length co22)) (fun _ hk => trivial), b_ HB⟩
 ·refine bodyPost_ret (results_ct rfl _ _ gb223 30 #[.string (⟨#[]⟩ : ByteArray), .slice none 0 0] (0, 0) _ rfl (pu_ (cs := #[.string (⟨#[]⟩ : ByteArray), .slice none 0 0]) (pu_ (cs := #[.string (⟨#[]⟩ : ByteArray), .slice none 0 0]) (h_ BK223))) Try.underlying30 rfl (by kernel_rfl)) rfl ?_
  exact ⟨_, by first | rfl | (simp [errW_none, errW_some] <;> rfl) | (simp [*, errW_none, errW_some] <;> rfl), by first | exact Kd.R_nil _ _ _ _ _ | exact Kd.N_nil _ _ _ _ _ | exact Kd.V_nil _ _ _ _ _ | exact Kd.Q_nil _ _ _ _ _ | exact Kd.S_nil _ _ _ _ _, b_ HB⟩
 ·refine bodyPost_ret (results_ct rfl _ _ gb223 30 #[.string (⟨#[]⟩ : ByteArray), .slice none 0 0] (0, 0) _ rfl (pu_ (cs := #[.string (⟨#[]⟩ : ByteArray), .slice none 0 0]) (pu_ (cs := #[.string (⟨#[]⟩ : ByteArray), .slice none 0 0]) (h_ BK223))) Try.underlying30 rfl (by kernel_rfl)) rfl ?_
  exact ⟨_, by first | rfl | (simp [errW_none, errW_some] <;> rfl) | (simp [*, errW_none, errW_some] <;> rfl), by first | exact Kd.R_nil _ _ _ _ _ | exact Kd.N_nil _ _ _ _ _ | exact Kd.V_nil _ _ _ _ _ | exact Kd.Q_nil _ _ _ _ _ | exact Kd.S_nil _ _ _ _ _, b_ HB⟩

/-! ### quorumref8_Add: function 27 -/
def quorumref8_Add.f (k : Nat) (a0_0 : ByteArray) (l0_1 : List (S39)) (a1_0 : Int) (a1_1 : ByteArray) (a1_2 : Bool) : Option (ByteArray × (List (S39))) := (some (([(⟨a1_0, a1_1, a1_2⟩ : S39)] : List (S39)) : List (S39))).bind fun y234 => ((quorumref0_CopyVersions.f k l0_1).bind fun t237 => (if y234.length + t237.length < 4398046511104 then (some (a0_0, (y234 ++ t237))) else (none)))
theorem quorumref8_Add.mono : ∀ a0 a1 a2 a3 a4 k, LeO (quorumref8_Add.f k a0 a1 a2 a3 a4) (quorumref8_Add.f (k + 1) a0 a1 a2 a3 a4) := by
 intro a0 a1 a2 a3 a4 k
 unfold quorumref8_Add.f
 repeat' first
   | (with_reducible exact quorumref0_CopyVersions.mono _ _)
   | (with_reducible exact LeO.refl _)
   | (with_reducible exact LeO.none _)
   | (with_reducible refine LeO.ite ?_ ?_)
   | (with_reducible refine LeO.bind ?_ (fun _ => ?_))
   | exact quorumref0_CopyVersions.mono _ _
   | exact LeO.none _
   | refine LeO.ite ?_ ?_
   | refine LeO.bind ?_ (fun _ => ?_)
def quorumref8_Add.T1 : Bool × List (List Nat × List Nat) := (true, [([], []), ([0], [0]), ([], []), ([2], [2]), ([], []), ([4], [4]), ([5], [5]), ([3, 6, 6], [3, 6]), ([1, 7], [1, 7]), ([8, 7, 0, 1, 2, 3, 4, 5, 6, 7, 8], [8])])
def quorumref8_Add.B1 : List Nat := [0, 1, 0, 4, 0, 16, 48, 124, 255, 511]
theorem quorumref8_Add.tab1 : rtab .any (opsOf Try.f27 1) = quorumref8_Add.T1 := by kernel_rfl
theorem quorumref8_Add.bits1 : waitsOk quorumref8_Add.T1.2 quorumref8_Add.B1 = true := by kernel_rfl
set_option maxHeartbeats 8000000 in
set_option maxRecDepth 100000 in
theorem quorumref8_Add.calls (k : Nat) (a0_0 : ByteArray) (A0_1 : Option Addr) (c0_1 : Nat) (l0_1 : List (S39)) (a1_0 : Int) (a1_1 : ByteArray) (a1_2 : Bool) (r1 : ByteArray) (r2 : List (S39)) (w : World) (hr0_1 : Kd.C k39 w A0_1 l0_1.length l0_1) (hc0_1 : l0_1.length ≤ c0_1) (h : quorumref8_Add.f k a0_0 l0_1 a1_0 a1_1 a1_2 = some (r1, r2)) :
  Calls Try.prog 27 #[.agg #[.string a0_0, .slice A0_1 l0_1.length c0_1], .agg #[.int .i64 a1_0, .string a1_1, .bool a1_2]] w fun e w' => ∃ v1_ : Value, e = .returned (.agg #[.string r1, v1_]) ∧ Kd.R k39 39 w' w.heap.size (fun _ => True) v1_ r2 ∧ Below w.heap.size w w' := by
 have hu30 := Try.underlying30
 have hu39 := Try.underlying39
 have HR0_1 := mk0 hr0_1
 have HC0_1 := mk0 hc0_1
 clear hr0_1 hc0_1
 have HB := mk0 (Below.refl w.heap.size w)
 have H : ((some (([(⟨a1_0, a1_1, a1_2⟩ : S39)] : List (S39)) : List (S39))).bind fun y234 => ((quorumref0_CopyVersions.f k l0_1).bind fun t237 => (if y234.length + t237.length < 4398046511104 then (some (a0_0, (y234 ++ t237))) else (none)))) = some (r1, r2) := h
 clear h
 obtain ⟨y234, hy234⟩ : ∃ y_ : List (S39), y_ = (([(⟨a1_0, a1_1, a1_2⟩ : S39)] : List (S39))) := ⟨_, rfl⟩
 replace H : ((quorumref0_CopyVersions.f k l0_1).bind fun t237 => (if y234.length + t237.length < 4398046511104 then (some (a0_0, (y234 ++ t237))) else (none))) = some (r1, r2) := by first | (rw [hy234]; with_reducible exact H) | (have H2_ := (Option.bind_some _ _).symm.trans H; rw [hy234]; with_reducible exact H2_) | (have H2_ := (Option.bind_some _ _).symm.trans H; with_reducible exact H2_) | with_reducible exact H | (rw [hy234]; exact H) | exact H
 have Ny234 := mk0 hy234
 clear hy234
 replace H := Option.bind_eq_some_iff.mp H
 obtain ⟨t237, A30, H⟩ := H
 try dsimp only at H
 have A3 := mk0 A30
 clear A30
 by_cases c4 : y234.length + t237.length < 4398046511104
 ·rw [if_pos c4] at H
  have LMc4 := mk0 c4
  clear c4
  obtain ⟨y240, hy240⟩ : ∃ y_ : List (S39), y_ = (y234 ++ t237) := ⟨_, rfl⟩
  replace H : (some (a0_0, y240)) = some (r1, r2) := by first | (rw [hy240]; with_reducible exact H) | (have H2_ := (Option.bind_some _ _).symm.trans H; rw [hy240]; with_reducible exact H2_) | (have H2_ := (Option.bind_some _ _).symm.trans H; with_reducible exact H2_) | with_reducible exact H | (rw [hy240]; exact H) | exact H
  have Ny240 := mk0 hy240
  clear hy240
  simp only [Option.some.injEq, Prod.mk.injEq] at H
  obtain ⟨rfl, rfl⟩ := H
  go_enter Try.func27, Try.ntmps27
  try go_wp2_with (first | ((with_reducible refine gate_dst (N := 2) rfl ?_); refine bx_ (N := 2) (cs := #[.string a0_0, .slice A0_1 l0_1.length c0_1]) (t := 30) (h := ?_); intro gb231 hg w5 hbox hb; have n2_ := mk0 (gz_ HB hg); have n3_ := mk0 (gz_ HB hg); replace HB := mk0 (bt_ (b_ HB) hb); have BK231 := mk0 (hbox); have GW231 := n2_; have GE231 := n3_; clear n2_ n3_; clear hb hbox hg) | ((with_reducible refine gate_dst (N := 3) rfl ?_); refine bx_ (N := 3) (cs := #[.int .i64 a1_0, .string a1_1, .bool a1_2]) (t := 39) (h := ?_); intro gb232 hg w6 hbox hb; have n3_ := mk0 (gz_ HB hg); have n4_ := mk0 (gz_ HB hg); have n5_ := mk0 (ne1_ BK231 hg); have n6_ := mk0 (ne2_ BK231 hg); replace BK231 := mk0 (u_ BK231 hb); replace HB := mk0 (bt_ (b_ HB) hb); have BK232 := mk0 (hbox); have GW232 := n3_; have GE232 := n4_; have NB231_232 := n5_; have NB232_231 := n6_; clear n3_ n4_ n5_ n6_; clear hb hbox hg) | ((with_reducible refine gate_dst (N := 4) rfl ?_); refine bx_ (N := 4) (cs := #[.string (⟨#[]⟩ : ByteArray), .slice none 0 0]) (t := 30) (h := ?_); intro gb233 hg w7 hbox hb; have n4_ := mk0 (gz_ HB hg); have n5_ := mk0 (gz_ HB hg); have n6_ := mk0 (ne1_ BK231 hg); have n7_ := mk0 (ne2_ BK231 hg); have n8_ := mk0 (ne1_ BK232 hg); have n9_ := mk0 (ne2_ BK232 hg); replace BK231 := mk0 (u_ BK231 hb); replace BK232 := mk0 (u_ BK232 hb); replace HB := mk0 (bt_ (b_ HB) hb); have BK233 := mk0 (hbox); have GW233 := n4_; have GE233 := n5_; have NB231_233 := n6_; have NB233_231 := n7_; have NB232_233 := n8_; have NB233_232 := n9_; clear n4_ n5_ n6_ n7_ n8_ n9_; clear hb hbox hg))
  replace BK231 := mk0 (bD_ BK231.out)
  replace BK232 := mk0 (bD_ BK232.out)
  replace BK233 := mk0 (bD_ BK233.out)
  replace HB := mk0 (b1_ HB.out)
  refine start_ (n := 10) (S := fun w' => w'.cell? ⟨gb231, 0, none⟩ = some (.string a0_0) ∧ w'.cell? ⟨gb231, 1, none⟩ = some (.slice A0_1 l0_1.length c0_1) ∧ w'.cell? ⟨gb232, 0, none⟩ = some (.int .i64 a1_0) ∧ w'.cell? ⟨gb232, 1, none⟩ = some (.string a1_1) ∧ w'.cell? ⟨gb232, 2, none⟩ = some (.bool a1_2)) (ds := []) (bt 10 0) (by kernel_rfl) rfl rfl ⟨bk_ BK231 0, bk_ BK231 1, bk_ BK232 0, bk_ BK232 1, bk_ BK232 2⟩ (fun hHeld => ?_); refine with_tabW quorumref8_Add.tab1 quorumref8_Add.bits1 (fun HT_ HW_ => ?_)
  generalize w7.drew = w8 at BK231 BK232 BK233 HB hHeld ⊢
  refine pq_ HT_.out 0 5 (bt 10 1) (h := ?_)
  refine pq_ HT_.out 4 9 (bt 10 17) (h := ?_)
  refine tq5_ HT_.out HW_.out 1 6 (bt 10 19) hHeld (h := ?_)
  refine tq5_ HT_.out HW_.out 2 7 (bt 10 23) hHeld (h := ?_)
  refine tq5_ HT_.out HW_.out 5 10 (bt 10 55) hHeld (h := ?_)
  refine join_ (σ := Value × Value) 3 (bt 10 127) (fun s_ => [(8, s_.1), (11, s_.2)]) (fun s_ w' => (w'.cell? ⟨gb231, 0, none⟩ = some (.string a0_0) ∧ w'.cell? ⟨gb231, 1, none⟩ = some (.slice A0_1 l0_1.length c0_1) ∧ w'.cell? ⟨gb232, 0, none⟩ = some (.int .i64 a1_0) ∧ w'.cell? ⟨gb232, 1, none⟩ = some (.string a1_1) ∧ w'.cell? ⟨gb232, 2, none⟩ = some (.bool a1_2)) ∧ (Kd.R k39 39 w' w.heap.size (fun k_ => some k_ ≠ (s_.2 : Value).ownBlock ∧ k_ ≠ gb232) s_.1 y234) ∧ (Kd.R k39 39 w' w.heap.size (fun k_ => some k_ ≠ (s_.1 : Value).ownBlock ∧ k_ ≠ gb232) s_.2 t237) ∧ (w'.heap[gb231]? = some (.cells #[.string a0_0, .slice A0_1 l0_1.length c0_1] 30 (0, 0))) ∧ (w'.heap[gb232]? = some (.cells #[.int .i64 a1_0, .string a1_1, .bool a1_2] 39 (0, 0))) ∧ (w'.heap[gb233]? = some (.cells #[.string (⟨#[]⟩ : ByteArray), .slice none 0 0] 30 (0, 0))) ∧ (Below w.heap.size w w')) ?_ ?_
  rotate_left
  ·intro hCont
   refine two_ (i := 3) (j := 6) (Ni := some 8) (Nj := some 11) (bt 10 63) (bt 10 119) rfl rfl rfl rfl (two_of HT_.out (by kernel_rfl)) (by decide) (by decide) (fun K hK => ?_) (fun K hK => ?_)
   ·skip
    refine Kd.R_lit_step k39 _ 39 ?hg (N := 8) ?hd (xs := ([(⟨a1_0, a1_1, a1_2⟩ : S39)] : List (S39))) (inner := [.int .i64 a1_0, .string a1_1, .bool a1_2]) (ok := fun _ => True) (okp := fun _ => True) ?hr ?hp (fun _ hk => hk) trivial (Below.refl _ _) (Nat.le_refl _) (by simp) ?_; (case hd => rfl); (case hg => rfl); (case hr => first | (go_simp; done) | (go_simp; rfl)); (case hp => exact (Reps.c3 (show Kd.M k39 _ _ _ (⟨a1_0, a1_1, a1_2⟩ : S39) [.int .i64 a1_0, .string a1_1, .bool a1_2] from (k39_mkM _ _ _ (⟨a1_0, a1_1, a1_2⟩ : S39) )) (Reps.none _ _)))
    intro v235 w9 ho10 hb hg_ hnew_
    clear hg_ hnew_
    (first | rw [← Ny234.out] at ho10 | (simp only [Int.reduceToNat] at ho10; rw [← Ny234.out] at ho10))
    have n0_ := mk0 (Kd.R_lower (Kd.R_newB ho10 (g := gb232) (o := .cells #[.int .i64 a1_0, .string a1_1, .bool a1_2] 39 (0, 0)) (h_ BK232)) (bz_ (b_ HB)))
    replace BK231 := mk0 (u_ BK231 hb)
    replace BK232 := mk0 (u_ BK232 hb)
    replace BK233 := mk0 (blk_below (g := gb233) (o := .cells #[.string (⟨#[]⟩ : ByteArray), .slice none 0 0] 30 (0, 0)) (h_ BK233) hb)
    replace HB := mk0 (bt_ (b_ HB) hb)
    have HO236 := n0_
    clear n0_ hb ho10
    refine hK.out _ _ ⟨bk_ BK231 0, bk_ BK231 1, bk_ BK232 0, bk_ BK232 1, bk_ BK232 2⟩ (fun hHeld => ?_)
    clear hK K
    refine norm_ (a' := ?_) ?_ ?_
    rotate_left
    ·show Act.put _ (some 8) _ = _
     simp only [z_]
     rfl
    refine one_ (i := 6) (N := some 11) (bt 10 127) rfl rfl (one_of HT_.out (by kernel_rfl)) (by decide) (fun K hK => ?_)
    refine goes_ Try.func60 (by kernel_rfl) rfl #[.slice A0_1 l0_1.length c0_1] (by rfl) rfl rfl (by (try simp only [List.map_toArray, List.map_cons, List.map_nil]); first | done | rfl | (simp only [List.length_drop, List.length_take]; rfl)) ?_
    with_reducible refine (quorumref0_CopyVersions.calls k _ _ l0_1 t237 _ ?side1 ?side2 A3.out).mono ?_
    (case side1 => exact cb_ HR0_1 HB)
    (case side2 => exact HC0_1.out)
    rintro e w11 ⟨v238, rfl, ho0, hb⟩
    refine ⟨_, rfl, ?_⟩
    have n1_ := mk0 (Kd.R_lower (Kd.R_newB (Kd.R_new' ho0 (Kd.R_lt (r_ HO236))) (g := gb232) (o := .cells #[.int .i64 a1_0, .string a1_1, .bool a1_2] 39 (0, 0)) (h_ BK232)) (bz_ (b_ HB)))
    replace HO236 := mk0 (Kd.R_elder' (r_ HO236) (Kd.R_base ho0) hb)
    replace BK231 := mk0 (u_ BK231 hb)
    replace BK232 := mk0 (u_ BK232 hb)
    replace BK233 := mk0 (blk_below (g := gb233) (o := .cells #[.string (⟨#[]⟩ : ByteArray), .slice none 0 0] 30 (0, 0)) (h_ BK233) hb)
    replace HB := mk0 (bt_ (b_ HB) hb)
    have HO239 := n1_
    clear n1_
    (try clear hb)
    (try clear hb2)
    (try clear hk)
    (try clear hi)
    (try clear ho0)
    refine hK.out _ _ ⟨bk_ BK231 0, bk_ BK231 1, bk_ BK232 0, bk_ BK232 1, bk_ BK232 2⟩ (fun hHeld => ?_)
    clear hK K
    refine norm_ (a' := ?_) ?_ ?_
    rotate_left
    ·show Act.put _ (some 11) _ = _
     simp only [z_]
     rfl
    exact norm_ (by simp only [putAll, Act.put, List.setIfInBounds_toArray, List.set_cons_zero, List.set_cons_succ]) (hCont (v235, v238) _ ⟨hHeld, (r2_ (Kd.R_mono HO236.out (fun _ hk => ⟨hk.2, hk.1.2⟩))), (r2_ (Kd.R_mono HO239.out (fun _ hk => ⟨hk.1.2, hk.2⟩))), (h_ BK231), (h_ BK232), (h_ BK233), (b_ HB)⟩)
   ·skip
    refine goes_ Try.func60 (by kernel_rfl) rfl #[.slice A0_1 l0_1.length c0_1] (by rfl) rfl rfl (by (try simp only [List.map_toArray, List.map_cons, List.map_nil]); first | done | rfl | (simp only [List.length_drop, List.length_take]; rfl)) ?_
    with_reducible refine (quorumref0_CopyVersions.calls k _ _ l0_1 t237 _ ?side1 ?side2 A3.out).mono ?_
    (case side1 => exact cb_ HR0_1 HB)
    (case side2 => exact HC0_1.out)
    rintro e w9 ⟨v238, rfl, ho0, hb⟩
    refine ⟨_, rfl, ?_⟩
    have n0_ := mk0 (Kd.R_lower (Kd.R_newB ho0 (g := gb232) (o := .cells #[.int .i64 a1_0, .string a1_1, .bool a1_2] 39 (0, 0)) (h_ BK232)) (bz_ (b_ HB)))
    replace BK231 := mk0 (u_ BK231 hb)
    replace BK232 := mk0 (u_ BK232 hb)
    replace BK233 := mk0 (blk_below (g := gb233) (o := .cells #[.string (⟨#[]⟩ : ByteArray), .slice none 0 0] 30 (0, 0)) (h_ BK233) hb)
    replace HB := mk0 (bt_ (b_ HB) hb)
    have HO239 := n0_
    clear n0_
    (try clear hb)
    (try clear hb2)
    (try clear hk)
    (try clear hi)
    (try clear ho0)
    refine hK.out _ _ ⟨bk_ BK231 0, bk_ BK231 1, bk_ BK232 0, bk_ BK232 1, bk_ BK232 2⟩ (fun hHeld => ?_)
    clear hK K
    refine norm_ (a' := ?_) ?_ ?_
    rotate_left
    ·show Act.put _ (some 11) _ = _
     simp only [z_]
     rfl
    refine one_ (i := 3) (N := some 8) (bt 10 127) rfl rfl (one_of HT_.out (by kernel_rfl)) (by decide) (fun K hK => ?_)
    refine Kd.R_lit_step k39 _ 39 ?hg (N := 8) ?hd (xs := ([(⟨a1_0, a1_1, a1_2⟩ : S39)] : List (S39))) (inner := [.int .i64 a1_0, .string a1_1, .bool a1_2]) (ok := fun _ => True) (okp := fun _ => True) ?hr ?hp (fun _ hk => hk) trivial (Below.refl _ _) (Nat.le_refl _) (by simp) ?_; (case hd => rfl); (case hg => rfl); (case hr => first | (go_simp; done) | (go_simp; rfl)); (case hp => exact (Reps.c3 (show Kd.M k39 _ _ _ (⟨a1_0, a1_1, a1_2⟩ : S39) [.int .i64 a1_0, .string a1_1, .bool a1_2] from (k39_mkM _ _ _ (⟨a1_0, a1_1, a1_2⟩ : S39) )) (Reps.none _ _)))
    intro v235 w10 ho11 hb hg_ hnew_
    clear hg_ hnew_
    (first | rw [← Ny234.out] at ho11 | (simp only [Int.reduceToNat] at ho11; rw [← Ny234.out] at ho11))
    have n1_ := mk0 (Kd.R_lower (Kd.R_newB (Kd.R_new' ho11 (Kd.R_lt (r_ HO239))) (g := gb232) (o := .cells #[.int .i64 a1_0, .string a1_1, .bool a1_2] 39 (0, 0)) (h_ BK232)) (bz_ (b_ HB)))
    replace HO239 := mk0 (Kd.R_elder' (r_ HO239) (Kd.R_base ho11) hb)
    replace BK231 := mk0 (u_ BK231 hb)
    replace BK232 := mk0 (u_ BK232 hb)
    replace BK233 := mk0 (blk_below (g := gb233) (o := .cells #[.string (⟨#[]⟩ : ByteArray), .slice none 0 0] 30 (0, 0)) (h_ BK233) hb)
    replace HB := mk0 (bt_ (b_ HB) hb)
    have HO236 := n1_
    clear n1_ hb ho11
    refine hK.out _ _ ⟨bk_ BK231 0, bk_ BK231 1, bk_ BK232 0, bk_ BK232 1, bk_ BK232 2⟩ (fun hHeld => ?_)
    clear hK K
    refine norm_ (a' := ?_) ?_ ?_
    rotate_left
    ·show Act.put _ (some 8) _ = _
     simp only [z_]
     rfl
    exact norm_ (by simp only [putAll, Act.put, List.setIfInBounds_toArray, List.set_cons_zero, List.set_cons_succ]) (hCont (v235, v238) _ ⟨hHeld, (r2_ (Kd.R_mono HO236.out (fun _ hk => ⟨hk.1.2, hk.2⟩))), (r2_ (Kd.R_mono HO239.out (fun _ hk => ⟨hk.2, hk.1.2⟩))), (h_ BK231), (h_ BK232), (h_ BK233), (b_ HB)⟩)
  rintro ⟨v235, v238⟩ w12 ⟨hS_, h0_, h1_, h2_, h3_, h4_, h5_⟩
  have n0_ : Fc (Kd.R k39 39 w12 w.heap.size (fun k_ => some k_ ≠ (v238 : Value).ownBlock ∧ k_ ≠ gb232) v235 y234) := ⟨h0_⟩
  have n1_ : Fc (Kd.R k39 39 w12 w.heap.size (fun k_ => some k_ ≠ (v235 : Value).ownBlock ∧ k_ ≠ gb232) v238 t237) := ⟨h1_⟩
  have n2_ : Fc (w12.heap[gb231]? = some (.cells #[.string a0_0, .slice A0_1 l0_1.length c0_1] 30 (0, 0))) := ⟨h2_⟩
  have n3_ : Fc (w12.heap[gb232]? = some (.cells #[.int .i64 a1_0, .string a1_1, .bool a1_2] 39 (0, 0))) := ⟨h3_⟩
  have n4_ : Fc (w12.heap[gb233]? = some (.cells #[.string (⟨#[]⟩ : ByteArray), .slice none 0 0] 30 (0, 0))) := ⟨h4_⟩
  have n5_ : Fc (Below w.heap.size w w12) := ⟨h5_⟩
  clear BK231 BK232 BK233 HB h0_ h1_ h2_ h3_ h4_ h5_
  have HO236 := n0_
  have HO239 := n1_
  have BK231 := n2_
  have BK232 := n3_
  have BK233 := n4_
  have HB := n5_
  clear n0_ n1_ n2_ n3_ n4_ n5_
  have hHeld : w12.cell? ⟨gb231, 0, none⟩ = some (.string a0_0) ∧ w12.cell? ⟨gb231, 1, none⟩ = some (.slice A0_1 l0_1.length c0_1) ∧ w12.cell? ⟨gb232, 0, none⟩ = some (.int .i64 a1_0) ∧ w12.cell? ⟨gb232, 1, none⟩ = some (.string a1_1) ∧ w12.cell? ⟨gb232, 2, none⟩ = some (.bool a1_2) := hS_
  obtain ⟨Ao14, co14, eo14⟩ := Kd.R_slice HO239.out
  (first | subst eo14 | (injection eo14 with f1_ f2_ f3_; have f4_ := f1_.symm; have f5_ := f3_.symm; clear f1_ f2_ f3_; subst f4_; subst f5_))
  refine norm_ (a' := ?_) ?_ ?_
  rotate_left
  ·simp only [putAll, Act.put, List.setIfInBounds_toArray, List.set_cons_zero, List.set_cons_succ]
   rfl
  refine one_ (i := 7) (N := some 12) (bt 10 255) rfl rfl (one_of HT_.out (by kernel_rfl)) (by decide) (fun K hK => ?_)
  refine Kd.R_append_rows_step k39 (w0 := w) w.heap.size (by rfl) (.tmp 8) (.tmp 11) 23 39 (.agg #[(.int .i64 0), (.string ⟨#[]⟩), (.bool false)]) 32 rfl Try.underlying23 info39 rfl (by decide) (by omega) v235 y234 t237 _ _ _ (fun k_ => some k_ ≠ (.slice Ao14 t237.length co14 : Value).ownBlock ∧ k_ ≠ gb232) (fun _ => False) rfl rfl ?aO ?aR (fun _ _ h => h) (fun _ h => h.elim) ?aF ?aB ?aS ?aL ?_
  (case aR => repeat (first | exact (Kd.R_reads' HO239.out).2.2 | (with_reducible refine Kd.C_alloc ?_ _) | (with_reducible refine Kd.C_drewN ?_ _) | (with_reducible refine Kd.C_drew ?_)))
  (case aB => exact (b_ HB))
  (case aF => exact (fun k_ hk => ⟨Kd.fresh' (Kd.R_lt (r_ HO239)) k_ hk, Kd.freshB (g := gb232) (o := .cells #[.int .i64 a1_0, .string a1_1, .bool a1_2] 39 (0, 0)) (h_ BK232) k_ hk⟩))
  (case aO => exact (r_ HO236))
  (case aS => exact (bz_ (b_ HB)))
  (case aL => have := LMc4.out; omega)
  intro v241 w13 ho hb hg hat
  rw [← Ny240.out] at ho
  replace BK231 := mk0 (blk_grown (g := gb231) (o := .cells #[.string a0_0, .slice A0_1 l0_1.length c0_1] 30 (0, 0)) (h_ BK231) hg (Kd.R_ne HO236.out BK231.out (by decide)))
  replace BK232 := mk0 (blk_grown (g := gb232) (o := .cells #[.int .i64 a1_0, .string a1_1, .bool a1_2] 39 (0, 0)) (h_ BK232) hg (Kd.R_away HO236.out (fun _ hk => hk.2)))
  replace BK233 := mk0 (blk_grown (g := gb233) (o := .cells #[.string (⟨#[]⟩ : ByteArray), .slice none 0 0] 30 (0, 0)) (h_ BK233) hg (Kd.R_ne HO236.out BK233.out (by decide)))
  replace HO239 := mk0 (Kd.R_after (ok := (fun k_ => k_ ≠ gb232)) (r2_ (Kd.R_mono HO239.out (fun _ hk => ⟨hk.2, hk.1⟩))) hg hat)
  replace HB := mk0 (hb)
  have HO242 := mk0 (ho)
  clear HO236
  clear ho hb hg hat
  obtain ⟨Ao15, co15, eo15⟩ := Kd.R_slice HO242.out
  (first | subst eo15 | (injection eo15 with f1_ f2_ f3_; have f4_ := f1_.symm; have f5_ := f3_.symm; clear f1_ f2_ f3_; subst f4_; subst f5_))
  refine hK.out _ _ ⟨bk_ BK231 0, bk_ BK231 1, bk_ BK232 0, bk_ BK232 1, bk_ BK232 2⟩ (fun hHeld => ?_)
  clear hK K
  refine norm_ (a' := ?_) ?_ ?_
  rotate_left
  ·show Act.put _ (some 12) _ = _
   simp only [z_]
   rfl
  refine pq_ HT_.out 8 13 (bt 10 511) (h := ?_)
  refine one_ (i := 9) (N := none) (bt 10 1023) rfl rfl (one_of HT_.out (by kernel_rfl)) (by decide) (fun K hK => ?_)
  have hs16 : w13.cell? ⟨gb233, 0, none⟩ = some (.string (⟨#[]⟩ : ByteArray)) := bk_ BK233 0
  have hfs16 := blk_frozen BK233.out 0
  have hns16_0 := NB231_233.out
  have hns16_1 := NB232_233.out
  have hms16_0 := NB233_231.out
  have hms16_1 := NB233_232.out
  have hs17 : w13.cell? ⟨gb233, 1, none⟩ = some (.slice none 0 0) := bk_ BK233 1
  have hfs17 := blk_frozen BK233.out 1
  have hns17_0 := NB231_233.out
  have hns17_1 := NB232_233.out
  have hms17_0 := NB233_231.out
  have hms17_1 := NB233_232.out
  refine skip_ (w1 := ?_) (by rfl) rfl ?_ ?_
  rotate_left
  ·go_simp
   rfl
  refine hK.out _ _ ⟨(cf_ NB231_233.out (cf_ NB231_233.out hHeld.1)), (cf_ NB231_233.out (cf_ NB231_233.out hHeld.2.1)), (cf_ NB232_233.out (cf_ NB232_233.out hHeld.2.2.1)), (cf_ NB232_233.out (cf_ NB232_233.out hHeld.2.2.2.1)), (cf_ NB232_233.out (cf_ NB232_233.out hHeld.2.2.2.2))⟩ (fun hHeld => ?_)
  clear hK K
  refine done_ (done_of HT_.out (by kernel_rfl)) ?_
  try go_wp2
  refine bodyPost_ret (results_cell_row rfl _ _ gb233 30 #[.string a0_0, .slice Ao15 y240.length co15] (0, 0) _ rfl (pu_ (cs := #[.string a0_0, .slice none 0 0]) (pu_ (cs := #[.string (⟨#[]⟩ : ByteArray), .slice none 0 0]) (h_ BK233))) Try.underlying30 rfl (by kernel_rfl)) rfl ?_
  exact ⟨_, by first | rfl | (simp [errW_none, errW_some] <;> rfl) | (simp [*, errW_none, errW_some] <;> rfl), by (with_reducible repeat (first | apply Ra_ | apply Rn_ | apply Rd_)); exact Kd.R_mono (Kd.R_far (p := ⟨gb233, 1, none⟩) (Kd.R_far (p := ⟨gb233, 0, none⟩) (Kd.R_types HO242.out BK233.out (by decide)) (fun _ hk => hk.2) (.string a0_0)) (fun _ hk => hk.2) (.slice Ao15 y240.length co15)) (fun _ hk => trivial), b_ HB⟩
 ·rw [if_neg c4] at H
  exact absurd H (by simp)

/-! ### chain_New: function 28 -/
def chain_New.f (k : Nat) (a0 : ByteArray) (a1_0 : Int) (a1_1 : ByteArray) (a1_2 : Bool) : Option (ByteArray × (List (S39)) × Int) := (some (([(⟨a1_0, a1_1, a1_2⟩ : S39)] : List (S39)) : List (S39))).bind fun y245 => ((chain_May.f k a0 y245).bind fun t249 => (if t249 = true then (some (a0, y245, 0)) else (some ((⟨#[]⟩ : ByteArray), ([] : List (S39)), 1))))
theorem chain_New.mono : ∀ a0 a1 a2 a3 k, LeO (chain_New.f k a0 a1 a2 a3) (chain_New.f (k + 1) a0 a1 a2 a3) := by
 intro a0 a1 a2 a3 k
 unfold chain_New.f
 repeat' first
   | (with_reducible exact chain_May.mono _ _ _)
   | (with_reducible exact LeO.refl _)
   | (with_reducible exact LeO.none _)
   | (with_reducible refine LeO.ite ?_ ?_)
   | (with_reducible refine LeO.bind ?_ (fun _ => ?_))
   | exact chain_May.mono _ _ _
   | exact LeO.none _
   | refine LeO.ite ?_ ?_
   | refine LeO.bind ?_ (fun _ => ?_)
set_option maxHeartbeats 8000000 in
set_option maxRecDepth 100000 in
theorem chain_New.calls (k : Nat) (a0 : ByteArray) (a1_0 : Int) (a1_1 : ByteArray) (a1_2 : Bool) (r1 : ByteArray) (r2 : List (S39)) (r3 : Int) (w : World) (h : chain_New.f k a0 a1_0 a1_1 a1_2 = some (r1, r2, r3)) :
  Calls Try.prog 28 #[.string a0, .agg #[.int .i64 a1_0, .string a1_1, .bool a1_2]] w fun e w' => ∃ v1_ : Value, e = .returned (.tuple #[.agg #[.string r1, v1_], .int .i64 r3]) ∧ Kd.R k39 39 w' w.heap.size (fun _ => True) v1_ r2 ∧ Below w.heap.size w w' := by
 have hu39 := Try.underlying39
 have hu30 := Try.underlying30
 have HB := mk0 (Below.refl w.heap.size w)
 have H : ((some (([(⟨a1_0, a1_1, a1_2⟩ : S39)] : List (S39)) : List (S39))).bind fun y245 => ((chain_May.f k a0 y245).bind fun t249 => (if t249 = true then (some (a0, y245, 0)) else (some ((⟨#[]⟩ : ByteArray), ([] : List (S39)), 1))))) = some (r1, r2, r3) := h
 clear h
 obtain ⟨y245, hy245⟩ : ∃ y_ : List (S39), y_ = (([(⟨a1_0, a1_1, a1_2⟩ : S39)] : List (S39))) := ⟨_, rfl⟩
 replace H : ((chain_May.f k a0 y245).bind fun t249 => (if t249 = true then (some (a0, y245, 0)) else (some ((⟨#[]⟩ : ByteArray), ([] : List (S39)), 1)))) = some (r1, r2, r3) := by first | (rw [hy245]; with_reducible exact H) | (have H2_ := (Option.bind_some _ _).symm.trans H; rw [hy245]; with_reducible exact H2_) | (have H2_ := (Option.bind_some _ _).symm.trans H; with_reducible exact H2_) | with_reducible exact H | (rw [hy245]; exact H) | exact H
 have Ny245 := mk0 hy245
 clear hy245
 replace H := Option.bind_eq_some_iff.mp H
 obtain ⟨t249, A30, H⟩ := H
 try dsimp only at H
 have A3 := mk0 A30
 clear A30
 by_cases c4 : t249 = true
 focus
  subst c4
  rw [if_pos rfl] at H
  simp only [Option.some.injEq, Prod.mk.injEq] at H
  obtain ⟨rfl, rfl, rfl⟩ := H
  go_enter Try.func28, Try.ntmps28
 rotate_left 1
 focus
  replace c4 := Bool.eq_false_iff.mpr c4
  subst c4
  rw [if_neg (show ¬ (false = true) by decide)] at H
  simp only [Option.some.injEq, Prod.mk.injEq] at H
  obtain ⟨rfl, rfl, rfl⟩ := H
  go_enter Try.func28, Try.ntmps28
 rotate_right 1
 all_goals go_wp2_with (first | ((with_reducible refine gate_dst (N := 3) rfl ?_); refine bx_ (N := 3) (cs := #[.int .i64 a1_0, .string a1_1, .bool a1_2]) (t := 39) (h := ?_); intro gb243 hg w5 hbox hb; have n2_ := mk0 (gz_ HB hg); have n3_ := mk0 (gz_ HB hg); replace HB := mk0 (bt_ (b_ HB) hb); have BK243 := mk0 (hbox); have GW243 := n2_; have GE243 := n3_; clear n2_ n3_; clear hb hbox hg) | ((with_reducible refine gate_dst (N := 4) rfl ?_); refine bx_ (N := 4) (cs := #[.string (⟨#[]⟩ : ByteArray), .slice none 0 0]) (t := 30) (h := ?_); intro gb244 hg w6 hbox hb; have n3_ := mk0 (gz_ HB hg); have n4_ := mk0 (gz_ HB hg); have n5_ := mk0 (ne1_ BK243 hg); have n6_ := mk0 (ne2_ BK243 hg); replace BK243 := mk0 (u_ BK243 hb); replace HB := mk0 (bt_ (b_ HB) hb); have BK244 := mk0 (hbox); have GW244 := n3_; have GE244 := n4_; have NB243_244 := n5_; have NB244_243 := n6_; clear n3_ n4_ n5_ n6_ hb hbox hg; have hnb7 := NB243_244.out; have hnc7 := NB244_243.out; obtain ⟨hcz8_0, hcz8_1, hcz8_2, hfz8_0, hfz8_1, hfz8_2⟩ := c3_ BK243) | ((with_reducible refine gate_dst (N := 9) rfl ?_); refine Kd.R_lit k39 _ 39 ?hg (N := 9) ?hd (xs := ([(⟨a1_0, a1_1, a1_2⟩ : S39)] : List (S39))) (inner := [.int .i64 a1_0, .string a1_1, .bool a1_2]) (ok := fun _ => True) (okp := fun _ => True) ?hr ?hp (fun _ hk => hk) trivial (Below.refl _ _) (Nat.le_refl _) (by simp) ?_; (case hd => rfl); (case hg => rfl); (case hr => first | (go_simp; done) | (go_simp; rfl)); (case hp => exact (Reps.c3 (show Kd.M k39 _ _ _ (⟨a1_0, a1_1, a1_2⟩ : S39) [.int .i64 a1_0, .string a1_1, .bool a1_2] from (k39_mkM _ _ _ (⟨a1_0, a1_1, a1_2⟩ : S39) )) (Reps.none _ _))); intro v246 w9 ho10 hb hg_ hnew_; clear hg_ hnew_; (first | rw [← Ny245.out] at ho10 | (simp only [Int.reduceToNat] at ho10; rw [← Ny245.out] at ho10)); have n0_ := mk0 (Kd.R_lower (Kd.R_newB ho10 (g := gb243) (o := .cells #[.int .i64 a1_0, .string a1_1, .bool a1_2] 39 (0, 0)) (h_ BK243)) (bz_ (b_ HB))); replace BK243 := mk0 (u_ BK243 hb); replace BK244 := mk0 (blk_below (g := gb244) (o := .cells #[.string (⟨#[]⟩ : ByteArray), .slice none 0 0] 30 (0, 0)) (h_ BK244) hb); replace HB := mk0 (bt_ (b_ HB) hb); have HO247 := n0_; clear n0_ hb ho10; obtain ⟨Ao11, co11, eo11⟩ := Kd.R_slice HO247.out; subst eo11) | ((with_reducible refine gate_dst (N := 6) rfl ?_); refine bx_ (N := 6) (cs := #[.string (⟨#[]⟩ : ByteArray), .slice none 0 0]) (t := 30) (h := ?_); intro gb248 hg w12 hbox hb; have n5_ := mk0 (gz_ HB hg); have n6_ := mk0 (gz_ HB hg); have n7_ := mk0 (ne1_ BK243 hg); have n8_ := mk0 (ne2_ BK243 hg); have n9_ := mk0 ((by rw [hg]; exact Nat.ne_of_lt (blk_lt (g := gb244) (o := .cells #[.string (⟨#[]⟩ : ByteArray), .slice none 0 0] 30 (0, 0)) (h_ BK244)) : gb244 ≠ gb248)); have n10_ := mk0 ((by rw [hg]; exact Nat.ne_of_gt (blk_lt (g := gb244) (o := .cells #[.string (⟨#[]⟩ : ByteArray), .slice none 0 0] 30 (0, 0)) (h_ BK244)) : gb248 ≠ gb244)); replace HO247 := mk0 (Kd.R_below (r_ HO247) hb); replace BK243 := mk0 (u_ BK243 hb); replace BK244 := mk0 (blk_below (g := gb244) (o := .cells #[.string (⟨#[]⟩ : ByteArray), .slice none 0 0] 30 (0, 0)) (h_ BK244) hb); replace HB := mk0 (bt_ (b_ HB) hb); have BK248 := mk0 (hbox); have GW248 := n5_; have GE248 := n6_; have NB243_248 := n7_; have NB248_243 := n8_; have NB244_248 := n9_; have NB248_244 := n10_; clear n5_ n6_ n7_ n8_ n9_ n10_ hb hbox hg; have hnb13 := NB248_243.out; have hnc13 := NB243_248.out; have hnb14 := NB248_244.out; have hnc14 := NB244_248.out; obtain ⟨hcz15_0, hcz15_1, hfz15_0, hfz15_1⟩ := c2_ BK248) | ((with_reducible refine gate_callee (f := 61) rfl ?_); refine gL_ (some 12) Try.func61 #[.agg #[.string a0, .slice Ao11 y245.length co11]] (h := ?_); (with_reducible refine (chain_May.calls k a0 _ _ y245 true _ ?side1 ?side2 A3.out).mono ?_); (case side1 => refine (Kd.R_reads' (e := 39) (base := w.heap.size) (ok := fun k_ => (True ∧ k_ ≠ gb243)) (n := y245.length) (c := co11) ?_).2.2; exact (r2_ (Kd.R_mono (Kd.R_far (p := ⟨gb248, 1, none⟩) (Kd.R_far (p := ⟨gb248, 0, none⟩) (Kd.R_types HO247.out BK248.out (by decide)) (fun _ hk => hk.2) (.string a0)) (fun _ hk => hk.2) (.slice Ao11 y245.length co11)) (fun _ h_ => h_.1)))); (case side2 => exact (Kd.R_reads' HO247.out).2.1); rintro e w16 ⟨rfl, hb⟩; refine ⟨_, rfl, ?_⟩; have n0_ := mk0 (Kd.R_below (r2_ (Kd.R_mono (Kd.R_far (p := ⟨gb248, 1, none⟩) (Kd.R_far (p := ⟨gb248, 0, none⟩) (Kd.R_types HO247.out BK248.out (by decide)) (fun _ hk => hk.2) (.string a0)) (fun _ hk => hk.2) (.slice Ao11 y245.length co11)) (fun _ h_ => h_.1))) hb); replace BK243 := mk0 (blk_below (g := gb243) (o := .cells #[.int .i64 a1_0, .string a1_1, .bool a1_2] 39 (0, 0)) (fa_ (fa_ (h_ BK243) NB243_248.out) NB243_248.out) hb); replace BK244 := mk0 (blk_below (g := gb244) (o := .cells #[.string (⟨#[]⟩ : ByteArray), .slice none 0 0] 30 (0, 0)) (fa_ (fa_ (h_ BK244) NB244_248.out) NB244_248.out) hb); replace BK248 := mk0 (blk_below (g := gb248) (o := .cells #[.string a0, .slice Ao11 y245.length co11] 30 (0, 0)) (pu_ (cs := #[.string a0, .slice none 0 0]) (pu_ (cs := #[.string (⟨#[]⟩ : ByteArray), .slice none 0 0]) (h_ BK248))) hb); replace HB := mk0 (bt_ (b_ HB) hb); clear HO247; have HO247 := n0_; clear n0_; (try clear hb); obtain ⟨hcz17_0, hcz17_1, hfz17_0, hfz17_1⟩ := c2_ BK248; obtain ⟨hcz18_0, hcz18_1, hfz18_0, hfz18_1⟩ := c2_ BK244) | ((with_reducible refine gate_callee (f := 61) rfl ?_); refine gL_ (some 12) Try.func61 #[.agg #[.string a0, .slice Ao11 y245.length co11]] (h := ?_); (with_reducible refine (chain_May.calls k a0 _ _ y245 false _ ?side1 ?side2 A3.out).mono ?_); (case side1 => refine (Kd.R_reads' (e := 39) (base := w.heap.size) (ok := fun k_ => (True ∧ k_ ≠ gb243)) (n := y245.length) (c := co11) ?_).2.2; exact (r2_ (Kd.R_mono (Kd.R_far (p := ⟨gb248, 1, none⟩) (Kd.R_far (p := ⟨gb248, 0, none⟩) (Kd.R_types HO247.out BK248.out (by decide)) (fun _ hk => hk.2) (.string a0)) (fun _ hk => hk.2) (.slice Ao11 y245.length co11)) (fun _ h_ => h_.1)))); (case side2 => exact (Kd.R_reads' HO247.out).2.1); rintro e w30 ⟨rfl, hb⟩; refine ⟨_, rfl, ?_⟩; have n0_ := mk0 (Kd.R_below (r2_ (Kd.R_mono (Kd.R_far (p := ⟨gb248, 1, none⟩) (Kd.R_far (p := ⟨gb248, 0, none⟩) (Kd.R_types HO247.out BK248.out (by decide)) (fun _ hk => hk.2) (.string a0)) (fun _ hk => hk.2) (.slice Ao11 y245.length co11)) (fun _ h_ => h_.1))) hb); replace BK243 := mk0 (blk_below (g := gb243) (o := .cells #[.int .i64 a1_0, .string a1_1, .bool a1_2] 39 (0, 0)) (fa_ (fa_ (h_ BK243) NB243_248.out) NB243_248.out) hb); replace BK244 := mk0 (blk_below (g := gb244) (o := .cells #[.string (⟨#[]⟩ : ByteArray), .slice none 0 0] 30 (0, 0)) (fa_ (fa_ (h_ BK244) NB244_248.out) NB244_248.out) hb); replace BK248 := mk0 (blk_below (g := gb248) (o := .cells #[.string a0, .slice Ao11 y245.length co11] 30 (0, 0)) (pu_ (cs := #[.string a0, .slice none 0 0]) (pu_ (cs := #[.string (⟨#[]⟩ : ByteArray), .slice none 0 0]) (h_ BK248))) hb); replace HB := mk0 (bt_ (b_ HB) hb); clear HO247; have HO247 := n0_; clear n0_; (try clear hb); obtain ⟨hcz31_0, hcz31_1, hfz31_0, hfz31_1⟩ := c2_ BK244; (try obtain ⟨hcz17_0, hcz17_1, hfz17_0, hfz17_1⟩ := c2_ BK248)))
 ·refine bodyPost_ret (results_ct rfl _ _ gb244 30 #[.string a0, .slice Ao11 y245.length co11] (0, 0) _ rfl (pu_ (cs := #[.string a0, .slice none 0 0]) (pu_ (cs := #[.string (⟨#[]⟩ : ByteArray), .slice none 0 0]) (h_ BK244))) Try.underlying30 rfl (by kernel_rfl)) rfl ?_
  exact ⟨_, by first | rfl | (simp [errW_none, errW_some] <;> rfl) | (simp [*, errW_none, errW_some] <;> rfl), by (with_reducible repeat (first | apply Ra_ | apply Rn_ | apply Rd_)); exact Kd.R_mono (Kd.R_far (p := ⟨gb244, 1, none⟩) (Kd.R_far (p := ⟨gb244, 0, none⟩) (Kd.R_types HO247.out BK244.out (by decide)) (fun _ hk => hk.2) (.string a0)) (fun _ hk => hk.2) (.slice Ao11 y245.length co11)) (fun _ hk => trivial), b_ HB⟩
 ·refine bodyPost_ret (results_ct rfl _ _ gb244 30 #[.string (⟨#[]⟩ : ByteArray), .slice none 0 0] (0, 0) _ rfl (pu_ (cs := #[.string (⟨#[]⟩ : ByteArray), .slice none 0 0]) (pu_ (cs := #[.string (⟨#[]⟩ : ByteArray), .slice none 0 0]) (h_ BK244))) Try.underlying30 rfl (by kernel_rfl)) rfl ?_
  exact ⟨_, by first | rfl | (simp [errW_none, errW_some] <;> rfl) | (simp [*, errW_none, errW_some] <;> rfl), by first | exact Kd.R_nil _ _ _ _ _ | exact Kd.N_nil _ _ _ _ _ | exact Kd.V_nil _ _ _ _ _ | exact Kd.Q_nil _ _ _ _ _ | exact Kd.S_nil _ _ _ _ _, b_ HB⟩

end Go.Proofs.Ytoodkefpkgbjcaa.PCht
