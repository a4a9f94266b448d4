/- package table, in plain words over lists: whether a table may be, what is left of it, its rows at a commit; and the reference's. -/
import Derived.Test.YtoodkefpkgbjcaaPTbpx8
import Derived.Test.YtoodkefpkgbjcaaPTbpx8
import Derived.Test.YtoodkefpkgbjcaaPTbpx5
import Derived.Test.YtoodkefpkgbjcaaPTbpx8
import Derived.Test.YtoodkefpkgbjcaaHChainT
import Derived.Test.YtoodkefpkgbjcaaHChainRefT
set_option linter.unusedSimpArgs false
set_option linter.unusedVariables false
set_option linter.unusedSectionVars false
namespace Go.Proofs.Ytoodkefpkgbjcaa.HTable
open Go.RowKit Go.Proofs.Ytoodkefpkgbjcaa.PTbp Go.Proofs.Ytoodkefpkgbjcaa.HNum Go.Proofs.Ytoodkefpkgbjcaa.HChain Go.Proofs.YtoodkefpkgbjcaaW.PrintWords Go.Proofs.YtoodkefpkgbjcaaW.PrintLast
abbrev Rw := S145
theorem rdr_at (l : List Rw) (j : Nat) (h : j < l.length) : rd_T145 l (j : Int) = l[j] := by simp [rd_T145, h]
def less (a b : Ch) : Prop := Op.bytesLess a.f0.toList b.f0.toList = true
theorem less_trans_l : ∀ a b c : List UInt8, Op.bytesLess a b = true → Op.bytesLess b c = true → Op.bytesLess a c = true := by
  intro a
  induction a with
  | nil =>
    intro b c h1 h2
    cases c with
    | nil => cases b <;> simp [Op.bytesLess] at h2
    | cons y c => rfl
  | cons x a ih =>
    intro b c h1 h2
    cases b with
    | nil => simp [Op.bytesLess] at h1
    | cons y b =>
      cases c with
      | nil => simp [Op.bytesLess] at h2
      | cons z c =>
        simp only [Op.bytesLess, Bool.or_eq_true, Bool.and_eq_true, decide_eq_true_eq, beq_iff_eq] at h1 h2 ⊢
        rcases h1 with h1 | ⟨rfl, h1⟩ <;> rcases h2 with h2 | ⟨rfl, h2⟩
        · exact .inl (UInt8.lt_trans h1 h2)
        · exact .inl h1
        · exact .inl h2
        · exact .inr ⟨rfl, ih b c h1 h2⟩
theorem less_trans {a b c : Ch} (h1 : less a b) (h2 : less b c) : less a c := less_trans_l _ _ _ h1 h2
def sums (l : List Ch) : Nat := (l.map (fun c => c.f1.length)).sum
theorem sums_cons (c : Ch) (l : List Ch) : sums (c :: l) = c.f1.length + sums l := by simp [sums]
def TabFrom (l : List Ch) (j : Nat) : Prop := ∀ i (h : i < l.length), j ≤ i → May (l[i]).f0 (l[i]).f1 ∧ (0 < i → ∀ h2 : i - 1 < l.length, less l[i - 1] l[i])
theorem TabFrom.step {l : List Ch} {j : Nat} (hj : j < l.length) : TabFrom l j ↔ (May (l[j]).f0 (l[j]).f1 ∧ (0 < j → ∀ h2 : j - 1 < l.length, less l[j - 1] l[j])) ∧ TabFrom l (j + 1) := by
  constructor
  · exact fun h => ⟨h j hj (Nat.le_refl _), fun i hi hji => h i hi (by omega)⟩
  · rintro ⟨h1, h2⟩ i hi hji
    rcases Nat.eq_or_lt_of_le hji with rfl | h
    · exact h1
    · exact h2 i hi (by omega)
theorem TabFrom.last {l : List Ch} {j : Nat} (hj : l.length ≤ j) : TabFrom l j := fun i hi hji => by omega
structure TabOK (l : List Ch) : Prop where
  each : ∀ c ∈ l, May c.f0 c.f1
  asc : l.Pairwise less
  few : sums l ≤ 64
theorem asc_far {l : List Ch} (h : TabFrom l 0) (i : Nat) (d : Nat) : ∀ (h2 : i + d + 1 < l.length), less (l[i]'(by omega)) l[i + d + 1] := by
  induction d with
  | zero =>
    intro h2
    exact (h (i + 0 + 1) h2 (by omega)).2 (by omega) (by omega)
  | succ d ih =>
    intro h2
    exact less_trans (ih (by omega)) ((h (i + (d + 1) + 1) h2 (by omega)).2 (by omega) (by omega))
theorem tab_iff (l : List Ch) : TabFrom l 0 ∧ sums l ≤ 64 ↔ TabOK l := by
  constructor
  · rintro ⟨h, hs⟩
    refine ⟨fun c hc => ?_, List.pairwise_iff_getElem.2 (fun i j hi hj hij => ?_), hs⟩
    · obtain ⟨i, hi, rfl⟩ := List.mem_iff_getElem.1 hc
      exact (h i hi (by omega)).1
    · have := asc_far h i (j - i - 1) (by omega)
      have e : i + (j - i - 1) + 1 = j := by omega
      simpa only [e] using this
  · rintro ⟨h1, h2, h3⟩
    exact ⟨fun i hi _ => ⟨h1 _ (List.getElem_mem hi), fun h0 h4 => (List.pairwise_iff_getElem.1 h2) (i - 1) i h4 hi (by omega)⟩, h3⟩
section
variable (l : List Ch) (hl : l.length ≤ 1000000) (hv : ∀ c ∈ l, c.f1.length ≤ 1000000)
include hl hv
theorem sums_small (d : Nat) : ∀ j, j + d = l.length → sums (l.drop j) ≤ d * 1000000 := by
  induction d with
  | zero => intro j hj; rw [List.drop_eq_nil_of_le (by omega)]; simp [sums]
  | succ d ih =>
    intro j hj
    rw [List.drop_eq_getElem_cons (show j < l.length by omega), sums_cons]
    have h1 := ih (j + 1) (by omega)
    have h2 := hv l[j] (List.getElem_mem (by omega))
    omega
theorem Rooms_from (d : Nat) : ∀ j n : Nat, j + d = l.length → n ≤ j * 1000000 → Ev (fun k => table_Rooms.l0 k (n : Int) l (l.length : Int) (j : Int)) ((n + sums (l.drop j) : Nat) : Int) := by
  induction d with
  | zero =>
    intro j n hj hn
    rw [List.drop_eq_nil_of_le (by omega)]
    exact Ev.step (fun k => by simp only [table_Rooms.l0]; rfl) (Ev.if_neg (by omega) (Ev.now _))
  | succ d ih =>
    intro j n hj hn
    have hlt : j < l.length := by omega
    have h2 := hv l[j] (List.getElem_mem hlt)
    refine Ev.step (fun k => by simp only [table_Rooms.l0]; rfl) (Ev.if_pos (by omega) (Ev.if_pos (by omega) (Ev.if_pos (by omega) ?_)))
    rw [rdc_at l j hlt, wrap_succ j (by omega), show wrap64 ((n : Int) + ((l[j]).f1.length : Int)) = ((n + (l[j]).f1.length : Nat) : Int) by unfold wrap64; omega, List.drop_eq_getElem_cons hlt, sums_cons, ← Nat.add_assoc]
    exact ih (j + 1) _ (by omega) (by omega)
theorem Count_from (d : Nat) : ∀ j n : Nat, j + d = l.length → n ≤ j * 1000000 → Ev (fun k => quorumref8_Count.l0 k (n : Int) (j : Int) l) ((n + sums (l.drop j) : Nat) : Int) := by
  induction d with
  | zero =>
    intro j n hj hn
    rw [List.drop_eq_nil_of_le (by omega)]
    exact Ev.step (fun k => by simp only [quorumref8_Count.l0]; rfl) (Ev.if_neg (by omega) (Ev.now _))
  | succ d ih =>
    intro j n hj hn
    have hlt : j < l.length := by omega
    have h2 := hv l[j] (List.getElem_mem hlt)
    refine Ev.step (fun k => by simp only [quorumref8_Count.l0]; rfl) (Ev.if_pos (by omega) (Ev.if_pos (by omega) ?_))
    rw [rdc_at l j hlt, wrap_succ j (by omega), show wrap64 ((n : Int) + ((l[j]).f1.length : Int)) = ((n + (l[j]).f1.length : Nat) : Int) by unfold wrap64; omega, List.drop_eq_getElem_cons hlt, sums_cons, ← Nat.add_assoc]
    exact ih (j + 1) _ (by omega) (by omega)
theorem Rooms_ev : Ev (fun k => table_Rooms.f k l) ((sums l : Nat) : Int) := by
  have h := Rooms_from l hl hv l.length 0 0 (by omega) (by omega)
  rw [List.drop_zero, Nat.zero_add] at h
  exact h
theorem Count_ev : Ev (fun k => quorumref8_Count.f k l) ((sums l : Nat) : Int) := by
  have h := Count_from l hl hv l.length 0 0 (by omega) (by omega)
  rw [List.drop_zero, Nat.zero_add] at h
  exact h
open Classical in
theorem tabMay_from (d : Nat) : ∀ j, j + d = l.length → Ev (fun k => table_May.l0 k l (l.length : Int) (j : Int) l) (decide (TabFrom l j ∧ sums l ≤ 64)) := by
  induction d with
  | zero =>
    intro j hj
    refine Ev.step (fun k => by simp only [table_May.l0]; rfl) (Ev.if_neg (by omega) (Ev.bind (Rooms_ev l hl hv) ?_))
    have h1 := TabFrom.last (l := l) (j := j) (by omega)
    rw [show decide (TabFrom l j ∧ sums l ≤ 64) = decide (((sums l : Nat) : Int) ≤ 64) by rw [decide_eq_decide]; simp only [h1, true_and]; omega]
    exact Ev.now _
  | succ d ih =>
    intro j hj
    have hlt : j < l.length := by omega
    have hb := hv l[j] (List.getElem_mem hlt)
    have hs := TabFrom.step hlt
    refine Ev.step (fun k => by simp only [table_May.l0]; rfl) (Ev.if_pos (by omega) (Ev.if_pos (by omega) (Ev.if_pos (by omega) ?_)))
    rw [rdc_at l j hlt]
    refine Ev.bind (May_ev (l[j]).f0 (l[j]).f1 (by omega)) ?_
    by_cases hm : May (l[j]).f0 (l[j]).f1
    · refine Ev.if_pos (by simpa using hm) ?_
      by_cases h0 : 0 < j
      · refine Ev.if_pos (by omega) ?_
        rw [wrap_pred j h0 (by omega), rdc_at l (j - 1) (by omega), wrap_succ j (by omega)]
        refine Ev.if_pos (by omega) (Ev.if_pos (by omega) ?_)
        by_cases hc : less l[j - 1] l[j]
        · refine Ev.if_pos hc ?_
          have e : decide (TabFrom l j ∧ sums l ≤ 64) = decide (TabFrom l (j + 1) ∧ sums l ≤ 64) := by
            rw [decide_eq_decide, hs]
            exact ⟨fun h => ⟨h.1.2, h.2⟩, fun h => ⟨⟨⟨hm, fun _ _ => hc⟩, h.1⟩, h.2⟩⟩
          rw [e]
          exact ih (j + 1) (by omega)
        · refine Ev.if_neg hc ?_
          rw [decide_eq_false (fun h => hc ((hs.1 h.1).1.2 h0 (by omega)))]
          exact Ev.now _
      · refine Ev.if_neg (by omega) ?_
        rw [wrap_succ j (by omega)]
        have e : decide (TabFrom l j ∧ sums l ≤ 64) = decide (TabFrom l (j + 1) ∧ sums l ≤ 64) := by
          rw [decide_eq_decide, hs]
          exact ⟨fun h => ⟨h.1.2, h.2⟩, fun h => ⟨⟨⟨hm, fun h1 => absurd h1 h0⟩, h.1⟩, h.2⟩⟩
        rw [e]
        exact ih (j + 1) (by omega)
    · refine Ev.if_neg (by simpa using hm) ?_
      rw [decide_eq_false (fun h => hm (hs.1 h.1).1.1)]
      exact Ev.now _
open Classical in
theorem refTab_from (d : Nat) : ∀ j, j + d = l.length → Ev (fun k => quorumref8_Table.l0 k (j : Int) l) (decide (TabFrom l j ∧ sums l ≤ 64)) := by
  induction d with
  | zero =>
    intro j hj
    refine Ev.step (fun k => by simp only [quorumref8_Table.l0]; rfl) (Ev.if_neg (by omega) (Ev.bind (Count_ev l hl hv) ?_))
    have h1 := TabFrom.last (l := l) (j := j) (by omega)
    rw [show decide (TabFrom l j ∧ sums l ≤ 64) = decide (((sums l : Nat) : Int) ≤ 64) by rw [decide_eq_decide]; simp only [h1, true_and]; omega]
    exact Ev.now _
  | succ d ih =>
    intro j hj
    have hlt : j < l.length := by omega
    have hb := hv l[j] (List.getElem_mem hlt)
    have hs := TabFrom.step hlt
    refine Ev.step (fun k => by simp only [quorumref8_Table.l0]; rfl) (Ev.if_pos (by omega) (Ev.if_pos (by omega) ?_))
    rw [rdc_at l j hlt]
    refine Ev.bind (ref_ev (l[j]).f0 (l[j]).f1 (by omega)) ?_
    by_cases hm : May (l[j]).f0 (l[j]).f1
    · refine Ev.if_pos (by simpa using hm) ?_
      by_cases h0 : 0 < j
      · refine Ev.if_pos (by omega) ?_
        rw [wrap_pred j h0 (by omega), rdc_at l (j - 1) (by omega), wrap_succ j (by omega)]
        refine Ev.if_pos (by omega) (Ev.if_pos (by omega) ?_)
        by_cases hc : less l[j - 1] l[j]
        · refine Ev.if_pos hc ?_
          have e : decide (TabFrom l j ∧ sums l ≤ 64) = decide (TabFrom l (j + 1) ∧ sums l ≤ 64) := by
            rw [decide_eq_decide, hs]
            exact ⟨fun h => ⟨h.1.2, h.2⟩, fun h => ⟨⟨⟨hm, fun _ _ => hc⟩, h.1⟩, h.2⟩⟩
          rw [e]
          exact ih (j + 1) (by omega)
        · refine Ev.if_neg hc ?_
          rw [decide_eq_false (fun h => hc ((hs.1 h.1).1.2 h0 (by omega)))]
          exact Ev.now _
      · refine Ev.if_neg (by omega) ?_
        rw [wrap_succ j (by omega)]
        have e : decide (TabFrom l j ∧ sums l ≤ 64) = decide (TabFrom l (j + 1) ∧ sums l ≤ 64) := by
          rw [decide_eq_decide, hs]
          exact ⟨fun h => ⟨h.1.2, h.2⟩, fun h => ⟨⟨⟨hm, fun h1 => absurd h1 h0⟩, h.1⟩, h.2⟩⟩
        rw [e]
        exact ih (j + 1) (by omega)
    · refine Ev.if_neg (by simpa using hm) ?_
      rw [decide_eq_false (fun h => hm (hs.1 h.1).1.1)]
      exact Ev.now _
open Classical in
theorem tabMay_ev : Ev (fun k => table_May.f k l) (decide (TabOK l)) := by
  rw [show decide (TabOK l) = decide (TabFrom l 0 ∧ sums l ≤ 64) by rw [decide_eq_decide, tab_iff]]
  exact tabMay_from l hl hv l.length 0 (by omega)
open Classical in
theorem refTab_ev : Ev (fun k => quorumref8_Table.f k l) (decide (TabOK l)) := by
  rw [show decide (TabOK l) = decide (TabFrom l 0 ∧ sums l ≤ 64) by rw [decide_eq_decide, tab_iff]]
  exact refTab_from l hl hv l.length 0 (by omega)
end
-- what is left, and the rows
def leftT (l : List Ch) (n : Int) : List Ch := l.filterMap (fun c => if (left c.f1 n).length = 0 then none else some ⟨c.f0, left c.f1 n⟩)
def rowsT (l : List Ch) (m : Int) : List Rw := l.filterMap (fun c => (HChain.look c.f1 m).map (fun v => (⟨c.f0, v.f1⟩ : Rw)))
theorem Left_from (l : List Ch) (n : Int) (hl : l.length ≤ 1000000) (hv : ∀ c ∈ l, c.f1.length ≤ 1000000) (d : Nat) : ∀ (j : Nat) (acc : List Ch), j + d = l.length → acc.length ≤ j →
    Ev (fun k => table_Left.l0 k n l (l.length : Int) (j : Int) acc) (acc ++ leftT (l.drop j) n) := by
  induction d with
  | zero =>
    intro j acc hj ha
    rw [List.drop_eq_nil_of_le (by omega)]
    exact Ev.step (fun k => by simp only [table_Left.l0]; rfl) (Ev.if_neg (by omega) (by simpa [leftT] using Ev.now acc))
  | succ d ih =>
    intro j acc hj ha
    have hlt : j < l.length := by omega
    have hb := hv l[j] (List.getElem_mem hlt)
    refine Ev.step (fun k => by simp only [table_Left.l0]; rfl) (Ev.if_pos (by omega) (Ev.if_pos (by omega) (Ev.if_pos (by omega) ?_)))
    rw [rdc_at l j hlt, wrap_succ j (by omega), List.drop_eq_getElem_cons hlt]
    refine Ev.bind0 (Left_eq (l[j]).f0 (l[j]).f1 n (by omega)) ?_
    by_cases h0 : (left (l[j]).f1 n).length = 0
    · rw [if_pos h0, show leftT (l[j] :: l.drop (j + 1)) n = leftT (l.drop (j + 1)) n by unfold leftT; rw [List.filterMap_cons_none (by rw [if_pos h0])]]
      exact Ev.if_neg (by simp) (ih (j + 1) acc (by omega) (by omega))
    · rw [if_neg h0, show leftT (l[j] :: l.drop (j + 1)) n = ⟨(l[j]).f0, left (l[j]).f1 n⟩ :: leftT (l.drop (j + 1)) n by unfold leftT; rw [List.filterMap_cons_some (by rw [if_neg h0])]]
      refine Ev.if_pos (by show (((left (l[j]).f1 n).length : Nat) : Int) > 0; omega) (Ev.if_pos (by omega) ?_)
      have h := ih (j + 1) (acc ++ [⟨(l[j]).f0, left (l[j]).f1 n⟩]) (by omega) (by simp; omega)
      rw [List.append_assoc] at h
      exact h
theorem Left_ev (l : List Ch) (n : Int) (hl : l.length ≤ 1000000) (hv : ∀ c ∈ l, c.f1.length ≤ 1000000) : Ev (fun k => table_Left.f k l n) (leftT l n) := by
  have h := Left_from l n hl hv l.length 0 [] (by omega) (by simp)
  rw [List.drop_zero, List.nil_append] at h
  exact h
theorem Rows_from (l : List Ch) (m : Int) (hl : l.length ≤ 1000000) (d : Nat) : ∀ (j : Nat) (acc : List Rw), j + d = l.length → acc.length ≤ j →
    Ev (fun k => table_Rows.l0 k m acc l (l.length : Int) (j : Int)) (acc ++ rowsT (l.drop j) m) := by
  induction d with
  | zero =>
    intro j acc hj ha
    rw [List.drop_eq_nil_of_le (by omega)]
    exact Ev.step (fun k => by simp only [table_Rows.l0]; rfl) (Ev.if_neg (by omega) (by simpa [rowsT] using Ev.now acc))
  | succ d ih =>
    intro j acc hj ha
    have hlt : j < l.length := by omega
    refine Ev.step (fun k => by simp only [table_Rows.l0]; rfl) (Ev.if_pos (by omega) (Ev.if_pos (by omega) (Ev.if_pos (by omega) ?_)))
    rw [rdc_at l j hlt, wrap_succ j (by omega), List.drop_eq_getElem_cons hlt]
    refine Ev.bind0 (Look_eq (l[j]).f0 (l[j]).f1 m) ?_
    cases hk : HChain.look (l[j]).f1 m with
    | none =>
      rw [show rowsT (l[j] :: l.drop (j + 1)) m = rowsT (l.drop (j + 1)) m by unfold rowsT; rw [List.filterMap_cons_none (by rw [hk]; rfl)]]
      exact Ev.if_neg (by simp) (ih (j + 1) acc (by omega) (by omega))
    | some v =>
      rw [show rowsT (l[j] :: l.drop (j + 1)) m = ⟨(l[j]).f0, v.f1⟩ :: rowsT (l.drop (j + 1)) m by unfold rowsT; rw [List.filterMap_cons_some (by rw [hk]; rfl)]]
      refine Ev.if_pos rfl (Ev.if_pos (by omega) ?_)
      have h := ih (j + 1) (acc ++ [⟨(l[j]).f0, v.f1⟩]) (by omega) (by simp; omega)
      rw [List.append_assoc] at h
      exact h
theorem Rows_ev (l : List Ch) (m : Int) (hl : l.length ≤ 1000000) : Ev (fun k => table_Rows.f k l m) (rowsT l m) := by
  have h := Rows_from l m hl l.length 0 [] (by omega) (by simp)
  rw [List.drop_zero, List.nil_append] at h
  exact h
theorem Purge_ok (l : List Ch) (n : Int) (hl : l.length ≤ 1000000) (hv : ∀ c ∈ l, c.f1.length ≤ 1000000) (h : TabOK l) : Ev (fun k => table_Purge.f k l n) (leftT l n, 0) := by
  unfold table_Purge.f
  classical
  exact Ev.bind (tabMay_ev l hl hv) (Ev.if_pos (by simpa using h) (Ev.bind (Left_ev l n hl hv) (Ev.now _)))
theorem Map_ok (l : List Ch) (m : Int) (hl : l.length ≤ 1000000) (hv : ∀ c ∈ l, c.f1.length ≤ 1000000) (h : TabOK l) : Ev (fun k => table_Map.f k l m) (rowsT l m, 0) := by
  unfold table_Map.f
  classical
  exact Ev.bind (tabMay_ev l hl hv) (Ev.if_pos (by simpa using h) (Ev.bind (Rows_ev l m hl) (Ev.now _)))
theorem EqRows_same (l : List Rw) (hl : l.length ≤ 4611686018427387904) : Ev (fun k => quorumref0_EqRows.f k l l) true := by
  have key : ∀ d j : Nat, j + d = l.length → Ev (fun k => quorumref0_EqRows.l0 k l l (j : Int)) true := by
    intro d
    induction d with
    | zero =>
      intro j hj
      exact Ev.step (fun k => by simp only [quorumref0_EqRows.l0]; rfl) (Ev.if_neg (by omega) (Ev.now true))
    | succ d ih =>
      intro j hj
      refine Ev.step (fun k => by simp only [quorumref0_EqRows.l0]; rfl) ?_
      rw [wrap_succ j (by omega)]
      exact Ev.if_pos (by omega) (Ev.if_pos (by omega) (Ev.if_pos (by omega) (Ev.if_neg (by simp) (ih (j + 1) (by omega)))))
  unfold quorumref0_EqRows.f
  exact Ev.if_pos rfl (key l.length 0 (by omega))
theorem left_len (l : List V) (n : Int) : (left l n).length ≤ l.length := by
  obtain ⟨i, e⟩ := left_take l n
  rw [e, List.length_take]
  omega
theorem leftT_sums (l : List Ch) (n : Int) : sums (leftT l n) ≤ sums l := by
  induction l with
  | nil => exact Nat.le_refl _
  | cons c l ih =>
    by_cases h0 : (left c.f1 n).length = 0
    · rw [show leftT (c :: l) n = leftT l n by unfold leftT; rw [List.filterMap_cons_none (by rw [if_pos h0])], sums_cons]
      omega
    · rw [show leftT (c :: l) n = ⟨c.f0, left c.f1 n⟩ :: leftT l n by unfold leftT; rw [List.filterMap_cons_some (by rw [if_neg h0])], sums_cons, sums_cons]
      have := left_len c.f1 n
      show (left c.f1 n).length + sums (leftT l n) ≤ c.f1.length + sums l
      omega
theorem leftT_mem {l : List Ch} {n : Int} {c : Ch} (h : c ∈ leftT l n) : ∃ c0 ∈ l, c = ⟨c0.f0, left c0.f1 n⟩ ∧ 0 < (left c0.f1 n).length := by
  obtain ⟨c0, h0, e⟩ := List.mem_filterMap.1 h
  refine ⟨c0, h0, ?_⟩
  by_cases hz : (left c0.f1 n).length = 0
  · rw [if_pos hz] at e; cases e
  · rw [if_neg hz] at e
    exact ⟨(Option.some.inj e).symm, by omega⟩
theorem leftT_ok {l : List Ch} (n : Int) (h : TabOK l) : TabOK (leftT l n) := by
  refine ⟨fun c hc => ?_, ?_, Nat.le_trans (leftT_sums l n) h.few⟩
  · obtain ⟨c0, h0, rfl, hp⟩ := leftT_mem hc
    obtain ⟨i, e⟩ := left_take c0.f1 n
    show May c0.f0 (left c0.f1 n)
    rw [e] at hp ⊢
    exact May_take (h.each c0 h0) i hp
  · unfold leftT
    refine List.Pairwise.filterMap _ (fun a a' haa b hb b' hb' => ?_) h.asc
    by_cases h1 : (left a.f1 n).length = 0
    · rw [if_pos h1] at hb; cases hb
    · by_cases h2 : (left a'.f1 n).length = 0
      · rw [if_pos h2] at hb'; cases hb'
      · rw [if_neg h1] at hb
        rw [if_neg h2] at hb'
        obtain rfl := Option.some.inj hb
        obtain rfl := Option.some.inj hb'
        exact haa
theorem leftT_len (l : List Ch) (n : Int) : (leftT l n).length ≤ l.length := List.length_filterMap_le ..
theorem look_nil (m : Int) : HChain.look [] m = none := rfl
theorem rows_left (l : List Ch) {n m : Int} (hnm : n ≤ m) : rowsT (leftT l n) m = rowsT l m := by
  unfold rowsT leftT
  rw [List.filterMap_filterMap]
  congr 1
  funext c
  by_cases h0 : (left c.f1 n).length = 0
  · rw [if_pos h0, ← look_left c.f1 hnm, List.eq_nil_of_length_eq_zero h0, look_nil]
    rfl
  · rw [if_neg h0]
    show (HChain.look (left c.f1 n) m).map _ = _
    rw [look_left c.f1 hnm]
end Go.Proofs.Ytoodkefpkgbjcaa.HTable
