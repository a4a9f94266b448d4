/- package table, in plain words over lists: whether a table may be, what is left of it, its rows at a commit; and the reference's. -/
import Derived.Test.YtbaecdcfefmcgaaPVrsx3
import Derived.Test.YtbaecdcfefmcgaaHChainBr
set_option linter.unusedSimpArgs false
set_option linter.unusedVariables false
set_option linter.unusedSectionVars false
namespace Go.Proofs.Ytbaecdcfefmcgaa.HTable
open Go.RowKit Go.Proofs.Ytbaecdcfefmcgaa.PVrs Go.Proofs.Ytbaecdcfefmcgaa.HNum Go.Proofs.Ytbaecdcfefmcgaa.HChain Go.Proofs.YtbaecdcfefmcgaaW.PrintWords Go.Proofs.YtbaecdcfefmcgaaW.PrintLast
def less (a b : Ch) : Prop := Op.bytesLess a.f0.toList b.f0.toList = true
theorem less_trans_l : ∀ a b c : List UInt8, Op.bytesLess a b = true → Op.bytesLess b c = true → Op.bytesLess a c = true := by
  intro a
  induction a with
  | nil =>
    intro b c h1 h2
    cases c with
    | nil => cases b <;> simp [Op.bytesLess] at h2
    | cons y c => rfl
  | cons x a ih =>
    intro b c h1 h2
    cases b with
    | nil => simp [Op.bytesLess] at h1
    | cons y b =>
      cases c with
      | nil => simp [Op.bytesLess] at h2
      | cons z c =>
        simp only [Op.bytesLess, Bool.or_eq_true, Bool.and_eq_true, decide_eq_true_eq, beq_iff_eq] at h1 h2 ⊢
        rcases h1 with h1 | ⟨rfl, h1⟩ <;> rcases h2 with h2 | ⟨rfl, h2⟩
        · exact .inl (UInt8.lt_trans h1 h2)
        · exact .inl h1
        · exact .inl h2
        · exact .inr ⟨rfl, ih b c h1 h2⟩
theorem less_trans {a b c : Ch} (h1 : less a b) (h2 : less b c) : less a c := less_trans_l _ _ _ h1 h2
def sums (l : List Ch) : Nat := (l.map (fun c => c.f1.length)).sum
theorem sums_cons (c : Ch) (l : List Ch) : sums (c :: l) = c.f1.length + sums l := by simp [sums]
def TabFrom (l : List Ch) (j : Nat) : Prop := ∀ i (h : i < l.length), j ≤ i → May (l[i]).f0 (l[i]).f1 ∧ (0 < i → ∀ h2 : i - 1 < l.length, less l[i - 1] l[i])
theorem TabFrom.step {l : List Ch} {j : Nat} (hj : j < l.length) : TabFrom l j ↔ (May (l[j]).f0 (l[j]).f1 ∧ (0 < j → ∀ h2 : j - 1 < l.length, less l[j - 1] l[j])) ∧ TabFrom l (j + 1) := by
  constructor
  · exact fun h => ⟨h j hj (Nat.le_refl _), fun i hi hji => h i hi (by omega)⟩
  · rintro ⟨h1, h2⟩ i hi hji
    rcases Nat.eq_or_lt_of_le hji with rfl | h
    · exact h1
    · exact h2 i hi (by omega)
theorem TabFrom.last {l : List Ch} {j : Nat} (hj : l.length ≤ j) : TabFrom l j := fun i hi hji => by omega
structure TabOK (l : List Ch) : Prop where
  each : ∀ c ∈ l, May c.f0 c.f1
  asc : l.Pairwise less
  few : sums l ≤ 64
theorem asc_far {l : List Ch} (h : TabFrom l 0) (i : Nat) (d : Nat) : ∀ (h2 : i + d + 1 < l.length), less (l[i]'(by omega)) l[i + d + 1] := by
  induction d with
  | zero =>
    intro h2
    exact (h (i + 0 + 1) h2 (by omega)).2 (by omega) (by omega)
  | succ d ih =>
    intro h2
    exact less_trans (ih (by omega)) ((h (i + (d + 1) + 1) h2 (by omega)).2 (by omega) (by omega))
theorem tab_iff (l : List Ch) : TabFrom l 0 ∧ sums l ≤ 64 ↔ TabOK l := by
  constructor
  · rintro ⟨h, hs⟩
    refine ⟨fun c hc => ?_, List.pairwise_iff_getElem.2 (fun i j hi hj hij => ?_), hs⟩
    · obtain ⟨i, hi, rfl⟩ := List.mem_iff_getElem.1 hc
      exact (h i hi (by omega)).1
    · have := asc_far h i (j - i - 1) (by omega)
      have e : i + (j - i - 1) + 1 = j := by omega
      simpa only [e] using this
  · rintro ⟨h1, h2, h3⟩
    exact ⟨fun i hi _ => ⟨h1 _ (List.getElem_mem hi), fun h0 h4 => (List.pairwise_iff_getElem.1 h2) (i - 1) i h4 hi (by omega)⟩, h3⟩
section
variable (l : List Ch) (hl : l.length ≤ 1000000) (hv : ∀ c ∈ l, c.f1.length ≤ 1000000)
include hl hv
theorem sums_small (d : Nat) : ∀ j, j + d = l.length → sums (l.drop j) ≤ d * 1000000 := by
  induction d with
  | zero => intro j hj; rw [List.drop_eq_nil_of_le (by omega)]; simp [sums]
  | succ d ih =>
    intro j hj
    rw [List.drop_eq_getElem_cons (show j < l.length by omega), sums_cons]
    have h1 := ih (j + 1) (by omega)
    have h2 := hv l[j] (List.getElem_mem (by omega))
    omega
theorem Rooms_from (d : Nat) : ∀ j n : Nat, j + d = l.length → n ≤ j * 1000000 → Ev (fun k => table_Rooms.l0 k (n : Int) l (l.length : Int) (j : Int)) ((n + sums (l.drop j) : Nat) : Int) := by
  induction d with
  | zero =>
    intro j n hj hn
    rw [List.drop_eq_nil_of_le (by omega)]
    exact Ev.step (fun k => by simp only [table_Rooms.l0]; rfl) (Ev.if_neg (by omega) (Ev.now _))
  | succ d ih =>
    intro j n hj hn
    have hlt : j < l.length := by omega
    have h2 := hv l[j] (List.getElem_mem hlt)
    refine Ev.step (fun k => by simp only [table_Rooms.l0]; rfl) (Ev.if_pos (by omega) (Ev.if_pos (by omega) (Ev.if_pos (by omega) ?_)))
    rw [rdc_at l j hlt, wrap_succ j (by omega), show wrap64 ((n : Int) + ((l[j]).f1.length : Int)) = ((n + (l[j]).f1.length : Nat) : Int) by unfold wrap64; omega, List.drop_eq_getElem_cons hlt, sums_cons, ← Nat.add_assoc]
    exact ih (j + 1) _ (by omega) (by omega)
theorem Rooms_ev : Ev (fun k => table_Rooms.f k l) ((sums l : Nat) : Int) := by
  have h := Rooms_from l hl hv l.length 0 0 (by omega) (by omega)
  rw [List.drop_zero, Nat.zero_add] at h
  exact h
open Classical in
theorem tabMay_from (d : Nat) : ∀ j, j + d = l.length → Ev (fun k => table_May.l0 k l (l.length : Int) (j : Int) l) (decide (TabFrom l j ∧ sums l ≤ 64)) := by
  induction d with
  | zero =>
    intro j hj
    refine Ev.step (fun k => by simp only [table_May.l0]; rfl) (Ev.if_neg (by omega) (Ev.bind (Rooms_ev l hl hv) ?_))
    have h1 := TabFrom.last (l := l) (j := j) (by omega)
    rw [show decide (TabFrom l j ∧ sums l ≤ 64) = decide (((sums l : Nat) : Int) ≤ 64) by rw [decide_eq_decide]; simp only [h1, true_and]; omega]
    exact Ev.now _
  | succ d ih =>
    intro j hj
    have hlt : j < l.length := by omega
    have hb := hv l[j] (List.getElem_mem hlt)
    have hs := TabFrom.step hlt
    refine Ev.step (fun k => by simp only [table_May.l0]; rfl) (Ev.if_pos (by omega) (Ev.if_pos (by omega) (Ev.if_pos (by omega) ?_)))
    rw [rdc_at l j hlt]
    refine Ev.bind (May_ev (l[j]).f0 (l[j]).f1 (by omega)) ?_
    have stop : Ev (fun k => table_May.j1 k l (l.length : Int) (j : Int) true l) false := Ev.step (fun k => by simp only [table_May.j1]; rfl) (Ev.if_pos (by first | rfl | trivial) (Ev.now _))
    have go : Ev (fun k => table_May.j1 k l (l.length : Int) (j : Int) false l) (decide (TabFrom l (j + 1) ∧ sums l ≤ 64)) := by
      refine Ev.step (fun k => by simp only [table_May.j1]; rfl) (Ev.if_neg (by simp) ?_)
      rw [wrap_succ j (by omega)]
      exact ih (j + 1) (by omega)
    by_cases hm : May (l[j]).f0 (l[j]).f1
    · refine Ev.if_pos (by simpa using hm) ?_
      by_cases h0 : 0 < j
      · refine Ev.if_pos (by omega) ?_
        rw [wrap_pred j h0 (by omega), rdc_at l (j - 1) (by omega)]
        refine Ev.if_pos (by omega) (Ev.if_pos (by omega) ?_)
        by_cases hc : less l[j - 1] l[j]
        · have hc' : Op.bytesLess (l[j - 1]).f0.toList (l[j]).f0.toList = true := hc
          rw [hc']
          have e : decide (TabFrom l j ∧ sums l ≤ 64) = decide (TabFrom l (j + 1) ∧ sums l ≤ 64) := by
            rw [decide_eq_decide, hs]
            exact ⟨fun h => ⟨h.1.2, h.2⟩, fun h => ⟨⟨⟨hm, fun _ _ => hc⟩, h.1⟩, h.2⟩⟩
          rw [e]
          exact go
        · have hc' : Op.bytesLess (l[j - 1]).f0.toList (l[j]).f0.toList = false := Bool.eq_false_iff.2 hc
          rw [hc', decide_eq_false (fun h => hc ((hs.1 h.1).1.2 h0 (by omega)))]
          exact stop
      · refine Ev.if_neg (by omega) ?_
        have e : decide (TabFrom l j ∧ sums l ≤ 64) = decide (TabFrom l (j + 1) ∧ sums l ≤ 64) := by
          rw [decide_eq_decide, hs]
          exact ⟨fun h => ⟨h.1.2, h.2⟩, fun h => ⟨⟨⟨hm, fun h1 => absurd h1 h0⟩, h.1⟩, h.2⟩⟩
        rw [e]
        exact go
    · refine Ev.if_neg (by simpa using hm) ?_
      rw [decide_eq_false (fun h => hm (hs.1 h.1).1.1)]
      exact stop
open Classical in
theorem tabMay_ev : Ev (fun k => table_May.f k l) (decide (TabOK l)) := by
  rw [show decide (TabOK l) = decide (TabFrom l 0 ∧ sums l ≤ 64) by rw [decide_eq_decide, tab_iff]]
  exact tabMay_from l hl hv l.length 0 (by omega)
end
-- what is left, and the rows
end Go.Proofs.Ytbaecdcfefmcgaa.HTable
