/- What the functions of package pend, and the reference's, come to, in plain words over lists: whether what is pending may be, a write more, savepoints, back to one, one released. -/
import Derived.Test.YtbaecdcfefmcgaaPVrsx6
import Derived.Test.YtbaecdcfefmcgaaPVrsx5
import Derived.Test.YtbaecdcfefmcgaaHNumr
set_option linter.unusedSimpArgs false
set_option linter.unusedVariables false
namespace Go.Proofs.Ytbaecdcfefmcgaa.HPend
open Go.RowKit Go.Proofs.Ytbaecdcfefmcgaa.PVrs Go.Proofs.Ytbaecdcfefmcgaa.HNum Go.Proofs.YtbaecdcfefmcgaaW.PrintWords Go.Proofs.YtbaecdcfefmcgaaW.PrintLast
abbrev Wr := S36
theorem rdw_at (l : List Wr) (j : Nat) (h : j < l.length) : rd_T36 l (j : Int) = l[j] := by simp [rd_T36, h]
theorem rdn_at (l : List Int) (j : Nat) (h : j < l.length) : rd l (j : Int) = l[j] := by simp [rd, h]

def keyOK (s : ByteArray) : Bool := decide (1 ≤ s.size ∧ s.size ≤ 12)
theorem toList_nil (s : ByteArray) : s.toList = ([] : List UInt8) ↔ s.size = 0 := by
  rw [ByteArray.toList_eq]
  have : s.data.toList.length = s.size := Array.length_toList
  constructor
  · intro h
    rw [h] at this
    simpa using this.symm
  · intro h
    exact List.eq_nil_of_length_eq_zero (by omega)
theorem key_Is_eq (s : ByteArray) : key_Is.f s = some (keyOK s) := by
  unfold key_Is.f keyOK
  by_cases h : s.toList = ([] : List UInt8)
  · have := (toList_nil s).1 h
    rw [if_pos h]; simp [this]
  · have := mt (toList_nil s).2 h
    rw [if_neg h]
    congr 1
    rw [decide_eq_decide]
    omega
theorem key_Fits_eq (s : ByteArray) : key_Fits.f s = some (decide (s.size ≤ 20)) := by
  unfold key_Fits.f
  congr 1
  rw [decide_eq_decide]
  omega
def wOK (w : Wr) : Bool := decide (0 ≤ w.f0) && (decide (w.f0 < 3) && (keyOK w.f1 && (decide (w.f2.size ≤ 20) && (!w.f3 || (w.f2.toList == [])))))
theorem Is_eq (w : Wr) : pend_Is.f w.f0 w.f1 w.f2 w.f3 = some (wOK w) := by
  unfold pend_Is.f pend_Table.f wOK
  rw [key_Is_eq, key_Fits_eq]
  simp only [ge_iff_le]
  by_cases h1 : 0 ≤ w.f0 <;> by_cases h2 : w.f0 < 3 <;> by_cases h3 : keyOK w.f1 = true <;> by_cases h4 : w.f2.size ≤ 20 <;> by_cases h5 : w.f3 = true <;> simp [h1, h2, h3, h4, h5]

/-- From place j on each mark lies among the writes, and not below the one before it. -/
def MarksFrom (n : Nat) (m : List Int) (j : Nat) : Prop := ∀ i (h : i < m.length), j ≤ i → 0 ≤ m[i] ∧ m[i] ≤ n ∧ (0 < i → ∀ h2 : i - 1 < m.length, m[i - 1] ≤ m[i])
structure May (l : List Wr) (m : List Int) : Prop where
  few : l.length ≤ 12
  marks : m.length ≤ 6
  each : ∀ w ∈ l, wOK w = true
  lie : MarksFrom l.length m 0
theorem MarksFrom.step {n : Nat} {m : List Int} {j : Nat} (hj : j < m.length) : MarksFrom n m j ↔ (0 ≤ m[j] ∧ m[j] ≤ n ∧ (0 < j → ∀ h2 : j - 1 < m.length, m[j - 1] ≤ m[j])) ∧ MarksFrom n m (j + 1) := by
  constructor
  · intro h
    exact ⟨h j hj (Nat.le_refl _), fun i hi hji => h i hi (by omega)⟩
  · rintro ⟨h1, h2⟩ i hi hji
    rcases Nat.eq_or_lt_of_le hji with rfl | h3
    · exact h1
    · exact h2 i hi h3
theorem MarksFrom.last {n : Nat} {m : List Int} {j : Nat} (hj : m.length ≤ j) : MarksFrom n m j := fun i hi hji => by omega

theorem marks_from (l : List Wr) (m : List Int) (hm : m.length ≤ 6) (b : Bool) (d : Nat) : ∀ j, j + d = m.length → (b = true ↔ MarksFrom l.length m j) → Ev (fun k => pend_May.l0 k m (m.length : Int) (j : Int) l m) b := by
  induction d with
  | zero =>
    intro j hj hb
    have : b = true := hb.2 (MarksFrom.last (by omega))
    subst this
    exact Ev.step (fun k => by simp only [pend_May.l0]; rfl) (Ev.if_neg (by omega) (Ev.now true))
  | succ d ih =>
    intro j hj hb
    have hlt : j < m.length := by omega
    rw [MarksFrom.step hlt] at hb
    have jn : ∀ c : Bool, (c = true → b = false) → (c = false → (b = true ↔ MarksFrom l.length m (j + 1))) → Ev (fun k => pend_May.j2 k m (m.length : Int) (j : Int) c l m) b := fun c h1 h2 => by
      refine Ev.step (fun k => by simp only [pend_May.j2]; rfl) ?_
      cases c with
      | true => rw [h1 rfl]; exact Ev.if_pos rfl (Ev.now false)
      | false =>
        refine Ev.if_neg (by simp) ?_
        rw [wrap_succ j (by omega)]
        exact ih (j + 1) (by omega) (h2 rfl)
    refine Ev.step (fun k => by simp only [pend_May.l0]; rfl) (Ev.if_pos (by omega) (Ev.if_pos (by omega) (Ev.if_pos (by omega) ?_)))
    rw [rdn_at m j hlt]
    refine Ev.iff (fun h1 => ?_) (fun h1 => Ev.iff (fun h2 => ?_) (fun h2 => Ev.iff (fun h0 => ?_) (fun h0 => ?_)))
    · exact jn true (fun _ => by rw [← Bool.not_eq_true, hb]; rintro ⟨⟨h, _⟩, _⟩; omega) (fun h => by cases h)
    · exact jn true (fun _ => by rw [← Bool.not_eq_true, hb]; rintro ⟨⟨_, h, _⟩, _⟩; omega) (fun h => by cases h)
    · have h0' : 0 < j := by omega
      have hlt1 : j - 1 < m.length := by omega
      rw [wrap_pred j h0' (by omega), rdn_at m (j - 1) hlt1]
      refine Ev.if_pos (by omega) (Ev.if_pos (by omega) (jn _ (fun hc => ?_) (fun hc => ?_)))
      · rw [decide_eq_true_eq] at hc
        rw [← Bool.not_eq_true, hb]; rintro ⟨⟨_, _, h⟩, _⟩; have := h h0' hlt1; omega
      · rw [decide_eq_false_iff_not] at hc
        rw [hb]
        exact ⟨fun h => h.2, fun h => ⟨⟨by omega, by omega, fun _ _ => by omega⟩, h⟩⟩
    · refine jn false (fun h => by cases h) (fun _ => ?_)
      rw [hb]
      exact ⟨fun h => h.2, fun h => ⟨⟨by omega, by omega, fun h3 _ => by omega⟩, h⟩⟩
theorem any_bad (l : List Wr) : api_Write_146.f l = some (!(l.all wOK)) := by
  unfold api_Write_146.f
  congr 1
  rw [List.all_eq_not_any_not, Bool.not_not]
  congr 1
  funext w
  have h := api_Write_146.tot w
  unfold pend_May_1.f at h
  rw [Is_eq] at h
  simpa using h.symm
open Classical in
theorem May_ev (l : List Wr) (m : List Int) : Ev (fun k => pend_May.f k l m) (decide (May l m)) := by
  unfold pend_May.f
  have hno : ∀ (h : ¬ May l m), Ev (fun k => pend_May.j0 k true l m) (decide (May l m)) := fun h => by
    rw [decide_eq_false h]
    exact Ev.step (fun k => by simp only [pend_May.j0]; rfl) (Ev.if_pos (by simp) (Ev.now false))
  refine Ev.iff (fun h => hno (fun h2 => by have := h2.few; omega)) (fun h1 => Ev.iff (fun h => hno (fun h2 => by have := h2.marks; omega)) (fun h2 => ?_))
  rw [any_bad]
  refine Ev.bind0 rfl ?_
  by_cases hall : l.all wOK = true
  · rw [hall]
    refine Ev.step (fun k => by simp only [pend_May.j0]; rfl) (Ev.if_neg (by simp) ?_)
    refine marks_from l m (by omega) _ m.length 0 (by omega) ?_
    rw [decide_eq_true_eq]
    exact ⟨fun h => h.lie, fun h => ⟨by omega, by omega, fun w hw => List.all_eq_true.1 hall w hw, h⟩⟩
  · have hall' : l.all wOK = false := by simpa using hall
    rw [hall']
    exact hno (fun h => hall (List.all_eq_true.2 h.each))
theorem weight_ends (l : List Wr) (hl : l.length ≤ 4611686018427387904) : ∃ r, Ev (fun k => quorumlaw0_WritesWeight.f k l) r := by
  have stop : ∀ (n : Int) (j : Int), Ev (fun k => quorumlaw0_WritesWeight.j1 k l n j false) n := fun n j => Ev.step (fun k => by simp only [quorumlaw0_WritesWeight.j1]; rfl) (Ev.if_neg (by simp) (Ev.now n))
  have key : ∀ d j : Nat, j + d = l.length → ∀ n : Int, ∃ r, Ev (fun k => quorumlaw0_WritesWeight.l0 k l n (j : Int)) r := by
    intro d
    induction d with
    | zero =>
      intro j hj n
      exact ⟨n, Ev.step (fun k => by simp only [quorumlaw0_WritesWeight.l0]; rfl) (Ev.if_neg (by omega) (stop n _))⟩
    | succ d ih =>
      intro j hj n
      by_cases hn : n < 1048576
      · obtain ⟨r, hr⟩ := ih (j + 1) (by omega) (wrap64 (n + (wrap64 (Int.tdiv (wrap64 ((((rd_T36 l (j : Int)).f1).size : Int) + (((rd_T36 l (j : Int)).f2).size : Int))) 8))))
        refine ⟨r, Ev.step (fun k => by simp only [quorumlaw0_WritesWeight.l0]; rfl) (Ev.if_pos (by omega) ?_)⟩
        rw [decide_eq_true hn]
        refine Ev.step (fun k => by simp only [quorumlaw0_WritesWeight.j1]; rfl) ?_
        rw [wrap_succ j (by omega)]
        exact Ev.if_pos trivial (Ev.if_pos (by omega) (Ev.if_pos (by omega) hr))
      · refine ⟨n, Ev.step (fun k => by simp only [quorumlaw0_WritesWeight.l0]; rfl) (Ev.if_pos (by omega) ?_)⟩
        rw [decide_eq_false hn]
        exact stop n _
  exact key l.length 0 (by omega) _
end Go.Proofs.Ytbaecdcfefmcgaa.HPend
