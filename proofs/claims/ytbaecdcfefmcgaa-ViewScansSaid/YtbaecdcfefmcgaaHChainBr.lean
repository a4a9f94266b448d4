/- What the functions of package chain, and the reference's, come to, in plain words over lists: whether a chain may be, which version holds, what is left. -/
import Derived.Test.YtbaecdcfefmcgaaPVrsx2
import Derived.Test.YtbaecdcfefmcgaaPVrsx7
import Derived.Test.YtbaecdcfefmcgaaHNumr
set_option linter.unusedSimpArgs false
set_option linter.unusedVariables false
namespace Go.Proofs.Ytbaecdcfefmcgaa.HChain
open Go.RowKit Go.Proofs.Ytbaecdcfefmcgaa.PVrs Go.Proofs.Ytbaecdcfefmcgaa.HNum Go.Proofs.YtbaecdcfefmcgaaW.PrintWords Go.Proofs.YtbaecdcfefmcgaaW.PrintLast
abbrev V := S72
abbrev Ch := S99
theorem rd_at (l : List V) (j : Nat) (h : j < l.length) : rd_T72 l (j : Int) = l[j] := by simp [rd_T72, h]
theorem rdc_at (l : List Ch) (j : Nat) (h : j < l.length) : rd_T99 l (j : Int) = l[j] := by simp [rd_T99, h]

def keyOK (s : ByteArray) : Bool := decide (1 ≤ s.size ∧ s.size ≤ 12)
def vOK (v : V) : Bool := decide (1 ≤ v.f0) && (decide (v.f0 ≤ 1073741824) && (decide (v.f1.size ≤ 20) && (!v.f2 || (v.f1.toList == []))))
theorem toList_nil (s : ByteArray) : s.toList = ([] : List UInt8) ↔ s.size = 0 := by
  rw [ByteArray.toList_eq]
  have : s.data.toList.length = s.size := Array.length_toList
  constructor
  · intro h
    rw [h] at this
    simpa using this.symm
  · intro h
    exact List.eq_nil_of_length_eq_zero (by omega)
theorem key_Is_eq (s : ByteArray) : key_Is.f s = some (keyOK s) := by
  unfold key_Is.f keyOK
  by_cases h : s.toList = ([] : List UInt8)
  · have := (toList_nil s).1 h
    rw [if_pos h]; simp [this]
  · have := mt (toList_nil s).2 h
    rw [if_neg h]
    congr 1
    rw [decide_eq_decide]
    omega
theorem key_Fits_eq (s : ByteArray) : key_Fits.f s = some (decide (s.size ≤ 20)) := by
  unfold key_Fits.f
  congr 1
  rw [decide_eq_decide]
  omega
theorem version_eq (v : V) : chain_version.f v.f0 v.f1 v.f2 = some (vOK v) := by
  unfold chain_version.f vOK
  rw [key_Fits_eq]
  simp only [Option.bind_some, ge_iff_le]
  by_cases h1 : 1 ≤ v.f0 <;> by_cases h2 : v.f0 ≤ 1073741824 <;> by_cases h3 : v.f1.size ≤ 20 <;> by_cases h4 : v.f2 = true <;> simp [h1, h2, h3, h4]
def OKfrom (l : List V) (j : Nat) : Prop := ∀ i (h : i < l.length), j ≤ i → vOK l[i] = true ∧ (0 < i → ∀ h2 : i - 1 < l.length, l[i].f0 < l[i - 1].f0)
def May (key : ByteArray) (l : List V) : Prop := OKfrom l 0 ∧ keyOK key = true ∧ 0 < l.length
theorem OKfrom.step {l : List V} {j : Nat} (hj : j < l.length) : OKfrom l j ↔ (vOK l[j] = true ∧ (0 < j → ∀ h2 : j - 1 < l.length, l[j].f0 < l[j - 1].f0)) ∧ OKfrom l (j + 1) := by
  constructor
  · intro h
    exact ⟨h j hj (Nat.le_refl _), fun i hi hji => h i hi (by omega)⟩
  · rintro ⟨h1, h2⟩ i hi hji
    rcases Nat.eq_or_lt_of_le hji with rfl | h3
    · exact h1
    · exact h2 i hi h3
theorem OKfrom.last {l : List V} {j : Nat} (hj : l.length ≤ j) : OKfrom l j := fun i hi hji => by omega

open Classical in
theorem May_from (key : ByteArray) (l : List V) (hl : l.length ≤ 4611686018427387904) (d : Nat) : ∀ j, j + d = l.length →
    Ev (fun k => chain_May.l0 k l (l.length : Int) (j : Int) key l) (decide (OKfrom l j ∧ keyOK key = true ∧ 0 < l.length)) := by
  induction d with
  | zero =>
    intro j hj
    refine Ev.step (fun k => by simp only [chain_May.l0]; rfl) ?_
    refine Ev.if_neg (by omega) (Ev.bind0 (key_Is_eq key) (Ev.const ?_))
    have h1 := OKfrom.last (l := l) (j := j) (by omega)
    by_cases hk : keyOK key = true
    · simp only [hk, if_true, Option.some.injEq]
      rw [decide_eq_decide]
      simp only [h1, hk, true_and]
      omega
    · simp [hk]
  | succ d ih =>
    intro j hj
    have hlt : j < l.length := by omega
    refine Ev.step (fun k => by simp only [chain_May.l0]; rfl) ?_
    refine Ev.if_pos (by omega) (Ev.if_pos (by omega) (Ev.if_pos (by omega) ?_))
    rw [rd_at l j hlt]
    refine Ev.bind0 (version_eq _) ?_
    have hs := OKfrom.step hlt
    have stop : Ev (fun k => chain_May.j1 k l (l.length : Int) (j : Int) true key l) false := Ev.step (fun k => by simp only [chain_May.j1]; rfl) (Ev.if_pos (by first | rfl | trivial) (Ev.now _))
    have go : Ev (fun k => chain_May.j1 k l (l.length : Int) (j : Int) false key l) (decide (OKfrom l (j + 1) ∧ keyOK key = true ∧ 0 < l.length)) := by
      refine Ev.step (fun k => by simp only [chain_May.j1]; rfl) (Ev.if_neg (by simp) ?_)
      rw [wrap_succ j (by omega)]
      exact ih (j + 1) (by omega)
    refine Ev.iff (fun hv => Ev.iff (fun h0 => ?_) (fun h0 => ?_)) (fun hv => ?_)
    · have h0' : 0 < j := by omega
      have hlt1 : j - 1 < l.length := by omega
      rw [wrap_pred j h0' (by omega), rd_at l (j - 1) hlt1]
      refine Ev.if_pos (by omega) (Ev.if_pos (by omega) ?_)
      by_cases hc : l[j].f0 ≥ l[j - 1].f0
      · rw [decide_eq_true hc]
        have e : decide (OKfrom l j ∧ keyOK key = true ∧ 0 < l.length) = false := by
          rw [decide_eq_false_iff_not]
          rintro ⟨h, _⟩
          have := (hs.1 h).1.2 h0' hlt1
          omega
        rw [e]
        exact stop
      · rw [decide_eq_false hc]
        have e : (OKfrom l j ∧ keyOK key = true ∧ 0 < l.length) ↔ (OKfrom l (j + 1) ∧ keyOK key = true ∧ 0 < l.length) := by
          rw [hs]
          have : vOK l[j] = true ∧ (0 < j → ∀ h2 : j - 1 < l.length, l[j].f0 < l[j - 1].f0) := ⟨hv, fun _ _ => by omega⟩
          exact ⟨fun h => ⟨h.1.2, h.2⟩, fun h => ⟨⟨this, h.1⟩, h.2⟩⟩
        rw [decide_eq_decide.2 e]
        exact go
    · have e : (OKfrom l j ∧ keyOK key = true ∧ 0 < l.length) ↔ (OKfrom l (j + 1) ∧ keyOK key = true ∧ 0 < l.length) := by
        rw [hs]
        have : vOK l[j] = true ∧ (0 < j → ∀ h2 : j - 1 < l.length, l[j].f0 < l[j - 1].f0) := ⟨hv, fun h _ => by omega⟩
        exact ⟨fun h => ⟨h.1.2, h.2⟩, fun h => ⟨⟨this, h.1⟩, h.2⟩⟩
      rw [decide_eq_decide.2 e]
      exact go
    · have e : decide (OKfrom l j ∧ keyOK key = true ∧ 0 < l.length) = false := by
        rw [decide_eq_false_iff_not]
        rintro ⟨h, _⟩
        exact hv (hs.1 h).1.1
      rw [e]
      exact stop
open Classical in
theorem May_ev (key : ByteArray) (l : List V) (hl : l.length ≤ 4611686018427387904) : Ev (fun k => chain_May.f k key l) (decide (May key l)) := by
  have h := May_from key l hl l.length 0 (by omega)
  have e : decide (May key l) = decide (OKfrom l 0 ∧ keyOK key = true ∧ 0 < l.length) := by rw [decide_eq_decide]; exact Iff.rfl
  rw [e]
  exact h
def place (l : List V) (n : Int) : Nat := l.findIdx (fun v => decide (v.f0 ≤ n))
def look (l : List V) (n : Int) : Option V := if h : place l n < l.length then (if (l[place l n]).f2 = true then none else some l[place l n]) else none
theorem place_le (l : List V) (n : Int) : place l n ≤ l.length := List.findIdx_le_length
theorem Look_ev (key : ByteArray) (l : List V) (n : Int) : Ev (fun k => chain_Look.f k key l n) (match look l n with | some v => (v.f0, v.f1, v.f2, true) | none => (0, ⟨#[]⟩, false, false)) := by
  unfold chain_Look.f chain_place.f
  refine Ev.bind0 rfl ?_
  change Ev (fun k => if ((place l n : Nat) : Int) = (l.length : Int) then _ else (if 0 ≤ ((place l n : Nat) : Int) then (if ((place l n : Nat) : Int) < (l.length : Int) then chain_Look.j0 k ((place l n : Nat) : Int) (rd_T72 l ((place l n : Nat) : Int)).f2 key l else _) else _)) _
  have hle := place_le l n
  unfold look
  by_cases h : place l n < l.length
  · rw [dif_pos h]
    refine Ev.if_neg (by omega) (Ev.if_pos (by omega) (Ev.if_pos (by omega) ?_))
    rw [rd_at l _ h]
    cases hg : (l[place l n]).f2 with
    | true => exact Ev.step (fun k => by simp only [chain_Look.j0]; rfl) (Ev.if_pos (by first | rfl | trivial) (Ev.now _))
    | false =>
      refine Ev.step (fun k => by simp only [chain_Look.j0]; rfl) (Ev.if_neg (by simp) (Ev.if_pos (by omega) (Ev.if_pos (by omega) ?_)))
      rw [rd_at l _ h]
      rw [if_neg (by simp)]
      show Ev _ ((l[place l n]).f0, (l[place l n]).f1, (l[place l n]).f2, true)
      rw [hg]
      exact Ev.now _
  · rw [dif_neg h]
    exact Ev.if_pos (by omega) (Ev.step (fun k => by simp only [chain_Look.j0]; rfl) (Ev.if_pos (by first | rfl | trivial) (Ev.now _)))
theorem place_spec (l : List V) (n : Int) (p : Nat) (hp : p ≤ l.length) (h1 : ∀ j (h : j < l.length), j < p → n < (l[j]).f0) (h2 : ∀ h : p < l.length, (l[p]).f0 ≤ n) : place l n = p := by
  unfold place
  rcases Nat.lt_or_ge p l.length with h | h
  · refine (List.findIdx_eq h).2 ⟨by simpa using h2 h, fun j hj => ?_⟩
    have := h1 j (by omega) hj
    simp only [decide_eq_false_iff_not]
    omega
  · have : p = l.length := by omega
    subst this
    refine List.findIdx_eq_length.2 (fun x hx => ?_)
    obtain ⟨j, hj, rfl⟩ := List.mem_iff_getElem.1 hx
    have := h1 j hj hj
    simp only [decide_eq_false_iff_not]
    omega
theorem before_place (l : List V) (n : Int) (j : Nat) (h : j < l.length) (hj : j < place l n) : n < (l[j]).f0 := by
  have := List.not_of_lt_findIdx (p := fun v : V => decide (v.f0 ≤ n)) (xs := l) hj
  simpa using this
theorem at_place (l : List V) (n : Int) (h : place l n < l.length) : (l[place l n]).f0 ≤ n := by
  have h1 := List.findIdx_getElem (p := fun v : V => decide (v.f0 ≤ n)) (xs := l) (w := h)
  exact of_decide_eq_true h1
theorem place_mono (l : List V) {n m : Int} (hnm : n ≤ m) : place l m ≤ place l n := by
  rcases Nat.lt_or_ge (place l n) (place l m) with h | h
  · have hlt : place l n < l.length := by have := place_le l m; omega
    have h1 := before_place l m _ hlt h
    have h2 := at_place l n hlt
    omega
  · exact h
end Go.Proofs.Ytbaecdcfefmcgaa.HChain
