/- The reference's: whether a chain may be. -/
import Derived.Test.YtbaecdcfefmcgaaHChainVv
import Derived.Test.YtbaecdcfefmcgaaPVowx4
set_option linter.unusedSimpArgs false
set_option linter.unusedVariables false
namespace Go.Proofs.Ytbaecdcfefmcgaa.HChain
open Go.RowKit Go.Proofs.Ytbaecdcfefmcgaa.PVow Go.Proofs.Ytbaecdcfefmcgaa.HNum Go.Proofs.YtbaecdcfefmcgaaW.PrintWords Go.Proofs.YtbaecdcfefmcgaaW.PrintLast
theorem ref_Key_eq (s : ByteArray) : quorumref1_Key.f s = some (keyOK s) := by
  unfold quorumref1_Key.f quorumref0_Between.f keyOK
  by_cases h : (s.size : Int) ≥ 1
  · rw [if_pos h]
    simp only [Option.bind_some, Option.some.injEq, decide_eq_decide]
    omega
  · rw [if_neg h]
    simp only [Option.bind_some, Option.some.injEq]
    symm
    simp only [decide_eq_false_iff_not]
    omega
theorem ref_Version_eq (v : V) : quorumref8_Version.f v.f0 v.f1 v.f2 = some (vOK v) := by
  unfold quorumref8_Version.f quorumref0_Between.f quorumref1_Value.f vOK
  simp only [ge_iff_le]
  have e : ((v.f1.size : Int) ≤ 20) ↔ v.f1.size ≤ 20 := by omega
  by_cases h1 : 1 ≤ v.f0 <;> by_cases h2 : v.f0 ≤ 1073741824 <;> by_cases h3 : v.f1.size ≤ 20 <;> by_cases h4 : v.f2 = true <;> simp [h1, h2, h3, h4, e]

-- From place j on each version may be, and comes ahead of the one before it.
open Classical in
theorem ref_from (key : ByteArray) (l : List V) (hl : l.length ≤ 4611686018427387904) (d : Nat) : ∀ j, j + d = l.length →
    Ev (fun k => quorumref8_Chain.l0 k (j : Int) key l) (decide (OKfrom l j ∧ keyOK key = true ∧ 0 < l.length)) := by
  induction d with
  | zero =>
    intro j hj
    refine Ev.step (fun k => by simp only [quorumref8_Chain.l0]; rfl) ?_
    refine Ev.if_neg (by omega) (Ev.bind0 (ref_Key_eq key) (Ev.const ?_))
    have h1 := OKfrom.last (l := l) (j := j) (by omega)
    by_cases hk : keyOK key = true
    · simp only [hk, if_true, Option.some.injEq]
      rw [decide_eq_decide]
      simp only [h1, hk, true_and]
      omega
    · simp [hk]
  | succ d ih =>
    intro j hj
    have hlt : j < l.length := by omega
    refine Ev.step (fun k => by simp only [quorumref8_Chain.l0]; rfl) ?_
    refine Ev.if_pos (by omega) (Ev.if_pos (by omega) ?_)
    rw [rd_at l j hlt]
    refine Ev.bind0 (ref_Version_eq _) ?_
    have hs := OKfrom.step hlt
    refine Ev.iff (fun hv => Ev.iff (fun h0 => ?_) (fun h0 => ?_)) (fun hv => Ev.const ?_)
    · have h0' : 0 < j := by omega
      have hlt1 : j - 1 < l.length := by omega
      rw [wrap_pred j h0' (by omega), rd_at l (j - 1) hlt1, wrap_succ j (by omega)]
      refine Ev.if_pos (by omega) (Ev.if_pos (by omega) (Ev.iff (fun hc => Ev.const ?_) (fun hc => ?_)))
      · congr 1
        symm
        rw [decide_eq_false_iff_not]
        rintro ⟨h, _⟩
        have := (hs.1 h).1.2 h0' hlt1
        omega
      · have e : (OKfrom l j ∧ keyOK key = true ∧ 0 < l.length) ↔ (OKfrom l (j + 1) ∧ keyOK key = true ∧ 0 < l.length) := by
          rw [hs]
          have : vOK l[j] = true ∧ (0 < j → ∀ h2 : j - 1 < l.length, l[j].f0 < l[j - 1].f0) := ⟨hv, fun _ _ => by omega⟩
          exact ⟨fun h => ⟨h.1.2, h.2⟩, fun h => ⟨⟨this, h.1⟩, h.2⟩⟩
        rw [decide_eq_decide.2 e]
        exact ih (j + 1) (by omega)
    · rw [wrap_succ j (by omega)]
      have e : (OKfrom l j ∧ keyOK key = true ∧ 0 < l.length) ↔ (OKfrom l (j + 1) ∧ keyOK key = true ∧ 0 < l.length) := by
        rw [hs]
        have : vOK l[j] = true ∧ (0 < j → ∀ h2 : j - 1 < l.length, l[j].f0 < l[j - 1].f0) := ⟨hv, fun h _ => by omega⟩
        exact ⟨fun h => ⟨h.1.2, h.2⟩, fun h => ⟨⟨this, h.1⟩, h.2⟩⟩
      rw [decide_eq_decide.2 e]
      exact ih (j + 1) (by omega)
    · congr 1
      symm
      rw [decide_eq_false_iff_not]
      rintro ⟨h, _⟩
      exact hv (hs.1 h).1.1
open Classical in
theorem ref_ev (key : ByteArray) (l : List V) (hl : l.length ≤ 4611686018427387904) : Ev (fun k => quorumref8_Chain.f k key l) (decide (May key l)) := by
  have h := ref_from key l hl l.length 0 (by omega)
  have e : decide (May key l) = decide (OKfrom l 0 ∧ keyOK key = true ∧ 0 < l.length) := by rw [decide_eq_decide]; exact Iff.rfl
  rw [e]
  exact h

-- The place of the newest version up to commit n; what holds there; what is left.
end Go.Proofs.Ytbaecdcfefmcgaa.HChain
