/- The reference's chain, what it says: at a commit, purged, with one more; and a new chain. -/
import Derived.Test.YtoodkefpkgbjcaaHChainAdd
import Derived.Test.YtoodkefpkgbjcaaHChainRef
import Derived.Test.YtoodkefpkgbjcaaPChtx5
import Derived.Test.YtoodkefpkgbjcaaPChtx5
import Derived.Test.YtoodkefpkgbjcaaPChtx6
import Derived.Test.YtoodkefpkgbjcaaPChtx6
import Derived.Test.YtoodkefpkgbjcaaPChtx4
set_option linter.unusedSimpArgs false
set_option linter.unusedVariables false
namespace Go.Proofs.Ytoodkefpkgbjcaa.HChain
open Go.RowKit Go.Proofs.Ytoodkefpkgbjcaa.PCht Go.Proofs.Ytoodkefpkgbjcaa.HNum Go.Proofs.YtoodkefpkgbjcaaW.PrintWords Go.Proofs.YtoodkefpkgbjcaaW.PrintLast
theorem take_snoc {α : Type} (l : List α) (j : Nat) (h : j < l.length) : l.take j ++ [l[j]] = l.take (j + 1) := by rw [List.take_succ_eq_append_getElem h]
theorem copyv_from (l : List V) (hl : l.length ≤ 4398046511104) (d : Nat) : ∀ j, j + d = l.length → Ev (fun k => quorumref0_CopyVersions.l0 k l (l.take j) (j : Int)) l := by
  induction d with
  | zero =>
    intro j hj
    refine Ev.step (fun k => by simp only [quorumref0_CopyVersions.l0]; rfl) ?_
    rw [List.take_of_length_le (by omega)]
    exact Ev.if_neg (by omega) (Ev.now _)
  | succ d ih =>
    intro j hj
    have hlt : j < l.length := by omega
    refine Ev.step (fun k => by simp only [quorumref0_CopyVersions.l0]; rfl) ?_
    rw [rd_at l j hlt, wrap_succ j (by omega)]
    refine Ev.if_pos (by omega) ?_
    refine Ev.if_pos (by omega) ?_
    refine Ev.if_pos (by rw [List.length_take]; omega) ?_
    have e : l.take j ++ [(⟨(l[j]).f0, (l[j]).f1, (l[j]).f2⟩ : V)] = l.take (j + 1) := take_snoc l j hlt
    rw [e]
    exact ih (j + 1) (by omega)
theorem copyv_ev (l : List V) (hl : l.length ≤ 4398046511104) : Ev (fun k => quorumref0_CopyVersions.f k l) l := copyv_from l hl l.length 0 (by omega)
theorem copyc_ev (key : ByteArray) (l : List V) (hl : l.length ≤ 4398046511104) : Ev (fun k => quorumref0_CopyChain.f k key l) (key, l) := by
  unfold quorumref0_CopyChain.f
  exact Ev.bind (copyv_ev l hl) (Ev.now _)
theorem newest_from (key : ByteArray) (l : List V) (n : Int) (hl : l.length ≤ 4611686018427387904) (d : Nat) : ∀ j, j + d = l.length → j ≤ place l n → Ev (fun k => quorumref8_newest.l0 k n (j : Int) key l) (if place l n < l.length then (place l n : Int) else -1) := by
  induction d with
  | zero =>
    intro j hj hp
    have := place_le l n
    rw [if_neg (by omega)]
    refine Ev.step (fun k => by simp only [quorumref8_newest.l0]; rfl) ?_
    exact Ev.if_neg (by omega) (Ev.now _)
  | succ d ih =>
    intro j hj hp
    have hlt : j < l.length := by omega
    refine Ev.step (fun k => by simp only [quorumref8_newest.l0]; rfl) ?_
    rw [rd_at l j hlt, wrap_succ j (by omega)]
    refine Ev.if_pos (by omega) ?_
    refine Ev.if_pos (by omega) ?_
    by_cases h : (l[j]).f0 ≤ n
    · refine Ev.if_pos h ?_
      have e : place l n = j := by
        rcases Nat.lt_or_ge j (place l n) with h1 | h1
        · have := before_place l n j hlt h1; omega
        · omega
      rw [e, if_pos hlt]
      exact Ev.now _
    · refine Ev.if_neg h ?_
      refine ih (j + 1) (by omega) ?_
      rcases Nat.lt_or_ge j (place l n) with h1 | h1
      · omega
      · exfalso
        have e : place l n = j := by omega
        have h2 := at_place l n (by omega)
        simp only [e] at h2
        exact h h2
theorem newest_ev (key : ByteArray) (l : List V) (n : Int) (hl : l.length ≤ 4611686018427387904) : Ev (fun k => quorumref8_newest.f k key l n) (if place l n < l.length then (place l n : Int) else -1) := newest_from key l n hl l.length 0 (by omega) (by omega)
theorem refAt_ev (key : ByteArray) (l : List V) (n : Int) (hl : l.length ≤ 4611686018427387904) : Ev (fun k => quorumref8_At.f k key l n) (match look l n with | some v => (v.f0, v.f1, v.f2, true) | none => (0, ⟨#[]⟩, false, false)) := by
  unfold quorumref8_At.f
  refine Ev.bind (newest_ev key l n hl) ?_
  unfold look
  by_cases h : place l n < l.length
  · rw [if_pos h, dif_pos h, rd_at l _ h]
    refine Ev.if_neg (by omega) ?_
    refine Ev.if_pos (by omega) ?_
    refine Ev.if_pos (by omega) ?_
    by_cases hg : (l[place l n]).f2 = true
    · refine Ev.if_pos hg ?_
      rw [if_pos hg]; exact Ev.now _
    · refine Ev.if_neg hg ?_
      rw [if_neg hg]; exact Ev.now _
  · rw [if_neg h, dif_neg h]
    exact Ev.if_pos (by omega) (Ev.now _)
theorem refPurge_ev (key : ByteArray) (l : List V) (n : Int) (hl : l.length ≤ 4398046511104) : Ev (fun k => quorumref8_Purge.f k key l n) (if (left l n).length = 0 then (⟨#[]⟩, [], false) else (key, left l n, true)) := by
  have hle := place_le l n
  unfold quorumref8_Purge.f
  refine Ev.bind (copyc_ev key l hl) ?_
  dsimp only
  refine Ev.bind (newest_ev key l n (by omega)) ?_
  unfold left
  by_cases h : place l n < l.length
  · rw [if_pos h, dif_pos h, rd_at l _ h, wrap_succ _ (by omega)]
    refine Ev.if_pos (by omega) ?_
    refine Ev.if_pos (by omega) ?_
    refine Ev.if_pos (by omega) ?_
    by_cases hg : (l[place l n]).f2 = true
    · refine Ev.if_pos hg ?_
      rw [if_pos hg]
      refine Ev.if_pos (by omega) ?_
      refine Ev.bind0 rfl ?_
      rw [Int.toNat_natCast]
      by_cases hz : (l.take (place l n)).length = 0
      · rw [if_pos hz]; exact Ev.if_pos (by omega) (Ev.now _)
      · rw [if_neg hz]; exact Ev.if_neg (by omega) (Ev.now _)
    · refine Ev.if_neg hg ?_
      rw [if_neg hg]
      refine Ev.if_pos (by omega) ?_
      refine Ev.if_pos (by omega) ?_
      refine Ev.bind0 rfl ?_
      rw [Int.toNat_natCast]
      by_cases hz : (l.take (place l n + 1)).length = 0
      · rw [if_pos hz]; exact Ev.if_pos (by omega) (Ev.now _)
      · rw [if_neg hz]; exact Ev.if_neg (by omega) (Ev.now _)
  · rw [if_neg h, dif_neg h]
    refine Ev.if_neg (by omega) ?_
    by_cases hz : l.length = 0
    · rw [if_pos hz]; exact Ev.if_pos (by omega) (Ev.now _)
    · rw [if_neg hz]; exact Ev.if_neg (by omega) (Ev.now _)
theorem refAdd_ev (key : ByteArray) (l : List V) (v : V) (hl : l.length + 1 < 4398046511104) : Ev (fun k => quorumref8_Add.f k key l v.f0 v.f1 v.f2) (key, v :: l) := by
  unfold quorumref8_Add.f
  refine Ev.bind0 rfl ?_
  refine Ev.bind (copyv_ev l (by omega)) ?_
  exact Ev.if_pos (by simp; omega) (Ev.now _)
open Classical in
theorem Check_ev (key : ByteArray) (l : List V) (hl : l.length ≤ 4611686018427387904) : Ev (fun k => chain_Check.f k key l) (if May key l then 0 else 1) := by
  unfold chain_Check.f
  refine Ev.bind (May_ev key l hl) ?_
  by_cases h : May key l
  · rw [if_pos h]; exact Ev.if_pos (decide_eq_true h) (Ev.now _)
  · rw [if_neg h]; exact Ev.if_neg (by simpa using h) (Ev.now _)
theorem May_one (s : ByteArray) (v : V) : May s [v] ↔ keyOK s = true ∧ vOK v = true := by
  constructor
  · intro h; exact ⟨h.2.1, (h.1 0 (by simp) (by omega)).1⟩
  · rintro ⟨h1, h2⟩
    refine ⟨fun i hi _ => ?_, h1, by simp⟩
    have : i = 0 := by simp at hi; omega
    subst this
    exact ⟨h2, fun h => absurd h (by omega)⟩
theorem New_ev (s : ByteArray) (v : V) : Ev (fun k => chain_New.f k s v.f0 v.f1 v.f2) (if keyOK s = true ∧ vOK v = true then (s, [v], 0) else (⟨#[]⟩, [], 1)) := by
  classical
  unfold chain_New.f
  refine Ev.bind0 rfl ?_
  refine Ev.bind (May_ev s [v] (by simp)) ?_
  by_cases h : keyOK s = true ∧ vOK v = true
  · rw [if_pos h]; exact Ev.if_pos (decide_eq_true ((May_one s v).2 h)) (Ev.now _)
  · rw [if_neg h]; exact Ev.if_neg (by simpa using fun e => h ((May_one s v).1 e)) (Ev.now _)
end Go.Proofs.Ytoodkefpkgbjcaa.HChain
