/- What the laws of one kind of act on a page come to: the acts are told anew, then each is judged as before. -/
import Derived.Test.YtoodkefpkgbjcaaPPgbx15
import Derived.Test.YtoodkefpkgbjcaaPurePageExact
set_option linter.unusedSimpArgs false
set_option linter.unusedVariables false
namespace Go.Proofs.Ytoodkefpkgbjcaa.HPage
open Go.RowKit Go.Proofs.Ytoodkefpkgbjcaa.PPgb Go.Proofs.Ytoodkefpkgbjcaa.HNum Go.Proofs.YtoodkefpkgbjcaaW.PrintWords Go.Proofs.YtoodkefpkgbjcaaW.PrintLast
section
variable (P : List Bs) (M : List Int) (A : List S64)
theorem only_from (K : List Int) (hK : 0 < K.length) (hw : Wf P M) (hA : ∀ a ∈ A, a.f2.size ≤ 140737488351232) (hl : A.length ≤ 4398046511104) (d : Nat) : ∀ (i : Nat) (B : List S64), i + d = A.length → B.length = i → (∀ b ∈ B, b.f2.size ≤ 140737488351232) → Ev (fun k => quorumlaw5_only.l0 k K (i : Int) P M A P M B) true := by
  induction d with
  | zero =>
    intro i B hi hB hb
    refine Ev.step (fun k => by simp only [quorumlaw5_only.l0]; rfl) ?_
    refine Ev.if_neg (by omega) ?_
    exact Ev.bind (exact_ev P M B hw hb (by omega)) (Ev.now _)
  | succ d ih =>
    intro i B hi hB hb
    refine Ev.step (fun k => by simp only [quorumlaw5_only.l0]; rfl) ?_
    refine Ev.if_pos (by omega) ?_
    refine Ev.if_pos (by omega) ?_
    refine Ev.if_neg (by omega) ?_
    refine Ev.if_pos (Int.tmod_nonneg _ (by omega)) ?_
    refine Ev.if_pos (Int.tmod_lt_of_pos _ (by omega)) ?_
    refine Ev.if_pos (by omega) ?_
    rw [wrap_succ i (by omega)]
    refine ih (i + 1) _ (by omega) (by simp [hB]) ?_
    intro b hm
    rcases List.mem_append.mp hm with h | h
    · exact hb b h
    · have hi2 : i < A.length := by omega
      have e : rd_T64 A (i : Int) = A[i] := by simp [rd_T64, hi2]
      simp only [List.mem_singleton] at h
      subst h
      show (rd_T64 A (i : Int)).f2.size ≤ _
      rw [e]
      exact hA _ (List.getElem_mem hi2)
theorem only_ev (K : List Int) (hK : 0 < K.length) (hw : Wf P M) (hA : ∀ a ∈ A, a.f2.size ≤ 140737488351232) (hl : A.length ≤ 4398046511104) : Ev (fun k => quorumlaw5_only.f k P M A K) true := by
  unfold quorumlaw5_only.f
  exact only_from P M A K hK hw hA hl A.length 0 [] (by omega) rfl (fun b hb => by cases hb)
end
end Go.Proofs.Ytoodkefpkgbjcaa.HPage
