/- What the laws of acts of some kinds on what is pending come to: the acts are told anew, then each is judged as before. -/
import Derived.Test.YtbaecdcfefmcgaaPPndx12
import Derived.Test.YtbaecdcfefmcgaaPurePendExact
set_option linter.unusedSimpArgs false
set_option linter.unusedVariables false
set_option linter.unusedSectionVars false
namespace Go.Proofs.Ytbaecdcfefmcgaa.HPend
open Go.RowKit Go.Proofs.Ytbaecdcfefmcgaa.PPnd Go.Proofs.Ytbaecdcfefmcgaa.HNum Go.Proofs.YtbaecdcfefmcgaaW.PrintWords Go.Proofs.YtbaecdcfefmcgaaW.PrintLast
section
variable (P : List Wr) (M : List Int) (A : List Act)
theorem only_from (K : List Int) (hK : 0 < K.length) (hw : Wf P M) (hl : A.length ≤ 2199023255552) (d : Nat) : ∀ (i : Nat) (B : List Act), i + d = A.length → B.length = i → Ev (fun k => quorumlaw10_only.l0 k K (i : Int) P M A P M B) true := by
  induction d with
  | zero =>
    intro i B hi hB
    refine Ev.step (fun k => by simp only [quorumlaw10_only.l0]; rfl) ?_
    refine Ev.if_neg (by omega) ?_
    exact Ev.bind (exact_ev P M B hw (by omega)) (Ev.now _)
  | succ d ih =>
    intro i B hi hB
    refine Ev.step (fun k => by simp only [quorumlaw10_only.l0]; rfl) ?_
    refine Ev.if_pos (by omega) ?_
    refine Ev.if_pos (by omega) ?_
    refine Ev.if_neg (by omega) ?_
    refine Ev.if_pos (Int.tmod_nonneg _ (by omega)) ?_
    refine Ev.if_pos (Int.tmod_lt_of_pos _ (by omega)) ?_
    refine Ev.if_pos (by omega) ?_
    rw [wrap_succ i (by omega)]
    exact ih (i + 1) _ (by omega) (by simp [hB])
theorem only_ev (K : List Int) (hK : 0 < K.length) (hw : Wf P M) (hl : A.length ≤ 2199023255552) : Ev (fun k => quorumlaw10_only.f k P M A K) true := by
  unfold quorumlaw10_only.f
  exact only_from P M A K hK hw hl A.length 0 [] (by omega) rfl
end
end Go.Proofs.Ytbaecdcfefmcgaa.HPend
