/- PendExact: the pure statement's proof: whatever acts come, each call tells what the page says, for every input within the reach. -/
import Derived.Test.YtbaecdcfefmcgaaOpPendExact
import Derived.Test.YtbaecdcfefmcgaaHPendLaw
set_option linter.unusedSimpArgs false
set_option linter.unusedVariables false
set_option linter.unusedSectionVars false
namespace Go.Proofs.Ytbaecdcfefmcgaa.HPend
open Go.RowKit Go.Proofs.Ytbaecdcfefmcgaa.PPnd Go.Proofs.Ytbaecdcfefmcgaa.HNum Go.Proofs.YtbaecdcfefmcgaaW.PrintWords Go.Proofs.YtbaecdcfefmcgaaW.PrintLast
section
variable (P : List Wr) (M : List Int) (A : List Act)
theorem acts (d : Nat) : ∀ (i : Nat) (l : List Wr) (m : List Int), i + d = 20 → Wf l m → Ev (fun k => quorumlaw10_PendExact.l0 k (i : Int) P M A l m) true := by
  have stop : ∀ (i : Int) (l : List Wr) (m : List Int), Ev (fun k => quorumlaw10_PendExact.j1 k i false P M A l m) true := fun i l m => Ev.step (fun k => by simp only [quorumlaw10_PendExact.j1]; rfl) (Ev.if_neg (by simp) (Ev.bind wakes_true (Ev.now _)))
  induction d with
  | zero =>
    intro i l m hi hw
    refine Ev.step (fun k => by simp only [quorumlaw10_PendExact.l0]; rfl) (Ev.iff (fun _ => ?_) (fun _ => stop _ _ _))
    rw [decide_eq_false (by omega)]
    exact stop _ _ _
  | succ d ih =>
    intro i l m hi hw
    refine Ev.step (fun k => by simp only [quorumlaw10_PendExact.l0]; rfl) (Ev.iff (fun hlt => ?_) (fun _ => stop _ _ _))
    rw [decide_eq_true (by omega)]
    obtain ⟨r, hr, he⟩ := step_ev l m hw (rd_T62 A (i : Int)).f0 (rd_T62 A (i : Int)).f1 (rd_T62 A (i : Int)).f2
    refine Ev.step (fun k => by simp only [quorumlaw10_PendExact.j1]; rfl) ?_
    refine Ev.if_pos trivial ?_
    refine Ev.if_pos (by omega) ?_
    refine Ev.if_pos (by omega) ?_
    refine Ev.bind he ?_
    refine Ev.if_pos rfl ?_
    rw [wrap_succ i (by omega)]
    exact ih (i + 1) r.1 r.2 (by omega) hr
theorem exact_ev (hw : Wf P M) (hl : A.length ≤ 4611686018427387904) : Ev (fun k => quorumlaw10_PendExact.f k P M A) true := by
  have := hw.ll
  obtain ⟨b, hb⟩ := heavy_ends P M A (by omega) hl
  unfold quorumlaw10_PendExact.f
  refine Ev.bind hb ?_
  cases b with
  | true => exact Ev.if_pos (by first | rfl | trivial) (Ev.now _)
  | false => exact Ev.if_neg (by simp) (Ev.bind (copy_ev P M hw) (acts P M A 20 0 P M (by omega) hw))
end
end Go.Proofs.Ytbaecdcfefmcgaa.HPend
namespace Go.Proofs.Ytbaecdcfefmcgaa.Pure
open Go.RowKit Go.Proofs.Ytbaecdcfefmcgaa.HPend Go.Proofs.YtbaecdcfefmcgaaW.PrintWords
theorem PendExact : OpPendExact.Pure := by
  intro P M A hP hM hA
  refine Ev.rounds (exact_ev P M A ⟨by have := hP.2.1; omega, by have := hM.2.1; omega⟩ (by have := hA.2.1; omega))
end Go.Proofs.Ytbaecdcfefmcgaa.Pure
