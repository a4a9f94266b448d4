/- PageExact: the pure statement's proof: whatever acts come, each call tells what the page says, for every input within the reach. -/
import Derived.Test.YtoodkefpkgbjcaaOpPageExact
import Derived.Test.YtoodkefpkgbjcaaHPageLaw
set_option linter.unusedSimpArgs false
set_option linter.unusedVariables false
namespace Go.Proofs.Ytoodkefpkgbjcaa.HPage
open Go.RowKit Go.Proofs.Ytoodkefpkgbjcaa.PPgb Go.Proofs.Ytoodkefpkgbjcaa.HNum Go.Proofs.YtoodkefpkgbjcaaW.PrintWords Go.Proofs.YtoodkefpkgbjcaaW.PrintLast
section
variable (P : List Bs) (M : List Int) (A : List S64)
theorem acts (hA : ∀ a ∈ A, a.f2.size ≤ 140737488351232) (d : Nat) : ∀ (i : Nat) (S : List Bs) (F : List Int), i + d = 16 → Wf S F → Ev (fun k => quorumlaw5_PageExact.l0 k (i : Int) P M A S F) true := by
  have stop : ∀ (i : Int) (S : List Bs) (F : List Int), Ev (fun k => quorumlaw5_PageExact.j1 k i false P M A S F) true := fun i S F => Ev.step (fun k => by simp only [quorumlaw5_PageExact.j1]; rfl) (Ev.if_neg (by simp) (Ev.bind wakes_true (Ev.now _)))
  induction d with
  | zero =>
    intro i S F hi hw
    refine Ev.step (fun k => by simp only [quorumlaw5_PageExact.l0]; rfl) (Ev.iff (fun _ => ?_) (fun _ => stop _ _ _))
    rw [decide_eq_false (by omega)]
    exact stop _ _ _
  | succ d ih =>
    intro i S F hi hw
    refine Ev.step (fun k => by simp only [quorumlaw5_PageExact.l0]; rfl) (Ev.iff (fun hlt => ?_) (fun _ => stop _ _ _))
    rw [decide_eq_true (by omega)]
    have hs : (rd_T64 A (i : Int)).f2.size ≤ 140737488351232 := by
      have hm : i < A.length := by omega
      have : rd_T64 A (i : Int) = A[i] := by simp [rd_T64, hm]
      rw [this]
      exact hA _ (List.getElem_mem hm)
    obtain ⟨r, hr, he⟩ := step_ev S F hw (rd_T64 A (i : Int)).f0 (rd_T64 A (i : Int)).f1 (rd_T64 A (i : Int)).f2 hs
    refine Ev.step (fun k => by simp only [quorumlaw5_PageExact.j1]; rfl) ?_
    refine Ev.if_pos trivial ?_
    refine Ev.if_pos (by omega) ?_
    refine Ev.if_pos (by omega) ?_
    refine Ev.bind he ?_
    refine Ev.if_pos rfl ?_
    rw [wrap_succ i (by omega)]
    exact ih (i + 1) r.1 r.2 (by omega) hr
theorem exact_ev (hw : Wf P M) (hA : ∀ a ∈ A, a.f2.size ≤ 140737488351232) (hl : A.length ≤ 4611686018427387904) : Ev (fun k => quorumlaw5_PageExact.f k P M A) true := by
  have := hw.ls
  obtain ⟨b, hb⟩ := heavy_ends P M A (by omega) hl
  unfold quorumlaw5_PageExact.f
  refine Ev.bind hb ?_
  cases b with
  | true => exact Ev.if_pos (by first | rfl | trivial) (Ev.now _)
  | false => exact Ev.if_neg (by simp) (Ev.bind (copy_ev P M hw) (acts P M A hA 16 0 P M (by omega) hw))
end
end Go.Proofs.Ytoodkefpkgbjcaa.HPage
namespace Go.Proofs.Ytoodkefpkgbjcaa.Pure
open Go.RowKit Go.Proofs.Ytoodkefpkgbjcaa.HPage Go.Proofs.YtoodkefpkgbjcaaW.PrintWords
theorem PageExact : OpPageExact.Pure := by
  intro P M A hP hM hA
  refine Ev.rounds (exact_ev P M A ⟨by have := hP.2.1; omega, by have := hM.2.1; omega, hP.2.2⟩ (fun a ha => (hA.2.2 a ha).2.2) (by have := hA.2.1; omega))
end Go.Proofs.Ytoodkefpkgbjcaa.Pure
