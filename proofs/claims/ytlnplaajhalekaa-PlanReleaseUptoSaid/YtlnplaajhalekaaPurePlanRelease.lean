/- PlanRelease: the pure statement's proof: each op of the script's, turned to this kind, and bare: PlanLocks of them all. -/
import Derived.Test.YtlnplaajhalekaaOpPlanRelease
import Derived.Test.YtlnplaajhalekaaHPlan
set_option linter.unusedVariables false
namespace Go.Proofs.Ytlnplaajhalekaa.Pure
open Go.RowKit Go.Proofs.Ytlnplaajhalekaa.PLk Go.Proofs.Ytlnplaajhalekaa.OpPlanRelease Go.Proofs.Ytlnplaajhalekaa.HNum Go.Proofs.Ytlnplaajhalekaa.HPlan Go.Proofs.YtlnplaajhalekaaW.PrintWords Go.Proofs.YtlnplaajhalekaaW.PrintLast
theorem PlanRelease : OpPlanRelease.Pure := by
  intro O P N hO hP hN hlen
  refine Ev.rounds ?_
  unfold quorumlaw12_PlanRelease.f
  exact Ev.bind (each_true 10 (by decide) (by decide) O P N hlen (by have := hP.2.1; omega) (fun p hp => ⟨by have := (hP.2.2 p hp).1.2.1; omega, by have := (hP.2.2 p hp).2.2.1; omega⟩) (by have := hN.2.1; omega)) (Ev.now true)
end Go.Proofs.Ytlnplaajhalekaa.Pure
