/- PlanRollback: the pure statement's proof: each op of the script's, turned to this kind, and bare: PlanLocks of them all. -/
import Derived.Test.YtlnplaajhalekaaOpPlanRollback
import Derived.Test.YtlnplaajhalekaaHPlan
set_option linter.unusedVariables false
namespace Go.Proofs.Ytlnplaajhalekaa.Pure
open Go.RowKit Go.Proofs.Ytlnplaajhalekaa.PLk Go.Proofs.Ytlnplaajhalekaa.OpPlanRollback Go.Proofs.Ytlnplaajhalekaa.HNum Go.Proofs.Ytlnplaajhalekaa.HPlan Go.Proofs.YtlnplaajhalekaaW.PrintWords Go.Proofs.YtlnplaajhalekaaW.PrintLast
theorem PlanRollback : OpPlanRollback.Pure := by
  intro O P N hO hP hN hlen
  refine Ev.rounds ?_
  unfold quorumlaw12_PlanRollback.f
  exact Ev.bind (each_true 12 (by decide) (by decide) O P N hlen (by have := hP.2.1; omega) (fun p hp => ⟨by have := (hP.2.2 p hp).1.2.1; omega, by have := (hP.2.2 p hp).2.2.1; omega⟩) (by have := hN.2.1; omega)) (Ev.now true)
end Go.Proofs.Ytlnplaajhalekaa.Pure
