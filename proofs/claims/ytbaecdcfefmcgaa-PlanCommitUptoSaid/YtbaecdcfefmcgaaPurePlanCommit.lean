/- PlanCommit: the pure statement's proof: each op of the script's, turned to this kind, and bare: PlanLocks of them all. -/
import Derived.Test.YtbaecdcfefmcgaaOpPlanCommit
import Derived.Test.YtbaecdcfefmcgaaHPlanCc
set_option linter.unusedVariables false
namespace Go.Proofs.Ytbaecdcfefmcgaa.Pure
open Go.RowKit Go.Proofs.Ytbaecdcfefmcgaa.PPlc Go.Proofs.Ytbaecdcfefmcgaa.OpPlanCommit Go.Proofs.Ytbaecdcfefmcgaa.HNum Go.Proofs.Ytbaecdcfefmcgaa.HPlan Go.Proofs.YtbaecdcfefmcgaaW.PrintWords Go.Proofs.YtbaecdcfefmcgaaW.PrintLast
theorem PlanCommit : OpPlanCommit.Pure := by
  intro O P N hO hP hN hlen
  refine Ev.rounds ?_
  unfold quorumlaw12_PlanCommit.f
  exact Ev.bind (each_true 11 rfl O P N hlen (by have := hP.2.1; omega) (fun p hp => ⟨by have := (hP.2.2 p hp).1.2.1; omega, by have := (hP.2.2 p hp).2.2.1; omega⟩) (by have := hN.2.1; omega)) (Ev.now true)
end Go.Proofs.Ytbaecdcfefmcgaa.Pure
