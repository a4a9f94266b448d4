/- PendReleases: the pure statement's proof. -/
import Derived.Test.YtbaecdcfefmcgaaOpPendReleases
import Derived.Test.YtbaecdcfefmcgaaHPendOnly
set_option linter.unusedVariables false
namespace Go.Proofs.Ytbaecdcfefmcgaa.Pure
open Go.RowKit Go.Proofs.Ytbaecdcfefmcgaa.PPnd Go.Proofs.Ytbaecdcfefmcgaa.HPend Go.Proofs.YtbaecdcfefmcgaaW.PrintWords
theorem PendReleases : OpPendReleases.Pure := by
  intro P M A hP hM hA
  refine Ev.rounds (g := fun k => quorumlaw10_PendReleases.f k P M A) ?_
  unfold quorumlaw10_PendReleases.f
  exact Ev.bind (only_ev P M A _ (by decide) ⟨by have := hP.2.1; omega, by have := hM.2.1; omega⟩ (by have := hA.2.1; omega)) (Ev.now _)
end Go.Proofs.Ytbaecdcfefmcgaa.Pure
