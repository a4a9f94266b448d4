/- TablePuts: the pure statement's proof. -/
import Derived.Test.YtbaecdcfefmcgaaOpTablePuts
import Derived.Test.YtbaecdcfefmcgaaHTableOnlyB
set_option linter.unusedVariables false
namespace Go.Proofs.Ytbaecdcfefmcgaa.Pure
open Go.RowKit Go.Proofs.Ytbaecdcfefmcgaa.PTbe Go.Proofs.Ytbaecdcfefmcgaa.HTable Go.Proofs.Ytbaecdcfefmcgaa.OpTablePuts Go.Proofs.YtbaecdcfefmcgaaW.PrintWords
theorem TablePuts : OpTablePuts.Pure := by
  intro P A hP hA
  refine Ev.rounds (g := fun k => quorumlaw9_TablePuts.f k P A) ?_
  unfold quorumlaw9_TablePuts.f
  refine Ev.bind (only_ev P A _ (by decide) ⟨by have := hP.2.1; omega, fun c hc => ?_⟩ (by have := hA.2.1; omega) (fun a ha => ?_)) (Ev.now _)
  · have h := hP.2.2 c hc
    exact ⟨by have := h.2.2.1; omega, h.1, fun v hv => (h.2.2.2 v hv).2.1⟩
  · have h := hA.2.2 a ha
    exact ⟨h.2.2.2.1, h.2.2.2.2.1.2.1, h.2.2.2.2.2.1.1, h.2.2.2.2.2.1.2.1⟩
end Go.Proofs.Ytbaecdcfefmcgaa.Pure
