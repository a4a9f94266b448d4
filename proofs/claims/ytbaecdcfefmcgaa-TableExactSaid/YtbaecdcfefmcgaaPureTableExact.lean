/- TableExact: the pure statement's proof. -/
import Derived.Test.YtbaecdcfefmcgaaOpTableExact
import Derived.Test.YtbaecdcfefmcgaaHTabLaws
set_option linter.unusedVariables false
namespace Go.Proofs.Ytbaecdcfefmcgaa.Pure
open Go.RowKit Go.Proofs.Ytbaecdcfefmcgaa.PTbe Go.Proofs.Ytbaecdcfefmcgaa.HTable Go.Proofs.Ytbaecdcfefmcgaa.OpTableExact Go.Proofs.YtbaecdcfefmcgaaW.PrintWords
theorem TableExact : OpTableExact.Pure := by
  intro P A hP hA
  refine Ev.rounds (g := fun k => quorumlaw9_TableExact.f k P A) ?_
  refine exact_ev P A ⟨by have := hP.2.1; omega, fun c hc => ?_⟩ (by have := hA.2.1; omega) (fun a ha => ?_)
  · have h := hP.2.2 c hc
    exact ⟨by have := h.2.2.1; omega, h.1, fun v hv => (h.2.2.2 v hv).2.1⟩
  · have h := hA.2.2 a ha
    exact ⟨h.2.2.2.1, h.2.2.2.2.1.2.1, h.2.2.2.2.2.1.1, h.2.2.2.2.2.1.2.1⟩
end Go.Proofs.Ytbaecdcfefmcgaa.Pure
