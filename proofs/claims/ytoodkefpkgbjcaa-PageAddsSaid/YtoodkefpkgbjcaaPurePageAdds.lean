/- PageAdds: the pure statement's proof. -/
import Derived.Test.YtoodkefpkgbjcaaOpPageAdds
import Derived.Test.YtoodkefpkgbjcaaHPageOnly
set_option linter.unusedVariables false
namespace Go.Proofs.Ytoodkefpkgbjcaa.Pure
open Go.RowKit Go.Proofs.Ytoodkefpkgbjcaa.PPgb Go.Proofs.Ytoodkefpkgbjcaa.HPage Go.Proofs.YtoodkefpkgbjcaaW.PrintWords
theorem PageAdds : OpPageAdds.Pure := by
  intro P M A hP hM hA
  refine Ev.rounds (g := fun k => quorumlaw5_PageAdds.f k P M A) ?_
  unfold quorumlaw5_PageAdds.f
  exact Ev.bind (only_ev P M A _ (by decide) ⟨by have := hP.2.1; omega, by have := hM.2.1; omega, hP.2.2⟩ (fun a ha => (hA.2.2 a ha).2.2) (by have := hA.2.1; omega)) (Ev.now _)
end Go.Proofs.Ytoodkefpkgbjcaa.Pure
