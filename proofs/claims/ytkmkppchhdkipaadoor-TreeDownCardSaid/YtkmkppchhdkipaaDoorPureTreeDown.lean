/- TreeDown: the pure statement's proof. -/
import Derived.Test.YtkmkppchhdkipaaDoorOpTreeDown
import Derived.Test.YtkmkppchhdkipaaDoorHDo
set_option linter.unusedVariables false
namespace Go.Proofs.YtkmkppchhdkipaaDoor.Pure
open Go.RowKit Go.Proofs.YtkmkppchhdkipaaDoor.PTr Go.Proofs.YtkmkppchhdkipaaDoor.HTree Go.Proofs.YtkmkppchhdkipaaDoor.OpTreeDown Go.Proofs.YtkmkppchhdkipaaDoorW.PrintWords
theorem TreeDown : OpTreeDown.Pure := by
  intro N r fr A hN hr hfr hA
  exact Ev.rounds (g := fun k => quorumlaw6_TreeDown.f k N r fr A) (TreeDown_ev N r fr A hA.1)
end Go.Proofs.YtkmkppchhdkipaaDoor.Pure
