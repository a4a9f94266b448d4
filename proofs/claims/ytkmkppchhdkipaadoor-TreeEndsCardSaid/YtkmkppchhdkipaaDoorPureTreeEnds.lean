/- TreeEnds: the pure statement's proof. -/
import Derived.Test.YtkmkppchhdkipaaDoorOpTreeEnds
import Derived.Test.YtkmkppchhdkipaaDoorHDo
set_option linter.unusedVariables false
namespace Go.Proofs.YtkmkppchhdkipaaDoor.Pure
open Go.RowKit Go.Proofs.YtkmkppchhdkipaaDoor.PTr Go.Proofs.YtkmkppchhdkipaaDoor.HTree Go.Proofs.YtkmkppchhdkipaaDoor.OpTreeEnds Go.Proofs.YtkmkppchhdkipaaDoorW.PrintWords
theorem TreeEnds : OpTreeEnds.Pure := by
  intro N r fr A hN hr hfr hA
  exact Ev.rounds (g := fun k => quorumlaw6_TreeEnds.f k N r fr A) (TreeEnds_ev N r fr A hA.1)
end Go.Proofs.YtkmkppchhdkipaaDoor.Pure
