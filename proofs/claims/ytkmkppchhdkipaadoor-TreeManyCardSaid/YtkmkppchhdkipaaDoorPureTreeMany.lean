/- TreeMany: the pure statement's proof. -/
import Derived.Test.YtkmkppchhdkipaaDoorOpTreeMany
import Derived.Test.YtkmkppchhdkipaaDoorHMany
set_option linter.unusedVariables false
namespace Go.Proofs.YtkmkppchhdkipaaDoor.Pure
open Go.RowKit Go.Proofs.YtkmkppchhdkipaaDoor.PTr Go.Proofs.YtkmkppchhdkipaaDoor.HTree Go.Proofs.YtkmkppchhdkipaaDoor.OpTreeMany Go.Proofs.YtkmkppchhdkipaaDoorW.PrintWords
theorem TreeMany : OpTreeMany.Pure := by
  intro N r fr A hN hr hfr hA
  exact Ev.rounds (g := fun k => quorumlaw6_TreeMany.f k N r fr A) (TreeMany_ev N r fr A (by have := hN.2.1; omega) (fun x hx => by have := (hN.2.2 x hx).1.2.1; omega) (by have := hA.2.1; omega))
end Go.Proofs.YtkmkppchhdkipaaDoor.Pure
