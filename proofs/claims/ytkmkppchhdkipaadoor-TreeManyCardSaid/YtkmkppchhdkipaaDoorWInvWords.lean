import Derived.Test.YtkmkppchhdkipaaDoorWInv
import Derived.Test.YtkmkppchhdkipaaDoorWFootNe
namespace Go.Proofs.YtkmkppchhdkipaaDoorW.PrintWords
open Go.RowKit
end Go.Proofs.YtkmkppchhdkipaaDoorW.PrintWords
namespace Go.Proofs.YtkmkppchhdkipaaDoorW.PrintLast
section
variable {ops : Array Oper} {a : Act} {o og : Oper} {g : Nat} {t : Tmp} {u : Bool}
end
end Go.Proofs.YtkmkppchhdkipaaDoorW.PrintLast
