import Derived.Test.YtbaecdcfefmcgaaWInv
import Derived.Test.YtbaecdcfefmcgaaWFootNe
namespace Go.Proofs.YtbaecdcfefmcgaaW.PrintWords
open Go.RowKit
end Go.Proofs.YtbaecdcfefmcgaaW.PrintWords
namespace Go.Proofs.YtbaecdcfefmcgaaW.PrintLast
section
variable {ops : Array Oper} {a : Act} {o og : Oper} {g : Nat} {t : Tmp} {u : Bool}
end
end Go.Proofs.YtbaecdcfefmcgaaW.PrintLast
