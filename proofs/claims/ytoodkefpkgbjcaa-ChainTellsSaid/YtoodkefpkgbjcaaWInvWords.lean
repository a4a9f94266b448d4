import Derived.Test.YtoodkefpkgbjcaaWInv
import Derived.Test.YtoodkefpkgbjcaaWFootNe
namespace Go.Proofs.YtoodkefpkgbjcaaW.PrintWords
open Go.RowKit
end Go.Proofs.YtoodkefpkgbjcaaW.PrintWords
namespace Go.Proofs.YtoodkefpkgbjcaaW.PrintLast
section
variable {ops : Array Oper} {a : Act} {o og : Oper} {g : Nat} {t : Tmp} {u : Bool}
end
end Go.Proofs.YtoodkefpkgbjcaaW.PrintLast
