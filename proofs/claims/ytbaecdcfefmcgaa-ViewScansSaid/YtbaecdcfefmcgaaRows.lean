/-
  No cell of these rows narrows 'for every input' (looked for: loops, veiled, ifaces, maps, wideKeys, modest, calm, conditions, laid).
  DERIVED. THE GIVEN ROWS OF THIS SEAT. 11 by the template 'for every input the law returns true; each argument reads behind the call as it read before'; 0 by the template 'total and deterministic' (their statements: YtbaecdcfefmcgaaTotals.lean).
  GIVEN WITH THE SEED: the statements are not yours to turn. If you find one false, say at which input.
  Laid BY PROGRAM, IN A SANDBOX (cutbox-rows.mjs): the forced cells as the released guide's own fill.sh prints them over the translation 6454aafb425f2dcb… (all of the seat's roots in one cut). By AI agents, Wed Nov 11 2026. No macro, syntax, notation, axiom, sorry.
-/
import Derived.Test.YtbaecdcfefmcgaaChecked
import GoSem.Claim
import GoSem.ClaimJoined
import GoSem.ClaimMapViews
import Derived.JoinedTies
import Derived.KernelRfl
namespace Go.Proofs.Ytbaecdcfefmcgaa
/- THE CELL 'sum', in the pinned program and in every row, IS THE sha256 OF THE DUMP (.gsa) THAT YtbaecdcfefmcgaaProg.lean LOADS. Nothing in Lean hashes anything: it is a label: what it is worth is what the hold of that sum in a sandbox is worth. -/
noncomputable def Try.pinned : Pinned := { name := "ytbaecdcfefmcgaa", sum := "6454aafb425f2dcb375229c96febd29fbd123ffa5e371ea70f96e372311e1fdd", checked := Try.checked }
namespace Rows
def none {H : Type} : Left H := { results := [], args := [] }

/-- 'quorumlaw11.ViewOwn': WHATEVER THE INPUT: true; the input reads as it did. -/
def viewOwnSpec : ChangeSpec := { name := "viewOwn", fn := fun _ => fun
  | [d] => { results := [.lit (.bool true)], args := [d] }
  | _ => none }
def viewOwnRow : OpenClaim := { program := "ytbaecdcfefmcgaa", sum := "6454aafb425f2dcb375229c96febd29fbd123ffa5e371ea70f96e372311e1fdd", func := "quorum/quorumlaw11.ViewOwn", spec := "viewOwn", inPlace := ["internal/bytealg.abigen_runtime_cmpstring"], unfollowed := true, recurses := true, apart := false }
def ViewOwnSaid : Prop := viewOwnRow.holds Try.pinned (OpenSpec.ofChange viewOwnSpec)

/-- ITS FALSE NEIGHBOUR: 'it returns false'. Refute it at one input. -/
def viewOwnWrong : ChangeSpec := { name := "viewOwn", fn := fun _ => fun
  | [d] => { results := [.lit (.bool false)], args := [d] }
  | _ => none }
def ViewOwnWrongFalsely : Prop := viewOwnRow.holds Try.pinned (OpenSpec.ofChange viewOwnWrong)

/-- 'quorumlaw12.PlanCommit': WHATEVER THE INPUT: true; the input reads as it did. -/
def planCommitSpec : ChangeSpec := { name := "planCommit", fn := fun _ => fun
  | [d] => { results := [.lit (.bool true)], args := [d] }
  | _ => none }
def planCommitRow : OpenClaim := { program := "ytbaecdcfefmcgaa", sum := "6454aafb425f2dcb375229c96febd29fbd123ffa5e371ea70f96e372311e1fdd", func := "quorum/quorumlaw12.PlanCommit", spec := "planCommit", inPlace := ["internal/bytealg.abigen_runtime_cmpstring"], unfollowed := true, recurses := true, apart := false }
def PlanCommitSaid : Prop := planCommitRow.holds Try.pinned (OpenSpec.ofChange planCommitSpec)

/-- ITS FALSE NEIGHBOUR: 'it returns false'. Refute it at one input. -/
def planCommitWrong : ChangeSpec := { name := "planCommit", fn := fun _ => fun
  | [d] => { results := [.lit (.bool false)], args := [d] }
  | _ => none }
def PlanCommitWrongFalsely : Prop := planCommitRow.holds Try.pinned (OpenSpec.ofChange planCommitWrong)

/-- 'quorumlaw10.PendExact': WHATEVER THE INPUT: true; the input reads as it did. -/
def pendExactSpec : ChangeSpec := { name := "pendExact", fn := fun _ => fun
  | [d] => { results := [.lit (.bool true)], args := [d] }
  | _ => none }
def pendExactRow : OpenClaim := { program := "ytbaecdcfefmcgaa", sum := "6454aafb425f2dcb375229c96febd29fbd123ffa5e371ea70f96e372311e1fdd", func := "quorum/quorumlaw10.PendExact", spec := "pendExact", inPlace := ["internal/bytealg.abigen_runtime_cmpstring"], unfollowed := true, recurses := true, apart := false }
def PendExactSaid : Prop := pendExactRow.holds Try.pinned (OpenSpec.ofChange pendExactSpec)

/-- ITS FALSE NEIGHBOUR: 'it returns false'. Refute it at one input. -/
def pendExactWrong : ChangeSpec := { name := "pendExact", fn := fun _ => fun
  | [d] => { results := [.lit (.bool false)], args := [d] }
  | _ => none }
def PendExactWrongFalsely : Prop := pendExactRow.holds Try.pinned (OpenSpec.ofChange pendExactWrong)

/-- 'quorumlaw10.PendSaves': WHATEVER THE INPUT: true; the input reads as it did. -/
def pendSavesSpec : ChangeSpec := { name := "pendSaves", fn := fun _ => fun
  | [d] => { results := [.lit (.bool true)], args := [d] }
  | _ => none }
def pendSavesRow : OpenClaim := { program := "ytbaecdcfefmcgaa", sum := "6454aafb425f2dcb375229c96febd29fbd123ffa5e371ea70f96e372311e1fdd", func := "quorum/quorumlaw10.PendSaves", spec := "pendSaves", inPlace := ["internal/bytealg.abigen_runtime_cmpstring"], unfollowed := true, recurses := true, apart := false }
def PendSavesSaid : Prop := pendSavesRow.holds Try.pinned (OpenSpec.ofChange pendSavesSpec)

/-- ITS FALSE NEIGHBOUR: 'it returns false'. Refute it at one input. -/
def pendSavesWrong : ChangeSpec := { name := "pendSaves", fn := fun _ => fun
  | [d] => { results := [.lit (.bool false)], args := [d] }
  | _ => none }
def PendSavesWrongFalsely : Prop := pendSavesRow.holds Try.pinned (OpenSpec.ofChange pendSavesWrong)

/-- 'quorumlaw10.PendReturns': WHATEVER THE INPUT: true; the input reads as it did. -/
def pendReturnsSpec : ChangeSpec := { name := "pendReturns", fn := fun _ => fun
  | [d] => { results := [.lit (.bool true)], args := [d] }
  | _ => none }
def pendReturnsRow : OpenClaim := { program := "ytbaecdcfefmcgaa", sum := "6454aafb425f2dcb375229c96febd29fbd123ffa5e371ea70f96e372311e1fdd", func := "quorum/quorumlaw10.PendReturns", spec := "pendReturns", inPlace := ["internal/bytealg.abigen_runtime_cmpstring"], unfollowed := true, recurses := true, apart := false }
def PendReturnsSaid : Prop := pendReturnsRow.holds Try.pinned (OpenSpec.ofChange pendReturnsSpec)

/-- ITS FALSE NEIGHBOUR: 'it returns false'. Refute it at one input. -/
def pendReturnsWrong : ChangeSpec := { name := "pendReturns", fn := fun _ => fun
  | [d] => { results := [.lit (.bool false)], args := [d] }
  | _ => none }
def PendReturnsWrongFalsely : Prop := pendReturnsRow.holds Try.pinned (OpenSpec.ofChange pendReturnsWrong)

/-- 'quorumlaw10.PendReleases': WHATEVER THE INPUT: true; the input reads as it did. -/
def pendReleasesSpec : ChangeSpec := { name := "pendReleases", fn := fun _ => fun
  | [d] => { results := [.lit (.bool true)], args := [d] }
  | _ => none }
def pendReleasesRow : OpenClaim := { program := "ytbaecdcfefmcgaa", sum := "6454aafb425f2dcb375229c96febd29fbd123ffa5e371ea70f96e372311e1fdd", func := "quorum/quorumlaw10.PendReleases", spec := "pendReleases", inPlace := ["internal/bytealg.abigen_runtime_cmpstring"], unfollowed := true, recurses := true, apart := false }
def PendReleasesSaid : Prop := pendReleasesRow.holds Try.pinned (OpenSpec.ofChange pendReleasesSpec)

/-- ITS FALSE NEIGHBOUR: 'it returns false'. Refute it at one input. -/
def pendReleasesWrong : ChangeSpec := { name := "pendReleases", fn := fun _ => fun
  | [d] => { results := [.lit (.bool false)], args := [d] }
  | _ => none }
def PendReleasesWrongFalsely : Prop := pendReleasesRow.holds Try.pinned (OpenSpec.ofChange pendReleasesWrong)

/-- 'quorumlaw9.TableExact': WHATEVER THE INPUT: true; the input reads as it did. -/
def tableExactSpec : ChangeSpec := { name := "tableExact", fn := fun _ => fun
  | [d] => { results := [.lit (.bool true)], args := [d] }
  | _ => none }
def tableExactRow : OpenClaim := { program := "ytbaecdcfefmcgaa", sum := "6454aafb425f2dcb375229c96febd29fbd123ffa5e371ea70f96e372311e1fdd", func := "quorum/quorumlaw9.TableExact", spec := "tableExact", inPlace := ["internal/bytealg.abigen_runtime_cmpstring", "slices.overlaps[quorum/api.Version]", "slices.overlaps[quorum/api.Chain]"], unfollowed := true, recurses := true, apart := false }
def TableExactSaid : Prop := tableExactRow.holds Try.pinned (OpenSpec.ofChange tableExactSpec)

/-- ITS FALSE NEIGHBOUR: 'it returns false'. Refute it at one input. -/
def tableExactWrong : ChangeSpec := { name := "tableExact", fn := fun _ => fun
  | [d] => { results := [.lit (.bool false)], args := [d] }
  | _ => none }
def TableExactWrongFalsely : Prop := tableExactRow.holds Try.pinned (OpenSpec.ofChange tableExactWrong)

/-- 'quorumlaw9.TablePuts': WHATEVER THE INPUT: true; the input reads as it did. -/
def tablePutsSpec : ChangeSpec := { name := "tablePuts", fn := fun _ => fun
  | [d] => { results := [.lit (.bool true)], args := [d] }
  | _ => none }
def tablePutsRow : OpenClaim := { program := "ytbaecdcfefmcgaa", sum := "6454aafb425f2dcb375229c96febd29fbd123ffa5e371ea70f96e372311e1fdd", func := "quorum/quorumlaw9.TablePuts", spec := "tablePuts", inPlace := ["internal/bytealg.abigen_runtime_cmpstring", "slices.overlaps[quorum/api.Version]", "slices.overlaps[quorum/api.Chain]"], unfollowed := true, recurses := true, apart := false }
def TablePutsSaid : Prop := tablePutsRow.holds Try.pinned (OpenSpec.ofChange tablePutsSpec)

/-- ITS FALSE NEIGHBOUR: 'it returns false'. Refute it at one input. -/
def tablePutsWrong : ChangeSpec := { name := "tablePuts", fn := fun _ => fun
  | [d] => { results := [.lit (.bool false)], args := [d] }
  | _ => none }
def TablePutsWrongFalsely : Prop := tablePutsRow.holds Try.pinned (OpenSpec.ofChange tablePutsWrong)

/-- 'quorumlaw9.TableScans': WHATEVER THE INPUT: true; the input reads as it did. -/
def tableScansSpec : ChangeSpec := { name := "tableScans", fn := fun _ => fun
  | [d] => { results := [.lit (.bool true)], args := [d] }
  | _ => none }
def tableScansRow : OpenClaim := { program := "ytbaecdcfefmcgaa", sum := "6454aafb425f2dcb375229c96febd29fbd123ffa5e371ea70f96e372311e1fdd", func := "quorum/quorumlaw9.TableScans", spec := "tableScans", inPlace := ["internal/bytealg.abigen_runtime_cmpstring", "slices.overlaps[quorum/api.Version]", "slices.overlaps[quorum/api.Chain]"], unfollowed := true, recurses := true, apart := false }
def TableScansSaid : Prop := tableScansRow.holds Try.pinned (OpenSpec.ofChange tableScansSpec)

/-- ITS FALSE NEIGHBOUR: 'it returns false'. Refute it at one input. -/
def tableScansWrong : ChangeSpec := { name := "tableScans", fn := fun _ => fun
  | [d] => { results := [.lit (.bool false)], args := [d] }
  | _ => none }
def TableScansWrongFalsely : Prop := tableScansRow.holds Try.pinned (OpenSpec.ofChange tableScansWrong)

/-- 'quorumlaw9.TablePurges': WHATEVER THE INPUT: true; the input reads as it did. -/
def tablePurgesSpec : ChangeSpec := { name := "tablePurges", fn := fun _ => fun
  | [d] => { results := [.lit (.bool true)], args := [d] }
  | _ => none }
def tablePurgesRow : OpenClaim := { program := "ytbaecdcfefmcgaa", sum := "6454aafb425f2dcb375229c96febd29fbd123ffa5e371ea70f96e372311e1fdd", func := "quorum/quorumlaw9.TablePurges", spec := "tablePurges", inPlace := ["internal/bytealg.abigen_runtime_cmpstring", "slices.overlaps[quorum/api.Version]", "slices.overlaps[quorum/api.Chain]"], unfollowed := true, recurses := true, apart := false }
def TablePurgesSaid : Prop := tablePurgesRow.holds Try.pinned (OpenSpec.ofChange tablePurgesSpec)

/-- ITS FALSE NEIGHBOUR: 'it returns false'. Refute it at one input. -/
def tablePurgesWrong : ChangeSpec := { name := "tablePurges", fn := fun _ => fun
  | [d] => { results := [.lit (.bool false)], args := [d] }
  | _ => none }
def TablePurgesWrongFalsely : Prop := tablePurgesRow.holds Try.pinned (OpenSpec.ofChange tablePurgesWrong)

/-- 'quorumlaw11.ViewScans': WHATEVER THE INPUT: true; the input reads as it did. -/
def viewScansSpec : ChangeSpec := { name := "viewScans", fn := fun _ => fun
  | [d] => { results := [.lit (.bool true)], args := [d] }
  | _ => none }
def viewScansRow : OpenClaim := { program := "ytbaecdcfefmcgaa", sum := "6454aafb425f2dcb375229c96febd29fbd123ffa5e371ea70f96e372311e1fdd", func := "quorum/quorumlaw11.ViewScans", spec := "viewScans", inPlace := ["internal/bytealg.abigen_runtime_cmpstring", "slices.overlaps[quorum/api.Row]"], unfollowed := true, recurses := true, apart := false }
def ViewScansSaid : Prop := viewScansRow.holds Try.pinned (OpenSpec.ofChange viewScansSpec)

/-- ITS FALSE NEIGHBOUR: 'it returns false'. Refute it at one input. -/
def viewScansWrong : ChangeSpec := { name := "viewScans", fn := fun _ => fun
  | [d] => { results := [.lit (.bool false)], args := [d] }
  | _ => none }
def ViewScansWrongFalsely : Prop := viewScansRow.holds Try.pinned (OpenSpec.ofChange viewScansWrong)

/- THE SECOND FORM. 'bulk': how many values and letters a reading holds, each counted each time it is reached (what is shared counts as often as it is met; a slice's spare places count too). A statement '..UptoSaid' is the law's where the arguments, and the package variables that the reading takes, are together of bulk at most 1048576: NARROWER than '..Said'. Prove '..Said' where nothing that the law and all that it calls make is longer than what came in: it says more and counts as full. Else prove '..UptoSaid'. A law counts once. -/
mutual
def uptoBulk {H : Type} : DataW H → Nat
  | .lit (.string bytes) => bytes.length + 1
  | .lit _ => 1
  | .nil => 1
  | .ptr d => uptoBulk d + 1
  | .slice elems spare => uptoBulkAll elems + uptoBulkAll spare + 1
  | .agg parts => uptoBulkAll parts + 1
  | .iface _ d => uptoBulk d + 1
  | .map entries => uptoBulkEntries entries + 1
  | .held _ => 1
def uptoBulkAll {H : Type} : List (DataW H) → Nat
  | [] => 0
  | d :: r => uptoBulk d + uptoBulkAll r
def uptoBulkEntries {H : Type} : List (Lit × DataW H) → Nat
  | [] => 0
  | x :: r => uptoBulkEntry x + uptoBulkEntries r
def uptoBulkEntry {H : Type} : Lit × DataW H → Nat
  | (.string bytes, d) => bytes.length + uptoBulk d + 1
  | (_, d) => uptoBulk d + 1
 end
def uptoSmall : (H : Type) → List (DataW H) → Bool := fun _ ds => decide (uptoBulkAll ds ≤ 1048576)
def OpenSpec.upto (s : _root_.Go.ChangeSpec) : _root_.Go.OpenSpec := { _root_.Go.OpenSpec.ofChange s with cond := some uptoSmall }

/-- 'quorumlaw11.ViewOwn', WHERE WHAT IT READS IS OF BULK AT MOST 1048576: true; the input reads as it did. -/
def viewOwnUptoRow : OpenClaim := { program := "ytbaecdcfefmcgaa", sum := "6454aafb425f2dcb375229c96febd29fbd123ffa5e371ea70f96e372311e1fdd", func := "quorum/quorumlaw11.ViewOwn", spec := "viewOwn", inPlace := ["internal/bytealg.abigen_runtime_cmpstring"], unfollowed := true, recurses := true, apart := false, narrowed := true }
def ViewOwnUptoSaid : Prop := viewOwnUptoRow.holds Try.pinned (OpenSpec.upto viewOwnSpec)

/-- 'quorumlaw12.PlanCommit', WHERE WHAT IT READS IS OF BULK AT MOST 1048576: true; the input reads as it did. -/
def planCommitUptoRow : OpenClaim := { program := "ytbaecdcfefmcgaa", sum := "6454aafb425f2dcb375229c96febd29fbd123ffa5e371ea70f96e372311e1fdd", func := "quorum/quorumlaw12.PlanCommit", spec := "planCommit", inPlace := ["internal/bytealg.abigen_runtime_cmpstring"], unfollowed := true, recurses := true, apart := false, narrowed := true }
def PlanCommitUptoSaid : Prop := planCommitUptoRow.holds Try.pinned (OpenSpec.upto planCommitSpec)

/-- 'quorumlaw10.PendExact', WHERE WHAT IT READS IS OF BULK AT MOST 1048576: true; the input reads as it did. -/
def pendExactUptoRow : OpenClaim := { program := "ytbaecdcfefmcgaa", sum := "6454aafb425f2dcb375229c96febd29fbd123ffa5e371ea70f96e372311e1fdd", func := "quorum/quorumlaw10.PendExact", spec := "pendExact", inPlace := ["internal/bytealg.abigen_runtime_cmpstring"], unfollowed := true, recurses := true, apart := false, narrowed := true }
def PendExactUptoSaid : Prop := pendExactUptoRow.holds Try.pinned (OpenSpec.upto pendExactSpec)

/-- 'quorumlaw10.PendSaves', WHERE WHAT IT READS IS OF BULK AT MOST 1048576: true; the input reads as it did. -/
def pendSavesUptoRow : OpenClaim := { program := "ytbaecdcfefmcgaa", sum := "6454aafb425f2dcb375229c96febd29fbd123ffa5e371ea70f96e372311e1fdd", func := "quorum/quorumlaw10.PendSaves", spec := "pendSaves", inPlace := ["internal/bytealg.abigen_runtime_cmpstring"], unfollowed := true, recurses := true, apart := false, narrowed := true }
def PendSavesUptoSaid : Prop := pendSavesUptoRow.holds Try.pinned (OpenSpec.upto pendSavesSpec)

/-- 'quorumlaw10.PendReturns', WHERE WHAT IT READS IS OF BULK AT MOST 1048576: true; the input reads as it did. -/
def pendReturnsUptoRow : OpenClaim := { program := "ytbaecdcfefmcgaa", sum := "6454aafb425f2dcb375229c96febd29fbd123ffa5e371ea70f96e372311e1fdd", func := "quorum/quorumlaw10.PendReturns", spec := "pendReturns", inPlace := ["internal/bytealg.abigen_runtime_cmpstring"], unfollowed := true, recurses := true, apart := false, narrowed := true }
def PendReturnsUptoSaid : Prop := pendReturnsUptoRow.holds Try.pinned (OpenSpec.upto pendReturnsSpec)

/-- 'quorumlaw10.PendReleases', WHERE WHAT IT READS IS OF BULK AT MOST 1048576: true; the input reads as it did. -/
def pendReleasesUptoRow : OpenClaim := { program := "ytbaecdcfefmcgaa", sum := "6454aafb425f2dcb375229c96febd29fbd123ffa5e371ea70f96e372311e1fdd", func := "quorum/quorumlaw10.PendReleases", spec := "pendReleases", inPlace := ["internal/bytealg.abigen_runtime_cmpstring"], unfollowed := true, recurses := true, apart := false, narrowed := true }
def PendReleasesUptoSaid : Prop := pendReleasesUptoRow.holds Try.pinned (OpenSpec.upto pendReleasesSpec)

/-- 'quorumlaw9.TableExact', WHERE WHAT IT READS IS OF BULK AT MOST 1048576: true; the input reads as it did. -/
def tableExactUptoRow : OpenClaim := { program := "ytbaecdcfefmcgaa", sum := "6454aafb425f2dcb375229c96febd29fbd123ffa5e371ea70f96e372311e1fdd", func := "quorum/quorumlaw9.TableExact", spec := "tableExact", inPlace := ["internal/bytealg.abigen_runtime_cmpstring", "slices.overlaps[quorum/api.Version]", "slices.overlaps[quorum/api.Chain]"], unfollowed := true, recurses := true, apart := false, narrowed := true }
def TableExactUptoSaid : Prop := tableExactUptoRow.holds Try.pinned (OpenSpec.upto tableExactSpec)

/-- 'quorumlaw9.TablePuts', WHERE WHAT IT READS IS OF BULK AT MOST 1048576: true; the input reads as it did. -/
def tablePutsUptoRow : OpenClaim := { program := "ytbaecdcfefmcgaa", sum := "6454aafb425f2dcb375229c96febd29fbd123ffa5e371ea70f96e372311e1fdd", func := "quorum/quorumlaw9.TablePuts", spec := "tablePuts", inPlace := ["internal/bytealg.abigen_runtime_cmpstring", "slices.overlaps[quorum/api.Version]", "slices.overlaps[quorum/api.Chain]"], unfollowed := true, recurses := true, apart := false, narrowed := true }
def TablePutsUptoSaid : Prop := tablePutsUptoRow.holds Try.pinned (OpenSpec.upto tablePutsSpec)

/-- 'quorumlaw9.TableScans', WHERE WHAT IT READS IS OF BULK AT MOST 1048576: true; the input reads as it did. -/
def tableScansUptoRow : OpenClaim := { program := "ytbaecdcfefmcgaa", sum := "6454aafb425f2dcb375229c96febd29fbd123ffa5e371ea70f96e372311e1fdd", func := "quorum/quorumlaw9.TableScans", spec := "tableScans", inPlace := ["internal/bytealg.abigen_runtime_cmpstring", "slices.overlaps[quorum/api.Version]", "slices.overlaps[quorum/api.Chain]"], unfollowed := true, recurses := true, apart := false, narrowed := true }
def TableScansUptoSaid : Prop := tableScansUptoRow.holds Try.pinned (OpenSpec.upto tableScansSpec)

/-- 'quorumlaw9.TablePurges', WHERE WHAT IT READS IS OF BULK AT MOST 1048576: true; the input reads as it did. -/
def tablePurgesUptoRow : OpenClaim := { program := "ytbaecdcfefmcgaa", sum := "6454aafb425f2dcb375229c96febd29fbd123ffa5e371ea70f96e372311e1fdd", func := "quorum/quorumlaw9.TablePurges", spec := "tablePurges", inPlace := ["internal/bytealg.abigen_runtime_cmpstring", "slices.overlaps[quorum/api.Version]", "slices.overlaps[quorum/api.Chain]"], unfollowed := true, recurses := true, apart := false, narrowed := true }
def TablePurgesUptoSaid : Prop := tablePurgesUptoRow.holds Try.pinned (OpenSpec.upto tablePurgesSpec)

/-- 'quorumlaw11.ViewScans', WHERE WHAT IT READS IS OF BULK AT MOST 1048576: true; the input reads as it did. -/
def viewScansUptoRow : OpenClaim := { program := "ytbaecdcfefmcgaa", sum := "6454aafb425f2dcb375229c96febd29fbd123ffa5e371ea70f96e372311e1fdd", func := "quorum/quorumlaw11.ViewScans", spec := "viewScans", inPlace := ["internal/bytealg.abigen_runtime_cmpstring", "slices.overlaps[quorum/api.Row]"], unfollowed := true, recurses := true, apart := false, narrowed := true }
def ViewScansUptoSaid : Prop := viewScansUptoRow.holds Try.pinned (OpenSpec.upto viewScansSpec)

end Rows
end Go.Proofs.Ytbaecdcfefmcgaa
