/-
  No cell of these rows narrows 'for every input' (looked for: loops, veiled, ifaces, maps, wideKeys, modest, calm, conditions, laid).
  DERIVED. THE GIVEN ROWS OF THIS SEAT. 12 by the template 'for every input the law returns true; each argument reads behind the call as it read before'; 0 by the template 'total and deterministic' (their statements: YtoodkefpkgbjcaaTotals.lean).
  GIVEN WITH THE SEED: the statements are not yours to turn. If you find one false, say at which input.
  Laid BY PROGRAM, IN A SANDBOX (cutbox-rows.mjs): the forced cells as the released guide's own fill.sh prints them over the translation 29fce1aca04ba06a… (all of the seat's roots in one cut). By AI agents, Wed Nov 11 2026. No macro, syntax, notation, axiom, sorry.
-/
import Derived.Test.YtoodkefpkgbjcaaChecked
import GoSem.Claim
import GoSem.ClaimJoined
import GoSem.ClaimMapViews
import Derived.JoinedTies
import Derived.KernelRfl
namespace Go.Proofs.Ytoodkefpkgbjcaa
/- THE CELL 'sum', in the pinned program and in every row, IS THE sha256 OF THE DUMP (.gsa) THAT YtoodkefpkgbjcaaProg.lean LOADS. Nothing in Lean hashes anything: it is a label: what it is worth is what the hold of that sum in a sandbox is worth. -/
noncomputable def Try.pinned : Pinned := { name := "ytoodkefpkgbjcaa", sum := "29fce1aca04ba06a5c44a1aaf788243e602d3d47edc72818d644b459cc7f2ce3", checked := Try.checked }
namespace Rows
def none {H : Type} : Left H := { results := [], args := [] }

/-- 'quorumlaw8.ChainTells': WHATEVER THE INPUT: true; the input reads as it did. -/
def chainTellsSpec : ChangeSpec := { name := "chainTells", fn := fun _ => fun
  | [d] => { results := [.lit (.bool true)], args := [d] }
  | _ => none }
def chainTellsRow : OpenClaim := { program := "ytoodkefpkgbjcaa", sum := "29fce1aca04ba06a5c44a1aaf788243e602d3d47edc72818d644b459cc7f2ce3", func := "quorum/quorumlaw8.ChainTells", spec := "chainTells", inPlace := ["slices.overlaps[quorum/api.Version]"], unfollowed := true, recurses := true, apart := false }
def ChainTellsSaid : Prop := chainTellsRow.holds Try.pinned (OpenSpec.ofChange chainTellsSpec)

/-- ITS FALSE NEIGHBOUR: 'it returns false'. Refute it at one input. -/
def chainTellsWrong : ChangeSpec := { name := "chainTells", fn := fun _ => fun
  | [d] => { results := [.lit (.bool false)], args := [d] }
  | _ => none }
def ChainTellsWrongFalsely : Prop := chainTellsRow.holds Try.pinned (OpenSpec.ofChange chainTellsWrong)

/-- 'quorumlaw5.PageStays': WHATEVER THE INPUT: true; the input reads as it did. -/
def pageStaysSpec : ChangeSpec := { name := "pageStays", fn := fun _ => fun
  | [d] => { results := [.lit (.bool true)], args := [d] }
  | _ => none }
def pageStaysRow : OpenClaim := { program := "ytoodkefpkgbjcaa", sum := "29fce1aca04ba06a5c44a1aaf788243e602d3d47edc72818d644b459cc7f2ce3", func := "quorum/quorumlaw5.PageStays", spec := "pageStays", inPlace := ["slices.overlaps[int]"], apart := false }
def PageStaysSaid : Prop := pageStaysRow.holds Try.pinned (OpenSpec.ofChange pageStaysSpec)

/-- ITS FALSE NEIGHBOUR: 'it returns false'. Refute it at one input. -/
def pageStaysWrong : ChangeSpec := { name := "pageStays", fn := fun _ => fun
  | [d] => { results := [.lit (.bool false)], args := [d] }
  | _ => none }
def PageStaysWrongFalsely : Prop := pageStaysRow.holds Try.pinned (OpenSpec.ofChange pageStaysWrong)

/-- 'quorumlaw5.PageExact': WHATEVER THE INPUT: true; the input reads as it did. -/
def pageExactSpec : ChangeSpec := { name := "pageExact", fn := fun _ => fun
  | [d] => { results := [.lit (.bool true)], args := [d] }
  | _ => none }
def pageExactRow : OpenClaim := { program := "ytoodkefpkgbjcaa", sum := "29fce1aca04ba06a5c44a1aaf788243e602d3d47edc72818d644b459cc7f2ce3", func := "quorum/quorumlaw5.PageExact", spec := "pageExact", inPlace := ["slices.overlaps[int]"], apart := false }
def PageExactSaid : Prop := pageExactRow.holds Try.pinned (OpenSpec.ofChange pageExactSpec)

/-- ITS FALSE NEIGHBOUR: 'it returns false'. Refute it at one input. -/
def pageExactWrong : ChangeSpec := { name := "pageExact", fn := fun _ => fun
  | [d] => { results := [.lit (.bool false)], args := [d] }
  | _ => none }
def PageExactWrongFalsely : Prop := pageExactRow.holds Try.pinned (OpenSpec.ofChange pageExactWrong)

/-- 'quorumlaw5.PageAdds': WHATEVER THE INPUT: true; the input reads as it did. -/
def pageAddsSpec : ChangeSpec := { name := "pageAdds", fn := fun _ => fun
  | [d] => { results := [.lit (.bool true)], args := [d] }
  | _ => none }
def pageAddsRow : OpenClaim := { program := "ytoodkefpkgbjcaa", sum := "29fce1aca04ba06a5c44a1aaf788243e602d3d47edc72818d644b459cc7f2ce3", func := "quorum/quorumlaw5.PageAdds", spec := "pageAdds", inPlace := ["slices.overlaps[int]"], apart := false }
def PageAddsSaid : Prop := pageAddsRow.holds Try.pinned (OpenSpec.ofChange pageAddsSpec)

/-- ITS FALSE NEIGHBOUR: 'it returns false'. Refute it at one input. -/
def pageAddsWrong : ChangeSpec := { name := "pageAdds", fn := fun _ => fun
  | [d] => { results := [.lit (.bool false)], args := [d] }
  | _ => none }
def PageAddsWrongFalsely : Prop := pageAddsRow.holds Try.pinned (OpenSpec.ofChange pageAddsWrong)

/-- 'quorumlaw5.PageSets': WHATEVER THE INPUT: true; the input reads as it did. -/
def pageSetsSpec : ChangeSpec := { name := "pageSets", fn := fun _ => fun
  | [d] => { results := [.lit (.bool true)], args := [d] }
  | _ => none }
def pageSetsRow : OpenClaim := { program := "ytoodkefpkgbjcaa", sum := "29fce1aca04ba06a5c44a1aaf788243e602d3d47edc72818d644b459cc7f2ce3", func := "quorum/quorumlaw5.PageSets", spec := "pageSets", inPlace := ["slices.overlaps[int]"], apart := false }
def PageSetsSaid : Prop := pageSetsRow.holds Try.pinned (OpenSpec.ofChange pageSetsSpec)

/-- ITS FALSE NEIGHBOUR: 'it returns false'. Refute it at one input. -/
def pageSetsWrong : ChangeSpec := { name := "pageSets", fn := fun _ => fun
  | [d] => { results := [.lit (.bool false)], args := [d] }
  | _ => none }
def PageSetsWrongFalsely : Prop := pageSetsRow.holds Try.pinned (OpenSpec.ofChange pageSetsWrong)

/-- 'quorumlaw5.PageCuts': WHATEVER THE INPUT: true; the input reads as it did. -/
def pageCutsSpec : ChangeSpec := { name := "pageCuts", fn := fun _ => fun
  | [d] => { results := [.lit (.bool true)], args := [d] }
  | _ => none }
def pageCutsRow : OpenClaim := { program := "ytoodkefpkgbjcaa", sum := "29fce1aca04ba06a5c44a1aaf788243e602d3d47edc72818d644b459cc7f2ce3", func := "quorum/quorumlaw5.PageCuts", spec := "pageCuts", inPlace := ["slices.overlaps[int]"], apart := false }
def PageCutsSaid : Prop := pageCutsRow.holds Try.pinned (OpenSpec.ofChange pageCutsSpec)

/-- ITS FALSE NEIGHBOUR: 'it returns false'. Refute it at one input. -/
def pageCutsWrong : ChangeSpec := { name := "pageCuts", fn := fun _ => fun
  | [d] => { results := [.lit (.bool false)], args := [d] }
  | _ => none }
def PageCutsWrongFalsely : Prop := pageCutsRow.holds Try.pinned (OpenSpec.ofChange pageCutsWrong)

/-- 'quorumlaw9.TablePurged': WHATEVER THE INPUT: true; the input reads as it did. -/
def tablePurgedSpec : ChangeSpec := { name := "tablePurged", fn := fun _ => fun
  | [d] => { results := [.lit (.bool true)], args := [d] }
  | _ => none }
def tablePurgedRow : OpenClaim := { program := "ytoodkefpkgbjcaa", sum := "29fce1aca04ba06a5c44a1aaf788243e602d3d47edc72818d644b459cc7f2ce3", func := "quorum/quorumlaw9.TablePurged", spec := "tablePurged", inPlace := ["internal/bytealg.abigen_runtime_cmpstring", "slices.overlaps[quorum/api.Version]", "slices.overlaps[quorum/api.Chain]"], unfollowed := true, recurses := true, apart := false }
def TablePurgedSaid : Prop := tablePurgedRow.holds Try.pinned (OpenSpec.ofChange tablePurgedSpec)

/-- ITS FALSE NEIGHBOUR: 'it returns false'. Refute it at one input. -/
def tablePurgedWrong : ChangeSpec := { name := "tablePurged", fn := fun _ => fun
  | [d] => { results := [.lit (.bool false)], args := [d] }
  | _ => none }
def TablePurgedWrongFalsely : Prop := tablePurgedRow.holds Try.pinned (OpenSpec.ofChange tablePurgedWrong)

/-- 'quorumlaw12.PlanCommit': WHATEVER THE INPUT: true; the input reads as it did. -/
def planCommitSpec : ChangeSpec := { name := "planCommit", fn := fun _ => fun
  | [d] => { results := [.lit (.bool true)], args := [d] }
  | _ => none }
def planCommitRow : OpenClaim := { program := "ytoodkefpkgbjcaa", sum := "29fce1aca04ba06a5c44a1aaf788243e602d3d47edc72818d644b459cc7f2ce3", func := "quorum/quorumlaw12.PlanCommit", spec := "planCommit", inPlace := ["internal/bytealg.abigen_runtime_cmpstring"], unfollowed := true, recurses := true, apart := false }
def PlanCommitSaid : Prop := planCommitRow.holds Try.pinned (OpenSpec.ofChange planCommitSpec)

/-- ITS FALSE NEIGHBOUR: 'it returns false'. Refute it at one input. -/
def planCommitWrong : ChangeSpec := { name := "planCommit", fn := fun _ => fun
  | [d] => { results := [.lit (.bool false)], args := [d] }
  | _ => none }
def PlanCommitWrongFalsely : Prop := planCommitRow.holds Try.pinned (OpenSpec.ofChange planCommitWrong)

/-- 'quorumlaw10.PendExact': WHATEVER THE INPUT: true; the input reads as it did. -/
def pendExactSpec : ChangeSpec := { name := "pendExact", fn := fun _ => fun
  | [d] => { results := [.lit (.bool true)], args := [d] }
  | _ => none }
def pendExactRow : OpenClaim := { program := "ytoodkefpkgbjcaa", sum := "29fce1aca04ba06a5c44a1aaf788243e602d3d47edc72818d644b459cc7f2ce3", func := "quorum/quorumlaw10.PendExact", spec := "pendExact", inPlace := ["internal/bytealg.abigen_runtime_cmpstring"], unfollowed := true, recurses := true, apart := false }
def PendExactSaid : Prop := pendExactRow.holds Try.pinned (OpenSpec.ofChange pendExactSpec)

/-- ITS FALSE NEIGHBOUR: 'it returns false'. Refute it at one input. -/
def pendExactWrong : ChangeSpec := { name := "pendExact", fn := fun _ => fun
  | [d] => { results := [.lit (.bool false)], args := [d] }
  | _ => none }
def PendExactWrongFalsely : Prop := pendExactRow.holds Try.pinned (OpenSpec.ofChange pendExactWrong)

/-- 'quorumlaw10.PendSaves': WHATEVER THE INPUT: true; the input reads as it did. -/
def pendSavesSpec : ChangeSpec := { name := "pendSaves", fn := fun _ => fun
  | [d] => { results := [.lit (.bool true)], args := [d] }
  | _ => none }
def pendSavesRow : OpenClaim := { program := "ytoodkefpkgbjcaa", sum := "29fce1aca04ba06a5c44a1aaf788243e602d3d47edc72818d644b459cc7f2ce3", func := "quorum/quorumlaw10.PendSaves", spec := "pendSaves", inPlace := ["internal/bytealg.abigen_runtime_cmpstring"], unfollowed := true, recurses := true, apart := false }
def PendSavesSaid : Prop := pendSavesRow.holds Try.pinned (OpenSpec.ofChange pendSavesSpec)

/-- ITS FALSE NEIGHBOUR: 'it returns false'. Refute it at one input. -/
def pendSavesWrong : ChangeSpec := { name := "pendSaves", fn := fun _ => fun
  | [d] => { results := [.lit (.bool false)], args := [d] }
  | _ => none }
def PendSavesWrongFalsely : Prop := pendSavesRow.holds Try.pinned (OpenSpec.ofChange pendSavesWrong)

/-- 'quorumlaw10.PendReturns': WHATEVER THE INPUT: true; the input reads as it did. -/
def pendReturnsSpec : ChangeSpec := { name := "pendReturns", fn := fun _ => fun
  | [d] => { results := [.lit (.bool true)], args := [d] }
  | _ => none }
def pendReturnsRow : OpenClaim := { program := "ytoodkefpkgbjcaa", sum := "29fce1aca04ba06a5c44a1aaf788243e602d3d47edc72818d644b459cc7f2ce3", func := "quorum/quorumlaw10.PendReturns", spec := "pendReturns", inPlace := ["internal/bytealg.abigen_runtime_cmpstring"], unfollowed := true, recurses := true, apart := false }
def PendReturnsSaid : Prop := pendReturnsRow.holds Try.pinned (OpenSpec.ofChange pendReturnsSpec)

/-- ITS FALSE NEIGHBOUR: 'it returns false'. Refute it at one input. -/
def pendReturnsWrong : ChangeSpec := { name := "pendReturns", fn := fun _ => fun
  | [d] => { results := [.lit (.bool false)], args := [d] }
  | _ => none }
def PendReturnsWrongFalsely : Prop := pendReturnsRow.holds Try.pinned (OpenSpec.ofChange pendReturnsWrong)

/-- 'quorumlaw10.PendReleases': WHATEVER THE INPUT: true; the input reads as it did. -/
def pendReleasesSpec : ChangeSpec := { name := "pendReleases", fn := fun _ => fun
  | [d] => { results := [.lit (.bool true)], args := [d] }
  | _ => none }
def pendReleasesRow : OpenClaim := { program := "ytoodkefpkgbjcaa", sum := "29fce1aca04ba06a5c44a1aaf788243e602d3d47edc72818d644b459cc7f2ce3", func := "quorum/quorumlaw10.PendReleases", spec := "pendReleases", inPlace := ["internal/bytealg.abigen_runtime_cmpstring"], unfollowed := true, recurses := true, apart := false }
def PendReleasesSaid : Prop := pendReleasesRow.holds Try.pinned (OpenSpec.ofChange pendReleasesSpec)

/-- ITS FALSE NEIGHBOUR: 'it returns false'. Refute it at one input. -/
def pendReleasesWrong : ChangeSpec := { name := "pendReleases", fn := fun _ => fun
  | [d] => { results := [.lit (.bool false)], args := [d] }
  | _ => none }
def PendReleasesWrongFalsely : Prop := pendReleasesRow.holds Try.pinned (OpenSpec.ofChange pendReleasesWrong)

/- THE SECOND FORM. 'bulk': how many values and letters a reading holds, each counted each time it is reached (what is shared counts as often as it is met; a slice's spare places count too). A statement '..UptoSaid' is the law's where the arguments, and the package variables that the reading takes, are together of bulk at most 1048576: NARROWER than '..Said'. Prove '..Said' where nothing that the law and all that it calls make is longer than what came in: it says more and counts as full. Else prove '..UptoSaid'. A law counts once. -/
mutual
def uptoBulk {H : Type} : DataW H → Nat
  | .lit (.string bytes) => bytes.length + 1
  | .lit _ => 1
  | .nil => 1
  | .ptr d => uptoBulk d + 1
  | .slice elems spare => uptoBulkAll elems + uptoBulkAll spare + 1
  | .agg parts => uptoBulkAll parts + 1
  | .iface _ d => uptoBulk d + 1
  | .map entries => uptoBulkEntries entries + 1
  | .held _ => 1
def uptoBulkAll {H : Type} : List (DataW H) → Nat
  | [] => 0
  | d :: r => uptoBulk d + uptoBulkAll r
def uptoBulkEntries {H : Type} : List (Lit × DataW H) → Nat
  | [] => 0
  | x :: r => uptoBulkEntry x + uptoBulkEntries r
def uptoBulkEntry {H : Type} : Lit × DataW H → Nat
  | (.string bytes, d) => bytes.length + uptoBulk d + 1
  | (_, d) => uptoBulk d + 1
 end
def uptoSmall : (H : Type) → List (DataW H) → Bool := fun _ ds => decide (uptoBulkAll ds ≤ 1048576)
def OpenSpec.upto (s : _root_.Go.ChangeSpec) : _root_.Go.OpenSpec := { _root_.Go.OpenSpec.ofChange s with cond := some uptoSmall }

/-- 'quorumlaw8.ChainTells', WHERE WHAT IT READS IS OF BULK AT MOST 1048576: true; the input reads as it did. -/
def chainTellsUptoRow : OpenClaim := { program := "ytoodkefpkgbjcaa", sum := "29fce1aca04ba06a5c44a1aaf788243e602d3d47edc72818d644b459cc7f2ce3", func := "quorum/quorumlaw8.ChainTells", spec := "chainTells", inPlace := ["slices.overlaps[quorum/api.Version]"], unfollowed := true, recurses := true, apart := false, narrowed := true }
def ChainTellsUptoSaid : Prop := chainTellsUptoRow.holds Try.pinned (OpenSpec.upto chainTellsSpec)

/-- 'quorumlaw5.PageStays', WHERE WHAT IT READS IS OF BULK AT MOST 1048576: true; the input reads as it did. -/
def pageStaysUptoRow : OpenClaim := { program := "ytoodkefpkgbjcaa", sum := "29fce1aca04ba06a5c44a1aaf788243e602d3d47edc72818d644b459cc7f2ce3", func := "quorum/quorumlaw5.PageStays", spec := "pageStays", inPlace := ["slices.overlaps[int]"], apart := false, narrowed := true }
def PageStaysUptoSaid : Prop := pageStaysUptoRow.holds Try.pinned (OpenSpec.upto pageStaysSpec)

/-- 'quorumlaw5.PageExact', WHERE WHAT IT READS IS OF BULK AT MOST 1048576: true; the input reads as it did. -/
def pageExactUptoRow : OpenClaim := { program := "ytoodkefpkgbjcaa", sum := "29fce1aca04ba06a5c44a1aaf788243e602d3d47edc72818d644b459cc7f2ce3", func := "quorum/quorumlaw5.PageExact", spec := "pageExact", inPlace := ["slices.overlaps[int]"], apart := false, narrowed := true }
def PageExactUptoSaid : Prop := pageExactUptoRow.holds Try.pinned (OpenSpec.upto pageExactSpec)

/-- 'quorumlaw5.PageAdds', WHERE WHAT IT READS IS OF BULK AT MOST 1048576: true; the input reads as it did. -/
def pageAddsUptoRow : OpenClaim := { program := "ytoodkefpkgbjcaa", sum := "29fce1aca04ba06a5c44a1aaf788243e602d3d47edc72818d644b459cc7f2ce3", func := "quorum/quorumlaw5.PageAdds", spec := "pageAdds", inPlace := ["slices.overlaps[int]"], apart := false, narrowed := true }
def PageAddsUptoSaid : Prop := pageAddsUptoRow.holds Try.pinned (OpenSpec.upto pageAddsSpec)

/-- 'quorumlaw5.PageSets', WHERE WHAT IT READS IS OF BULK AT MOST 1048576: true; the input reads as it did. -/
def pageSetsUptoRow : OpenClaim := { program := "ytoodkefpkgbjcaa", sum := "29fce1aca04ba06a5c44a1aaf788243e602d3d47edc72818d644b459cc7f2ce3", func := "quorum/quorumlaw5.PageSets", spec := "pageSets", inPlace := ["slices.overlaps[int]"], apart := false, narrowed := true }
def PageSetsUptoSaid : Prop := pageSetsUptoRow.holds Try.pinned (OpenSpec.upto pageSetsSpec)

/-- 'quorumlaw5.PageCuts', WHERE WHAT IT READS IS OF BULK AT MOST 1048576: true; the input reads as it did. -/
def pageCutsUptoRow : OpenClaim := { program := "ytoodkefpkgbjcaa", sum := "29fce1aca04ba06a5c44a1aaf788243e602d3d47edc72818d644b459cc7f2ce3", func := "quorum/quorumlaw5.PageCuts", spec := "pageCuts", inPlace := ["slices.overlaps[int]"], apart := false, narrowed := true }
def PageCutsUptoSaid : Prop := pageCutsUptoRow.holds Try.pinned (OpenSpec.upto pageCutsSpec)

/-- 'quorumlaw9.TablePurged', WHERE WHAT IT READS IS OF BULK AT MOST 1048576: true; the input reads as it did. -/
def tablePurgedUptoRow : OpenClaim := { program := "ytoodkefpkgbjcaa", sum := "29fce1aca04ba06a5c44a1aaf788243e602d3d47edc72818d644b459cc7f2ce3", func := "quorum/quorumlaw9.TablePurged", spec := "tablePurged", inPlace := ["internal/bytealg.abigen_runtime_cmpstring", "slices.overlaps[quorum/api.Version]", "slices.overlaps[quorum/api.Chain]"], unfollowed := true, recurses := true, apart := false, narrowed := true }
def TablePurgedUptoSaid : Prop := tablePurgedUptoRow.holds Try.pinned (OpenSpec.upto tablePurgedSpec)

/-- 'quorumlaw12.PlanCommit', WHERE WHAT IT READS IS OF BULK AT MOST 1048576: true; the input reads as it did. -/
def planCommitUptoRow : OpenClaim := { program := "ytoodkefpkgbjcaa", sum := "29fce1aca04ba06a5c44a1aaf788243e602d3d47edc72818d644b459cc7f2ce3", func := "quorum/quorumlaw12.PlanCommit", spec := "planCommit", inPlace := ["internal/bytealg.abigen_runtime_cmpstring"], unfollowed := true, recurses := true, apart := false, narrowed := true }
def PlanCommitUptoSaid : Prop := planCommitUptoRow.holds Try.pinned (OpenSpec.upto planCommitSpec)

/-- 'quorumlaw10.PendExact', WHERE WHAT IT READS IS OF BULK AT MOST 1048576: true; the input reads as it did. -/
def pendExactUptoRow : OpenClaim := { program := "ytoodkefpkgbjcaa", sum := "29fce1aca04ba06a5c44a1aaf788243e602d3d47edc72818d644b459cc7f2ce3", func := "quorum/quorumlaw10.PendExact", spec := "pendExact", inPlace := ["internal/bytealg.abigen_runtime_cmpstring"], unfollowed := true, recurses := true, apart := false, narrowed := true }
def PendExactUptoSaid : Prop := pendExactUptoRow.holds Try.pinned (OpenSpec.upto pendExactSpec)

/-- 'quorumlaw10.PendSaves', WHERE WHAT IT READS IS OF BULK AT MOST 1048576: true; the input reads as it did. -/
def pendSavesUptoRow : OpenClaim := { program := "ytoodkefpkgbjcaa", sum := "29fce1aca04ba06a5c44a1aaf788243e602d3d47edc72818d644b459cc7f2ce3", func := "quorum/quorumlaw10.PendSaves", spec := "pendSaves", inPlace := ["internal/bytealg.abigen_runtime_cmpstring"], unfollowed := true, recurses := true, apart := false, narrowed := true }
def PendSavesUptoSaid : Prop := pendSavesUptoRow.holds Try.pinned (OpenSpec.upto pendSavesSpec)

/-- 'quorumlaw10.PendReturns', WHERE WHAT IT READS IS OF BULK AT MOST 1048576: true; the input reads as it did. -/
def pendReturnsUptoRow : OpenClaim := { program := "ytoodkefpkgbjcaa", sum := "29fce1aca04ba06a5c44a1aaf788243e602d3d47edc72818d644b459cc7f2ce3", func := "quorum/quorumlaw10.PendReturns", spec := "pendReturns", inPlace := ["internal/bytealg.abigen_runtime_cmpstring"], unfollowed := true, recurses := true, apart := false, narrowed := true }
def PendReturnsUptoSaid : Prop := pendReturnsUptoRow.holds Try.pinned (OpenSpec.upto pendReturnsSpec)

/-- 'quorumlaw10.PendReleases', WHERE WHAT IT READS IS OF BULK AT MOST 1048576: true; the input reads as it did. -/
def pendReleasesUptoRow : OpenClaim := { program := "ytoodkefpkgbjcaa", sum := "29fce1aca04ba06a5c44a1aaf788243e602d3d47edc72818d644b459cc7f2ce3", func := "quorum/quorumlaw10.PendReleases", spec := "pendReleases", inPlace := ["internal/bytealg.abigen_runtime_cmpstring"], unfollowed := true, recurses := true, apart := false, narrowed := true }
def PendReleasesUptoSaid : Prop := pendReleasesUptoRow.holds Try.pinned (OpenSpec.upto pendReleasesSpec)

end Rows
end Go.Proofs.Ytoodkefpkgbjcaa
