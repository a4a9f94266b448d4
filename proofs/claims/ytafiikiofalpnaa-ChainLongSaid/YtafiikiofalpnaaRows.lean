/-
  No cell of these rows narrows 'for every input' (looked for: loops, veiled, ifaces, maps, wideKeys, modest, calm, conditions, laid).
  DERIVED. THE GIVEN ROWS OF THIS SEAT. 12 by the template 'for every input the law returns true; each argument reads behind the call as it read before'; 0 by the template 'total and deterministic' (their statements: YtafiikiofalpnaaTotals.lean).
  GIVEN WITH THE SEED: the statements are not yours to turn. If you find one false, say at which input.
  Laid BY PROGRAM, IN A SANDBOX (cutbox-rows.mjs): the forced cells as the released guide's own fill.sh prints them over the translation 325069e6e2375520… (all of the seat's roots in one cut). By AI agents, Wed Nov 11 2026. No macro, syntax, notation, axiom, sorry.
-/
import Derived.Test.YtafiikiofalpnaaChecked
import GoSem.Claim
import GoSem.ClaimJoined
import GoSem.ClaimMapViews
import Derived.JoinedTies
import Derived.KernelRfl
namespace Go.Proofs.Ytafiikiofalpnaa
/- THE CELL 'sum', in the pinned program and in every row, IS THE sha256 OF THE DUMP (.gsa) THAT YtafiikiofalpnaaProg.lean LOADS. Nothing in Lean hashes anything: it is a label: what it is worth is what the hold of that sum in a sandbox is worth. -/
noncomputable def Try.pinned : Pinned := { name := "ytafiikiofalpnaa", sum := "325069e6e23755203aed13ac57ad19b27fe39cda8d5d3adeab2c8538696aa825", checked := Try.checked }
namespace Rows
def none {H : Type} : Left H := { results := [], args := [] }

/-- 'quorumlaw8.ChainPurged': WHATEVER THE INPUT: true; the input reads as it did. -/
def chainPurgedSpec : ChangeSpec := { name := "chainPurged", fn := fun _ => fun
  | [d] => { results := [.lit (.bool true)], args := [d] }
  | _ => none }
def chainPurgedRow : OpenClaim := { program := "ytafiikiofalpnaa", sum := "325069e6e23755203aed13ac57ad19b27fe39cda8d5d3adeab2c8538696aa825", func := "quorum/quorumlaw8.ChainPurged", spec := "chainPurged", unfollowed := true, recurses := true, apart := false }
def ChainPurgedSaid : Prop := chainPurgedRow.holds Try.pinned (OpenSpec.ofChange chainPurgedSpec)

/-- ITS FALSE NEIGHBOUR: 'it returns false'. Refute it at one input. -/
def chainPurgedWrong : ChangeSpec := { name := "chainPurged", fn := fun _ => fun
  | [d] => { results := [.lit (.bool false)], args := [d] }
  | _ => none }
def ChainPurgedWrongFalsely : Prop := chainPurgedRow.holds Try.pinned (OpenSpec.ofChange chainPurgedWrong)

/-- 'quorumlaw10.PendBack': WHATEVER THE INPUT: true; the input reads as it did. -/
def pendBackSpec : ChangeSpec := { name := "pendBack", fn := fun _ => fun
  | [d] => { results := [.lit (.bool true)], args := [d] }
  | _ => none }
def pendBackRow : OpenClaim := { program := "ytafiikiofalpnaa", sum := "325069e6e23755203aed13ac57ad19b27fe39cda8d5d3adeab2c8538696aa825", func := "quorum/quorumlaw10.PendBack", spec := "pendBack", unfollowed := true, recurses := true, apart := false }
def PendBackSaid : Prop := pendBackRow.holds Try.pinned (OpenSpec.ofChange pendBackSpec)

/-- ITS FALSE NEIGHBOUR: 'it returns false'. Refute it at one input. -/
def pendBackWrong : ChangeSpec := { name := "pendBack", fn := fun _ => fun
  | [d] => { results := [.lit (.bool false)], args := [d] }
  | _ => none }
def PendBackWrongFalsely : Prop := pendBackRow.holds Try.pinned (OpenSpec.ofChange pendBackWrong)

/-- 'quorumlaw11.ViewOwn': WHATEVER THE INPUT: true; the input reads as it did. -/
def viewOwnSpec : ChangeSpec := { name := "viewOwn", fn := fun _ => fun
  | [d] => { results := [.lit (.bool true)], args := [d] }
  | _ => none }
def viewOwnRow : OpenClaim := { program := "ytafiikiofalpnaa", sum := "325069e6e23755203aed13ac57ad19b27fe39cda8d5d3adeab2c8538696aa825", func := "quorum/quorumlaw11.ViewOwn", spec := "viewOwn", inPlace := ["internal/bytealg.abigen_runtime_cmpstring"], unfollowed := true, recurses := true, apart := false }
def ViewOwnSaid : Prop := viewOwnRow.holds Try.pinned (OpenSpec.ofChange viewOwnSpec)

/-- ITS FALSE NEIGHBOUR: 'it returns false'. Refute it at one input. -/
def viewOwnWrong : ChangeSpec := { name := "viewOwn", fn := fun _ => fun
  | [d] => { results := [.lit (.bool false)], args := [d] }
  | _ => none }
def ViewOwnWrongFalsely : Prop := viewOwnRow.holds Try.pinned (OpenSpec.ofChange viewOwnWrong)

/-- 'quorumlaw8.ChainGone': WHATEVER THE INPUT: true; the input reads as it did. -/
def chainGoneSpec : ChangeSpec := { name := "chainGone", fn := fun _ => fun
  | [d] => { results := [.lit (.bool true)], args := [d] }
  | _ => none }
def chainGoneRow : OpenClaim := { program := "ytafiikiofalpnaa", sum := "325069e6e23755203aed13ac57ad19b27fe39cda8d5d3adeab2c8538696aa825", func := "quorum/quorumlaw8.ChainGone", spec := "chainGone", inPlace := ["slices.overlaps[quorum/api.Version]"], unfollowed := true, recurses := true, apart := false }
def ChainGoneSaid : Prop := chainGoneRow.holds Try.pinned (OpenSpec.ofChange chainGoneSpec)

/-- ITS FALSE NEIGHBOUR: 'it returns false'. Refute it at one input. -/
def chainGoneWrong : ChangeSpec := { name := "chainGone", fn := fun _ => fun
  | [d] => { results := [.lit (.bool false)], args := [d] }
  | _ => none }
def ChainGoneWrongFalsely : Prop := chainGoneRow.holds Try.pinned (OpenSpec.ofChange chainGoneWrong)

/-- 'quorumlaw8.ChainLong': WHATEVER THE INPUT: true; the input reads as it did. -/
def chainLongSpec : ChangeSpec := { name := "chainLong", fn := fun _ => fun
  | [d] => { results := [.lit (.bool true)], args := [d] }
  | _ => none }
def chainLongRow : OpenClaim := { program := "ytafiikiofalpnaa", sum := "325069e6e23755203aed13ac57ad19b27fe39cda8d5d3adeab2c8538696aa825", func := "quorum/quorumlaw8.ChainLong", spec := "chainLong", inPlace := ["slices.overlaps[quorum/api.Version]"], unfollowed := true, recurses := true, apart := false }
def ChainLongSaid : Prop := chainLongRow.holds Try.pinned (OpenSpec.ofChange chainLongSpec)

/-- ITS FALSE NEIGHBOUR: 'it returns false'. Refute it at one input. -/
def chainLongWrong : ChangeSpec := { name := "chainLong", fn := fun _ => fun
  | [d] => { results := [.lit (.bool false)], args := [d] }
  | _ => none }
def ChainLongWrongFalsely : Prop := chainLongRow.holds Try.pinned (OpenSpec.ofChange chainLongWrong)

/-- 'quorumlaw8.ChainTells': WHATEVER THE INPUT: true; the input reads as it did. -/
def chainTellsSpec : ChangeSpec := { name := "chainTells", fn := fun _ => fun
  | [d] => { results := [.lit (.bool true)], args := [d] }
  | _ => none }
def chainTellsRow : OpenClaim := { program := "ytafiikiofalpnaa", sum := "325069e6e23755203aed13ac57ad19b27fe39cda8d5d3adeab2c8538696aa825", func := "quorum/quorumlaw8.ChainTells", spec := "chainTells", inPlace := ["slices.overlaps[quorum/api.Version]"], unfollowed := true, recurses := true, apart := false }
def ChainTellsSaid : Prop := chainTellsRow.holds Try.pinned (OpenSpec.ofChange chainTellsSpec)

/-- ITS FALSE NEIGHBOUR: 'it returns false'. Refute it at one input. -/
def chainTellsWrong : ChangeSpec := { name := "chainTells", fn := fun _ => fun
  | [d] => { results := [.lit (.bool false)], args := [d] }
  | _ => none }
def ChainTellsWrongFalsely : Prop := chainTellsRow.holds Try.pinned (OpenSpec.ofChange chainTellsWrong)

/-- 'quorumlaw5.PageStays': WHATEVER THE INPUT: true; the input reads as it did. -/
def pageStaysSpec : ChangeSpec := { name := "pageStays", fn := fun _ => fun
  | [d] => { results := [.lit (.bool true)], args := [d] }
  | _ => none }
def pageStaysRow : OpenClaim := { program := "ytafiikiofalpnaa", sum := "325069e6e23755203aed13ac57ad19b27fe39cda8d5d3adeab2c8538696aa825", func := "quorum/quorumlaw5.PageStays", spec := "pageStays", inPlace := ["slices.overlaps[int]"], apart := false }
def PageStaysSaid : Prop := pageStaysRow.holds Try.pinned (OpenSpec.ofChange pageStaysSpec)

/-- ITS FALSE NEIGHBOUR: 'it returns false'. Refute it at one input. -/
def pageStaysWrong : ChangeSpec := { name := "pageStays", fn := fun _ => fun
  | [d] => { results := [.lit (.bool false)], args := [d] }
  | _ => none }
def PageStaysWrongFalsely : Prop := pageStaysRow.holds Try.pinned (OpenSpec.ofChange pageStaysWrong)

/-- 'quorumlaw5.PageExact': WHATEVER THE INPUT: true; the input reads as it did. -/
def pageExactSpec : ChangeSpec := { name := "pageExact", fn := fun _ => fun
  | [d] => { results := [.lit (.bool true)], args := [d] }
  | _ => none }
def pageExactRow : OpenClaim := { program := "ytafiikiofalpnaa", sum := "325069e6e23755203aed13ac57ad19b27fe39cda8d5d3adeab2c8538696aa825", func := "quorum/quorumlaw5.PageExact", spec := "pageExact", inPlace := ["slices.overlaps[int]"], apart := false }
def PageExactSaid : Prop := pageExactRow.holds Try.pinned (OpenSpec.ofChange pageExactSpec)

/-- ITS FALSE NEIGHBOUR: 'it returns false'. Refute it at one input. -/
def pageExactWrong : ChangeSpec := { name := "pageExact", fn := fun _ => fun
  | [d] => { results := [.lit (.bool false)], args := [d] }
  | _ => none }
def PageExactWrongFalsely : Prop := pageExactRow.holds Try.pinned (OpenSpec.ofChange pageExactWrong)

/-- 'quorumlaw5.PageAdds': WHATEVER THE INPUT: true; the input reads as it did. -/
def pageAddsSpec : ChangeSpec := { name := "pageAdds", fn := fun _ => fun
  | [d] => { results := [.lit (.bool true)], args := [d] }
  | _ => none }
def pageAddsRow : OpenClaim := { program := "ytafiikiofalpnaa", sum := "325069e6e23755203aed13ac57ad19b27fe39cda8d5d3adeab2c8538696aa825", func := "quorum/quorumlaw5.PageAdds", spec := "pageAdds", inPlace := ["slices.overlaps[int]"], apart := false }
def PageAddsSaid : Prop := pageAddsRow.holds Try.pinned (OpenSpec.ofChange pageAddsSpec)

/-- ITS FALSE NEIGHBOUR: 'it returns false'. Refute it at one input. -/
def pageAddsWrong : ChangeSpec := { name := "pageAdds", fn := fun _ => fun
  | [d] => { results := [.lit (.bool false)], args := [d] }
  | _ => none }
def PageAddsWrongFalsely : Prop := pageAddsRow.holds Try.pinned (OpenSpec.ofChange pageAddsWrong)

/-- 'quorumlaw5.PageSets': WHATEVER THE INPUT: true; the input reads as it did. -/
def pageSetsSpec : ChangeSpec := { name := "pageSets", fn := fun _ => fun
  | [d] => { results := [.lit (.bool true)], args := [d] }
  | _ => none }
def pageSetsRow : OpenClaim := { program := "ytafiikiofalpnaa", sum := "325069e6e23755203aed13ac57ad19b27fe39cda8d5d3adeab2c8538696aa825", func := "quorum/quorumlaw5.PageSets", spec := "pageSets", inPlace := ["slices.overlaps[int]"], apart := false }
def PageSetsSaid : Prop := pageSetsRow.holds Try.pinned (OpenSpec.ofChange pageSetsSpec)

/-- ITS FALSE NEIGHBOUR: 'it returns false'. Refute it at one input. -/
def pageSetsWrong : ChangeSpec := { name := "pageSets", fn := fun _ => fun
  | [d] => { results := [.lit (.bool false)], args := [d] }
  | _ => none }
def PageSetsWrongFalsely : Prop := pageSetsRow.holds Try.pinned (OpenSpec.ofChange pageSetsWrong)

/-- 'quorumlaw5.PageCuts': WHATEVER THE INPUT: true; the input reads as it did. -/
def pageCutsSpec : ChangeSpec := { name := "pageCuts", fn := fun _ => fun
  | [d] => { results := [.lit (.bool true)], args := [d] }
  | _ => none }
def pageCutsRow : OpenClaim := { program := "ytafiikiofalpnaa", sum := "325069e6e23755203aed13ac57ad19b27fe39cda8d5d3adeab2c8538696aa825", func := "quorum/quorumlaw5.PageCuts", spec := "pageCuts", inPlace := ["slices.overlaps[int]"], apart := false }
def PageCutsSaid : Prop := pageCutsRow.holds Try.pinned (OpenSpec.ofChange pageCutsSpec)

/-- ITS FALSE NEIGHBOUR: 'it returns false'. Refute it at one input. -/
def pageCutsWrong : ChangeSpec := { name := "pageCuts", fn := fun _ => fun
  | [d] => { results := [.lit (.bool false)], args := [d] }
  | _ => none }
def PageCutsWrongFalsely : Prop := pageCutsRow.holds Try.pinned (OpenSpec.ofChange pageCutsWrong)

/-- 'quorumlaw12.PlanCommits': WHATEVER THE INPUT: true; the input reads as it did. -/
def planCommitsSpec : ChangeSpec := { name := "planCommits", fn := fun _ => fun
  | [d] => { results := [.lit (.bool true)], args := [d] }
  | _ => none }
def planCommitsRow : OpenClaim := { program := "ytafiikiofalpnaa", sum := "325069e6e23755203aed13ac57ad19b27fe39cda8d5d3adeab2c8538696aa825", func := "quorum/quorumlaw12.PlanCommits", spec := "planCommits", inPlace := ["internal/bytealg.abigen_runtime_cmpstring"], unfollowed := true, recurses := true, apart := false }
def PlanCommitsSaid : Prop := planCommitsRow.holds Try.pinned (OpenSpec.ofChange planCommitsSpec)

/-- ITS FALSE NEIGHBOUR: 'it returns false'. Refute it at one input. -/
def planCommitsWrong : ChangeSpec := { name := "planCommits", fn := fun _ => fun
  | [d] => { results := [.lit (.bool false)], args := [d] }
  | _ => none }
def PlanCommitsWrongFalsely : Prop := planCommitsRow.holds Try.pinned (OpenSpec.ofChange planCommitsWrong)

/- THE SECOND FORM. 'bulk': how many values and letters a reading holds, each counted each time it is reached (what is shared counts as often as it is met; a slice's spare places count too). A statement '..UptoSaid' is the law's where the arguments, and the package variables that the reading takes, are together of bulk at most 1048576: NARROWER than '..Said'. Prove '..Said' where nothing that the law and all that it calls make is longer than what came in: it says more and counts as full. Else prove '..UptoSaid'. A law counts once. -/
mutual
def uptoBulk {H : Type} : DataW H → Nat
  | .lit (.string bytes) => bytes.length + 1
  | .lit _ => 1
  | .nil => 1
  | .ptr d => uptoBulk d + 1
  | .slice elems spare => uptoBulkAll elems + uptoBulkAll spare + 1
  | .agg parts => uptoBulkAll parts + 1
  | .iface _ d => uptoBulk d + 1
  | .map entries => uptoBulkEntries entries + 1
  | .held _ => 1
def uptoBulkAll {H : Type} : List (DataW H) → Nat
  | [] => 0
  | d :: r => uptoBulk d + uptoBulkAll r
def uptoBulkEntries {H : Type} : List (Lit × DataW H) → Nat
  | [] => 0
  | x :: r => uptoBulkEntry x + uptoBulkEntries r
def uptoBulkEntry {H : Type} : Lit × DataW H → Nat
  | (.string bytes, d) => bytes.length + uptoBulk d + 1
  | (_, d) => uptoBulk d + 1
 end
def uptoSmall : (H : Type) → List (DataW H) → Bool := fun _ ds => decide (uptoBulkAll ds ≤ 1048576)
def OpenSpec.upto (s : _root_.Go.ChangeSpec) : _root_.Go.OpenSpec := { _root_.Go.OpenSpec.ofChange s with cond := some uptoSmall }

/-- 'quorumlaw8.ChainPurged', WHERE WHAT IT READS IS OF BULK AT MOST 1048576: true; the input reads as it did. -/
def chainPurgedUptoRow : OpenClaim := { program := "ytafiikiofalpnaa", sum := "325069e6e23755203aed13ac57ad19b27fe39cda8d5d3adeab2c8538696aa825", func := "quorum/quorumlaw8.ChainPurged", spec := "chainPurged", unfollowed := true, recurses := true, apart := false, narrowed := true }
def ChainPurgedUptoSaid : Prop := chainPurgedUptoRow.holds Try.pinned (OpenSpec.upto chainPurgedSpec)

/-- 'quorumlaw10.PendBack', WHERE WHAT IT READS IS OF BULK AT MOST 1048576: true; the input reads as it did. -/
def pendBackUptoRow : OpenClaim := { program := "ytafiikiofalpnaa", sum := "325069e6e23755203aed13ac57ad19b27fe39cda8d5d3adeab2c8538696aa825", func := "quorum/quorumlaw10.PendBack", spec := "pendBack", unfollowed := true, recurses := true, apart := false, narrowed := true }
def PendBackUptoSaid : Prop := pendBackUptoRow.holds Try.pinned (OpenSpec.upto pendBackSpec)

/-- 'quorumlaw11.ViewOwn', WHERE WHAT IT READS IS OF BULK AT MOST 1048576: true; the input reads as it did. -/
def viewOwnUptoRow : OpenClaim := { program := "ytafiikiofalpnaa", sum := "325069e6e23755203aed13ac57ad19b27fe39cda8d5d3adeab2c8538696aa825", func := "quorum/quorumlaw11.ViewOwn", spec := "viewOwn", inPlace := ["internal/bytealg.abigen_runtime_cmpstring"], unfollowed := true, recurses := true, apart := false, narrowed := true }
def ViewOwnUptoSaid : Prop := viewOwnUptoRow.holds Try.pinned (OpenSpec.upto viewOwnSpec)

/-- 'quorumlaw8.ChainGone', WHERE WHAT IT READS IS OF BULK AT MOST 1048576: true; the input reads as it did. -/
def chainGoneUptoRow : OpenClaim := { program := "ytafiikiofalpnaa", sum := "325069e6e23755203aed13ac57ad19b27fe39cda8d5d3adeab2c8538696aa825", func := "quorum/quorumlaw8.ChainGone", spec := "chainGone", inPlace := ["slices.overlaps[quorum/api.Version]"], unfollowed := true, recurses := true, apart := false, narrowed := true }
def ChainGoneUptoSaid : Prop := chainGoneUptoRow.holds Try.pinned (OpenSpec.upto chainGoneSpec)

/-- 'quorumlaw8.ChainLong', WHERE WHAT IT READS IS OF BULK AT MOST 1048576: true; the input reads as it did. -/
def chainLongUptoRow : OpenClaim := { program := "ytafiikiofalpnaa", sum := "325069e6e23755203aed13ac57ad19b27fe39cda8d5d3adeab2c8538696aa825", func := "quorum/quorumlaw8.ChainLong", spec := "chainLong", inPlace := ["slices.overlaps[quorum/api.Version]"], unfollowed := true, recurses := true, apart := false, narrowed := true }
def ChainLongUptoSaid : Prop := chainLongUptoRow.holds Try.pinned (OpenSpec.upto chainLongSpec)

/-- 'quorumlaw8.ChainTells', WHERE WHAT IT READS IS OF BULK AT MOST 1048576: true; the input reads as it did. -/
def chainTellsUptoRow : OpenClaim := { program := "ytafiikiofalpnaa", sum := "325069e6e23755203aed13ac57ad19b27fe39cda8d5d3adeab2c8538696aa825", func := "quorum/quorumlaw8.ChainTells", spec := "chainTells", inPlace := ["slices.overlaps[quorum/api.Version]"], unfollowed := true, recurses := true, apart := false, narrowed := true }
def ChainTellsUptoSaid : Prop := chainTellsUptoRow.holds Try.pinned (OpenSpec.upto chainTellsSpec)

/-- 'quorumlaw5.PageStays', WHERE WHAT IT READS IS OF BULK AT MOST 1048576: true; the input reads as it did. -/
def pageStaysUptoRow : OpenClaim := { program := "ytafiikiofalpnaa", sum := "325069e6e23755203aed13ac57ad19b27fe39cda8d5d3adeab2c8538696aa825", func := "quorum/quorumlaw5.PageStays", spec := "pageStays", inPlace := ["slices.overlaps[int]"], apart := false, narrowed := true }
def PageStaysUptoSaid : Prop := pageStaysUptoRow.holds Try.pinned (OpenSpec.upto pageStaysSpec)

/-- 'quorumlaw5.PageExact', WHERE WHAT IT READS IS OF BULK AT MOST 1048576: true; the input reads as it did. -/
def pageExactUptoRow : OpenClaim := { program := "ytafiikiofalpnaa", sum := "325069e6e23755203aed13ac57ad19b27fe39cda8d5d3adeab2c8538696aa825", func := "quorum/quorumlaw5.PageExact", spec := "pageExact", inPlace := ["slices.overlaps[int]"], apart := false, narrowed := true }
def PageExactUptoSaid : Prop := pageExactUptoRow.holds Try.pinned (OpenSpec.upto pageExactSpec)

/-- 'quorumlaw5.PageAdds', WHERE WHAT IT READS IS OF BULK AT MOST 1048576: true; the input reads as it did. -/
def pageAddsUptoRow : OpenClaim := { program := "ytafiikiofalpnaa", sum := "325069e6e23755203aed13ac57ad19b27fe39cda8d5d3adeab2c8538696aa825", func := "quorum/quorumlaw5.PageAdds", spec := "pageAdds", inPlace := ["slices.overlaps[int]"], apart := false, narrowed := true }
def PageAddsUptoSaid : Prop := pageAddsUptoRow.holds Try.pinned (OpenSpec.upto pageAddsSpec)

/-- 'quorumlaw5.PageSets', WHERE WHAT IT READS IS OF BULK AT MOST 1048576: true; the input reads as it did. -/
def pageSetsUptoRow : OpenClaim := { program := "ytafiikiofalpnaa", sum := "325069e6e23755203aed13ac57ad19b27fe39cda8d5d3adeab2c8538696aa825", func := "quorum/quorumlaw5.PageSets", spec := "pageSets", inPlace := ["slices.overlaps[int]"], apart := false, narrowed := true }
def PageSetsUptoSaid : Prop := pageSetsUptoRow.holds Try.pinned (OpenSpec.upto pageSetsSpec)

/-- 'quorumlaw5.PageCuts', WHERE WHAT IT READS IS OF BULK AT MOST 1048576: true; the input reads as it did. -/
def pageCutsUptoRow : OpenClaim := { program := "ytafiikiofalpnaa", sum := "325069e6e23755203aed13ac57ad19b27fe39cda8d5d3adeab2c8538696aa825", func := "quorum/quorumlaw5.PageCuts", spec := "pageCuts", inPlace := ["slices.overlaps[int]"], apart := false, narrowed := true }
def PageCutsUptoSaid : Prop := pageCutsUptoRow.holds Try.pinned (OpenSpec.upto pageCutsSpec)

/-- 'quorumlaw12.PlanCommits', WHERE WHAT IT READS IS OF BULK AT MOST 1048576: true; the input reads as it did. -/
def planCommitsUptoRow : OpenClaim := { program := "ytafiikiofalpnaa", sum := "325069e6e23755203aed13ac57ad19b27fe39cda8d5d3adeab2c8538696aa825", func := "quorum/quorumlaw12.PlanCommits", spec := "planCommits", inPlace := ["internal/bytealg.abigen_runtime_cmpstring"], unfollowed := true, recurses := true, apart := false, narrowed := true }
def PlanCommitsUptoSaid : Prop := planCommitsUptoRow.holds Try.pinned (OpenSpec.upto planCommitsSpec)

end Rows
end Go.Proofs.Ytafiikiofalpnaa
