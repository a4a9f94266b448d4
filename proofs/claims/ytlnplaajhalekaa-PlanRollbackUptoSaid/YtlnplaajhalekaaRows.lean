/-
  No cell of these rows narrows 'for every input' (looked for: loops, veiled, ifaces, maps, wideKeys, modest, calm, conditions, laid).
  DERIVED. THE GIVEN ROWS OF THIS SEAT. 12 by the template 'for every input the law returns true; each argument reads behind the call as it read before'; 0 by the template 'total and deterministic' (their statements: YtlnplaajhalekaaTotals.lean).
  GIVEN WITH THE SEED: the statements are not yours to turn. If you find one false, say at which input.
  Laid BY PROGRAM, IN A SANDBOX (cutbox-rows.mjs): the forced cells as the released guide's own fill.sh prints them over the translation 0470c28085ea145a… (all of the seat's roots in one cut). By AI agents, Wed Nov 11 2026. No macro, syntax, notation, axiom, sorry.
-/
import Derived.Test.YtlnplaajhalekaaChecked
import GoSem.Claim
import GoSem.ClaimJoined
import GoSem.ClaimMapViews
import Derived.JoinedTies
import Derived.KernelRfl
namespace Go.Proofs.Ytlnplaajhalekaa
/- THE CELL 'sum', in the pinned program and in every row, IS THE sha256 OF THE DUMP (.gsa) THAT YtlnplaajhalekaaProg.lean LOADS. Nothing in Lean hashes anything: it is a label: what it is worth is what the hold of that sum in a sandbox is worth. -/
noncomputable def Try.pinned : Pinned := { name := "ytlnplaajhalekaa", sum := "0470c28085ea145a8730b3beb72d3f8d13ec8fda0cfc7e7a8ca93a3658a3eacd", checked := Try.checked }
namespace Rows
def none {H : Type} : Left H := { results := [], args := [] }

/-- 'quorumlaw12.PlanCommits': WHATEVER THE INPUT: true; the input reads as it did. -/
def planCommitsSpec : ChangeSpec := { name := "planCommits", fn := fun _ => fun
  | [d] => { results := [.lit (.bool true)], args := [d] }
  | _ => none }
def planCommitsRow : OpenClaim := { program := "ytlnplaajhalekaa", sum := "0470c28085ea145a8730b3beb72d3f8d13ec8fda0cfc7e7a8ca93a3658a3eacd", func := "quorum/quorumlaw12.PlanCommits", spec := "planCommits", inPlace := ["internal/bytealg.abigen_runtime_cmpstring"], unfollowed := true, recurses := true, apart := false }
def PlanCommitsSaid : Prop := planCommitsRow.holds Try.pinned (OpenSpec.ofChange planCommitsSpec)

/-- ITS FALSE NEIGHBOUR: 'it returns false'. Refute it at one input. -/
def planCommitsWrong : ChangeSpec := { name := "planCommits", fn := fun _ => fun
  | [d] => { results := [.lit (.bool false)], args := [d] }
  | _ => none }
def PlanCommitsWrongFalsely : Prop := planCommitsRow.holds Try.pinned (OpenSpec.ofChange planCommitsWrong)

/-- 'quorumlaw12.PlanGet': WHATEVER THE INPUT: true; the input reads as it did. -/
def planGetSpec : ChangeSpec := { name := "planGet", fn := fun _ => fun
  | [d] => { results := [.lit (.bool true)], args := [d] }
  | _ => none }
def planGetRow : OpenClaim := { program := "ytlnplaajhalekaa", sum := "0470c28085ea145a8730b3beb72d3f8d13ec8fda0cfc7e7a8ca93a3658a3eacd", func := "quorum/quorumlaw12.PlanGet", spec := "planGet", inPlace := ["internal/bytealg.abigen_runtime_cmpstring"], unfollowed := true, recurses := true, apart := false }
def PlanGetSaid : Prop := planGetRow.holds Try.pinned (OpenSpec.ofChange planGetSpec)

/-- ITS FALSE NEIGHBOUR: 'it returns false'. Refute it at one input. -/
def planGetWrong : ChangeSpec := { name := "planGet", fn := fun _ => fun
  | [d] => { results := [.lit (.bool false)], args := [d] }
  | _ => none }
def PlanGetWrongFalsely : Prop := planGetRow.holds Try.pinned (OpenSpec.ofChange planGetWrong)

/-- 'quorumlaw12.PlanHold': WHATEVER THE INPUT: true; the input reads as it did. -/
def planHoldSpec : ChangeSpec := { name := "planHold", fn := fun _ => fun
  | [d] => { results := [.lit (.bool true)], args := [d] }
  | _ => none }
def planHoldRow : OpenClaim := { program := "ytlnplaajhalekaa", sum := "0470c28085ea145a8730b3beb72d3f8d13ec8fda0cfc7e7a8ca93a3658a3eacd", func := "quorum/quorumlaw12.PlanHold", spec := "planHold", inPlace := ["internal/bytealg.abigen_runtime_cmpstring"], unfollowed := true, recurses := true, apart := false }
def PlanHoldSaid : Prop := planHoldRow.holds Try.pinned (OpenSpec.ofChange planHoldSpec)

/-- ITS FALSE NEIGHBOUR: 'it returns false'. Refute it at one input. -/
def planHoldWrong : ChangeSpec := { name := "planHold", fn := fun _ => fun
  | [d] => { results := [.lit (.bool false)], args := [d] }
  | _ => none }
def PlanHoldWrongFalsely : Prop := planHoldRow.holds Try.pinned (OpenSpec.ofChange planHoldWrong)

/-- 'quorumlaw12.PlanInsert': WHATEVER THE INPUT: true; the input reads as it did. -/
def planInsertSpec : ChangeSpec := { name := "planInsert", fn := fun _ => fun
  | [d] => { results := [.lit (.bool true)], args := [d] }
  | _ => none }
def planInsertRow : OpenClaim := { program := "ytlnplaajhalekaa", sum := "0470c28085ea145a8730b3beb72d3f8d13ec8fda0cfc7e7a8ca93a3658a3eacd", func := "quorum/quorumlaw12.PlanInsert", spec := "planInsert", inPlace := ["internal/bytealg.abigen_runtime_cmpstring"], unfollowed := true, recurses := true, apart := false }
def PlanInsertSaid : Prop := planInsertRow.holds Try.pinned (OpenSpec.ofChange planInsertSpec)

/-- ITS FALSE NEIGHBOUR: 'it returns false'. Refute it at one input. -/
def planInsertWrong : ChangeSpec := { name := "planInsert", fn := fun _ => fun
  | [d] => { results := [.lit (.bool false)], args := [d] }
  | _ => none }
def PlanInsertWrongFalsely : Prop := planInsertRow.holds Try.pinned (OpenSpec.ofChange planInsertWrong)

/-- 'quorumlaw12.PlanPut': WHATEVER THE INPUT: true; the input reads as it did. -/
def planPutSpec : ChangeSpec := { name := "planPut", fn := fun _ => fun
  | [d] => { results := [.lit (.bool true)], args := [d] }
  | _ => none }
def planPutRow : OpenClaim := { program := "ytlnplaajhalekaa", sum := "0470c28085ea145a8730b3beb72d3f8d13ec8fda0cfc7e7a8ca93a3658a3eacd", func := "quorum/quorumlaw12.PlanPut", spec := "planPut", inPlace := ["internal/bytealg.abigen_runtime_cmpstring"], unfollowed := true, recurses := true, apart := false }
def PlanPutSaid : Prop := planPutRow.holds Try.pinned (OpenSpec.ofChange planPutSpec)

/-- ITS FALSE NEIGHBOUR: 'it returns false'. Refute it at one input. -/
def planPutWrong : ChangeSpec := { name := "planPut", fn := fun _ => fun
  | [d] => { results := [.lit (.bool false)], args := [d] }
  | _ => none }
def PlanPutWrongFalsely : Prop := planPutRow.holds Try.pinned (OpenSpec.ofChange planPutWrong)

/-- 'quorumlaw12.PlanDelete': WHATEVER THE INPUT: true; the input reads as it did. -/
def planDeleteSpec : ChangeSpec := { name := "planDelete", fn := fun _ => fun
  | [d] => { results := [.lit (.bool true)], args := [d] }
  | _ => none }
def planDeleteRow : OpenClaim := { program := "ytlnplaajhalekaa", sum := "0470c28085ea145a8730b3beb72d3f8d13ec8fda0cfc7e7a8ca93a3658a3eacd", func := "quorum/quorumlaw12.PlanDelete", spec := "planDelete", inPlace := ["internal/bytealg.abigen_runtime_cmpstring"], unfollowed := true, recurses := true, apart := false }
def PlanDeleteSaid : Prop := planDeleteRow.holds Try.pinned (OpenSpec.ofChange planDeleteSpec)

/-- ITS FALSE NEIGHBOUR: 'it returns false'. Refute it at one input. -/
def planDeleteWrong : ChangeSpec := { name := "planDelete", fn := fun _ => fun
  | [d] => { results := [.lit (.bool false)], args := [d] }
  | _ => none }
def PlanDeleteWrongFalsely : Prop := planDeleteRow.holds Try.pinned (OpenSpec.ofChange planDeleteWrong)

/-- 'quorumlaw12.PlanTable': WHATEVER THE INPUT: true; the input reads as it did. -/
def planTableSpec : ChangeSpec := { name := "planTable", fn := fun _ => fun
  | [d] => { results := [.lit (.bool true)], args := [d] }
  | _ => none }
def planTableRow : OpenClaim := { program := "ytlnplaajhalekaa", sum := "0470c28085ea145a8730b3beb72d3f8d13ec8fda0cfc7e7a8ca93a3658a3eacd", func := "quorum/quorumlaw12.PlanTable", spec := "planTable", inPlace := ["internal/bytealg.abigen_runtime_cmpstring"], unfollowed := true, recurses := true, apart := false }
def PlanTableSaid : Prop := planTableRow.holds Try.pinned (OpenSpec.ofChange planTableSpec)

/-- ITS FALSE NEIGHBOUR: 'it returns false'. Refute it at one input. -/
def planTableWrong : ChangeSpec := { name := "planTable", fn := fun _ => fun
  | [d] => { results := [.lit (.bool false)], args := [d] }
  | _ => none }
def PlanTableWrongFalsely : Prop := planTableRow.holds Try.pinned (OpenSpec.ofChange planTableWrong)

/-- 'quorumlaw12.PlanSave': WHATEVER THE INPUT: true; the input reads as it did. -/
def planSaveSpec : ChangeSpec := { name := "planSave", fn := fun _ => fun
  | [d] => { results := [.lit (.bool true)], args := [d] }
  | _ => none }
def planSaveRow : OpenClaim := { program := "ytlnplaajhalekaa", sum := "0470c28085ea145a8730b3beb72d3f8d13ec8fda0cfc7e7a8ca93a3658a3eacd", func := "quorum/quorumlaw12.PlanSave", spec := "planSave", inPlace := ["internal/bytealg.abigen_runtime_cmpstring"], unfollowed := true, recurses := true, apart := false }
def PlanSaveSaid : Prop := planSaveRow.holds Try.pinned (OpenSpec.ofChange planSaveSpec)

/-- ITS FALSE NEIGHBOUR: 'it returns false'. Refute it at one input. -/
def planSaveWrong : ChangeSpec := { name := "planSave", fn := fun _ => fun
  | [d] => { results := [.lit (.bool false)], args := [d] }
  | _ => none }
def PlanSaveWrongFalsely : Prop := planSaveRow.holds Try.pinned (OpenSpec.ofChange planSaveWrong)

/-- 'quorumlaw12.PlanReturn': WHATEVER THE INPUT: true; the input reads as it did. -/
def planReturnSpec : ChangeSpec := { name := "planReturn", fn := fun _ => fun
  | [d] => { results := [.lit (.bool true)], args := [d] }
  | _ => none }
def planReturnRow : OpenClaim := { program := "ytlnplaajhalekaa", sum := "0470c28085ea145a8730b3beb72d3f8d13ec8fda0cfc7e7a8ca93a3658a3eacd", func := "quorum/quorumlaw12.PlanReturn", spec := "planReturn", inPlace := ["internal/bytealg.abigen_runtime_cmpstring"], unfollowed := true, recurses := true, apart := false }
def PlanReturnSaid : Prop := planReturnRow.holds Try.pinned (OpenSpec.ofChange planReturnSpec)

/-- ITS FALSE NEIGHBOUR: 'it returns false'. Refute it at one input. -/
def planReturnWrong : ChangeSpec := { name := "planReturn", fn := fun _ => fun
  | [d] => { results := [.lit (.bool false)], args := [d] }
  | _ => none }
def PlanReturnWrongFalsely : Prop := planReturnRow.holds Try.pinned (OpenSpec.ofChange planReturnWrong)

/-- 'quorumlaw12.PlanRelease': WHATEVER THE INPUT: true; the input reads as it did. -/
def planReleaseSpec : ChangeSpec := { name := "planRelease", fn := fun _ => fun
  | [d] => { results := [.lit (.bool true)], args := [d] }
  | _ => none }
def planReleaseRow : OpenClaim := { program := "ytlnplaajhalekaa", sum := "0470c28085ea145a8730b3beb72d3f8d13ec8fda0cfc7e7a8ca93a3658a3eacd", func := "quorum/quorumlaw12.PlanRelease", spec := "planRelease", inPlace := ["internal/bytealg.abigen_runtime_cmpstring"], unfollowed := true, recurses := true, apart := false }
def PlanReleaseSaid : Prop := planReleaseRow.holds Try.pinned (OpenSpec.ofChange planReleaseSpec)

/-- ITS FALSE NEIGHBOUR: 'it returns false'. Refute it at one input. -/
def planReleaseWrong : ChangeSpec := { name := "planRelease", fn := fun _ => fun
  | [d] => { results := [.lit (.bool false)], args := [d] }
  | _ => none }
def PlanReleaseWrongFalsely : Prop := planReleaseRow.holds Try.pinned (OpenSpec.ofChange planReleaseWrong)

/-- 'quorumlaw12.PlanCommit': WHATEVER THE INPUT: true; the input reads as it did. -/
def planCommitSpec : ChangeSpec := { name := "planCommit", fn := fun _ => fun
  | [d] => { results := [.lit (.bool true)], args := [d] }
  | _ => none }
def planCommitRow : OpenClaim := { program := "ytlnplaajhalekaa", sum := "0470c28085ea145a8730b3beb72d3f8d13ec8fda0cfc7e7a8ca93a3658a3eacd", func := "quorum/quorumlaw12.PlanCommit", spec := "planCommit", inPlace := ["internal/bytealg.abigen_runtime_cmpstring"], unfollowed := true, recurses := true, apart := false }
def PlanCommitSaid : Prop := planCommitRow.holds Try.pinned (OpenSpec.ofChange planCommitSpec)

/-- ITS FALSE NEIGHBOUR: 'it returns false'. Refute it at one input. -/
def planCommitWrong : ChangeSpec := { name := "planCommit", fn := fun _ => fun
  | [d] => { results := [.lit (.bool false)], args := [d] }
  | _ => none }
def PlanCommitWrongFalsely : Prop := planCommitRow.holds Try.pinned (OpenSpec.ofChange planCommitWrong)

/-- 'quorumlaw12.PlanRollback': WHATEVER THE INPUT: true; the input reads as it did. -/
def planRollbackSpec : ChangeSpec := { name := "planRollback", fn := fun _ => fun
  | [d] => { results := [.lit (.bool true)], args := [d] }
  | _ => none }
def planRollbackRow : OpenClaim := { program := "ytlnplaajhalekaa", sum := "0470c28085ea145a8730b3beb72d3f8d13ec8fda0cfc7e7a8ca93a3658a3eacd", func := "quorum/quorumlaw12.PlanRollback", spec := "planRollback", inPlace := ["internal/bytealg.abigen_runtime_cmpstring"], unfollowed := true, recurses := true, apart := false }
def PlanRollbackSaid : Prop := planRollbackRow.holds Try.pinned (OpenSpec.ofChange planRollbackSpec)

/-- ITS FALSE NEIGHBOUR: 'it returns false'. Refute it at one input. -/
def planRollbackWrong : ChangeSpec := { name := "planRollback", fn := fun _ => fun
  | [d] => { results := [.lit (.bool false)], args := [d] }
  | _ => none }
def PlanRollbackWrongFalsely : Prop := planRollbackRow.holds Try.pinned (OpenSpec.ofChange planRollbackWrong)

/- THE SECOND FORM. 'bulk': how many values and letters a reading holds, each counted each time it is reached (what is shared counts as often as it is met; a slice's spare places count too). A statement '..UptoSaid' is the law's where the arguments, and the package variables that the reading takes, are together of bulk at most 1048576: NARROWER than '..Said'. Prove '..Said' where nothing that the law and all that it calls make is longer than what came in: it says more and counts as full. Else prove '..UptoSaid'. A law counts once. -/
mutual
def uptoBulk {H : Type} : DataW H → Nat
  | .lit (.string bytes) => bytes.length + 1
  | .lit _ => 1
  | .nil => 1
  | .ptr d => uptoBulk d + 1
  | .slice elems spare => uptoBulkAll elems + uptoBulkAll spare + 1
  | .agg parts => uptoBulkAll parts + 1
  | .iface _ d => uptoBulk d + 1
  | .map entries => uptoBulkEntries entries + 1
  | .held _ => 1
def uptoBulkAll {H : Type} : List (DataW H) → Nat
  | [] => 0
  | d :: r => uptoBulk d + uptoBulkAll r
def uptoBulkEntries {H : Type} : List (Lit × DataW H) → Nat
  | [] => 0
  | x :: r => uptoBulkEntry x + uptoBulkEntries r
def uptoBulkEntry {H : Type} : Lit × DataW H → Nat
  | (.string bytes, d) => bytes.length + uptoBulk d + 1
  | (_, d) => uptoBulk d + 1
 end
def uptoSmall : (H : Type) → List (DataW H) → Bool := fun _ ds => decide (uptoBulkAll ds ≤ 1048576)
def OpenSpec.upto (s : _root_.Go.ChangeSpec) : _root_.Go.OpenSpec := { _root_.Go.OpenSpec.ofChange s with cond := some uptoSmall }

/-- 'quorumlaw12.PlanCommits', WHERE WHAT IT READS IS OF BULK AT MOST 1048576: true; the input reads as it did. -/
def planCommitsUptoRow : OpenClaim := { program := "ytlnplaajhalekaa", sum := "0470c28085ea145a8730b3beb72d3f8d13ec8fda0cfc7e7a8ca93a3658a3eacd", func := "quorum/quorumlaw12.PlanCommits", spec := "planCommits", inPlace := ["internal/bytealg.abigen_runtime_cmpstring"], unfollowed := true, recurses := true, apart := false, narrowed := true }
def PlanCommitsUptoSaid : Prop := planCommitsUptoRow.holds Try.pinned (OpenSpec.upto planCommitsSpec)

/-- 'quorumlaw12.PlanGet', WHERE WHAT IT READS IS OF BULK AT MOST 1048576: true; the input reads as it did. -/
def planGetUptoRow : OpenClaim := { program := "ytlnplaajhalekaa", sum := "0470c28085ea145a8730b3beb72d3f8d13ec8fda0cfc7e7a8ca93a3658a3eacd", func := "quorum/quorumlaw12.PlanGet", spec := "planGet", inPlace := ["internal/bytealg.abigen_runtime_cmpstring"], unfollowed := true, recurses := true, apart := false, narrowed := true }
def PlanGetUptoSaid : Prop := planGetUptoRow.holds Try.pinned (OpenSpec.upto planGetSpec)

/-- 'quorumlaw12.PlanHold', WHERE WHAT IT READS IS OF BULK AT MOST 1048576: true; the input reads as it did. -/
def planHoldUptoRow : OpenClaim := { program := "ytlnplaajhalekaa", sum := "0470c28085ea145a8730b3beb72d3f8d13ec8fda0cfc7e7a8ca93a3658a3eacd", func := "quorum/quorumlaw12.PlanHold", spec := "planHold", inPlace := ["internal/bytealg.abigen_runtime_cmpstring"], unfollowed := true, recurses := true, apart := false, narrowed := true }
def PlanHoldUptoSaid : Prop := planHoldUptoRow.holds Try.pinned (OpenSpec.upto planHoldSpec)

/-- 'quorumlaw12.PlanInsert', WHERE WHAT IT READS IS OF BULK AT MOST 1048576: true; the input reads as it did. -/
def planInsertUptoRow : OpenClaim := { program := "ytlnplaajhalekaa", sum := "0470c28085ea145a8730b3beb72d3f8d13ec8fda0cfc7e7a8ca93a3658a3eacd", func := "quorum/quorumlaw12.PlanInsert", spec := "planInsert", inPlace := ["internal/bytealg.abigen_runtime_cmpstring"], unfollowed := true, recurses := true, apart := false, narrowed := true }
def PlanInsertUptoSaid : Prop := planInsertUptoRow.holds Try.pinned (OpenSpec.upto planInsertSpec)

/-- 'quorumlaw12.PlanPut', WHERE WHAT IT READS IS OF BULK AT MOST 1048576: true; the input reads as it did. -/
def planPutUptoRow : OpenClaim := { program := "ytlnplaajhalekaa", sum := "0470c28085ea145a8730b3beb72d3f8d13ec8fda0cfc7e7a8ca93a3658a3eacd", func := "quorum/quorumlaw12.PlanPut", spec := "planPut", inPlace := ["internal/bytealg.abigen_runtime_cmpstring"], unfollowed := true, recurses := true, apart := false, narrowed := true }
def PlanPutUptoSaid : Prop := planPutUptoRow.holds Try.pinned (OpenSpec.upto planPutSpec)

/-- 'quorumlaw12.PlanDelete', WHERE WHAT IT READS IS OF BULK AT MOST 1048576: true; the input reads as it did. -/
def planDeleteUptoRow : OpenClaim := { program := "ytlnplaajhalekaa", sum := "0470c28085ea145a8730b3beb72d3f8d13ec8fda0cfc7e7a8ca93a3658a3eacd", func := "quorum/quorumlaw12.PlanDelete", spec := "planDelete", inPlace := ["internal/bytealg.abigen_runtime_cmpstring"], unfollowed := true, recurses := true, apart := false, narrowed := true }
def PlanDeleteUptoSaid : Prop := planDeleteUptoRow.holds Try.pinned (OpenSpec.upto planDeleteSpec)

/-- 'quorumlaw12.PlanTable', WHERE WHAT IT READS IS OF BULK AT MOST 1048576: true; the input reads as it did. -/
def planTableUptoRow : OpenClaim := { program := "ytlnplaajhalekaa", sum := "0470c28085ea145a8730b3beb72d3f8d13ec8fda0cfc7e7a8ca93a3658a3eacd", func := "quorum/quorumlaw12.PlanTable", spec := "planTable", inPlace := ["internal/bytealg.abigen_runtime_cmpstring"], unfollowed := true, recurses := true, apart := false, narrowed := true }
def PlanTableUptoSaid : Prop := planTableUptoRow.holds Try.pinned (OpenSpec.upto planTableSpec)

/-- 'quorumlaw12.PlanSave', WHERE WHAT IT READS IS OF BULK AT MOST 1048576: true; the input reads as it did. -/
def planSaveUptoRow : OpenClaim := { program := "ytlnplaajhalekaa", sum := "0470c28085ea145a8730b3beb72d3f8d13ec8fda0cfc7e7a8ca93a3658a3eacd", func := "quorum/quorumlaw12.PlanSave", spec := "planSave", inPlace := ["internal/bytealg.abigen_runtime_cmpstring"], unfollowed := true, recurses := true, apart := false, narrowed := true }
def PlanSaveUptoSaid : Prop := planSaveUptoRow.holds Try.pinned (OpenSpec.upto planSaveSpec)

/-- 'quorumlaw12.PlanReturn', WHERE WHAT IT READS IS OF BULK AT MOST 1048576: true; the input reads as it did. -/
def planReturnUptoRow : OpenClaim := { program := "ytlnplaajhalekaa", sum := "0470c28085ea145a8730b3beb72d3f8d13ec8fda0cfc7e7a8ca93a3658a3eacd", func := "quorum/quorumlaw12.PlanReturn", spec := "planReturn", inPlace := ["internal/bytealg.abigen_runtime_cmpstring"], unfollowed := true, recurses := true, apart := false, narrowed := true }
def PlanReturnUptoSaid : Prop := planReturnUptoRow.holds Try.pinned (OpenSpec.upto planReturnSpec)

/-- 'quorumlaw12.PlanRelease', WHERE WHAT IT READS IS OF BULK AT MOST 1048576: true; the input reads as it did. -/
def planReleaseUptoRow : OpenClaim := { program := "ytlnplaajhalekaa", sum := "0470c28085ea145a8730b3beb72d3f8d13ec8fda0cfc7e7a8ca93a3658a3eacd", func := "quorum/quorumlaw12.PlanRelease", spec := "planRelease", inPlace := ["internal/bytealg.abigen_runtime_cmpstring"], unfollowed := true, recurses := true, apart := false, narrowed := true }
def PlanReleaseUptoSaid : Prop := planReleaseUptoRow.holds Try.pinned (OpenSpec.upto planReleaseSpec)

/-- 'quorumlaw12.PlanCommit', WHERE WHAT IT READS IS OF BULK AT MOST 1048576: true; the input reads as it did. -/
def planCommitUptoRow : OpenClaim := { program := "ytlnplaajhalekaa", sum := "0470c28085ea145a8730b3beb72d3f8d13ec8fda0cfc7e7a8ca93a3658a3eacd", func := "quorum/quorumlaw12.PlanCommit", spec := "planCommit", inPlace := ["internal/bytealg.abigen_runtime_cmpstring"], unfollowed := true, recurses := true, apart := false, narrowed := true }
def PlanCommitUptoSaid : Prop := planCommitUptoRow.holds Try.pinned (OpenSpec.upto planCommitSpec)

/-- 'quorumlaw12.PlanRollback', WHERE WHAT IT READS IS OF BULK AT MOST 1048576: true; the input reads as it did. -/
def planRollbackUptoRow : OpenClaim := { program := "ytlnplaajhalekaa", sum := "0470c28085ea145a8730b3beb72d3f8d13ec8fda0cfc7e7a8ca93a3658a3eacd", func := "quorum/quorumlaw12.PlanRollback", spec := "planRollback", inPlace := ["internal/bytealg.abigen_runtime_cmpstring"], unfollowed := true, recurses := true, apart := false, narrowed := true }
def PlanRollbackUptoSaid : Prop := planRollbackUptoRow.holds Try.pinned (OpenSpec.upto planRollbackSpec)

end Rows
end Go.Proofs.Ytlnplaajhalekaa
