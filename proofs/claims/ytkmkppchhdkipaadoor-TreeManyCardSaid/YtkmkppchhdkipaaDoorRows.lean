/-
  NARROWER THAN 'FOR EVERY INPUT', by the rows' own cells (each row's printed sentence says how): CursorLeads: laid · TreeUp: laid · TreeDown: laid · TreeEnds: laid · TreeMany: laid · CursorRows: laid · CursorBacks: laid · CursorParts: laid.
  DERIVED. THE GIVEN ROWS OF THIS SEAT. 8 by the template 'for every input the law returns true; each argument reads behind the call as it read before'; 0 by the template 'total and deterministic' (their statements: YtkmkppchhdkipaaDoorTotals.lean).
  GIVEN WITH THE SEED: the statements are not yours to turn. If you find one false, say at which input.
  Laid BY PROGRAM, IN A SANDBOX (cutbox-rows.mjs): the forced cells as the released guide's own fill.sh prints them over the translation 79d81b816d51376a… (all of the seat's roots in one cut). By AI agents, Wed Nov 11 2026. No macro, syntax, notation, axiom, sorry.
-/
import Derived.Test.YtkmkppchhdkipaaDoorChecked
import GoSem.Claim
import GoSem.ClaimJoined
import GoSem.ClaimMapViews
import Derived.JoinedTies
import Derived.KernelRfl
namespace Go.Proofs.YtkmkppchhdkipaaDoor
/- THE CELL 'sum', in the pinned program and in every row, IS THE sha256 OF THE DUMP (.gsa) THAT YtkmkppchhdkipaaDoorProg.lean LOADS. Nothing in Lean hashes anything: it is a label: what it is worth is what the hold of that sum in a sandbox is worth. -/
noncomputable def Tryd.pinned : Pinned := { name := "ytkmkppchhdkipaadoor", sum := "79d81b816d51376adc314cd534d38a4e605a00f9a96983b04f4376aeebfa953d", checked := Tryd.checked }
namespace Rows
def none {H : Type} : Left H := { results := [], args := [] }

/- WHAT THE LISTED PACKAGE-LEVEL VARIABLES READ AS WHEN THE CALL BEGINS. Each datum BY PROGRAM (the guide's laid-datum.mjs) off the statement by which the dump's own 'gosem.cut.vars' lays the variable. In a bare row this is a premise. The card (YtkmkppchhdkipaaDoorCards.lean) ties it to the program's text. -/
def laid_math_bits_deBruijn32tab {H : Type} : DataW H := .agg [.lit (.int .u8 0), .lit (.int .u8 1), .lit (.int .u8 28), .lit (.int .u8 2), .lit (.int .u8 29), .lit (.int .u8 14), .lit (.int .u8 24), .lit (.int .u8 3), .lit (.int .u8 30), .lit (.int .u8 22), .lit (.int .u8 20), .lit (.int .u8 15), .lit (.int .u8 25), .lit (.int .u8 17), .lit (.int .u8 4), .lit (.int .u8 8), .lit (.int .u8 31), .lit (.int .u8 27), .lit (.int .u8 13), .lit (.int .u8 23), .lit (.int .u8 21), .lit (.int .u8 19), .lit (.int .u8 16), .lit (.int .u8 7), .lit (.int .u8 26), .lit (.int .u8 12), .lit (.int .u8 18), .lit (.int .u8 6), .lit (.int .u8 11), .lit (.int .u8 5), .lit (.int .u8 10), .lit (.int .u8 9)]
def laid_math_bits_deBruijn64tab {H : Type} : DataW H := .agg [.lit (.int .u8 0), .lit (.int .u8 1), .lit (.int .u8 56), .lit (.int .u8 2), .lit (.int .u8 57), .lit (.int .u8 49), .lit (.int .u8 28), .lit (.int .u8 3), .lit (.int .u8 61), .lit (.int .u8 58), .lit (.int .u8 42), .lit (.int .u8 50), .lit (.int .u8 38), .lit (.int .u8 29), .lit (.int .u8 17), .lit (.int .u8 4), .lit (.int .u8 62), .lit (.int .u8 47), .lit (.int .u8 59), .lit (.int .u8 36), .lit (.int .u8 45), .lit (.int .u8 43), .lit (.int .u8 51), .lit (.int .u8 22), .lit (.int .u8 53), .lit (.int .u8 39), .lit (.int .u8 33), .lit (.int .u8 30), .lit (.int .u8 24), .lit (.int .u8 18), .lit (.int .u8 12), .lit (.int .u8 5), .lit (.int .u8 63), .lit (.int .u8 55), .lit (.int .u8 48), .lit (.int .u8 27), .lit (.int .u8 60), .lit (.int .u8 41), .lit (.int .u8 37), .lit (.int .u8 16), .lit (.int .u8 46), .lit (.int .u8 35), .lit (.int .u8 44), .lit (.int .u8 21), .lit (.int .u8 52), .lit (.int .u8 32), .lit (.int .u8 23), .lit (.int .u8 11), .lit (.int .u8 54), .lit (.int .u8 26), .lit (.int .u8 40), .lit (.int .u8 15), .lit (.int .u8 34), .lit (.int .u8 20), .lit (.int .u8 31), .lit (.int .u8 10), .lit (.int .u8 25), .lit (.int .u8 14), .lit (.int .u8 19), .lit (.int .u8 9), .lit (.int .u8 13), .lit (.int .u8 8), .lit (.int .u8 7), .lit (.int .u8 6)]
def laid_internal_strconv_uint64pow10 {H : Type} : DataW H := .agg [.lit (.int .u64 1), .lit (.int .u64 10), .lit (.int .u64 100), .lit (.int .u64 1000), .lit (.int .u64 10000), .lit (.int .u64 100000), .lit (.int .u64 1000000), .lit (.int .u64 10000000), .lit (.int .u64 100000000), .lit (.int .u64 1000000000), .lit (.int .u64 10000000000), .lit (.int .u64 100000000000), .lit (.int .u64 1000000000000), .lit (.int .u64 10000000000000), .lit (.int .u64 100000000000000), .lit (.int .u64 1000000000000000), .lit (.int .u64 10000000000000000), .lit (.int .u64 100000000000000000), .lit (.int .u64 1000000000000000000), .lit (.int .u64 10000000000000000000)]

/-- 'quorumlaw7.CursorLeads': WHATEVER THE INPUT: true; the input reads as it did. -/
def cursorLeadsSpec : ChangeSpec := { name := "cursorLeads", fn := fun _ => fun
  | [d] => { results := [.lit (.bool true)], args := [d] }
  | _ => none }
def cursorLeadsRow : OpenClaim := { program := "ytkmkppchhdkipaadoor", sum := "79d81b816d51376adc314cd534d38a4e605a00f9a96983b04f4376aeebfa953d", func := "quorum/quorumlaw7.CursorLeads", spec := "cursorLeads", inPlace := ["internal/bytealg.abigen_runtime_cmpstring", "slices.overlaps[quorum/tree.Pair]"], unfollowed := true, recurses := true, named := ["internal/strconv.uint64pow10", "math/bits.deBruijn32tab", "math/bits.deBruijn64tab"], apart := false, laid := [("math/bits.deBruijn32tab", laid_math_bits_deBruijn32tab), ("math/bits.deBruijn64tab", laid_math_bits_deBruijn64tab), ("internal/strconv.uint64pow10", laid_internal_strconv_uint64pow10)] }
def CursorLeadsSaid : Prop := cursorLeadsRow.holds Tryd.pinned (OpenSpec.ofChange cursorLeadsSpec)

/-- ITS FALSE NEIGHBOUR: 'it returns false'. Refute it at one input. -/
def cursorLeadsWrong : ChangeSpec := { name := "cursorLeads", fn := fun _ => fun
  | [d] => { results := [.lit (.bool false)], args := [d] }
  | _ => none }
def CursorLeadsWrongFalsely : Prop := cursorLeadsRow.holds Tryd.pinned (OpenSpec.ofChange cursorLeadsWrong)

/-- 'quorumlaw6.TreeUp': WHATEVER THE INPUT: true; the input reads as it did. -/
def treeUpSpec : ChangeSpec := { name := "treeUp", fn := fun _ => fun
  | [d] => { results := [.lit (.bool true)], args := [d] }
  | _ => none }
def treeUpRow : OpenClaim := { program := "ytkmkppchhdkipaadoor", sum := "79d81b816d51376adc314cd534d38a4e605a00f9a96983b04f4376aeebfa953d", func := "quorum/quorumlaw6.TreeUp", spec := "treeUp", inPlace := ["internal/bytealg.abigen_runtime_cmpstring", "slices.overlaps[quorum/tree.Pair]"], unfollowed := true, recurses := true, named := ["internal/strconv.uint64pow10", "math/bits.deBruijn32tab", "math/bits.deBruijn64tab"], apart := false, laid := [("math/bits.deBruijn32tab", laid_math_bits_deBruijn32tab), ("math/bits.deBruijn64tab", laid_math_bits_deBruijn64tab), ("internal/strconv.uint64pow10", laid_internal_strconv_uint64pow10)] }
def TreeUpSaid : Prop := treeUpRow.holds Tryd.pinned (OpenSpec.ofChange treeUpSpec)

/-- ITS FALSE NEIGHBOUR: 'it returns false'. Refute it at one input. -/
def treeUpWrong : ChangeSpec := { name := "treeUp", fn := fun _ => fun
  | [d] => { results := [.lit (.bool false)], args := [d] }
  | _ => none }
def TreeUpWrongFalsely : Prop := treeUpRow.holds Tryd.pinned (OpenSpec.ofChange treeUpWrong)

/-- 'quorumlaw6.TreeDown': WHATEVER THE INPUT: true; the input reads as it did. -/
def treeDownSpec : ChangeSpec := { name := "treeDown", fn := fun _ => fun
  | [d] => { results := [.lit (.bool true)], args := [d] }
  | _ => none }
def treeDownRow : OpenClaim := { program := "ytkmkppchhdkipaadoor", sum := "79d81b816d51376adc314cd534d38a4e605a00f9a96983b04f4376aeebfa953d", func := "quorum/quorumlaw6.TreeDown", spec := "treeDown", inPlace := ["internal/bytealg.abigen_runtime_cmpstring", "slices.overlaps[quorum/tree.Pair]"], unfollowed := true, recurses := true, named := ["internal/strconv.uint64pow10", "math/bits.deBruijn32tab", "math/bits.deBruijn64tab"], apart := false, laid := [("math/bits.deBruijn32tab", laid_math_bits_deBruijn32tab), ("math/bits.deBruijn64tab", laid_math_bits_deBruijn64tab), ("internal/strconv.uint64pow10", laid_internal_strconv_uint64pow10)] }
def TreeDownSaid : Prop := treeDownRow.holds Tryd.pinned (OpenSpec.ofChange treeDownSpec)

/-- ITS FALSE NEIGHBOUR: 'it returns false'. Refute it at one input. -/
def treeDownWrong : ChangeSpec := { name := "treeDown", fn := fun _ => fun
  | [d] => { results := [.lit (.bool false)], args := [d] }
  | _ => none }
def TreeDownWrongFalsely : Prop := treeDownRow.holds Tryd.pinned (OpenSpec.ofChange treeDownWrong)

/-- 'quorumlaw6.TreeEnds': WHATEVER THE INPUT: true; the input reads as it did. -/
def treeEndsSpec : ChangeSpec := { name := "treeEnds", fn := fun _ => fun
  | [d] => { results := [.lit (.bool true)], args := [d] }
  | _ => none }
def treeEndsRow : OpenClaim := { program := "ytkmkppchhdkipaadoor", sum := "79d81b816d51376adc314cd534d38a4e605a00f9a96983b04f4376aeebfa953d", func := "quorum/quorumlaw6.TreeEnds", spec := "treeEnds", inPlace := ["internal/bytealg.abigen_runtime_cmpstring", "slices.overlaps[quorum/tree.Pair]"], unfollowed := true, recurses := true, named := ["internal/strconv.uint64pow10", "math/bits.deBruijn32tab", "math/bits.deBruijn64tab"], apart := false, laid := [("math/bits.deBruijn32tab", laid_math_bits_deBruijn32tab), ("math/bits.deBruijn64tab", laid_math_bits_deBruijn64tab), ("internal/strconv.uint64pow10", laid_internal_strconv_uint64pow10)] }
def TreeEndsSaid : Prop := treeEndsRow.holds Tryd.pinned (OpenSpec.ofChange treeEndsSpec)

/-- ITS FALSE NEIGHBOUR: 'it returns false'. Refute it at one input. -/
def treeEndsWrong : ChangeSpec := { name := "treeEnds", fn := fun _ => fun
  | [d] => { results := [.lit (.bool false)], args := [d] }
  | _ => none }
def TreeEndsWrongFalsely : Prop := treeEndsRow.holds Tryd.pinned (OpenSpec.ofChange treeEndsWrong)

/-- 'quorumlaw6.TreeMany': WHATEVER THE INPUT: true; the input reads as it did. -/
def treeManySpec : ChangeSpec := { name := "treeMany", fn := fun _ => fun
  | [d] => { results := [.lit (.bool true)], args := [d] }
  | _ => none }
def treeManyRow : OpenClaim := { program := "ytkmkppchhdkipaadoor", sum := "79d81b816d51376adc314cd534d38a4e605a00f9a96983b04f4376aeebfa953d", func := "quorum/quorumlaw6.TreeMany", spec := "treeMany", inPlace := ["internal/bytealg.abigen_runtime_cmpstring", "slices.overlaps[quorum/tree.Pair]"], unfollowed := true, recurses := true, named := ["internal/strconv.uint64pow10", "math/bits.deBruijn32tab", "math/bits.deBruijn64tab"], apart := false, laid := [("math/bits.deBruijn32tab", laid_math_bits_deBruijn32tab), ("math/bits.deBruijn64tab", laid_math_bits_deBruijn64tab), ("internal/strconv.uint64pow10", laid_internal_strconv_uint64pow10)] }
def TreeManySaid : Prop := treeManyRow.holds Tryd.pinned (OpenSpec.ofChange treeManySpec)

/-- ITS FALSE NEIGHBOUR: 'it returns false'. Refute it at one input. -/
def treeManyWrong : ChangeSpec := { name := "treeMany", fn := fun _ => fun
  | [d] => { results := [.lit (.bool false)], args := [d] }
  | _ => none }
def TreeManyWrongFalsely : Prop := treeManyRow.holds Tryd.pinned (OpenSpec.ofChange treeManyWrong)

/-- 'quorumlaw7.CursorRows': WHATEVER THE INPUT: true; the input reads as it did. -/
def cursorRowsSpec : ChangeSpec := { name := "cursorRows", fn := fun _ => fun
  | [d] => { results := [.lit (.bool true)], args := [d] }
  | _ => none }
def cursorRowsRow : OpenClaim := { program := "ytkmkppchhdkipaadoor", sum := "79d81b816d51376adc314cd534d38a4e605a00f9a96983b04f4376aeebfa953d", func := "quorum/quorumlaw7.CursorRows", spec := "cursorRows", inPlace := ["internal/bytealg.abigen_runtime_cmpstring", "slices.overlaps[quorum/tree.Pair]"], unfollowed := true, recurses := true, named := ["internal/strconv.uint64pow10", "math/bits.deBruijn32tab", "math/bits.deBruijn64tab"], apart := false, laid := [("math/bits.deBruijn32tab", laid_math_bits_deBruijn32tab), ("math/bits.deBruijn64tab", laid_math_bits_deBruijn64tab), ("internal/strconv.uint64pow10", laid_internal_strconv_uint64pow10)] }
def CursorRowsSaid : Prop := cursorRowsRow.holds Tryd.pinned (OpenSpec.ofChange cursorRowsSpec)

/-- ITS FALSE NEIGHBOUR: 'it returns false'. Refute it at one input. -/
def cursorRowsWrong : ChangeSpec := { name := "cursorRows", fn := fun _ => fun
  | [d] => { results := [.lit (.bool false)], args := [d] }
  | _ => none }
def CursorRowsWrongFalsely : Prop := cursorRowsRow.holds Tryd.pinned (OpenSpec.ofChange cursorRowsWrong)

/-- 'quorumlaw7.CursorBacks': WHATEVER THE INPUT: true; the input reads as it did. -/
def cursorBacksSpec : ChangeSpec := { name := "cursorBacks", fn := fun _ => fun
  | [d] => { results := [.lit (.bool true)], args := [d] }
  | _ => none }
def cursorBacksRow : OpenClaim := { program := "ytkmkppchhdkipaadoor", sum := "79d81b816d51376adc314cd534d38a4e605a00f9a96983b04f4376aeebfa953d", func := "quorum/quorumlaw7.CursorBacks", spec := "cursorBacks", inPlace := ["internal/bytealg.abigen_runtime_cmpstring", "slices.overlaps[quorum/tree.Pair]"], unfollowed := true, recurses := true, named := ["internal/strconv.uint64pow10", "math/bits.deBruijn32tab", "math/bits.deBruijn64tab"], apart := false, laid := [("math/bits.deBruijn32tab", laid_math_bits_deBruijn32tab), ("math/bits.deBruijn64tab", laid_math_bits_deBruijn64tab), ("internal/strconv.uint64pow10", laid_internal_strconv_uint64pow10)] }
def CursorBacksSaid : Prop := cursorBacksRow.holds Tryd.pinned (OpenSpec.ofChange cursorBacksSpec)

/-- ITS FALSE NEIGHBOUR: 'it returns false'. Refute it at one input. -/
def cursorBacksWrong : ChangeSpec := { name := "cursorBacks", fn := fun _ => fun
  | [d] => { results := [.lit (.bool false)], args := [d] }
  | _ => none }
def CursorBacksWrongFalsely : Prop := cursorBacksRow.holds Tryd.pinned (OpenSpec.ofChange cursorBacksWrong)

/-- 'quorumlaw7.CursorParts': WHATEVER THE INPUT: true; the input reads as it did. -/
def cursorPartsSpec : ChangeSpec := { name := "cursorParts", fn := fun _ => fun
  | [d] => { results := [.lit (.bool true)], args := [d] }
  | _ => none }
def cursorPartsRow : OpenClaim := { program := "ytkmkppchhdkipaadoor", sum := "79d81b816d51376adc314cd534d38a4e605a00f9a96983b04f4376aeebfa953d", func := "quorum/quorumlaw7.CursorParts", spec := "cursorParts", inPlace := ["internal/bytealg.abigen_runtime_cmpstring", "slices.overlaps[quorum/tree.Pair]"], unfollowed := true, recurses := true, named := ["internal/strconv.uint64pow10", "math/bits.deBruijn32tab", "math/bits.deBruijn64tab"], apart := false, laid := [("math/bits.deBruijn32tab", laid_math_bits_deBruijn32tab), ("math/bits.deBruijn64tab", laid_math_bits_deBruijn64tab), ("internal/strconv.uint64pow10", laid_internal_strconv_uint64pow10)] }
def CursorPartsSaid : Prop := cursorPartsRow.holds Tryd.pinned (OpenSpec.ofChange cursorPartsSpec)

/-- ITS FALSE NEIGHBOUR: 'it returns false'. Refute it at one input. -/
def cursorPartsWrong : ChangeSpec := { name := "cursorParts", fn := fun _ => fun
  | [d] => { results := [.lit (.bool false)], args := [d] }
  | _ => none }
def CursorPartsWrongFalsely : Prop := cursorPartsRow.holds Tryd.pinned (OpenSpec.ofChange cursorPartsWrong)

/- THE SECOND FORM. 'bulk': how many values and letters a reading holds, each counted each time it is reached (what is shared counts as often as it is met; a slice's spare places count too). A statement '..UptoSaid' is the law's where the arguments, and the package variables that the reading takes, are together of bulk at most 1048576: NARROWER than '..Said'. Prove '..Said' where nothing that the law and all that it calls make is longer than what came in: it says more and counts as full. Else prove '..UptoSaid'. A law counts once. -/
mutual
def uptoBulk {H : Type} : DataW H → Nat
  | .lit (.string bytes) => bytes.length + 1
  | .lit _ => 1
  | .nil => 1
  | .ptr d => uptoBulk d + 1
  | .slice elems spare => uptoBulkAll elems + uptoBulkAll spare + 1
  | .agg parts => uptoBulkAll parts + 1
  | .iface _ d => uptoBulk d + 1
  | .map entries => uptoBulkEntries entries + 1
  | .held _ => 1
def uptoBulkAll {H : Type} : List (DataW H) → Nat
  | [] => 0
  | d :: r => uptoBulk d + uptoBulkAll r
def uptoBulkEntries {H : Type} : List (Lit × DataW H) → Nat
  | [] => 0
  | x :: r => uptoBulkEntry x + uptoBulkEntries r
def uptoBulkEntry {H : Type} : Lit × DataW H → Nat
  | (.string bytes, d) => bytes.length + uptoBulk d + 1
  | (_, d) => uptoBulk d + 1
 end
def uptoSmall : (H : Type) → List (DataW H) → Bool := fun _ ds => decide (uptoBulkAll ds ≤ 1048576)
def OpenSpec.upto (s : _root_.Go.ChangeSpec) : _root_.Go.OpenSpec := { _root_.Go.OpenSpec.ofChange s with cond := some uptoSmall }

/-- 'quorumlaw7.CursorLeads', WHERE WHAT IT READS IS OF BULK AT MOST 1048576: true; the input reads as it did. -/
def cursorLeadsUptoRow : OpenClaim := { program := "ytkmkppchhdkipaadoor", sum := "79d81b816d51376adc314cd534d38a4e605a00f9a96983b04f4376aeebfa953d", func := "quorum/quorumlaw7.CursorLeads", spec := "cursorLeads", inPlace := ["internal/bytealg.abigen_runtime_cmpstring", "slices.overlaps[quorum/tree.Pair]"], unfollowed := true, recurses := true, named := ["internal/strconv.uint64pow10", "math/bits.deBruijn32tab", "math/bits.deBruijn64tab"], apart := false, laid := [("math/bits.deBruijn32tab", laid_math_bits_deBruijn32tab), ("math/bits.deBruijn64tab", laid_math_bits_deBruijn64tab), ("internal/strconv.uint64pow10", laid_internal_strconv_uint64pow10)], narrowed := true }
def CursorLeadsUptoSaid : Prop := cursorLeadsUptoRow.holds Tryd.pinned (OpenSpec.upto cursorLeadsSpec)

/-- 'quorumlaw6.TreeUp', WHERE WHAT IT READS IS OF BULK AT MOST 1048576: true; the input reads as it did. -/
def treeUpUptoRow : OpenClaim := { program := "ytkmkppchhdkipaadoor", sum := "79d81b816d51376adc314cd534d38a4e605a00f9a96983b04f4376aeebfa953d", func := "quorum/quorumlaw6.TreeUp", spec := "treeUp", inPlace := ["internal/bytealg.abigen_runtime_cmpstring", "slices.overlaps[quorum/tree.Pair]"], unfollowed := true, recurses := true, named := ["internal/strconv.uint64pow10", "math/bits.deBruijn32tab", "math/bits.deBruijn64tab"], apart := false, laid := [("math/bits.deBruijn32tab", laid_math_bits_deBruijn32tab), ("math/bits.deBruijn64tab", laid_math_bits_deBruijn64tab), ("internal/strconv.uint64pow10", laid_internal_strconv_uint64pow10)], narrowed := true }
def TreeUpUptoSaid : Prop := treeUpUptoRow.holds Tryd.pinned (OpenSpec.upto treeUpSpec)

/-- 'quorumlaw6.TreeDown', WHERE WHAT IT READS IS OF BULK AT MOST 1048576: true; the input reads as it did. -/
def treeDownUptoRow : OpenClaim := { program := "ytkmkppchhdkipaadoor", sum := "79d81b816d51376adc314cd534d38a4e605a00f9a96983b04f4376aeebfa953d", func := "quorum/quorumlaw6.TreeDown", spec := "treeDown", inPlace := ["internal/bytealg.abigen_runtime_cmpstring", "slices.overlaps[quorum/tree.Pair]"], unfollowed := true, recurses := true, named := ["internal/strconv.uint64pow10", "math/bits.deBruijn32tab", "math/bits.deBruijn64tab"], apart := false, laid := [("math/bits.deBruijn32tab", laid_math_bits_deBruijn32tab), ("math/bits.deBruijn64tab", laid_math_bits_deBruijn64tab), ("internal/strconv.uint64pow10", laid_internal_strconv_uint64pow10)], narrowed := true }
def TreeDownUptoSaid : Prop := treeDownUptoRow.holds Tryd.pinned (OpenSpec.upto treeDownSpec)

/-- 'quorumlaw6.TreeEnds', WHERE WHAT IT READS IS OF BULK AT MOST 1048576: true; the input reads as it did. -/
def treeEndsUptoRow : OpenClaim := { program := "ytkmkppchhdkipaadoor", sum := "79d81b816d51376adc314cd534d38a4e605a00f9a96983b04f4376aeebfa953d", func := "quorum/quorumlaw6.TreeEnds", spec := "treeEnds", inPlace := ["internal/bytealg.abigen_runtime_cmpstring", "slices.overlaps[quorum/tree.Pair]"], unfollowed := true, recurses := true, named := ["internal/strconv.uint64pow10", "math/bits.deBruijn32tab", "math/bits.deBruijn64tab"], apart := false, laid := [("math/bits.deBruijn32tab", laid_math_bits_deBruijn32tab), ("math/bits.deBruijn64tab", laid_math_bits_deBruijn64tab), ("internal/strconv.uint64pow10", laid_internal_strconv_uint64pow10)], narrowed := true }
def TreeEndsUptoSaid : Prop := treeEndsUptoRow.holds Tryd.pinned (OpenSpec.upto treeEndsSpec)

/-- 'quorumlaw6.TreeMany', WHERE WHAT IT READS IS OF BULK AT MOST 1048576: true; the input reads as it did. -/
def treeManyUptoRow : OpenClaim := { program := "ytkmkppchhdkipaadoor", sum := "79d81b816d51376adc314cd534d38a4e605a00f9a96983b04f4376aeebfa953d", func := "quorum/quorumlaw6.TreeMany", spec := "treeMany", inPlace := ["internal/bytealg.abigen_runtime_cmpstring", "slices.overlaps[quorum/tree.Pair]"], unfollowed := true, recurses := true, named := ["internal/strconv.uint64pow10", "math/bits.deBruijn32tab", "math/bits.deBruijn64tab"], apart := false, laid := [("math/bits.deBruijn32tab", laid_math_bits_deBruijn32tab), ("math/bits.deBruijn64tab", laid_math_bits_deBruijn64tab), ("internal/strconv.uint64pow10", laid_internal_strconv_uint64pow10)], narrowed := true }
def TreeManyUptoSaid : Prop := treeManyUptoRow.holds Tryd.pinned (OpenSpec.upto treeManySpec)

/-- 'quorumlaw7.CursorRows', WHERE WHAT IT READS IS OF BULK AT MOST 1048576: true; the input reads as it did. -/
def cursorRowsUptoRow : OpenClaim := { program := "ytkmkppchhdkipaadoor", sum := "79d81b816d51376adc314cd534d38a4e605a00f9a96983b04f4376aeebfa953d", func := "quorum/quorumlaw7.CursorRows", spec := "cursorRows", inPlace := ["internal/bytealg.abigen_runtime_cmpstring", "slices.overlaps[quorum/tree.Pair]"], unfollowed := true, recurses := true, named := ["internal/strconv.uint64pow10", "math/bits.deBruijn32tab", "math/bits.deBruijn64tab"], apart := false, laid := [("math/bits.deBruijn32tab", laid_math_bits_deBruijn32tab), ("math/bits.deBruijn64tab", laid_math_bits_deBruijn64tab), ("internal/strconv.uint64pow10", laid_internal_strconv_uint64pow10)], narrowed := true }
def CursorRowsUptoSaid : Prop := cursorRowsUptoRow.holds Tryd.pinned (OpenSpec.upto cursorRowsSpec)

/-- 'quorumlaw7.CursorBacks', WHERE WHAT IT READS IS OF BULK AT MOST 1048576: true; the input reads as it did. -/
def cursorBacksUptoRow : OpenClaim := { program := "ytkmkppchhdkipaadoor", sum := "79d81b816d51376adc314cd534d38a4e605a00f9a96983b04f4376aeebfa953d", func := "quorum/quorumlaw7.CursorBacks", spec := "cursorBacks", inPlace := ["internal/bytealg.abigen_runtime_cmpstring", "slices.overlaps[quorum/tree.Pair]"], unfollowed := true, recurses := true, named := ["internal/strconv.uint64pow10", "math/bits.deBruijn32tab", "math/bits.deBruijn64tab"], apart := false, laid := [("math/bits.deBruijn32tab", laid_math_bits_deBruijn32tab), ("math/bits.deBruijn64tab", laid_math_bits_deBruijn64tab), ("internal/strconv.uint64pow10", laid_internal_strconv_uint64pow10)], narrowed := true }
def CursorBacksUptoSaid : Prop := cursorBacksUptoRow.holds Tryd.pinned (OpenSpec.upto cursorBacksSpec)

/-- 'quorumlaw7.CursorParts', WHERE WHAT IT READS IS OF BULK AT MOST 1048576: true; the input reads as it did. -/
def cursorPartsUptoRow : OpenClaim := { program := "ytkmkppchhdkipaadoor", sum := "79d81b816d51376adc314cd534d38a4e605a00f9a96983b04f4376aeebfa953d", func := "quorum/quorumlaw7.CursorParts", spec := "cursorParts", inPlace := ["internal/bytealg.abigen_runtime_cmpstring", "slices.overlaps[quorum/tree.Pair]"], unfollowed := true, recurses := true, named := ["internal/strconv.uint64pow10", "math/bits.deBruijn32tab", "math/bits.deBruijn64tab"], apart := false, laid := [("math/bits.deBruijn32tab", laid_math_bits_deBruijn32tab), ("math/bits.deBruijn64tab", laid_math_bits_deBruijn64tab), ("internal/strconv.uint64pow10", laid_internal_strconv_uint64pow10)], narrowed := true }
def CursorPartsUptoSaid : Prop := cursorPartsUptoRow.holds Tryd.pinned (OpenSpec.upto cursorPartsSpec)

end Rows
end Go.Proofs.YtkmkppchhdkipaaDoor
