/-
  DERIVED. GIVEN WITH THE SEED: THE CARDS: each row of YtkmkppchhdkipaaDoorRows.lean that lists a variable, with what it lists TIED to the program's text (the seventh form; the later family's looks); each row that meets fmt, with fmt's text TOLD by the authors' own Lean function (tested against real Go, not proved from fmt's source: count such statements apart). THE CARD IS WHAT COUNTS. Prove the row's statement (the work); the ties are given (YtkmkppchhdkipaaDoorTie.lean); close each card by the builder's one call (the guide's Derived/Test/ToyasCard.lean, 'card_holds'). Laid BY PROGRAM, IN A SANDBOX (cutbox-door.mjs). By AI agents, Wed Nov 11 2026. No macro, syntax, notation, axiom, sorry.
-/
import Derived.Test.YtkmkppchhdkipaaDoorRows
import GoSem.ClaimSeven
namespace Go.Proofs.YtkmkppchhdkipaaDoor
namespace Rows

/-- THE TIED CARD OF 'quorumlaw7.CursorLeads'. -/
def cursorLeadsCard : Claim7 := { stood := { row := cursorLeadsRow, standIns := [], harness := (true, "fbe27629f3750d92f21a8e34f91f0bed63784738aaa6fd331a58d51a0e9da2d4"), looks := false }, kinds := [], alts := [], laidByText := true, laidKinds := [.data, .data, .data], laidTests := true, laidLooks := .later }
def CursorLeadsCardSaid : Prop := Claim7.holds Tryd.pinned (.plain (OpenSpec.ofChange cursorLeadsSpec)) cursorLeadsCard

/-- THE TIED CARD OF 'quorumlaw6.TreeUp'. -/
def treeUpCard : Claim7 := { stood := { row := treeUpRow, standIns := [], harness := (true, "fbe27629f3750d92f21a8e34f91f0bed63784738aaa6fd331a58d51a0e9da2d4"), looks := false }, kinds := [], alts := [], laidByText := true, laidKinds := [.data, .data, .data], laidTests := true, laidLooks := .later }
def TreeUpCardSaid : Prop := Claim7.holds Tryd.pinned (.plain (OpenSpec.ofChange treeUpSpec)) treeUpCard

/-- THE TIED CARD OF 'quorumlaw6.TreeDown'. -/
def treeDownCard : Claim7 := { stood := { row := treeDownRow, standIns := [], harness := (true, "fbe27629f3750d92f21a8e34f91f0bed63784738aaa6fd331a58d51a0e9da2d4"), looks := false }, kinds := [], alts := [], laidByText := true, laidKinds := [.data, .data, .data], laidTests := true, laidLooks := .later }
def TreeDownCardSaid : Prop := Claim7.holds Tryd.pinned (.plain (OpenSpec.ofChange treeDownSpec)) treeDownCard

/-- THE TIED CARD OF 'quorumlaw6.TreeEnds'. -/
def treeEndsCard : Claim7 := { stood := { row := treeEndsRow, standIns := [], harness := (true, "fbe27629f3750d92f21a8e34f91f0bed63784738aaa6fd331a58d51a0e9da2d4"), looks := false }, kinds := [], alts := [], laidByText := true, laidKinds := [.data, .data, .data], laidTests := true, laidLooks := .later }
def TreeEndsCardSaid : Prop := Claim7.holds Tryd.pinned (.plain (OpenSpec.ofChange treeEndsSpec)) treeEndsCard

/-- THE TIED CARD OF 'quorumlaw6.TreeMany'. -/
def treeManyCard : Claim7 := { stood := { row := treeManyRow, standIns := [], harness := (true, "fbe27629f3750d92f21a8e34f91f0bed63784738aaa6fd331a58d51a0e9da2d4"), looks := false }, kinds := [], alts := [], laidByText := true, laidKinds := [.data, .data, .data], laidTests := true, laidLooks := .later }
def TreeManyCardSaid : Prop := Claim7.holds Tryd.pinned (.plain (OpenSpec.ofChange treeManySpec)) treeManyCard

/-- THE TIED CARD OF 'quorumlaw7.CursorRows'. -/
def cursorRowsCard : Claim7 := { stood := { row := cursorRowsRow, standIns := [], harness := (true, "fbe27629f3750d92f21a8e34f91f0bed63784738aaa6fd331a58d51a0e9da2d4"), looks := false }, kinds := [], alts := [], laidByText := true, laidKinds := [.data, .data, .data], laidTests := true, laidLooks := .later }
def CursorRowsCardSaid : Prop := Claim7.holds Tryd.pinned (.plain (OpenSpec.ofChange cursorRowsSpec)) cursorRowsCard

/-- THE TIED CARD OF 'quorumlaw7.CursorBacks'. -/
def cursorBacksCard : Claim7 := { stood := { row := cursorBacksRow, standIns := [], harness := (true, "fbe27629f3750d92f21a8e34f91f0bed63784738aaa6fd331a58d51a0e9da2d4"), looks := false }, kinds := [], alts := [], laidByText := true, laidKinds := [.data, .data, .data], laidTests := true, laidLooks := .later }
def CursorBacksCardSaid : Prop := Claim7.holds Tryd.pinned (.plain (OpenSpec.ofChange cursorBacksSpec)) cursorBacksCard

/-- THE TIED CARD OF 'quorumlaw7.CursorParts'. -/
def cursorPartsCard : Claim7 := { stood := { row := cursorPartsRow, standIns := [], harness := (true, "fbe27629f3750d92f21a8e34f91f0bed63784738aaa6fd331a58d51a0e9da2d4"), looks := false }, kinds := [], alts := [], laidByText := true, laidKinds := [.data, .data, .data], laidTests := true, laidLooks := .later }
def CursorPartsCardSaid : Prop := Claim7.holds Tryd.pinned (.plain (OpenSpec.ofChange cursorPartsSpec)) cursorPartsCard

/-- THE SECOND FORM's CARD OF 'quorumlaw7.CursorLeads'. -/
def cursorLeadsUptoCard : Claim7 := { stood := { row := cursorLeadsUptoRow, standIns := [], harness := (true, "fbe27629f3750d92f21a8e34f91f0bed63784738aaa6fd331a58d51a0e9da2d4"), looks := false }, kinds := [], alts := [], laidByText := true, laidKinds := [.data, .data, .data], laidTests := true, laidLooks := .later }
def CursorLeadsUptoCardSaid : Prop := Claim7.holds Tryd.pinned (.plain (OpenSpec.upto cursorLeadsSpec)) cursorLeadsUptoCard

/-- THE SECOND FORM's CARD OF 'quorumlaw6.TreeUp'. -/
def treeUpUptoCard : Claim7 := { stood := { row := treeUpUptoRow, standIns := [], harness := (true, "fbe27629f3750d92f21a8e34f91f0bed63784738aaa6fd331a58d51a0e9da2d4"), looks := false }, kinds := [], alts := [], laidByText := true, laidKinds := [.data, .data, .data], laidTests := true, laidLooks := .later }
def TreeUpUptoCardSaid : Prop := Claim7.holds Tryd.pinned (.plain (OpenSpec.upto treeUpSpec)) treeUpUptoCard

/-- THE SECOND FORM's CARD OF 'quorumlaw6.TreeDown'. -/
def treeDownUptoCard : Claim7 := { stood := { row := treeDownUptoRow, standIns := [], harness := (true, "fbe27629f3750d92f21a8e34f91f0bed63784738aaa6fd331a58d51a0e9da2d4"), looks := false }, kinds := [], alts := [], laidByText := true, laidKinds := [.data, .data, .data], laidTests := true, laidLooks := .later }
def TreeDownUptoCardSaid : Prop := Claim7.holds Tryd.pinned (.plain (OpenSpec.upto treeDownSpec)) treeDownUptoCard

/-- THE SECOND FORM's CARD OF 'quorumlaw6.TreeEnds'. -/
def treeEndsUptoCard : Claim7 := { stood := { row := treeEndsUptoRow, standIns := [], harness := (true, "fbe27629f3750d92f21a8e34f91f0bed63784738aaa6fd331a58d51a0e9da2d4"), looks := false }, kinds := [], alts := [], laidByText := true, laidKinds := [.data, .data, .data], laidTests := true, laidLooks := .later }
def TreeEndsUptoCardSaid : Prop := Claim7.holds Tryd.pinned (.plain (OpenSpec.upto treeEndsSpec)) treeEndsUptoCard

/-- THE SECOND FORM's CARD OF 'quorumlaw6.TreeMany'. -/
def treeManyUptoCard : Claim7 := { stood := { row := treeManyUptoRow, standIns := [], harness := (true, "fbe27629f3750d92f21a8e34f91f0bed63784738aaa6fd331a58d51a0e9da2d4"), looks := false }, kinds := [], alts := [], laidByText := true, laidKinds := [.data, .data, .data], laidTests := true, laidLooks := .later }
def TreeManyUptoCardSaid : Prop := Claim7.holds Tryd.pinned (.plain (OpenSpec.upto treeManySpec)) treeManyUptoCard

/-- THE SECOND FORM's CARD OF 'quorumlaw7.CursorRows'. -/
def cursorRowsUptoCard : Claim7 := { stood := { row := cursorRowsUptoRow, standIns := [], harness := (true, "fbe27629f3750d92f21a8e34f91f0bed63784738aaa6fd331a58d51a0e9da2d4"), looks := false }, kinds := [], alts := [], laidByText := true, laidKinds := [.data, .data, .data], laidTests := true, laidLooks := .later }
def CursorRowsUptoCardSaid : Prop := Claim7.holds Tryd.pinned (.plain (OpenSpec.upto cursorRowsSpec)) cursorRowsUptoCard

/-- THE SECOND FORM's CARD OF 'quorumlaw7.CursorBacks'. -/
def cursorBacksUptoCard : Claim7 := { stood := { row := cursorBacksUptoRow, standIns := [], harness := (true, "fbe27629f3750d92f21a8e34f91f0bed63784738aaa6fd331a58d51a0e9da2d4"), looks := false }, kinds := [], alts := [], laidByText := true, laidKinds := [.data, .data, .data], laidTests := true, laidLooks := .later }
def CursorBacksUptoCardSaid : Prop := Claim7.holds Tryd.pinned (.plain (OpenSpec.upto cursorBacksSpec)) cursorBacksUptoCard

/-- THE SECOND FORM's CARD OF 'quorumlaw7.CursorParts'. -/
def cursorPartsUptoCard : Claim7 := { stood := { row := cursorPartsUptoRow, standIns := [], harness := (true, "fbe27629f3750d92f21a8e34f91f0bed63784738aaa6fd331a58d51a0e9da2d4"), looks := false }, kinds := [], alts := [], laidByText := true, laidKinds := [.data, .data, .data], laidTests := true, laidLooks := .later }
def CursorPartsUptoCardSaid : Prop := Claim7.holds Tryd.pinned (.plain (OpenSpec.upto cursorPartsSpec)) cursorPartsUptoCard
end Rows
end Go.Proofs.YtkmkppchhdkipaaDoor
