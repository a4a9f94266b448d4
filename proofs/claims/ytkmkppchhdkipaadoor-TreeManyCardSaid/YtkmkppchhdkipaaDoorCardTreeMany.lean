/- TreeMany: the tied card: the row's statement, its three listed tables tied to the program's text. -/
import Derived.Test.YtkmkppchhdkipaaDoorLawTreeMany
import Derived.Test.YtkmkppchhdkipaaDoorCards
import Derived.Test.YtkmkppchhdkipaaDoorTie
import Derived.SevenTiedAt
namespace Go.Proofs.YtkmkppchhdkipaaDoor
open Go
theorem treeMany_card_holds : Rows.TreeManyCardSaid :=
  Claim7.holds_tied_plain_at .later [] [.data, .data, .data] true (true, "fbe27629f3750d92f21a8e34f91f0bed63784738aaa6fd331a58d51a0e9da2d4") false
    treeMany.proved (fun _ h => by cases h) (by kernel_rfl) (fun _ h => by cases h) treeMany_row_tie rfl ⟨rfl, rfl⟩ (by kernel_rfl) rfl
    (fun f fn hf hfn => by
      obtain rfl : f = 7 := Option.some.inj ((show Tryd.prog.funcNamed "quorum/quorumlaw6.TreeMany" = some 7 by kernel_rfl).symm.trans hf) |>.symm
      obtain rfl : fn = Tryd.f7 := (Option.some.inj (Tryd.func7.symm.trans hfn)).symm
      exact ⟨by kernel_rfl, fun j t ht => by
        rw [Tryd.params7] at ht
        have h3 : t = 28 := by
          rcases j with _ | j
          · simpa using ht.symm
          · simp at ht
        subst h3
        exact (show Tryd.prog.wantsStandIn 28 = false by kernel_rfl)⟩)
    (by kernel_rfl)
end Go.Proofs.YtkmkppchhdkipaaDoor
