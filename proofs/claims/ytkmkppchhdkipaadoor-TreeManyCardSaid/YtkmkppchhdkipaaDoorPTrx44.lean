-- PRINTED by print.py (a twelfth state) out of the translation. Not trusted: Lean checks it.
import Derived.Test.YtkmkppchhdkipaaDoorHTr0
import Derived.Test.YtkmkppchhdkipaaDoorPTrx0
import Derived.Test.YtkmkppchhdkipaaDoorPTrx2
import Derived.Test.YtkmkppchhdkipaaDoorPTrx22
import Derived.Test.YtkmkppchhdkipaaDoorPTrx3
import Derived.Test.YtkmkppchhdkipaaDoorPTrx33
import Derived.Test.YtkmkppchhdkipaaDoorHMadeC
import Derived.Test.YtkmkppchhdkipaaDoorHRefD
namespace Go.Proofs.YtkmkppchhdkipaaDoor.PTr
open Go.RowKit Go.Proofs.YtkmkppchhdkipaaDoorW.PrintWords Go.Proofs.YtkmkppchhdkipaaDoorW.PrintLast Go.Proofs.YtkmkppchhdkipaaDoorW.PrintMore
attribute [local go_sem] max2_int min2_int max_two min_two max_three min_three max_four min_four   -- for this text's walks alone
set_option linter.unusedVariables false
set_option linter.unusedSimpArgs false

/-! ### quorumref6_Tree: function 28 (by hand) -/
open Classical in
noncomputable def quorumref6_Tree.f (l0_0 : List (S85)) (a0_1 : Int) (l0_2 : List Int) : Option (List (S41) × Int × Bool) := if h : ∃ p : List (S91) × Nat, HTree.Small l0_0 a0_1 l0_2 p.1 p.2 then some (HTree.rowsOf h.choose.1, (h.choose.2 : Int), true) else none
theorem quorumref6_Tree.calls (A0_0 : Option Addr) (c0_0 : Nat) (l0_0 : List (S85)) (a0_1 : Int) (A0_2 : Option Addr) (c0_2 : Nat) (l0_2 : List Int) (r1 : List (S41)) (r2 : Int) (r3 : Bool) (w : World) (hr0_0 : Kd.C k85 w A0_0 l0_0.length l0_0) (hc0_0 : l0_0.length ≤ c0_0) (hr0_2 : Kd.C (Kd.int .i64) w A0_2 l0_2.length l0_2) (hc0_2 : l0_2.length ≤ c0_2) (h : quorumref6_Tree.f l0_0 a0_1 l0_2 = some (r1, r2, r3)) :
    Calls Tryd.prog 28 #[.agg #[.slice A0_0 l0_0.length c0_0, .int .i64 a0_1, .slice A0_2 l0_2.length c0_2]] w fun e w' => ∃ v0_ : Value, e = .returned (.tuple #[v0_, .int .i64 r2, .bool r3]) ∧ Kd.R k41 41 w' w.heap.size (fun _ => True) v0_ r1 ∧ Below w.heap.size w w' := by
  unfold quorumref6_Tree.f at h
  split at h
  · rename_i hv
    have h2 := Option.some.inj h
    simp only [Prod.mk.injEq] at h2
    obtain ⟨rfl, rfl, rfl⟩ := h2
    exact HRef.Tree_calls A0_0 c0_0 l0_0 a0_1 A0_2 c0_2 l0_2 _ _ w hr0_0 hc0_0 hr0_2 hc0_2 hv.choose_spec
  · cases h


-- NOT PRINTED: function 74 (tree_Pair_74)

-- NOT PRINTED: function 91 (tree_Pair_91)

-- NOT PRINTED: function 75 (tree_Pair_75)

end Go.Proofs.YtkmkppchhdkipaaDoor.PTr
