-- PRINTED by print.py (a twelfth state) out of the translation. Not trusted: Lean checks it.
import Derived.Test.YtkmkppchhdkipaaDoorPTrx0
import Derived.Test.YtkmkppchhdkipaaDoorPTrx1
import Derived.Test.YtkmkppchhdkipaaDoorPTrx2
import Derived.Test.YtkmkppchhdkipaaDoorPTrx22
import Derived.Test.YtkmkppchhdkipaaDoorPTrx3
import Derived.Test.YtkmkppchhdkipaaDoorPTrx33
import Derived.Test.YtkmkppchhdkipaaDoorPTrx44
import Derived.Test.YtkmkppchhdkipaaDoorPTrx4
import Derived.Test.YtkmkppchhdkipaaDoorPTrx7
import Derived.Test.YtkmkppchhdkipaaDoorHDeep
namespace Go.Proofs.YtkmkppchhdkipaaDoor.PTr
open Go.RowKit Go.Proofs.YtkmkppchhdkipaaDoorW.PrintWords Go.Proofs.YtkmkppchhdkipaaDoorW.PrintLast Go.Proofs.YtkmkppchhdkipaaDoorW.PrintMore
attribute [local go_sem] max2_int min2_int max_two min_two max_three min_three max_four min_four   -- for this text's walks alone
set_option linter.unusedVariables false
set_option linter.unusedSimpArgs false

/-! ### quorumlaw6_TreeMany: function 7 -/
mutual
noncomputable def quorumlaw6_TreeMany.l0 : Nat → Int → Int → Int → List (S85) → Int → List Int → Option (Bool)
 | 0, _, _, _, _, _, _ => none
 | k + 1, x3, x4, x6, x342000, x342001, x342002 => if x6 < x3 then (if x3 = 0 then (none) else (if x4 = 0 then (none) else (if (Int.tmod x3 x4) = 0 then (quorumlaw6_TreeMany.j1 k x3 x4 x6 x6 x342000 x342001 x342002) else (quorumlaw6_TreeMany.j1 k x3 x4 x6 (Int.tmod (wrap64 (x6 * x4)) x3) x342000 x342001 x342002)))) else ((tree_Count.f k x342000 x342001 x342002).bind fun bt353 => ((tree_Deep.f k x342000 x342001 x342002).bind fun bt355 => ((quorumlaw6_num.f bt353.2).bind fun t357 => (if t357 = 0 then ((quorumlaw6_num.f bt355.2).bind fun t358 => (if t358 = 0 then (if bt353.1 = x3 then (quorumlaw6_TreeMany.j2 k x3 (decide (bt355.1 > 7)) x342000 x342001 x342002) else (quorumlaw6_TreeMany.j2 k x3 true x342000 x342001 x342002)) else (quorumlaw6_TreeMany.j2 k x3 true x342000 x342001 x342002))) else (quorumlaw6_TreeMany.j2 k x3 true x342000 x342001 x342002)))))
noncomputable def quorumlaw6_TreeMany.j1 : Nat → Int → Int → Int → Int → List (S85) → Int → List Int → Option (Bool)
 | 0, _, _, _, _, _, _, _ => none
 | k + 1, x3, x4, x6, x7, x342000, x342001, x342002 => (quorumlaw6_digits.f k (wrap64 (1000 + x7))).bind fun t342 => (if 1 + t342.size ≤ 9223372036854775807 then ((tree_Add.f k x342000 x342001 x342002 ((⟨#[107]⟩ : ByteArray) ++ t342) x7).bind fun bt343 => ((quorumlaw6_num.f bt343.2.2.2).bind fun t352 => (if t352 = 0 then (quorumlaw6_TreeMany.l0 k x3 x4 (wrap64 (x6 + 1)) bt343.1 bt343.2.1 bt343.2.2.1) else (some false)))) else (none))
noncomputable def quorumlaw6_TreeMany.j2 : Nat → Int → Bool → List (S85) → Int → List Int → Option (Bool)
 | 0, _, _, _, _, _ => none
 | k + 1, x3, x95, x342000, x342001, x342002 => if x95 = true then (some false) else (quorumlaw6_TreeMany.l1 k x3 0 x342000 x342001 x342002)
noncomputable def quorumlaw6_TreeMany.l1 : Nat → Int → Int → List (S85) → Int → List Int → Option (Bool)
 | 0, _, _, _, _, _ => none
 | k + 1, x3, x14, x342000, x342001, x342002 => if x14 < x3 then ((quorumlaw6_digits.f k (wrap64 (1000 + x14))).bind fun t359 => (if 1 + t359.size ≤ 9223372036854775807 then ((tree_Find.f k x342000 x342001 x342002 ((⟨#[107]⟩ : ByteArray) ++ t359)).bind fun bt360 => ((quorumlaw6_num.f bt360.2).bind fun t362 => (if t362 = 0 then (quorumlaw6_TreeMany.j4 k x3 x14 (bt360.1 != x14) x342000 x342001 x342002) else (quorumlaw6_TreeMany.j4 k x3 x14 true x342000 x342001 x342002)))) else (none))) else (quorumlaw6_TreeMany.l2 k x3 0 x342000 x342001 x342002)
noncomputable def quorumlaw6_TreeMany.j4 : Nat → Int → Int → Bool → List (S85) → Int → List Int → Option (Bool)
 | 0, _, _, _, _, _, _ => none
 | k + 1, x3, x14, x117, x342000, x342001, x342002 => if x117 = true then (some false) else (quorumlaw6_TreeMany.l1 k x3 (wrap64 (x14 + 1)) x342000 x342001 x342002)
noncomputable def quorumlaw6_TreeMany.l2 : Nat → Int → Int → List (S85) → Int → List Int → Option (Bool)
 | 0, _, _, _, _, _ => none
 | k + 1, x3, x17, x342000, x342001, x342002 => if x17 < x3 then (if (Int.tmod x17 2) = 0 then (quorumlaw6_TreeMany.j6 k x3 x17 (wrap64 (Int.tdiv x17 2)) x342000 x342001 x342002) else (quorumlaw6_TreeMany.j6 k x3 x17 (wrap64 ((wrap64 (x3 - 1)) - (wrap64 (Int.tdiv x17 2)))) x342000 x342001 x342002)) else ((quorumref6_Tree.f x342000 x342001 x342002).bind fun bt374 => (if bt374.2.2 = true then (if (bt374.1.length : Int) = 0 then (if bt374.2.1 = 1 then ((quorumlaw6_wakes.f k).bind fun t379 => (some t379)) else (some false)) else (some false)) else (some false)))
noncomputable def quorumlaw6_TreeMany.j6 : Nat → Int → Int → Int → List (S85) → Int → List Int → Option (Bool)
 | 0, _, _, _, _, _, _ => none
 | k + 1, x3, x17, x18, x342000, x342001, x342002 => (quorumlaw6_digits.f k (wrap64 (1000 + x18))).bind fun t363 => (if 1 + t363.size ≤ 9223372036854775807 then ((tree_Cut.f k x342000 x342001 x342002 ((⟨#[107]⟩ : ByteArray) ++ t363)).bind fun bt364 => ((quorumlaw6_num.f bt364.2.2.2).bind fun t373 => (if t373 = 0 then (quorumlaw6_TreeMany.l2 k x3 (wrap64 (x17 + 1)) bt364.1 bt364.2.1 bt364.2.2.1) else (some false)))) else (none))
end
noncomputable def quorumlaw6_TreeMany.f (k : Nat) (l0_0 : List (S85)) (a0_1 : Int) (l0_2 : List Int) (l0_3 : List (S70)) : Option (Bool) := (quorumlaw6_Heavy.f k l0_0 a0_1 l0_2 l0_3).bind fun t327 => (if t327 = true then (some true) else ((quorumlaw0_Within.f (wrap64 ((l0_3.length : Int) * 13)) 80).bind fun t328 => ((some (([1, 7, 11, 37, 101] : List Int) : List Int)).bind fun y329 => ((quorumlaw0_Within.f (l0_3.length : Int) 5).bind fun t332 => (if 0 ≤ t332 then (if t332 < (y329.length : Int) then ((tree_New.f).bind fun bt334 => (quorumlaw6_TreeMany.l0 k (wrap64 (20 + t328)) (rd y329 t332) 0 bt334.1 bt334.2.1 bt334.2.2)) else (none)) else (none))))))
theorem quorumlaw6_TreeMany.mono_l : ∀ k, (∀ y0 y1 y2 y3 y4 y5, LeO (quorumlaw6_TreeMany.l0 k y0 y1 y2 y3 y4 y5) (quorumlaw6_TreeMany.l0 (k + 1) y0 y1 y2 y3 y4 y5)) ∧ (∀ y0 y1 y2 y3 y4 y5 y6, LeO (quorumlaw6_TreeMany.j1 k y0 y1 y2 y3 y4 y5 y6) (quorumlaw6_TreeMany.j1 (k + 1) y0 y1 y2 y3 y4 y5 y6)) ∧ (∀ y0 y1 y2 y3 y4, LeO (quorumlaw6_TreeMany.j2 k y0 y1 y2 y3 y4) (quorumlaw6_TreeMany.j2 (k + 1) y0 y1 y2 y3 y4)) ∧ (∀ y0 y1 y2 y3 y4, LeO (quorumlaw6_TreeMany.l1 k y0 y1 y2 y3 y4) (quorumlaw6_TreeMany.l1 (k + 1) y0 y1 y2 y3 y4)) ∧ (∀ y0 y1 y2 y3 y4 y5, LeO (quorumlaw6_TreeMany.j4 k y0 y1 y2 y3 y4 y5) (quorumlaw6_TreeMany.j4 (k + 1) y0 y1 y2 y3 y4 y5)) ∧ (∀ y0 y1 y2 y3 y4, LeO (quorumlaw6_TreeMany.l2 k y0 y1 y2 y3 y4) (quorumlaw6_TreeMany.l2 (k + 1) y0 y1 y2 y3 y4)) ∧ (∀ y0 y1 y2 y3 y4 y5, LeO (quorumlaw6_TreeMany.j6 k y0 y1 y2 y3 y4 y5) (quorumlaw6_TreeMany.j6 (k + 1) y0 y1 y2 y3 y4 y5))
 | 0 => ⟨fun _ _ _ _ _ _ r h => by simp [quorumlaw6_TreeMany.l0] at h, fun _ _ _ _ _ _ _ r h => by simp [quorumlaw6_TreeMany.j1] at h, fun _ _ _ _ _ r h => by simp [quorumlaw6_TreeMany.j2] at h, fun _ _ _ _ _ r h => by simp [quorumlaw6_TreeMany.l1] at h, fun _ _ _ _ _ _ r h => by simp [quorumlaw6_TreeMany.j4] at h, fun _ _ _ _ _ r h => by simp [quorumlaw6_TreeMany.l2] at h, fun _ _ _ _ _ _ r h => by simp [quorumlaw6_TreeMany.j6] at h⟩
 | k + 1 => by
  obtain ⟨ih0, ih1, ih2, ih3, ih4, ih5, ih6⟩ := quorumlaw6_TreeMany.mono_l k
  refine ⟨?_, ?_, ?_, ?_, ?_, ?_, ?_⟩
  ·intro y0 y1 y2 y3 y4 y5
   unfold quorumlaw6_TreeMany.l0
   repeat' first
   | (with_reducible exact ih0 _ _ _ _ _ _)
   | (with_reducible exact ih1 _ _ _ _ _ _ _)
   | (with_reducible exact ih2 _ _ _ _ _)
   | (with_reducible exact ih3 _ _ _ _ _)
   | (with_reducible exact ih4 _ _ _ _ _ _)
   | (with_reducible exact ih5 _ _ _ _ _)
   | (with_reducible exact ih6 _ _ _ _ _ _)
   | (with_reducible exact quorumlaw6_Heavy.mono _ _ _ _ _)
   | (with_reducible exact quorumlaw6_digits.mono _ _)
   | (with_reducible exact quorumlaw6_wakes.mono _)
   | (with_reducible exact tree_Add.mono _ _ _ _ _ _)
   | (with_reducible exact tree_Count.mono _ _ _ _)
   | (with_reducible exact tree_Cut.mono _ _ _ _ _)
   | (with_reducible exact tree_Deep.mono _ _ _ _)
   | (with_reducible exact tree_Find.mono _ _ _ _ _)
   | (with_reducible exact LeO.refl _)
   | (with_reducible exact LeO.none _)
   | (with_reducible refine LeO.ite ?_ ?_)
   | (with_reducible refine LeO.bind ?_ (fun _ => ?_))
   | exact ih0 _ _ _ _ _ _
   | exact ih1 _ _ _ _ _ _ _
   | exact ih2 _ _ _ _ _
   | exact ih3 _ _ _ _ _
   | exact ih4 _ _ _ _ _ _
   | exact ih5 _ _ _ _ _
   | exact ih6 _ _ _ _ _ _
   | exact quorumlaw6_Heavy.mono _ _ _ _ _
   | exact quorumlaw6_digits.mono _ _
   | exact quorumlaw6_wakes.mono _
   | exact tree_Add.mono _ _ _ _ _ _
   | exact tree_Count.mono _ _ _ _
   | exact tree_Cut.mono _ _ _ _ _
   | exact tree_Deep.mono _ _ _ _
   | exact tree_Find.mono _ _ _ _ _
   | exact LeO.none _
   | refine LeO.ite ?_ ?_
   | refine LeO.bind ?_ (fun _ => ?_)
  ·intro y0 y1 y2 y3 y4 y5 y6
   unfold quorumlaw6_TreeMany.j1
   repeat' first
   | (with_reducible exact ih0 _ _ _ _ _ _)
   | (with_reducible exact ih1 _ _ _ _ _ _ _)
   | (with_reducible exact ih2 _ _ _ _ _)
   | (with_reducible exact ih3 _ _ _ _ _)
   | (with_reducible exact ih4 _ _ _ _ _ _)
   | (with_reducible exact ih5 _ _ _ _ _)
   | (with_reducible exact ih6 _ _ _ _ _ _)
   | (with_reducible exact quorumlaw6_Heavy.mono _ _ _ _ _)
   | (with_reducible exact quorumlaw6_digits.mono _ _)
   | (with_reducible exact quorumlaw6_wakes.mono _)
   | (with_reducible exact tree_Add.mono _ _ _ _ _ _)
   | (with_reducible exact tree_Count.mono _ _ _ _)
   | (with_reducible exact tree_Cut.mono _ _ _ _ _)
   | (with_reducible exact tree_Deep.mono _ _ _ _)
   | (with_reducible exact tree_Find.mono _ _ _ _ _)
   | (with_reducible exact LeO.refl _)
   | (with_reducible exact LeO.none _)
   | (with_reducible refine LeO.ite ?_ ?_)
   | (with_reducible refine LeO.bind ?_ (fun _ => ?_))
   | exact ih0 _ _ _ _ _ _
   | exact ih1 _ _ _ _ _ _ _
   | exact ih2 _ _ _ _ _
   | exact ih3 _ _ _ _ _
   | exact ih4 _ _ _ _ _ _
   | exact ih5 _ _ _ _ _
   | exact ih6 _ _ _ _ _ _
   | exact quorumlaw6_Heavy.mono _ _ _ _ _
   | exact quorumlaw6_digits.mono _ _
   | exact quorumlaw6_wakes.mono _
   | exact tree_Add.mono _ _ _ _ _ _
   | exact tree_Count.mono _ _ _ _
   | exact tree_Cut.mono _ _ _ _ _
   | exact tree_Deep.mono _ _ _ _
   | exact tree_Find.mono _ _ _ _ _
   | exact LeO.none _
   | refine LeO.ite ?_ ?_
   | refine LeO.bind ?_ (fun _ => ?_)
  ·intro y0 y1 y2 y3 y4
   unfold quorumlaw6_TreeMany.j2
   repeat' first
   | (with_reducible exact ih0 _ _ _ _ _ _)
   | (with_reducible exact ih1 _ _ _ _ _ _ _)
   | (with_reducible exact ih2 _ _ _ _ _)
   | (with_reducible exact ih3 _ _ _ _ _)
   | (with_reducible exact ih4 _ _ _ _ _ _)
   | (with_reducible exact ih5 _ _ _ _ _)
   | (with_reducible exact ih6 _ _ _ _ _ _)
   | (with_reducible exact quorumlaw6_Heavy.mono _ _ _ _ _)
   | (with_reducible exact quorumlaw6_digits.mono _ _)
   | (with_reducible exact quorumlaw6_wakes.mono _)
   | (with_reducible exact tree_Add.mono _ _ _ _ _ _)
   | (with_reducible exact tree_Count.mono _ _ _ _)
   | (with_reducible exact tree_Cut.mono _ _ _ _ _)
   | (with_reducible exact tree_Deep.mono _ _ _ _)
   | (with_reducible exact tree_Find.mono _ _ _ _ _)
   | (with_reducible exact LeO.refl _)
   | (with_reducible exact LeO.none _)
   | (with_reducible refine LeO.ite ?_ ?_)
   | (with_reducible refine LeO.bind ?_ (fun _ => ?_))
   | exact ih0 _ _ _ _ _ _
   | exact ih1 _ _ _ _ _ _ _
   | exact ih2 _ _ _ _ _
   | exact ih3 _ _ _ _ _
   | exact ih4 _ _ _ _ _ _
   | exact ih5 _ _ _ _ _
   | exact ih6 _ _ _ _ _ _
   | exact quorumlaw6_Heavy.mono _ _ _ _ _
   | exact quorumlaw6_digits.mono _ _
   | exact quorumlaw6_wakes.mono _
   | exact tree_Add.mono _ _ _ _ _ _
   | exact tree_Count.mono _ _ _ _
   | exact tree_Cut.mono _ _ _ _ _
   | exact tree_Deep.mono _ _ _ _
   | exact tree_Find.mono _ _ _ _ _
   | exact LeO.none _
   | refine LeO.ite ?_ ?_
   | refine LeO.bind ?_ (fun _ => ?_)
  ·intro y0 y1 y2 y3 y4
   unfold quorumlaw6_TreeMany.l1
   repeat' first
   | (with_reducible exact ih0 _ _ _ _ _ _)
   | (with_reducible exact ih1 _ _ _ _ _ _ _)
   | (with_reducible exact ih2 _ _ _ _ _)
   | (with_reducible exact ih3 _ _ _ _ _)
   | (with_reducible exact ih4 _ _ _ _ _ _)
   | (with_reducible exact ih5 _ _ _ _ _)
   | (with_reducible exact ih6 _ _ _ _ _ _)
   | (with_reducible exact quorumlaw6_Heavy.mono _ _ _ _ _)
   | (with_reducible exact quorumlaw6_digits.mono _ _)
   | (with_reducible exact quorumlaw6_wakes.mono _)
   | (with_reducible exact tree_Add.mono _ _ _ _ _ _)
   | (with_reducible exact tree_Count.mono _ _ _ _)
   | (with_reducible exact tree_Cut.mono _ _ _ _ _)
   | (with_reducible exact tree_Deep.mono _ _ _ _)
   | (with_reducible exact tree_Find.mono _ _ _ _ _)
   | (with_reducible exact LeO.refl _)
   | (with_reducible exact LeO.none _)
   | (with_reducible refine LeO.ite ?_ ?_)
   | (with_reducible refine LeO.bind ?_ (fun _ => ?_))
   | exact ih0 _ _ _ _ _ _
   | exact ih1 _ _ _ _ _ _ _
   | exact ih2 _ _ _ _ _
   | exact ih3 _ _ _ _ _
   | exact ih4 _ _ _ _ _ _
   | exact ih5 _ _ _ _ _
   | exact ih6 _ _ _ _ _ _
   | exact quorumlaw6_Heavy.mono _ _ _ _ _
   | exact quorumlaw6_digits.mono _ _
   | exact quorumlaw6_wakes.mono _
   | exact tree_Add.mono _ _ _ _ _ _
   | exact tree_Count.mono _ _ _ _
   | exact tree_Cut.mono _ _ _ _ _
   | exact tree_Deep.mono _ _ _ _
   | exact tree_Find.mono _ _ _ _ _
   | exact LeO.none _
   | refine LeO.ite ?_ ?_
   | refine LeO.bind ?_ (fun _ => ?_)
  ·intro y0 y1 y2 y3 y4 y5
   unfold quorumlaw6_TreeMany.j4
   repeat' first
   | (with_reducible exact ih0 _ _ _ _ _ _)
   | (with_reducible exact ih1 _ _ _ _ _ _ _)
   | (with_reducible exact ih2 _ _ _ _ _)
   | (with_reducible exact ih3 _ _ _ _ _)
   | (with_reducible exact ih4 _ _ _ _ _ _)
   | (with_reducible exact ih5 _ _ _ _ _)
   | (with_reducible exact ih6 _ _ _ _ _ _)
   | (with_reducible exact quorumlaw6_Heavy.mono _ _ _ _ _)
   | (with_reducible exact quorumlaw6_digits.mono _ _)
   | (with_reducible exact quorumlaw6_wakes.mono _)
   | (with_reducible exact tree_Add.mono _ _ _ _ _ _)
   | (with_reducible exact tree_Count.mono _ _ _ _)
   | (with_reducible exact tree_Cut.mono _ _ _ _ _)
   | (with_reducible exact tree_Deep.mono _ _ _ _)
   | (with_reducible exact tree_Find.mono _ _ _ _ _)
   | (with_reducible exact LeO.refl _)
   | (with_reducible exact LeO.none _)
   | (with_reducible refine LeO.ite ?_ ?_)
   | (with_reducible refine LeO.bind ?_ (fun _ => ?_))
   | exact ih0 _ _ _ _ _ _
   | exact ih1 _ _ _ _ _ _ _
   | exact ih2 _ _ _ _ _
   | exact ih3 _ _ _ _ _
   | exact ih4 _ _ _ _ _ _
   | exact ih5 _ _ _ _ _
   | exact ih6 _ _ _ _ _ _
   | exact quorumlaw6_Heavy.mono _ _ _ _ _
   | exact quorumlaw6_digits.mono _ _
   | exact quorumlaw6_wakes.mono _
   | exact tree_Add.mono _ _ _ _ _ _
   | exact tree_Count.mono _ _ _ _
   | exact tree_Cut.mono _ _ _ _ _
   | exact tree_Deep.mono _ _ _ _
   | exact tree_Find.mono _ _ _ _ _
   | exact LeO.none _
   | refine LeO.ite ?_ ?_
   | refine LeO.bind ?_ (fun _ => ?_)
  ·intro y0 y1 y2 y3 y4
   unfold quorumlaw6_TreeMany.l2
   repeat' first
   | (with_reducible exact ih0 _ _ _ _ _ _)
   | (with_reducible exact ih1 _ _ _ _ _ _ _)
   | (with_reducible exact ih2 _ _ _ _ _)
   | (with_reducible exact ih3 _ _ _ _ _)
   | (with_reducible exact ih4 _ _ _ _ _ _)
   | (with_reducible exact ih5 _ _ _ _ _)
   | (with_reducible exact ih6 _ _ _ _ _ _)
   | (with_reducible exact quorumlaw6_Heavy.mono _ _ _ _ _)
   | (with_reducible exact quorumlaw6_digits.mono _ _)
   | (with_reducible exact quorumlaw6_wakes.mono _)
   | (with_reducible exact tree_Add.mono _ _ _ _ _ _)
   | (with_reducible exact tree_Count.mono _ _ _ _)
   | (with_reducible exact tree_Cut.mono _ _ _ _ _)
   | (with_reducible exact tree_Deep.mono _ _ _ _)
   | (with_reducible exact tree_Find.mono _ _ _ _ _)
   | (with_reducible exact LeO.refl _)
   | (with_reducible exact LeO.none _)
   | (with_reducible refine LeO.ite ?_ ?_)
   | (with_reducible refine LeO.bind ?_ (fun _ => ?_))
   | exact ih0 _ _ _ _ _ _
   | exact ih1 _ _ _ _ _ _ _
   | exact ih2 _ _ _ _ _
   | exact ih3 _ _ _ _ _
   | exact ih4 _ _ _ _ _ _
   | exact ih5 _ _ _ _ _
   | exact ih6 _ _ _ _ _ _
   | exact quorumlaw6_Heavy.mono _ _ _ _ _
   | exact quorumlaw6_digits.mono _ _
   | exact quorumlaw6_wakes.mono _
   | exact tree_Add.mono _ _ _ _ _ _
   | exact tree_Count.mono _ _ _ _
   | exact tree_Cut.mono _ _ _ _ _
   | exact tree_Deep.mono _ _ _ _
   | exact tree_Find.mono _ _ _ _ _
   | exact LeO.none _
   | refine LeO.ite ?_ ?_
   | refine LeO.bind ?_ (fun _ => ?_)
  ·intro y0 y1 y2 y3 y4 y5
   unfold quorumlaw6_TreeMany.j6
   repeat' first
   | (with_reducible exact ih0 _ _ _ _ _ _)
   | (with_reducible exact ih1 _ _ _ _ _ _ _)
   | (with_reducible exact ih2 _ _ _ _ _)
   | (with_reducible exact ih3 _ _ _ _ _)
   | (with_reducible exact ih4 _ _ _ _ _ _)
   | (with_reducible exact ih5 _ _ _ _ _)
   | (with_reducible exact ih6 _ _ _ _ _ _)
   | (with_reducible exact quorumlaw6_Heavy.mono _ _ _ _ _)
   | (with_reducible exact quorumlaw6_digits.mono _ _)
   | (with_reducible exact quorumlaw6_wakes.mono _)
   | (with_reducible exact tree_Add.mono _ _ _ _ _ _)
   | (with_reducible exact tree_Count.mono _ _ _ _)
   | (with_reducible exact tree_Cut.mono _ _ _ _ _)
   | (with_reducible exact tree_Deep.mono _ _ _ _)
   | (with_reducible exact tree_Find.mono _ _ _ _ _)
   | (with_reducible exact LeO.refl _)
   | (with_reducible exact LeO.none _)
   | (with_reducible refine LeO.ite ?_ ?_)
   | (with_reducible refine LeO.bind ?_ (fun _ => ?_))
   | exact ih0 _ _ _ _ _ _
   | exact ih1 _ _ _ _ _ _ _
   | exact ih2 _ _ _ _ _
   | exact ih3 _ _ _ _ _
   | exact ih4 _ _ _ _ _ _
   | exact ih5 _ _ _ _ _
   | exact ih6 _ _ _ _ _ _
   | exact quorumlaw6_Heavy.mono _ _ _ _ _
   | exact quorumlaw6_digits.mono _ _
   | exact quorumlaw6_wakes.mono _
   | exact tree_Add.mono _ _ _ _ _ _
   | exact tree_Count.mono _ _ _ _
   | exact tree_Cut.mono _ _ _ _ _
   | exact tree_Deep.mono _ _ _ _
   | exact tree_Find.mono _ _ _ _ _
   | exact LeO.none _
   | refine LeO.ite ?_ ?_
   | refine LeO.bind ?_ (fun _ => ?_)
theorem quorumlaw6_TreeMany.mono : ∀ a0 a1 a2 a3 k, LeO (quorumlaw6_TreeMany.f k a0 a1 a2 a3) (quorumlaw6_TreeMany.f (k + 1) a0 a1 a2 a3) := by
 intro a0 a1 a2 a3 k
 obtain ⟨ih0, ih1, ih2, ih3, ih4, ih5, ih6⟩ := quorumlaw6_TreeMany.mono_l k
 unfold quorumlaw6_TreeMany.f
 repeat' first
   | (with_reducible exact ih0 _ _ _ _ _ _)
   | (with_reducible exact ih1 _ _ _ _ _ _ _)
   | (with_reducible exact ih2 _ _ _ _ _)
   | (with_reducible exact ih3 _ _ _ _ _)
   | (with_reducible exact ih4 _ _ _ _ _ _)
   | (with_reducible exact ih5 _ _ _ _ _)
   | (with_reducible exact ih6 _ _ _ _ _ _)
   | (with_reducible exact quorumlaw6_Heavy.mono _ _ _ _ _)
   | (with_reducible exact quorumlaw6_digits.mono _ _)
   | (with_reducible exact quorumlaw6_wakes.mono _)
   | (with_reducible exact tree_Add.mono _ _ _ _ _ _)
   | (with_reducible exact tree_Count.mono _ _ _ _)
   | (with_reducible exact tree_Cut.mono _ _ _ _ _)
   | (with_reducible exact tree_Deep.mono _ _ _ _)
   | (with_reducible exact tree_Find.mono _ _ _ _ _)
   | (with_reducible exact LeO.refl _)
   | (with_reducible exact LeO.none _)
   | (with_reducible refine LeO.ite ?_ ?_)
   | (with_reducible refine LeO.bind ?_ (fun _ => ?_))
   | exact ih0 _ _ _ _ _ _
   | exact ih1 _ _ _ _ _ _ _
   | exact ih2 _ _ _ _ _
   | exact ih3 _ _ _ _ _
   | exact ih4 _ _ _ _ _ _
   | exact ih5 _ _ _ _ _
   | exact ih6 _ _ _ _ _ _
   | exact quorumlaw6_Heavy.mono _ _ _ _ _
   | exact quorumlaw6_digits.mono _ _
   | exact quorumlaw6_wakes.mono _
   | exact tree_Add.mono _ _ _ _ _ _
   | exact tree_Count.mono _ _ _ _
   | exact tree_Cut.mono _ _ _ _ _
   | exact tree_Deep.mono _ _ _ _
   | exact tree_Find.mono _ _ _ _ _
   | exact LeO.none _
   | refine LeO.ite ?_ ?_
   | refine LeO.bind ?_ (fun _ => ?_)
noncomputable def quorumlaw6_TreeMany.T12 : Bool × List (List Nat × List Nat) := (true, [([], []), ([], []), ([1], [1]), ([2], [2]), ([3], [3]), ([], []), ([0, 4, 5, 3], [0, 4, 5]), ([6], [6]), ([7], [7]), ([7], [7]), ([], []), ([10, 8, 6, 0, 1, 2, 3, 4, 5, 6, 7, 8, 10], [8, 10]), ([9, 11, 0, 1, 2, 3, 4, 5, 6, 7, 8, 9, 10, 11], [9])])
noncomputable def quorumlaw6_TreeMany.B12 : List Nat := [0, 0, 2, 6, 14, 0, 63, 127, 255, 255, 0, 1535, 4095]
theorem quorumlaw6_TreeMany.tab12 : rtab .any (opsOf Tryd.f7 12) = quorumlaw6_TreeMany.T12 := by kernel_rfl
theorem quorumlaw6_TreeMany.bits12 : waitsOk quorumlaw6_TreeMany.T12.2 quorumlaw6_TreeMany.B12 = true := by kernel_rfl
noncomputable def quorumlaw6_TreeMany.T23 : Bool × List (List Nat × List Nat) := (true, [([], []), ([], []), ([1], [1]), ([2], [2]), ([3], [3]), ([0, 4, 3], [0, 4]), ([5], [5]), ([6], [6]), ([6], [6]), ([7, 5, 0, 1, 2, 3, 4, 5, 6, 7], [7]), ([8, 9, 0, 1, 2, 3, 4, 5, 6, 7, 8, 9], [8])])
noncomputable def quorumlaw6_TreeMany.B23 : List Nat := [0, 0, 2, 6, 14, 31, 63, 127, 127, 255, 1023]
theorem quorumlaw6_TreeMany.tab23 : rtab .any (opsOf Tryd.f7 23) = quorumlaw6_TreeMany.T23 := by kernel_rfl
theorem quorumlaw6_TreeMany.bits23 : waitsOk quorumlaw6_TreeMany.T23.2 quorumlaw6_TreeMany.B23 = true := by kernel_rfl
noncomputable def quorumlaw6_TreeMany.T33 : Bool × List (List Nat × List Nat) := (true, [([], []), ([], []), ([1], [1]), ([2], [2]), ([3], [3]), ([0, 4, 3], [0, 4]), ([5], [5]), ([6], [6]), ([6], [6]), ([], []), ([9, 7, 5, 0, 1, 2, 3, 4, 5, 6, 7, 9], [7, 9]), ([8, 10, 0, 1, 2, 3, 4, 5, 6, 7, 8, 9, 10], [8])])
noncomputable def quorumlaw6_TreeMany.B33 : List Nat := [0, 0, 2, 6, 14, 31, 63, 127, 127, 0, 767, 2047]
theorem quorumlaw6_TreeMany.tab33 : rtab .any (opsOf Tryd.f7 33) = quorumlaw6_TreeMany.T33 := by kernel_rfl
theorem quorumlaw6_TreeMany.bits33 : waitsOk quorumlaw6_TreeMany.T33.2 quorumlaw6_TreeMany.B33 = true := by kernel_rfl
set_option maxHeartbeats 8000000 in
set_option maxRecDepth 100000 in
theorem quorumlaw6_TreeMany.calls (k : Nat) (A0_0 : Option Addr) (c0_0 : Nat) (l0_0 : List (S85)) (a0_1 : Int) (A0_2 : Option Addr) (c0_2 : Nat) (l0_2 : List Int) (A0_3 : Option Addr) (c0_3 : Nat) (l0_3 : List (S70)) (r : Bool) (w : World) (hr0_0 : Kd.C k85 w A0_0 l0_0.length l0_0) (hc0_0 : l0_0.length ≤ c0_0) (hr0_2 : Kd.C (Kd.int .i64) w A0_2 l0_2.length l0_2) (hc0_2 : l0_2.length ≤ c0_2) (hr0_3 : Kd.C k70 w A0_3 l0_3.length l0_3) (hc0_3 : l0_3.length ≤ c0_3) (h : quorumlaw6_TreeMany.f k l0_0 a0_1 l0_2 l0_3 = some r) :
  Calls Tryd.prog 7 #[.agg #[.slice A0_0 l0_0.length c0_0, .int .i64 a0_1, .slice A0_2 l0_2.length c0_2, .slice A0_3 l0_3.length c0_3]] w fun e w' => e = .returned (.bool r) ∧ Below w.heap.size w w' := by
 have hu28 := Tryd.underlying28
 have hu25 := Tryd.underlying25
 have HR0_0 := mk0 hr0_0
 have HC0_0 := mk0 hc0_0
 clear hr0_0 hc0_0
 have HR0_2 := mk0 hr0_2
 have HC0_2 := mk0 hc0_2
 clear hr0_2 hc0_2
 have HR0_3 := mk0 hr0_3
 have HC0_3 := mk0 hc0_3
 clear hr0_3 hc0_3
 have HB := mk0 (Below.refl w.heap.size w)
 have H : ((quorumlaw6_Heavy.f k l0_0 a0_1 l0_2 l0_3).bind fun t327 => (if t327 = true then (some true) else ((quorumlaw0_Within.f (wrap64 ((l0_3.length : Int) * 13)) 80).bind fun t328 => ((some (([1, 7, 11, 37, 101] : List Int) : List Int)).bind fun y329 => ((quorumlaw0_Within.f (l0_3.length : Int) 5).bind fun t332 => (if 0 ≤ t332 then (if t332 < (y329.length : Int) then ((tree_New.f).bind fun bt334 => (quorumlaw6_TreeMany.l0 k (wrap64 (20 + t328)) (rd y329 t332) 0 bt334.1 bt334.2.1 bt334.2.2)) else (none)) else (none))))))) = some r := h
 clear h
 replace H := Option.bind_eq_some_iff.mp H
 obtain ⟨t327, A20, H⟩ := H
 try dsimp only at H
 have A2 := mk0 A20
 clear A20
 by_cases c3 : t327 = true
 ·subst c3
  rw [if_pos rfl] at H
  obtain rfl := Option.some.inj H
  go_enter Tryd.func7, Tryd.ntmps7
  go_wp2_with (first | ((with_reducible refine gate_dst (N := 1) rfl ?_); (try (refine gate_guard (by rfl) ?_; dsimp only)); refine bx_ (N := 1) (cs := #[.slice A0_0 l0_0.length c0_0, .int .i64 a0_1, .slice A0_2 l0_2.length c0_2, .slice A0_3 l0_3.length c0_3]) (t := 28) (h := ?_); intro gb326 hg w4 hbox hb; have n2_ := mk0 (gz_ HB hg); have n3_ := mk0 (gz_ HB hg); replace HB := mk0 (bt_ (b_ HB) hb); have BK326 := mk0 (hbox); have GW326 := n2_; have GE326 := n3_; clear n2_ n3_ hb hbox hg; obtain ⟨hcz5_0, hcz5_1, hcz5_2, hcz5_3, hfz5_0, hfz5_1, hfz5_2, hfz5_3⟩ := c4_ BK326) | ((with_reducible refine gate_callee (f := 18) rfl ?_); refine gL_ (some 25) Tryd.func18 #[.agg #[.slice A0_0 l0_0.length c0_0, .int .i64 a0_1, .slice A0_2 l0_2.length c0_2, .slice A0_3 l0_3.length c0_3]] (h := ?_); (with_reducible refine (quorumlaw6_Heavy.calls k _ _ l0_0 a0_1 _ _ l0_2 _ _ l0_3 true _ ?side1 ?side2 ?side3 ?side4 ?side5 ?side6 A2.out).mono ?_); (case side1 => exact cb_ HR0_0 HB); (case side2 => exact HC0_0.out); (case side3 => exact cb_ HR0_2 HB); (case side4 => exact HC0_2.out); (case side5 => exact cb_ HR0_3 HB); (case side6 => exact HC0_3.out); rintro e w6 ⟨rfl, hb⟩; refine ⟨_, rfl, ?_⟩; replace BK326 := mk0 (u_ BK326 hb); replace HB := mk0 (bt_ (b_ HB) hb); (try clear hb)))
  go_ret
  exact ⟨by first | rfl | (simp [errW_none, errW_some] <;> rfl) | (simp [*, errW_none, errW_some] <;> rfl), b_ HB⟩
 replace c3 := Bool.eq_false_iff.mpr c3
 subst c3
 rw [if_neg (show ¬ (false = true) by decide)] at H
 replace H := Option.bind_eq_some_iff.mp H
 obtain ⟨t328, A70, H⟩ := H
 try dsimp only at H
 have A7 := mk0 A70
 clear A70
 obtain ⟨y329, hy329⟩ : ∃ y_ : List Int, y_ = (([1, 7, 11, 37, 101] : List Int)) := ⟨_, rfl⟩
 replace H : ((quorumlaw0_Within.f (l0_3.length : Int) 5).bind fun t332 => (if 0 ≤ t332 then (if t332 < (y329.length : Int) then ((tree_New.f).bind fun bt334 => (quorumlaw6_TreeMany.l0 k (wrap64 (20 + t328)) (rd y329 t332) 0 bt334.1 bt334.2.1 bt334.2.2)) else (none)) else (none))) = some r := by first | (rw [hy329]; with_reducible exact H) | (have H2_ := (Option.bind_some _ _).symm.trans H; rw [hy329]; with_reducible exact H2_) | (have H2_ := (Option.bind_some _ _).symm.trans H; with_reducible exact H2_) | with_reducible exact H | (rw [hy329]; exact H) | exact H
 have Ny329 := mk0 hy329
 clear hy329
 replace H := Option.bind_eq_some_iff.mp H
 obtain ⟨t332, A80, H⟩ := H
 try dsimp only at H
 have A8 := mk0 A80
 clear A80
 by_cases c9 : 0 ≤ t332
 rotate_left
 ·rw [if_neg c9] at H
  exact absurd H (by simp)
 rw [if_pos c9] at H
 have c9b0 : decide (0 ≤ t332) = true := decide_eq_true c9
 clear c9
 by_cases c10 : t332 < (y329.length : Int)
 rotate_left
 ·rw [if_neg c10] at H
  exact absurd H (by simp)
 rw [if_pos c10] at H
 have c10b0 : decide (t332 < (y329.length : Int)) = true := decide_eq_true c10
 clear c10
 replace H := Option.bind_eq_some_iff.mp H
 obtain ⟨⟨t334, t337, t338⟩, A110, H⟩ := H
 try dsimp only at H
 have A11 := mk0 A110
 clear A110
 have H' := mk0 H
 clear H
 go_enter Tryd.func7, Tryd.ntmps7
 go_wp2_with (first | ((with_reducible refine gate_dst (N := 1) rfl ?_); (try (refine gate_guard (by rfl) ?_; dsimp only)); refine bx_ (N := 1) (cs := #[.slice A0_0 l0_0.length c0_0, .int .i64 a0_1, .slice A0_2 l0_2.length c0_2, .slice A0_3 l0_3.length c0_3]) (t := 28) (h := ?_); intro gb326 hg w12 hbox hb; have n2_ := mk0 (gz_ HB hg); have n3_ := mk0 (gz_ HB hg); replace HB := mk0 (bt_ (b_ HB) hb); have BK326 := mk0 (hbox); have GW326 := n2_; have GE326 := n3_; clear n2_ n3_ hb hbox hg; obtain ⟨hcz13_0, hcz13_1, hcz13_2, hcz13_3, hfz13_0, hfz13_1, hfz13_2, hfz13_3⟩ := c4_ BK326) | ((with_reducible refine gate_callee (f := 18) rfl ?_); refine gL_ (some 25) Tryd.func18 #[.agg #[.slice A0_0 l0_0.length c0_0, .int .i64 a0_1, .slice A0_2 l0_2.length c0_2, .slice A0_3 l0_3.length c0_3]] (h := ?_); (with_reducible refine (quorumlaw6_Heavy.calls k _ _ l0_0 a0_1 _ _ l0_2 _ _ l0_3 false _ ?side1 ?side2 ?side3 ?side4 ?side5 ?side6 A2.out).mono ?_); (case side1 => exact cb_ HR0_0 HB); (case side2 => exact HC0_0.out); (case side3 => exact cb_ HR0_2 HB); (case side4 => exact HC0_2.out); (case side5 => exact cb_ HR0_3 HB); (case side6 => exact HC0_3.out); rintro e w14 ⟨rfl, hb⟩; refine ⟨_, rfl, ?_⟩; replace BK326 := mk0 (u_ BK326 hb); replace HB := mk0 (bt_ (b_ HB) hb); (try clear hb); obtain ⟨hcz15_0, hcz15_1, hcz15_2, hcz15_3, hfz15_0, hfz15_1, hfz15_2, hfz15_3⟩ := c4_ BK326) | ((with_reducible refine gate_callee (f := 19) rfl ?_); refine gL_ (some 30) Tryd.func19 #[.int .i64 (wrap64 ((l0_3.length : Int) * 13)), .int .i64 80] (h := ?_); (with_reducible refine (quorumlaw0_Within.calls (wrap64 ((l0_3.length : Int) * 13)) 80 t328 _ A7.out).mono ?_); rintro e w' ⟨rfl, ⟨nd, rfl⟩⟩; refine ⟨_, rfl, ?_⟩; (try (rw [drewN_self w14]; generalize hq_ : World.drewN w14 _ = w14; have n0_ : Fc (w14.heap[gb326]? = some (.cells #[.slice A0_0 l0_0.length c0_0, .int .i64 a0_1, .slice A0_2 l0_2.length c0_2, .slice A0_3 l0_3.length c0_3] 28 (0, 0))) := ⟨by rw [← hq_]; exact (h_ BK326)⟩; have n1_ : Fc (Below w.heap.size w w14) := ⟨by rw [← hq_]; exact (b_ HB)⟩; clear BK326 HB hq_; have BK326 := n0_; have HB := n1_; clear n0_ n1_))) | ((with_reducible refine gate_dst (N := 32) rfl ?_); (try (refine gate_guard (by rfl) ?_; dsimp only)); refine Kd.R_lit (Kd.int .i64) _ 3 ?hg (N := 32) ?hd (xs := ([1, 7, 11, 37, 101] : List Int)) (inner := [.int .i64 1, .int .i64 7, .int .i64 11, .int .i64 37, .int .i64 101]) (ok := fun _ => True) (okp := fun _ => True) ?hr ?hp (fun _ hk => hk) trivial (Below.refl _ _) (Nat.le_refl _) (by simp) ?_; (case hd => rfl); (case hg => rfl); (case hr => first | (go_simp; done) | (go_simp; rfl)); (case hp => exact (Reps.one (show Kd.M (Kd.int .i64) _ _ _ 1 [.int .i64 1] from rfl) (Reps.one (show Kd.M (Kd.int .i64) _ _ _ 7 [.int .i64 7] from rfl) (Reps.one (show Kd.M (Kd.int .i64) _ _ _ 11 [.int .i64 11] from rfl) (Reps.one (show Kd.M (Kd.int .i64) _ _ _ 37 [.int .i64 37] from rfl) (Reps.one (show Kd.M (Kd.int .i64) _ _ _ 101 [.int .i64 101] from rfl) (Reps.none _ _))))))); intro v330 w16 ho17 hb hg_ hnew_; clear hg_ hnew_; (first | rw [← Ny329.out] at ho17 | (simp only [Int.reduceToNat] at ho17; rw [← Ny329.out] at ho17)); have n0_ := mk0 (Kd.R_lower ho17 (bz_ (b_ HB))); replace BK326 := mk0 (u_ BK326 hb); replace HB := mk0 (bt_ (b_ HB) hb); have HO331 := n0_; clear n0_ hb ho17; obtain ⟨hcz18_0, hcz18_1, hcz18_2, hcz18_3, hfz18_0, hfz18_1, hfz18_2, hfz18_3⟩ := c4_ BK326) | ((with_reducible refine gate_callee (f := 19) rfl ?_); refine gL_ (some 36) Tryd.func19 #[.int .i64 (l0_3.length : Int), .int .i64 5] (h := ?_); (with_reducible refine (quorumlaw0_Within.calls (l0_3.length : Int) 5 t332 _ A8.out).mono ?_); rintro e w' ⟨rfl, ⟨nd, rfl⟩⟩; refine ⟨_, rfl, ?_⟩; (try (rw [drewN_self w16]; generalize hq_ : World.drewN w16 _ = w16; have n0_ : Fc (Kd.R (Kd.int .i64) 3 w16 w.heap.size (fun _ => True) v330 y329) := ⟨by rw [← hq_]; exact (r_ HO331)⟩; have n1_ : Fc (w16.heap[gb326]? = some (.cells #[.slice A0_0 l0_0.length c0_0, .int .i64 a0_1, .slice A0_2 l0_2.length c0_2, .slice A0_3 l0_3.length c0_3] 28 (0, 0))) := ⟨by rw [← hq_]; exact (h_ BK326)⟩; have n2_ : Fc (Below w.heap.size w w16) := ⟨by rw [← hq_]; exact (b_ HB)⟩; clear HO331 BK326 HB hq_; have HO331 := n0_; have BK326 := n1_; have HB := n2_; clear n0_ n1_ n2_)); obtain ⟨Ao19, co19, eo19⟩ := Kd.R_slice HO331.out; subst eo19; have p333 : 0 ≤ (t332 : Int) := of_decide_eq_true (by first | (with_reducible assumption) | assumption); have q333 : t332 < (y329.length : Int) := of_decide_eq_true (by first | (with_reducible assumption) | assumption); obtain ⟨ad333, e333, hx333_0⟩ := Kd.at_int (Kd.R_reads' HO331.out).2.2 t332 p333 q333; cases e333; replace p333 := eq_true p333; replace q333 := eq_true q333) | ((with_reducible refine gate_callee (f := 20) rfl ?_); refine gL_ (some 39) Tryd.func20 #[] (h := ?_); (with_reducible refine (tree_New.calls  t334 t337 t338 _ A11.out).mono ?_); rintro e w20 ⟨v335, v339, rfl, ho0, ho1, hb⟩; refine ⟨_, rfl, ?_⟩; have n1_ := mk0 (Kd.S_lower (Kd.S_new' ho0 (Kd.R_lt (r_ HO331))) (bz_ (b_ HB))); have n2_ := mk0 (Kd.R_lower (Kd.R_new' ho1 (Kd.R_lt (r_ HO331))) (bz_ (b_ HB))); replace HO331 := mk0 (Kd.R_elder' (r_ HO331) (Kd.R_base ho1) hb); replace BK326 := mk0 (u_ BK326 hb); replace HB := mk0 (bt_ (b_ HB) hb); have HO336 := n1_; have HO340 := n2_; clear n1_ n2_; (try clear hb); (try clear ho0); (try clear ho1)) | ((with_reducible refine gate_dst (N := 5) rfl ?_); (try (refine gate_guard (by rfl) ?_; dsimp only)); refine bx_ (N := 5) (cs := #[.slice none 0 0, .int .i64 0, .slice none 0 0]) (t := 25) (h := ?_); intro gb341 hg w21 hbox hb; have n6_ := mk0 (gz_ HB hg); have n7_ := mk0 (gz_ HB hg); have n8_ := mk0 (ne1_ BK326 hg); have n9_ := mk0 (ne2_ BK326 hg); replace HO331 := mk0 (Kd.R_below (r_ HO331) hb); replace HO336 := mk0 (Kd.S_below (s_ HO336) hb); replace HO340 := mk0 (Kd.R_below (r_ HO340) hb); replace BK326 := mk0 (u_ BK326 hb); replace HB := mk0 (bt_ (b_ HB) hb); have BK341 := mk0 (hbox); have GW341 := n6_; have GE341 := n7_; have NB326_341 := n8_; have NB341_326 := n9_; clear n6_ n7_ n8_ n9_ hb hbox hg; obtain ⟨Ao22, co22, eo22⟩ := Kd.S_slice HO336.out; subst eo22; have hnb23 := NB341_326.out; have hnc23 := NB326_341.out; obtain ⟨hcz24_0, hcz24_1, hcz24_2, hfz24_0, hfz24_1, hfz24_2⟩ := c3_ BK341; obtain ⟨Ao25, co25, eo25⟩ := Kd.R_slice HO340.out; subst eo25))
 go_loopg [6] k (fun kq v6 w' => ∃ (x6_1 : Int) (x342000_1 : List (S85)) (x342001_1 : Int) (x342002_1 : List Int) (u342000 : Value) (u342002 : Value), v6 = .int .i64 x6_1 ∧ Fc (quorumlaw6_TreeMany.l0 kq (wrap64 (20 + t328)) (rd y329 t332) x6_1 x342000_1 x342001_1 x342002_1 = some r) ∧ Fc (kq ≤ k) ∧ Fc (Kd.S k85 85 w' w.heap.size (fun k_ => some k_ ≠ (u342002 : Value).ownBlock) u342000 x342000_1) ∧ Fc (Kd.R (Kd.int .i64) 3 w' w.heap.size (fun _ => True) u342002 x342002_1) ∧ Fc (w'.heap[gb326]? = some (.cells #[(.slice A0_0 l0_0.length c0_0), .int .i64 a0_1, (.slice A0_2 l0_2.length c0_2), (.slice A0_3 l0_3.length c0_3)] 28 (0, 0))) ∧ Fc (w'.heap[gb341]? = some (.cells #[u342000, .int .i64 x342001_1, u342002] 25 (0, 0))) ∧ Fc (Below w.heap.size w w'))
 case atStart => exact ⟨(0), (t334), (t337), (t338), (.slice Ao22 t334.length co22), (.slice Ao25 t338.length co25), (by first | rfl | (simp; done) | (simp [*]; done)), H', ⟨Nat.le_refl _⟩, ⟨by (with_reducible repeat (first | apply Kd.S_alloc | apply Kd.S_drewN | apply Kd.S_drew)); exact Kd.S_mono (Kd.S_far (p := ⟨gb341, 2, none⟩) (Kd.S_far (p := ⟨gb341, 1, none⟩) (Kd.S_far (p := ⟨gb341, 0, none⟩) (Kd.S_types HO336.out BK341.out (by decide)) (fun _ hk => hk.2) (.slice Ao22 t334.length co22)) (fun _ hk => hk.2) (.int .i64 t337)) (fun _ hk => hk.2) (.slice Ao25 t338.length co25)) (fun _ hk => hk.1.1)⟩, ⟨by (with_reducible repeat (first | apply Ra_ | apply Rn_ | apply Rd_)); exact Kd.R_mono (Kd.R_far (p := ⟨gb341, 2, none⟩) (Kd.R_far (p := ⟨gb341, 1, none⟩) (Kd.R_far (p := ⟨gb341, 0, none⟩) (Kd.R_types HO340.out BK341.out (by decide)) (fun _ hk => hk.2) (.slice Ao22 t334.length co22)) (fun _ hk => hk.2) (.int .i64 t337)) (fun _ hk => hk.2) (.slice Ao25 t338.length co25)) (fun _ hk => trivial)⟩, ⟨(fa_ (fa_ (fa_ (h_ BK326) NB326_341.out) NB326_341.out) NB326_341.out)⟩, ⟨(pu_ (cs := #[.slice Ao22 t334.length co22, .int .i64 t337, .slice none 0 0]) (pu_ (cs := #[.slice Ao22 t334.length co22, .int .i64 0, .slice none 0 0]) (pu_ (cs := #[.slice none 0 0, .int .i64 0, .slice none 0 0]) (h_ BK341))))⟩, ⟨b_ HB⟩⟩
 clear H'
 try clear c3
 try clear c9
 try clear c9b0
 try clear c10
 try clear c10b0
 try clear hcz13_0 hcz13_1 hcz13_2 hcz13_3 hfz13_0 hfz13_1 hfz13_2 hfz13_3
 try clear hcz15_0 hcz15_1 hcz15_2 hcz15_3 hfz15_0 hfz15_1 hfz15_2 hfz15_3
 try clear hcz18_0 hcz18_1 hcz18_2 hcz18_3 hfz18_0 hfz18_1 hfz18_2 hfz18_3
 try clear hcz24_0 hcz24_1 hcz24_2 hfz24_0 hfz24_1 hfz24_2
 try clear hcz5_0 hcz5_1 hcz5_2 hcz5_3 hfz5_0 hfz5_1 hfz5_2 hfz5_3
 try clear hx333_0
 try clear p333
 try clear q333
 obtain ⟨x6_1, x342000_1, x342001_1, x342002_1, u342000, u342002, rfl, HA, HK1, HO_342000, HO_342002, BK326, BK341, HB⟩ := hrel
 cases gk with
 | zero => exact absurd HA.out (by simp [quorumlaw6_TreeMany.l0])
 | succ k1 =>
 have H := HA.out
 clear HA
 simp only [quorumlaw6_TreeMany.l0] at H
 as_aux_lemma =>
 by_cases c26 : x6_1 < (wrap64 (20 + t328))
 ·rw [if_pos c26] at H
  have c26b0 : decide (x6_1 < (wrap64 (20 + t328))) = true := decide_eq_true c26
  clear c26
  by_cases c27 : (wrap64 (20 + t328)) = 0
  ·rw [if_pos c27] at H
   exact absurd H (by simp)
  rw [if_neg c27] at H
  have c27b0 : ((wrap64 (20 + t328)) == 0) = false := beq_eq_false_iff_ne.mpr c27
  have c27b1 : ((wrap64 (20 + t328)) != 0) = true := bne_iff_ne.mpr c27
  by_cases c28 : (rd y329 t332) = 0
  ·rw [if_pos c28] at H
   exact absurd H (by simp)
  rw [if_neg c28] at H
  have c28b0 : ((rd y329 t332) == 0) = false := beq_eq_false_iff_ne.mpr c28
  have c28b1 : ((rd y329 t332) != 0) = true := bne_iff_ne.mpr c28
  have HC29 := mk0 H
  clear H
  go_upto_if 53 with (fail)
  go_cut [7] (fun v7 wc => ∃ (kq : Nat) (x7_28 : Int), v7 = .int .i64 x7_28 ∧ Fc (quorumlaw6_TreeMany.j1 kq (wrap64 (20 + t328)) (rd y329 t332) x6_1 x7_28 x342000_1 x342001_1 x342002_1 = some r) ∧ Fc (kq ≤ k1) ∧ Fc (Kd.S k85 85 wc w.heap.size (fun k_ => some k_ ≠ (u342002 : Value).ownBlock) u342000 x342000_1) ∧ Fc (Kd.R (Kd.int .i64) 3 wc w.heap.size (fun _ => True) u342002 x342002_1) ∧ Fc (wc.heap[gb326]? = some (.cells #[(.slice A0_0 l0_0.length c0_0), .int .i64 a0_1, (.slice A0_2 l0_2.length c0_2), (.slice A0_3 l0_3.length c0_3)] 28 (0, 0))) ∧ Fc (wc.heap[gb341]? = some (.cells #[u342000, .int .i64 x342001_1, u342002] 25 (0, 0))) ∧ Fc (Below w.heap.size w wc))
  case first =>
   have H := HC29.out
   clear HC29
   by_cases c30 : (Int.tmod (wrap64 (20 + t328)) (rd y329 t332)) = 0
   rotate_left
   ·rw [if_neg c30] at H
    have c30b0 : ((Int.tmod (wrap64 (20 + t328)) (rd y329 t332)) == 0) = false := beq_eq_false_iff_ne.mpr c30
    have c30b1 : ((Int.tmod (wrap64 (20 + t328)) (rd y329 t332)) != 0) = true := bne_iff_ne.mpr c30
    (first | rw [c30b0] | (simp only [i64_w, i32_w]; rw [c30b0]) | skip)
    have H' := mk0 H
    clear H
    go_wp2
    go_meet
    case rel => exact ⟨_, (Int.tmod (wrap64 (x6_1 * (rd y329 t332))) (wrap64 (20 + t328))), (by first | rfl | (simp; done) | (simp [*]; done)), H', ⟨by have := HK1.out; first | omega | exact Nat.le_refl _⟩, ⟨by (with_reducible repeat (first | apply Kd.S_alloc | apply Kd.S_drewN | apply Kd.S_drew)); exact HO_342000.out⟩, ⟨by (with_reducible repeat (first | apply Ra_ | apply Rn_ | apply Rd_)); exact HO_342002.out⟩, ⟨h_ BK326⟩, ⟨h_ BK341⟩, ⟨b_ HB⟩⟩
   rw [if_pos c30] at H
   have c30b0 : ((Int.tmod (wrap64 (20 + t328)) (rd y329 t332)) == 0) = true := beq_iff_eq.mpr c30
   have c30b1 : ((Int.tmod (wrap64 (20 + t328)) (rd y329 t332)) != 0) = false := bne_eq_false_iff_eq.mpr c30
   clear c30
   (first | rw [c30b0] | (simp only [i64_w, i32_w]; rw [c30b0]) | skip)
   have H' := mk0 H
   clear H
   go_wp2
   go_meet
   case rel => exact ⟨_, (x6_1), (by first | rfl | (simp; done) | (simp [*]; done)), H', ⟨by have := HK1.out; first | omega | exact Nat.le_refl _⟩, ⟨by (with_reducible repeat (first | apply Kd.S_alloc | apply Kd.S_drewN | apply Kd.S_drew)); exact HO_342000.out⟩, ⟨by (with_reducible repeat (first | apply Ra_ | apply Rn_ | apply Rd_)); exact HO_342002.out⟩, ⟨h_ BK326⟩, ⟨h_ BK341⟩, ⟨b_ HB⟩⟩
  clear HC29
  try clear c3
  try clear c9
  try clear c9b0
  try clear c10
  try clear c10b0
  try clear c26
  try clear c26b0
  try clear c27
  try clear c27b0
  try clear c27b1
  try clear c28
  try clear c28b0
  try clear c28b1
  try clear c30
  try clear c30b0
  try clear c30b1
  try clear hcz13_0 hcz13_1 hcz13_2 hcz13_3 hfz13_0 hfz13_1 hfz13_2 hfz13_3
  try clear hcz15_0 hcz15_1 hcz15_2 hcz15_3 hfz15_0 hfz15_1 hfz15_2 hfz15_3
  try clear hcz18_0 hcz18_1 hcz18_2 hcz18_3 hfz18_0 hfz18_1 hfz18_2 hfz18_3
  try clear hcz24_0 hcz24_1 hcz24_2 hfz24_0 hfz24_1 hfz24_2
  try clear hcz5_0 hcz5_1 hcz5_2 hcz5_3 hfz5_0 hfz5_1 hfz5_2 hfz5_3
  try clear hx333_0
  try clear p333
  try clear q333
  obtain ⟨kq, x7_28, rfl, HA, HJ28, HO_342000, HO_342002, BK326, BK341, HB⟩ := hcut
  cases kq with
  | zero => exact absurd HA.out (by simp [quorumlaw6_TreeMany.j1])
  | succ kj28 =>
  have H := HA.out
  clear HA
  simp only [quorumlaw6_TreeMany.j1] at H
  as_aux_lemma =>
  replace H := Option.bind_eq_some_iff.mp H
  obtain ⟨t342, A310, H⟩ := H
  try dsimp only at H
  have A31 := mk0 A310
  clear A310
  by_cases c32 : 1 + t342.size ≤ 9223372036854775807
  rotate_left
  ·rw [if_neg c32] at H
   exact absurd H (by simp)
  rw [if_pos c32] at H
  have c32b0 := eq_true c32
  have c32b1 : decide (1 + t342.size ≤ 9223372036854775807) = true := decide_eq_true c32
  try have c32b2 : (9223372036854775807 < 1 + t342.size) = False := eq_false (Nat.not_lt.2 c32)
  replace H := Option.bind_eq_some_iff.mp H
  obtain ⟨⟨t343, t346, t347, t350⟩, A330, H⟩ := H
  try dsimp only at H
  have A33 := mk0 A330
  clear A330
  replace H := Option.bind_eq_some_iff.mp H
  obtain ⟨t352, A340, H⟩ := H
  try dsimp only at H
  have A34 := mk0 A340
  clear A340
  by_cases c35 : t352 = 0
  rotate_left
  ·rw [if_neg c35] at H
   have c35b0 : (t352 == 0) = false := beq_eq_false_iff_ne.mpr c35
   have c35b1 : (t352 != 0) = true := bne_iff_ne.mpr c35
   obtain rfl := Option.some.inj H
   obtain ⟨Ao53, co53, eo53⟩ := Kd.S_slice HO_342000.out
   subst eo53
   obtain ⟨Ao54, co54, eo54⟩ := Kd.R_slice HO_342002.out
   subst eo54
   try go_wp2
   replace HO_342000 := mk0 (Kd.S_drew HO_342000.out)
   replace HO_342002 := mk0 (Rd_ HO_342002.out)
   replace BK326 := mk0 (bD_ BK326.out)
   replace BK341 := mk0 (bD_ BK341.out)
   replace HB := mk0 (b1_ HB.out)
   refine start_ (n := 13) (S := fun w' => w'.cell? ⟨gb341, 0, none⟩ = some (.slice Ao53 x342000_1.length co53) ∧ w'.cell? ⟨gb341, 1, none⟩ = some (.int .i64 x342001_1) ∧ w'.cell? ⟨gb341, 2, none⟩ = some (.slice Ao54 x342002_1.length co54)) (ds := []) (bt 13 0) (by kernel_rfl) rfl rfl ⟨bk_ BK341 0, bk_ BK341 1, bk_ BK341 2⟩ (fun hHeld => ?_); refine with_tabW quorumlaw6_TreeMany.tab12 quorumlaw6_TreeMany.bits12 (fun HT_ HW_ => ?_)
   generalize wc.drew = w55 at HO_342000 HO_342002 BK326 BK341 HB hHeld ⊢
   refine pq_ HT_.out 1 57 (bt 13 2) (h := ?_)
   refine pq_ HT_.out 2 58 (bt 13 6) (h := ?_)
   refine pq_ HT_.out 5 61 (bt 13 38) (h := ?_)
   refine tq3_ HT_.out HW_.out 0 56 (bt 13 39) hHeld (h := ?_)
   refine join_ (σ := Value × Value × Nat) 2 (bt 13 2047) (fun s_ => [(59, .string t342), (62, .tuple #[.agg #[s_.1, .int .i64 t346, s_.2.1], .int .i64 t350]), (8, .pointer (some ⟨s_.2.2, 0, none⟩)), (60, .string ((⟨#[107]⟩ : ByteArray) ++ t342)), (55, .tuple #[.agg #[s_.1, .int .i64 t346, s_.2.1], .int .i64 t350]), (63, .agg #[s_.1, .int .i64 t346, s_.2.1]), (64, .int .i64 t350)]) (fun s_ w' => (w'.cell? ⟨gb341, 0, none⟩ = some (.slice Ao53 x342000_1.length co53) ∧ w'.cell? ⟨gb341, 1, none⟩ = some (.int .i64 x342001_1) ∧ w'.cell? ⟨gb341, 2, none⟩ = some (.slice Ao54 x342002_1.length co54)) ∧ (Kd.S k85 85 w' w.heap.size (fun k_ => some k_ ≠ (s_.2.1 : Value).ownBlock ∧ some k_ ≠ (.slice Ao53 x342000_1.length co53 : Value).ownBlock ∧ some k_ ≠ (.slice Ao54 x342002_1.length co54 : Value).ownBlock) s_.1 t343) ∧ (Kd.R (Kd.int .i64) 3 w' w.heap.size (fun k_ => some k_ ≠ (.slice Ao54 x342002_1.length co54 : Value).ownBlock) s_.2.1 t347) ∧ (Kd.S k85 85 w' w.heap.size (fun k_ => some k_ ≠ (s_.1 : Value).ownBlock ∧ some k_ ≠ (s_.2.1 : Value).ownBlock ∧ some k_ ≠ (.slice Ao54 x342002_1.length co54 : Value).ownBlock) (.slice Ao53 x342000_1.length co53) x342000_1) ∧ (Kd.R (Kd.int .i64) 3 w' w.heap.size (fun k_ => some k_ ≠ (s_.2.1 : Value).ownBlock) (.slice Ao54 x342002_1.length co54) x342002_1) ∧ (w'.heap[gb326]? = some (.cells #[.slice A0_0 l0_0.length c0_0, .int .i64 a0_1, .slice A0_2 l0_2.length c0_2, .slice A0_3 l0_3.length c0_3] 28 (0, 0))) ∧ (w'.heap[gb341]? = some (.cells #[.slice Ao53 x342000_1.length co53, .int .i64 x342001_1, .slice Ao54 x342002_1.length co54] 25 (0, 0))) ∧ (w'.heap[s_.2.2]? = some (.cells #[.slice none 0 0, .int .i64 0, .slice none 0 0] 25 (0, 0))) ∧ (w.heap.size ≤ s_.2.2) ∧ (w.heap.size ≤ s_.2.2) ∧ (gb326 ≠ s_.2.2) ∧ (s_.2.2 ≠ gb326) ∧ (gb341 ≠ s_.2.2) ∧ (s_.2.2 ≠ gb341) ∧ (Below w.heap.size w w')) ?_ ?_
   rotate_left
   ·intro hCont
    refine two_ (i := 3) (j := 10) (Ni := some 59) (Nj := some 8) (bt 13 47) (bt 13 1063) rfl rfl rfl rfl (two_of HT_.out (by kernel_rfl)) (by decide) (by decide) (fun K hK => ?_) (fun K hK => ?_)
    ·skip
     refine goes_ Tryd.func22 (by kernel_rfl) rfl #[.int .i64 (wrap64 (1000 + x7_28))] (by rfl) rfl rfl (by (try simp only [List.map_toArray, List.map_cons, List.map_nil]); first | done | rfl | (simp only [List.length_drop, List.length_take]; rfl)) ?_
     with_reducible refine (quorumlaw6_digits.calls kj28 (wrap64 (1000 + x7_28)) t342 _ A31.out).mono ?_
     rintro e w56 ⟨rfl, hb⟩
     refine ⟨_, rfl, ?_⟩
     replace HO_342000 := mk0 (Kd.S_below (s_ HO_342000) hb)
     replace HO_342002 := mk0 (Kd.R_below (r_ HO_342002) hb)
     replace BK326 := mk0 (u_ BK326 hb)
     replace BK341 := mk0 (u_ BK341 hb)
     replace HB := mk0 (bt_ (b_ HB) hb)
     (try clear hb)
     (try clear hb2)
     (try clear hk)
     (try clear hi)
     refine hK.out _ _ ⟨bk_ BK341 0, bk_ BK341 1, bk_ BK341 2⟩ (fun hHeld => ?_)
     clear hK K
     refine norm_ (a' := ?_) ?_ ?_
     rotate_left
     ·show Act.put _ (some 59) _ = _
      simp only [z_]
      rfl
     refine pq_ HT_.out 4 60 (bt 13 63) (h := ?_)
     refine two_ (i := 6) (j := 10) (Ni := some 62) (Nj := some 8) (bt 13 127) (bt 13 1087) rfl rfl rfl rfl (two_of HT_.out (by kernel_rfl)) (by decide) (by decide) (fun K hK => ?_) (fun K hK => ?_)
     ·skip
      refine goes_ Tryd.func21 (by kernel_rfl) rfl #[.agg #[.slice Ao53 x342000_1.length co53, .int .i64 x342001_1, .slice Ao54 x342002_1.length co54], .string ((⟨#[107]⟩ : ByteArray) ++ t342), .int .i64 x7_28] (by rfl) rfl rfl (by (try simp only [List.map_toArray, List.map_cons, List.map_nil]); first | done | rfl | (simp only [List.length_drop, List.length_take]; rfl)) ?_
      with_reducible refine (tree_Add.calls kj28 _ _ x342000_1 x342001_1 _ _ x342002_1 ((⟨#[107]⟩ : ByteArray) ++ t342) x7_28 t343 t346 t347 t350 _ ?side1 ?side2 ?side3 ?side4 A33.out).mono ?_
      (case side1 => repeat (first | exact (Kd.S_reads' HO_342000.out).2.2 | (with_reducible refine Kd.C_alloc ?_ _) | (with_reducible refine Kd.C_drewN ?_ _) | (with_reducible refine Kd.C_drew ?_)))
      (case side2 => exact (Kd.S_reads' HO_342000.out).2.1)
      (case side3 => exact cr_ HO_342002)
      (case side4 => exact (Kd.R_reads' HO_342002.out).2.1)
      rintro e w57 ⟨v344, v348, rfl, ho0, ho1, hb⟩
      refine ⟨_, rfl, ?_⟩
      have n2_ := mk0 (Kd.S_lower (Kd.S_new' (Kd.S_new' ho0 (Kd.S_lt (s_ HO_342000))) (Kd.R_lt (r_ HO_342002))) (bz_ (b_ HB)))
      have n3_ := mk0 (Kd.R_lower (Kd.R_new' ho1 (Kd.R_lt (r_ HO_342002))) (bz_ (b_ HB)))
      replace HO_342000 := mk0 (Kd.S_mono (Kd.S_told (Kd.S_told (Kd.S_old (s_ HO_342000) hb) (Kd.S_base ho0)) (Kd.R_base ho1)) (fun _ h_ => h_.1))
      replace HO_342002 := mk0 (Kd.R_elder' (r_ HO_342002) (Kd.R_base ho1) hb)
      replace BK326 := mk0 (u_ BK326 hb)
      replace BK341 := mk0 (u_ BK341 hb)
      replace HB := mk0 (bt_ (b_ HB) hb)
      have HO345 := n2_
      have HO349 := n3_
      clear n2_ n3_
      (try clear hb)
      (try clear hb2)
      (try clear hk)
      (try clear hi)
      (try clear ho0)
      (try clear ho1)
      refine hK.out _ _ ⟨bk_ BK341 0, bk_ BK341 1, bk_ BK341 2⟩ (fun hHeld => ?_)
      clear hK K
      refine norm_ (a' := ?_) ?_ ?_
      rotate_left
      ·show Act.put _ (some 62) _ = _
       simp only [z_]
       rfl
      refine pq_ HT_.out 7 55 (bt 13 255) (h := ?_)
      refine pq_ HT_.out 8 63 (bt 13 511) (h := ?_)
      refine pq_ HT_.out 9 64 (bt 13 1023) (h := ?_)
      refine one_ (i := 10) (N := some 8) (bt 13 2047) rfl rfl (one_of HT_.out (by kernel_rfl)) (by decide) (fun K hK => ?_)
      refine box_step ?hg (N := 8) ?hd (cs := #[.slice none 0 0, .int .i64 0, .slice none 0 0]) (t := 25) ?hr ?_; (case hd => rfl); (case hg => rfl); (case hr => first | (go_simp; done) | (go_simp; rfl))
      intro gb351 hg w58 hbox hb
      have n8_ := mk0 (gz_ HB hg)
      have n9_ := mk0 (gz_ HB hg)
      have n10_ := mk0 (ne1_ BK326 hg)
      have n11_ := mk0 (ne2_ BK326 hg)
      have n12_ := mk0 (ne1_ BK341 hg)
      have n13_ := mk0 (ne2_ BK341 hg)
      replace HO_342000 := mk0 (Kd.S_below (s_ HO_342000) hb)
      replace HO_342002 := mk0 (Kd.R_below (r_ HO_342002) hb)
      replace HO345 := mk0 (Kd.S_below (s_ HO345) hb)
      replace HO349 := mk0 (Kd.R_below (r_ HO349) hb)
      replace BK326 := mk0 (u_ BK326 hb)
      replace BK341 := mk0 (u_ BK341 hb)
      replace HB := mk0 (bt_ (b_ HB) hb)
      have BK351 := mk0 (hbox)
      have GW351 := n8_
      have GE351 := n9_
      have NB326_351 := n10_
      have NB351_326 := n11_
      have NB341_351 := n12_
      have NB351_341 := n13_
      clear n8_ n9_ n10_ n11_ n12_ n13_ hb hbox hg
      refine hK.out _ _ ⟨bk_ BK341 0, bk_ BK341 1, bk_ BK341 2⟩ (fun hHeld => ?_)
      clear hK K
      refine norm_ (a' := ?_) ?_ ?_
      rotate_left
      ·show Act.put _ (some 8) _ = _
       simp only [z_]
       rfl
      exact norm_ (by simp only [putAll, Act.put, List.setIfInBounds_toArray, List.set_cons_zero, List.set_cons_succ]) (hCont (v344, v348, gb351) _ ⟨hHeld, (s2_ (Kd.S_mono HO345.out (fun _ hk => ⟨hk.1.1, ⟨hk.1.2, hk.2⟩⟩))), (r2_ (Kd.R_mono HO349.out (fun _ hk => hk.2))), (s2_ (Kd.S_mono HO_342000.out (fun _ hk => ⟨hk.1.2, ⟨hk.2, hk.1.1⟩⟩))), (r2_ (Kd.R_mono HO_342002.out (fun _ hk => hk.2))), (h_ BK326), (h_ BK341), (h_ BK351), GW351.out, GE351.out, NB326_351.out, NB351_326.out, NB341_351.out, NB351_341.out, (b_ HB)⟩)
     ·skip
      refine box_step ?hg (N := 8) ?hd (cs := #[.slice none 0 0, .int .i64 0, .slice none 0 0]) (t := 25) ?hr ?_; (case hd => rfl); (case hg => rfl); (case hr => first | (go_simp; done) | (go_simp; rfl))
      intro gb351 hg w57 hbox hb
      have n6_ := mk0 (gz_ HB hg)
      have n7_ := mk0 (gz_ HB hg)
      have n8_ := mk0 (ne1_ BK326 hg)
      have n9_ := mk0 (ne2_ BK326 hg)
      have n10_ := mk0 (ne1_ BK341 hg)
      have n11_ := mk0 (ne2_ BK341 hg)
      replace HO_342000 := mk0 (Kd.S_below (s_ HO_342000) hb)
      replace HO_342002 := mk0 (Kd.R_below (r_ HO_342002) hb)
      replace BK326 := mk0 (u_ BK326 hb)
      replace BK341 := mk0 (u_ BK341 hb)
      replace HB := mk0 (bt_ (b_ HB) hb)
      have BK351 := mk0 (hbox)
      have GW351 := n6_
      have GE351 := n7_
      have NB326_351 := n8_
      have NB351_326 := n9_
      have NB341_351 := n10_
      have NB351_341 := n11_
      clear n6_ n7_ n8_ n9_ n10_ n11_ hb hbox hg
      refine hK.out _ _ ⟨bk_ BK341 0, bk_ BK341 1, bk_ BK341 2⟩ (fun hHeld => ?_)
      clear hK K
      refine norm_ (a' := ?_) ?_ ?_
      rotate_left
      ·show Act.put _ (some 8) _ = _
       simp only [z_]
       rfl
      refine one_ (i := 6) (N := some 62) (bt 13 1151) rfl rfl (one_of HT_.out (by kernel_rfl)) (by decide) (fun K hK => ?_)
      refine goes_ Tryd.func21 (by kernel_rfl) rfl #[.agg #[.slice Ao53 x342000_1.length co53, .int .i64 x342001_1, .slice Ao54 x342002_1.length co54], .string ((⟨#[107]⟩ : ByteArray) ++ t342), .int .i64 x7_28] (by rfl) rfl rfl (by (try simp only [List.map_toArray, List.map_cons, List.map_nil]); first | done | rfl | (simp only [List.length_drop, List.length_take]; rfl)) ?_
      with_reducible refine (tree_Add.calls kj28 _ _ x342000_1 x342001_1 _ _ x342002_1 ((⟨#[107]⟩ : ByteArray) ++ t342) x7_28 t343 t346 t347 t350 _ ?side1 ?side2 ?side3 ?side4 A33.out).mono ?_
      (case side1 => repeat (first | exact (Kd.S_reads' HO_342000.out).2.2 | (with_reducible refine Kd.C_alloc ?_ _) | (with_reducible refine Kd.C_drewN ?_ _) | (with_reducible refine Kd.C_drew ?_)))
      (case side2 => exact (Kd.S_reads' HO_342000.out).2.1)
      (case side3 => exact cr_ HO_342002)
      (case side4 => exact (Kd.R_reads' HO_342002.out).2.1)
      rintro e w58 ⟨v344, v348, rfl, ho0, ho1, hb⟩
      refine ⟨_, rfl, ?_⟩
      have n2_ := mk0 (Kd.S_lower (Kd.S_new' (Kd.S_new' ho0 (Kd.S_lt (s_ HO_342000))) (Kd.R_lt (r_ HO_342002))) (bz_ (b_ HB)))
      have n3_ := mk0 (Kd.R_lower (Kd.R_new' ho1 (Kd.R_lt (r_ HO_342002))) (bz_ (b_ HB)))
      replace HO_342000 := mk0 (Kd.S_mono (Kd.S_told (Kd.S_told (Kd.S_old (s_ HO_342000) hb) (Kd.S_base ho0)) (Kd.R_base ho1)) (fun _ h_ => h_.1))
      replace HO_342002 := mk0 (Kd.R_elder' (r_ HO_342002) (Kd.R_base ho1) hb)
      replace BK326 := mk0 (u_ BK326 hb)
      replace BK341 := mk0 (u_ BK341 hb)
      replace BK351 := mk0 (u_ BK351 hb)
      replace HB := mk0 (bt_ (b_ HB) hb)
      have HO345 := n2_
      have HO349 := n3_
      clear n2_ n3_
      (try clear hb)
      (try clear hb2)
      (try clear hk)
      (try clear hi)
      (try clear ho0)
      (try clear ho1)
      refine hK.out _ _ ⟨bk_ BK341 0, bk_ BK341 1, bk_ BK341 2⟩ (fun hHeld => ?_)
      clear hK K
      refine norm_ (a' := ?_) ?_ ?_
      rotate_left
      ·show Act.put _ (some 62) _ = _
       simp only [z_]
       rfl
      refine pq_ HT_.out 7 55 (bt 13 1279) (h := ?_)
      refine pq_ HT_.out 8 63 (bt 13 1535) (h := ?_)
      refine pq_ HT_.out 9 64 (bt 13 2047) (h := ?_)
      exact norm_ (by simp only [putAll, Act.put, List.setIfInBounds_toArray, List.set_cons_zero, List.set_cons_succ]) (hCont (v344, v348, gb351) _ ⟨hHeld, (s2_ (Kd.S_mono HO345.out (fun _ hk => ⟨hk.1.1, ⟨hk.1.2, hk.2⟩⟩))), (r2_ (Kd.R_mono HO349.out (fun _ hk => hk.2))), (s2_ (Kd.S_mono HO_342000.out (fun _ hk => ⟨hk.1.2, ⟨hk.2, hk.1.1⟩⟩))), (r2_ (Kd.R_mono HO_342002.out (fun _ hk => hk.2))), (h_ BK326), (h_ BK341), (h_ BK351), GW351.out, GE351.out, NB326_351.out, NB351_326.out, NB341_351.out, NB351_341.out, (b_ HB)⟩)
    ·skip
     refine box_step ?hg (N := 8) ?hd (cs := #[.slice none 0 0, .int .i64 0, .slice none 0 0]) (t := 25) ?hr ?_; (case hd => rfl); (case hg => rfl); (case hr => first | (go_simp; done) | (go_simp; rfl))
     intro gb351 hg w56 hbox hb
     have n6_ := mk0 (gz_ HB hg)
     have n7_ := mk0 (gz_ HB hg)
     have n8_ := mk0 (ne1_ BK326 hg)
     have n9_ := mk0 (ne2_ BK326 hg)
     have n10_ := mk0 (ne1_ BK341 hg)
     have n11_ := mk0 (ne2_ BK341 hg)
     replace HO_342000 := mk0 (Kd.S_below (s_ HO_342000) hb)
     replace HO_342002 := mk0 (Kd.R_below (r_ HO_342002) hb)
     replace BK326 := mk0 (u_ BK326 hb)
     replace BK341 := mk0 (u_ BK341 hb)
     replace HB := mk0 (bt_ (b_ HB) hb)
     have BK351 := mk0 (hbox)
     have GW351 := n6_
     have GE351 := n7_
     have NB326_351 := n8_
     have NB351_326 := n9_
     have NB341_351 := n10_
     have NB351_341 := n11_
     clear n6_ n7_ n8_ n9_ n10_ n11_ hb hbox hg
     refine hK.out _ _ ⟨bk_ BK341 0, bk_ BK341 1, bk_ BK341 2⟩ (fun hHeld => ?_)
     clear hK K
     refine norm_ (a' := ?_) ?_ ?_
     rotate_left
     ·show Act.put _ (some 8) _ = _
      simp only [z_]
      rfl
     refine one_ (i := 3) (N := some 59) (bt 13 1071) rfl rfl (one_of HT_.out (by kernel_rfl)) (by decide) (fun K hK => ?_)
     refine goes_ Tryd.func22 (by kernel_rfl) rfl #[.int .i64 (wrap64 (1000 + x7_28))] (by rfl) rfl rfl (by (try simp only [List.map_toArray, List.map_cons, List.map_nil]); first | done | rfl | (simp only [List.length_drop, List.length_take]; rfl)) ?_
     with_reducible refine (quorumlaw6_digits.calls kj28 (wrap64 (1000 + x7_28)) t342 _ A31.out).mono ?_
     rintro e w57 ⟨rfl, hb⟩
     refine ⟨_, rfl, ?_⟩
     replace HO_342000 := mk0 (Kd.S_below (s_ HO_342000) hb)
     replace HO_342002 := mk0 (Kd.R_below (r_ HO_342002) hb)
     replace BK326 := mk0 (u_ BK326 hb)
     replace BK341 := mk0 (u_ BK341 hb)
     replace BK351 := mk0 (u_ BK351 hb)
     replace HB := mk0 (bt_ (b_ HB) hb)
     (try clear hb)
     (try clear hb2)
     (try clear hk)
     (try clear hi)
     refine hK.out _ _ ⟨bk_ BK341 0, bk_ BK341 1, bk_ BK341 2⟩ (fun hHeld => ?_)
     clear hK K
     refine norm_ (a' := ?_) ?_ ?_
     rotate_left
     ·show Act.put _ (some 59) _ = _
      simp only [z_]
      rfl
     refine pq_ HT_.out 4 60 (bt 13 1087) (h := ?_)
     refine one_ (i := 6) (N := some 62) (bt 13 1151) rfl rfl (one_of HT_.out (by kernel_rfl)) (by decide) (fun K hK => ?_)
     refine goes_ Tryd.func21 (by kernel_rfl) rfl #[.agg #[.slice Ao53 x342000_1.length co53, .int .i64 x342001_1, .slice Ao54 x342002_1.length co54], .string ((⟨#[107]⟩ : ByteArray) ++ t342), .int .i64 x7_28] (by rfl) rfl rfl (by (try simp only [List.map_toArray, List.map_cons, List.map_nil]); first | done | rfl | (simp only [List.length_drop, List.length_take]; rfl)) ?_
     with_reducible refine (tree_Add.calls kj28 _ _ x342000_1 x342001_1 _ _ x342002_1 ((⟨#[107]⟩ : ByteArray) ++ t342) x7_28 t343 t346 t347 t350 _ ?side1 ?side2 ?side3 ?side4 A33.out).mono ?_
     (case side1 => repeat (first | exact (Kd.S_reads' HO_342000.out).2.2 | (with_reducible refine Kd.C_alloc ?_ _) | (with_reducible refine Kd.C_drewN ?_ _) | (with_reducible refine Kd.C_drew ?_)))
     (case side2 => exact (Kd.S_reads' HO_342000.out).2.1)
     (case side3 => exact cr_ HO_342002)
     (case side4 => exact (Kd.R_reads' HO_342002.out).2.1)
     rintro e w58 ⟨v344, v348, rfl, ho0, ho1, hb⟩
     refine ⟨_, rfl, ?_⟩
     have n2_ := mk0 (Kd.S_lower (Kd.S_new' (Kd.S_new' ho0 (Kd.S_lt (s_ HO_342000))) (Kd.R_lt (r_ HO_342002))) (bz_ (b_ HB)))
     have n3_ := mk0 (Kd.R_lower (Kd.R_new' ho1 (Kd.R_lt (r_ HO_342002))) (bz_ (b_ HB)))
     replace HO_342000 := mk0 (Kd.S_mono (Kd.S_told (Kd.S_told (Kd.S_old (s_ HO_342000) hb) (Kd.S_base ho0)) (Kd.R_base ho1)) (fun _ h_ => h_.1))
     replace HO_342002 := mk0 (Kd.R_elder' (r_ HO_342002) (Kd.R_base ho1) hb)
     replace BK326 := mk0 (u_ BK326 hb)
     replace BK341 := mk0 (u_ BK341 hb)
     replace BK351 := mk0 (u_ BK351 hb)
     replace HB := mk0 (bt_ (b_ HB) hb)
     have HO345 := n2_
     have HO349 := n3_
     clear n2_ n3_
     (try clear hb)
     (try clear hb2)
     (try clear hk)
     (try clear hi)
     (try clear ho0)
     (try clear ho1)
     refine hK.out _ _ ⟨bk_ BK341 0, bk_ BK341 1, bk_ BK341 2⟩ (fun hHeld => ?_)
     clear hK K
     refine norm_ (a' := ?_) ?_ ?_
     rotate_left
     ·show Act.put _ (some 62) _ = _
      simp only [z_]
      rfl
     refine pq_ HT_.out 7 55 (bt 13 1279) (h := ?_)
     refine pq_ HT_.out 8 63 (bt 13 1535) (h := ?_)
     refine pq_ HT_.out 9 64 (bt 13 2047) (h := ?_)
     exact norm_ (by simp only [putAll, Act.put, List.setIfInBounds_toArray, List.set_cons_zero, List.set_cons_succ]) (hCont (v344, v348, gb351) _ ⟨hHeld, (s2_ (Kd.S_mono HO345.out (fun _ hk => ⟨hk.1.1, ⟨hk.1.2, hk.2⟩⟩))), (r2_ (Kd.R_mono HO349.out (fun _ hk => hk.2))), (s2_ (Kd.S_mono HO_342000.out (fun _ hk => ⟨hk.1.2, ⟨hk.2, hk.1.1⟩⟩))), (r2_ (Kd.R_mono HO_342002.out (fun _ hk => hk.2))), (h_ BK326), (h_ BK341), (h_ BK351), GW351.out, GE351.out, NB326_351.out, NB351_326.out, NB341_351.out, NB351_341.out, (b_ HB)⟩)
   rintro ⟨v344, v348, gb351⟩ w59 ⟨hS_, h0_, h1_, h2_, h3_, h4_, h5_, h6_, h7_, h8_, h9_, h10_, h11_, h12_, h13_⟩
   have n0_ : Fc (Kd.S k85 85 w59 w.heap.size (fun k_ => some k_ ≠ (v348 : Value).ownBlock ∧ some k_ ≠ (.slice Ao53 x342000_1.length co53 : Value).ownBlock ∧ some k_ ≠ (.slice Ao54 x342002_1.length co54 : Value).ownBlock) v344 t343) := ⟨h0_⟩
   have n1_ : Fc (Kd.R (Kd.int .i64) 3 w59 w.heap.size (fun k_ => some k_ ≠ (.slice Ao54 x342002_1.length co54 : Value).ownBlock) v348 t347) := ⟨h1_⟩
   have n2_ : Fc (Kd.S k85 85 w59 w.heap.size (fun k_ => some k_ ≠ (v344 : Value).ownBlock ∧ some k_ ≠ (v348 : Value).ownBlock ∧ some k_ ≠ (.slice Ao54 x342002_1.length co54 : Value).ownBlock) (.slice Ao53 x342000_1.length co53) x342000_1) := ⟨h2_⟩
   have n3_ : Fc (Kd.R (Kd.int .i64) 3 w59 w.heap.size (fun k_ => some k_ ≠ (v348 : Value).ownBlock) (.slice Ao54 x342002_1.length co54) x342002_1) := ⟨h3_⟩
   have n4_ : Fc (w59.heap[gb326]? = some (.cells #[.slice A0_0 l0_0.length c0_0, .int .i64 a0_1, .slice A0_2 l0_2.length c0_2, .slice A0_3 l0_3.length c0_3] 28 (0, 0))) := ⟨h4_⟩
   have n5_ : Fc (w59.heap[gb341]? = some (.cells #[.slice Ao53 x342000_1.length co53, .int .i64 x342001_1, .slice Ao54 x342002_1.length co54] 25 (0, 0))) := ⟨h5_⟩
   have n6_ : Fc (w59.heap[gb351]? = some (.cells #[.slice none 0 0, .int .i64 0, .slice none 0 0] 25 (0, 0))) := ⟨h6_⟩
   have n7_ : Fc (w.heap.size ≤ gb351) := ⟨h7_⟩
   have n8_ : Fc (w.heap.size ≤ gb351) := ⟨h8_⟩
   have n9_ : Fc (gb326 ≠ gb351) := ⟨h9_⟩
   have n10_ : Fc (gb351 ≠ gb326) := ⟨h10_⟩
   have n11_ : Fc (gb341 ≠ gb351) := ⟨h11_⟩
   have n12_ : Fc (gb351 ≠ gb341) := ⟨h12_⟩
   have n13_ : Fc (Below w.heap.size w w59) := ⟨h13_⟩
   clear HO_342000 HO_342002 BK326 BK341 HB h0_ h1_ h2_ h3_ h4_ h5_ h6_ h7_ h8_ h9_ h10_ h11_ h12_ h13_
   have HO345 := n0_
   have HO349 := n1_
   have HO_342000 := n2_
   have HO_342002 := n3_
   have BK326 := n4_
   have BK341 := n5_
   have BK351 := n6_
   have GW351 := n7_
   have GE351 := n8_
   have NB326_351 := n9_
   have NB351_326 := n10_
   have NB341_351 := n11_
   have NB351_341 := n12_
   have HB := n13_
   clear n0_ n1_ n2_ n3_ n4_ n5_ n6_ n7_ n8_ n9_ n10_ n11_ n12_ n13_
   have hHeld : w59.cell? ⟨gb341, 0, none⟩ = some (.slice Ao53 x342000_1.length co53) ∧ w59.cell? ⟨gb341, 1, none⟩ = some (.int .i64 x342001_1) ∧ w59.cell? ⟨gb341, 2, none⟩ = some (.slice Ao54 x342002_1.length co54) := hS_
   obtain ⟨Ao60, co60, eo60⟩ := Kd.S_slice HO345.out
   (first | subst eo60 | (injection eo60 with f1_ f2_ f3_; have f4_ := f1_.symm; have f5_ := f3_.symm; clear f1_ f2_ f3_; subst f4_; subst f5_))
   obtain ⟨Ao63, co63, eo63⟩ := Kd.R_slice HO349.out
   (first | subst eo63 | (injection eo63 with f1_ f2_ f3_; have f4_ := f1_.symm; have f5_ := f3_.symm; clear f1_ f2_ f3_; subst f4_; subst f5_))
   refine norm_ (a' := ?_) ?_ ?_
   rotate_left
   ·simp only [putAll, Act.put, List.setIfInBounds_toArray, List.set_cons_zero, List.set_cons_succ]
    rfl
   refine one_ (i := 11) (N := none) (bt 13 4095) rfl rfl (one_of HT_.out (by kernel_rfl)) (by decide) (fun K hK => ?_)
   have hs61 : w59.cell? ⟨gb351, 0, none⟩ = some (.slice none 0 0) := bk_ BK351 0
   have hfs61 := blk_frozen BK351.out 0
   have hns61_0 := NB326_351.out
   have hns61_1 := NB341_351.out
   have hms61_0 := NB351_326.out
   have hms61_1 := NB351_341.out
   have hs62 : w59.cell? ⟨gb351, 1, none⟩ = some (.int .i64 0) := bk_ BK351 1
   have hfs62 := blk_frozen BK351.out 1
   have hns62_0 := NB326_351.out
   have hns62_1 := NB341_351.out
   have hms62_0 := NB351_326.out
   have hms62_1 := NB351_341.out
   have hs64 : w59.cell? ⟨gb351, 2, none⟩ = some (.slice none 0 0) := bk_ BK351 2
   have hfs64 := blk_frozen BK351.out 2
   have hns64_0 := NB326_351.out
   have hns64_1 := NB341_351.out
   have hms64_0 := NB351_326.out
   have hms64_1 := NB351_341.out
   refine skip_ (w1 := ?_) (by rfl) rfl ?_ ?_
   rotate_left
   ·go_simp
    rfl
   refine hK.out _ _ ⟨(cf_ NB341_351.out ((cf_ NB341_351.out (cf_ NB341_351.out hHeld.1)))), (cf_ NB341_351.out ((cf_ NB341_351.out (cf_ NB341_351.out hHeld.2.1)))), (cf_ NB341_351.out ((cf_ NB341_351.out (cf_ NB341_351.out hHeld.2.2))))⟩ (fun hHeld => ?_)
   clear hK K
   refine pq_ HT_.out 12 9 (bt 13 8191) (h := ?_)
   refine done_ (done_of HT_.out (by kernel_rfl)) ?_
   try go_wp2_with (first | ((with_reducible refine gate_callee (f := 23) rfl ?_); refine gL_ (some 66) Tryd.func23 #[.int .i64 t350] (h := ?_); (with_reducible refine (quorumlaw6_num.calls t350 t352 _ A34.out).mono ?_); rintro e w' ⟨rfl, ⟨nd, rfl⟩⟩; refine ⟨_, rfl, ?_⟩))
   go_ret
   exact ⟨by first | rfl | (simp [errW_none, errW_some] <;> rfl) | (simp [*, errW_none, errW_some] <;> rfl), b_ HB⟩
  rw [if_pos c35] at H
  have c35b0 : (t352 == 0) = true := beq_iff_eq.mpr c35
  have c35b1 : (t352 != 0) = false := bne_eq_false_iff_eq.mpr c35
  clear c35
  have H' := mk0 H
  clear H
  obtain ⟨Ao36, co36, eo36⟩ := Kd.S_slice HO_342000.out
  subst eo36
  obtain ⟨Ao37, co37, eo37⟩ := Kd.R_slice HO_342002.out
  subst eo37
  try go_wp2
  replace HO_342000 := mk0 (Kd.S_drew HO_342000.out)
  replace HO_342002 := mk0 (Rd_ HO_342002.out)
  replace BK326 := mk0 (bD_ BK326.out)
  replace BK341 := mk0 (bD_ BK341.out)
  replace HB := mk0 (b1_ HB.out)
  refine start_ (n := 13) (S := fun w' => w'.cell? ⟨gb341, 0, none⟩ = some (.slice Ao36 x342000_1.length co36) ∧ w'.cell? ⟨gb341, 1, none⟩ = some (.int .i64 x342001_1) ∧ w'.cell? ⟨gb341, 2, none⟩ = some (.slice Ao37 x342002_1.length co37)) (ds := []) (bt 13 0) (by kernel_rfl) rfl rfl ⟨bk_ BK341 0, bk_ BK341 1, bk_ BK341 2⟩ (fun hHeld => ?_); refine with_tabW quorumlaw6_TreeMany.tab12 quorumlaw6_TreeMany.bits12 (fun HT_ HW_ => ?_)
  generalize wc.drew = w38 at HO_342000 HO_342002 BK326 BK341 HB hHeld ⊢
  refine pq_ HT_.out 1 57 (bt 13 2) (h := ?_)
  refine pq_ HT_.out 2 58 (bt 13 6) (h := ?_)
  refine pq_ HT_.out 5 61 (bt 13 38) (h := ?_)
  refine tq3_ HT_.out HW_.out 0 56 (bt 13 39) hHeld (h := ?_)
  refine join_ (σ := Value × Value × Nat) 2 (bt 13 2047) (fun s_ => [(59, .string t342), (62, .tuple #[.agg #[s_.1, .int .i64 t346, s_.2.1], .int .i64 t350]), (8, .pointer (some ⟨s_.2.2, 0, none⟩)), (60, .string ((⟨#[107]⟩ : ByteArray) ++ t342)), (55, .tuple #[.agg #[s_.1, .int .i64 t346, s_.2.1], .int .i64 t350]), (63, .agg #[s_.1, .int .i64 t346, s_.2.1]), (64, .int .i64 t350)]) (fun s_ w' => (w'.cell? ⟨gb341, 0, none⟩ = some (.slice Ao36 x342000_1.length co36) ∧ w'.cell? ⟨gb341, 1, none⟩ = some (.int .i64 x342001_1) ∧ w'.cell? ⟨gb341, 2, none⟩ = some (.slice Ao37 x342002_1.length co37)) ∧ (Kd.S k85 85 w' w.heap.size (fun k_ => some k_ ≠ (s_.2.1 : Value).ownBlock ∧ some k_ ≠ (.slice Ao36 x342000_1.length co36 : Value).ownBlock ∧ some k_ ≠ (.slice Ao37 x342002_1.length co37 : Value).ownBlock) s_.1 t343) ∧ (Kd.R (Kd.int .i64) 3 w' w.heap.size (fun k_ => some k_ ≠ (.slice Ao37 x342002_1.length co37 : Value).ownBlock) s_.2.1 t347) ∧ (Kd.S k85 85 w' w.heap.size (fun k_ => some k_ ≠ (s_.1 : Value).ownBlock ∧ some k_ ≠ (s_.2.1 : Value).ownBlock ∧ some k_ ≠ (.slice Ao37 x342002_1.length co37 : Value).ownBlock) (.slice Ao36 x342000_1.length co36) x342000_1) ∧ (Kd.R (Kd.int .i64) 3 w' w.heap.size (fun k_ => some k_ ≠ (s_.2.1 : Value).ownBlock) (.slice Ao37 x342002_1.length co37) x342002_1) ∧ (w'.heap[gb326]? = some (.cells #[.slice A0_0 l0_0.length c0_0, .int .i64 a0_1, .slice A0_2 l0_2.length c0_2, .slice A0_3 l0_3.length c0_3] 28 (0, 0))) ∧ (w'.heap[gb341]? = some (.cells #[.slice Ao36 x342000_1.length co36, .int .i64 x342001_1, .slice Ao37 x342002_1.length co37] 25 (0, 0))) ∧ (w'.heap[s_.2.2]? = some (.cells #[.slice none 0 0, .int .i64 0, .slice none 0 0] 25 (0, 0))) ∧ (w.heap.size ≤ s_.2.2) ∧ (w.heap.size ≤ s_.2.2) ∧ (gb326 ≠ s_.2.2) ∧ (s_.2.2 ≠ gb326) ∧ (gb341 ≠ s_.2.2) ∧ (s_.2.2 ≠ gb341) ∧ (Below w.heap.size w w')) ?_ ?_
  rotate_left
  ·intro hCont
   refine two_ (i := 3) (j := 10) (Ni := some 59) (Nj := some 8) (bt 13 47) (bt 13 1063) rfl rfl rfl rfl (two_of HT_.out (by kernel_rfl)) (by decide) (by decide) (fun K hK => ?_) (fun K hK => ?_)
   ·skip
    refine goes_ Tryd.func22 (by kernel_rfl) rfl #[.int .i64 (wrap64 (1000 + x7_28))] (by rfl) rfl rfl (by (try simp only [List.map_toArray, List.map_cons, List.map_nil]); first | done | rfl | (simp only [List.length_drop, List.length_take]; rfl)) ?_
    with_reducible refine (quorumlaw6_digits.calls kj28 (wrap64 (1000 + x7_28)) t342 _ A31.out).mono ?_
    rintro e w39 ⟨rfl, hb⟩
    refine ⟨_, rfl, ?_⟩
    replace HO_342000 := mk0 (Kd.S_below (s_ HO_342000) hb)
    replace HO_342002 := mk0 (Kd.R_below (r_ HO_342002) hb)
    replace BK326 := mk0 (u_ BK326 hb)
    replace BK341 := mk0 (u_ BK341 hb)
    replace HB := mk0 (bt_ (b_ HB) hb)
    (try clear hb)
    (try clear hb2)
    (try clear hk)
    (try clear hi)
    refine hK.out _ _ ⟨bk_ BK341 0, bk_ BK341 1, bk_ BK341 2⟩ (fun hHeld => ?_)
    clear hK K
    refine norm_ (a' := ?_) ?_ ?_
    rotate_left
    ·show Act.put _ (some 59) _ = _
     simp only [z_]
     rfl
    refine pq_ HT_.out 4 60 (bt 13 63) (h := ?_)
    refine two_ (i := 6) (j := 10) (Ni := some 62) (Nj := some 8) (bt 13 127) (bt 13 1087) rfl rfl rfl rfl (two_of HT_.out (by kernel_rfl)) (by decide) (by decide) (fun K hK => ?_) (fun K hK => ?_)
    ·skip
     refine goes_ Tryd.func21 (by kernel_rfl) rfl #[.agg #[.slice Ao36 x342000_1.length co36, .int .i64 x342001_1, .slice Ao37 x342002_1.length co37], .string ((⟨#[107]⟩ : ByteArray) ++ t342), .int .i64 x7_28] (by rfl) rfl rfl (by (try simp only [List.map_toArray, List.map_cons, List.map_nil]); first | done | rfl | (simp only [List.length_drop, List.length_take]; rfl)) ?_
     with_reducible refine (tree_Add.calls kj28 _ _ x342000_1 x342001_1 _ _ x342002_1 ((⟨#[107]⟩ : ByteArray) ++ t342) x7_28 t343 t346 t347 t350 _ ?side1 ?side2 ?side3 ?side4 A33.out).mono ?_
     (case side1 => repeat (first | exact (Kd.S_reads' HO_342000.out).2.2 | (with_reducible refine Kd.C_alloc ?_ _) | (with_reducible refine Kd.C_drewN ?_ _) | (with_reducible refine Kd.C_drew ?_)))
     (case side2 => exact (Kd.S_reads' HO_342000.out).2.1)
     (case side3 => exact cr_ HO_342002)
     (case side4 => exact (Kd.R_reads' HO_342002.out).2.1)
     rintro e w40 ⟨v344, v348, rfl, ho0, ho1, hb⟩
     refine ⟨_, rfl, ?_⟩
     have n2_ := mk0 (Kd.S_lower (Kd.S_new' (Kd.S_new' ho0 (Kd.S_lt (s_ HO_342000))) (Kd.R_lt (r_ HO_342002))) (bz_ (b_ HB)))
     have n3_ := mk0 (Kd.R_lower (Kd.R_new' ho1 (Kd.R_lt (r_ HO_342002))) (bz_ (b_ HB)))
     replace HO_342000 := mk0 (Kd.S_mono (Kd.S_told (Kd.S_told (Kd.S_old (s_ HO_342000) hb) (Kd.S_base ho0)) (Kd.R_base ho1)) (fun _ h_ => h_.1))
     replace HO_342002 := mk0 (Kd.R_elder' (r_ HO_342002) (Kd.R_base ho1) hb)
     replace BK326 := mk0 (u_ BK326 hb)
     replace BK341 := mk0 (u_ BK341 hb)
     replace HB := mk0 (bt_ (b_ HB) hb)
     have HO345 := n2_
     have HO349 := n3_
     clear n2_ n3_
     (try clear hb)
     (try clear hb2)
     (try clear hk)
     (try clear hi)
     (try clear ho0)
     (try clear ho1)
     refine hK.out _ _ ⟨bk_ BK341 0, bk_ BK341 1, bk_ BK341 2⟩ (fun hHeld => ?_)
     clear hK K
     refine norm_ (a' := ?_) ?_ ?_
     rotate_left
     ·show Act.put _ (some 62) _ = _
      simp only [z_]
      rfl
     refine pq_ HT_.out 7 55 (bt 13 255) (h := ?_)
     refine pq_ HT_.out 8 63 (bt 13 511) (h := ?_)
     refine pq_ HT_.out 9 64 (bt 13 1023) (h := ?_)
     refine one_ (i := 10) (N := some 8) (bt 13 2047) rfl rfl (one_of HT_.out (by kernel_rfl)) (by decide) (fun K hK => ?_)
     refine box_step ?hg (N := 8) ?hd (cs := #[.slice none 0 0, .int .i64 0, .slice none 0 0]) (t := 25) ?hr ?_; (case hd => rfl); (case hg => rfl); (case hr => first | (go_simp; done) | (go_simp; rfl))
     intro gb351 hg w41 hbox hb
     have n8_ := mk0 (gz_ HB hg)
     have n9_ := mk0 (gz_ HB hg)
     have n10_ := mk0 (ne1_ BK326 hg)
     have n11_ := mk0 (ne2_ BK326 hg)
     have n12_ := mk0 (ne1_ BK341 hg)
     have n13_ := mk0 (ne2_ BK341 hg)
     replace HO_342000 := mk0 (Kd.S_below (s_ HO_342000) hb)
     replace HO_342002 := mk0 (Kd.R_below (r_ HO_342002) hb)
     replace HO345 := mk0 (Kd.S_below (s_ HO345) hb)
     replace HO349 := mk0 (Kd.R_below (r_ HO349) hb)
     replace BK326 := mk0 (u_ BK326 hb)
     replace BK341 := mk0 (u_ BK341 hb)
     replace HB := mk0 (bt_ (b_ HB) hb)
     have BK351 := mk0 (hbox)
     have GW351 := n8_
     have GE351 := n9_
     have NB326_351 := n10_
     have NB351_326 := n11_
     have NB341_351 := n12_
     have NB351_341 := n13_
     clear n8_ n9_ n10_ n11_ n12_ n13_ hb hbox hg
     refine hK.out _ _ ⟨bk_ BK341 0, bk_ BK341 1, bk_ BK341 2⟩ (fun hHeld => ?_)
     clear hK K
     refine norm_ (a' := ?_) ?_ ?_
     rotate_left
     ·show Act.put _ (some 8) _ = _
      simp only [z_]
      rfl
     exact norm_ (by simp only [putAll, Act.put, List.setIfInBounds_toArray, List.set_cons_zero, List.set_cons_succ]) (hCont (v344, v348, gb351) _ ⟨hHeld, (s2_ (Kd.S_mono HO345.out (fun _ hk => ⟨hk.1.1, ⟨hk.1.2, hk.2⟩⟩))), (r2_ (Kd.R_mono HO349.out (fun _ hk => hk.2))), (s2_ (Kd.S_mono HO_342000.out (fun _ hk => ⟨hk.1.2, ⟨hk.2, hk.1.1⟩⟩))), (r2_ (Kd.R_mono HO_342002.out (fun _ hk => hk.2))), (h_ BK326), (h_ BK341), (h_ BK351), GW351.out, GE351.out, NB326_351.out, NB351_326.out, NB341_351.out, NB351_341.out, (b_ HB)⟩)
    ·skip
     refine box_step ?hg (N := 8) ?hd (cs := #[.slice none 0 0, .int .i64 0, .slice none 0 0]) (t := 25) ?hr ?_; (case hd => rfl); (case hg => rfl); (case hr => first | (go_simp; done) | (go_simp; rfl))
     intro gb351 hg w40 hbox hb
     have n6_ := mk0 (gz_ HB hg)
     have n7_ := mk0 (gz_ HB hg)
     have n8_ := mk0 (ne1_ BK326 hg)
     have n9_ := mk0 (ne2_ BK326 hg)
     have n10_ := mk0 (ne1_ BK341 hg)
     have n11_ := mk0 (ne2_ BK341 hg)
     replace HO_342000 := mk0 (Kd.S_below (s_ HO_342000) hb)
     replace HO_342002 := mk0 (Kd.R_below (r_ HO_342002) hb)
     replace BK326 := mk0 (u_ BK326 hb)
     replace BK341 := mk0 (u_ BK341 hb)
     replace HB := mk0 (bt_ (b_ HB) hb)
     have BK351 := mk0 (hbox)
     have GW351 := n6_
     have GE351 := n7_
     have NB326_351 := n8_
     have NB351_326 := n9_
     have NB341_351 := n10_
     have NB351_341 := n11_
     clear n6_ n7_ n8_ n9_ n10_ n11_ hb hbox hg
     refine hK.out _ _ ⟨bk_ BK341 0, bk_ BK341 1, bk_ BK341 2⟩ (fun hHeld => ?_)
     clear hK K
     refine norm_ (a' := ?_) ?_ ?_
     rotate_left
     ·show Act.put _ (some 8) _ = _
      simp only [z_]
      rfl
     refine one_ (i := 6) (N := some 62) (bt 13 1151) rfl rfl (one_of HT_.out (by kernel_rfl)) (by decide) (fun K hK => ?_)
     refine goes_ Tryd.func21 (by kernel_rfl) rfl #[.agg #[.slice Ao36 x342000_1.length co36, .int .i64 x342001_1, .slice Ao37 x342002_1.length co37], .string ((⟨#[107]⟩ : ByteArray) ++ t342), .int .i64 x7_28] (by rfl) rfl rfl (by (try simp only [List.map_toArray, List.map_cons, List.map_nil]); first | done | rfl | (simp only [List.length_drop, List.length_take]; rfl)) ?_
     with_reducible refine (tree_Add.calls kj28 _ _ x342000_1 x342001_1 _ _ x342002_1 ((⟨#[107]⟩ : ByteArray) ++ t342) x7_28 t343 t346 t347 t350 _ ?side1 ?side2 ?side3 ?side4 A33.out).mono ?_
     (case side1 => repeat (first | exact (Kd.S_reads' HO_342000.out).2.2 | (with_reducible refine Kd.C_alloc ?_ _) | (with_reducible refine Kd.C_drewN ?_ _) | (with_reducible refine Kd.C_drew ?_)))
     (case side2 => exact (Kd.S_reads' HO_342000.out).2.1)
     (case side3 => exact cr_ HO_342002)
     (case side4 => exact (Kd.R_reads' HO_342002.out).2.1)
     rintro e w41 ⟨v344, v348, rfl, ho0, ho1, hb⟩
     refine ⟨_, rfl, ?_⟩
     have n2_ := mk0 (Kd.S_lower (Kd.S_new' (Kd.S_new' ho0 (Kd.S_lt (s_ HO_342000))) (Kd.R_lt (r_ HO_342002))) (bz_ (b_ HB)))
     have n3_ := mk0 (Kd.R_lower (Kd.R_new' ho1 (Kd.R_lt (r_ HO_342002))) (bz_ (b_ HB)))
     replace HO_342000 := mk0 (Kd.S_mono (Kd.S_told (Kd.S_told (Kd.S_old (s_ HO_342000) hb) (Kd.S_base ho0)) (Kd.R_base ho1)) (fun _ h_ => h_.1))
     replace HO_342002 := mk0 (Kd.R_elder' (r_ HO_342002) (Kd.R_base ho1) hb)
     replace BK326 := mk0 (u_ BK326 hb)
     replace BK341 := mk0 (u_ BK341 hb)
     replace BK351 := mk0 (u_ BK351 hb)
     replace HB := mk0 (bt_ (b_ HB) hb)
     have HO345 := n2_
     have HO349 := n3_
     clear n2_ n3_
     (try clear hb)
     (try clear hb2)
     (try clear hk)
     (try clear hi)
     (try clear ho0)
     (try clear ho1)
     refine hK.out _ _ ⟨bk_ BK341 0, bk_ BK341 1, bk_ BK341 2⟩ (fun hHeld => ?_)
     clear hK K
     refine norm_ (a' := ?_) ?_ ?_
     rotate_left
     ·show Act.put _ (some 62) _ = _
      simp only [z_]
      rfl
     refine pq_ HT_.out 7 55 (bt 13 1279) (h := ?_)
     refine pq_ HT_.out 8 63 (bt 13 1535) (h := ?_)
     refine pq_ HT_.out 9 64 (bt 13 2047) (h := ?_)
     exact norm_ (by simp only [putAll, Act.put, List.setIfInBounds_toArray, List.set_cons_zero, List.set_cons_succ]) (hCont (v344, v348, gb351) _ ⟨hHeld, (s2_ (Kd.S_mono HO345.out (fun _ hk => ⟨hk.1.1, ⟨hk.1.2, hk.2⟩⟩))), (r2_ (Kd.R_mono HO349.out (fun _ hk => hk.2))), (s2_ (Kd.S_mono HO_342000.out (fun _ hk => ⟨hk.1.2, ⟨hk.2, hk.1.1⟩⟩))), (r2_ (Kd.R_mono HO_342002.out (fun _ hk => hk.2))), (h_ BK326), (h_ BK341), (h_ BK351), GW351.out, GE351.out, NB326_351.out, NB351_326.out, NB341_351.out, NB351_341.out, (b_ HB)⟩)
   ·skip
    refine box_step ?hg (N := 8) ?hd (cs := #[.slice none 0 0, .int .i64 0, .slice none 0 0]) (t := 25) ?hr ?_; (case hd => rfl); (case hg => rfl); (case hr => first | (go_simp; done) | (go_simp; rfl))
    intro gb351 hg w39 hbox hb
    have n6_ := mk0 (gz_ HB hg)
    have n7_ := mk0 (gz_ HB hg)
    have n8_ := mk0 (ne1_ BK326 hg)
    have n9_ := mk0 (ne2_ BK326 hg)
    have n10_ := mk0 (ne1_ BK341 hg)
    have n11_ := mk0 (ne2_ BK341 hg)
    replace HO_342000 := mk0 (Kd.S_below (s_ HO_342000) hb)
    replace HO_342002 := mk0 (Kd.R_below (r_ HO_342002) hb)
    replace BK326 := mk0 (u_ BK326 hb)
    replace BK341 := mk0 (u_ BK341 hb)
    replace HB := mk0 (bt_ (b_ HB) hb)
    have BK351 := mk0 (hbox)
    have GW351 := n6_
    have GE351 := n7_
    have NB326_351 := n8_
    have NB351_326 := n9_
    have NB341_351 := n10_
    have NB351_341 := n11_
    clear n6_ n7_ n8_ n9_ n10_ n11_ hb hbox hg
    refine hK.out _ _ ⟨bk_ BK341 0, bk_ BK341 1, bk_ BK341 2⟩ (fun hHeld => ?_)
    clear hK K
    refine norm_ (a' := ?_) ?_ ?_
    rotate_left
    ·show Act.put _ (some 8) _ = _
     simp only [z_]
     rfl
    refine one_ (i := 3) (N := some 59) (bt 13 1071) rfl rfl (one_of HT_.out (by kernel_rfl)) (by decide) (fun K hK => ?_)
    refine goes_ Tryd.func22 (by kernel_rfl) rfl #[.int .i64 (wrap64 (1000 + x7_28))] (by rfl) rfl rfl (by (try simp only [List.map_toArray, List.map_cons, List.map_nil]); first | done | rfl | (simp only [List.length_drop, List.length_take]; rfl)) ?_
    with_reducible refine (quorumlaw6_digits.calls kj28 (wrap64 (1000 + x7_28)) t342 _ A31.out).mono ?_
    rintro e w40 ⟨rfl, hb⟩
    refine ⟨_, rfl, ?_⟩
    replace HO_342000 := mk0 (Kd.S_below (s_ HO_342000) hb)
    replace HO_342002 := mk0 (Kd.R_below (r_ HO_342002) hb)
    replace BK326 := mk0 (u_ BK326 hb)
    replace BK341 := mk0 (u_ BK341 hb)
    replace BK351 := mk0 (u_ BK351 hb)
    replace HB := mk0 (bt_ (b_ HB) hb)
    (try clear hb)
    (try clear hb2)
    (try clear hk)
    (try clear hi)
    refine hK.out _ _ ⟨bk_ BK341 0, bk_ BK341 1, bk_ BK341 2⟩ (fun hHeld => ?_)
    clear hK K
    refine norm_ (a' := ?_) ?_ ?_
    rotate_left
    ·show Act.put _ (some 59) _ = _
     simp only [z_]
     rfl
    refine pq_ HT_.out 4 60 (bt 13 1087) (h := ?_)
    refine one_ (i := 6) (N := some 62) (bt 13 1151) rfl rfl (one_of HT_.out (by kernel_rfl)) (by decide) (fun K hK => ?_)
    refine goes_ Tryd.func21 (by kernel_rfl) rfl #[.agg #[.slice Ao36 x342000_1.length co36, .int .i64 x342001_1, .slice Ao37 x342002_1.length co37], .string ((⟨#[107]⟩ : ByteArray) ++ t342), .int .i64 x7_28] (by rfl) rfl rfl (by (try simp only [List.map_toArray, List.map_cons, List.map_nil]); first | done | rfl | (simp only [List.length_drop, List.length_take]; rfl)) ?_
    with_reducible refine (tree_Add.calls kj28 _ _ x342000_1 x342001_1 _ _ x342002_1 ((⟨#[107]⟩ : ByteArray) ++ t342) x7_28 t343 t346 t347 t350 _ ?side1 ?side2 ?side3 ?side4 A33.out).mono ?_
    (case side1 => repeat (first | exact (Kd.S_reads' HO_342000.out).2.2 | (with_reducible refine Kd.C_alloc ?_ _) | (with_reducible refine Kd.C_drewN ?_ _) | (with_reducible refine Kd.C_drew ?_)))
    (case side2 => exact (Kd.S_reads' HO_342000.out).2.1)
    (case side3 => exact cr_ HO_342002)
    (case side4 => exact (Kd.R_reads' HO_342002.out).2.1)
    rintro e w41 ⟨v344, v348, rfl, ho0, ho1, hb⟩
    refine ⟨_, rfl, ?_⟩
    have n2_ := mk0 (Kd.S_lower (Kd.S_new' (Kd.S_new' ho0 (Kd.S_lt (s_ HO_342000))) (Kd.R_lt (r_ HO_342002))) (bz_ (b_ HB)))
    have n3_ := mk0 (Kd.R_lower (Kd.R_new' ho1 (Kd.R_lt (r_ HO_342002))) (bz_ (b_ HB)))
    replace HO_342000 := mk0 (Kd.S_mono (Kd.S_told (Kd.S_told (Kd.S_old (s_ HO_342000) hb) (Kd.S_base ho0)) (Kd.R_base ho1)) (fun _ h_ => h_.1))
    replace HO_342002 := mk0 (Kd.R_elder' (r_ HO_342002) (Kd.R_base ho1) hb)
    replace BK326 := mk0 (u_ BK326 hb)
    replace BK341 := mk0 (u_ BK341 hb)
    replace BK351 := mk0 (u_ BK351 hb)
    replace HB := mk0 (bt_ (b_ HB) hb)
    have HO345 := n2_
    have HO349 := n3_
    clear n2_ n3_
    (try clear hb)
    (try clear hb2)
    (try clear hk)
    (try clear hi)
    (try clear ho0)
    (try clear ho1)
    refine hK.out _ _ ⟨bk_ BK341 0, bk_ BK341 1, bk_ BK341 2⟩ (fun hHeld => ?_)
    clear hK K
    refine norm_ (a' := ?_) ?_ ?_
    rotate_left
    ·show Act.put _ (some 62) _ = _
     simp only [z_]
     rfl
    refine pq_ HT_.out 7 55 (bt 13 1279) (h := ?_)
    refine pq_ HT_.out 8 63 (bt 13 1535) (h := ?_)
    refine pq_ HT_.out 9 64 (bt 13 2047) (h := ?_)
    exact norm_ (by simp only [putAll, Act.put, List.setIfInBounds_toArray, List.set_cons_zero, List.set_cons_succ]) (hCont (v344, v348, gb351) _ ⟨hHeld, (s2_ (Kd.S_mono HO345.out (fun _ hk => ⟨hk.1.1, ⟨hk.1.2, hk.2⟩⟩))), (r2_ (Kd.R_mono HO349.out (fun _ hk => hk.2))), (s2_ (Kd.S_mono HO_342000.out (fun _ hk => ⟨hk.1.2, ⟨hk.2, hk.1.1⟩⟩))), (r2_ (Kd.R_mono HO_342002.out (fun _ hk => hk.2))), (h_ BK326), (h_ BK341), (h_ BK351), GW351.out, GE351.out, NB326_351.out, NB351_326.out, NB341_351.out, NB351_341.out, (b_ HB)⟩)
  rintro ⟨v344, v348, gb351⟩ w42 ⟨hS_, h0_, h1_, h2_, h3_, h4_, h5_, h6_, h7_, h8_, h9_, h10_, h11_, h12_, h13_⟩
  have n0_ : Fc (Kd.S k85 85 w42 w.heap.size (fun k_ => some k_ ≠ (v348 : Value).ownBlock ∧ some k_ ≠ (.slice Ao36 x342000_1.length co36 : Value).ownBlock ∧ some k_ ≠ (.slice Ao37 x342002_1.length co37 : Value).ownBlock) v344 t343) := ⟨h0_⟩
  have n1_ : Fc (Kd.R (Kd.int .i64) 3 w42 w.heap.size (fun k_ => some k_ ≠ (.slice Ao37 x342002_1.length co37 : Value).ownBlock) v348 t347) := ⟨h1_⟩
  have n2_ : Fc (Kd.S k85 85 w42 w.heap.size (fun k_ => some k_ ≠ (v344 : Value).ownBlock ∧ some k_ ≠ (v348 : Value).ownBlock ∧ some k_ ≠ (.slice Ao37 x342002_1.length co37 : Value).ownBlock) (.slice Ao36 x342000_1.length co36) x342000_1) := ⟨h2_⟩
  have n3_ : Fc (Kd.R (Kd.int .i64) 3 w42 w.heap.size (fun k_ => some k_ ≠ (v348 : Value).ownBlock) (.slice Ao37 x342002_1.length co37) x342002_1) := ⟨h3_⟩
  have n4_ : Fc (w42.heap[gb326]? = some (.cells #[.slice A0_0 l0_0.length c0_0, .int .i64 a0_1, .slice A0_2 l0_2.length c0_2, .slice A0_3 l0_3.length c0_3] 28 (0, 0))) := ⟨h4_⟩
  have n5_ : Fc (w42.heap[gb341]? = some (.cells #[.slice Ao36 x342000_1.length co36, .int .i64 x342001_1, .slice Ao37 x342002_1.length co37] 25 (0, 0))) := ⟨h5_⟩
  have n6_ : Fc (w42.heap[gb351]? = some (.cells #[.slice none 0 0, .int .i64 0, .slice none 0 0] 25 (0, 0))) := ⟨h6_⟩
  have n7_ : Fc (w.heap.size ≤ gb351) := ⟨h7_⟩
  have n8_ : Fc (w.heap.size ≤ gb351) := ⟨h8_⟩
  have n9_ : Fc (gb326 ≠ gb351) := ⟨h9_⟩
  have n10_ : Fc (gb351 ≠ gb326) := ⟨h10_⟩
  have n11_ : Fc (gb341 ≠ gb351) := ⟨h11_⟩
  have n12_ : Fc (gb351 ≠ gb341) := ⟨h12_⟩
  have n13_ : Fc (Below w.heap.size w w42) := ⟨h13_⟩
  clear HO_342000 HO_342002 BK326 BK341 HB h0_ h1_ h2_ h3_ h4_ h5_ h6_ h7_ h8_ h9_ h10_ h11_ h12_ h13_
  have HO345 := n0_
  have HO349 := n1_
  have HO_342000 := n2_
  have HO_342002 := n3_
  have BK326 := n4_
  have BK341 := n5_
  have BK351 := n6_
  have GW351 := n7_
  have GE351 := n8_
  have NB326_351 := n9_
  have NB351_326 := n10_
  have NB341_351 := n11_
  have NB351_341 := n12_
  have HB := n13_
  clear n0_ n1_ n2_ n3_ n4_ n5_ n6_ n7_ n8_ n9_ n10_ n11_ n12_ n13_
  have hHeld : w42.cell? ⟨gb341, 0, none⟩ = some (.slice Ao36 x342000_1.length co36) ∧ w42.cell? ⟨gb341, 1, none⟩ = some (.int .i64 x342001_1) ∧ w42.cell? ⟨gb341, 2, none⟩ = some (.slice Ao37 x342002_1.length co37) := hS_
  obtain ⟨Ao43, co43, eo43⟩ := Kd.S_slice HO345.out
  (first | subst eo43 | (injection eo43 with f1_ f2_ f3_; have f4_ := f1_.symm; have f5_ := f3_.symm; clear f1_ f2_ f3_; subst f4_; subst f5_))
  obtain ⟨Ao46, co46, eo46⟩ := Kd.R_slice HO349.out
  (first | subst eo46 | (injection eo46 with f1_ f2_ f3_; have f4_ := f1_.symm; have f5_ := f3_.symm; clear f1_ f2_ f3_; subst f4_; subst f5_))
  refine norm_ (a' := ?_) ?_ ?_
  rotate_left
  ·simp only [putAll, Act.put, List.setIfInBounds_toArray, List.set_cons_zero, List.set_cons_succ]
   rfl
  refine one_ (i := 11) (N := none) (bt 13 4095) rfl rfl (one_of HT_.out (by kernel_rfl)) (by decide) (fun K hK => ?_)
  have hs44 : w42.cell? ⟨gb351, 0, none⟩ = some (.slice none 0 0) := bk_ BK351 0
  have hfs44 := blk_frozen BK351.out 0
  have hns44_0 := NB326_351.out
  have hns44_1 := NB341_351.out
  have hms44_0 := NB351_326.out
  have hms44_1 := NB351_341.out
  have hs45 : w42.cell? ⟨gb351, 1, none⟩ = some (.int .i64 0) := bk_ BK351 1
  have hfs45 := blk_frozen BK351.out 1
  have hns45_0 := NB326_351.out
  have hns45_1 := NB341_351.out
  have hms45_0 := NB351_326.out
  have hms45_1 := NB351_341.out
  have hs47 : w42.cell? ⟨gb351, 2, none⟩ = some (.slice none 0 0) := bk_ BK351 2
  have hfs47 := blk_frozen BK351.out 2
  have hns47_0 := NB326_351.out
  have hns47_1 := NB341_351.out
  have hms47_0 := NB351_326.out
  have hms47_1 := NB351_341.out
  refine skip_ (w1 := ?_) (by rfl) rfl ?_ ?_
  rotate_left
  ·go_simp
   rfl
  refine hK.out _ _ ⟨(cf_ NB341_351.out ((cf_ NB341_351.out (cf_ NB341_351.out hHeld.1)))), (cf_ NB341_351.out ((cf_ NB341_351.out (cf_ NB341_351.out hHeld.2.1)))), (cf_ NB341_351.out ((cf_ NB341_351.out (cf_ NB341_351.out hHeld.2.2))))⟩ (fun hHeld => ?_)
  clear hK K
  refine pq_ HT_.out 12 9 (bt 13 8191) (h := ?_)
  refine done_ (done_of HT_.out (by kernel_rfl)) ?_
  try go_wp2_with (first | ((with_reducible refine gate_callee (f := 23) rfl ?_); refine gL_ (some 66) Tryd.func23 #[.int .i64 t350] (h := ?_); (with_reducible refine (quorumlaw6_num.calls t350 t352 _ A34.out).mono ?_); rintro e w' ⟨rfl, ⟨nd, rfl⟩⟩; refine ⟨_, rfl, ?_⟩; have hnb48 := NB351_326.out; have hnc48 := NB326_351.out; have hnb49 := NB351_341.out; have hnc49 := NB341_351.out; obtain ⟨hcz50_0, hcz50_1, hcz50_2, hfz50_0, hfz50_1, hfz50_2⟩ := c3_ BK351; have hnb51 := NB341_326.out; have hnc51 := NB326_341.out; obtain ⟨hcz52_0, hcz52_1, hcz52_2, hfz52_0, hfz52_1, hfz52_2⟩ := c3_ BK341))
  go_roundg kj28
  case measure => have := HK1.out; have := HJ28.out; omega
  case rel => exact ⟨(wrap64 (x6_1 + 1)), (t343), (t346), (t347), (.slice Ao43 t343.length co43), (.slice Ao46 t347.length co46), (by first | rfl | (simp; done) | (simp [*]; done)), H', ⟨by have := HK1.out; have := HJ28.out; omega⟩, ⟨by (with_reducible repeat (first | apply Kd.S_alloc | apply Kd.S_drewN | apply Kd.S_drew)); exact Kd.S_mono (Kd.S_far (p := ⟨gb341, 2, none⟩) (Kd.S_far (p := ⟨gb341, 1, none⟩) (Kd.S_far (p := ⟨gb341, 0, none⟩) (Kd.S_far (p := ⟨gb351, 2, none⟩) (Kd.S_far (p := ⟨gb351, 1, none⟩) (Kd.S_far (p := ⟨gb351, 0, none⟩) (Kd.S_types (Kd.S_types HO345.out BK351.out (by decide)) BK341.out (by decide)) (fun _ hk => hk.1.2) (.slice Ao43 t343.length co43)) (fun _ hk => hk.1.2) (.int .i64 t346)) (fun _ hk => hk.1.2) (.slice Ao46 t347.length co46)) (fun _ hk => hk.2) (.slice Ao43 t343.length co43)) (fun _ hk => hk.2) (.int .i64 t346)) (fun _ hk => hk.2) (.slice Ao46 t347.length co46)) (fun _ hk => hk.1.1.1)⟩, ⟨by (with_reducible repeat (first | apply Ra_ | apply Rn_ | apply Rd_)); exact Kd.R_mono (Kd.R_far (p := ⟨gb341, 2, none⟩) (Kd.R_far (p := ⟨gb341, 1, none⟩) (Kd.R_far (p := ⟨gb341, 0, none⟩) (Kd.R_far (p := ⟨gb351, 2, none⟩) (Kd.R_far (p := ⟨gb351, 1, none⟩) (Kd.R_far (p := ⟨gb351, 0, none⟩) (Kd.R_types (Kd.R_types HO349.out BK351.out (by decide)) BK341.out (by decide)) (fun _ hk => hk.1.2) (.slice Ao43 t343.length co43)) (fun _ hk => hk.1.2) (.int .i64 t346)) (fun _ hk => hk.1.2) (.slice Ao46 t347.length co46)) (fun _ hk => hk.2) (.slice Ao43 t343.length co43)) (fun _ hk => hk.2) (.int .i64 t346)) (fun _ hk => hk.2) (.slice Ao46 t347.length co46)) (fun _ hk => trivial)⟩, ⟨(fa_ (fa_ (fa_ (fa_ (fa_ (fa_ (h_ BK326) NB326_351.out) NB326_351.out) NB326_351.out) NB326_341.out) NB326_341.out) NB326_341.out)⟩, ⟨(pu_ (cs := #[.slice Ao43 t343.length co43, .int .i64 t346, .slice Ao37 x342002_1.length co37]) (pu_ (cs := #[.slice Ao43 t343.length co43, .int .i64 x342001_1, .slice Ao37 x342002_1.length co37]) (pu_ (cs := #[.slice Ao36 x342000_1.length co36, .int .i64 x342001_1, .slice Ao37 x342002_1.length co37]) (fa_ (fa_ (fa_ (h_ BK341) NB341_351.out) NB341_351.out) NB341_351.out))))⟩, ⟨b_ HB⟩⟩
 rw [if_neg c26] at H
 have c26b0 : decide (x6_1 < (wrap64 (20 + t328))) = false := decide_eq_false c26
 clear c26
 replace H := Option.bind_eq_some_iff.mp H
 obtain ⟨⟨t353, t354⟩, A650, H⟩ := H
 try dsimp only at H
 have A65 := mk0 A650
 clear A650
 replace H := Option.bind_eq_some_iff.mp H
 obtain ⟨⟨t355, t356⟩, A660, H⟩ := H
 try dsimp only at H
 have A66 := mk0 A660
 clear A660
 have HC67 := mk0 H
 clear H
 have hnb68 := NB341_326.out
 have hnc68 := NB326_341.out
 obtain ⟨hcz69_0, hcz69_1, hcz69_2, hfz69_0, hfz69_1, hfz69_2⟩ := c3_ BK341
 obtain ⟨Ao70, co70, eo70⟩ := Kd.S_slice HO_342000.out
 subst eo70
 obtain ⟨Ao71, co71, eo71⟩ := Kd.R_slice HO_342002.out
 subst eo71
 go_upto_region 18 with (first | ((with_reducible refine gate_callee (f := 24) rfl ?_); refine gL_ (some 71) Tryd.func24 #[.agg #[.slice Ao70 x342000_1.length co70, .int .i64 x342001_1, .slice Ao71 x342002_1.length co71]] (h := ?_); (with_reducible refine (tree_Count.calls k1 _ _ x342000_1 x342001_1 _ _ x342002_1 t353 t354 _ ?side1 ?side2 ?side3 ?side4 A65.out).mono ?_); (case side1 => repeat (first | exact (Kd.S_reads' HO_342000.out).2.2 | (with_reducible refine Kd.C_alloc ?_ _) | (with_reducible refine Kd.C_drewN ?_ _) | (with_reducible refine Kd.C_drew ?_))); (case side2 => exact (Kd.S_reads' HO_342000.out).2.1); (case side3 => exact cr_ HO_342002); (case side4 => exact (Kd.R_reads' HO_342002.out).2.1); rintro e w72 ⟨rfl, hb⟩; refine ⟨_, rfl, ?_⟩; replace HO_342000 := mk0 (Kd.S_below (s_ HO_342000) hb); replace HO_342002 := mk0 (Kd.R_below (r_ HO_342002) hb); replace BK326 := mk0 (u_ BK326 hb); replace BK341 := mk0 (u_ BK341 hb); replace HB := mk0 (bt_ (b_ HB) hb); (try clear hb); obtain ⟨hcz73_0, hcz73_1, hcz73_2, hfz73_0, hfz73_1, hfz73_2⟩ := c3_ BK341) | ((with_reducible refine gate_callee (f := 25) rfl ?_); refine gL_ (some 76) Tryd.func25 #[.agg #[.slice Ao70 x342000_1.length co70, .int .i64 x342001_1, .slice Ao71 x342002_1.length co71]] (h := ?_); (with_reducible refine (tree_Deep.calls k1 _ _ x342000_1 x342001_1 _ _ x342002_1 t355 t356 _ ?side1 ?side2 ?side3 ?side4 A66.out).mono ?_); (case side1 => repeat (first | exact (Kd.S_reads' HO_342000.out).2.2 | (with_reducible refine Kd.C_alloc ?_ _) | (with_reducible refine Kd.C_drewN ?_ _) | (with_reducible refine Kd.C_drew ?_))); (case side2 => exact (Kd.S_reads' HO_342000.out).2.1); (case side3 => exact cr_ HO_342002); (case side4 => exact (Kd.R_reads' HO_342002.out).2.1); rintro e w74 ⟨rfl, hb⟩; refine ⟨_, rfl, ?_⟩; replace HO_342000 := mk0 (Kd.S_below (s_ HO_342000) hb); replace HO_342002 := mk0 (Kd.R_below (r_ HO_342002) hb); replace BK326 := mk0 (u_ BK326 hb); replace BK341 := mk0 (u_ BK341 hb); replace HB := mk0 (bt_ (b_ HB) hb); (try clear hb)))
 (try simp only [Act.put, List.setIfInBounds_toArray, List.set_cons_zero, List.set_cons_succ])
 go_cut [95] (fun v95 wc => ∃ (kq : Nat) (x95_66 : Bool), v95 = .bool x95_66 ∧ Fc (quorumlaw6_TreeMany.j2 kq (wrap64 (20 + t328)) x95_66 x342000_1 x342001_1 x342002_1 = some r) ∧ Fc (kq ≤ k1) ∧ Fc (Kd.S k85 85 wc w.heap.size (fun k_ => some k_ ≠ ((.slice Ao71 x342002_1.length co71) : Value).ownBlock) (.slice Ao70 x342000_1.length co70) x342000_1) ∧ Fc (Kd.R (Kd.int .i64) 3 wc w.heap.size (fun _ => True) (.slice Ao71 x342002_1.length co71) x342002_1) ∧ Fc (wc.heap[gb326]? = some (.cells #[(.slice A0_0 l0_0.length c0_0), .int .i64 a0_1, (.slice A0_2 l0_2.length c0_2), (.slice A0_3 l0_3.length c0_3)] 28 (0, 0))) ∧ Fc (wc.heap[gb341]? = some (.cells #[(.slice Ao70 x342000_1.length co70), .int .i64 x342001_1, (.slice Ao71 x342002_1.length co71)] 25 (0, 0))) ∧ Fc (Below w.heap.size w wc))
 case first =>
  have H := HC67.out
  clear HC67
  replace H := Option.bind_eq_some_iff.mp H
  obtain ⟨t357, A750, H⟩ := H
  try dsimp only at H
  have A75 := mk0 A750
  clear A750
  by_cases c76 : t357 = 0
  rotate_left
  ·rw [if_neg c76] at H
   have c76b0 : (t357 == 0) = false := beq_eq_false_iff_ne.mpr c76
   have c76b1 : (t357 != 0) = true := bne_iff_ne.mpr c76
   (first | rw [c76b0] | (simp only [i64_w, i32_w]; rw [c76b0]) | skip)
   have H' := mk0 H
   clear H
   go_wp2_with (first | ((with_reducible refine gate_callee (f := 23) rfl ?_); refine gL_ (some 80) Tryd.func23 #[.int .i64 t354] (h := ?_); (with_reducible refine (quorumlaw6_num.calls t354 t357 _ A75.out).mono ?_); rintro e w' ⟨rfl, ⟨nd, rfl⟩⟩; refine ⟨_, rfl, ?_⟩))
   go_meet
   case rel => exact ⟨_, (true), (by first | rfl | (simp; done) | (simp [*]; done)), H', ⟨by have := HK1.out; first | omega | exact Nat.le_refl _⟩, ⟨by (with_reducible repeat (first | apply Kd.S_alloc | apply Kd.S_drewN | apply Kd.S_drew)); exact HO_342000.out⟩, ⟨by (with_reducible repeat (first | apply Ra_ | apply Rn_ | apply Rd_)); exact HO_342002.out⟩, ⟨h_ BK326⟩, ⟨h_ BK341⟩, ⟨b_ HB⟩⟩
  rw [if_pos c76] at H
  have c76b0 : (t357 == 0) = true := beq_iff_eq.mpr c76
  have c76b1 : (t357 != 0) = false := bne_eq_false_iff_eq.mpr c76
  clear c76
  (first | rw [c76b0] | (simp only [i64_w, i32_w]; rw [c76b0]) | skip)
  replace H := Option.bind_eq_some_iff.mp H
  obtain ⟨t358, A770, H⟩ := H
  try dsimp only at H
  have A77 := mk0 A770
  clear A770
  by_cases c78 : t358 = 0
  rotate_left
  ·rw [if_neg c78] at H
   have c78b0 : (t358 == 0) = false := beq_eq_false_iff_ne.mpr c78
   have c78b1 : (t358 != 0) = true := bne_iff_ne.mpr c78
   have H' := mk0 H
   clear H
   go_wp2_with (first | ((with_reducible refine gate_callee (f := 23) rfl ?_); refine gL_ (some 80) Tryd.func23 #[.int .i64 t354] (h := ?_); (with_reducible refine (quorumlaw6_num.calls t354 t357 _ A75.out).mono ?_); rintro e w' ⟨rfl, ⟨nd, rfl⟩⟩; refine ⟨_, rfl, ?_⟩) | (go_at_call 23; (with_reducible refine (quorumlaw6_num.calls t356 t358 _ A77.out).mono ?_); rintro e w' ⟨rfl, ⟨nd, rfl⟩⟩))
   go_meet
   case rel => exact ⟨_, (true), (by first | rfl | (simp; done) | (simp [*]; done)), H', ⟨by have := HK1.out; first | omega | exact Nat.le_refl _⟩, ⟨by (with_reducible repeat (first | apply Kd.S_alloc | apply Kd.S_drewN | apply Kd.S_drew)); exact HO_342000.out⟩, ⟨by (with_reducible repeat (first | apply Ra_ | apply Rn_ | apply Rd_)); exact HO_342002.out⟩, ⟨h_ BK326⟩, ⟨h_ BK341⟩, ⟨b_ HB⟩⟩
  rw [if_pos c78] at H
  have c78b0 : (t358 == 0) = true := beq_iff_eq.mpr c78
  have c78b1 : (t358 != 0) = false := bne_eq_false_iff_eq.mpr c78
  clear c78
  by_cases c79 : t353 = (wrap64 (20 + t328))
  rotate_left
  ·rw [if_neg c79] at H
   have c79b0 : (t353 == (wrap64 (20 + t328))) = false := beq_eq_false_iff_ne.mpr c79
   have c79b1 : (t353 != (wrap64 (20 + t328))) = true := bne_iff_ne.mpr c79
   have H' := mk0 H
   clear H
   go_wp2_with (first | ((with_reducible refine gate_callee (f := 23) rfl ?_); refine gL_ (some 80) Tryd.func23 #[.int .i64 t354] (h := ?_); (with_reducible refine (quorumlaw6_num.calls t354 t357 _ A75.out).mono ?_); rintro e w' ⟨rfl, ⟨nd, rfl⟩⟩; refine ⟨_, rfl, ?_⟩) | (go_at_call 23; (with_reducible refine (quorumlaw6_num.calls t356 t358 _ A77.out).mono ?_); rintro e w' ⟨rfl, ⟨nd, rfl⟩⟩))
   go_meet
   case rel => exact ⟨_, (true), (by first | rfl | (simp; done) | (simp [*]; done)), H', ⟨by have := HK1.out; first | omega | exact Nat.le_refl _⟩, ⟨by (with_reducible repeat (first | apply Kd.S_alloc | apply Kd.S_drewN | apply Kd.S_drew)); exact HO_342000.out⟩, ⟨by (with_reducible repeat (first | apply Ra_ | apply Rn_ | apply Rd_)); exact HO_342002.out⟩, ⟨h_ BK326⟩, ⟨h_ BK341⟩, ⟨b_ HB⟩⟩
  rw [if_pos c79] at H
  have c79b0 : (t353 == (wrap64 (20 + t328))) = true := beq_iff_eq.mpr c79
  have c79b1 : (t353 != (wrap64 (20 + t328))) = false := bne_eq_false_iff_eq.mpr c79
  clear c79
  have H' := mk0 H
  clear H
  go_wp2_with (first | ((with_reducible refine gate_callee (f := 23) rfl ?_); refine gL_ (some 80) Tryd.func23 #[.int .i64 t354] (h := ?_); (with_reducible refine (quorumlaw6_num.calls t354 t357 _ A75.out).mono ?_); rintro e w' ⟨rfl, ⟨nd, rfl⟩⟩; refine ⟨_, rfl, ?_⟩) | (go_at_call 23; (with_reducible refine (quorumlaw6_num.calls t356 t358 _ A77.out).mono ?_); rintro e w' ⟨rfl, ⟨nd, rfl⟩⟩))
  go_meet
  case rel => exact ⟨_, (decide (t355 > 7)), (by first | rfl | (simp; done) | (simp [*]; done)), H', ⟨by have := HK1.out; first | omega | exact Nat.le_refl _⟩, ⟨by (with_reducible repeat (first | apply Kd.S_alloc | apply Kd.S_drewN | apply Kd.S_drew)); exact HO_342000.out⟩, ⟨by (with_reducible repeat (first | apply Ra_ | apply Rn_ | apply Rd_)); exact HO_342002.out⟩, ⟨h_ BK326⟩, ⟨h_ BK341⟩, ⟨b_ HB⟩⟩
 clear HC67
 try clear c3
 try clear c26
 try clear c26b0
 try clear c32
 try clear c76
 try clear c76b0
 try clear c76b1
 try clear c78
 try clear c78b0
 try clear c78b1
 try clear c79
 try clear c79b0
 try clear c79b1
 try clear hcz69_0 hcz69_1 hcz69_2 hfz69_0 hfz69_1 hfz69_2
 try clear hcz73_0 hcz73_1 hcz73_2 hfz73_0 hfz73_1 hfz73_2
 obtain ⟨kq, x95_66, rfl, HA, HJ66, HO_342000, HO_342002, BK326, BK341, HB⟩ := hcut
 cases kq with
 | zero => exact absurd HA.out (by simp [quorumlaw6_TreeMany.j2])
 | succ kj66 =>
 have H := HA.out
 clear HA
 simp only [quorumlaw6_TreeMany.j2] at H
 as_aux_lemma =>
 by_cases c80 : x95_66 = true
 ·subst c80
  rw [if_pos rfl] at H
  obtain rfl := Option.some.inj H
  go_wp2
  go_ret
  exact ⟨by first | rfl | (simp [errW_none, errW_some] <;> rfl) | (simp [*, errW_none, errW_some] <;> rfl), b_ HB⟩
 replace c80 := Bool.eq_false_iff.mpr c80
 subst c80
 rw [if_neg (show ¬ (false = true) by decide)] at H
 have H' := mk0 H
 clear H
 go_wp2
 go_loopg [14] kj66 (fun kq v14 w' => ∃ (x14_3 : Int), v14 = .int .i64 x14_3 ∧ Fc (quorumlaw6_TreeMany.l1 kq (wrap64 (20 + t328)) x14_3 x342000_1 x342001_1 x342002_1 = some r) ∧ Fc (kq ≤ kj66) ∧ Fc (Kd.S k85 85 w' w.heap.size (fun k_ => some k_ ≠ ((.slice Ao71 x342002_1.length co71) : Value).ownBlock) (.slice Ao70 x342000_1.length co70) x342000_1) ∧ Fc (Kd.R (Kd.int .i64) 3 w' w.heap.size (fun _ => True) (.slice Ao71 x342002_1.length co71) x342002_1) ∧ Fc (w'.heap[gb326]? = some (.cells #[(.slice A0_0 l0_0.length c0_0), .int .i64 a0_1, (.slice A0_2 l0_2.length c0_2), (.slice A0_3 l0_3.length c0_3)] 28 (0, 0))) ∧ Fc (w'.heap[gb341]? = some (.cells #[(.slice Ao70 x342000_1.length co70), .int .i64 x342001_1, (.slice Ao71 x342002_1.length co71)] 25 (0, 0))) ∧ Fc (Below w.heap.size w w'))
 case atStart => exact ⟨(0), (by first | rfl | (simp; done) | (simp [*]; done)), H', ⟨Nat.le_refl _⟩, ⟨by (with_reducible repeat (first | apply Kd.S_alloc | apply Kd.S_drewN | apply Kd.S_drew)); exact HO_342000.out⟩, ⟨by (with_reducible repeat (first | apply Ra_ | apply Rn_ | apply Rd_)); exact HO_342002.out⟩, ⟨h_ BK326⟩, ⟨h_ BK341⟩, ⟨b_ HB⟩⟩
 clear H'
 try clear c3
 try clear c26
 try clear c26b0
 try clear c32
 try clear c76
 try clear c76b0
 try clear c76b1
 try clear c78
 try clear c78b0
 try clear c78b1
 try clear c79
 try clear c79b0
 try clear c79b1
 try clear c80
 try clear hcz69_0 hcz69_1 hcz69_2 hfz69_0 hfz69_1 hfz69_2
 try clear hcz73_0 hcz73_1 hcz73_2 hfz73_0 hfz73_1 hfz73_2
 obtain ⟨x14_3, rfl, HA, HK3, HO_342000, HO_342002, BK326, BK341, HB⟩ := hrel
 cases gk with
 | zero => exact absurd HA.out (by simp [quorumlaw6_TreeMany.l1])
 | succ k3 =>
 have H := HA.out
 clear HA
 simp only [quorumlaw6_TreeMany.l1] at H
 as_aux_lemma =>
 by_cases c81 : x14_3 < (wrap64 (20 + t328))
 ·rw [if_pos c81] at H
  have c81b0 : decide (x14_3 < (wrap64 (20 + t328))) = true := decide_eq_true c81
  clear c81
  replace H := Option.bind_eq_some_iff.mp H
  obtain ⟨t359, A820, H⟩ := H
  try dsimp only at H
  have A82 := mk0 A820
  clear A820
  by_cases c83 : 1 + t359.size ≤ 9223372036854775807
  rotate_left
  ·rw [if_neg c83] at H
   exact absurd H (by simp)
  rw [if_pos c83] at H
  have c83b0 := eq_true c83
  have c83b1 : decide (1 + t359.size ≤ 9223372036854775807) = true := decide_eq_true c83
  try have c83b2 : (9223372036854775807 < 1 + t359.size) = False := eq_false (Nat.not_lt.2 c83)
  replace H := Option.bind_eq_some_iff.mp H
  obtain ⟨⟨t360, t361⟩, A840, H⟩ := H
  try dsimp only at H
  have A84 := mk0 A840
  clear A840
  have HC85 := mk0 H
  clear H
  try go_wp2
  replace HO_342000 := mk0 (Kd.S_drew HO_342000.out)
  replace HO_342002 := mk0 (Rd_ HO_342002.out)
  replace BK326 := mk0 (bD_ BK326.out)
  replace BK341 := mk0 (bD_ BK341.out)
  replace HB := mk0 (b1_ HB.out)
  refine start_ (n := 11) (S := fun w' => w'.cell? ⟨gb341, 0, none⟩ = some (.slice Ao70 x342000_1.length co70) ∧ w'.cell? ⟨gb341, 1, none⟩ = some (.int .i64 x342001_1) ∧ w'.cell? ⟨gb341, 2, none⟩ = some (.slice Ao71 x342002_1.length co71)) (ds := []) (bt 11 0) (by kernel_rfl) rfl rfl ⟨bk_ BK341 0, bk_ BK341 1, bk_ BK341 2⟩ (fun hHeld => ?_); refine with_tabW quorumlaw6_TreeMany.tab23 quorumlaw6_TreeMany.bits23 (fun HT_ HW_ => ?_)
  generalize wr.drew = w86 at HO_342000 HO_342002 BK326 BK341 HB hHeld ⊢
  refine pq_ HT_.out 1 103 (bt 11 2) (h := ?_)
  refine pq_ HT_.out 2 104 (bt 11 6) (h := ?_)
  refine tq3_ HT_.out HW_.out 0 102 (bt 11 7) hHeld (h := ?_)
  refine one_ (i := 3) (N := some 105) (bt 11 15) rfl rfl (one_of HT_.out (by kernel_rfl)) (by decide) (fun K hK => ?_)
  refine goes_ Tryd.func22 (by kernel_rfl) rfl #[.int .i64 (wrap64 (1000 + x14_3))] (by rfl) rfl rfl (by (try simp only [List.map_toArray, List.map_cons, List.map_nil]); first | done | rfl | (simp only [List.length_drop, List.length_take]; rfl)) ?_
  with_reducible refine (quorumlaw6_digits.calls k3 (wrap64 (1000 + x14_3)) t359 _ A82.out).mono ?_
  rintro e w87 ⟨rfl, hb⟩
  refine ⟨_, rfl, ?_⟩
  replace HO_342000 := mk0 (Kd.S_below (s_ HO_342000) hb)
  replace HO_342002 := mk0 (Kd.R_below (r_ HO_342002) hb)
  replace BK326 := mk0 (u_ BK326 hb)
  replace BK341 := mk0 (u_ BK341 hb)
  replace HB := mk0 (bt_ (b_ HB) hb)
  (try clear hb)
  (try clear hb2)
  (try clear hk)
  (try clear hi)
  refine hK.out _ _ ⟨bk_ BK341 0, bk_ BK341 1, bk_ BK341 2⟩ (fun hHeld => ?_)
  clear hK K
  refine norm_ (a' := ?_) ?_ ?_
  rotate_left
  ·show Act.put _ (some 105) _ = _
   simp only [z_]
   rfl
  refine pq_ HT_.out 4 106 (bt 11 31) (h := ?_)
  refine one_ (i := 5) (N := some 107) (bt 11 63) rfl rfl (one_of HT_.out (by kernel_rfl)) (by decide) (fun K hK => ?_)
  refine goes_ Tryd.func26 (by kernel_rfl) rfl #[.agg #[.slice Ao70 x342000_1.length co70, .int .i64 x342001_1, .slice Ao71 x342002_1.length co71], .string ((⟨#[107]⟩ : ByteArray) ++ t359)] (by rfl) rfl rfl (by (try simp only [List.map_toArray, List.map_cons, List.map_nil]); first | done | rfl | (simp only [List.length_drop, List.length_take]; rfl)) ?_
  with_reducible refine (tree_Find.calls k3 _ _ x342000_1 x342001_1 _ _ x342002_1 ((⟨#[107]⟩ : ByteArray) ++ t359) t360 t361 _ ?side1 ?side2 ?side3 ?side4 A84.out).mono ?_
  (case side1 => repeat (first | exact (Kd.S_reads' HO_342000.out).2.2 | (with_reducible refine Kd.C_alloc ?_ _) | (with_reducible refine Kd.C_drewN ?_ _) | (with_reducible refine Kd.C_drew ?_)))
  (case side2 => exact (Kd.S_reads' HO_342000.out).2.1)
  (case side3 => exact cr_ HO_342002)
  (case side4 => exact (Kd.R_reads' HO_342002.out).2.1)
  rintro e w88 ⟨rfl, hb⟩
  refine ⟨_, rfl, ?_⟩
  replace HO_342000 := mk0 (Kd.S_below (s_ HO_342000) hb)
  replace HO_342002 := mk0 (Kd.R_below (r_ HO_342002) hb)
  replace BK326 := mk0 (u_ BK326 hb)
  replace BK341 := mk0 (u_ BK341 hb)
  replace HB := mk0 (bt_ (b_ HB) hb)
  (try clear hb)
  (try clear hb2)
  (try clear hk)
  (try clear hi)
  refine hK.out _ _ ⟨bk_ BK341 0, bk_ BK341 1, bk_ BK341 2⟩ (fun hHeld => ?_)
  clear hK K
  refine norm_ (a' := ?_) ?_ ?_
  rotate_left
  ·show Act.put _ (some 107) _ = _
   simp only [z_]
   rfl
  refine pq_ HT_.out 6 101 (bt 11 127) (h := ?_)
  refine pq_ HT_.out 7 108 (bt 11 255) (h := ?_)
  refine pq_ HT_.out 8 109 (bt 11 511) (h := ?_)
  refine pq_ HT_.out 9 15 (bt 11 1023) (h := ?_)
  refine pq_ HT_.out 10 16 (bt 11 2047) (h := ?_)
  refine done_ (done_of HT_.out (by kernel_rfl)) ?_
  go_upto_region 24 with (fail)
  go_cut [117] (fun v117 wc => ∃ (kq : Nat) (x117_84 : Bool), v117 = .bool x117_84 ∧ Fc (quorumlaw6_TreeMany.j4 kq (wrap64 (20 + t328)) x14_3 x117_84 x342000_1 x342001_1 x342002_1 = some r) ∧ Fc (kq ≤ k3) ∧ Fc (Kd.S k85 85 wc w.heap.size (fun k_ => some k_ ≠ ((.slice Ao71 x342002_1.length co71) : Value).ownBlock) (.slice Ao70 x342000_1.length co70) x342000_1) ∧ Fc (Kd.R (Kd.int .i64) 3 wc w.heap.size (fun _ => True) (.slice Ao71 x342002_1.length co71) x342002_1) ∧ Fc (wc.heap[gb326]? = some (.cells #[(.slice A0_0 l0_0.length c0_0), .int .i64 a0_1, (.slice A0_2 l0_2.length c0_2), (.slice A0_3 l0_3.length c0_3)] 28 (0, 0))) ∧ Fc (wc.heap[gb341]? = some (.cells #[(.slice Ao70 x342000_1.length co70), .int .i64 x342001_1, (.slice Ao71 x342002_1.length co71)] 25 (0, 0))) ∧ Fc (Below w.heap.size w wc))
  case first =>
   have H := HC85.out
   clear HC85
   replace H := Option.bind_eq_some_iff.mp H
   obtain ⟨t362, A890, H⟩ := H
   try dsimp only at H
   have A89 := mk0 A890
   clear A890
   by_cases c90 : t362 = 0
   rotate_left
   ·rw [if_neg c90] at H
    have c90b0 : (t362 == 0) = false := beq_eq_false_iff_ne.mpr c90
    have c90b1 : (t362 != 0) = true := bne_iff_ne.mpr c90
    (first | rw [c90b0] | (simp only [i64_w, i32_w]; rw [c90b0]) | skip)
    have H' := mk0 H
    clear H
    go_wp2_with (first | ((with_reducible refine gate_callee (f := 23) rfl ?_); refine gL_ (some 111) Tryd.func23 #[.int .i64 t361] (h := ?_); (with_reducible refine (quorumlaw6_num.calls t361 t362 _ A89.out).mono ?_); rintro e w' ⟨rfl, ⟨nd, rfl⟩⟩; refine ⟨_, rfl, ?_⟩))
    go_meet
    case rel => exact ⟨_, (true), (by first | rfl | (simp; done) | (simp [*]; done)), H', ⟨by have := HK1.out; have := HJ66.out; have := HK3.out; first | omega | exact Nat.le_refl _⟩, ⟨by (with_reducible repeat (first | apply Kd.S_alloc | apply Kd.S_drewN | apply Kd.S_drew)); exact HO_342000.out⟩, ⟨by (with_reducible repeat (first | apply Ra_ | apply Rn_ | apply Rd_)); exact HO_342002.out⟩, ⟨h_ BK326⟩, ⟨h_ BK341⟩, ⟨b_ HB⟩⟩
   rw [if_pos c90] at H
   have c90b0 : (t362 == 0) = true := beq_iff_eq.mpr c90
   have c90b1 : (t362 != 0) = false := bne_eq_false_iff_eq.mpr c90
   clear c90
   (first | rw [c90b0] | (simp only [i64_w, i32_w]; rw [c90b0]) | skip)
   have H' := mk0 H
   clear H
   go_wp2_with (first | ((with_reducible refine gate_callee (f := 23) rfl ?_); refine gL_ (some 111) Tryd.func23 #[.int .i64 t361] (h := ?_); (with_reducible refine (quorumlaw6_num.calls t361 t362 _ A89.out).mono ?_); rintro e w' ⟨rfl, ⟨nd, rfl⟩⟩; refine ⟨_, rfl, ?_⟩))
   go_meet
   case rel => exact ⟨_, ((t360 != x14_3)), (by first | rfl | (simp; done) | (simp [*]; done)), H', ⟨by have := HK1.out; have := HJ66.out; have := HK3.out; first | omega | exact Nat.le_refl _⟩, ⟨by (with_reducible repeat (first | apply Kd.S_alloc | apply Kd.S_drewN | apply Kd.S_drew)); exact HO_342000.out⟩, ⟨by (with_reducible repeat (first | apply Ra_ | apply Rn_ | apply Rd_)); exact HO_342002.out⟩, ⟨h_ BK326⟩, ⟨h_ BK341⟩, ⟨b_ HB⟩⟩
  clear HC85
  try clear c3
  try clear c9
  try clear c26
  try clear c26b0
  try clear c32
  try clear c76
  try clear c76b0
  try clear c76b1
  try clear c78
  try clear c78b0
  try clear c78b1
  try clear c79
  try clear c79b0
  try clear c79b1
  try clear c80
  try clear c81
  try clear c81b0
  try clear c83
  try clear c83b0
  try clear c83b1
  try clear c83b2
  try clear c90
  try clear c90b0
  try clear c90b1
  try clear hcz69_0 hcz69_1 hcz69_2 hfz69_0 hfz69_1 hfz69_2
  try clear hcz73_0 hcz73_1 hcz73_2 hfz73_0 hfz73_1 hfz73_2
  obtain ⟨kq, x117_84, rfl, HA, HJ84, HO_342000, HO_342002, BK326, BK341, HB⟩ := hcut
  cases kq with
  | zero => exact absurd HA.out (by simp [quorumlaw6_TreeMany.j4])
  | succ kj84 =>
  have H := HA.out
  clear HA
  simp only [quorumlaw6_TreeMany.j4] at H
  as_aux_lemma =>
  by_cases c91 : x117_84 = true
  ·subst c91
   rw [if_pos rfl] at H
   obtain rfl := Option.some.inj H
   go_wp2
   go_ret
   exact ⟨by first | rfl | (simp [errW_none, errW_some] <;> rfl) | (simp [*, errW_none, errW_some] <;> rfl), b_ HB⟩
  replace c91 := Bool.eq_false_iff.mpr c91
  subst c91
  rw [if_neg (show ¬ (false = true) by decide)] at H
  have H' := mk0 H
  clear H
  go_wp2
  go_roundg kj84
  case measure => have := HK1.out; have := HJ66.out; have := HK3.out; have := HJ84.out; omega
  case rel => exact ⟨(wrap64 (x14_3 + 1)), (by first | rfl | (simp; done) | (simp [*]; done)), H', ⟨by have := HK1.out; have := HJ66.out; have := HK3.out; have := HJ84.out; omega⟩, ⟨by (with_reducible repeat (first | apply Kd.S_alloc | apply Kd.S_drewN | apply Kd.S_drew)); exact HO_342000.out⟩, ⟨by (with_reducible repeat (first | apply Ra_ | apply Rn_ | apply Rd_)); exact HO_342002.out⟩, ⟨h_ BK326⟩, ⟨h_ BK341⟩, ⟨b_ HB⟩⟩
 rw [if_neg c81] at H
 have c81b0 : decide (x14_3 < (wrap64 (20 + t328))) = false := decide_eq_false c81
 clear c81
 have H' := mk0 H
 clear H
 go_wp2
 go_loopg [17] k3 (fun kq v17 w' => ∃ (x17_4 : Int) (x342000_4 : List (S85)) (x342001_4 : Int) (x342002_4 : List Int) (u342000 : Value) (u342002 : Value), v17 = .int .i64 x17_4 ∧ Fc (quorumlaw6_TreeMany.l2 kq (wrap64 (20 + t328)) x17_4 x342000_4 x342001_4 x342002_4 = some r) ∧ Fc (kq ≤ k3) ∧ Fc (Kd.S k85 85 w' w.heap.size (fun k_ => some k_ ≠ (u342002 : Value).ownBlock) u342000 x342000_4) ∧ Fc (Kd.R (Kd.int .i64) 3 w' w.heap.size (fun _ => True) u342002 x342002_4) ∧ Fc (w'.heap[gb326]? = some (.cells #[(.slice A0_0 l0_0.length c0_0), .int .i64 a0_1, (.slice A0_2 l0_2.length c0_2), (.slice A0_3 l0_3.length c0_3)] 28 (0, 0))) ∧ Fc (w'.heap[gb341]? = some (.cells #[u342000, .int .i64 x342001_4, u342002] 25 (0, 0))) ∧ Fc (Below w.heap.size w w'))
 case atStart => exact ⟨(0), (x342000_1), (x342001_1), (x342002_1), (.slice Ao70 x342000_1.length co70), (.slice Ao71 x342002_1.length co71), (by first | rfl | (simp; done) | (simp [*]; done)), H', ⟨Nat.le_refl _⟩, ⟨by (with_reducible repeat (first | apply Kd.S_alloc | apply Kd.S_drewN | apply Kd.S_drew)); exact HO_342000.out⟩, ⟨by (with_reducible repeat (first | apply Ra_ | apply Rn_ | apply Rd_)); exact HO_342002.out⟩, ⟨h_ BK326⟩, ⟨h_ BK341⟩, ⟨b_ HB⟩⟩
 clear H'
 try clear c3
 try clear c9
 try clear c26
 try clear c26b0
 try clear c32
 try clear c76
 try clear c76b0
 try clear c76b1
 try clear c78
 try clear c78b0
 try clear c78b1
 try clear c79
 try clear c79b0
 try clear c79b1
 try clear c80
 try clear c81
 try clear c81b0
 try clear c83
 try clear c83b0
 try clear c83b1
 try clear c83b2
 try clear c90
 try clear c90b0
 try clear c90b1
 try clear c91
 try clear hcz69_0 hcz69_1 hcz69_2 hfz69_0 hfz69_1 hfz69_2
 try clear hcz73_0 hcz73_1 hcz73_2 hfz73_0 hfz73_1 hfz73_2
 obtain ⟨x17_4, x342000_4, x342001_4, x342002_4, u342000, u342002, rfl, HA, HK4, HO_342000, HO_342002, BK326, BK341, HB⟩ := hrel
 cases gk with
 | zero => exact absurd HA.out (by simp [quorumlaw6_TreeMany.l2])
 | succ k4 =>
 have H := HA.out
 clear HA
 simp only [quorumlaw6_TreeMany.l2] at H
 as_aux_lemma =>
 by_cases c92 : x17_4 < (wrap64 (20 + t328))
 rotate_left
 ·rw [if_neg c92] at H
  have c92b0 : decide (x17_4 < (wrap64 (20 + t328))) = false := decide_eq_false c92
  clear c92
  replace H := Option.bind_eq_some_iff.mp H
  obtain ⟨⟨t374, t377, t378⟩, A1290, H⟩ := H
  try dsimp only at H
  have A129 := mk0 A1290
  clear A1290
  by_cases c130 : t378 = true
  rotate_left
  ·replace c130 := Bool.eq_false_iff.mpr c130
   subst c130
   rw [if_neg (show ¬ (false = true) by decide)] at H
   obtain rfl := Option.some.inj H
   have hnb153 := NB341_326.out
   have hnc153 := NB326_341.out
   obtain ⟨hcz154_0, hcz154_1, hcz154_2, hfz154_0, hfz154_1, hfz154_2⟩ := c3_ BK341
   obtain ⟨Ao155, co155, eo155⟩ := Kd.S_slice HO_342000.out
   subst eo155
   obtain ⟨Ao156, co156, eo156⟩ := Kd.R_slice HO_342002.out
   subst eo156
   go_wp2_with (first | ((with_reducible refine gate_callee (f := 28) rfl ?_); refine gL_ (some 152) Tryd.func28 #[.agg #[.slice Ao155 x342000_4.length co155, .int .i64 x342001_4, .slice Ao156 x342002_4.length co156]] (h := ?_); (with_reducible refine (quorumref6_Tree.calls _ _ x342000_4 x342001_4 _ _ x342002_4 t374 t377 false _ ?side1 ?side2 ?side3 ?side4 A129.out).mono ?_); (case side1 => repeat (first | exact (Kd.S_reads' HO_342000.out).2.2 | (with_reducible refine Kd.C_alloc ?_ _) | (with_reducible refine Kd.C_drewN ?_ _) | (with_reducible refine Kd.C_drew ?_))); (case side2 => exact (Kd.S_reads' HO_342000.out).2.1); (case side3 => exact cr_ HO_342002); (case side4 => exact (Kd.R_reads' HO_342002.out).2.1); rintro e w157 ⟨v375, rfl, ho0, hb⟩; refine ⟨_, rfl, ?_⟩; have n2_ := mk0 (Kd.R_lower ho0 (bz_ (b_ HB))); replace HO_342000 := mk0 (Kd.S_below (s_ HO_342000) hb); replace HO_342002 := mk0 (Kd.R_below (r_ HO_342002) hb); replace BK326 := mk0 (u_ BK326 hb); replace BK341 := mk0 (u_ BK341 hb); replace HB := mk0 (bt_ (b_ HB) hb); have HO376 := n2_; clear n2_; (try clear hb); (try clear ho0)))
   go_ret
   exact ⟨by first | rfl | (simp [errW_none, errW_some] <;> rfl) | (simp [*, errW_none, errW_some] <;> rfl), b_ HB⟩
  subst c130
  rw [if_pos rfl] at H
  by_cases c131 : (t374.length : Int) = 0
  rotate_left
  ·rw [if_neg c131] at H
   have c131b0 : ((t374.length : Int) == 0) = false := beq_eq_false_iff_ne.mpr c131
   have c131b1 : ((t374.length : Int) != 0) = true := bne_iff_ne.mpr c131
   have c131b2 : ¬ (t374 = []) := fun h_ => c131 (by rw [h_]; rfl)
   obtain rfl := Option.some.inj H
   have hnb147 := NB341_326.out
   have hnc147 := NB326_341.out
   obtain ⟨hcz148_0, hcz148_1, hcz148_2, hfz148_0, hfz148_1, hfz148_2⟩ := c3_ BK341
   obtain ⟨Ao149, co149, eo149⟩ := Kd.S_slice HO_342000.out
   subst eo149
   obtain ⟨Ao150, co150, eo150⟩ := Kd.R_slice HO_342002.out
   subst eo150
   go_wp2_with (first | ((with_reducible refine gate_callee (f := 28) rfl ?_); refine gL_ (some 152) Tryd.func28 #[.agg #[.slice Ao149 x342000_4.length co149, .int .i64 x342001_4, .slice Ao150 x342002_4.length co150]] (h := ?_); (with_reducible refine (quorumref6_Tree.calls _ _ x342000_4 x342001_4 _ _ x342002_4 t374 t377 true _ ?side1 ?side2 ?side3 ?side4 A129.out).mono ?_); (case side1 => repeat (first | exact (Kd.S_reads' HO_342000.out).2.2 | (with_reducible refine Kd.C_alloc ?_ _) | (with_reducible refine Kd.C_drewN ?_ _) | (with_reducible refine Kd.C_drew ?_))); (case side2 => exact (Kd.S_reads' HO_342000.out).2.1); (case side3 => exact cr_ HO_342002); (case side4 => exact (Kd.R_reads' HO_342002.out).2.1); rintro e w151 ⟨v375, rfl, ho0, hb⟩; refine ⟨_, rfl, ?_⟩; have n2_ := mk0 (Kd.R_lower ho0 (bz_ (b_ HB))); replace HO_342000 := mk0 (Kd.S_below (s_ HO_342000) hb); replace HO_342002 := mk0 (Kd.R_below (r_ HO_342002) hb); replace BK326 := mk0 (u_ BK326 hb); replace BK341 := mk0 (u_ BK341 hb); replace HB := mk0 (bt_ (b_ HB) hb); have HO376 := n2_; clear n2_; (try clear hb); (try clear ho0); obtain ⟨Ao152, co152, eo152⟩ := Kd.R_slice HO376.out; subst eo152))
   go_ret
   exact ⟨by first | rfl | (simp [errW_none, errW_some] <;> rfl) | (simp [*, errW_none, errW_some] <;> rfl), b_ HB⟩
  rw [if_pos c131] at H
  have c131b0 : ((t374.length : Int) == 0) = true := beq_iff_eq.mpr c131
  have c131b1 : ((t374.length : Int) != 0) = false := bne_eq_false_iff_eq.mpr c131
  clear c131
  by_cases c132 : t377 = 1
  rotate_left
  ·rw [if_neg c132] at H
   have c132b0 : (t377 == 1) = false := beq_eq_false_iff_ne.mpr c132
   have c132b1 : (t377 != 1) = true := bne_iff_ne.mpr c132
   obtain rfl := Option.some.inj H
   have hnb141 := NB341_326.out
   have hnc141 := NB326_341.out
   obtain ⟨hcz142_0, hcz142_1, hcz142_2, hfz142_0, hfz142_1, hfz142_2⟩ := c3_ BK341
   obtain ⟨Ao143, co143, eo143⟩ := Kd.S_slice HO_342000.out
   subst eo143
   obtain ⟨Ao144, co144, eo144⟩ := Kd.R_slice HO_342002.out
   subst eo144
   go_wp2_with (first | ((with_reducible refine gate_callee (f := 28) rfl ?_); refine gL_ (some 152) Tryd.func28 #[.agg #[.slice Ao143 x342000_4.length co143, .int .i64 x342001_4, .slice Ao144 x342002_4.length co144]] (h := ?_); (with_reducible refine (quorumref6_Tree.calls _ _ x342000_4 x342001_4 _ _ x342002_4 t374 t377 true _ ?side1 ?side2 ?side3 ?side4 A129.out).mono ?_); (case side1 => repeat (first | exact (Kd.S_reads' HO_342000.out).2.2 | (with_reducible refine Kd.C_alloc ?_ _) | (with_reducible refine Kd.C_drewN ?_ _) | (with_reducible refine Kd.C_drew ?_))); (case side2 => exact (Kd.S_reads' HO_342000.out).2.1); (case side3 => exact cr_ HO_342002); (case side4 => exact (Kd.R_reads' HO_342002.out).2.1); rintro e w145 ⟨v375, rfl, ho0, hb⟩; refine ⟨_, rfl, ?_⟩; have n2_ := mk0 (Kd.R_lower ho0 (bz_ (b_ HB))); replace HO_342000 := mk0 (Kd.S_below (s_ HO_342000) hb); replace HO_342002 := mk0 (Kd.R_below (r_ HO_342002) hb); replace BK326 := mk0 (u_ BK326 hb); replace BK341 := mk0 (u_ BK341 hb); replace HB := mk0 (bt_ (b_ HB) hb); have HO376 := n2_; clear n2_; (try clear hb); (try clear ho0); obtain ⟨Ao146, co146, eo146⟩ := Kd.R_slice HO376.out; subst eo146))
   go_ret
   exact ⟨by first | rfl | (simp [errW_none, errW_some] <;> rfl) | (simp [*, errW_none, errW_some] <;> rfl), b_ HB⟩
  rw [if_pos c132] at H
  have c132b0 : (t377 == 1) = true := beq_iff_eq.mpr c132
  have c132b1 : (t377 != 1) = false := bne_eq_false_iff_eq.mpr c132
  clear c132
  replace H := Option.bind_eq_some_iff.mp H
  obtain ⟨t379, A1330, H⟩ := H
  try dsimp only at H
  have A133 := mk0 A1330
  clear A1330
  obtain rfl := Option.some.inj H
  have hnb134 := NB341_326.out
  have hnc134 := NB326_341.out
  obtain ⟨hcz135_0, hcz135_1, hcz135_2, hfz135_0, hfz135_1, hfz135_2⟩ := c3_ BK341
  obtain ⟨Ao136, co136, eo136⟩ := Kd.S_slice HO_342000.out
  subst eo136
  obtain ⟨Ao137, co137, eo137⟩ := Kd.R_slice HO_342002.out
  subst eo137
  go_wp2_with (first | ((with_reducible refine gate_callee (f := 28) rfl ?_); refine gL_ (some 152) Tryd.func28 #[.agg #[.slice Ao136 x342000_4.length co136, .int .i64 x342001_4, .slice Ao137 x342002_4.length co137]] (h := ?_); (with_reducible refine (quorumref6_Tree.calls _ _ x342000_4 x342001_4 _ _ x342002_4 t374 t377 true _ ?side1 ?side2 ?side3 ?side4 A129.out).mono ?_); (case side1 => repeat (first | exact (Kd.S_reads' HO_342000.out).2.2 | (with_reducible refine Kd.C_alloc ?_ _) | (with_reducible refine Kd.C_drewN ?_ _) | (with_reducible refine Kd.C_drew ?_))); (case side2 => exact (Kd.S_reads' HO_342000.out).2.1); (case side3 => exact cr_ HO_342002); (case side4 => exact (Kd.R_reads' HO_342002.out).2.1); rintro e w138 ⟨v375, rfl, ho0, hb⟩; refine ⟨_, rfl, ?_⟩; have n2_ := mk0 (Kd.R_lower ho0 (bz_ (b_ HB))); replace HO_342000 := mk0 (Kd.S_below (s_ HO_342000) hb); replace HO_342002 := mk0 (Kd.R_below (r_ HO_342002) hb); replace BK326 := mk0 (u_ BK326 hb); replace BK341 := mk0 (u_ BK341 hb); replace HB := mk0 (bt_ (b_ HB) hb); have HO376 := n2_; clear n2_; (try clear hb); (try clear ho0); obtain ⟨Ao139, co139, eo139⟩ := Kd.R_slice HO376.out; subst eo139) | (go_at_call 29; (with_reducible refine (quorumlaw6_wakes.calls k4  t379 _ A133.out).mono ?_); rintro e w140 ⟨rfl, hb⟩; replace HO_342000 := mk0 (Kd.S_below (s_ HO_342000) hb); replace HO_342002 := mk0 (Kd.R_below (r_ HO_342002) hb); replace HO376 := mk0 (Kd.R_below (r_ HO376) hb); replace BK326 := mk0 (u_ BK326 hb); replace BK341 := mk0 (u_ BK341 hb); replace HB := mk0 (bt_ (b_ HB) hb); (try clear hb)))
  go_ret
  exact ⟨by first | rfl | (simp [errW_none, errW_some] <;> rfl) | (simp [*, errW_none, errW_some] <;> rfl), b_ HB⟩
 rw [if_pos c92] at H
 have c92b0 : decide (x17_4 < (wrap64 (20 + t328))) = true := decide_eq_true c92
 clear c92
 have HC93 := mk0 H
 clear H
 go_upto_if 129 with (fail)
 go_cut [18] (fun v18 wc => ∃ (kq : Nat) (x18_92 : Int), v18 = .int .i64 x18_92 ∧ Fc (quorumlaw6_TreeMany.j6 kq (wrap64 (20 + t328)) x17_4 x18_92 x342000_4 x342001_4 x342002_4 = some r) ∧ Fc (kq ≤ k4) ∧ Fc (Kd.S k85 85 wc w.heap.size (fun k_ => some k_ ≠ (u342002 : Value).ownBlock) u342000 x342000_4) ∧ Fc (Kd.R (Kd.int .i64) 3 wc w.heap.size (fun _ => True) u342002 x342002_4) ∧ Fc (wc.heap[gb326]? = some (.cells #[(.slice A0_0 l0_0.length c0_0), .int .i64 a0_1, (.slice A0_2 l0_2.length c0_2), (.slice A0_3 l0_3.length c0_3)] 28 (0, 0))) ∧ Fc (wc.heap[gb341]? = some (.cells #[u342000, .int .i64 x342001_4, u342002] 25 (0, 0))) ∧ Fc (Below w.heap.size w wc))
 case first =>
  have H := HC93.out
  clear HC93
  by_cases c94 : (Int.tmod x17_4 2) = 0
  rotate_left
  ·rw [if_neg c94] at H
   have c94b0 : ((Int.tmod x17_4 2) == 0) = false := beq_eq_false_iff_ne.mpr c94
   have c94b1 : ((Int.tmod x17_4 2) != 0) = true := bne_iff_ne.mpr c94
   (first | rw [c94b0] | (simp only [i64_w, i32_w]; rw [c94b0]) | skip)
   have H' := mk0 H
   clear H
   go_wp2
   go_meet
   case rel => exact ⟨_, (wrap64 ((wrap64 ((wrap64 (20 + t328)) - 1)) - (wrap64 (Int.tdiv x17_4 2)))), (by first | rfl | (simp; done) | (simp [*]; done)), H', ⟨by have := HK1.out; have := HJ66.out; have := HK3.out; have := HK4.out; first | omega | exact Nat.le_refl _⟩, ⟨by (with_reducible repeat (first | apply Kd.S_alloc | apply Kd.S_drewN | apply Kd.S_drew)); exact HO_342000.out⟩, ⟨by (with_reducible repeat (first | apply Ra_ | apply Rn_ | apply Rd_)); exact HO_342002.out⟩, ⟨h_ BK326⟩, ⟨h_ BK341⟩, ⟨b_ HB⟩⟩
  rw [if_pos c94] at H
  have c94b0 : ((Int.tmod x17_4 2) == 0) = true := beq_iff_eq.mpr c94
  have c94b1 : ((Int.tmod x17_4 2) != 0) = false := bne_eq_false_iff_eq.mpr c94
  clear c94
  (first | rw [c94b0] | (simp only [i64_w, i32_w]; rw [c94b0]) | skip)
  have H' := mk0 H
  clear H
  go_wp2
  go_meet
  case rel => exact ⟨_, (wrap64 (Int.tdiv x17_4 2)), (by first | rfl | (simp; done) | (simp [*]; done)), H', ⟨by have := HK1.out; have := HJ66.out; have := HK3.out; have := HK4.out; first | omega | exact Nat.le_refl _⟩, ⟨by (with_reducible repeat (first | apply Kd.S_alloc | apply Kd.S_drewN | apply Kd.S_drew)); exact HO_342000.out⟩, ⟨by (with_reducible repeat (first | apply Ra_ | apply Rn_ | apply Rd_)); exact HO_342002.out⟩, ⟨h_ BK326⟩, ⟨h_ BK341⟩, ⟨b_ HB⟩⟩
 clear HC93
 try clear c3
 try clear c9
 try clear c26
 try clear c26b0
 try clear c32
 try clear c76
 try clear c76b0
 try clear c76b1
 try clear c78
 try clear c78b0
 try clear c78b1
 try clear c79
 try clear c79b0
 try clear c79b1
 try clear c80
 try clear c81
 try clear c81b0
 try clear c83
 try clear c83b0
 try clear c83b1
 try clear c83b2
 try clear c90
 try clear c90b0
 try clear c90b1
 try clear c91
 try clear c92
 try clear c92b0
 try clear c94
 try clear c94b0
 try clear c94b1
 try clear hcz69_0 hcz69_1 hcz69_2 hfz69_0 hfz69_1 hfz69_2
 try clear hcz73_0 hcz73_1 hcz73_2 hfz73_0 hfz73_1 hfz73_2
 obtain ⟨kq, x18_92, rfl, HA, HJ92, HO_342000, HO_342002, BK326, BK341, HB⟩ := hcut
 cases kq with
 | zero => exact absurd HA.out (by simp [quorumlaw6_TreeMany.j6])
 | succ kj92 =>
 have H := HA.out
 clear HA
 simp only [quorumlaw6_TreeMany.j6] at H
 as_aux_lemma =>
 replace H := Option.bind_eq_some_iff.mp H
 obtain ⟨t363, A950, H⟩ := H
 try dsimp only at H
 have A95 := mk0 A950
 clear A950
 by_cases c96 : 1 + t363.size ≤ 9223372036854775807
 rotate_left
 ·rw [if_neg c96] at H
  exact absurd H (by simp)
 rw [if_pos c96] at H
 have c96b0 := eq_true c96
 have c96b1 : decide (1 + t363.size ≤ 9223372036854775807) = true := decide_eq_true c96
 try have c96b2 : (9223372036854775807 < 1 + t363.size) = False := eq_false (Nat.not_lt.2 c96)
 replace H := Option.bind_eq_some_iff.mp H
 obtain ⟨⟨t364, t367, t368, t371⟩, A970, H⟩ := H
 try dsimp only at H
 have A97 := mk0 A970
 clear A970
 replace H := Option.bind_eq_some_iff.mp H
 obtain ⟨t373, A980, H⟩ := H
 try dsimp only at H
 have A98 := mk0 A980
 clear A980
 by_cases c99 : t373 = 0
 rotate_left
 ·rw [if_neg c99] at H
  have c99b0 : (t373 == 0) = false := beq_eq_false_iff_ne.mpr c99
  have c99b1 : (t373 != 0) = true := bne_iff_ne.mpr c99
  obtain rfl := Option.some.inj H
  obtain ⟨Ao117, co117, eo117⟩ := Kd.S_slice HO_342000.out
  subst eo117
  obtain ⟨Ao118, co118, eo118⟩ := Kd.R_slice HO_342002.out
  subst eo118
  try go_wp2
  replace HO_342000 := mk0 (Kd.S_drew HO_342000.out)
  replace HO_342002 := mk0 (Rd_ HO_342002.out)
  replace BK326 := mk0 (bD_ BK326.out)
  replace BK341 := mk0 (bD_ BK341.out)
  replace HB := mk0 (b1_ HB.out)
  refine start_ (n := 12) (S := fun w' => w'.cell? ⟨gb341, 0, none⟩ = some (.slice Ao117 x342000_4.length co117) ∧ w'.cell? ⟨gb341, 1, none⟩ = some (.int .i64 x342001_4) ∧ w'.cell? ⟨gb341, 2, none⟩ = some (.slice Ao118 x342002_4.length co118)) (ds := []) (bt 12 0) (by kernel_rfl) rfl rfl ⟨bk_ BK341 0, bk_ BK341 1, bk_ BK341 2⟩ (fun hHeld => ?_); refine with_tabW quorumlaw6_TreeMany.tab33 quorumlaw6_TreeMany.bits33 (fun HT_ HW_ => ?_)
  generalize wc.drew = w119 at HO_342000 HO_342002 BK326 BK341 HB hHeld ⊢
  refine pq_ HT_.out 1 139 (bt 12 2) (h := ?_)
  refine pq_ HT_.out 2 140 (bt 12 6) (h := ?_)
  refine tq3_ HT_.out HW_.out 0 138 (bt 12 7) hHeld (h := ?_)
  refine join_ (σ := Value × Value × Nat) 2 (bt 12 1023) (fun s_ => [(141, .string t363), (143, .tuple #[.agg #[s_.1, .int .i64 t367, s_.2.1], .int .i64 t371]), (19, .pointer (some ⟨s_.2.2, 0, none⟩)), (142, .string ((⟨#[107]⟩ : ByteArray) ++ t363)), (137, .tuple #[.agg #[s_.1, .int .i64 t367, s_.2.1], .int .i64 t371]), (144, .agg #[s_.1, .int .i64 t367, s_.2.1]), (145, .int .i64 t371)]) (fun s_ w' => (w'.cell? ⟨gb341, 0, none⟩ = some (.slice Ao117 x342000_4.length co117) ∧ w'.cell? ⟨gb341, 1, none⟩ = some (.int .i64 x342001_4) ∧ w'.cell? ⟨gb341, 2, none⟩ = some (.slice Ao118 x342002_4.length co118)) ∧ (Kd.S k85 85 w' w.heap.size (fun k_ => some k_ ≠ (s_.2.1 : Value).ownBlock ∧ some k_ ≠ (.slice Ao117 x342000_4.length co117 : Value).ownBlock ∧ some k_ ≠ (.slice Ao118 x342002_4.length co118 : Value).ownBlock) s_.1 t364) ∧ (Kd.R (Kd.int .i64) 3 w' w.heap.size (fun k_ => some k_ ≠ (.slice Ao118 x342002_4.length co118 : Value).ownBlock) s_.2.1 t368) ∧ (Kd.S k85 85 w' w.heap.size (fun k_ => some k_ ≠ (s_.1 : Value).ownBlock ∧ some k_ ≠ (s_.2.1 : Value).ownBlock ∧ some k_ ≠ (.slice Ao118 x342002_4.length co118 : Value).ownBlock) (.slice Ao117 x342000_4.length co117) x342000_4) ∧ (Kd.R (Kd.int .i64) 3 w' w.heap.size (fun k_ => some k_ ≠ (s_.2.1 : Value).ownBlock) (.slice Ao118 x342002_4.length co118) x342002_4) ∧ (w'.heap[gb326]? = some (.cells #[.slice A0_0 l0_0.length c0_0, .int .i64 a0_1, .slice A0_2 l0_2.length c0_2, .slice A0_3 l0_3.length c0_3] 28 (0, 0))) ∧ (w'.heap[gb341]? = some (.cells #[.slice Ao117 x342000_4.length co117, .int .i64 x342001_4, .slice Ao118 x342002_4.length co118] 25 (0, 0))) ∧ (w'.heap[s_.2.2]? = some (.cells #[.slice none 0 0, .int .i64 0, .slice none 0 0] 25 (0, 0))) ∧ (w.heap.size ≤ s_.2.2) ∧ (w.heap.size ≤ s_.2.2) ∧ (gb326 ≠ s_.2.2) ∧ (s_.2.2 ≠ gb326) ∧ (gb341 ≠ s_.2.2) ∧ (s_.2.2 ≠ gb341) ∧ (Below w.heap.size w w')) ?_ ?_
  rotate_left
  ·intro hCont
   refine two_ (i := 3) (j := 9) (Ni := some 141) (Nj := some 19) (bt 12 15) (bt 12 519) rfl rfl rfl rfl (two_of HT_.out (by kernel_rfl)) (by decide) (by decide) (fun K hK => ?_) (fun K hK => ?_)
   ·skip
    refine goes_ Tryd.func22 (by kernel_rfl) rfl #[.int .i64 (wrap64 (1000 + x18_92))] (by rfl) rfl rfl (by (try simp only [List.map_toArray, List.map_cons, List.map_nil]); first | done | rfl | (simp only [List.length_drop, List.length_take]; rfl)) ?_
    with_reducible refine (quorumlaw6_digits.calls kj92 (wrap64 (1000 + x18_92)) t363 _ A95.out).mono ?_
    rintro e w120 ⟨rfl, hb⟩
    refine ⟨_, rfl, ?_⟩
    replace HO_342000 := mk0 (Kd.S_below (s_ HO_342000) hb)
    replace HO_342002 := mk0 (Kd.R_below (r_ HO_342002) hb)
    replace BK326 := mk0 (u_ BK326 hb)
    replace BK341 := mk0 (u_ BK341 hb)
    replace HB := mk0 (bt_ (b_ HB) hb)
    (try clear hb)
    (try clear hb2)
    (try clear hk)
    (try clear hi)
    refine hK.out _ _ ⟨bk_ BK341 0, bk_ BK341 1, bk_ BK341 2⟩ (fun hHeld => ?_)
    clear hK K
    refine norm_ (a' := ?_) ?_ ?_
    rotate_left
    ·show Act.put _ (some 141) _ = _
     simp only [z_]
     rfl
    refine pq_ HT_.out 4 142 (bt 12 31) (h := ?_)
    refine two_ (i := 5) (j := 9) (Ni := some 143) (Nj := some 19) (bt 12 63) (bt 12 543) rfl rfl rfl rfl (two_of HT_.out (by kernel_rfl)) (by decide) (by decide) (fun K hK => ?_) (fun K hK => ?_)
    ·skip
     refine goes_ Tryd.func27 (by kernel_rfl) rfl #[.agg #[.slice Ao117 x342000_4.length co117, .int .i64 x342001_4, .slice Ao118 x342002_4.length co118], .string ((⟨#[107]⟩ : ByteArray) ++ t363)] (by rfl) rfl rfl (by (try simp only [List.map_toArray, List.map_cons, List.map_nil]); first | done | rfl | (simp only [List.length_drop, List.length_take]; rfl)) ?_
     with_reducible refine (tree_Cut.calls kj92 _ _ x342000_4 x342001_4 _ _ x342002_4 ((⟨#[107]⟩ : ByteArray) ++ t363) t364 t367 t368 t371 _ ?side1 ?side2 ?side3 ?side4 A97.out).mono ?_
     (case side1 => repeat (first | exact (Kd.S_reads' HO_342000.out).2.2 | (with_reducible refine Kd.C_alloc ?_ _) | (with_reducible refine Kd.C_drewN ?_ _) | (with_reducible refine Kd.C_drew ?_)))
     (case side2 => exact (Kd.S_reads' HO_342000.out).2.1)
     (case side3 => exact cr_ HO_342002)
     (case side4 => exact (Kd.R_reads' HO_342002.out).2.1)
     rintro e w121 ⟨v365, v369, rfl, ho0, ho1, hb⟩
     refine ⟨_, rfl, ?_⟩
     have n2_ := mk0 (Kd.S_lower (Kd.S_new' (Kd.S_new' ho0 (Kd.S_lt (s_ HO_342000))) (Kd.R_lt (r_ HO_342002))) (bz_ (b_ HB)))
     have n3_ := mk0 (Kd.R_lower (Kd.R_new' ho1 (Kd.R_lt (r_ HO_342002))) (bz_ (b_ HB)))
     replace HO_342000 := mk0 (Kd.S_mono (Kd.S_told (Kd.S_told (Kd.S_old (s_ HO_342000) hb) (Kd.S_base ho0)) (Kd.R_base ho1)) (fun _ h_ => h_.1))
     replace HO_342002 := mk0 (Kd.R_elder' (r_ HO_342002) (Kd.R_base ho1) hb)
     replace BK326 := mk0 (u_ BK326 hb)
     replace BK341 := mk0 (u_ BK341 hb)
     replace HB := mk0 (bt_ (b_ HB) hb)
     have HO366 := n2_
     have HO370 := n3_
     clear n2_ n3_
     (try clear hb)
     (try clear hb2)
     (try clear hk)
     (try clear hi)
     (try clear ho0)
     (try clear ho1)
     refine hK.out _ _ ⟨bk_ BK341 0, bk_ BK341 1, bk_ BK341 2⟩ (fun hHeld => ?_)
     clear hK K
     refine norm_ (a' := ?_) ?_ ?_
     rotate_left
     ·show Act.put _ (some 143) _ = _
      simp only [z_]
      rfl
     refine pq_ HT_.out 6 137 (bt 12 127) (h := ?_)
     refine pq_ HT_.out 7 144 (bt 12 255) (h := ?_)
     refine pq_ HT_.out 8 145 (bt 12 511) (h := ?_)
     refine one_ (i := 9) (N := some 19) (bt 12 1023) rfl rfl (one_of HT_.out (by kernel_rfl)) (by decide) (fun K hK => ?_)
     refine box_step ?hg (N := 19) ?hd (cs := #[.slice none 0 0, .int .i64 0, .slice none 0 0]) (t := 25) ?hr ?_; (case hd => rfl); (case hg => rfl); (case hr => first | (go_simp; done) | (go_simp; rfl))
     intro gb372 hg w122 hbox hb
     have n8_ := mk0 (gz_ HB hg)
     have n9_ := mk0 (gz_ HB hg)
     have n10_ := mk0 (ne1_ BK326 hg)
     have n11_ := mk0 (ne2_ BK326 hg)
     have n12_ := mk0 (ne1_ BK341 hg)
     have n13_ := mk0 (ne2_ BK341 hg)
     replace HO_342000 := mk0 (Kd.S_below (s_ HO_342000) hb)
     replace HO_342002 := mk0 (Kd.R_below (r_ HO_342002) hb)
     replace HO366 := mk0 (Kd.S_below (s_ HO366) hb)
     replace HO370 := mk0 (Kd.R_below (r_ HO370) hb)
     replace BK326 := mk0 (u_ BK326 hb)
     replace BK341 := mk0 (u_ BK341 hb)
     replace HB := mk0 (bt_ (b_ HB) hb)
     have BK372 := mk0 (hbox)
     have GW372 := n8_
     have GE372 := n9_
     have NB326_372 := n10_
     have NB372_326 := n11_
     have NB341_372 := n12_
     have NB372_341 := n13_
     clear n8_ n9_ n10_ n11_ n12_ n13_ hb hbox hg
     refine hK.out _ _ ⟨bk_ BK341 0, bk_ BK341 1, bk_ BK341 2⟩ (fun hHeld => ?_)
     clear hK K
     refine norm_ (a' := ?_) ?_ ?_
     rotate_left
     ·show Act.put _ (some 19) _ = _
      simp only [z_]
      rfl
     exact norm_ (by simp only [putAll, Act.put, List.setIfInBounds_toArray, List.set_cons_zero, List.set_cons_succ]) (hCont (v365, v369, gb372) _ ⟨hHeld, (s2_ (Kd.S_mono HO366.out (fun _ hk => ⟨hk.1.1, ⟨hk.1.2, hk.2⟩⟩))), (r2_ (Kd.R_mono HO370.out (fun _ hk => hk.2))), (s2_ (Kd.S_mono HO_342000.out (fun _ hk => ⟨hk.1.2, ⟨hk.2, hk.1.1⟩⟩))), (r2_ (Kd.R_mono HO_342002.out (fun _ hk => hk.2))), (h_ BK326), (h_ BK341), (h_ BK372), GW372.out, GE372.out, NB326_372.out, NB372_326.out, NB341_372.out, NB372_341.out, (b_ HB)⟩)
    ·skip
     refine box_step ?hg (N := 19) ?hd (cs := #[.slice none 0 0, .int .i64 0, .slice none 0 0]) (t := 25) ?hr ?_; (case hd => rfl); (case hg => rfl); (case hr => first | (go_simp; done) | (go_simp; rfl))
     intro gb372 hg w121 hbox hb
     have n6_ := mk0 (gz_ HB hg)
     have n7_ := mk0 (gz_ HB hg)
     have n8_ := mk0 (ne1_ BK326 hg)
     have n9_ := mk0 (ne2_ BK326 hg)
     have n10_ := mk0 (ne1_ BK341 hg)
     have n11_ := mk0 (ne2_ BK341 hg)
     replace HO_342000 := mk0 (Kd.S_below (s_ HO_342000) hb)
     replace HO_342002 := mk0 (Kd.R_below (r_ HO_342002) hb)
     replace BK326 := mk0 (u_ BK326 hb)
     replace BK341 := mk0 (u_ BK341 hb)
     replace HB := mk0 (bt_ (b_ HB) hb)
     have BK372 := mk0 (hbox)
     have GW372 := n6_
     have GE372 := n7_
     have NB326_372 := n8_
     have NB372_326 := n9_
     have NB341_372 := n10_
     have NB372_341 := n11_
     clear n6_ n7_ n8_ n9_ n10_ n11_ hb hbox hg
     refine hK.out _ _ ⟨bk_ BK341 0, bk_ BK341 1, bk_ BK341 2⟩ (fun hHeld => ?_)
     clear hK K
     refine norm_ (a' := ?_) ?_ ?_
     rotate_left
     ·show Act.put _ (some 19) _ = _
      simp only [z_]
      rfl
     refine one_ (i := 5) (N := some 143) (bt 12 575) rfl rfl (one_of HT_.out (by kernel_rfl)) (by decide) (fun K hK => ?_)
     refine goes_ Tryd.func27 (by kernel_rfl) rfl #[.agg #[.slice Ao117 x342000_4.length co117, .int .i64 x342001_4, .slice Ao118 x342002_4.length co118], .string ((⟨#[107]⟩ : ByteArray) ++ t363)] (by rfl) rfl rfl (by (try simp only [List.map_toArray, List.map_cons, List.map_nil]); first | done | rfl | (simp only [List.length_drop, List.length_take]; rfl)) ?_
     with_reducible refine (tree_Cut.calls kj92 _ _ x342000_4 x342001_4 _ _ x342002_4 ((⟨#[107]⟩ : ByteArray) ++ t363) t364 t367 t368 t371 _ ?side1 ?side2 ?side3 ?side4 A97.out).mono ?_
     (case side1 => repeat (first | exact (Kd.S_reads' HO_342000.out).2.2 | (with_reducible refine Kd.C_alloc ?_ _) | (with_reducible refine Kd.C_drewN ?_ _) | (with_reducible refine Kd.C_drew ?_)))
     (case side2 => exact (Kd.S_reads' HO_342000.out).2.1)
     (case side3 => exact cr_ HO_342002)
     (case side4 => exact (Kd.R_reads' HO_342002.out).2.1)
     rintro e w122 ⟨v365, v369, rfl, ho0, ho1, hb⟩
     refine ⟨_, rfl, ?_⟩
     have n2_ := mk0 (Kd.S_lower (Kd.S_new' (Kd.S_new' ho0 (Kd.S_lt (s_ HO_342000))) (Kd.R_lt (r_ HO_342002))) (bz_ (b_ HB)))
     have n3_ := mk0 (Kd.R_lower (Kd.R_new' ho1 (Kd.R_lt (r_ HO_342002))) (bz_ (b_ HB)))
     replace HO_342000 := mk0 (Kd.S_mono (Kd.S_told (Kd.S_told (Kd.S_old (s_ HO_342000) hb) (Kd.S_base ho0)) (Kd.R_base ho1)) (fun _ h_ => h_.1))
     replace HO_342002 := mk0 (Kd.R_elder' (r_ HO_342002) (Kd.R_base ho1) hb)
     replace BK326 := mk0 (u_ BK326 hb)
     replace BK341 := mk0 (u_ BK341 hb)
     replace BK372 := mk0 (u_ BK372 hb)
     replace HB := mk0 (bt_ (b_ HB) hb)
     have HO366 := n2_
     have HO370 := n3_
     clear n2_ n3_
     (try clear hb)
     (try clear hb2)
     (try clear hk)
     (try clear hi)
     (try clear ho0)
     (try clear ho1)
     refine hK.out _ _ ⟨bk_ BK341 0, bk_ BK341 1, bk_ BK341 2⟩ (fun hHeld => ?_)
     clear hK K
     refine norm_ (a' := ?_) ?_ ?_
     rotate_left
     ·show Act.put _ (some 143) _ = _
      simp only [z_]
      rfl
     refine pq_ HT_.out 6 137 (bt 12 639) (h := ?_)
     refine pq_ HT_.out 7 144 (bt 12 767) (h := ?_)
     refine pq_ HT_.out 8 145 (bt 12 1023) (h := ?_)
     exact norm_ (by simp only [putAll, Act.put, List.setIfInBounds_toArray, List.set_cons_zero, List.set_cons_succ]) (hCont (v365, v369, gb372) _ ⟨hHeld, (s2_ (Kd.S_mono HO366.out (fun _ hk => ⟨hk.1.1, ⟨hk.1.2, hk.2⟩⟩))), (r2_ (Kd.R_mono HO370.out (fun _ hk => hk.2))), (s2_ (Kd.S_mono HO_342000.out (fun _ hk => ⟨hk.1.2, ⟨hk.2, hk.1.1⟩⟩))), (r2_ (Kd.R_mono HO_342002.out (fun _ hk => hk.2))), (h_ BK326), (h_ BK341), (h_ BK372), GW372.out, GE372.out, NB326_372.out, NB372_326.out, NB341_372.out, NB372_341.out, (b_ HB)⟩)
   ·skip
    refine box_step ?hg (N := 19) ?hd (cs := #[.slice none 0 0, .int .i64 0, .slice none 0 0]) (t := 25) ?hr ?_; (case hd => rfl); (case hg => rfl); (case hr => first | (go_simp; done) | (go_simp; rfl))
    intro gb372 hg w120 hbox hb
    have n6_ := mk0 (gz_ HB hg)
    have n7_ := mk0 (gz_ HB hg)
    have n8_ := mk0 (ne1_ BK326 hg)
    have n9_ := mk0 (ne2_ BK326 hg)
    have n10_ := mk0 (ne1_ BK341 hg)
    have n11_ := mk0 (ne2_ BK341 hg)
    replace HO_342000 := mk0 (Kd.S_below (s_ HO_342000) hb)
    replace HO_342002 := mk0 (Kd.R_below (r_ HO_342002) hb)
    replace BK326 := mk0 (u_ BK326 hb)
    replace BK341 := mk0 (u_ BK341 hb)
    replace HB := mk0 (bt_ (b_ HB) hb)
    have BK372 := mk0 (hbox)
    have GW372 := n6_
    have GE372 := n7_
    have NB326_372 := n8_
    have NB372_326 := n9_
    have NB341_372 := n10_
    have NB372_341 := n11_
    clear n6_ n7_ n8_ n9_ n10_ n11_ hb hbox hg
    refine hK.out _ _ ⟨bk_ BK341 0, bk_ BK341 1, bk_ BK341 2⟩ (fun hHeld => ?_)
    clear hK K
    refine norm_ (a' := ?_) ?_ ?_
    rotate_left
    ·show Act.put _ (some 19) _ = _
     simp only [z_]
     rfl
    refine one_ (i := 3) (N := some 141) (bt 12 527) rfl rfl (one_of HT_.out (by kernel_rfl)) (by decide) (fun K hK => ?_)
    refine goes_ Tryd.func22 (by kernel_rfl) rfl #[.int .i64 (wrap64 (1000 + x18_92))] (by rfl) rfl rfl (by (try simp only [List.map_toArray, List.map_cons, List.map_nil]); first | done | rfl | (simp only [List.length_drop, List.length_take]; rfl)) ?_
    with_reducible refine (quorumlaw6_digits.calls kj92 (wrap64 (1000 + x18_92)) t363 _ A95.out).mono ?_
    rintro e w121 ⟨rfl, hb⟩
    refine ⟨_, rfl, ?_⟩
    replace HO_342000 := mk0 (Kd.S_below (s_ HO_342000) hb)
    replace HO_342002 := mk0 (Kd.R_below (r_ HO_342002) hb)
    replace BK326 := mk0 (u_ BK326 hb)
    replace BK341 := mk0 (u_ BK341 hb)
    replace BK372 := mk0 (u_ BK372 hb)
    replace HB := mk0 (bt_ (b_ HB) hb)
    (try clear hb)
    (try clear hb2)
    (try clear hk)
    (try clear hi)
    refine hK.out _ _ ⟨bk_ BK341 0, bk_ BK341 1, bk_ BK341 2⟩ (fun hHeld => ?_)
    clear hK K
    refine norm_ (a' := ?_) ?_ ?_
    rotate_left
    ·show Act.put _ (some 141) _ = _
     simp only [z_]
     rfl
    refine pq_ HT_.out 4 142 (bt 12 543) (h := ?_)
    refine one_ (i := 5) (N := some 143) (bt 12 575) rfl rfl (one_of HT_.out (by kernel_rfl)) (by decide) (fun K hK => ?_)
    refine goes_ Tryd.func27 (by kernel_rfl) rfl #[.agg #[.slice Ao117 x342000_4.length co117, .int .i64 x342001_4, .slice Ao118 x342002_4.length co118], .string ((⟨#[107]⟩ : ByteArray) ++ t363)] (by rfl) rfl rfl (by (try simp only [List.map_toArray, List.map_cons, List.map_nil]); first | done | rfl | (simp only [List.length_drop, List.length_take]; rfl)) ?_
    with_reducible refine (tree_Cut.calls kj92 _ _ x342000_4 x342001_4 _ _ x342002_4 ((⟨#[107]⟩ : ByteArray) ++ t363) t364 t367 t368 t371 _ ?side1 ?side2 ?side3 ?side4 A97.out).mono ?_
    (case side1 => repeat (first | exact (Kd.S_reads' HO_342000.out).2.2 | (with_reducible refine Kd.C_alloc ?_ _) | (with_reducible refine Kd.C_drewN ?_ _) | (with_reducible refine Kd.C_drew ?_)))
    (case side2 => exact (Kd.S_reads' HO_342000.out).2.1)
    (case side3 => exact cr_ HO_342002)
    (case side4 => exact (Kd.R_reads' HO_342002.out).2.1)
    rintro e w122 ⟨v365, v369, rfl, ho0, ho1, hb⟩
    refine ⟨_, rfl, ?_⟩
    have n2_ := mk0 (Kd.S_lower (Kd.S_new' (Kd.S_new' ho0 (Kd.S_lt (s_ HO_342000))) (Kd.R_lt (r_ HO_342002))) (bz_ (b_ HB)))
    have n3_ := mk0 (Kd.R_lower (Kd.R_new' ho1 (Kd.R_lt (r_ HO_342002))) (bz_ (b_ HB)))
    replace HO_342000 := mk0 (Kd.S_mono (Kd.S_told (Kd.S_told (Kd.S_old (s_ HO_342000) hb) (Kd.S_base ho0)) (Kd.R_base ho1)) (fun _ h_ => h_.1))
    replace HO_342002 := mk0 (Kd.R_elder' (r_ HO_342002) (Kd.R_base ho1) hb)
    replace BK326 := mk0 (u_ BK326 hb)
    replace BK341 := mk0 (u_ BK341 hb)
    replace BK372 := mk0 (u_ BK372 hb)
    replace HB := mk0 (bt_ (b_ HB) hb)
    have HO366 := n2_
    have HO370 := n3_
    clear n2_ n3_
    (try clear hb)
    (try clear hb2)
    (try clear hk)
    (try clear hi)
    (try clear ho0)
    (try clear ho1)
    refine hK.out _ _ ⟨bk_ BK341 0, bk_ BK341 1, bk_ BK341 2⟩ (fun hHeld => ?_)
    clear hK K
    refine norm_ (a' := ?_) ?_ ?_
    rotate_left
    ·show Act.put _ (some 143) _ = _
     simp only [z_]
     rfl
    refine pq_ HT_.out 6 137 (bt 12 639) (h := ?_)
    refine pq_ HT_.out 7 144 (bt 12 767) (h := ?_)
    refine pq_ HT_.out 8 145 (bt 12 1023) (h := ?_)
    exact norm_ (by simp only [putAll, Act.put, List.setIfInBounds_toArray, List.set_cons_zero, List.set_cons_succ]) (hCont (v365, v369, gb372) _ ⟨hHeld, (s2_ (Kd.S_mono HO366.out (fun _ hk => ⟨hk.1.1, ⟨hk.1.2, hk.2⟩⟩))), (r2_ (Kd.R_mono HO370.out (fun _ hk => hk.2))), (s2_ (Kd.S_mono HO_342000.out (fun _ hk => ⟨hk.1.2, ⟨hk.2, hk.1.1⟩⟩))), (r2_ (Kd.R_mono HO_342002.out (fun _ hk => hk.2))), (h_ BK326), (h_ BK341), (h_ BK372), GW372.out, GE372.out, NB326_372.out, NB372_326.out, NB341_372.out, NB372_341.out, (b_ HB)⟩)
  rintro ⟨v365, v369, gb372⟩ w123 ⟨hS_, h0_, h1_, h2_, h3_, h4_, h5_, h6_, h7_, h8_, h9_, h10_, h11_, h12_, h13_⟩
  have n0_ : Fc (Kd.S k85 85 w123 w.heap.size (fun k_ => some k_ ≠ (v369 : Value).ownBlock ∧ some k_ ≠ (.slice Ao117 x342000_4.length co117 : Value).ownBlock ∧ some k_ ≠ (.slice Ao118 x342002_4.length co118 : Value).ownBlock) v365 t364) := ⟨h0_⟩
  have n1_ : Fc (Kd.R (Kd.int .i64) 3 w123 w.heap.size (fun k_ => some k_ ≠ (.slice Ao118 x342002_4.length co118 : Value).ownBlock) v369 t368) := ⟨h1_⟩
  have n2_ : Fc (Kd.S k85 85 w123 w.heap.size (fun k_ => some k_ ≠ (v365 : Value).ownBlock ∧ some k_ ≠ (v369 : Value).ownBlock ∧ some k_ ≠ (.slice Ao118 x342002_4.length co118 : Value).ownBlock) (.slice Ao117 x342000_4.length co117) x342000_4) := ⟨h2_⟩
  have n3_ : Fc (Kd.R (Kd.int .i64) 3 w123 w.heap.size (fun k_ => some k_ ≠ (v369 : Value).ownBlock) (.slice Ao118 x342002_4.length co118) x342002_4) := ⟨h3_⟩
  have n4_ : Fc (w123.heap[gb326]? = some (.cells #[.slice A0_0 l0_0.length c0_0, .int .i64 a0_1, .slice A0_2 l0_2.length c0_2, .slice A0_3 l0_3.length c0_3] 28 (0, 0))) := ⟨h4_⟩
  have n5_ : Fc (w123.heap[gb341]? = some (.cells #[.slice Ao117 x342000_4.length co117, .int .i64 x342001_4, .slice Ao118 x342002_4.length co118] 25 (0, 0))) := ⟨h5_⟩
  have n6_ : Fc (w123.heap[gb372]? = some (.cells #[.slice none 0 0, .int .i64 0, .slice none 0 0] 25 (0, 0))) := ⟨h6_⟩
  have n7_ : Fc (w.heap.size ≤ gb372) := ⟨h7_⟩
  have n8_ : Fc (w.heap.size ≤ gb372) := ⟨h8_⟩
  have n9_ : Fc (gb326 ≠ gb372) := ⟨h9_⟩
  have n10_ : Fc (gb372 ≠ gb326) := ⟨h10_⟩
  have n11_ : Fc (gb341 ≠ gb372) := ⟨h11_⟩
  have n12_ : Fc (gb372 ≠ gb341) := ⟨h12_⟩
  have n13_ : Fc (Below w.heap.size w w123) := ⟨h13_⟩
  clear HO_342000 HO_342002 BK326 BK341 HB h0_ h1_ h2_ h3_ h4_ h5_ h6_ h7_ h8_ h9_ h10_ h11_ h12_ h13_
  have HO366 := n0_
  have HO370 := n1_
  have HO_342000 := n2_
  have HO_342002 := n3_
  have BK326 := n4_
  have BK341 := n5_
  have BK372 := n6_
  have GW372 := n7_
  have GE372 := n8_
  have NB326_372 := n9_
  have NB372_326 := n10_
  have NB341_372 := n11_
  have NB372_341 := n12_
  have HB := n13_
  clear n0_ n1_ n2_ n3_ n4_ n5_ n6_ n7_ n8_ n9_ n10_ n11_ n12_ n13_
  have hHeld : w123.cell? ⟨gb341, 0, none⟩ = some (.slice Ao117 x342000_4.length co117) ∧ w123.cell? ⟨gb341, 1, none⟩ = some (.int .i64 x342001_4) ∧ w123.cell? ⟨gb341, 2, none⟩ = some (.slice Ao118 x342002_4.length co118) := hS_
  obtain ⟨Ao124, co124, eo124⟩ := Kd.S_slice HO366.out
  (first | subst eo124 | (injection eo124 with f1_ f2_ f3_; have f4_ := f1_.symm; have f5_ := f3_.symm; clear f1_ f2_ f3_; subst f4_; subst f5_))
  obtain ⟨Ao127, co127, eo127⟩ := Kd.R_slice HO370.out
  (first | subst eo127 | (injection eo127 with f1_ f2_ f3_; have f4_ := f1_.symm; have f5_ := f3_.symm; clear f1_ f2_ f3_; subst f4_; subst f5_))
  refine norm_ (a' := ?_) ?_ ?_
  rotate_left
  ·simp only [putAll, Act.put, List.setIfInBounds_toArray, List.set_cons_zero, List.set_cons_succ]
   rfl
  refine one_ (i := 10) (N := none) (bt 12 2047) rfl rfl (one_of HT_.out (by kernel_rfl)) (by decide) (fun K hK => ?_)
  have hs125 : w123.cell? ⟨gb372, 0, none⟩ = some (.slice none 0 0) := bk_ BK372 0
  have hfs125 := blk_frozen BK372.out 0
  have hns125_0 := NB326_372.out
  have hns125_1 := NB341_372.out
  have hms125_0 := NB372_326.out
  have hms125_1 := NB372_341.out
  have hs126 : w123.cell? ⟨gb372, 1, none⟩ = some (.int .i64 0) := bk_ BK372 1
  have hfs126 := blk_frozen BK372.out 1
  have hns126_0 := NB326_372.out
  have hns126_1 := NB341_372.out
  have hms126_0 := NB372_326.out
  have hms126_1 := NB372_341.out
  have hs128 : w123.cell? ⟨gb372, 2, none⟩ = some (.slice none 0 0) := bk_ BK372 2
  have hfs128 := blk_frozen BK372.out 2
  have hns128_0 := NB326_372.out
  have hns128_1 := NB341_372.out
  have hms128_0 := NB372_326.out
  have hms128_1 := NB372_341.out
  refine skip_ (w1 := ?_) (by rfl) rfl ?_ ?_
  rotate_left
  ·go_simp
   rfl
  refine hK.out _ _ ⟨(cf_ NB341_372.out ((cf_ NB341_372.out (cf_ NB341_372.out hHeld.1)))), (cf_ NB341_372.out ((cf_ NB341_372.out (cf_ NB341_372.out hHeld.2.1)))), (cf_ NB341_372.out ((cf_ NB341_372.out (cf_ NB341_372.out hHeld.2.2))))⟩ (fun hHeld => ?_)
  clear hK K
  refine pq_ HT_.out 11 20 (bt 12 4095) (h := ?_)
  refine done_ (done_of HT_.out (by kernel_rfl)) ?_
  try go_wp2_with (first | ((with_reducible refine gate_callee (f := 23) rfl ?_); refine gL_ (some 147) Tryd.func23 #[.int .i64 t371] (h := ?_); (with_reducible refine (quorumlaw6_num.calls t371 t373 _ A98.out).mono ?_); rintro e w' ⟨rfl, ⟨nd, rfl⟩⟩; refine ⟨_, rfl, ?_⟩))
  go_ret
  exact ⟨by first | rfl | (simp [errW_none, errW_some] <;> rfl) | (simp [*, errW_none, errW_some] <;> rfl), b_ HB⟩
 rw [if_pos c99] at H
 have c99b0 : (t373 == 0) = true := beq_iff_eq.mpr c99
 have c99b1 : (t373 != 0) = false := bne_eq_false_iff_eq.mpr c99
 clear c99
 have H' := mk0 H
 clear H
 obtain ⟨Ao100, co100, eo100⟩ := Kd.S_slice HO_342000.out
 subst eo100
 obtain ⟨Ao101, co101, eo101⟩ := Kd.R_slice HO_342002.out
 subst eo101
 try go_wp2
 replace HO_342000 := mk0 (Kd.S_drew HO_342000.out)
 replace HO_342002 := mk0 (Rd_ HO_342002.out)
 replace BK326 := mk0 (bD_ BK326.out)
 replace BK341 := mk0 (bD_ BK341.out)
 replace HB := mk0 (b1_ HB.out)
 refine start_ (n := 12) (S := fun w' => w'.cell? ⟨gb341, 0, none⟩ = some (.slice Ao100 x342000_4.length co100) ∧ w'.cell? ⟨gb341, 1, none⟩ = some (.int .i64 x342001_4) ∧ w'.cell? ⟨gb341, 2, none⟩ = some (.slice Ao101 x342002_4.length co101)) (ds := []) (bt 12 0) (by kernel_rfl) rfl rfl ⟨bk_ BK341 0, bk_ BK341 1, bk_ BK341 2⟩ (fun hHeld => ?_); refine with_tabW quorumlaw6_TreeMany.tab33 quorumlaw6_TreeMany.bits33 (fun HT_ HW_ => ?_)
 generalize wc.drew = w102 at HO_342000 HO_342002 BK326 BK341 HB hHeld ⊢
 refine pq_ HT_.out 1 139 (bt 12 2) (h := ?_)
 refine pq_ HT_.out 2 140 (bt 12 6) (h := ?_)
 refine tq3_ HT_.out HW_.out 0 138 (bt 12 7) hHeld (h := ?_)
 refine join_ (σ := Value × Value × Nat) 2 (bt 12 1023) (fun s_ => [(141, .string t363), (143, .tuple #[.agg #[s_.1, .int .i64 t367, s_.2.1], .int .i64 t371]), (19, .pointer (some ⟨s_.2.2, 0, none⟩)), (142, .string ((⟨#[107]⟩ : ByteArray) ++ t363)), (137, .tuple #[.agg #[s_.1, .int .i64 t367, s_.2.1], .int .i64 t371]), (144, .agg #[s_.1, .int .i64 t367, s_.2.1]), (145, .int .i64 t371)]) (fun s_ w' => (w'.cell? ⟨gb341, 0, none⟩ = some (.slice Ao100 x342000_4.length co100) ∧ w'.cell? ⟨gb341, 1, none⟩ = some (.int .i64 x342001_4) ∧ w'.cell? ⟨gb341, 2, none⟩ = some (.slice Ao101 x342002_4.length co101)) ∧ (Kd.S k85 85 w' w.heap.size (fun k_ => some k_ ≠ (s_.2.1 : Value).ownBlock ∧ some k_ ≠ (.slice Ao100 x342000_4.length co100 : Value).ownBlock ∧ some k_ ≠ (.slice Ao101 x342002_4.length co101 : Value).ownBlock) s_.1 t364) ∧ (Kd.R (Kd.int .i64) 3 w' w.heap.size (fun k_ => some k_ ≠ (.slice Ao101 x342002_4.length co101 : Value).ownBlock) s_.2.1 t368) ∧ (Kd.S k85 85 w' w.heap.size (fun k_ => some k_ ≠ (s_.1 : Value).ownBlock ∧ some k_ ≠ (s_.2.1 : Value).ownBlock ∧ some k_ ≠ (.slice Ao101 x342002_4.length co101 : Value).ownBlock) (.slice Ao100 x342000_4.length co100) x342000_4) ∧ (Kd.R (Kd.int .i64) 3 w' w.heap.size (fun k_ => some k_ ≠ (s_.2.1 : Value).ownBlock) (.slice Ao101 x342002_4.length co101) x342002_4) ∧ (w'.heap[gb326]? = some (.cells #[.slice A0_0 l0_0.length c0_0, .int .i64 a0_1, .slice A0_2 l0_2.length c0_2, .slice A0_3 l0_3.length c0_3] 28 (0, 0))) ∧ (w'.heap[gb341]? = some (.cells #[.slice Ao100 x342000_4.length co100, .int .i64 x342001_4, .slice Ao101 x342002_4.length co101] 25 (0, 0))) ∧ (w'.heap[s_.2.2]? = some (.cells #[.slice none 0 0, .int .i64 0, .slice none 0 0] 25 (0, 0))) ∧ (w.heap.size ≤ s_.2.2) ∧ (w.heap.size ≤ s_.2.2) ∧ (gb326 ≠ s_.2.2) ∧ (s_.2.2 ≠ gb326) ∧ (gb341 ≠ s_.2.2) ∧ (s_.2.2 ≠ gb341) ∧ (Below w.heap.size w w')) ?_ ?_
 rotate_left
 ·intro hCont
  refine two_ (i := 3) (j := 9) (Ni := some 141) (Nj := some 19) (bt 12 15) (bt 12 519) rfl rfl rfl rfl (two_of HT_.out (by kernel_rfl)) (by decide) (by decide) (fun K hK => ?_) (fun K hK => ?_)
  ·skip
   refine goes_ Tryd.func22 (by kernel_rfl) rfl #[.int .i64 (wrap64 (1000 + x18_92))] (by rfl) rfl rfl (by (try simp only [List.map_toArray, List.map_cons, List.map_nil]); first | done | rfl | (simp only [List.length_drop, List.length_take]; rfl)) ?_
   with_reducible refine (quorumlaw6_digits.calls kj92 (wrap64 (1000 + x18_92)) t363 _ A95.out).mono ?_
   rintro e w103 ⟨rfl, hb⟩
   refine ⟨_, rfl, ?_⟩
   replace HO_342000 := mk0 (Kd.S_below (s_ HO_342000) hb)
   replace HO_342002 := mk0 (Kd.R_below (r_ HO_342002) hb)
   replace BK326 := mk0 (u_ BK326 hb)
   replace BK341 := mk0 (u_ BK341 hb)
   replace HB := mk0 (bt_ (b_ HB) hb)
   (try clear hb)
   (try clear hb2)
   (try clear hk)
   (try clear hi)
   refine hK.out _ _ ⟨bk_ BK341 0, bk_ BK341 1, bk_ BK341 2⟩ (fun hHeld => ?_)
   clear hK K
   refine norm_ (a' := ?_) ?_ ?_
   rotate_left
   ·show Act.put _ (some 141) _ = _
    simp only [z_]
    rfl
   refine pq_ HT_.out 4 142 (bt 12 31) (h := ?_)
   refine two_ (i := 5) (j := 9) (Ni := some 143) (Nj := some 19) (bt 12 63) (bt 12 543) rfl rfl rfl rfl (two_of HT_.out (by kernel_rfl)) (by decide) (by decide) (fun K hK => ?_) (fun K hK => ?_)
   ·skip
    refine goes_ Tryd.func27 (by kernel_rfl) rfl #[.agg #[.slice Ao100 x342000_4.length co100, .int .i64 x342001_4, .slice Ao101 x342002_4.length co101], .string ((⟨#[107]⟩ : ByteArray) ++ t363)] (by rfl) rfl rfl (by (try simp only [List.map_toArray, List.map_cons, List.map_nil]); first | done | rfl | (simp only [List.length_drop, List.length_take]; rfl)) ?_
    with_reducible refine (tree_Cut.calls kj92 _ _ x342000_4 x342001_4 _ _ x342002_4 ((⟨#[107]⟩ : ByteArray) ++ t363) t364 t367 t368 t371 _ ?side1 ?side2 ?side3 ?side4 A97.out).mono ?_
    (case side1 => repeat (first | exact (Kd.S_reads' HO_342000.out).2.2 | (with_reducible refine Kd.C_alloc ?_ _) | (with_reducible refine Kd.C_drewN ?_ _) | (with_reducible refine Kd.C_drew ?_)))
    (case side2 => exact (Kd.S_reads' HO_342000.out).2.1)
    (case side3 => exact cr_ HO_342002)
    (case side4 => exact (Kd.R_reads' HO_342002.out).2.1)
    rintro e w104 ⟨v365, v369, rfl, ho0, ho1, hb⟩
    refine ⟨_, rfl, ?_⟩
    have n2_ := mk0 (Kd.S_lower (Kd.S_new' (Kd.S_new' ho0 (Kd.S_lt (s_ HO_342000))) (Kd.R_lt (r_ HO_342002))) (bz_ (b_ HB)))
    have n3_ := mk0 (Kd.R_lower (Kd.R_new' ho1 (Kd.R_lt (r_ HO_342002))) (bz_ (b_ HB)))
    replace HO_342000 := mk0 (Kd.S_mono (Kd.S_told (Kd.S_told (Kd.S_old (s_ HO_342000) hb) (Kd.S_base ho0)) (Kd.R_base ho1)) (fun _ h_ => h_.1))
    replace HO_342002 := mk0 (Kd.R_elder' (r_ HO_342002) (Kd.R_base ho1) hb)
    replace BK326 := mk0 (u_ BK326 hb)
    replace BK341 := mk0 (u_ BK341 hb)
    replace HB := mk0 (bt_ (b_ HB) hb)
    have HO366 := n2_
    have HO370 := n3_
    clear n2_ n3_
    (try clear hb)
    (try clear hb2)
    (try clear hk)
    (try clear hi)
    (try clear ho0)
    (try clear ho1)
    refine hK.out _ _ ⟨bk_ BK341 0, bk_ BK341 1, bk_ BK341 2⟩ (fun hHeld => ?_)
    clear hK K
    refine norm_ (a' := ?_) ?_ ?_
    rotate_left
    ·show Act.put _ (some 143) _ = _
     simp only [z_]
     rfl
    refine pq_ HT_.out 6 137 (bt 12 127) (h := ?_)
    refine pq_ HT_.out 7 144 (bt 12 255) (h := ?_)
    refine pq_ HT_.out 8 145 (bt 12 511) (h := ?_)
    refine one_ (i := 9) (N := some 19) (bt 12 1023) rfl rfl (one_of HT_.out (by kernel_rfl)) (by decide) (fun K hK => ?_)
    refine box_step ?hg (N := 19) ?hd (cs := #[.slice none 0 0, .int .i64 0, .slice none 0 0]) (t := 25) ?hr ?_; (case hd => rfl); (case hg => rfl); (case hr => first | (go_simp; done) | (go_simp; rfl))
    intro gb372 hg w105 hbox hb
    have n8_ := mk0 (gz_ HB hg)
    have n9_ := mk0 (gz_ HB hg)
    have n10_ := mk0 (ne1_ BK326 hg)
    have n11_ := mk0 (ne2_ BK326 hg)
    have n12_ := mk0 (ne1_ BK341 hg)
    have n13_ := mk0 (ne2_ BK341 hg)
    replace HO_342000 := mk0 (Kd.S_below (s_ HO_342000) hb)
    replace HO_342002 := mk0 (Kd.R_below (r_ HO_342002) hb)
    replace HO366 := mk0 (Kd.S_below (s_ HO366) hb)
    replace HO370 := mk0 (Kd.R_below (r_ HO370) hb)
    replace BK326 := mk0 (u_ BK326 hb)
    replace BK341 := mk0 (u_ BK341 hb)
    replace HB := mk0 (bt_ (b_ HB) hb)
    have BK372 := mk0 (hbox)
    have GW372 := n8_
    have GE372 := n9_
    have NB326_372 := n10_
    have NB372_326 := n11_
    have NB341_372 := n12_
    have NB372_341 := n13_
    clear n8_ n9_ n10_ n11_ n12_ n13_ hb hbox hg
    refine hK.out _ _ ⟨bk_ BK341 0, bk_ BK341 1, bk_ BK341 2⟩ (fun hHeld => ?_)
    clear hK K
    refine norm_ (a' := ?_) ?_ ?_
    rotate_left
    ·show Act.put _ (some 19) _ = _
     simp only [z_]
     rfl
    exact norm_ (by simp only [putAll, Act.put, List.setIfInBounds_toArray, List.set_cons_zero, List.set_cons_succ]) (hCont (v365, v369, gb372) _ ⟨hHeld, (s2_ (Kd.S_mono HO366.out (fun _ hk => ⟨hk.1.1, ⟨hk.1.2, hk.2⟩⟩))), (r2_ (Kd.R_mono HO370.out (fun _ hk => hk.2))), (s2_ (Kd.S_mono HO_342000.out (fun _ hk => ⟨hk.1.2, ⟨hk.2, hk.1.1⟩⟩))), (r2_ (Kd.R_mono HO_342002.out (fun _ hk => hk.2))), (h_ BK326), (h_ BK341), (h_ BK372), GW372.out, GE372.out, NB326_372.out, NB372_326.out, NB341_372.out, NB372_341.out, (b_ HB)⟩)
   ·skip
    refine box_step ?hg (N := 19) ?hd (cs := #[.slice none 0 0, .int .i64 0, .slice none 0 0]) (t := 25) ?hr ?_; (case hd => rfl); (case hg => rfl); (case hr => first | (go_simp; done) | (go_simp; rfl))
    intro gb372 hg w104 hbox hb
    have n6_ := mk0 (gz_ HB hg)
    have n7_ := mk0 (gz_ HB hg)
    have n8_ := mk0 (ne1_ BK326 hg)
    have n9_ := mk0 (ne2_ BK326 hg)
    have n10_ := mk0 (ne1_ BK341 hg)
    have n11_ := mk0 (ne2_ BK341 hg)
    replace HO_342000 := mk0 (Kd.S_below (s_ HO_342000) hb)
    replace HO_342002 := mk0 (Kd.R_below (r_ HO_342002) hb)
    replace BK326 := mk0 (u_ BK326 hb)
    replace BK341 := mk0 (u_ BK341 hb)
    replace HB := mk0 (bt_ (b_ HB) hb)
    have BK372 := mk0 (hbox)
    have GW372 := n6_
    have GE372 := n7_
    have NB326_372 := n8_
    have NB372_326 := n9_
    have NB341_372 := n10_
    have NB372_341 := n11_
    clear n6_ n7_ n8_ n9_ n10_ n11_ hb hbox hg
    refine hK.out _ _ ⟨bk_ BK341 0, bk_ BK341 1, bk_ BK341 2⟩ (fun hHeld => ?_)
    clear hK K
    refine norm_ (a' := ?_) ?_ ?_
    rotate_left
    ·show Act.put _ (some 19) _ = _
     simp only [z_]
     rfl
    refine one_ (i := 5) (N := some 143) (bt 12 575) rfl rfl (one_of HT_.out (by kernel_rfl)) (by decide) (fun K hK => ?_)
    refine goes_ Tryd.func27 (by kernel_rfl) rfl #[.agg #[.slice Ao100 x342000_4.length co100, .int .i64 x342001_4, .slice Ao101 x342002_4.length co101], .string ((⟨#[107]⟩ : ByteArray) ++ t363)] (by rfl) rfl rfl (by (try simp only [List.map_toArray, List.map_cons, List.map_nil]); first | done | rfl | (simp only [List.length_drop, List.length_take]; rfl)) ?_
    with_reducible refine (tree_Cut.calls kj92 _ _ x342000_4 x342001_4 _ _ x342002_4 ((⟨#[107]⟩ : ByteArray) ++ t363) t364 t367 t368 t371 _ ?side1 ?side2 ?side3 ?side4 A97.out).mono ?_
    (case side1 => repeat (first | exact (Kd.S_reads' HO_342000.out).2.2 | (with_reducible refine Kd.C_alloc ?_ _) | (with_reducible refine Kd.C_drewN ?_ _) | (with_reducible refine Kd.C_drew ?_)))
    (case side2 => exact (Kd.S_reads' HO_342000.out).2.1)
    (case side3 => exact cr_ HO_342002)
    (case side4 => exact (Kd.R_reads' HO_342002.out).2.1)
    rintro e w105 ⟨v365, v369, rfl, ho0, ho1, hb⟩
    refine ⟨_, rfl, ?_⟩
    have n2_ := mk0 (Kd.S_lower (Kd.S_new' (Kd.S_new' ho0 (Kd.S_lt (s_ HO_342000))) (Kd.R_lt (r_ HO_342002))) (bz_ (b_ HB)))
    have n3_ := mk0 (Kd.R_lower (Kd.R_new' ho1 (Kd.R_lt (r_ HO_342002))) (bz_ (b_ HB)))
    replace HO_342000 := mk0 (Kd.S_mono (Kd.S_told (Kd.S_told (Kd.S_old (s_ HO_342000) hb) (Kd.S_base ho0)) (Kd.R_base ho1)) (fun _ h_ => h_.1))
    replace HO_342002 := mk0 (Kd.R_elder' (r_ HO_342002) (Kd.R_base ho1) hb)
    replace BK326 := mk0 (u_ BK326 hb)
    replace BK341 := mk0 (u_ BK341 hb)
    replace BK372 := mk0 (u_ BK372 hb)
    replace HB := mk0 (bt_ (b_ HB) hb)
    have HO366 := n2_
    have HO370 := n3_
    clear n2_ n3_
    (try clear hb)
    (try clear hb2)
    (try clear hk)
    (try clear hi)
    (try clear ho0)
    (try clear ho1)
    refine hK.out _ _ ⟨bk_ BK341 0, bk_ BK341 1, bk_ BK341 2⟩ (fun hHeld => ?_)
    clear hK K
    refine norm_ (a' := ?_) ?_ ?_
    rotate_left
    ·show Act.put _ (some 143) _ = _
     simp only [z_]
     rfl
    refine pq_ HT_.out 6 137 (bt 12 639) (h := ?_)
    refine pq_ HT_.out 7 144 (bt 12 767) (h := ?_)
    refine pq_ HT_.out 8 145 (bt 12 1023) (h := ?_)
    exact norm_ (by simp only [putAll, Act.put, List.setIfInBounds_toArray, List.set_cons_zero, List.set_cons_succ]) (hCont (v365, v369, gb372) _ ⟨hHeld, (s2_ (Kd.S_mono HO366.out (fun _ hk => ⟨hk.1.1, ⟨hk.1.2, hk.2⟩⟩))), (r2_ (Kd.R_mono HO370.out (fun _ hk => hk.2))), (s2_ (Kd.S_mono HO_342000.out (fun _ hk => ⟨hk.1.2, ⟨hk.2, hk.1.1⟩⟩))), (r2_ (Kd.R_mono HO_342002.out (fun _ hk => hk.2))), (h_ BK326), (h_ BK341), (h_ BK372), GW372.out, GE372.out, NB326_372.out, NB372_326.out, NB341_372.out, NB372_341.out, (b_ HB)⟩)
  ·skip
   refine box_step ?hg (N := 19) ?hd (cs := #[.slice none 0 0, .int .i64 0, .slice none 0 0]) (t := 25) ?hr ?_; (case hd => rfl); (case hg => rfl); (case hr => first | (go_simp; done) | (go_simp; rfl))
   intro gb372 hg w103 hbox hb
   have n6_ := mk0 (gz_ HB hg)
   have n7_ := mk0 (gz_ HB hg)
   have n8_ := mk0 (ne1_ BK326 hg)
   have n9_ := mk0 (ne2_ BK326 hg)
   have n10_ := mk0 (ne1_ BK341 hg)
   have n11_ := mk0 (ne2_ BK341 hg)
   replace HO_342000 := mk0 (Kd.S_below (s_ HO_342000) hb)
   replace HO_342002 := mk0 (Kd.R_below (r_ HO_342002) hb)
   replace BK326 := mk0 (u_ BK326 hb)
   replace BK341 := mk0 (u_ BK341 hb)
   replace HB := mk0 (bt_ (b_ HB) hb)
   have BK372 := mk0 (hbox)
   have GW372 := n6_
   have GE372 := n7_
   have NB326_372 := n8_
   have NB372_326 := n9_
   have NB341_372 := n10_
   have NB372_341 := n11_
   clear n6_ n7_ n8_ n9_ n10_ n11_ hb hbox hg
   refine hK.out _ _ ⟨bk_ BK341 0, bk_ BK341 1, bk_ BK341 2⟩ (fun hHeld => ?_)
   clear hK K
   refine norm_ (a' := ?_) ?_ ?_
   rotate_left
   ·show Act.put _ (some 19) _ = _
    simp only [z_]
    rfl
   refine one_ (i := 3) (N := some 141) (bt 12 527) rfl rfl (one_of HT_.out (by kernel_rfl)) (by decide) (fun K hK => ?_)
   refine goes_ Tryd.func22 (by kernel_rfl) rfl #[.int .i64 (wrap64 (1000 + x18_92))] (by rfl) rfl rfl (by (try simp only [List.map_toArray, List.map_cons, List.map_nil]); first | done | rfl | (simp only [List.length_drop, List.length_take]; rfl)) ?_
   with_reducible refine (quorumlaw6_digits.calls kj92 (wrap64 (1000 + x18_92)) t363 _ A95.out).mono ?_
   rintro e w104 ⟨rfl, hb⟩
   refine ⟨_, rfl, ?_⟩
   replace HO_342000 := mk0 (Kd.S_below (s_ HO_342000) hb)
   replace HO_342002 := mk0 (Kd.R_below (r_ HO_342002) hb)
   replace BK326 := mk0 (u_ BK326 hb)
   replace BK341 := mk0 (u_ BK341 hb)
   replace BK372 := mk0 (u_ BK372 hb)
   replace HB := mk0 (bt_ (b_ HB) hb)
   (try clear hb)
   (try clear hb2)
   (try clear hk)
   (try clear hi)
   refine hK.out _ _ ⟨bk_ BK341 0, bk_ BK341 1, bk_ BK341 2⟩ (fun hHeld => ?_)
   clear hK K
   refine norm_ (a' := ?_) ?_ ?_
   rotate_left
   ·show Act.put _ (some 141) _ = _
    simp only [z_]
    rfl
   refine pq_ HT_.out 4 142 (bt 12 543) (h := ?_)
   refine one_ (i := 5) (N := some 143) (bt 12 575) rfl rfl (one_of HT_.out (by kernel_rfl)) (by decide) (fun K hK => ?_)
   refine goes_ Tryd.func27 (by kernel_rfl) rfl #[.agg #[.slice Ao100 x342000_4.length co100, .int .i64 x342001_4, .slice Ao101 x342002_4.length co101], .string ((⟨#[107]⟩ : ByteArray) ++ t363)] (by rfl) rfl rfl (by (try simp only [List.map_toArray, List.map_cons, List.map_nil]); first | done | rfl | (simp only [List.length_drop, List.length_take]; rfl)) ?_
   with_reducible refine (tree_Cut.calls kj92 _ _ x342000_4 x342001_4 _ _ x342002_4 ((⟨#[107]⟩ : ByteArray) ++ t363) t364 t367 t368 t371 _ ?side1 ?side2 ?side3 ?side4 A97.out).mono ?_
   (case side1 => repeat (first | exact (Kd.S_reads' HO_342000.out).2.2 | (with_reducible refine Kd.C_alloc ?_ _) | (with_reducible refine Kd.C_drewN ?_ _) | (with_reducible refine Kd.C_drew ?_)))
   (case side2 => exact (Kd.S_reads' HO_342000.out).2.1)
   (case side3 => exact cr_ HO_342002)
   (case side4 => exact (Kd.R_reads' HO_342002.out).2.1)
   rintro e w105 ⟨v365, v369, rfl, ho0, ho1, hb⟩
   refine ⟨_, rfl, ?_⟩
   have n2_ := mk0 (Kd.S_lower (Kd.S_new' (Kd.S_new' ho0 (Kd.S_lt (s_ HO_342000))) (Kd.R_lt (r_ HO_342002))) (bz_ (b_ HB)))
   have n3_ := mk0 (Kd.R_lower (Kd.R_new' ho1 (Kd.R_lt (r_ HO_342002))) (bz_ (b_ HB)))
   replace HO_342000 := mk0 (Kd.S_mono (Kd.S_told (Kd.S_told (Kd.S_old (s_ HO_342000) hb) (Kd.S_base ho0)) (Kd.R_base ho1)) (fun _ h_ => h_.1))
   replace HO_342002 := mk0 (Kd.R_elder' (r_ HO_342002) (Kd.R_base ho1) hb)
   replace BK326 := mk0 (u_ BK326 hb)
   replace BK341 := mk0 (u_ BK341 hb)
   replace BK372 := mk0 (u_ BK372 hb)
   replace HB := mk0 (bt_ (b_ HB) hb)
   have HO366 := n2_
   have HO370 := n3_
   clear n2_ n3_
   (try clear hb)
   (try clear hb2)
   (try clear hk)
   (try clear hi)
   (try clear ho0)
   (try clear ho1)
   refine hK.out _ _ ⟨bk_ BK341 0, bk_ BK341 1, bk_ BK341 2⟩ (fun hHeld => ?_)
   clear hK K
   refine norm_ (a' := ?_) ?_ ?_
   rotate_left
   ·show Act.put _ (some 143) _ = _
    simp only [z_]
    rfl
   refine pq_ HT_.out 6 137 (bt 12 639) (h := ?_)
   refine pq_ HT_.out 7 144 (bt 12 767) (h := ?_)
   refine pq_ HT_.out 8 145 (bt 12 1023) (h := ?_)
   exact norm_ (by simp only [putAll, Act.put, List.setIfInBounds_toArray, List.set_cons_zero, List.set_cons_succ]) (hCont (v365, v369, gb372) _ ⟨hHeld, (s2_ (Kd.S_mono HO366.out (fun _ hk => ⟨hk.1.1, ⟨hk.1.2, hk.2⟩⟩))), (r2_ (Kd.R_mono HO370.out (fun _ hk => hk.2))), (s2_ (Kd.S_mono HO_342000.out (fun _ hk => ⟨hk.1.2, ⟨hk.2, hk.1.1⟩⟩))), (r2_ (Kd.R_mono HO_342002.out (fun _ hk => hk.2))), (h_ BK326), (h_ BK341), (h_ BK372), GW372.out, GE372.out, NB326_372.out, NB372_326.out, NB341_372.out, NB372_341.out, (b_ HB)⟩)
 rintro ⟨v365, v369, gb372⟩ w106 ⟨hS_, h0_, h1_, h2_, h3_, h4_, h5_, h6_, h7_, h8_, h9_, h10_, h11_, h12_, h13_⟩
 have n0_ : Fc (Kd.S k85 85 w106 w.heap.size (fun k_ => some k_ ≠ (v369 : Value).ownBlock ∧ some k_ ≠ (.slice Ao100 x342000_4.length co100 : Value).ownBlock ∧ some k_ ≠ (.slice Ao101 x342002_4.length co101 : Value).ownBlock) v365 t364) := ⟨h0_⟩
 have n1_ : Fc (Kd.R (Kd.int .i64) 3 w106 w.heap.size (fun k_ => some k_ ≠ (.slice Ao101 x342002_4.length co101 : Value).ownBlock) v369 t368) := ⟨h1_⟩
 have n2_ : Fc (Kd.S k85 85 w106 w.heap.size (fun k_ => some k_ ≠ (v365 : Value).ownBlock ∧ some k_ ≠ (v369 : Value).ownBlock ∧ some k_ ≠ (.slice Ao101 x342002_4.length co101 : Value).ownBlock) (.slice Ao100 x342000_4.length co100) x342000_4) := ⟨h2_⟩
 have n3_ : Fc (Kd.R (Kd.int .i64) 3 w106 w.heap.size (fun k_ => some k_ ≠ (v369 : Value).ownBlock) (.slice Ao101 x342002_4.length co101) x342002_4) := ⟨h3_⟩
 have n4_ : Fc (w106.heap[gb326]? = some (.cells #[.slice A0_0 l0_0.length c0_0, .int .i64 a0_1, .slice A0_2 l0_2.length c0_2, .slice A0_3 l0_3.length c0_3] 28 (0, 0))) := ⟨h4_⟩
 have n5_ : Fc (w106.heap[gb341]? = some (.cells #[.slice Ao100 x342000_4.length co100, .int .i64 x342001_4, .slice Ao101 x342002_4.length co101] 25 (0, 0))) := ⟨h5_⟩
 have n6_ : Fc (w106.heap[gb372]? = some (.cells #[.slice none 0 0, .int .i64 0, .slice none 0 0] 25 (0, 0))) := ⟨h6_⟩
 have n7_ : Fc (w.heap.size ≤ gb372) := ⟨h7_⟩
 have n8_ : Fc (w.heap.size ≤ gb372) := ⟨h8_⟩
 have n9_ : Fc (gb326 ≠ gb372) := ⟨h9_⟩
 have n10_ : Fc (gb372 ≠ gb326) := ⟨h10_⟩
 have n11_ : Fc (gb341 ≠ gb372) := ⟨h11_⟩
 have n12_ : Fc (gb372 ≠ gb341) := ⟨h12_⟩
 have n13_ : Fc (Below w.heap.size w w106) := ⟨h13_⟩
 clear HO_342000 HO_342002 BK326 BK341 HB h0_ h1_ h2_ h3_ h4_ h5_ h6_ h7_ h8_ h9_ h10_ h11_ h12_ h13_
 have HO366 := n0_
 have HO370 := n1_
 have HO_342000 := n2_
 have HO_342002 := n3_
 have BK326 := n4_
 have BK341 := n5_
 have BK372 := n6_
 have GW372 := n7_
 have GE372 := n8_
 have NB326_372 := n9_
 have NB372_326 := n10_
 have NB341_372 := n11_
 have NB372_341 := n12_
 have HB := n13_
 clear n0_ n1_ n2_ n3_ n4_ n5_ n6_ n7_ n8_ n9_ n10_ n11_ n12_ n13_
 have hHeld : w106.cell? ⟨gb341, 0, none⟩ = some (.slice Ao100 x342000_4.length co100) ∧ w106.cell? ⟨gb341, 1, none⟩ = some (.int .i64 x342001_4) ∧ w106.cell? ⟨gb341, 2, none⟩ = some (.slice Ao101 x342002_4.length co101) := hS_
 obtain ⟨Ao107, co107, eo107⟩ := Kd.S_slice HO366.out
 (first | subst eo107 | (injection eo107 with f1_ f2_ f3_; have f4_ := f1_.symm; have f5_ := f3_.symm; clear f1_ f2_ f3_; subst f4_; subst f5_))
 obtain ⟨Ao110, co110, eo110⟩ := Kd.R_slice HO370.out
 (first | subst eo110 | (injection eo110 with f1_ f2_ f3_; have f4_ := f1_.symm; have f5_ := f3_.symm; clear f1_ f2_ f3_; subst f4_; subst f5_))
 refine norm_ (a' := ?_) ?_ ?_
 rotate_left
 ·simp only [putAll, Act.put, List.setIfInBounds_toArray, List.set_cons_zero, List.set_cons_succ]
  rfl
 refine one_ (i := 10) (N := none) (bt 12 2047) rfl rfl (one_of HT_.out (by kernel_rfl)) (by decide) (fun K hK => ?_)
 have hs108 : w106.cell? ⟨gb372, 0, none⟩ = some (.slice none 0 0) := bk_ BK372 0
 have hfs108 := blk_frozen BK372.out 0
 have hns108_0 := NB326_372.out
 have hns108_1 := NB341_372.out
 have hms108_0 := NB372_326.out
 have hms108_1 := NB372_341.out
 have hs109 : w106.cell? ⟨gb372, 1, none⟩ = some (.int .i64 0) := bk_ BK372 1
 have hfs109 := blk_frozen BK372.out 1
 have hns109_0 := NB326_372.out
 have hns109_1 := NB341_372.out
 have hms109_0 := NB372_326.out
 have hms109_1 := NB372_341.out
 have hs111 : w106.cell? ⟨gb372, 2, none⟩ = some (.slice none 0 0) := bk_ BK372 2
 have hfs111 := blk_frozen BK372.out 2
 have hns111_0 := NB326_372.out
 have hns111_1 := NB341_372.out
 have hms111_0 := NB372_326.out
 have hms111_1 := NB372_341.out
 refine skip_ (w1 := ?_) (by rfl) rfl ?_ ?_
 rotate_left
 ·go_simp
  rfl
 refine hK.out _ _ ⟨(cf_ NB341_372.out ((cf_ NB341_372.out (cf_ NB341_372.out hHeld.1)))), (cf_ NB341_372.out ((cf_ NB341_372.out (cf_ NB341_372.out hHeld.2.1)))), (cf_ NB341_372.out ((cf_ NB341_372.out (cf_ NB341_372.out hHeld.2.2))))⟩ (fun hHeld => ?_)
 clear hK K
 refine pq_ HT_.out 11 20 (bt 12 4095) (h := ?_)
 refine done_ (done_of HT_.out (by kernel_rfl)) ?_
 try go_wp2_with (first | ((with_reducible refine gate_callee (f := 23) rfl ?_); refine gL_ (some 147) Tryd.func23 #[.int .i64 t371] (h := ?_); (with_reducible refine (quorumlaw6_num.calls t371 t373 _ A98.out).mono ?_); rintro e w' ⟨rfl, ⟨nd, rfl⟩⟩; refine ⟨_, rfl, ?_⟩; have hnb112 := NB372_326.out; have hnc112 := NB326_372.out; have hnb113 := NB372_341.out; have hnc113 := NB341_372.out; obtain ⟨hcz114_0, hcz114_1, hcz114_2, hfz114_0, hfz114_1, hfz114_2⟩ := c3_ BK372; have hnb115 := NB341_326.out; have hnc115 := NB326_341.out; obtain ⟨hcz116_0, hcz116_1, hcz116_2, hfz116_0, hfz116_1, hfz116_2⟩ := c3_ BK341))
 go_roundg kj92
 case measure => have := HK1.out; have := HJ66.out; have := HK3.out; have := HK4.out; have := HJ92.out; omega
 case rel => exact ⟨(wrap64 (x17_4 + 1)), (t364), (t367), (t368), (.slice Ao107 t364.length co107), (.slice Ao110 t368.length co110), (by first | rfl | (simp; done) | (simp [*]; done)), H', ⟨by have := HK1.out; have := HJ66.out; have := HK3.out; have := HK4.out; have := HJ92.out; omega⟩, ⟨by (with_reducible repeat (first | apply Kd.S_alloc | apply Kd.S_drewN | apply Kd.S_drew)); exact Kd.S_mono (Kd.S_far (p := ⟨gb341, 2, none⟩) (Kd.S_far (p := ⟨gb341, 1, none⟩) (Kd.S_far (p := ⟨gb341, 0, none⟩) (Kd.S_far (p := ⟨gb372, 2, none⟩) (Kd.S_far (p := ⟨gb372, 1, none⟩) (Kd.S_far (p := ⟨gb372, 0, none⟩) (Kd.S_types (Kd.S_types HO366.out BK372.out (by decide)) BK341.out (by decide)) (fun _ hk => hk.1.2) (.slice Ao107 t364.length co107)) (fun _ hk => hk.1.2) (.int .i64 t367)) (fun _ hk => hk.1.2) (.slice Ao110 t368.length co110)) (fun _ hk => hk.2) (.slice Ao107 t364.length co107)) (fun _ hk => hk.2) (.int .i64 t367)) (fun _ hk => hk.2) (.slice Ao110 t368.length co110)) (fun _ hk => hk.1.1.1)⟩, ⟨by (with_reducible repeat (first | apply Ra_ | apply Rn_ | apply Rd_)); exact Kd.R_mono (Kd.R_far (p := ⟨gb341, 2, none⟩) (Kd.R_far (p := ⟨gb341, 1, none⟩) (Kd.R_far (p := ⟨gb341, 0, none⟩) (Kd.R_far (p := ⟨gb372, 2, none⟩) (Kd.R_far (p := ⟨gb372, 1, none⟩) (Kd.R_far (p := ⟨gb372, 0, none⟩) (Kd.R_types (Kd.R_types HO370.out BK372.out (by decide)) BK341.out (by decide)) (fun _ hk => hk.1.2) (.slice Ao107 t364.length co107)) (fun _ hk => hk.1.2) (.int .i64 t367)) (fun _ hk => hk.1.2) (.slice Ao110 t368.length co110)) (fun _ hk => hk.2) (.slice Ao107 t364.length co107)) (fun _ hk => hk.2) (.int .i64 t367)) (fun _ hk => hk.2) (.slice Ao110 t368.length co110)) (fun _ hk => trivial)⟩, ⟨(fa_ (fa_ (fa_ (fa_ (fa_ (fa_ (h_ BK326) NB326_372.out) NB326_372.out) NB326_372.out) NB326_341.out) NB326_341.out) NB326_341.out)⟩, ⟨(pu_ (cs := #[.slice Ao107 t364.length co107, .int .i64 t367, .slice Ao101 x342002_4.length co101]) (pu_ (cs := #[.slice Ao107 t364.length co107, .int .i64 x342001_4, .slice Ao101 x342002_4.length co101]) (pu_ (cs := #[.slice Ao100 x342000_4.length co100, .int .i64 x342001_4, .slice Ao101 x342002_4.length co101]) (fa_ (fa_ (fa_ (h_ BK341) NB341_372.out) NB341_372.out) NB341_372.out))))⟩, ⟨b_ HB⟩⟩

end Go.Proofs.YtkmkppchhdkipaaDoor.PTr
