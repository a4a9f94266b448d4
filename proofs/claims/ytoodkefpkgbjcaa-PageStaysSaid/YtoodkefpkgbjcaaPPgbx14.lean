-- PRINTED by print.py (a twelfth state) out of the translation. Not trusted: Lean checks it.
import Derived.Test.YtoodkefpkgbjcaaPPgbx0
import Derived.Test.YtoodkefpkgbjcaaPPgbx1
import Derived.Test.YtoodkefpkgbjcaaPPgbx3
import Derived.Test.YtoodkefpkgbjcaaPPgbx4
import Derived.Test.YtoodkefpkgbjcaaPPgbx6
import Derived.Test.YtoodkefpkgbjcaaPPgbx7
namespace Go.Proofs.Ytoodkefpkgbjcaa.PPgb
open Go.RowKit Go.Proofs.YtoodkefpkgbjcaaW.PrintWords Go.Proofs.YtoodkefpkgbjcaaW.PrintLast Go.Proofs.YtoodkefpkgbjcaaW.PrintMore
attribute [local go_sem] max2_int min2_int max_two min_two max_three min_three max_four min_four   -- for this text's walks alone
set_option linter.unusedVariables false
set_option linter.unusedSimpArgs false

/-! ### quorumlaw5_PageStays: function 4 -/
mutual
def quorumlaw5_PageStays.l0 : Nat → List ByteArray → List Bool → Int → List ByteArray → List Int → List (S64) → List ByteArray → List Int → Option (Bool)
 | 0, _, _, _, _, _, _, _, _ => none
 | k + 1, x4, x5, x6, x432000, x432001, x432002, x434000, x434001 => if x6 < (x432002.length : Int) then (quorumlaw5_PageStays.j1 k x4 x5 x6 (decide (x6 < 30)) x432000 x432001 x432002 x434000 x434001) else (quorumlaw5_PageStays.j1 k x4 x5 x6 false x432000 x432001 x432002 x434000 x434001)
def quorumlaw5_PageStays.j1 : Nat → List ByteArray → List Bool → Int → Bool → List ByteArray → List Int → List (S64) → List ByteArray → List Int → Option (Bool)
 | 0, _, _, _, _, _, _, _, _, _ => none
 | k + 1, x4, x5, x6, x31, x432000, x432001, x432002, x434000, x434001 => if x31 = true then (if (Int.tmod x6 3) = 2 then (quorumlaw5_PageStays.j2 k x4 x5 x6 (decide ((x434000.length : Int) > 0)) x432000 x432001 x432002 x434000 x434001) else (quorumlaw5_PageStays.j2 k x4 x5 x6 false x432000 x432001 x432002 x434000 x434001)) else (quorumlaw5_PageStays.l2 k x5 15 x434000 x434001)
def quorumlaw5_PageStays.j2 : Nat → List ByteArray → List Bool → Int → Bool → List ByteArray → List Int → List (S64) → List ByteArray → List Int → Option (Bool)
 | 0, _, _, _, _, _, _, _, _, _ => none
 | k + 1, x4, x5, x6, x42, x432000, x432001, x432002, x434000, x434001 => if x42 = true then (if 0 ≤ x6 then (if x6 < (x432002.length : Int) then ((quorumlaw0_Within.f ((rd_T64 x432002 x6).f1) (x434000.length : Int)).bind fun t441 => ((page_Cut.f k x434000 x434001 t441).bind fun bt442 => (if t441 ≥ 16 then (quorumlaw5_PageStays.j3 k x4 x5 x6 t441 bt442.2.2 true x432000 x432001 x432002 x434000 x434001 bt442.1 bt442.2.1) else ((quorumlaw5_num.f bt442.2.2).bind fun t450 => (if 0 ≤ t441 then (if t441 < (x5.length : Int) then (quorumlaw5_PageStays.j3 k x4 x5 x6 t441 bt442.2.2 ((t450 == 0) != (rdOf false x5 t441)) x432000 x432001 x432002 x434000 x434001 bt442.1 bt442.2.1) else (none)) else (none)))))) else (none)) else (none)) else (if 0 ≤ x6 then (if x6 < (x432002.length : Int) then ((page_Add.f k x434000 x434001 ((rd_T64 x432002 x6).f2)).bind fun bt455 => ((quorumlaw5_num.f bt455.2.2.2).bind fun t464 => (if t464 = 0 then ((quorumref0_Num.f bt455.2.2.1 15).bind fun t465 => (if t465 = true then (if 0 ≤ bt455.2.2.1 then (if bt455.2.2.1 < (x5.length : Int) then (quorumlaw5_PageStays.j4 k x4 x5 x6 bt455.2.2.1 (rdOf false x5 bt455.2.2.1) x432000 x432001 x432002 bt455.1 bt455.2.1) else (none)) else (none)) else (quorumlaw5_PageStays.j4 k x4 x5 x6 bt455.2.2.1 true x432000 x432001 x432002 bt455.1 bt455.2.1))) else ((quorumlaw5_num.f bt455.2.2.2).bind fun t470 => (if t470 = 5 then (quorumlaw5_PageStays.j5 k x4 x5 x6 x432000 x432001 x432002 x434000 x434001) else (some false)))))) else (none)) else (none))
def quorumlaw5_PageStays.j5 : Nat → List ByteArray → List Bool → Int → List ByteArray → List Int → List (S64) → List ByteArray → List Int → Option (Bool)
 | 0, _, _, _, _, _, _, _, _ => none
 | k + 1, x4, x5, x6, x432000, x432001, x432002, x434000, x434001 => quorumlaw5_PageStays.l1 k x4 x5 x6 0 x432000 x432001 x432002 x434000 x434001
def quorumlaw5_PageStays.l1 : Nat → List ByteArray → List Bool → Int → Int → List ByteArray → List Int → List (S64) → List ByteArray → List Int → Option (Bool)
 | 0, _, _, _, _, _, _, _, _, _ => none
 | k + 1, x4, x5, x6, x13, x432000, x432001, x432002, x434000, x434001 => if x13 < 16 then ((page_Get.f k x434000 x434001 x13).bind fun bt471 => ((quorumlaw5_num.f bt471.2).bind fun t473 => (if 0 ≤ x13 then (if x13 < (x5.length : Int) then (if ((t473 == 0) != (rdOf false x5 x13)) = true then (quorumlaw5_PageStays.j7 k x4 x5 x6 x13 true x432000 x432001 x432002 x434000 x434001) else (if rdOf false x5 x13 = true then (if x13 < (x4.length : Int) then (quorumlaw5_PageStays.j7 k x4 x5 x6 x13 (bt471.1.toList != (rdOf ByteArray.empty x4 x13).toList) x432000 x432001 x432002 x434000 x434001) else (none)) else (quorumlaw5_PageStays.j7 k x4 x5 x6 x13 false x432000 x432001 x432002 x434000 x434001))) else (none)) else (none)))) else (quorumlaw5_PageStays.l0 k x4 x5 (wrap64 (x6 + 1)) x432000 x432001 x432002 x434000 x434001)
def quorumlaw5_PageStays.j7 : Nat → List ByteArray → List Bool → Int → Int → Bool → List ByteArray → List Int → List (S64) → List ByteArray → List Int → Option (Bool)
 | 0, _, _, _, _, _, _, _, _, _, _ => none
 | k + 1, x4, x5, x6, x13, x149, x432000, x432001, x432002, x434000, x434001 => if x149 = true then (some false) else (quorumlaw5_PageStays.l1 k x4 x5 x6 (wrap64 (x13 + 1)) x432000 x432001 x432002 x434000 x434001)
def quorumlaw5_PageStays.j3 : Nat → List ByteArray → List Bool → Int → Int → Int → Bool → List ByteArray → List Int → List (S64) → List ByteArray → List Int → List ByteArray → List Int → Option (Bool)
 | 0, _, _, _, _, _, _, _, _, _, _, _, _, _ => none
 | k + 1, x4, x5, x6, x7, x9, x70, x432000, x432001, x432002, x434000, x434001, x450000, x450001 => if x70 = true then (some false) else ((quorumlaw5_num.f x9).bind fun t452 => (if t452 = 0 then (if 0 ≤ x7 then (if x7 < (x5.length : Int) then (quorumlaw5_PageStays.j5 k x4 (x5.set (x7 : Int).toNat false) x6 x432000 x432001 x432002 x450000 x450001) else (none)) else (none)) else (quorumlaw5_PageStays.j5 k x4 x5 x6 x432000 x432001 x432002 x434000 x434001)))
def quorumlaw5_PageStays.j4 : Nat → List ByteArray → List Bool → Int → Int → Bool → List ByteArray → List Int → List (S64) → List ByteArray → List Int → Option (Bool)
 | 0, _, _, _, _, _, _, _, _, _, _ => none
 | k + 1, x4, x5, x6, x11, x101, x432000, x432001, x432002, x464000, x464001 => if x101 = true then (some false) else (if 0 ≤ x6 then (if x6 < (x432002.length : Int) then (if 0 ≤ x11 then (if x11 < (x5.length : Int) then (if x11 < (x4.length : Int) then (quorumlaw5_PageStays.j5 k (x4.set (x11 : Int).toNat ((rd_T64 x432002 x6).f2)) (x5.set (x11 : Int).toNat true) x6 x432000 x432001 x432002 x464000 x464001) else (none)) else (none)) else (none)) else (none)) else (none))
def quorumlaw5_PageStays.l2 : Nat → List Bool → Int → List ByteArray → List Int → Option (Bool)
 | 0, _, _, _, _ => none
 | k + 1, x5, x16, x434000, x434001 => if x16 ≥ 0 then (if 0 ≤ x16 then (if x16 < (x5.length : Int) then (if rdOf false x5 x16 = true then ((page_Cut.f k x434000 x434001 x16).bind fun bt478 => ((quorumlaw5_num.f bt478.2.2).bind fun t486 => (if t486 = 0 then (quorumlaw5_PageStays.l2 k x5 (wrap64 (x16 - 1)) bt478.1 bt478.2.1) else (some false)))) else (quorumlaw5_PageStays.l2 k x5 (wrap64 (x16 - 1)) x434000 x434001)) else (none)) else (none)) else ((quorumref0_EqPage.f k x434000 x434001 ([] : List ByteArray) ([] : List Int)).bind fun t487 => (if t487 = true then ((quorumref4_Page.f k x434000 x434001).bind fun t488 => (if t488 = true then ((quorumlaw5_wakes.f k).bind fun t489 => (some t489)) else (some false))) else (some false)))
end
def quorumlaw5_PageStays.f (k : Nat) (l0_0 : List ByteArray) (l0_1 : List Int) (l0_2 : List (S64)) : Option (Bool) := (quorumlaw5_Heavy.f k l0_0 l0_1 l0_2).bind fun t432 => (if t432 = true then (some true) else (if 16 ≤ 17592186044416 then (if 16 ≤ 281474976710656 then (quorumlaw5_PageStays.l0 k (List.replicate 16 (⟨#[]⟩ : ByteArray)) (List.replicate 16 false) 0 l0_0 l0_1 l0_2 ([] : List ByteArray) ([] : List Int)) else (none)) else (none)))
theorem quorumlaw5_PageStays.mono_l : ∀ k, (∀ y0 y1 y2 y3 y4 y5 y6 y7, LeO (quorumlaw5_PageStays.l0 k y0 y1 y2 y3 y4 y5 y6 y7) (quorumlaw5_PageStays.l0 (k + 1) y0 y1 y2 y3 y4 y5 y6 y7)) ∧ (∀ y0 y1 y2 y3 y4 y5 y6 y7 y8, LeO (quorumlaw5_PageStays.j1 k y0 y1 y2 y3 y4 y5 y6 y7 y8) (quorumlaw5_PageStays.j1 (k + 1) y0 y1 y2 y3 y4 y5 y6 y7 y8)) ∧ (∀ y0 y1 y2 y3 y4 y5 y6 y7 y8, LeO (quorumlaw5_PageStays.j2 k y0 y1 y2 y3 y4 y5 y6 y7 y8) (quorumlaw5_PageStays.j2 (k + 1) y0 y1 y2 y3 y4 y5 y6 y7 y8)) ∧ (∀ y0 y1 y2 y3 y4 y5 y6 y7, LeO (quorumlaw5_PageStays.j5 k y0 y1 y2 y3 y4 y5 y6 y7) (quorumlaw5_PageStays.j5 (k + 1) y0 y1 y2 y3 y4 y5 y6 y7)) ∧ (∀ y0 y1 y2 y3 y4 y5 y6 y7 y8, LeO (quorumlaw5_PageStays.l1 k y0 y1 y2 y3 y4 y5 y6 y7 y8) (quorumlaw5_PageStays.l1 (k + 1) y0 y1 y2 y3 y4 y5 y6 y7 y8)) ∧ (∀ y0 y1 y2 y3 y4 y5 y6 y7 y8 y9, LeO (quorumlaw5_PageStays.j7 k y0 y1 y2 y3 y4 y5 y6 y7 y8 y9) (quorumlaw5_PageStays.j7 (k + 1) y0 y1 y2 y3 y4 y5 y6 y7 y8 y9)) ∧ (∀ y0 y1 y2 y3 y4 y5 y6 y7 y8 y9 y10 y11 y12, LeO (quorumlaw5_PageStays.j3 k y0 y1 y2 y3 y4 y5 y6 y7 y8 y9 y10 y11 y12) (quorumlaw5_PageStays.j3 (k + 1) y0 y1 y2 y3 y4 y5 y6 y7 y8 y9 y10 y11 y12)) ∧ (∀ y0 y1 y2 y3 y4 y5 y6 y7 y8 y9, LeO (quorumlaw5_PageStays.j4 k y0 y1 y2 y3 y4 y5 y6 y7 y8 y9) (quorumlaw5_PageStays.j4 (k + 1) y0 y1 y2 y3 y4 y5 y6 y7 y8 y9)) ∧ (∀ y0 y1 y2 y3, LeO (quorumlaw5_PageStays.l2 k y0 y1 y2 y3) (quorumlaw5_PageStays.l2 (k + 1) y0 y1 y2 y3))
 | 0 => ⟨fun _ _ _ _ _ _ _ _ r h => by simp [quorumlaw5_PageStays.l0] at h, fun _ _ _ _ _ _ _ _ _ r h => by simp [quorumlaw5_PageStays.j1] at h, fun _ _ _ _ _ _ _ _ _ r h => by simp [quorumlaw5_PageStays.j2] at h, fun _ _ _ _ _ _ _ _ r h => by simp [quorumlaw5_PageStays.j5] at h, fun _ _ _ _ _ _ _ _ _ r h => by simp [quorumlaw5_PageStays.l1] at h, fun _ _ _ _ _ _ _ _ _ _ r h => by simp [quorumlaw5_PageStays.j7] at h, fun _ _ _ _ _ _ _ _ _ _ _ _ _ r h => by simp [quorumlaw5_PageStays.j3] at h, fun _ _ _ _ _ _ _ _ _ _ r h => by simp [quorumlaw5_PageStays.j4] at h, fun _ _ _ _ r h => by simp [quorumlaw5_PageStays.l2] at h⟩
 | k + 1 => by
  obtain ⟨ih0, ih1, ih2, ih3, ih4, ih5, ih6, ih7, ih8⟩ := quorumlaw5_PageStays.mono_l k
  refine ⟨?_, ?_, ?_, ?_, ?_, ?_, ?_, ?_, ?_⟩
  ·intro y0 y1 y2 y3 y4 y5 y6 y7
   unfold quorumlaw5_PageStays.l0
   repeat' first
   | (with_reducible exact ih0 _ _ _ _ _ _ _ _)
   | (with_reducible exact ih1 _ _ _ _ _ _ _ _ _)
   | (with_reducible exact ih2 _ _ _ _ _ _ _ _ _)
   | (with_reducible exact ih3 _ _ _ _ _ _ _ _)
   | (with_reducible exact ih4 _ _ _ _ _ _ _ _ _)
   | (with_reducible exact ih5 _ _ _ _ _ _ _ _ _ _)
   | (with_reducible exact ih6 _ _ _ _ _ _ _ _ _ _ _ _ _)
   | (with_reducible exact ih7 _ _ _ _ _ _ _ _ _ _)
   | (with_reducible exact ih8 _ _ _ _)
   | (with_reducible exact page_Add.mono _ _ _ _)
   | (with_reducible exact page_Cut.mono _ _ _ _)
   | (with_reducible exact page_Get.mono _ _ _ _)
   | (with_reducible exact quorumlaw5_Heavy.mono _ _ _ _)
   | (with_reducible exact quorumlaw5_wakes.mono _)
   | (with_reducible exact quorumref0_EqPage.mono _ _ _ _ _)
   | (with_reducible exact quorumref4_Page.mono _ _ _)
   | (with_reducible exact LeO.refl _)
   | (with_reducible exact LeO.none _)
   | (with_reducible refine LeO.ite ?_ ?_)
   | (with_reducible refine LeO.bind ?_ (fun _ => ?_))
   | exact ih0 _ _ _ _ _ _ _ _
   | exact ih1 _ _ _ _ _ _ _ _ _
   | exact ih2 _ _ _ _ _ _ _ _ _
   | exact ih3 _ _ _ _ _ _ _ _
   | exact ih4 _ _ _ _ _ _ _ _ _
   | exact ih5 _ _ _ _ _ _ _ _ _ _
   | exact ih6 _ _ _ _ _ _ _ _ _ _ _ _ _
   | exact ih7 _ _ _ _ _ _ _ _ _ _
   | exact ih8 _ _ _ _
   | exact page_Add.mono _ _ _ _
   | exact page_Cut.mono _ _ _ _
   | exact page_Get.mono _ _ _ _
   | exact quorumlaw5_Heavy.mono _ _ _ _
   | exact quorumlaw5_wakes.mono _
   | exact quorumref0_EqPage.mono _ _ _ _ _
   | exact quorumref4_Page.mono _ _ _
   | exact LeO.none _
   | refine LeO.ite ?_ ?_
   | refine LeO.bind ?_ (fun _ => ?_)
  ·intro y0 y1 y2 y3 y4 y5 y6 y7 y8
   unfold quorumlaw5_PageStays.j1
   repeat' first
   | (with_reducible exact ih0 _ _ _ _ _ _ _ _)
   | (with_reducible exact ih1 _ _ _ _ _ _ _ _ _)
   | (with_reducible exact ih2 _ _ _ _ _ _ _ _ _)
   | (with_reducible exact ih3 _ _ _ _ _ _ _ _)
   | (with_reducible exact ih4 _ _ _ _ _ _ _ _ _)
   | (with_reducible exact ih5 _ _ _ _ _ _ _ _ _ _)
   | (with_reducible exact ih6 _ _ _ _ _ _ _ _ _ _ _ _ _)
   | (with_reducible exact ih7 _ _ _ _ _ _ _ _ _ _)
   | (with_reducible exact ih8 _ _ _ _)
   | (with_reducible exact page_Add.mono _ _ _ _)
   | (with_reducible exact page_Cut.mono _ _ _ _)
   | (with_reducible exact page_Get.mono _ _ _ _)
   | (with_reducible exact quorumlaw5_Heavy.mono _ _ _ _)
   | (with_reducible exact quorumlaw5_wakes.mono _)
   | (with_reducible exact quorumref0_EqPage.mono _ _ _ _ _)
   | (with_reducible exact quorumref4_Page.mono _ _ _)
   | (with_reducible exact LeO.refl _)
   | (with_reducible exact LeO.none _)
   | (with_reducible refine LeO.ite ?_ ?_)
   | (with_reducible refine LeO.bind ?_ (fun _ => ?_))
   | exact ih0 _ _ _ _ _ _ _ _
   | exact ih1 _ _ _ _ _ _ _ _ _
   | exact ih2 _ _ _ _ _ _ _ _ _
   | exact ih3 _ _ _ _ _ _ _ _
   | exact ih4 _ _ _ _ _ _ _ _ _
   | exact ih5 _ _ _ _ _ _ _ _ _ _
   | exact ih6 _ _ _ _ _ _ _ _ _ _ _ _ _
   | exact ih7 _ _ _ _ _ _ _ _ _ _
   | exact ih8 _ _ _ _
   | exact page_Add.mono _ _ _ _
   | exact page_Cut.mono _ _ _ _
   | exact page_Get.mono _ _ _ _
   | exact quorumlaw5_Heavy.mono _ _ _ _
   | exact quorumlaw5_wakes.mono _
   | exact quorumref0_EqPage.mono _ _ _ _ _
   | exact quorumref4_Page.mono _ _ _
   | exact LeO.none _
   | refine LeO.ite ?_ ?_
   | refine LeO.bind ?_ (fun _ => ?_)
  ·intro y0 y1 y2 y3 y4 y5 y6 y7 y8
   unfold quorumlaw5_PageStays.j2
   repeat' first
   | (with_reducible exact ih0 _ _ _ _ _ _ _ _)
   | (with_reducible exact ih1 _ _ _ _ _ _ _ _ _)
   | (with_reducible exact ih2 _ _ _ _ _ _ _ _ _)
   | (with_reducible exact ih3 _ _ _ _ _ _ _ _)
   | (with_reducible exact ih4 _ _ _ _ _ _ _ _ _)
   | (with_reducible exact ih5 _ _ _ _ _ _ _ _ _ _)
   | (with_reducible exact ih6 _ _ _ _ _ _ _ _ _ _ _ _ _)
   | (with_reducible exact ih7 _ _ _ _ _ _ _ _ _ _)
   | (with_reducible exact ih8 _ _ _ _)
   | (with_reducible exact page_Add.mono _ _ _ _)
   | (with_reducible exact page_Cut.mono _ _ _ _)
   | (with_reducible exact page_Get.mono _ _ _ _)
   | (with_reducible exact quorumlaw5_Heavy.mono _ _ _ _)
   | (with_reducible exact quorumlaw5_wakes.mono _)
   | (with_reducible exact quorumref0_EqPage.mono _ _ _ _ _)
   | (with_reducible exact quorumref4_Page.mono _ _ _)
   | (with_reducible exact LeO.refl _)
   | (with_reducible exact LeO.none _)
   | (with_reducible refine LeO.ite ?_ ?_)
   | (with_reducible refine LeO.bind ?_ (fun _ => ?_))
   | exact ih0 _ _ _ _ _ _ _ _
   | exact ih1 _ _ _ _ _ _ _ _ _
   | exact ih2 _ _ _ _ _ _ _ _ _
   | exact ih3 _ _ _ _ _ _ _ _
   | exact ih4 _ _ _ _ _ _ _ _ _
   | exact ih5 _ _ _ _ _ _ _ _ _ _
   | exact ih6 _ _ _ _ _ _ _ _ _ _ _ _ _
   | exact ih7 _ _ _ _ _ _ _ _ _ _
   | exact ih8 _ _ _ _
   | exact page_Add.mono _ _ _ _
   | exact page_Cut.mono _ _ _ _
   | exact page_Get.mono _ _ _ _
   | exact quorumlaw5_Heavy.mono _ _ _ _
   | exact quorumlaw5_wakes.mono _
   | exact quorumref0_EqPage.mono _ _ _ _ _
   | exact quorumref4_Page.mono _ _ _
   | exact LeO.none _
   | refine LeO.ite ?_ ?_
   | refine LeO.bind ?_ (fun _ => ?_)
  ·intro y0 y1 y2 y3 y4 y5 y6 y7
   unfold quorumlaw5_PageStays.j5
   repeat' first
   | (with_reducible exact ih0 _ _ _ _ _ _ _ _)
   | (with_reducible exact ih1 _ _ _ _ _ _ _ _ _)
   | (with_reducible exact ih2 _ _ _ _ _ _ _ _ _)
   | (with_reducible exact ih3 _ _ _ _ _ _ _ _)
   | (with_reducible exact ih4 _ _ _ _ _ _ _ _ _)
   | (with_reducible exact ih5 _ _ _ _ _ _ _ _ _ _)
   | (with_reducible exact ih6 _ _ _ _ _ _ _ _ _ _ _ _ _)
   | (with_reducible exact ih7 _ _ _ _ _ _ _ _ _ _)
   | (with_reducible exact ih8 _ _ _ _)
   | (with_reducible exact page_Add.mono _ _ _ _)
   | (with_reducible exact page_Cut.mono _ _ _ _)
   | (with_reducible exact page_Get.mono _ _ _ _)
   | (with_reducible exact quorumlaw5_Heavy.mono _ _ _ _)
   | (with_reducible exact quorumlaw5_wakes.mono _)
   | (with_reducible exact quorumref0_EqPage.mono _ _ _ _ _)
   | (with_reducible exact quorumref4_Page.mono _ _ _)
   | (with_reducible exact LeO.refl _)
   | (with_reducible exact LeO.none _)
   | (with_reducible refine LeO.ite ?_ ?_)
   | (with_reducible refine LeO.bind ?_ (fun _ => ?_))
   | exact ih0 _ _ _ _ _ _ _ _
   | exact ih1 _ _ _ _ _ _ _ _ _
   | exact ih2 _ _ _ _ _ _ _ _ _
   | exact ih3 _ _ _ _ _ _ _ _
   | exact ih4 _ _ _ _ _ _ _ _ _
   | exact ih5 _ _ _ _ _ _ _ _ _ _
   | exact ih6 _ _ _ _ _ _ _ _ _ _ _ _ _
   | exact ih7 _ _ _ _ _ _ _ _ _ _
   | exact ih8 _ _ _ _
   | exact page_Add.mono _ _ _ _
   | exact page_Cut.mono _ _ _ _
   | exact page_Get.mono _ _ _ _
   | exact quorumlaw5_Heavy.mono _ _ _ _
   | exact quorumlaw5_wakes.mono _
   | exact quorumref0_EqPage.mono _ _ _ _ _
   | exact quorumref4_Page.mono _ _ _
   | exact LeO.none _
   | refine LeO.ite ?_ ?_
   | refine LeO.bind ?_ (fun _ => ?_)
  ·intro y0 y1 y2 y3 y4 y5 y6 y7 y8
   unfold quorumlaw5_PageStays.l1
   repeat' first
   | (with_reducible exact ih0 _ _ _ _ _ _ _ _)
   | (with_reducible exact ih1 _ _ _ _ _ _ _ _ _)
   | (with_reducible exact ih2 _ _ _ _ _ _ _ _ _)
   | (with_reducible exact ih3 _ _ _ _ _ _ _ _)
   | (with_reducible exact ih4 _ _ _ _ _ _ _ _ _)
   | (with_reducible exact ih5 _ _ _ _ _ _ _ _ _ _)
   | (with_reducible exact ih6 _ _ _ _ _ _ _ _ _ _ _ _ _)
   | (with_reducible exact ih7 _ _ _ _ _ _ _ _ _ _)
   | (with_reducible exact ih8 _ _ _ _)
   | (with_reducible exact page_Add.mono _ _ _ _)
   | (with_reducible exact page_Cut.mono _ _ _ _)
   | (with_reducible exact page_Get.mono _ _ _ _)
   | (with_reducible exact quorumlaw5_Heavy.mono _ _ _ _)
   | (with_reducible exact quorumlaw5_wakes.mono _)
   | (with_reducible exact quorumref0_EqPage.mono _ _ _ _ _)
   | (with_reducible exact quorumref4_Page.mono _ _ _)
   | (with_reducible exact LeO.refl _)
   | (with_reducible exact LeO.none _)
   | (with_reducible refine LeO.ite ?_ ?_)
   | (with_reducible refine LeO.bind ?_ (fun _ => ?_))
   | exact ih0 _ _ _ _ _ _ _ _
   | exact ih1 _ _ _ _ _ _ _ _ _
   | exact ih2 _ _ _ _ _ _ _ _ _
   | exact ih3 _ _ _ _ _ _ _ _
   | exact ih4 _ _ _ _ _ _ _ _ _
   | exact ih5 _ _ _ _ _ _ _ _ _ _
   | exact ih6 _ _ _ _ _ _ _ _ _ _ _ _ _
   | exact ih7 _ _ _ _ _ _ _ _ _ _
   | exact ih8 _ _ _ _
   | exact page_Add.mono _ _ _ _
   | exact page_Cut.mono _ _ _ _
   | exact page_Get.mono _ _ _ _
   | exact quorumlaw5_Heavy.mono _ _ _ _
   | exact quorumlaw5_wakes.mono _
   | exact quorumref0_EqPage.mono _ _ _ _ _
   | exact quorumref4_Page.mono _ _ _
   | exact LeO.none _
   | refine LeO.ite ?_ ?_
   | refine LeO.bind ?_ (fun _ => ?_)
  ·intro y0 y1 y2 y3 y4 y5 y6 y7 y8 y9
   unfold quorumlaw5_PageStays.j7
   repeat' first
   | (with_reducible exact ih0 _ _ _ _ _ _ _ _)
   | (with_reducible exact ih1 _ _ _ _ _ _ _ _ _)
   | (with_reducible exact ih2 _ _ _ _ _ _ _ _ _)
   | (with_reducible exact ih3 _ _ _ _ _ _ _ _)
   | (with_reducible exact ih4 _ _ _ _ _ _ _ _ _)
   | (with_reducible exact ih5 _ _ _ _ _ _ _ _ _ _)
   | (with_reducible exact ih6 _ _ _ _ _ _ _ _ _ _ _ _ _)
   | (with_reducible exact ih7 _ _ _ _ _ _ _ _ _ _)
   | (with_reducible exact ih8 _ _ _ _)
   | (with_reducible exact page_Add.mono _ _ _ _)
   | (with_reducible exact page_Cut.mono _ _ _ _)
   | (with_reducible exact page_Get.mono _ _ _ _)
   | (with_reducible exact quorumlaw5_Heavy.mono _ _ _ _)
   | (with_reducible exact quorumlaw5_wakes.mono _)
   | (with_reducible exact quorumref0_EqPage.mono _ _ _ _ _)
   | (with_reducible exact quorumref4_Page.mono _ _ _)
   | (with_reducible exact LeO.refl _)
   | (with_reducible exact LeO.none _)
   | (with_reducible refine LeO.ite ?_ ?_)
   | (with_reducible refine LeO.bind ?_ (fun _ => ?_))
   | exact ih0 _ _ _ _ _ _ _ _
   | exact ih1 _ _ _ _ _ _ _ _ _
   | exact ih2 _ _ _ _ _ _ _ _ _
   | exact ih3 _ _ _ _ _ _ _ _
   | exact ih4 _ _ _ _ _ _ _ _ _
   | exact ih5 _ _ _ _ _ _ _ _ _ _
   | exact ih6 _ _ _ _ _ _ _ _ _ _ _ _ _
   | exact ih7 _ _ _ _ _ _ _ _ _ _
   | exact ih8 _ _ _ _
   | exact page_Add.mono _ _ _ _
   | exact page_Cut.mono _ _ _ _
   | exact page_Get.mono _ _ _ _
   | exact quorumlaw5_Heavy.mono _ _ _ _
   | exact quorumlaw5_wakes.mono _
   | exact quorumref0_EqPage.mono _ _ _ _ _
   | exact quorumref4_Page.mono _ _ _
   | exact LeO.none _
   | refine LeO.ite ?_ ?_
   | refine LeO.bind ?_ (fun _ => ?_)
  ·intro y0 y1 y2 y3 y4 y5 y6 y7 y8 y9 y10 y11 y12
   unfold quorumlaw5_PageStays.j3
   repeat' first
   | (with_reducible exact ih0 _ _ _ _ _ _ _ _)
   | (with_reducible exact ih1 _ _ _ _ _ _ _ _ _)
   | (with_reducible exact ih2 _ _ _ _ _ _ _ _ _)
   | (with_reducible exact ih3 _ _ _ _ _ _ _ _)
   | (with_reducible exact ih4 _ _ _ _ _ _ _ _ _)
   | (with_reducible exact ih5 _ _ _ _ _ _ _ _ _ _)
   | (with_reducible exact ih6 _ _ _ _ _ _ _ _ _ _ _ _ _)
   | (with_reducible exact ih7 _ _ _ _ _ _ _ _ _ _)
   | (with_reducible exact ih8 _ _ _ _)
   | (with_reducible exact page_Add.mono _ _ _ _)
   | (with_reducible exact page_Cut.mono _ _ _ _)
   | (with_reducible exact page_Get.mono _ _ _ _)
   | (with_reducible exact quorumlaw5_Heavy.mono _ _ _ _)
   | (with_reducible exact quorumlaw5_wakes.mono _)
   | (with_reducible exact quorumref0_EqPage.mono _ _ _ _ _)
   | (with_reducible exact quorumref4_Page.mono _ _ _)
   | (with_reducible exact LeO.refl _)
   | (with_reducible exact LeO.none _)
   | (with_reducible refine LeO.ite ?_ ?_)
   | (with_reducible refine LeO.bind ?_ (fun _ => ?_))
   | exact ih0 _ _ _ _ _ _ _ _
   | exact ih1 _ _ _ _ _ _ _ _ _
   | exact ih2 _ _ _ _ _ _ _ _ _
   | exact ih3 _ _ _ _ _ _ _ _
   | exact ih4 _ _ _ _ _ _ _ _ _
   | exact ih5 _ _ _ _ _ _ _ _ _ _
   | exact ih6 _ _ _ _ _ _ _ _ _ _ _ _ _
   | exact ih7 _ _ _ _ _ _ _ _ _ _
   | exact ih8 _ _ _ _
   | exact page_Add.mono _ _ _ _
   | exact page_Cut.mono _ _ _ _
   | exact page_Get.mono _ _ _ _
   | exact quorumlaw5_Heavy.mono _ _ _ _
   | exact quorumlaw5_wakes.mono _
   | exact quorumref0_EqPage.mono _ _ _ _ _
   | exact quorumref4_Page.mono _ _ _
   | exact LeO.none _
   | refine LeO.ite ?_ ?_
   | refine LeO.bind ?_ (fun _ => ?_)
  ·intro y0 y1 y2 y3 y4 y5 y6 y7 y8 y9
   unfold quorumlaw5_PageStays.j4
   repeat' first
   | (with_reducible exact ih0 _ _ _ _ _ _ _ _)
   | (with_reducible exact ih1 _ _ _ _ _ _ _ _ _)
   | (with_reducible exact ih2 _ _ _ _ _ _ _ _ _)
   | (with_reducible exact ih3 _ _ _ _ _ _ _ _)
   | (with_reducible exact ih4 _ _ _ _ _ _ _ _ _)
   | (with_reducible exact ih5 _ _ _ _ _ _ _ _ _ _)
   | (with_reducible exact ih6 _ _ _ _ _ _ _ _ _ _ _ _ _)
   | (with_reducible exact ih7 _ _ _ _ _ _ _ _ _ _)
   | (with_reducible exact ih8 _ _ _ _)
   | (with_reducible exact page_Add.mono _ _ _ _)
   | (with_reducible exact page_Cut.mono _ _ _ _)
   | (with_reducible exact page_Get.mono _ _ _ _)
   | (with_reducible exact quorumlaw5_Heavy.mono _ _ _ _)
   | (with_reducible exact quorumlaw5_wakes.mono _)
   | (with_reducible exact quorumref0_EqPage.mono _ _ _ _ _)
   | (with_reducible exact quorumref4_Page.mono _ _ _)
   | (with_reducible exact LeO.refl _)
   | (with_reducible exact LeO.none _)
   | (with_reducible refine LeO.ite ?_ ?_)
   | (with_reducible refine LeO.bind ?_ (fun _ => ?_))
   | exact ih0 _ _ _ _ _ _ _ _
   | exact ih1 _ _ _ _ _ _ _ _ _
   | exact ih2 _ _ _ _ _ _ _ _ _
   | exact ih3 _ _ _ _ _ _ _ _
   | exact ih4 _ _ _ _ _ _ _ _ _
   | exact ih5 _ _ _ _ _ _ _ _ _ _
   | exact ih6 _ _ _ _ _ _ _ _ _ _ _ _ _
   | exact ih7 _ _ _ _ _ _ _ _ _ _
   | exact ih8 _ _ _ _
   | exact page_Add.mono _ _ _ _
   | exact page_Cut.mono _ _ _ _
   | exact page_Get.mono _ _ _ _
   | exact quorumlaw5_Heavy.mono _ _ _ _
   | exact quorumlaw5_wakes.mono _
   | exact quorumref0_EqPage.mono _ _ _ _ _
   | exact quorumref4_Page.mono _ _ _
   | exact LeO.none _
   | refine LeO.ite ?_ ?_
   | refine LeO.bind ?_ (fun _ => ?_)
  ·intro y0 y1 y2 y3
   unfold quorumlaw5_PageStays.l2
   repeat' first
   | (with_reducible exact ih0 _ _ _ _ _ _ _ _)
   | (with_reducible exact ih1 _ _ _ _ _ _ _ _ _)
   | (with_reducible exact ih2 _ _ _ _ _ _ _ _ _)
   | (with_reducible exact ih3 _ _ _ _ _ _ _ _)
   | (with_reducible exact ih4 _ _ _ _ _ _ _ _ _)
   | (with_reducible exact ih5 _ _ _ _ _ _ _ _ _ _)
   | (with_reducible exact ih6 _ _ _ _ _ _ _ _ _ _ _ _ _)
   | (with_reducible exact ih7 _ _ _ _ _ _ _ _ _ _)
   | (with_reducible exact ih8 _ _ _ _)
   | (with_reducible exact page_Add.mono _ _ _ _)
   | (with_reducible exact page_Cut.mono _ _ _ _)
   | (with_reducible exact page_Get.mono _ _ _ _)
   | (with_reducible exact quorumlaw5_Heavy.mono _ _ _ _)
   | (with_reducible exact quorumlaw5_wakes.mono _)
   | (with_reducible exact quorumref0_EqPage.mono _ _ _ _ _)
   | (with_reducible exact quorumref4_Page.mono _ _ _)
   | (with_reducible exact LeO.refl _)
   | (with_reducible exact LeO.none _)
   | (with_reducible refine LeO.ite ?_ ?_)
   | (with_reducible refine LeO.bind ?_ (fun _ => ?_))
   | exact ih0 _ _ _ _ _ _ _ _
   | exact ih1 _ _ _ _ _ _ _ _ _
   | exact ih2 _ _ _ _ _ _ _ _ _
   | exact ih3 _ _ _ _ _ _ _ _
   | exact ih4 _ _ _ _ _ _ _ _ _
   | exact ih5 _ _ _ _ _ _ _ _ _ _
   | exact ih6 _ _ _ _ _ _ _ _ _ _ _ _ _
   | exact ih7 _ _ _ _ _ _ _ _ _ _
   | exact ih8 _ _ _ _
   | exact page_Add.mono _ _ _ _
   | exact page_Cut.mono _ _ _ _
   | exact page_Get.mono _ _ _ _
   | exact quorumlaw5_Heavy.mono _ _ _ _
   | exact quorumlaw5_wakes.mono _
   | exact quorumref0_EqPage.mono _ _ _ _ _
   | exact quorumref4_Page.mono _ _ _
   | exact LeO.none _
   | refine LeO.ite ?_ ?_
   | refine LeO.bind ?_ (fun _ => ?_)
theorem quorumlaw5_PageStays.mono : ∀ a0 a1 a2 k, LeO (quorumlaw5_PageStays.f k a0 a1 a2) (quorumlaw5_PageStays.f (k + 1) a0 a1 a2) := by
 intro a0 a1 a2 k
 obtain ⟨ih0, ih1, ih2, ih3, ih4, ih5, ih6, ih7, ih8⟩ := quorumlaw5_PageStays.mono_l k
 unfold quorumlaw5_PageStays.f
 repeat' first
   | (with_reducible exact ih0 _ _ _ _ _ _ _ _)
   | (with_reducible exact ih1 _ _ _ _ _ _ _ _ _)
   | (with_reducible exact ih2 _ _ _ _ _ _ _ _ _)
   | (with_reducible exact ih3 _ _ _ _ _ _ _ _)
   | (with_reducible exact ih4 _ _ _ _ _ _ _ _ _)
   | (with_reducible exact ih5 _ _ _ _ _ _ _ _ _ _)
   | (with_reducible exact ih6 _ _ _ _ _ _ _ _ _ _ _ _ _)
   | (with_reducible exact ih7 _ _ _ _ _ _ _ _ _ _)
   | (with_reducible exact ih8 _ _ _ _)
   | (with_reducible exact page_Add.mono _ _ _ _)
   | (with_reducible exact page_Cut.mono _ _ _ _)
   | (with_reducible exact page_Get.mono _ _ _ _)
   | (with_reducible exact quorumlaw5_Heavy.mono _ _ _ _)
   | (with_reducible exact quorumlaw5_wakes.mono _)
   | (with_reducible exact quorumref0_EqPage.mono _ _ _ _ _)
   | (with_reducible exact quorumref4_Page.mono _ _ _)
   | (with_reducible exact LeO.refl _)
   | (with_reducible exact LeO.none _)
   | (with_reducible refine LeO.ite ?_ ?_)
   | (with_reducible refine LeO.bind ?_ (fun _ => ?_))
   | exact ih0 _ _ _ _ _ _ _ _
   | exact ih1 _ _ _ _ _ _ _ _ _
   | exact ih2 _ _ _ _ _ _ _ _ _
   | exact ih3 _ _ _ _ _ _ _ _
   | exact ih4 _ _ _ _ _ _ _ _ _
   | exact ih5 _ _ _ _ _ _ _ _ _ _
   | exact ih6 _ _ _ _ _ _ _ _ _ _ _ _ _
   | exact ih7 _ _ _ _ _ _ _ _ _ _
   | exact ih8 _ _ _ _
   | exact page_Add.mono _ _ _ _
   | exact page_Cut.mono _ _ _ _
   | exact page_Get.mono _ _ _ _
   | exact quorumlaw5_Heavy.mono _ _ _ _
   | exact quorumlaw5_wakes.mono _
   | exact quorumref0_EqPage.mono _ _ _ _ _
   | exact quorumref4_Page.mono _ _ _
   | exact LeO.none _
   | refine LeO.ite ?_ ?_
   | refine LeO.bind ?_ (fun _ => ?_)
def quorumlaw5_PageStays.T10 : Bool × List (List Nat × List Nat) := (true, [([], []), ([0], [0]), ([], []), ([1, 2], [1, 2]), ([3], [3]), ([4], [4]), ([], []), ([6], [6]), ([7], [7]), ([5, 8], [5, 8]), ([9, 9, 0, 1, 2, 3, 4, 5, 6, 7, 8, 9], [9])])
def quorumlaw5_PageStays.B10 : List Nat := [0, 1, 0, 7, 15, 31, 0, 64, 192, 511, 1023]
theorem quorumlaw5_PageStays.tab10 : rtab .any (opsOf Try.f4 10) = quorumlaw5_PageStays.T10 := by kernel_rfl
theorem quorumlaw5_PageStays.bits10 : waitsOk quorumlaw5_PageStays.T10.2 quorumlaw5_PageStays.B10 = true := by kernel_rfl
def quorumlaw5_PageStays.T12 : Bool × List (List Nat × List Nat) := (true, [([], []), ([0], [0]), ([1], [1]), ([2], [2]), ([3, 2, 2], [2, 3]), ([4, 2], [2, 4]), ([2], [2]), ([2], [2]), ([6, 7, 2], [2, 6, 7]), ([8, 2], [2, 8]), ([5, 9, 2], [2, 5, 9]), ([2, 10], [2, 10])])
def quorumlaw5_PageStays.B12 : List Nat := [0, 1, 3, 7, 15, 31, 7, 7, 199, 455, 1023, 2047]
theorem quorumlaw5_PageStays.tab12 : rtab .any (opsOf Try.f4 12) = quorumlaw5_PageStays.T12 := by kernel_rfl
theorem quorumlaw5_PageStays.bits12 : waitsOk quorumlaw5_PageStays.T12.2 quorumlaw5_PageStays.B12 = true := by kernel_rfl
def quorumlaw5_PageStays.T16 : Bool × List (List Nat × List Nat) := (true, [([], []), ([], []), ([1], [1]), ([], []), ([2, 3], [2, 3]), ([4], [4]), ([5], [5]), ([0, 6], [0, 6]), ([7], [7]), ([8], [8]), ([8], [8]), ([8], [8]), ([], []), ([12, 9, 7, 0, 1, 2, 3, 4, 5, 6, 7, 8, 9, 12], [9, 12]), ([10, 13, 0, 1, 2, 3, 4, 5, 6, 7, 8, 9, 10, 12, 13], [10]), ([11, 14, 0, 1, 2, 3, 4, 5, 6, 7, 8, 9, 10, 11, 12, 13, 14], [11])])
def quorumlaw5_PageStays.B16 : List Nat := [0, 0, 2, 0, 14, 30, 62, 127, 255, 511, 511, 511, 0, 5119, 14335, 32767]
theorem quorumlaw5_PageStays.tab16 : rtab .any (opsOf Try.f4 16) = quorumlaw5_PageStays.T16 := by kernel_rfl
theorem quorumlaw5_PageStays.bits16 : waitsOk quorumlaw5_PageStays.T16.2 quorumlaw5_PageStays.B16 = true := by kernel_rfl
def quorumlaw5_PageStays.T20 : Bool × List (List Nat × List Nat) := (true, [([], []), ([], []), ([], []), ([], []), ([], []), ([], []), ([5], [5]), ([], []), ([6, 7], [6, 7]), ([8], [8]), ([9], [9]), ([4, 4, 10], [4]), ([0, 1, 0, 1, 4, 10, 11], [0, 1]), ([12, 11, 0, 1, 4, 10, 11], [12]), ([2, 3, 0, 1, 2, 3, 4, 5, 6, 7, 8, 9, 10, 11, 12, 13], [2, 3]), ([14, 10, 13, 0, 1, 2, 3, 4, 5, 6, 7, 8, 9, 10, 11, 12, 13], [10, 14])])
def quorumlaw5_PageStays.B20 : List Nat := [0, 0, 0, 0, 0, 0, 32, 0, 224, 480, 992, 2032, 4083, 8179, 16383, 32767]
theorem quorumlaw5_PageStays.tab20 : rtab .any (opsOf Try.f4 20) = quorumlaw5_PageStays.T20 := by kernel_rfl
theorem quorumlaw5_PageStays.bits20 : waitsOk quorumlaw5_PageStays.T20.2 quorumlaw5_PageStays.B20 = true := by kernel_rfl
def quorumlaw5_PageStays.T27 : Bool × List (List Nat × List Nat) := (true, [([], []), ([0], [0]), ([1], [1]), ([], []), ([], []), ([3, 4], [3, 4]), ([5], [5]), ([2, 6], [2, 6]), ([7, 1], [7]), ([8], [8]), ([8], [8]), ([9, 10, 8], [8, 9, 10]), ([11, 8], [8, 11]), ([12, 8, 8], [8, 12]), ([13], [13]), ([13], [13]), ([13], [13]), ([15, 16, 13], [13, 15, 16]), ([17, 13], [13, 17]), ([14, 18, 13], [13, 14, 18]), ([13, 19, 8], [8, 13, 19]), ([8, 20], [8, 20])])
def quorumlaw5_PageStays.B27 : List Nat := [0, 1, 3, 0, 0, 24, 56, 127, 255, 511, 511, 2047, 4095, 8191, 16383, 16383, 16383, 114687, 245759, 524287, 1048575, 2097151]
theorem quorumlaw5_PageStays.tab27 : rtab .any (opsOf Try.f4 27) = quorumlaw5_PageStays.T27 := by kernel_rfl
theorem quorumlaw5_PageStays.bits27 : waitsOk quorumlaw5_PageStays.T27.2 quorumlaw5_PageStays.B27 = true := by kernel_rfl
set_option maxHeartbeats 8000000 in
set_option maxRecDepth 100000 in
theorem quorumlaw5_PageStays.calls (k : Nat) (A0_0 : Option Addr) (c0_0 : Nat) (l0_0 : List ByteArray) (A0_1 : Option Addr) (c0_1 : Nat) (l0_1 : List Int) (A0_2 : Option Addr) (c0_2 : Nat) (l0_2 : List (S64)) (r : Bool) (w : World) (hr0_0 : Kd.C Kd.string w A0_0 l0_0.length l0_0) (hc0_0 : l0_0.length ≤ c0_0) (hr0_1 : Kd.C (Kd.int .i64) w A0_1 l0_1.length l0_1) (hc0_1 : l0_1.length ≤ c0_1) (hr0_2 : Kd.C k64 w A0_2 l0_2.length l0_2) (hc0_2 : l0_2.length ≤ c0_2) (h : quorumlaw5_PageStays.f k l0_0 l0_1 l0_2 = some r) :
  Calls Try.prog 4 #[.agg #[.slice A0_0 l0_0.length c0_0, .slice A0_1 l0_1.length c0_1, .slice A0_2 l0_2.length c0_2]] w fun e w' => e = .returned (.bool r) ∧ Below w.heap.size w w' := by
 have hu59 := Try.underlying59
 have hu56 := Try.underlying56
 have HR0_0 := mk0 hr0_0
 have HC0_0 := mk0 hc0_0
 clear hr0_0 hc0_0
 have HR0_1 := mk0 hr0_1
 have HC0_1 := mk0 hc0_1
 clear hr0_1 hc0_1
 have HR0_2 := mk0 hr0_2
 have HC0_2 := mk0 hc0_2
 clear hr0_2 hc0_2
 have HB := mk0 (Below.refl w.heap.size w)
 have H : ((quorumlaw5_Heavy.f k l0_0 l0_1 l0_2).bind fun t432 => (if t432 = true then (some true) else (if 16 ≤ 17592186044416 then (if 16 ≤ 281474976710656 then (quorumlaw5_PageStays.l0 k (List.replicate 16 (⟨#[]⟩ : ByteArray)) (List.replicate 16 false) 0 l0_0 l0_1 l0_2 ([] : List ByteArray) ([] : List Int)) else (none)) else (none)))) = some r := h
 clear h
 replace H := Option.bind_eq_some_iff.mp H
 obtain ⟨t432, A20, H⟩ := H
 try dsimp only at H
 have A2 := mk0 A20
 clear A20
 by_cases c3 : t432 = true
 ·subst c3
  rw [if_pos rfl] at H
  obtain rfl := Option.some.inj H
  go_enter Try.func4, Try.ntmps4
  go_wp2_with (first | ((with_reducible refine gate_dst (N := 1) rfl ?_); (try (refine gate_guard (by rfl) ?_; dsimp only)); refine bx_ (N := 1) (cs := #[.slice A0_0 l0_0.length c0_0, .slice A0_1 l0_1.length c0_1, .slice A0_2 l0_2.length c0_2]) (t := 59) (h := ?_); intro gb431 hg w4 hbox hb; have n2_ := mk0 (gz_ HB hg); have n3_ := mk0 (gz_ HB hg); replace HB := mk0 (bt_ (b_ HB) hb); have BK431 := mk0 (hbox); have GW431 := n2_; have GE431 := n3_; clear n2_ n3_ hb hbox hg; obtain ⟨hcz5_0, hcz5_1, hcz5_2, hfz5_0, hfz5_1, hfz5_2⟩ := c3_ BK431) | ((with_reducible refine gate_callee (f := 32) rfl ?_); refine gL_ (some 20) Try.func32 #[.agg #[.slice A0_0 l0_0.length c0_0, .slice A0_1 l0_1.length c0_1, .slice A0_2 l0_2.length c0_2]] (h := ?_); (with_reducible refine (quorumlaw5_Heavy.calls k _ _ l0_0 _ _ l0_1 _ _ l0_2 true _ ?side1 ?side2 ?side3 ?side4 ?side5 ?side6 A2.out).mono ?_); (case side1 => exact cb_ HR0_0 HB); (case side2 => exact HC0_0.out); (case side3 => exact cb_ HR0_1 HB); (case side4 => exact HC0_1.out); (case side5 => exact cb_ HR0_2 HB); (case side6 => exact HC0_2.out); rintro e w6 ⟨rfl, hb⟩; refine ⟨_, rfl, ?_⟩; replace BK431 := mk0 (u_ BK431 hb); replace HB := mk0 (bt_ (b_ HB) hb); (try clear hb)))
  go_ret
  exact ⟨by first | rfl | (simp [errW_none, errW_some] <;> rfl) | (simp [*, errW_none, errW_some] <;> rfl), b_ HB⟩
 ·replace c3 := Bool.eq_false_iff.mpr c3
  subst c3
  rw [if_neg (show ¬ (false = true) by decide)] at H
  by_cases c7 : 16 ≤ 17592186044416
  ·rw [if_pos c7] at H
   have c7b0 := eq_true c7
   have c7b1 : decide (16 ≤ 17592186044416) = true := decide_eq_true c7
   clear c7
   obtain ⟨y434, hy434⟩ : ∃ y_ : List ByteArray, y_ = (List.replicate 16 (⟨#[]⟩ : ByteArray)) := ⟨_, rfl⟩
   replace H : (if 16 ≤ 281474976710656 then (quorumlaw5_PageStays.l0 k y434 (List.replicate 16 false) 0 l0_0 l0_1 l0_2 ([] : List ByteArray) ([] : List Int)) else (none)) = some r := by first | (rw [hy434]; with_reducible exact H) | (have H2_ := (Option.bind_some _ _).symm.trans H; rw [hy434]; with_reducible exact H2_) | (have H2_ := (Option.bind_some _ _).symm.trans H; with_reducible exact H2_) | with_reducible exact H | (rw [hy434]; exact H) | exact H
   have Ny434 := mk0 hy434
   clear hy434
   by_cases c8 : 16 ≤ 281474976710656
   ·rw [if_pos c8] at H
    have c8b0 := eq_true c8
    have c8b1 : decide (16 ≤ 281474976710656) = true := decide_eq_true c8
    clear c8
    obtain ⟨y437, hy437⟩ : ∃ y_ : List Bool, y_ = (List.replicate 16 false) := ⟨_, rfl⟩
    replace H : (quorumlaw5_PageStays.l0 k y434 y437 0 l0_0 l0_1 l0_2 ([] : List ByteArray) ([] : List Int)) = some r := by first | (rw [hy437]; with_reducible exact H) | (have H2_ := (Option.bind_some _ _).symm.trans H; rw [hy437]; with_reducible exact H2_) | (have H2_ := (Option.bind_some _ _).symm.trans H; with_reducible exact H2_) | with_reducible exact H | (rw [hy437]; exact H) | exact H
    have Ny437 := mk0 hy437
    clear hy437
    have H' := mk0 H
    clear H
    go_enter Try.func4, Try.ntmps4
    go_wp2_with (first | ((with_reducible refine gate_dst (N := 1) rfl ?_); (try (refine gate_guard (by rfl) ?_; dsimp only)); refine bx_ (N := 1) (cs := #[.slice A0_0 l0_0.length c0_0, .slice A0_1 l0_1.length c0_1, .slice A0_2 l0_2.length c0_2]) (t := 59) (h := ?_); intro gb431 hg w9 hbox hb; have n2_ := mk0 (gz_ HB hg); have n3_ := mk0 (gz_ HB hg); replace HB := mk0 (bt_ (b_ HB) hb); have BK431 := mk0 (hbox); have GW431 := n2_; have GE431 := n3_; clear n2_ n3_ hb hbox hg; obtain ⟨hcz10_0, hcz10_1, hcz10_2, hfz10_0, hfz10_1, hfz10_2⟩ := c3_ BK431) | ((with_reducible refine gate_callee (f := 32) rfl ?_); refine gL_ (some 20) Try.func32 #[.agg #[.slice A0_0 l0_0.length c0_0, .slice A0_1 l0_1.length c0_1, .slice A0_2 l0_2.length c0_2]] (h := ?_); (with_reducible refine (quorumlaw5_Heavy.calls k _ _ l0_0 _ _ l0_1 _ _ l0_2 false _ ?side1 ?side2 ?side3 ?side4 ?side5 ?side6 A2.out).mono ?_); (case side1 => exact cb_ HR0_0 HB); (case side2 => exact HC0_0.out); (case side3 => exact cb_ HR0_1 HB); (case side4 => exact HC0_1.out); (case side5 => exact cb_ HR0_2 HB); (case side6 => exact HC0_2.out); rintro e w11 ⟨rfl, hb⟩; refine ⟨_, rfl, ?_⟩; replace BK431 := mk0 (u_ BK431 hb); replace HB := mk0 (bt_ (b_ HB) hb); (try clear hb)) | ((with_reducible refine gate_dst (N := 3) rfl ?_); (try (refine gate_guard (by rfl) ?_; dsimp only)); refine bx_ (N := 3) (cs := #[.slice none 0 0, .slice none 0 0]) (t := 56) (h := ?_); intro gb433 hg w12 hbox hb; have n3_ := mk0 (gz_ HB hg); have n4_ := mk0 (gz_ HB hg); have n5_ := mk0 (ne1_ BK431 hg); have n6_ := mk0 (ne2_ BK431 hg); replace BK431 := mk0 (u_ BK431 hb); replace HB := mk0 (bt_ (b_ HB) hb); have BK433 := mk0 (hbox); have GW433 := n3_; have GE433 := n4_; have NB431_433 := n5_; have NB433_431 := n6_; clear n3_ n4_ n5_ n6_; clear hb hbox hg) | ((with_reducible refine gate_dst (N := 21) rfl ?_); (try (refine gate_guard (by rfl) ?_; dsimp only)); refine Kd.R_make Kd.string _ 9 rfl (N := 21) rfl 25 _ _ rfl 16 rfl rfl Try.underlying25 (.string ⟨#[]⟩) 16 info9 rfl (by decide) (by omega) (⟨#[]⟩ : ByteArray) (ok := fun _ => True) (okp := fun _ => True) rfl (fun _ hk => hk) trivial (by omega) (by omega) (Below.refl _ _) (Nat.le_refl _) ?_; intro v435 w13 ho14 hb hg_ hnew_; clear hg_ hnew_; (first | rw [← Ny434.out] at ho14 | (simp only [Int.reduceToNat] at ho14; rw [← Ny434.out] at ho14)); have n0_ := mk0 (Kd.R_lower ho14 (bz_ (b_ HB))); replace BK431 := mk0 (u_ BK431 hb); replace BK433 := mk0 (u_ BK433 hb); replace HB := mk0 (bt_ (b_ HB) hb); have HO436 := n0_; clear n0_; clear hb ho14) | ((with_reducible refine gate_dst (N := 22) rfl ?_); (try (refine gate_guard (by rfl) ?_; dsimp only)); refine Kd.R_make Kd.bool _ 4 rfl (N := 22) rfl 61 _ _ rfl 16 rfl rfl Try.underlying61 (.bool false) 1 info4 rfl (by decide) (by omega) false (ok := fun _ => True) (okp := fun _ => True) rfl (fun _ hk => hk) trivial (by omega) (by omega) (Below.refl _ _) (Nat.le_refl _) ?_; intro v438 w15 ho16 hb hg_ hnew_; clear hg_ hnew_; (first | rw [← Ny437.out] at ho16 | (simp only [Int.reduceToNat] at ho16; rw [← Ny437.out] at ho16)); have n1_ := mk0 (Kd.R_lower ho16 (bz_ (b_ HB))); replace HO436 := mk0 (Kd.R_below (r_ HO436) hb); replace BK431 := mk0 (u_ BK431 hb); replace BK433 := mk0 (u_ BK433 hb); replace HB := mk0 (bt_ (b_ HB) hb); have HO439 := n1_; clear n1_; clear hb ho16))
    go_loopg [6] k (fun kq v6 w' => ∃ (x4_1 : List ByteArray) (x5_1 : List Bool) (x6_1 : Int) (x434000_1 : List ByteArray) (x434001_1 : List Int) (u434000 : Value) (u434001 : Value), v6 = .int .i64 x6_1 ∧ Fc (quorumlaw5_PageStays.l0 kq x4_1 x5_1 x6_1 l0_0 l0_1 l0_2 x434000_1 x434001_1 = some r) ∧ Fc (kq ≤ k) ∧ Fc (Kd.R Kd.string 9 w' w.heap.size (fun k_ => some k_ ≠ (u434000 : Value).ownBlock) v435 x4_1) ∧ Fc (Kd.R Kd.bool 4 w' w.heap.size (fun _ => True) v438 x5_1) ∧ Fc (Kd.R Kd.string 9 w' w.heap.size (fun k_ => some k_ ≠ (v435 : Value).ownBlock) u434000 x434000_1) ∧ Fc (Kd.Q (Kd.int .i64) 3 w' w.heap.size (fun _ => True) u434001 x434001_1) ∧ Fc (w'.heap[gb431]? = some (.cells #[(.slice A0_0 l0_0.length c0_0), (.slice A0_1 l0_1.length c0_1), (.slice A0_2 l0_2.length c0_2)] 59 (0, 0))) ∧ Fc (w'.heap[gb433]? = some (.cells #[u434000, u434001] 56 (0, 0))) ∧ Fc (Below w.heap.size w w'))
    case atStart => exact ⟨(y434), (y437), (0), (([] : List ByteArray)), (([] : List Int)), (.slice none 0 0), (.slice none 0 0), (by first | rfl | (simp; done) | (simp [*]; done)), H', ⟨Nat.le_refl _⟩, ⟨by (with_reducible repeat (first | apply Ra_ | apply Rn_ | apply Rd_)); exact Kd.R_mono HO436.out (fun _ hk => (by simp [Value.ownBlock]))⟩, ⟨by (with_reducible repeat (first | apply Ra_ | apply Rn_ | apply Rd_)); exact HO439.out⟩, ⟨by first | exact Kd.R_nil _ _ _ _ _ | exact Kd.N_nil _ _ _ _ _ | exact Kd.V_nil _ _ _ _ _ | exact Kd.Q_nil _ _ _ _ _ | exact Kd.S_nil _ _ _ _ _⟩, ⟨Kd.Q_of_R (by first | exact Kd.R_nil _ _ _ _ _ | exact Kd.N_nil _ _ _ _ _ | exact Kd.V_nil _ _ _ _ _ | exact Kd.Q_nil _ _ _ _ _ | exact Kd.S_nil _ _ _ _ _)⟩, ⟨h_ BK431⟩, ⟨h_ BK433⟩, ⟨b_ HB⟩⟩
    case round =>
     clear H'
     try clear c3
     try clear c7
     try clear c7b0
     try clear c7b1
     try clear c8
     try clear c8b0
     try clear c8b1
     try clear hcz10_0
     try clear hcz10_1
     try clear hcz10_2
     try clear hcz5_0
     try clear hcz5_1
     try clear hcz5_2
     try clear hfz10_0
     try clear hfz10_1
     try clear hfz10_2
     try clear hfz5_0
     try clear hfz5_1
     try clear hfz5_2
     obtain ⟨x4_1, x5_1, x6_1, x434000_1, x434001_1, u434000, u434001, rfl, HA, HK1, HO_4, HO_5, HO_434000, HO_434001, BK431, BK433, HB⟩ := hrel
     cases gk with
     | zero => exact absurd HA.out (by simp [quorumlaw5_PageStays.l0])
     | succ k1 =>
      have H := HA.out
      clear HA
      simp only [quorumlaw5_PageStays.l0] at H
      as_aux_lemma =>
       have HC17 := mk0 H
       clear H
       go_upto_region 7 with (fail)
       go_cut [31] (fun v31 wc => ∃ (kq : Nat) (x31_16 : Bool), v31 = .bool x31_16 ∧ Fc (quorumlaw5_PageStays.j1 kq x4_1 x5_1 x6_1 x31_16 l0_0 l0_1 l0_2 x434000_1 x434001_1 = some r) ∧ Fc (kq ≤ k1) ∧ Fc (Kd.R Kd.string 9 wc w.heap.size (fun k_ => some k_ ≠ (u434000 : Value).ownBlock) v435 x4_1) ∧ Fc (Kd.R Kd.bool 4 wc w.heap.size (fun _ => True) v438 x5_1) ∧ Fc (Kd.R Kd.string 9 wc w.heap.size (fun k_ => some k_ ≠ (v435 : Value).ownBlock) u434000 x434000_1) ∧ Fc (Kd.Q (Kd.int .i64) 3 wc w.heap.size (fun _ => True) u434001 x434001_1) ∧ Fc (wc.heap[gb431]? = some (.cells #[(.slice A0_0 l0_0.length c0_0), (.slice A0_1 l0_1.length c0_1), (.slice A0_2 l0_2.length c0_2)] 59 (0, 0))) ∧ Fc (wc.heap[gb433]? = some (.cells #[u434000, u434001] 56 (0, 0))) ∧ Fc (Below w.heap.size w wc))
       case first =>
        have H := HC17.out
        clear HC17
        by_cases c18 : x6_1 < (l0_2.length : Int)
        ·rw [if_pos c18] at H
         have c18b0 : decide (x6_1 < (l0_2.length : Int)) = true := decide_eq_true c18
         clear c18
         (first | rw [c18b0] | (simp only [i64_w, i32_w]; rw [c18b0]) | skip)
         have H' := mk0 H
         clear H
         have hnb19 := NB431_433.out
         have hnc19 := NB433_431.out
         obtain ⟨hcz20_0, hcz20_1, hcz20_2, hfz20_0, hfz20_1, hfz20_2⟩ := c3_ BK431
         go_wp2
         go_meet
         case rel => exact ⟨_, (decide (x6_1 < 30)), (by first | rfl | (simp; done) | (simp [*]; done)), H', ⟨by have := HK1.out; first | omega | exact Nat.le_refl _⟩, ⟨by (with_reducible repeat (first | apply Ra_ | apply Rn_ | apply Rd_)); exact HO_4.out⟩, ⟨by (with_reducible repeat (first | apply Ra_ | apply Rn_ | apply Rd_)); exact HO_5.out⟩, ⟨by (with_reducible repeat (first | apply Ra_ | apply Rn_ | apply Rd_)); exact HO_434000.out⟩, ⟨by (with_reducible repeat (first | apply Kd.Q_alloc | apply Kd.Q_drewN | apply Kd.Q_drew)); exact HO_434001.out⟩, ⟨h_ BK431⟩, ⟨h_ BK433⟩, ⟨b_ HB⟩⟩
        ·rw [if_neg c18] at H
         have c18b0 : decide (x6_1 < (l0_2.length : Int)) = false := decide_eq_false c18
         clear c18
         (first | rw [c18b0] | (simp only [i64_w, i32_w]; rw [c18b0]) | skip)
         have H' := mk0 H
         clear H
         have hnb21 := NB431_433.out
         have hnc21 := NB433_431.out
         obtain ⟨hcz22_0, hcz22_1, hcz22_2, hfz22_0, hfz22_1, hfz22_2⟩ := c3_ BK431
         go_wp2
         go_meet
         case rel => exact ⟨_, (false), (by first | rfl | (simp; done) | (simp [*]; done)), H', ⟨by have := HK1.out; first | omega | exact Nat.le_refl _⟩, ⟨by (with_reducible repeat (first | apply Ra_ | apply Rn_ | apply Rd_)); exact HO_4.out⟩, ⟨by (with_reducible repeat (first | apply Ra_ | apply Rn_ | apply Rd_)); exact HO_5.out⟩, ⟨by (with_reducible repeat (first | apply Ra_ | apply Rn_ | apply Rd_)); exact HO_434000.out⟩, ⟨by (with_reducible repeat (first | apply Kd.Q_alloc | apply Kd.Q_drewN | apply Kd.Q_drew)); exact HO_434001.out⟩, ⟨h_ BK431⟩, ⟨h_ BK433⟩, ⟨b_ HB⟩⟩
       case rest =>
        clear HC17
        try clear c3
        try clear c7
        try clear c7b0
        try clear c7b1
        try clear c8
        try clear c8b0
        try clear c8b1
        try clear c18
        try clear c18b0
        try clear hcz10_0
        try clear hcz10_1
        try clear hcz10_2
        try clear hcz20_0
        try clear hcz20_1
        try clear hcz20_2
        try clear hcz22_0
        try clear hcz22_1
        try clear hcz22_2
        try clear hcz5_0
        try clear hcz5_1
        try clear hcz5_2
        try clear hfz10_0
        try clear hfz10_1
        try clear hfz10_2
        try clear hfz20_0
        try clear hfz20_1
        try clear hfz20_2
        try clear hfz22_0
        try clear hfz22_1
        try clear hfz22_2
        try clear hfz5_0
        try clear hfz5_1
        try clear hfz5_2
        obtain ⟨kq, x31_16, rfl, HA, HJ16, HO_4, HO_5, HO_434000, HO_434001, BK431, BK433, HB⟩ := hcut
        cases kq with
        | zero => exact absurd HA.out (by simp [quorumlaw5_PageStays.j1])
        | succ kj16 =>
         have H := HA.out
         clear HA
         simp only [quorumlaw5_PageStays.j1] at H
         as_aux_lemma =>
          by_cases c23 : x31_16 = true
          ·subst c23
           rw [if_pos rfl] at H
           have HC24 := mk0 H
           clear H
           go_upto_region 9 with (fail)
           go_cut [42] (fun v42 wc => ∃ (kq : Nat) (x42_23 : Bool), v42 = .bool x42_23 ∧ Fc (quorumlaw5_PageStays.j2 kq x4_1 x5_1 x6_1 x42_23 l0_0 l0_1 l0_2 x434000_1 x434001_1 = some r) ∧ Fc (kq ≤ kj16) ∧ Fc (Kd.R Kd.string 9 wc w.heap.size (fun k_ => some k_ ≠ (u434000 : Value).ownBlock) v435 x4_1) ∧ Fc (Kd.R Kd.bool 4 wc w.heap.size (fun _ => True) v438 x5_1) ∧ Fc (Kd.R Kd.string 9 wc w.heap.size (fun k_ => some k_ ≠ (v435 : Value).ownBlock) u434000 x434000_1) ∧ Fc (Kd.Q (Kd.int .i64) 3 wc w.heap.size (fun _ => True) u434001 x434001_1) ∧ Fc (wc.heap[gb431]? = some (.cells #[(.slice A0_0 l0_0.length c0_0), (.slice A0_1 l0_1.length c0_1), (.slice A0_2 l0_2.length c0_2)] 59 (0, 0))) ∧ Fc (wc.heap[gb433]? = some (.cells #[u434000, u434001] 56 (0, 0))) ∧ Fc (Below w.heap.size w wc))
           case first =>
            have H := HC24.out
            clear HC24
            by_cases c25 : (Int.tmod x6_1 3) = 2
            ·rw [if_pos c25] at H
             have c25b0 : ((Int.tmod x6_1 3) == 2) = true := beq_iff_eq.mpr c25
             have c25b1 : ((Int.tmod x6_1 3) != 2) = false := bne_eq_false_iff_eq.mpr c25
             clear c25
             (first | rw [c25b0] | (simp only [i64_w, i32_w]; rw [c25b0]) | skip)
             have H' := mk0 H
             clear H
             have hnb26 := NB433_431.out
             have hnc26 := NB431_433.out
             obtain ⟨hcz27_0, hcz27_1, hfz27_0, hfz27_1⟩ := c2_ BK433
             obtain ⟨Ao28, co28, eo28⟩ := Kd.R_slice HO_434000.out
             subst eo28
             go_wp2
             go_meet
             case rel => exact ⟨_, (decide ((x434000_1.length : Int) > 0)), (by first | rfl | (simp; done) | (simp [*]; done)), H', ⟨by have := HK1.out; have := HJ16.out; first | omega | exact Nat.le_refl _⟩, ⟨by (with_reducible repeat (first | apply Ra_ | apply Rn_ | apply Rd_)); exact HO_4.out⟩, ⟨by (with_reducible repeat (first | apply Ra_ | apply Rn_ | apply Rd_)); exact HO_5.out⟩, ⟨by (with_reducible repeat (first | apply Ra_ | apply Rn_ | apply Rd_)); exact HO_434000.out⟩, ⟨by (with_reducible repeat (first | apply Kd.Q_alloc | apply Kd.Q_drewN | apply Kd.Q_drew)); exact HO_434001.out⟩, ⟨h_ BK431⟩, ⟨h_ BK433⟩, ⟨b_ HB⟩⟩
            ·rw [if_neg c25] at H
             have c25b0 : ((Int.tmod x6_1 3) == 2) = false := beq_eq_false_iff_ne.mpr c25
             have c25b1 : ((Int.tmod x6_1 3) != 2) = true := bne_iff_ne.mpr c25
             (first | rw [c25b0] | (simp only [i64_w, i32_w]; rw [c25b0]) | skip)
             have H' := mk0 H
             clear H
             go_wp2
             go_meet
             case rel => exact ⟨_, (false), (by first | rfl | (simp; done) | (simp [*]; done)), H', ⟨by have := HK1.out; have := HJ16.out; first | omega | exact Nat.le_refl _⟩, ⟨by (with_reducible repeat (first | apply Ra_ | apply Rn_ | apply Rd_)); exact HO_4.out⟩, ⟨by (with_reducible repeat (first | apply Ra_ | apply Rn_ | apply Rd_)); exact HO_5.out⟩, ⟨by (with_reducible repeat (first | apply Ra_ | apply Rn_ | apply Rd_)); exact HO_434000.out⟩, ⟨by (with_reducible repeat (first | apply Kd.Q_alloc | apply Kd.Q_drewN | apply Kd.Q_drew)); exact HO_434001.out⟩, ⟨h_ BK431⟩, ⟨h_ BK433⟩, ⟨b_ HB⟩⟩
           case rest =>
            clear HC24
            try clear c3
            try clear c7
            try clear c7b0
            try clear c7b1
            try clear c8
            try clear c8b0
            try clear c8b1
            try clear c18
            try clear c18b0
            try clear c23
            try clear c25
            try clear c25b0
            try clear c25b1
            try clear hcz10_0
            try clear hcz10_1
            try clear hcz10_2
            try clear hcz20_0
            try clear hcz20_1
            try clear hcz20_2
            try clear hcz22_0
            try clear hcz22_1
            try clear hcz22_2
            try clear hcz27_0
            try clear hcz27_1
            try clear hcz5_0
            try clear hcz5_1
            try clear hcz5_2
            try clear hfz10_0
            try clear hfz10_1
            try clear hfz10_2
            try clear hfz20_0
            try clear hfz20_1
            try clear hfz20_2
            try clear hfz22_0
            try clear hfz22_1
            try clear hfz22_2
            try clear hfz27_0
            try clear hfz27_1
            try clear hfz5_0
            try clear hfz5_1
            try clear hfz5_2
            obtain ⟨kq, x42_23, rfl, HA, HJ23, HO_4, HO_5, HO_434000, HO_434001, BK431, BK433, HB⟩ := hcut
            cases kq with
            | zero => exact absurd HA.out (by simp [quorumlaw5_PageStays.j2])
            | succ kj23 =>
             have H := HA.out
             clear HA
             simp only [quorumlaw5_PageStays.j2] at H
             as_aux_lemma =>
              have HC29 := mk0 H
              clear H
              go_upto_if 42 with (fail)
              go_cut [] (fun wc => ∃ (kq : Nat) (x4_28 : List ByteArray) (x5_28 : List Bool) (x434000_28 : List ByteArray) (x434001_28 : List Int) (u434000 : Value) (u434001 : Value), Fc (quorumlaw5_PageStays.j5 kq x4_28 x5_28 x6_1 l0_0 l0_1 l0_2 x434000_28 x434001_28 = some r) ∧ Fc (kq ≤ kj23) ∧ Fc (Kd.R Kd.string 9 wc w.heap.size (fun k_ => some k_ ≠ (u434000 : Value).ownBlock) v435 x4_28) ∧ Fc (Kd.R Kd.bool 4 wc w.heap.size (fun _ => True) v438 x5_28) ∧ Fc (Kd.R Kd.string 9 wc w.heap.size (fun k_ => some k_ ≠ (v435 : Value).ownBlock) u434000 x434000_28) ∧ Fc (Kd.Q (Kd.int .i64) 3 wc w.heap.size (fun _ => True) u434001 x434001_28) ∧ Fc (wc.heap[gb431]? = some (.cells #[(.slice A0_0 l0_0.length c0_0), (.slice A0_1 l0_1.length c0_1), (.slice A0_2 l0_2.length c0_2)] 59 (0, 0))) ∧ Fc (wc.heap[gb433]? = some (.cells #[u434000, u434001] 56 (0, 0))) ∧ Fc (Below w.heap.size w wc))
              case first =>
               have H := HC29.out
               clear HC29
               by_cases c30 : x42_23 = true
               ·subst c30
                rw [if_pos rfl] at H
                by_cases c31 : 0 ≤ x6_1
                ·rw [if_pos c31] at H
                 have c31b0 : decide (0 ≤ x6_1) = true := decide_eq_true c31
                 clear c31
                 (first | rw [c31b0] | (simp only [i64_w, i32_w]; rw [c31b0]) | skip)
                 by_cases c32 : x6_1 < (l0_2.length : Int)
                 ·rw [if_pos c32] at H
                  have c32b0 : decide (x6_1 < (l0_2.length : Int)) = true := decide_eq_true c32
                  clear c32
                  replace H := Option.bind_eq_some_iff.mp H
                  obtain ⟨t441, A330, H⟩ := H
                  try dsimp only at H
                  have A33 := mk0 A330
                  clear A330
                  replace H := Option.bind_eq_some_iff.mp H
                  obtain ⟨⟨t442, t445, t448⟩, A340, H⟩ := H
                  try dsimp only at H
                  have A34 := mk0 A340
                  clear A340
                  have HC35 := mk0 H
                  clear H
                  try go_wp2
                  replace HO_4 := mk0 (Rd_ HO_4.out)
                  replace HO_5 := mk0 (Rd_ HO_5.out)
                  replace HO_434000 := mk0 (Rd_ HO_434000.out)
                  replace HO_434001 := mk0 (Kd.Q_drew HO_434001.out)
                  replace BK431 := mk0 (bD_ BK431.out)
                  replace BK433 := mk0 (bD_ BK433.out)
                  replace HB := mk0 (b1_ HB.out)
                  have p440 : 0 ≤ (x6_1 : Int) := of_decide_eq_true (by first | (with_reducible assumption) | assumption)
                  have q440 : x6_1 < (l0_2.length : Int) := of_decide_eq_true (by first | (with_reducible assumption) | assumption)
                  obtain ⟨ad440, e440, hx440_0, hx440_1, hx440_2⟩ := at_T64 HR0_2.out x6_1 p440 q440
                  have hw440_2 := hx440_2
                  have hw440_1 := hx440_1
                  have hw440_0 := hx440_0
                  cases e440
                  replace hx440_0 := (HB.out.cell (World.block_lt_of_cell? w _ hx440_0)).trans hx440_0
                  replace hx440_1 := (HB.out.cell (World.block_lt_of_cell? w _ hx440_1)).trans hx440_1
                  replace hx440_2 := (HB.out.cell (World.block_lt_of_cell? w _ hx440_2)).trans hx440_2
                  replace p440 := eq_true p440
                  replace q440 := eq_true q440
                  obtain ⟨Ao37, co37, eo37⟩ := Kd.R_slice HO_434000.out
                  (first | subst eo37 | (injection eo37 with f1_ f2_ f3_; have f4_ := f1_.symm; have f5_ := f3_.symm; clear f1_ f2_ f3_; subst f4_; subst f5_))
                  refine start_ (n := 11) (S := fun w' => w'.cell? ⟨gb431, 0, none⟩ = some (.slice A0_0 l0_0.length c0_0) ∧ w'.cell? ⟨gb431, 1, none⟩ = some (.slice A0_1 l0_1.length c0_1) ∧ w'.cell? ⟨gb431, 2, none⟩ = some (.slice (some ad440) l0_2.length c0_2) ∧ w'.cell? ⟨gb433, 0, none⟩ = some (.slice Ao37 x434000_1.length co37) ∧ w'.cell? ⟨gb433, 1, none⟩ = some (u434001) ∧ w'.cell? (ad440.add ((x6_1).toNat * 3)) = some (.int .i64 ((rd_T64 l0_2 x6_1).f0)) ∧ w'.cell? ⟨(ad440.add ((x6_1).toNat * 3)).block, (ad440.add ((x6_1).toNat * 3)).off + 1, none⟩ = some (.int .i64 ((rd_T64 l0_2 x6_1).f1)) ∧ w'.cell? ⟨(ad440.add ((x6_1).toNat * 3)).block, (ad440.add ((x6_1).toNat * 3)).off + 2, none⟩ = some (.string ((rd_T64 l0_2 x6_1).f2))) (ds := []) (bt 11 0) (by kernel_rfl) rfl rfl ⟨(blk_cell BK431.out 0).trans rfl, (blk_cell BK431.out 1).trans rfl, (blk_cell BK431.out 2).trans rfl, (blk_cell BK433.out 0).trans rfl, (blk_cell BK433.out 1).trans rfl, ((HB.out.cell (World.block_lt_of_cell? w _ hw440_0)).trans hw440_0), ((HB.out.cell (World.block_lt_of_cell? w _ hw440_1)).trans hw440_1), ((HB.out.cell (World.block_lt_of_cell? w _ hw440_2)).trans hw440_2)⟩ (fun hHeld => ?_); refine with_tabW quorumlaw5_PageStays.tab10 quorumlaw5_PageStays.bits10 (fun HT_ HW_ => ?_)
                  generalize wc.drew = w36 at HO_4 HO_5 HO_434000 HO_434001 BK431 BK433 HB hx440_0 hx440_1 hx440_2 hHeld ⊢
                  refine pq_ HT_.out 0 43 (bt 11 1) (h := ?_)
                  refine pq_ HT_.out 2 45 (bt 11 5) (h := ?_)
                  refine pq_ HT_.out 6 49 (bt 11 69) (h := ?_)
                  refine tq8_ HT_.out HW_.out 1 44 (bt 11 71) hHeld (h := ?_)
                  refine pq_ HT_.out 3 46 (bt 11 79) (h := ?_)
                  refine pq_ HT_.out 4 47 (bt 11 95) (h := ?_)
                  refine tq8_ HT_.out HW_.out 5 48 (bt 11 127) hHeld (h := ?_)
                  refine tq8_ HT_.out HW_.out 7 50 (bt 11 255) hHeld (h := ?_)
                  refine pq_ HT_.out 8 51 (bt 11 511) (h := ?_)
                  refine one_ (i := 9) (N := some 52) (bt 11 1023) rfl rfl (one_of HT_.out (by kernel_rfl)) (by decide) (fun K hK => ?_)
                  refine goes_ Try.func33 (by kernel_rfl) rfl #[.int .i64 ((rd_T64 l0_2 x6_1).f1), .int .i64 (x434000_1.length : Int)] (by rfl) rfl rfl (by (try simp only [List.map_toArray, List.map_cons, List.map_nil]); first | done | rfl | (simp only [List.length_drop, List.length_take]; rfl)) ?_
                  with_reducible refine (quorumlaw0_Within.calls ((rd_T64 l0_2 x6_1).f1) (x434000_1.length : Int) t441 _ A33.out).mono ?_
                  rintro e w' ⟨rfl, ⟨nd, rfl⟩⟩
                  refine ⟨_, rfl, ?_⟩
                  refine hK.out _ _ ⟨(blk_cell BK431.out 0).trans rfl, (blk_cell BK431.out 1).trans rfl, (blk_cell BK431.out 2).trans rfl, (blk_cell BK433.out 0).trans rfl, (blk_cell BK433.out 1).trans rfl, ((HB.out.cell (World.block_lt_of_cell? w _ hw440_0)).trans hw440_0), ((HB.out.cell (World.block_lt_of_cell? w _ hw440_1)).trans hw440_1), ((HB.out.cell (World.block_lt_of_cell? w _ hw440_2)).trans hw440_2)⟩ (fun hHeld => ?_)
                  clear hK K
                  refine norm_ (a' := ?_) ?_ ?_
                  rotate_left
                  ·show Act.put _ (some 52) _ = _
                   simp only [z_]
                   rfl
                  refine pq_ HT_.out 10 7 (bt 11 2047) (h := ?_)
                  refine done_ (done_of HT_.out (by kernel_rfl)) ?_
                  have hnb38 := NB433_431.out
                  have hnc38 := NB431_433.out
                  obtain ⟨hcz39_0, hcz39_1, hfz39_0, hfz39_1⟩ := c2_ BK433
                  obtain ⟨Ao40, co40, eo40, _⟩ := Kd.Q_slice HO_434001.out
                  subst eo40
                  go_upto_region 12 with (first | ((with_reducible refine gate_callee (f := 34) rfl ?_); refine gL_ (some 56) Try.func34 #[.agg #[.slice Ao37 x434000_1.length co37, .slice Ao40 x434001_1.length co40], .int .i64 t441] (h := ?_); (with_reducible refine (page_Cut.calls kj23 _ _ x434000_1 _ _ x434001_1 t441 t442 t445 t448 _ ?side1 ?side2 ?side3 ?side4 A34.out).mono ?_); (case side1 => exact cr_ HO_434000); (case side2 => exact (Kd.R_reads' HO_434000.out).2.1); (case side3 => exact cq_ HO_434001); (case side4 => exact (Kd.Q_reads' HO_434001.out).2.1); rintro e w41 ⟨v443, v446, rfl, ho0, ho1, hb⟩; refine ⟨_, rfl, ?_⟩; have n4_ := mk0 (Kd.R_lower (Kd.R_new' (Kd.R_new' ho0 (Kd.R_lt (r_ HO_4))) (Kd.R_lt (r_ HO_434000))) (bz_ (b_ HB))); have n5_ := mk0 (Kd.R_lower (Kd.R_new' ho1 (Kd.Q_lt (q_ HO_434001))) (bz_ (b_ HB))); replace HO_4 := mk0 (Kd.R_elder' (r_ HO_4) (Kd.R_base ho0) hb); replace HO_5 := mk0 (Kd.R_below (r_ HO_5) hb); replace HO_434000 := mk0 (Kd.R_elder' (r_ HO_434000) (Kd.R_base ho0) hb); replace HO_434001 := mk0 (Kd.Q_elder' (q_ HO_434001) (Kd.R_base ho1) hb); replace BK431 := mk0 (u_ BK431 hb); replace BK433 := mk0 (u_ BK433 hb); replace HB := mk0 (bt_ (b_ HB) hb); have HO444 := n4_; have HO447 := n5_; clear n4_ n5_; (try clear hb); (try clear ho0); (try clear ho1)) | ((with_reducible refine gate_dst (N := 8) rfl ?_); (try (refine gate_guard (by rfl) ?_; dsimp only)); refine bx_ (N := 8) (cs := #[.slice none 0 0, .slice none 0 0]) (t := 56) (h := ?_); intro gb449 hg w42 hbox hb; have n10_ := mk0 (gz_ HB hg); have n11_ := mk0 (gz_ HB hg); have n12_ := mk0 (ne1_ BK431 hg); have n13_ := mk0 (ne2_ BK431 hg); have n14_ := mk0 (ne1_ BK433 hg); have n15_ := mk0 (ne2_ BK433 hg); replace HO_4 := mk0 (Kd.R_below (r_ HO_4) hb); replace HO_5 := mk0 (Kd.R_below (r_ HO_5) hb); replace HO_434000 := mk0 (Kd.R_below (r_ HO_434000) hb); replace HO_434001 := mk0 (Kd.Q_below (q_ HO_434001) hb); replace HO444 := mk0 (Kd.R_below (r_ HO444) hb); replace HO447 := mk0 (Kd.R_below (r_ HO447) hb); replace BK431 := mk0 (u_ BK431 hb); replace BK433 := mk0 (u_ BK433 hb); replace HB := mk0 (bt_ (b_ HB) hb); have BK449 := mk0 (hbox); have GW449 := n10_; have GE449 := n11_; have NB431_449 := n12_; have NB449_431 := n13_; have NB433_449 := n14_; have NB449_433 := n15_; clear n10_ n11_ n12_ n13_ n14_ n15_ hb hbox hg; obtain ⟨Ao43, co43, eo43⟩ := Kd.R_slice HO444.out; subst eo43; have hnb44 := NB449_431.out; have hnc44 := NB431_449.out; have hnb45 := NB449_433.out; have hnc45 := NB433_449.out; obtain ⟨hcz46_0, hcz46_1, hfz46_0, hfz46_1⟩ := c2_ BK449; obtain ⟨Ao47, co47, eo47⟩ := Kd.R_slice HO447.out; subst eo47))
                  (try simp only [Act.put, List.setIfInBounds_toArray, List.set_cons_zero, List.set_cons_succ])
                  go_cut [70] (fun v70 wc => ∃ (kq : Nat) (x70_34 : Bool), v70 = .bool x70_34 ∧ Fc (quorumlaw5_PageStays.j3 kq x4_1 x5_1 x6_1 t441 t448 x70_34 l0_0 l0_1 l0_2 x434000_1 x434001_1 t442 t445 = some r) ∧ Fc (kq ≤ kj23) ∧ Fc (Kd.R Kd.string 9 wc w.heap.size (fun k_ => some k_ ≠ ((.slice Ao37 x434000_1.length co37) : Value).ownBlock ∧ some k_ ≠ ((.slice Ao43 t442.length co43) : Value).ownBlock) v435 x4_1) ∧ Fc (Kd.R Kd.bool 4 wc w.heap.size (fun _ => True) v438 x5_1) ∧ Fc (Kd.R Kd.string 9 wc w.heap.size (fun k_ => some k_ ≠ (v435 : Value).ownBlock ∧ some k_ ≠ ((.slice Ao43 t442.length co43) : Value).ownBlock) (.slice Ao37 x434000_1.length co37) x434000_1) ∧ Fc (Kd.Q (Kd.int .i64) 3 wc w.heap.size (fun k_ => some k_ ≠ ((.slice Ao47 t445.length co47) : Value).ownBlock) (.slice Ao40 x434001_1.length co40) x434001_1) ∧ Fc (Kd.R Kd.string 9 wc w.heap.size (fun k_ => some k_ ≠ (v435 : Value).ownBlock ∧ some k_ ≠ ((.slice Ao37 x434000_1.length co37) : Value).ownBlock) (.slice Ao43 t442.length co43) t442) ∧ Fc (Kd.Q (Kd.int .i64) 3 wc w.heap.size (fun k_ => some k_ ≠ ((.slice Ao40 x434001_1.length co40) : Value).ownBlock) (.slice Ao47 t445.length co47) t445) ∧ Fc (wc.heap[gb431]? = some (.cells #[(.slice A0_0 l0_0.length c0_0), (.slice A0_1 l0_1.length c0_1), (.slice (some ad440) l0_2.length c0_2)] 59 (0, 0))) ∧ Fc (wc.heap[gb433]? = some (.cells #[(.slice Ao37 x434000_1.length co37), (.slice Ao40 x434001_1.length co40)] 56 (0, 0))) ∧ Fc (wc.heap[gb449]? = some (.cells #[(.slice Ao43 t442.length co43), (.slice Ao47 t445.length co47)] 56 (0, 0))) ∧ Fc (Below w.heap.size w wc))
                  case first =>
                   have H := HC35.out
                   clear HC35
                   by_cases c48 : t441 ≥ 16
                   ·rw [if_pos c48] at H
                    have c48b0 : decide (16 ≤ t441) = true := decide_eq_true c48
                    clear c48
                    (first | rw [c48b0] | (simp only [i64_w, i32_w]; rw [c48b0]) | skip)
                    have H' := mk0 H
                    clear H
                    try go_wp2
                    have n0_ : Fc (Kd.R Kd.string 9 ((w42.setCell ⟨gb449, 0, none⟩ (.slice Ao43 t442.length co43)).setCell ⟨gb449, 1, none⟩ (.slice Ao47 t445.length co47)) w.heap.size (fun k_ => some k_ ≠ (.slice Ao37 x434000_1.length co37 : Value).ownBlock ∧ some k_ ≠ (.slice Ao43 t442.length co43 : Value).ownBlock) v435 x4_1) := ⟨by (with_reducible repeat (first | apply Ra_ | apply Rn_ | apply Rd_)); exact Kd.R_mono (Kd.R_far (p := ⟨gb449, 1, none⟩) (Kd.R_far (p := ⟨gb449, 0, none⟩) (Kd.R_types HO_4.out BK449.out (by decide)) (fun _ hk => hk.2) (.slice Ao43 t442.length co43)) (fun _ hk => hk.2) (.slice Ao47 t445.length co47)) (fun _ hk => ⟨hk.1.1, hk.1.2⟩)⟩
                    have n1_ : Fc (Kd.R Kd.bool 4 ((w42.setCell ⟨gb449, 0, none⟩ (.slice Ao43 t442.length co43)).setCell ⟨gb449, 1, none⟩ (.slice Ao47 t445.length co47)) w.heap.size (fun _ => True) v438 x5_1) := ⟨by (with_reducible repeat (first | apply Ra_ | apply Rn_ | apply Rd_)); exact Kd.R_mono (Kd.R_far (p := ⟨gb449, 1, none⟩) (Kd.R_far (p := ⟨gb449, 0, none⟩) (Kd.R_types HO_5.out BK449.out (by decide)) (fun _ hk => hk.2) (.slice Ao43 t442.length co43)) (fun _ hk => hk.2) (.slice Ao47 t445.length co47)) (fun _ hk => trivial)⟩
                    have n2_ : Fc (Kd.R Kd.string 9 ((w42.setCell ⟨gb449, 0, none⟩ (.slice Ao43 t442.length co43)).setCell ⟨gb449, 1, none⟩ (.slice Ao47 t445.length co47)) w.heap.size (fun k_ => some k_ ≠ (v435 : Value).ownBlock ∧ some k_ ≠ (.slice Ao43 t442.length co43 : Value).ownBlock) (.slice Ao37 x434000_1.length co37) x434000_1) := ⟨by (with_reducible repeat (first | apply Ra_ | apply Rn_ | apply Rd_)); exact Kd.R_mono (Kd.R_far (p := ⟨gb449, 1, none⟩) (Kd.R_far (p := ⟨gb449, 0, none⟩) (Kd.R_types HO_434000.out BK449.out (by decide)) (fun _ hk => hk.2) (.slice Ao43 t442.length co43)) (fun _ hk => hk.2) (.slice Ao47 t445.length co47)) (fun _ hk => ⟨hk.1.1, hk.1.2⟩)⟩
                    have n3_ : Fc (Kd.Q (Kd.int .i64) 3 ((w42.setCell ⟨gb449, 0, none⟩ (.slice Ao43 t442.length co43)).setCell ⟨gb449, 1, none⟩ (.slice Ao47 t445.length co47)) w.heap.size (fun k_ => some k_ ≠ (.slice Ao47 t445.length co47 : Value).ownBlock) (.slice Ao40 x434001_1.length co40) x434001_1) := ⟨by (with_reducible repeat (first | apply Kd.Q_alloc | apply Kd.Q_drewN | apply Kd.Q_drew)); exact Kd.Q_mono (Kd.Q_far (p := ⟨gb449, 1, none⟩) (Kd.Q_far (p := ⟨gb449, 0, none⟩) (Kd.Q_types HO_434001.out BK449.out (by decide)) (fun _ hk => hk.2) (.slice Ao43 t442.length co43)) (fun _ hk => hk.2) (.slice Ao47 t445.length co47)) (fun _ hk => hk.1.2)⟩
                    have n4_ : Fc (Kd.R Kd.string 9 ((w42.setCell ⟨gb449, 0, none⟩ (.slice Ao43 t442.length co43)).setCell ⟨gb449, 1, none⟩ (.slice Ao47 t445.length co47)) w.heap.size (fun k_ => some k_ ≠ (v435 : Value).ownBlock ∧ some k_ ≠ (.slice Ao37 x434000_1.length co37 : Value).ownBlock) (.slice Ao43 t442.length co43) t442) := ⟨by (with_reducible repeat (first | apply Ra_ | apply Rn_ | apply Rd_)); exact Kd.R_mono (Kd.R_far (p := ⟨gb449, 1, none⟩) (Kd.R_far (p := ⟨gb449, 0, none⟩) (Kd.R_types HO444.out BK449.out (by decide)) (fun _ hk => hk.2) (.slice Ao43 t442.length co43)) (fun _ hk => hk.2) (.slice Ao47 t445.length co47)) (fun _ hk => ⟨hk.1.1.2, hk.1.2⟩)⟩
                    have n5_ : Fc (Kd.R (Kd.int .i64) 3 ((w42.setCell ⟨gb449, 0, none⟩ (.slice Ao43 t442.length co43)).setCell ⟨gb449, 1, none⟩ (.slice Ao47 t445.length co47)) w.heap.size (fun k_ => some k_ ≠ (.slice Ao40 x434001_1.length co40 : Value).ownBlock) (.slice Ao47 t445.length co47) t445) := ⟨by (with_reducible repeat (first | apply Ra_ | apply Rn_ | apply Rd_)); exact Kd.R_mono (Kd.R_far (p := ⟨gb449, 1, none⟩) (Kd.R_far (p := ⟨gb449, 0, none⟩) (Kd.R_types HO447.out BK449.out (by decide)) (fun _ hk => hk.2) (.slice Ao43 t442.length co43)) (fun _ hk => hk.2) (.slice Ao47 t445.length co47)) (fun _ hk => hk.1.2)⟩
                    have n6_ : Fc (((w42.setCell ⟨gb449, 0, none⟩ (.slice Ao43 t442.length co43)).setCell ⟨gb449, 1, none⟩ (.slice Ao47 t445.length co47)).heap[gb431]? = some (.cells #[.slice A0_0 l0_0.length c0_0, .slice A0_1 l0_1.length c0_1, .slice (some ad440) l0_2.length c0_2] 59 (0, 0))) := ⟨(fa_ (fa_ (h_ BK431) NB431_449.out) NB431_449.out)⟩
                    have n7_ : Fc (((w42.setCell ⟨gb449, 0, none⟩ (.slice Ao43 t442.length co43)).setCell ⟨gb449, 1, none⟩ (.slice Ao47 t445.length co47)).heap[gb433]? = some (.cells #[.slice Ao37 x434000_1.length co37, .slice Ao40 x434001_1.length co40] 56 (0, 0))) := ⟨(fa_ (fa_ (h_ BK433) NB433_449.out) NB433_449.out)⟩
                    have n8_ : Fc (((w42.setCell ⟨gb449, 0, none⟩ (.slice Ao43 t442.length co43)).setCell ⟨gb449, 1, none⟩ (.slice Ao47 t445.length co47)).heap[gb449]? = some (.cells #[.slice Ao43 t442.length co43, .slice Ao47 t445.length co47] 56 (0, 0))) := ⟨(pu_ (cs := #[.slice Ao43 t442.length co43, .slice none 0 0]) (pu_ (cs := #[.slice none 0 0, .slice none 0 0]) (h_ BK449)))⟩
                    have n9_ : Fc (Below w.heap.size w ((w42.setCell ⟨gb449, 0, none⟩ (.slice Ao43 t442.length co43)).setCell ⟨gb449, 1, none⟩ (.slice Ao47 t445.length co47))) := ⟨b_ HB⟩
                    (try clear HO_4)
                    (try clear HO_5)
                    (try clear HO_434000)
                    (try clear HO_434001)
                    (try clear HO444)
                    (try clear HO447)
                    (try clear BK431)
                    (try clear BK433)
                    (try clear BK449)
                    (try clear HB)
                    generalize ((w42.setCell ⟨gb449, 0, none⟩ (.slice Ao43 t442.length co43)).setCell ⟨gb449, 1, none⟩ (.slice Ao47 t445.length co47)) = w49 at n0_ n1_ n2_ n3_ n4_ n5_ n6_ n7_ n8_ n9_ ⊢
                    have HO_4 := n0_
                    have HO_5 := n1_
                    have HO_434000 := n2_
                    have HO_434001 := n3_
                    have HO444 := n4_
                    have HO447 := n5_
                    have BK431 := n6_
                    have BK433 := n7_
                    have BK449 := n8_
                    have HB := n9_
                    clear n0_ n1_ n2_ n3_ n4_ n5_ n6_ n7_ n8_ n9_
                    go_quiet (fail)
                    generalize hq_ : World.drewN w49 _ = w50
                    replace HO_4 := mk0 (Kd.R_at hq_ HO_4.out)
                    replace HO_5 := mk0 (Kd.R_at hq_ HO_5.out)
                    replace HO_434000 := mk0 (Kd.R_at hq_ HO_434000.out)
                    replace HO_434001 := mk0 (Kd.Q_at hq_ HO_434001.out)
                    replace HO444 := mk0 (Kd.R_at hq_ HO444.out)
                    replace HO447 := mk0 (Kd.R_at hq_ HO447.out)
                    replace BK431 := mk0 (blk_at hq_ BK431.out)
                    replace BK433 := mk0 (blk_at hq_ BK433.out)
                    replace BK449 := mk0 (blk_at hq_ BK449.out)
                    replace HB := mk0 (below_at hq_ HB.out)
                    clear hq_
                    try go_wp2
                    go_meet
                    case rel => exact ⟨_, (true), (by first | rfl | (simp; done) | (simp [*]; done)), H', ⟨by have := HK1.out; have := HJ16.out; have := HJ23.out; first | omega | exact Nat.le_refl _⟩, ⟨by (with_reducible repeat (first | apply Ra_ | apply Rn_ | apply Rd_)); exact HO_4.out⟩, ⟨by (with_reducible repeat (first | apply Ra_ | apply Rn_ | apply Rd_)); exact HO_5.out⟩, ⟨by (with_reducible repeat (first | apply Ra_ | apply Rn_ | apply Rd_)); exact HO_434000.out⟩, ⟨by (with_reducible repeat (first | apply Kd.Q_alloc | apply Kd.Q_drewN | apply Kd.Q_drew)); exact HO_434001.out⟩, ⟨by (with_reducible repeat (first | apply Ra_ | apply Rn_ | apply Rd_)); exact HO444.out⟩, ⟨Kd.Q_of_R (r_ HO447)⟩, ⟨h_ BK431⟩, ⟨h_ BK433⟩, ⟨h_ BK449⟩, ⟨b_ HB⟩⟩
                   ·rw [if_neg c48] at H
                    have c48b0 : decide (16 ≤ t441) = false := decide_eq_false c48
                    clear c48
                    (first | rw [c48b0] | (simp only [i64_w, i32_w]; rw [c48b0]) | skip)
                    replace H := Option.bind_eq_some_iff.mp H
                    obtain ⟨t450, A510, H⟩ := H
                    try dsimp only at H
                    have A51 := mk0 A510
                    clear A510
                    by_cases c52 : 0 ≤ t441
                    ·rw [if_pos c52] at H
                     have c52b0 : decide (0 ≤ t441) = true := decide_eq_true c52
                     clear c52
                     by_cases c53 : t441 < (x5_1.length : Int)
                     ·rw [if_pos c53] at H
                      have c53b0 : decide (t441 < (x5_1.length : Int)) = true := decide_eq_true c53
                      clear c53
                      have H' := mk0 H
                      clear H
                      try go_wp2
                      have n0_ : Fc (Kd.R Kd.string 9 ((w42.setCell ⟨gb449, 0, none⟩ (.slice Ao43 t442.length co43)).setCell ⟨gb449, 1, none⟩ (.slice Ao47 t445.length co47)) w.heap.size (fun k_ => some k_ ≠ (.slice Ao37 x434000_1.length co37 : Value).ownBlock ∧ some k_ ≠ (.slice Ao43 t442.length co43 : Value).ownBlock) v435 x4_1) := ⟨by (with_reducible repeat (first | apply Ra_ | apply Rn_ | apply Rd_)); exact Kd.R_mono (Kd.R_far (p := ⟨gb449, 1, none⟩) (Kd.R_far (p := ⟨gb449, 0, none⟩) (Kd.R_types HO_4.out BK449.out (by decide)) (fun _ hk => hk.2) (.slice Ao43 t442.length co43)) (fun _ hk => hk.2) (.slice Ao47 t445.length co47)) (fun _ hk => ⟨hk.1.1, hk.1.2⟩)⟩
                      have n1_ : Fc (Kd.R Kd.bool 4 ((w42.setCell ⟨gb449, 0, none⟩ (.slice Ao43 t442.length co43)).setCell ⟨gb449, 1, none⟩ (.slice Ao47 t445.length co47)) w.heap.size (fun _ => True) v438 x5_1) := ⟨by (with_reducible repeat (first | apply Ra_ | apply Rn_ | apply Rd_)); exact Kd.R_mono (Kd.R_far (p := ⟨gb449, 1, none⟩) (Kd.R_far (p := ⟨gb449, 0, none⟩) (Kd.R_types HO_5.out BK449.out (by decide)) (fun _ hk => hk.2) (.slice Ao43 t442.length co43)) (fun _ hk => hk.2) (.slice Ao47 t445.length co47)) (fun _ hk => trivial)⟩
                      have n2_ : Fc (Kd.R Kd.string 9 ((w42.setCell ⟨gb449, 0, none⟩ (.slice Ao43 t442.length co43)).setCell ⟨gb449, 1, none⟩ (.slice Ao47 t445.length co47)) w.heap.size (fun k_ => some k_ ≠ (v435 : Value).ownBlock ∧ some k_ ≠ (.slice Ao43 t442.length co43 : Value).ownBlock) (.slice Ao37 x434000_1.length co37) x434000_1) := ⟨by (with_reducible repeat (first | apply Ra_ | apply Rn_ | apply Rd_)); exact Kd.R_mono (Kd.R_far (p := ⟨gb449, 1, none⟩) (Kd.R_far (p := ⟨gb449, 0, none⟩) (Kd.R_types HO_434000.out BK449.out (by decide)) (fun _ hk => hk.2) (.slice Ao43 t442.length co43)) (fun _ hk => hk.2) (.slice Ao47 t445.length co47)) (fun _ hk => ⟨hk.1.1, hk.1.2⟩)⟩
                      have n3_ : Fc (Kd.Q (Kd.int .i64) 3 ((w42.setCell ⟨gb449, 0, none⟩ (.slice Ao43 t442.length co43)).setCell ⟨gb449, 1, none⟩ (.slice Ao47 t445.length co47)) w.heap.size (fun k_ => some k_ ≠ (.slice Ao47 t445.length co47 : Value).ownBlock) (.slice Ao40 x434001_1.length co40) x434001_1) := ⟨by (with_reducible repeat (first | apply Kd.Q_alloc | apply Kd.Q_drewN | apply Kd.Q_drew)); exact Kd.Q_mono (Kd.Q_far (p := ⟨gb449, 1, none⟩) (Kd.Q_far (p := ⟨gb449, 0, none⟩) (Kd.Q_types HO_434001.out BK449.out (by decide)) (fun _ hk => hk.2) (.slice Ao43 t442.length co43)) (fun _ hk => hk.2) (.slice Ao47 t445.length co47)) (fun _ hk => hk.1.2)⟩
                      have n4_ : Fc (Kd.R Kd.string 9 ((w42.setCell ⟨gb449, 0, none⟩ (.slice Ao43 t442.length co43)).setCell ⟨gb449, 1, none⟩ (.slice Ao47 t445.length co47)) w.heap.size (fun k_ => some k_ ≠ (v435 : Value).ownBlock ∧ some k_ ≠ (.slice Ao37 x434000_1.length co37 : Value).ownBlock) (.slice Ao43 t442.length co43) t442) := ⟨by (with_reducible repeat (first | apply Ra_ | apply Rn_ | apply Rd_)); exact Kd.R_mono (Kd.R_far (p := ⟨gb449, 1, none⟩) (Kd.R_far (p := ⟨gb449, 0, none⟩) (Kd.R_types HO444.out BK449.out (by decide)) (fun _ hk => hk.2) (.slice Ao43 t442.length co43)) (fun _ hk => hk.2) (.slice Ao47 t445.length co47)) (fun _ hk => ⟨hk.1.1.2, hk.1.2⟩)⟩
                      have n5_ : Fc (Kd.R (Kd.int .i64) 3 ((w42.setCell ⟨gb449, 0, none⟩ (.slice Ao43 t442.length co43)).setCell ⟨gb449, 1, none⟩ (.slice Ao47 t445.length co47)) w.heap.size (fun k_ => some k_ ≠ (.slice Ao40 x434001_1.length co40 : Value).ownBlock) (.slice Ao47 t445.length co47) t445) := ⟨by (with_reducible repeat (first | apply Ra_ | apply Rn_ | apply Rd_)); exact Kd.R_mono (Kd.R_far (p := ⟨gb449, 1, none⟩) (Kd.R_far (p := ⟨gb449, 0, none⟩) (Kd.R_types HO447.out BK449.out (by decide)) (fun _ hk => hk.2) (.slice Ao43 t442.length co43)) (fun _ hk => hk.2) (.slice Ao47 t445.length co47)) (fun _ hk => hk.1.2)⟩
                      have n6_ : Fc (((w42.setCell ⟨gb449, 0, none⟩ (.slice Ao43 t442.length co43)).setCell ⟨gb449, 1, none⟩ (.slice Ao47 t445.length co47)).heap[gb431]? = some (.cells #[.slice A0_0 l0_0.length c0_0, .slice A0_1 l0_1.length c0_1, .slice (some ad440) l0_2.length c0_2] 59 (0, 0))) := ⟨(fa_ (fa_ (h_ BK431) NB431_449.out) NB431_449.out)⟩
                      have n7_ : Fc (((w42.setCell ⟨gb449, 0, none⟩ (.slice Ao43 t442.length co43)).setCell ⟨gb449, 1, none⟩ (.slice Ao47 t445.length co47)).heap[gb433]? = some (.cells #[.slice Ao37 x434000_1.length co37, .slice Ao40 x434001_1.length co40] 56 (0, 0))) := ⟨(fa_ (fa_ (h_ BK433) NB433_449.out) NB433_449.out)⟩
                      have n8_ : Fc (((w42.setCell ⟨gb449, 0, none⟩ (.slice Ao43 t442.length co43)).setCell ⟨gb449, 1, none⟩ (.slice Ao47 t445.length co47)).heap[gb449]? = some (.cells #[.slice Ao43 t442.length co43, .slice Ao47 t445.length co47] 56 (0, 0))) := ⟨(pu_ (cs := #[.slice Ao43 t442.length co43, .slice none 0 0]) (pu_ (cs := #[.slice none 0 0, .slice none 0 0]) (h_ BK449)))⟩
                      have n9_ : Fc (Below w.heap.size w ((w42.setCell ⟨gb449, 0, none⟩ (.slice Ao43 t442.length co43)).setCell ⟨gb449, 1, none⟩ (.slice Ao47 t445.length co47))) := ⟨b_ HB⟩
                      (try clear HO_4)
                      (try clear HO_5)
                      (try clear HO_434000)
                      (try clear HO_434001)
                      (try clear HO444)
                      (try clear HO447)
                      (try clear BK431)
                      (try clear BK433)
                      (try clear BK449)
                      (try clear HB)
                      generalize ((w42.setCell ⟨gb449, 0, none⟩ (.slice Ao43 t442.length co43)).setCell ⟨gb449, 1, none⟩ (.slice Ao47 t445.length co47)) = w54 at n0_ n1_ n2_ n3_ n4_ n5_ n6_ n7_ n8_ n9_ ⊢
                      have HO_4 := n0_
                      have HO_5 := n1_
                      have HO_434000 := n2_
                      have HO_434001 := n3_
                      have HO444 := n4_
                      have HO447 := n5_
                      have BK431 := n6_
                      have BK433 := n7_
                      have BK449 := n8_
                      have HB := n9_
                      clear n0_ n1_ n2_ n3_ n4_ n5_ n6_ n7_ n8_ n9_
                      replace HO_4 := mk0 (Rd_ HO_4.out)
                      replace HO_5 := mk0 (Rd_ HO_5.out)
                      replace HO_434000 := mk0 (Rd_ HO_434000.out)
                      replace HO_434001 := mk0 (Kd.Q_drew HO_434001.out)
                      replace HO444 := mk0 (Rd_ HO444.out)
                      replace HO447 := mk0 (Rd_ HO447.out)
                      replace BK431 := mk0 (bD_ BK431.out)
                      replace BK433 := mk0 (bD_ BK433.out)
                      replace BK449 := mk0 (bD_ BK449.out)
                      replace HB := mk0 (b1_ HB.out)
                      obtain ⟨Ao56, co56, eo56⟩ := Kd.R_slice HO_5.out
                      (first | subst eo56 | (injection eo56 with f1_ f2_ f3_; have f4_ := f1_.symm; have f5_ := f3_.symm; clear f1_ f2_ f3_; subst f4_; subst f5_))
                      have p451 : 0 ≤ (t441 : Int) := of_decide_eq_true (by first | (with_reducible assumption) | assumption)
                      have q451 : t441 < (x5_1.length : Int) := of_decide_eq_true (by first | (with_reducible assumption) | assumption)
                      obtain ⟨ad451, e451, hx451_0⟩ := Kd.at_bool (Kd.R_reads' HO_5.out).2.2 t441 p451 q451
                      cases e451
                      replace p451 := eq_true p451
                      replace q451 := eq_true q451
                      refine start_ (n := 12) (S := fun w' => w'.cell? (ad451.add (t441).toNat) = some (.bool (rdOf false x5_1 t441))) (ds := []) (bt 12 0) (by kernel_rfl) rfl rfl (hx451_0) (fun hHeld => ?_); refine with_tabW quorumlaw5_PageStays.tab12 quorumlaw5_PageStays.bits12 (fun HT_ HW_ => ?_)
                      generalize w54.drew = w55 at HO_4 HO_5 HO_434000 HO_434001 HO444 HO447 BK431 BK433 BK449 HB hx451_0 hHeld ⊢
                      refine pq_ HT_.out 0 59 (bt 12 1) (h := ?_)
                      refine pq_ HT_.out 1 60 (bt 12 3) (h := ?_)
                      refine pq_ HT_.out 2 61 (bt 12 7) (h := ?_)
                      refine pq_ HT_.out 3 62 (bt 12 15) (h := ?_)
                      refine pq_ HT_.out 6 65 (bt 12 79) (h := ?_)
                      refine pq_ HT_.out 7 66 (bt 12 207) (h := ?_)
                      refine pq_ HT_.out 8 67 (bt 12 463) (h := ?_)
                      refine t1 HT_.out HW_.out 9 68 (bt 12 975) rfl rfl (by kernel_rfl) (fun _ _ _ h => h) (by rfl) (by intro w' s0; go_simp; with_reducible rfl) hHeld (by simp only [z_]; rfl) ?_
                      refine one_ (i := 4) (N := some 63) (bt 12 991) rfl rfl (one_of HT_.out (by kernel_rfl)) (by decide) (fun K hK => ?_)
                      refine goes_ Try.func35 (by kernel_rfl) rfl #[.int .i64 t448] (by rfl) rfl rfl (by (try simp only [List.map_toArray, List.map_cons, List.map_nil]); first | done | rfl | (simp only [List.length_drop, List.length_take]; rfl)) ?_
                      with_reducible refine (quorumlaw5_num.calls t448 t450 _ A51.out).mono ?_
                      rintro e w' ⟨rfl, ⟨nd, rfl⟩⟩
                      refine ⟨_, rfl, ?_⟩
                      refine hK.out _ _ (hHeld) (fun hHeld => ?_)
                      clear hK K
                      refine norm_ (a' := ?_) ?_ ?_
                      rotate_left
                      ·show Act.put _ (some 63) _ = _
                       simp only [z_]
                       rfl
                      refine pq_ HT_.out 5 64 (bt 12 1023) (h := ?_)
                      refine pq_ HT_.out 10 69 (bt 12 2047) (h := ?_)
                      refine pq_ HT_.out 11 70 (bt 12 4095) (h := ?_)
                      refine done_ (done_of HT_.out (by kernel_rfl)) ?_
                      try go_wp2
                      go_meet
                      case rel => exact ⟨_, (((t450 == 0) != (rdOf false x5_1 t441))), (by first | rfl | (simp; done) | (simp [*]; done)), H', ⟨by have := HK1.out; have := HJ16.out; have := HJ23.out; first | omega | exact Nat.le_refl _⟩, ⟨by (with_reducible repeat (first | apply Ra_ | apply Rn_ | apply Rd_)); exact HO_4.out⟩, ⟨by (with_reducible repeat (first | apply Ra_ | apply Rn_ | apply Rd_)); exact HO_5.out⟩, ⟨by (with_reducible repeat (first | apply Ra_ | apply Rn_ | apply Rd_)); exact HO_434000.out⟩, ⟨by (with_reducible repeat (first | apply Kd.Q_alloc | apply Kd.Q_drewN | apply Kd.Q_drew)); exact HO_434001.out⟩, ⟨by (with_reducible repeat (first | apply Ra_ | apply Rn_ | apply Rd_)); exact HO444.out⟩, ⟨Kd.Q_of_R (r_ HO447)⟩, ⟨h_ BK431⟩, ⟨h_ BK433⟩, ⟨h_ BK449⟩, ⟨b_ HB⟩⟩
                     ·rw [if_neg c53] at H
                      exact absurd H (by simp)
                    ·rw [if_neg c52] at H
                     exact absurd H (by simp)
                  case rest =>
                   clear HC35
                   try clear c3
                   try clear c7
                   try clear c7b0
                   try clear c7b1
                   try clear c8
                   try clear c8b0
                   try clear c8b1
                   try clear c18
                   try clear c18b0
                   try clear c23
                   try clear c25
                   try clear c25b0
                   try clear c25b1
                   try clear c30
                   try clear c31
                   try clear c31b0
                   try clear c32
                   try clear c32b0
                   try clear c48
                   try clear c48b0
                   try clear c52
                   try clear c52b0
                   try clear c53
                   try clear c53b0
                   try clear hcz10_0
                   try clear hcz10_1
                   try clear hcz10_2
                   try clear hcz20_0
                   try clear hcz20_1
                   try clear hcz20_2
                   try clear hcz22_0
                   try clear hcz22_1
                   try clear hcz22_2
                   try clear hcz27_0
                   try clear hcz27_1
                   try clear hcz39_0
                   try clear hcz39_1
                   try clear hcz46_0
                   try clear hcz46_1
                   try clear hcz5_0
                   try clear hcz5_1
                   try clear hcz5_2
                   try clear hfz10_0
                   try clear hfz10_1
                   try clear hfz10_2
                   try clear hfz20_0
                   try clear hfz20_1
                   try clear hfz20_2
                   try clear hfz22_0
                   try clear hfz22_1
                   try clear hfz22_2
                   try clear hfz27_0
                   try clear hfz27_1
                   try clear hfz39_0
                   try clear hfz39_1
                   try clear hfz46_0
                   try clear hfz46_1
                   try clear hfz5_0
                   try clear hfz5_1
                   try clear hfz5_2
                   try clear hx440_0
                   try clear hx440_1
                   try clear hx440_2
                   try clear hx451_0
                   try clear p440
                   try clear p451
                   try clear q440
                   try clear q451
                   obtain ⟨kq, x70_34, rfl, HA, HJ34, HO_4, HO_5, HO_434000, HO_434001, HO_450000, HO_450001, BK431, BK433, BK449, HB⟩ := hcut
                   cases kq with
                   | zero => exact absurd HA.out (by simp [quorumlaw5_PageStays.j3])
                   | succ kj34 =>
                    have H := HA.out
                    clear HA
                    simp only [quorumlaw5_PageStays.j3] at H
                    as_aux_lemma =>
                     by_cases c57 : x70_34 = true
                     ·subst c57
                      rw [if_pos rfl] at H
                      obtain rfl := Option.some.inj H
                      go_wp2
                      go_ret
                      exact ⟨by first | rfl | (simp [errW_none, errW_some] <;> rfl) | (simp [*, errW_none, errW_some] <;> rfl), b_ HB⟩
                     ·replace c57 := Bool.eq_false_iff.mpr c57
                      subst c57
                      rw [if_neg (show ¬ (false = true) by decide)] at H
                      replace H := Option.bind_eq_some_iff.mp H
                      obtain ⟨t452, A580, H⟩ := H
                      try dsimp only at H
                      have A58 := mk0 A580
                      clear A580
                      by_cases c59 : t452 = 0
                      ·rw [if_pos c59] at H
                       have c59b0 : (t452 == 0) = true := beq_iff_eq.mpr c59
                       have c59b1 : (t452 != 0) = false := bne_eq_false_iff_eq.mpr c59
                       clear c59
                       by_cases c60 : 0 ≤ t441
                       ·rw [if_pos c60] at H
                        have c60b0 : decide (0 ≤ t441) = true := decide_eq_true c60
                        clear c60
                        by_cases c61 : t441 < (x5_1.length : Int)
                        ·rw [if_pos c61] at H
                         have c61b0 : decide (t441 < (x5_1.length : Int)) = true := decide_eq_true c61
                         clear c61
                         obtain ⟨y453, hy453⟩ : ∃ y_ : List Bool, y_ = (x5_1.set (t441 : Int).toNat false) := ⟨_, rfl⟩
                         replace H : (quorumlaw5_PageStays.j5 kj34 x4_1 y453 x6_1 l0_0 l0_1 l0_2 t442 t445) = some r := by first | (rw [hy453]; with_reducible exact H) | (have H2_ := (Option.bind_some _ _).symm.trans H; rw [hy453]; with_reducible exact H2_) | (have H2_ := (Option.bind_some _ _).symm.trans H; with_reducible exact H2_) | with_reducible exact H | (rw [hy453]; exact H) | exact H
                         have Ny453 := mk0 hy453
                         clear hy453
                         have H' := mk0 H
                         clear H
                         go_wp2_with (first | ((with_reducible refine gate_callee (f := 35) rfl ?_); refine gL_ (some 72) Try.func35 #[.int .i64 t448] (h := ?_); (with_reducible refine (quorumlaw5_num.calls t448 t452 _ A58.out).mono ?_); rintro e w' ⟨rfl, ⟨nd, rfl⟩⟩; refine ⟨_, rfl, ?_⟩; (try (rw [drewN_self wc]; generalize hq_ : World.drewN wc _ = wc; have n0_ : Fc (Kd.R Kd.string 9 wc w.heap.size (fun k_ => some k_ ≠ (.slice Ao37 x434000_1.length co37 : Value).ownBlock ∧ some k_ ≠ (.slice Ao43 t442.length co43 : Value).ownBlock) v435 x4_1) := ⟨by rw [← hq_]; exact (r_ HO_4)⟩; have n1_ : Fc (Kd.R Kd.string 9 wc w.heap.size (fun k_ => some k_ ≠ (v435 : Value).ownBlock ∧ some k_ ≠ (.slice Ao43 t442.length co43 : Value).ownBlock) (.slice Ao37 x434000_1.length co37) x434000_1) := ⟨by rw [← hq_]; exact (r_ HO_434000)⟩; have n2_ : Fc (Kd.Q (Kd.int .i64) 3 wc w.heap.size (fun k_ => some k_ ≠ (.slice Ao47 t445.length co47 : Value).ownBlock) (.slice Ao40 x434001_1.length co40) x434001_1) := ⟨by rw [← hq_]; exact (q_ HO_434001)⟩; have n3_ : Fc (Kd.R Kd.string 9 wc w.heap.size (fun k_ => some k_ ≠ (v435 : Value).ownBlock ∧ some k_ ≠ (.slice Ao37 x434000_1.length co37 : Value).ownBlock) (.slice Ao43 t442.length co43) t442) := ⟨by rw [← hq_]; exact (r_ HO_450000)⟩; have n4_ : Fc (Kd.Q (Kd.int .i64) 3 wc w.heap.size (fun k_ => some k_ ≠ (.slice Ao40 x434001_1.length co40 : Value).ownBlock) (.slice Ao47 t445.length co47) t445) := ⟨by rw [← hq_]; exact (q_ HO_450001)⟩; have n5_ : Fc (Kd.R Kd.bool 4 wc w.heap.size (fun _ => True) v438 x5_1) := ⟨by rw [← hq_]; exact (r_ HO_5)⟩; have n6_ : Fc (wc.heap[gb431]? = some (.cells #[.slice A0_0 l0_0.length c0_0, .slice A0_1 l0_1.length c0_1, .slice (some ad440) l0_2.length c0_2] 59 (0, 0))) := ⟨by rw [← hq_]; exact (h_ BK431)⟩; have n7_ : Fc (wc.heap[gb433]? = some (.cells #[.slice Ao37 x434000_1.length co37, .slice Ao40 x434001_1.length co40] 56 (0, 0))) := ⟨by rw [← hq_]; exact (h_ BK433)⟩; have n8_ : Fc (wc.heap[gb449]? = some (.cells #[.slice Ao43 t442.length co43, .slice Ao47 t445.length co47] 56 (0, 0))) := ⟨by rw [← hq_]; exact (h_ BK449)⟩; have n9_ : Fc (Below w.heap.size w wc) := ⟨by rw [← hq_]; exact (b_ HB)⟩; clear HO_4 HO_434000 HO_434001 HO_450000 HO_450001 HO_5 BK431 BK433 BK449 HB hq_; have HO_4 := n0_; have HO_434000 := n1_; have HO_434001 := n2_; have HO_450000 := n3_; have HO_450001 := n4_; have HO_5 := n5_; have BK431 := n6_; have BK433 := n7_; have BK449 := n8_; have HB := n9_; clear n0_ n1_ n2_ n3_ n4_ n5_ n6_ n7_ n8_ n9_)); have hnb63 := NB449_431.out; have hnc63 := NB431_449.out; have hnb64 := NB449_433.out; have hnc64 := NB433_449.out; obtain ⟨hcz65_0, hcz65_1, hfz65_0, hfz65_1⟩ := c2_ BK449; have hnb66 := NB433_431.out; have hnc66 := NB431_433.out; obtain ⟨hcz67_0, hcz67_1, hfz67_0, hfz67_1⟩ := c2_ BK433) | ((with_reducible refine gate_store (t := 56) (p := 3) rfl ?_); refine sv_ (t := 56) (p := 3) (w1 := ((wc.setCell ⟨gb433, 0, none⟩ (.slice Ao43 t442.length co43)).setCell ⟨gb433, 1, none⟩ (.slice Ao47 t445.length co47))) (h := ?_); intro w68 hw; have n0_ : Fc (Kd.R Kd.string 9 w68 w.heap.size (fun k_ => some k_ ≠ (.slice Ao37 x434000_1.length co37 : Value).ownBlock ∧ some k_ ≠ (.slice Ao43 t442.length co43 : Value).ownBlock) v435 x4_1) := ⟨(by rw [hw]; exact (r2_ (Kd.R_mono (Kd.R_far (p := ⟨gb433, 1, none⟩) (Kd.R_far (p := ⟨gb433, 0, none⟩) (Kd.R_types HO_4.out BK433.out (by decide)) (fun _ hk => hk.2) (.slice Ao43 t442.length co43)) (fun _ hk => hk.2) (.slice Ao47 t445.length co47)) (fun _ hk => ⟨hk.1.1, hk.1.2⟩))))⟩; have n1_ : Fc (Kd.R Kd.bool 4 w68 w.heap.size (fun _ => True) v438 x5_1) := ⟨(by rw [hw]; exact (r2_ (Kd.R_mono (Kd.R_far (p := ⟨gb433, 1, none⟩) (Kd.R_far (p := ⟨gb433, 0, none⟩) (Kd.R_types HO_5.out BK433.out (by decide)) (fun _ hk => hk.2) (.slice Ao43 t442.length co43)) (fun _ hk => hk.2) (.slice Ao47 t445.length co47)) (fun _ hk => trivial))))⟩; have n2_ : Fc (Kd.R Kd.string 9 w68 w.heap.size (fun k_ => some k_ ≠ (v435 : Value).ownBlock ∧ some k_ ≠ (.slice Ao43 t442.length co43 : Value).ownBlock) (.slice Ao37 x434000_1.length co37) x434000_1) := ⟨(by rw [hw]; exact (r2_ (Kd.R_mono (Kd.R_far (p := ⟨gb433, 1, none⟩) (Kd.R_far (p := ⟨gb433, 0, none⟩) (Kd.R_types HO_434000.out BK433.out (by decide)) (fun _ hk => hk.2) (.slice Ao43 t442.length co43)) (fun _ hk => hk.2) (.slice Ao47 t445.length co47)) (fun _ hk => ⟨hk.1.1, hk.1.2⟩))))⟩; have n3_ : Fc (Kd.Q (Kd.int .i64) 3 w68 w.heap.size (fun k_ => some k_ ≠ (.slice Ao47 t445.length co47 : Value).ownBlock) (.slice Ao40 x434001_1.length co40) x434001_1) := ⟨(by rw [hw]; exact (q2_ (Kd.Q_mono (Kd.Q_far (p := ⟨gb433, 1, none⟩) (Kd.Q_far (p := ⟨gb433, 0, none⟩) (Kd.Q_types HO_434001.out BK433.out (by decide)) (fun _ hk => hk.2) (.slice Ao43 t442.length co43)) (fun _ hk => hk.2) (.slice Ao47 t445.length co47)) (fun _ hk => hk.1))))⟩; have n4_ : Fc (Kd.R Kd.string 9 w68 w.heap.size (fun k_ => some k_ ≠ (v435 : Value).ownBlock ∧ some k_ ≠ (.slice Ao37 x434000_1.length co37 : Value).ownBlock) (.slice Ao43 t442.length co43) t442) := ⟨(by rw [hw]; exact (r2_ (Kd.R_mono (Kd.R_far (p := ⟨gb433, 1, none⟩) (Kd.R_far (p := ⟨gb433, 0, none⟩) (Kd.R_types HO_450000.out BK433.out (by decide)) (fun _ hk => hk.2) (.slice Ao43 t442.length co43)) (fun _ hk => hk.2) (.slice Ao47 t445.length co47)) (fun _ hk => ⟨hk.1.1, hk.1.2⟩))))⟩; have n5_ : Fc (Kd.Q (Kd.int .i64) 3 w68 w.heap.size (fun k_ => some k_ ≠ (.slice Ao40 x434001_1.length co40 : Value).ownBlock) (.slice Ao47 t445.length co47) t445) := ⟨(by rw [hw]; exact (q2_ (Kd.Q_mono (Kd.Q_far (p := ⟨gb433, 1, none⟩) (Kd.Q_far (p := ⟨gb433, 0, none⟩) (Kd.Q_types HO_450001.out BK433.out (by decide)) (fun _ hk => hk.2) (.slice Ao43 t442.length co43)) (fun _ hk => hk.2) (.slice Ao47 t445.length co47)) (fun _ hk => hk.1))))⟩; have n6_ : Fc (w68.heap[gb431]? = some (.cells #[.slice A0_0 l0_0.length c0_0, .slice A0_1 l0_1.length c0_1, .slice (some ad440) l0_2.length c0_2] 59 (0, 0))) := ⟨(by rw [hw]; exact (fa_ (fa_ (h_ BK431) NB431_433.out) NB431_433.out))⟩; have n7_ : Fc (w68.heap[gb433]? = some (.cells #[.slice Ao43 t442.length co43, .slice Ao47 t445.length co47] 56 (0, 0))) := ⟨(by rw [hw]; exact (pu_ (cs := #[.slice Ao43 t442.length co43, .slice Ao40 x434001_1.length co40]) (pu_ (cs := #[.slice Ao37 x434000_1.length co37, .slice Ao40 x434001_1.length co40]) (h_ BK433))))⟩; have n8_ : Fc (w68.heap[gb449]? = some (.cells #[.slice Ao43 t442.length co43, .slice Ao47 t445.length co47] 56 (0, 0))) := ⟨(by rw [hw]; exact (fa_ (fa_ (h_ BK449) NB449_433.out) NB449_433.out))⟩; have n9_ : Fc (Below w.heap.size w w68) := ⟨(by rw [hw]; exact (b_ HB))⟩; clear hw HO_4 HO_5 HO_434000 HO_434001 HO_450000 HO_450001 BK431 BK433 BK449 HB; have HO_4 := n0_; have HO_5 := n1_; have HO_434000 := n2_; have HO_434001 := n3_; have HO_450000 := n4_; have HO_450001 := n5_; have BK431 := n6_; have BK433 := n7_; have BK449 := n8_; have HB := n9_; clear n0_ n1_ n2_ n3_ n4_ n5_ n6_ n7_ n8_ n9_; have p62 : 0 ≤ (t441 : Int) := of_decide_eq_true (by first | (with_reducible assumption) | assumption); have q62 : (t441 : Int) < ((x5_1.length : Int) : Int) := of_decide_eq_true (by first | (with_reducible assumption) | assumption); obtain ⟨go62, co62, eo62, gb62, gl62, cl62, HG62⟩ := Kd.R_form HO_5.out (by omega); (first | cases eo62 | (injection eo62 with ea_ en_ ec_; (first | subst ea_ | (injection ea_ with ea_; subst ea_)); subst ec_; clear en_)); have GB62 := mk0 gb62; have GG62 := mk0 HG62; clear gb62 gl62 HG62; obtain ⟨hx62_0, hf62_0⟩ := Kd.R_celln false HO_5.out (t441 : Int) p62 q62; replace p62 := eq_true p62; replace q62 := eq_true q62; obtain ⟨hy69_, hz69_⟩ := Kd.R_celln false HO_5.out (t441 : Int) (of_decide_eq_true (by first | (with_reducible assumption) | assumption)) (of_decide_eq_true (by first | (with_reducible assumption) | assumption)); have HP69 := Kd.R_putg HO_5.out (t441 : Int) false) | ((with_reducible refine gate_store (t := 4) (p := 77) rfl ?_); refine sv_ (t := 4) (p := 77) (w1 := (w68.setCell ⟨go62, (t441 : Int).toNat, none⟩ (.bool false))) (h := ?_); intro w70 hw; have hg : w68.grownBy w70 (some go62) := (by rw [hw]; exact HP69.2); have hp_ : Kd.R Kd.bool 4 w70 w.heap.size (fun _ => True) (.slice (some ⟨go62, 0, none⟩) x5_1.length co62) y453 := (by rw [hw, Ny453.out]; exact HP69.1); clear HP69; have n0_ := mk0 (Kd.R_over' (v := (.slice (some ⟨go62, 0, none⟩) x5_1.length co62)) (r_ HO_4) (Kd.R_typed HO_5.out) (by decide) hg); have n2_ := mk0 (Kd.R_over' (v := (.slice (some ⟨go62, 0, none⟩) x5_1.length co62)) (r_ HO_434000) (Kd.R_typed HO_5.out) (by decide) hg); have n3_ := mk0 (Kd.Q_over' (v := (.slice (some ⟨go62, 0, none⟩) x5_1.length co62)) (q_ HO_434001) (Kd.R_typed HO_5.out) (by decide) hg); have n4_ := mk0 (Kd.R_over' (v := (.slice (some ⟨go62, 0, none⟩) x5_1.length co62)) (r_ HO_450000) (Kd.R_typed HO_5.out) (by decide) hg); have n5_ := mk0 (Kd.Q_over' (v := (.slice (some ⟨go62, 0, none⟩) x5_1.length co62)) (q_ HO_450001) (Kd.R_typed HO_5.out) (by decide) hg); have n6_ := mk0 (blk_grown (g := gb431) (o := .cells #[.slice A0_0 l0_0.length c0_0, .slice A0_1 l0_1.length c0_1, .slice (some ad440) l0_2.length c0_2] 59 (0, 0)) (h_ BK431) hg (Kd.R_ne HO_5.out BK431.out (by decide))); have n7_ := mk0 (blk_grown (g := gb433) (o := .cells #[.slice Ao43 t442.length co43, .slice Ao47 t445.length co47] 56 (0, 0)) (h_ BK433) hg (Kd.R_ne HO_5.out BK433.out (by decide))); have n8_ := mk0 (blk_grown (g := gb449) (o := .cells #[.slice Ao43 t442.length co43, .slice Ao47 t445.length co47] 56 (0, 0)) (h_ BK449) hg (Kd.R_ne HO_5.out BK449.out (by decide))); replace HO_5 := mk0 (hp_); replace HB := mk0 ((by rw [hw]; exact bs_ (HB.out) GB62.out : Below w.heap.size w w70)); clear HO_4 HO_434000 HO_434001 HO_450000 HO_450001 BK431 BK433 BK449; have HO_4 := n0_; have HO_434000 := n2_; have HO_434001 := n3_; have HO_450000 := n4_; have HO_450001 := n5_; have BK431 := n6_; have BK433 := n7_; have BK449 := n8_; clear n0_ n2_ n3_ n4_ n5_ n6_ n7_ n8_; clear hg hw hp_))
                         go_meet
                         case rel => exact ⟨_, (x4_1), (y453), (t442), (t445), (.slice Ao43 t442.length co43), (.slice Ao47 t445.length co47), H', ⟨by have := HK1.out; have := HJ16.out; have := HJ23.out; have := HJ34.out; first | omega | exact Nat.le_refl _⟩, ⟨by (with_reducible repeat (first | apply Ra_ | apply Rn_ | apply Rd_)); exact Kd.R_mono HO_4.out (fun _ hk => hk.2)⟩, ⟨by (with_reducible repeat (first | apply Ra_ | apply Rn_ | apply Rd_)); exact HO_5.out⟩, ⟨by (with_reducible repeat (first | apply Ra_ | apply Rn_ | apply Rd_)); exact Kd.R_mono HO_450000.out (fun _ hk => hk.1)⟩, ⟨by (with_reducible repeat (first | apply Kd.Q_alloc | apply Kd.Q_drewN | apply Kd.Q_drew)); exact Kd.Q_mono HO_450001.out (fun _ hk => trivial)⟩, ⟨h_ BK431⟩, ⟨h_ BK433⟩, ⟨b_ HB⟩⟩
                        ·rw [if_neg c61] at H
                         exact absurd H (by simp)
                       ·rw [if_neg c60] at H
                        exact absurd H (by simp)
                      ·rw [if_neg c59] at H
                       have c59b0 : (t452 == 0) = false := beq_eq_false_iff_ne.mpr c59
                       have c59b1 : (t452 != 0) = true := bne_iff_ne.mpr c59
                       have H' := mk0 H
                       clear H
                       go_wp2_with (first | ((with_reducible refine gate_callee (f := 35) rfl ?_); refine gL_ (some 72) Try.func35 #[.int .i64 t448] (h := ?_); (with_reducible refine (quorumlaw5_num.calls t448 t452 _ A58.out).mono ?_); rintro e w' ⟨rfl, ⟨nd, rfl⟩⟩; refine ⟨_, rfl, ?_⟩))
                       go_meet
                       case rel => exact ⟨_, (x4_1), (x5_1), (x434000_1), (x434001_1), (.slice Ao37 x434000_1.length co37), (.slice Ao40 x434001_1.length co40), H', ⟨by have := HK1.out; have := HJ16.out; have := HJ23.out; have := HJ34.out; first | omega | exact Nat.le_refl _⟩, ⟨by (with_reducible repeat (first | apply Ra_ | apply Rn_ | apply Rd_)); exact Kd.R_mono HO_4.out (fun _ hk => hk.1)⟩, ⟨by (with_reducible repeat (first | apply Ra_ | apply Rn_ | apply Rd_)); exact HO_5.out⟩, ⟨by (with_reducible repeat (first | apply Ra_ | apply Rn_ | apply Rd_)); exact Kd.R_mono HO_434000.out (fun _ hk => hk.1)⟩, ⟨by (with_reducible repeat (first | apply Kd.Q_alloc | apply Kd.Q_drewN | apply Kd.Q_drew)); exact Kd.Q_mono HO_434001.out (fun _ hk => trivial)⟩, ⟨h_ BK431⟩, ⟨h_ BK433⟩, ⟨b_ HB⟩⟩
                 ·rw [if_neg c32] at H
                  exact absurd H (by simp)
                ·rw [if_neg c31] at H
                 exact absurd H (by simp)
               ·replace c30 := Bool.eq_false_iff.mpr c30
                subst c30
                rw [if_neg (show ¬ (false = true) by decide)] at H
                by_cases c71 : 0 ≤ x6_1
                ·rw [if_pos c71] at H
                 have c71b0 : decide (0 ≤ x6_1) = true := decide_eq_true c71
                 clear c71
                 by_cases c72 : x6_1 < (l0_2.length : Int)
                 ·rw [if_pos c72] at H
                  have c72b0 : decide (x6_1 < (l0_2.length : Int)) = true := decide_eq_true c72
                  clear c72
                  replace H := Option.bind_eq_some_iff.mp H
                  obtain ⟨⟨t455, t458, t461, t462⟩, A730, H⟩ := H
                  try dsimp only at H
                  have A73 := mk0 A730
                  clear A730
                  replace H := Option.bind_eq_some_iff.mp H
                  obtain ⟨t464, A740, H⟩ := H
                  try dsimp only at H
                  have A74 := mk0 A740
                  clear A740
                  by_cases c75 : t464 = 0
                  ·rw [if_pos c75] at H
                   have c75b0 : (t464 == 0) = true := beq_iff_eq.mpr c75
                   have c75b1 : (t464 != 0) = false := bne_eq_false_iff_eq.mpr c75
                   clear c75
                   have HC76 := mk0 H
                   clear H
                   obtain ⟨Ao77, co77, eo77⟩ := Kd.R_slice HO_434000.out
                   subst eo77
                   obtain ⟨Ao78, co78, eo78, _⟩ := Kd.Q_slice HO_434001.out
                   subst eo78
                   try go_wp2
                   replace HO_4 := mk0 (Rd_ HO_4.out)
                   replace HO_5 := mk0 (Rd_ HO_5.out)
                   replace HO_434000 := mk0 (Rd_ HO_434000.out)
                   replace HO_434001 := mk0 (Kd.Q_drew HO_434001.out)
                   replace BK431 := mk0 (bD_ BK431.out)
                   replace BK433 := mk0 (bD_ BK433.out)
                   replace HB := mk0 (b1_ HB.out)
                   have p454 : 0 ≤ (x6_1 : Int) := of_decide_eq_true (by first | (with_reducible assumption) | assumption)
                   have q454 : x6_1 < (l0_2.length : Int) := of_decide_eq_true (by first | (with_reducible assumption) | assumption)
                   obtain ⟨ad454, e454, hx454_0, hx454_1, hx454_2⟩ := at_T64 HR0_2.out x6_1 p454 q454
                   have hw454_2 := hx454_2
                   have hw454_1 := hx454_1
                   have hw454_0 := hx454_0
                   cases e454
                   replace hx454_0 := (HB.out.cell (World.block_lt_of_cell? w _ hx454_0)).trans hx454_0
                   replace hx454_1 := (HB.out.cell (World.block_lt_of_cell? w _ hx454_1)).trans hx454_1
                   replace hx454_2 := (HB.out.cell (World.block_lt_of_cell? w _ hx454_2)).trans hx454_2
                   replace p454 := eq_true p454
                   replace q454 := eq_true q454
                   refine start_ (n := 16) (S := fun w' => w'.cell? ⟨gb433, 0, none⟩ = some (.slice Ao77 x434000_1.length co77) ∧ w'.cell? ⟨gb433, 1, none⟩ = some (.slice Ao78 x434001_1.length co78) ∧ w'.cell? ⟨gb431, 0, none⟩ = some (.slice A0_0 l0_0.length c0_0) ∧ w'.cell? ⟨gb431, 1, none⟩ = some (.slice A0_1 l0_1.length c0_1) ∧ w'.cell? ⟨gb431, 2, none⟩ = some (.slice (some ad454) l0_2.length c0_2) ∧ w'.cell? (ad454.add ((x6_1).toNat * 3)) = some (.int .i64 ((rd_T64 l0_2 x6_1).f0)) ∧ w'.cell? ⟨(ad454.add ((x6_1).toNat * 3)).block, (ad454.add ((x6_1).toNat * 3)).off + 1, none⟩ = some (.int .i64 ((rd_T64 l0_2 x6_1).f1)) ∧ w'.cell? ⟨(ad454.add ((x6_1).toNat * 3)).block, (ad454.add ((x6_1).toNat * 3)).off + 2, none⟩ = some (.string ((rd_T64 l0_2 x6_1).f2))) (ds := []) (bt 16 0) (by kernel_rfl) rfl rfl ⟨(blk_cell BK433.out 0).trans rfl, (blk_cell BK433.out 1).trans rfl, (blk_cell BK431.out 0).trans rfl, (blk_cell BK431.out 1).trans rfl, (blk_cell BK431.out 2).trans rfl, ((HB.out.cell (World.block_lt_of_cell? w _ hw454_0)).trans hw454_0), ((HB.out.cell (World.block_lt_of_cell? w _ hw454_1)).trans hw454_1), ((HB.out.cell (World.block_lt_of_cell? w _ hw454_2)).trans hw454_2)⟩ (fun hHeld => ?_); refine with_tabW quorumlaw5_PageStays.tab16 quorumlaw5_PageStays.bits16 (fun HT_ HW_ => ?_)
                   generalize wc.drew = w79 at HO_4 HO_5 HO_434000 HO_434001 BK431 BK433 HB hx454_0 hx454_1 hx454_2 hHeld ⊢
                   refine pq_ HT_.out 1 80 (bt 16 2) (h := ?_)
                   refine pq_ HT_.out 3 82 (bt 16 10) (h := ?_)
                   refine tq8_ HT_.out HW_.out 0 79 (bt 16 11) hHeld (h := ?_)
                   refine tq8_ HT_.out HW_.out 2 81 (bt 16 15) hHeld (h := ?_)
                   refine pq_ HT_.out 4 83 (bt 16 31) (h := ?_)
                   refine pq_ HT_.out 5 84 (bt 16 63) (h := ?_)
                   refine tq8_ HT_.out HW_.out 6 85 (bt 16 127) hHeld (h := ?_)
                   refine join_ (σ := Value × Value × Nat) 3 (bt 16 8191) (fun s_ => [(86, .tuple #[.agg #[s_.1, s_.2.1], .int .i64 t461, .int .i64 t462]), (10, .pointer (some ⟨s_.2.2, 0, none⟩)), (78, .tuple #[.agg #[s_.1, s_.2.1], .int .i64 t461, .int .i64 t462]), (87, .agg #[s_.1, s_.2.1]), (88, .int .i64 t461), (89, .int .i64 t462)]) (fun s_ w' => (w'.cell? ⟨gb433, 0, none⟩ = some (.slice Ao77 x434000_1.length co77) ∧ w'.cell? ⟨gb433, 1, none⟩ = some (.slice Ao78 x434001_1.length co78) ∧ w'.cell? ⟨gb431, 0, none⟩ = some (.slice A0_0 l0_0.length c0_0) ∧ w'.cell? ⟨gb431, 1, none⟩ = some (.slice A0_1 l0_1.length c0_1) ∧ w'.cell? ⟨gb431, 2, none⟩ = some (.slice (some ad454) l0_2.length c0_2) ∧ w'.cell? (ad454.add ((x6_1).toNat * 3)) = some (.int .i64 ((rd_T64 l0_2 x6_1).f0)) ∧ w'.cell? ⟨(ad454.add ((x6_1).toNat * 3)).block, (ad454.add ((x6_1).toNat * 3)).off + 1, none⟩ = some (.int .i64 ((rd_T64 l0_2 x6_1).f1)) ∧ w'.cell? ⟨(ad454.add ((x6_1).toNat * 3)).block, (ad454.add ((x6_1).toNat * 3)).off + 2, none⟩ = some (.string ((rd_T64 l0_2 x6_1).f2))) ∧ (Kd.R Kd.string 9 w' w.heap.size (fun k_ => some k_ ≠ (v435 : Value).ownBlock ∧ some k_ ≠ (.slice Ao77 x434000_1.length co77 : Value).ownBlock) s_.1 t455) ∧ (Kd.Q (Kd.int .i64) 3 w' w.heap.size (fun k_ => some k_ ≠ (.slice Ao78 x434001_1.length co78 : Value).ownBlock) s_.2.1 t458) ∧ (Kd.R Kd.string 9 w' w.heap.size (fun k_ => some k_ ≠ (s_.1 : Value).ownBlock ∧ some k_ ≠ (.slice Ao77 x434000_1.length co77 : Value).ownBlock) v435 x4_1) ∧ (Kd.R Kd.string 9 w' w.heap.size (fun k_ => some k_ ≠ (s_.1 : Value).ownBlock ∧ some k_ ≠ (v435 : Value).ownBlock) (.slice Ao77 x434000_1.length co77) x434000_1) ∧ (Kd.Q (Kd.int .i64) 3 w' w.heap.size (fun k_ => some k_ ≠ (s_.2.1 : Value).ownBlock) (.slice Ao78 x434001_1.length co78) x434001_1) ∧ (Kd.R Kd.bool 4 w' w.heap.size (fun _ => True) v438 x5_1) ∧ (w'.heap[gb431]? = some (.cells #[.slice A0_0 l0_0.length c0_0, .slice A0_1 l0_1.length c0_1, .slice (some ad454) l0_2.length c0_2] 59 (0, 0))) ∧ (w'.heap[gb433]? = some (.cells #[.slice Ao77 x434000_1.length co77, .slice Ao78 x434001_1.length co78] 56 (0, 0))) ∧ (w'.heap[s_.2.2]? = some (.cells #[.slice none 0 0, .slice none 0 0] 56 (0, 0))) ∧ (w.heap.size ≤ s_.2.2) ∧ (w.heap.size ≤ s_.2.2) ∧ (gb431 ≠ s_.2.2) ∧ (s_.2.2 ≠ gb431) ∧ (gb433 ≠ s_.2.2) ∧ (s_.2.2 ≠ gb433) ∧ (Below w.heap.size w w')) ?_ ?_
                   rotate_left
                   ·intro hCont
                    refine two_ (i := 7) (j := 12) (Ni := some 86) (Nj := some 10) (bt 16 255) (bt 16 4223) rfl rfl rfl rfl (two_of HT_.out (by kernel_rfl)) (by decide) (by decide) (fun K hK => ?_) (fun K hK => ?_)
                    ·skip
                     refine goes_ Try.func36 (by kernel_rfl) rfl #[.agg #[.slice Ao77 x434000_1.length co77, .slice Ao78 x434001_1.length co78], .string ((rd_T64 l0_2 x6_1).f2)] (by rfl) rfl rfl (by (try simp only [List.map_toArray, List.map_cons, List.map_nil]); first | done | rfl | (simp only [List.length_drop, List.length_take]; rfl)) ?_
                     with_reducible refine (page_Add.calls kj23 _ _ x434000_1 _ _ x434001_1 ((rd_T64 l0_2 x6_1).f2) t455 t458 t461 t462 _ ?side1 ?side2 ?side3 ?side4 A73.out).mono ?_
                     (case side1 => exact cr_ HO_434000)
                     (case side2 => exact (Kd.R_reads' HO_434000.out).2.1)
                     (case side3 => exact cq_ HO_434001)
                     (case side4 => exact (Kd.Q_reads' HO_434001.out).2.1)
                     rintro e w80 ⟨v456, v459, rfl, ho0, ho1, hb⟩
                     refine ⟨_, rfl, ?_⟩
                     have n4_ := mk0 (Kd.R_lower (Kd.R_new' (Kd.R_new' ho0 (Kd.R_lt (r_ HO_4))) (Kd.R_lt (r_ HO_434000))) (bz_ (b_ HB)))
                     have n5_ := mk0 (Kd.Q_lower (Kd.Q_new' ho1 (Kd.Q_lt (q_ HO_434001))) (bz_ (b_ HB)))
                     replace HO_4 := mk0 (Kd.R_elder' (r_ HO_4) (Kd.R_base ho0) hb)
                     replace HO_5 := mk0 (Kd.R_below (r_ HO_5) hb)
                     replace HO_434000 := mk0 (Kd.R_elder' (r_ HO_434000) (Kd.R_base ho0) hb)
                     replace HO_434001 := mk0 (Kd.Q_elder' (q_ HO_434001) (Kd.Q_base ho1) hb)
                     replace BK431 := mk0 (u_ BK431 hb)
                     replace BK433 := mk0 (u_ BK433 hb)
                     replace HB := mk0 (bt_ (b_ HB) hb)
                     have HO457 := n4_
                     have HO460 := n5_
                     clear n4_ n5_
                     (try clear hb)
                     (try clear hb2)
                     (try clear hk)
                     (try clear hi)
                     (try clear ho0)
                     (try clear ho1)
                     refine hK.out _ _ ⟨(blk_cell BK433.out 0).trans rfl, (blk_cell BK433.out 1).trans rfl, (blk_cell BK431.out 0).trans rfl, (blk_cell BK431.out 1).trans rfl, (blk_cell BK431.out 2).trans rfl, ((HB.out.cell (World.block_lt_of_cell? w _ hw454_0)).trans hw454_0), ((HB.out.cell (World.block_lt_of_cell? w _ hw454_1)).trans hw454_1), ((HB.out.cell (World.block_lt_of_cell? w _ hw454_2)).trans hw454_2)⟩ (fun hHeld => ?_)
                     clear hK K
                     refine norm_ (a' := ?_) ?_ ?_
                     rotate_left
                     ·show Act.put _ (some 86) _ = _
                      simp only [z_]
                      rfl
                     refine pq_ HT_.out 8 78 (bt 16 511) (h := ?_)
                     refine pq_ HT_.out 9 87 (bt 16 1023) (h := ?_)
                     refine pq_ HT_.out 10 88 (bt 16 2047) (h := ?_)
                     refine pq_ HT_.out 11 89 (bt 16 4095) (h := ?_)
                     refine one_ (i := 12) (N := some 10) (bt 16 8191) rfl rfl (one_of HT_.out (by kernel_rfl)) (by decide) (fun K hK => ?_)
                     refine box_step ?hg (N := 10) ?hd (cs := #[.slice none 0 0, .slice none 0 0]) (t := 56) ?hr ?_; (case hd => rfl); (case hg => rfl); (case hr => first | (go_simp; done) | (go_simp; rfl))
                     intro gb463 hg w81 hbox hb
                     have n10_ := mk0 (gz_ HB hg)
                     have n11_ := mk0 (gz_ HB hg)
                     have n12_ := mk0 (ne1_ BK431 hg)
                     have n13_ := mk0 (ne2_ BK431 hg)
                     have n14_ := mk0 (ne1_ BK433 hg)
                     have n15_ := mk0 (ne2_ BK433 hg)
                     replace HO_4 := mk0 (Kd.R_below (r_ HO_4) hb)
                     replace HO_5 := mk0 (Kd.R_below (r_ HO_5) hb)
                     replace HO_434000 := mk0 (Kd.R_below (r_ HO_434000) hb)
                     replace HO_434001 := mk0 (Kd.Q_below (q_ HO_434001) hb)
                     replace HO457 := mk0 (Kd.R_below (r_ HO457) hb)
                     replace HO460 := mk0 (Kd.Q_below (q_ HO460) hb)
                     replace BK431 := mk0 (u_ BK431 hb)
                     replace BK433 := mk0 (u_ BK433 hb)
                     replace HB := mk0 (bt_ (b_ HB) hb)
                     have BK463 := mk0 (hbox)
                     have GW463 := n10_
                     have GE463 := n11_
                     have NB431_463 := n12_
                     have NB463_431 := n13_
                     have NB433_463 := n14_
                     have NB463_433 := n15_
                     clear n10_ n11_ n12_ n13_ n14_ n15_ hb hbox hg
                     refine hK.out _ _ ⟨(blk_cell BK433.out 0).trans rfl, (blk_cell BK433.out 1).trans rfl, (blk_cell BK431.out 0).trans rfl, (blk_cell BK431.out 1).trans rfl, (blk_cell BK431.out 2).trans rfl, ((HB.out.cell (World.block_lt_of_cell? w _ hw454_0)).trans hw454_0), ((HB.out.cell (World.block_lt_of_cell? w _ hw454_1)).trans hw454_1), ((HB.out.cell (World.block_lt_of_cell? w _ hw454_2)).trans hw454_2)⟩ (fun hHeld => ?_)
                     clear hK K
                     refine norm_ (a' := ?_) ?_ ?_
                     rotate_left
                     ·show Act.put _ (some 10) _ = _
                      simp only [z_]
                      rfl
                     exact norm_ (by simp only [putAll, Act.put, List.setIfInBounds_toArray, List.set_cons_zero, List.set_cons_succ]) (hCont (v456, v459, gb463) _ ⟨hHeld, (r2_ (Kd.R_mono HO457.out (fun _ hk => ⟨hk.1.2, hk.2⟩))), (q2_ (Kd.Q_mono HO460.out (fun _ hk => hk.2))), (r2_ (Kd.R_mono HO_4.out (fun _ hk => ⟨hk.2, hk.1⟩))), (r2_ (Kd.R_mono HO_434000.out (fun _ hk => ⟨hk.2, hk.1⟩))), (q2_ (Kd.Q_mono HO_434001.out (fun _ hk => hk.2))), (r_ HO_5), (h_ BK431), (h_ BK433), (h_ BK463), GW463.out, GE463.out, NB431_463.out, NB463_431.out, NB433_463.out, NB463_433.out, (b_ HB)⟩)
                    ·skip
                     refine box_step ?hg (N := 10) ?hd (cs := #[.slice none 0 0, .slice none 0 0]) (t := 56) ?hr ?_; (case hd => rfl); (case hg => rfl); (case hr => first | (go_simp; done) | (go_simp; rfl))
                     intro gb463 hg w80 hbox hb
                     have n8_ := mk0 (gz_ HB hg)
                     have n9_ := mk0 (gz_ HB hg)
                     have n10_ := mk0 (ne1_ BK431 hg)
                     have n11_ := mk0 (ne2_ BK431 hg)
                     have n12_ := mk0 (ne1_ BK433 hg)
                     have n13_ := mk0 (ne2_ BK433 hg)
                     replace HO_4 := mk0 (Kd.R_below (r_ HO_4) hb)
                     replace HO_5 := mk0 (Kd.R_below (r_ HO_5) hb)
                     replace HO_434000 := mk0 (Kd.R_below (r_ HO_434000) hb)
                     replace HO_434001 := mk0 (Kd.Q_below (q_ HO_434001) hb)
                     replace BK431 := mk0 (u_ BK431 hb)
                     replace BK433 := mk0 (u_ BK433 hb)
                     replace HB := mk0 (bt_ (b_ HB) hb)
                     have BK463 := mk0 (hbox)
                     have GW463 := n8_
                     have GE463 := n9_
                     have NB431_463 := n10_
                     have NB463_431 := n11_
                     have NB433_463 := n12_
                     have NB463_433 := n13_
                     clear n8_ n9_ n10_ n11_ n12_ n13_ hb hbox hg
                     refine hK.out _ _ ⟨(blk_cell BK433.out 0).trans rfl, (blk_cell BK433.out 1).trans rfl, (blk_cell BK431.out 0).trans rfl, (blk_cell BK431.out 1).trans rfl, (blk_cell BK431.out 2).trans rfl, ((HB.out.cell (World.block_lt_of_cell? w _ hw454_0)).trans hw454_0), ((HB.out.cell (World.block_lt_of_cell? w _ hw454_1)).trans hw454_1), ((HB.out.cell (World.block_lt_of_cell? w _ hw454_2)).trans hw454_2)⟩ (fun hHeld => ?_)
                     clear hK K
                     refine norm_ (a' := ?_) ?_ ?_
                     rotate_left
                     ·show Act.put _ (some 10) _ = _
                      simp only [z_]
                      rfl
                     refine one_ (i := 7) (N := some 86) (bt 16 4351) rfl rfl (one_of HT_.out (by kernel_rfl)) (by decide) (fun K hK => ?_)
                     refine goes_ Try.func36 (by kernel_rfl) rfl #[.agg #[.slice Ao77 x434000_1.length co77, .slice Ao78 x434001_1.length co78], .string ((rd_T64 l0_2 x6_1).f2)] (by rfl) rfl rfl (by (try simp only [List.map_toArray, List.map_cons, List.map_nil]); first | done | rfl | (simp only [List.length_drop, List.length_take]; rfl)) ?_
                     with_reducible refine (page_Add.calls kj23 _ _ x434000_1 _ _ x434001_1 ((rd_T64 l0_2 x6_1).f2) t455 t458 t461 t462 _ ?side1 ?side2 ?side3 ?side4 A73.out).mono ?_
                     (case side1 => exact cr_ HO_434000)
                     (case side2 => exact (Kd.R_reads' HO_434000.out).2.1)
                     (case side3 => exact cq_ HO_434001)
                     (case side4 => exact (Kd.Q_reads' HO_434001.out).2.1)
                     rintro e w81 ⟨v456, v459, rfl, ho0, ho1, hb⟩
                     refine ⟨_, rfl, ?_⟩
                     have n4_ := mk0 (Kd.R_lower (Kd.R_new' (Kd.R_new' ho0 (Kd.R_lt (r_ HO_4))) (Kd.R_lt (r_ HO_434000))) (bz_ (b_ HB)))
                     have n5_ := mk0 (Kd.Q_lower (Kd.Q_new' ho1 (Kd.Q_lt (q_ HO_434001))) (bz_ (b_ HB)))
                     replace HO_4 := mk0 (Kd.R_elder' (r_ HO_4) (Kd.R_base ho0) hb)
                     replace HO_5 := mk0 (Kd.R_below (r_ HO_5) hb)
                     replace HO_434000 := mk0 (Kd.R_elder' (r_ HO_434000) (Kd.R_base ho0) hb)
                     replace HO_434001 := mk0 (Kd.Q_elder' (q_ HO_434001) (Kd.Q_base ho1) hb)
                     replace BK431 := mk0 (u_ BK431 hb)
                     replace BK433 := mk0 (u_ BK433 hb)
                     replace BK463 := mk0 (u_ BK463 hb)
                     replace HB := mk0 (bt_ (b_ HB) hb)
                     have HO457 := n4_
                     have HO460 := n5_
                     clear n4_ n5_
                     (try clear hb)
                     (try clear hb2)
                     (try clear hk)
                     (try clear hi)
                     (try clear ho0)
                     (try clear ho1)
                     refine hK.out _ _ ⟨(blk_cell BK433.out 0).trans rfl, (blk_cell BK433.out 1).trans rfl, (blk_cell BK431.out 0).trans rfl, (blk_cell BK431.out 1).trans rfl, (blk_cell BK431.out 2).trans rfl, ((HB.out.cell (World.block_lt_of_cell? w _ hw454_0)).trans hw454_0), ((HB.out.cell (World.block_lt_of_cell? w _ hw454_1)).trans hw454_1), ((HB.out.cell (World.block_lt_of_cell? w _ hw454_2)).trans hw454_2)⟩ (fun hHeld => ?_)
                     clear hK K
                     refine norm_ (a' := ?_) ?_ ?_
                     rotate_left
                     ·show Act.put _ (some 86) _ = _
                      simp only [z_]
                      rfl
                     refine pq_ HT_.out 8 78 (bt 16 4607) (h := ?_)
                     refine pq_ HT_.out 9 87 (bt 16 5119) (h := ?_)
                     refine pq_ HT_.out 10 88 (bt 16 6143) (h := ?_)
                     refine pq_ HT_.out 11 89 (bt 16 8191) (h := ?_)
                     exact norm_ (by simp only [putAll, Act.put, List.setIfInBounds_toArray, List.set_cons_zero, List.set_cons_succ]) (hCont (v456, v459, gb463) _ ⟨hHeld, (r2_ (Kd.R_mono HO457.out (fun _ hk => ⟨hk.1.2, hk.2⟩))), (q2_ (Kd.Q_mono HO460.out (fun _ hk => hk.2))), (r2_ (Kd.R_mono HO_4.out (fun _ hk => ⟨hk.2, hk.1⟩))), (r2_ (Kd.R_mono HO_434000.out (fun _ hk => ⟨hk.2, hk.1⟩))), (q2_ (Kd.Q_mono HO_434001.out (fun _ hk => hk.2))), (r_ HO_5), (h_ BK431), (h_ BK433), (h_ BK463), GW463.out, GE463.out, NB431_463.out, NB463_431.out, NB433_463.out, NB463_433.out, (b_ HB)⟩)
                   rintro ⟨v456, v459, gb463⟩ w82 ⟨hS_, h0_, h1_, h2_, h3_, h4_, h5_, h6_, h7_, h8_, h9_, h10_, h11_, h12_, h13_, h14_, h15_⟩
                   have n0_ : Fc (Kd.R Kd.string 9 w82 w.heap.size (fun k_ => some k_ ≠ (v435 : Value).ownBlock ∧ some k_ ≠ (.slice Ao77 x434000_1.length co77 : Value).ownBlock) v456 t455) := ⟨h0_⟩
                   have n1_ : Fc (Kd.Q (Kd.int .i64) 3 w82 w.heap.size (fun k_ => some k_ ≠ (.slice Ao78 x434001_1.length co78 : Value).ownBlock) v459 t458) := ⟨h1_⟩
                   have n2_ : Fc (Kd.R Kd.string 9 w82 w.heap.size (fun k_ => some k_ ≠ (v456 : Value).ownBlock ∧ some k_ ≠ (.slice Ao77 x434000_1.length co77 : Value).ownBlock) v435 x4_1) := ⟨h2_⟩
                   have n3_ : Fc (Kd.R Kd.string 9 w82 w.heap.size (fun k_ => some k_ ≠ (v456 : Value).ownBlock ∧ some k_ ≠ (v435 : Value).ownBlock) (.slice Ao77 x434000_1.length co77) x434000_1) := ⟨h3_⟩
                   have n4_ : Fc (Kd.Q (Kd.int .i64) 3 w82 w.heap.size (fun k_ => some k_ ≠ (v459 : Value).ownBlock) (.slice Ao78 x434001_1.length co78) x434001_1) := ⟨h4_⟩
                   have n5_ : Fc (Kd.R Kd.bool 4 w82 w.heap.size (fun _ => True) v438 x5_1) := ⟨h5_⟩
                   have n6_ : Fc (w82.heap[gb431]? = some (.cells #[.slice A0_0 l0_0.length c0_0, .slice A0_1 l0_1.length c0_1, .slice (some ad454) l0_2.length c0_2] 59 (0, 0))) := ⟨h6_⟩
                   have n7_ : Fc (w82.heap[gb433]? = some (.cells #[.slice Ao77 x434000_1.length co77, .slice Ao78 x434001_1.length co78] 56 (0, 0))) := ⟨h7_⟩
                   have n8_ : Fc (w82.heap[gb463]? = some (.cells #[.slice none 0 0, .slice none 0 0] 56 (0, 0))) := ⟨h8_⟩
                   have n9_ : Fc (w.heap.size ≤ gb463) := ⟨h9_⟩
                   have n10_ : Fc (w.heap.size ≤ gb463) := ⟨h10_⟩
                   have n11_ : Fc (gb431 ≠ gb463) := ⟨h11_⟩
                   have n12_ : Fc (gb463 ≠ gb431) := ⟨h12_⟩
                   have n13_ : Fc (gb433 ≠ gb463) := ⟨h13_⟩
                   have n14_ : Fc (gb463 ≠ gb433) := ⟨h14_⟩
                   have n15_ : Fc (Below w.heap.size w w82) := ⟨h15_⟩
                   clear HO_4 HO_5 HO_434000 HO_434001 BK431 BK433 HB h0_ h1_ h2_ h3_ h4_ h5_ h6_ h7_ h8_ h9_ h10_ h11_ h12_ h13_ h14_ h15_
                   have HO457 := n0_
                   have HO460 := n1_
                   have HO_4 := n2_
                   have HO_434000 := n3_
                   have HO_434001 := n4_
                   have HO_5 := n5_
                   have BK431 := n6_
                   have BK433 := n7_
                   have BK463 := n8_
                   have GW463 := n9_
                   have GE463 := n10_
                   have NB431_463 := n11_
                   have NB463_431 := n12_
                   have NB433_463 := n13_
                   have NB463_433 := n14_
                   have HB := n15_
                   clear n0_ n1_ n2_ n3_ n4_ n5_ n6_ n7_ n8_ n9_ n10_ n11_ n12_ n13_ n14_ n15_
                   have hHeld : w82.cell? ⟨gb433, 0, none⟩ = some (.slice Ao77 x434000_1.length co77) ∧ w82.cell? ⟨gb433, 1, none⟩ = some (.slice Ao78 x434001_1.length co78) ∧ w82.cell? ⟨gb431, 0, none⟩ = some (.slice A0_0 l0_0.length c0_0) ∧ w82.cell? ⟨gb431, 1, none⟩ = some (.slice A0_1 l0_1.length c0_1) ∧ w82.cell? ⟨gb431, 2, none⟩ = some (.slice (some ad454) l0_2.length c0_2) ∧ w82.cell? (ad454.add ((x6_1).toNat * 3)) = some (.int .i64 ((rd_T64 l0_2 x6_1).f0)) ∧ w82.cell? ⟨(ad454.add ((x6_1).toNat * 3)).block, (ad454.add ((x6_1).toNat * 3)).off + 1, none⟩ = some (.int .i64 ((rd_T64 l0_2 x6_1).f1)) ∧ w82.cell? ⟨(ad454.add ((x6_1).toNat * 3)).block, (ad454.add ((x6_1).toNat * 3)).off + 2, none⟩ = some (.string ((rd_T64 l0_2 x6_1).f2)) := hS_
                   obtain ⟨Ao83, co83, eo83⟩ := Kd.R_slice HO457.out
                   (first | subst eo83 | (injection eo83 with f1_ f2_ f3_; have f4_ := f1_.symm; have f5_ := f3_.symm; clear f1_ f2_ f3_; subst f4_; subst f5_))
                   obtain ⟨Ao85, co85, eo85, _⟩ := Kd.Q_slice HO460.out
                   (first | subst eo85 | (injection eo85 with f1_ f2_ f3_; have f4_ := f1_.symm; have f5_ := f3_.symm; clear f1_ f2_ f3_; subst f4_; subst f5_))
                   refine norm_ (a' := ?_) ?_ ?_
                   rotate_left
                   ·simp only [putAll, Act.put, List.setIfInBounds_toArray, List.set_cons_zero, List.set_cons_succ]
                    rfl
                   refine one_ (i := 13) (N := none) (bt 16 16383) rfl rfl (one_of HT_.out (by kernel_rfl)) (by decide) (fun K hK => ?_)
                   have hs84 : w82.cell? ⟨gb463, 0, none⟩ = some (.slice none 0 0) := (blk_cell BK463.out 0).trans rfl
                   have hfs84 := blk_frozen BK463.out 0
                   have hns84_0 := NB431_463.out
                   have hns84_1 := NB433_463.out
                   have hms84_0 := NB463_431.out
                   have hms84_1 := NB463_433.out
                   have hs86 : w82.cell? ⟨gb463, 1, none⟩ = some (.slice none 0 0) := (blk_cell BK463.out 1).trans rfl
                   have hfs86 := blk_frozen BK463.out 1
                   have hns86_0 := NB431_463.out
                   have hns86_1 := NB433_463.out
                   have hms86_0 := NB463_431.out
                   have hms86_1 := NB463_433.out
                   refine skip_ (w1 := ?_) (by rfl) rfl ?_ ?_
                   rotate_left
                   ·go_simp
                    rfl
                   refine hK.out _ _ ⟨((cell_far (p := ⟨gb463, _, none⟩) NB433_463.out _).trans (((cell_far (p := ⟨gb463, _, none⟩) NB433_463.out _).trans (hHeld.1)))), ((cell_far (p := ⟨gb463, _, none⟩) NB433_463.out _).trans (((cell_far (p := ⟨gb463, _, none⟩) NB433_463.out _).trans (hHeld.2.1)))), ((cell_far (p := ⟨gb463, _, none⟩) NB431_463.out _).trans (((cell_far (p := ⟨gb463, _, none⟩) NB431_463.out _).trans (hHeld.2.2.1)))), ((cell_far (p := ⟨gb463, _, none⟩) NB431_463.out _).trans (((cell_far (p := ⟨gb463, _, none⟩) NB431_463.out _).trans (hHeld.2.2.2.1)))), ((cell_far (p := ⟨gb463, _, none⟩) NB431_463.out _).trans (((cell_far (p := ⟨gb463, _, none⟩) NB431_463.out _).trans (hHeld.2.2.2.2.1)))), ((cell_far (p := ⟨gb463, _, none⟩) (by first | exact Nat.ne_of_lt (Nat.lt_of_lt_of_le (by have := World.block_lt_of_cell? _ _ hw454_0; first | rwa [add_block] at this | exact this) GW463.out) | (rw [add_block]; exact Nat.ne_of_lt (Nat.lt_of_lt_of_le (by have := World.block_lt_of_cell? _ _ hw454_0; first | rwa [add_block] at this | exact this) GW463.out)) | (show (Addr.add _ _).block ≠ _; rw [add_block]; exact Nat.ne_of_lt (Nat.lt_of_lt_of_le (by have := World.block_lt_of_cell? _ _ hw454_0; first | rwa [add_block] at this | exact this) GW463.out)) | (dsimp only; exact Nat.ne_of_lt (Nat.lt_of_lt_of_le (by have := World.block_lt_of_cell? _ _ hw454_0; first | rwa [add_block] at this | exact this) GW463.out))) _).trans (((cell_far (p := ⟨gb463, _, none⟩) (by first | exact Nat.ne_of_lt (Nat.lt_of_lt_of_le (by have := World.block_lt_of_cell? _ _ hw454_0; first | rwa [add_block] at this | exact this) GW463.out) | (rw [add_block]; exact Nat.ne_of_lt (Nat.lt_of_lt_of_le (by have := World.block_lt_of_cell? _ _ hw454_0; first | rwa [add_block] at this | exact this) GW463.out)) | (show (Addr.add _ _).block ≠ _; rw [add_block]; exact Nat.ne_of_lt (Nat.lt_of_lt_of_le (by have := World.block_lt_of_cell? _ _ hw454_0; first | rwa [add_block] at this | exact this) GW463.out)) | (dsimp only; exact Nat.ne_of_lt (Nat.lt_of_lt_of_le (by have := World.block_lt_of_cell? _ _ hw454_0; first | rwa [add_block] at this | exact this) GW463.out))) _).trans (hHeld.2.2.2.2.2.1)))), ((cell_far (p := ⟨gb463, _, none⟩) (by first | exact Nat.ne_of_lt (Nat.lt_of_lt_of_le (by have := World.block_lt_of_cell? _ _ hw454_1; first | rwa [add_block] at this | exact this) GW463.out) | (rw [add_block]; exact Nat.ne_of_lt (Nat.lt_of_lt_of_le (by have := World.block_lt_of_cell? _ _ hw454_1; first | rwa [add_block] at this | exact this) GW463.out)) | (show (Addr.add _ _).block ≠ _; rw [add_block]; exact Nat.ne_of_lt (Nat.lt_of_lt_of_le (by have := World.block_lt_of_cell? _ _ hw454_1; first | rwa [add_block] at this | exact this) GW463.out)) | (dsimp only; exact Nat.ne_of_lt (Nat.lt_of_lt_of_le (by have := World.block_lt_of_cell? _ _ hw454_1; first | rwa [add_block] at this | exact this) GW463.out))) _).trans (((cell_far (p := ⟨gb463, _, none⟩) (by first | exact Nat.ne_of_lt (Nat.lt_of_lt_of_le (by have := World.block_lt_of_cell? _ _ hw454_1; first | rwa [add_block] at this | exact this) GW463.out) | (rw [add_block]; exact Nat.ne_of_lt (Nat.lt_of_lt_of_le (by have := World.block_lt_of_cell? _ _ hw454_1; first | rwa [add_block] at this | exact this) GW463.out)) | (show (Addr.add _ _).block ≠ _; rw [add_block]; exact Nat.ne_of_lt (Nat.lt_of_lt_of_le (by have := World.block_lt_of_cell? _ _ hw454_1; first | rwa [add_block] at this | exact this) GW463.out)) | (dsimp only; exact Nat.ne_of_lt (Nat.lt_of_lt_of_le (by have := World.block_lt_of_cell? _ _ hw454_1; first | rwa [add_block] at this | exact this) GW463.out))) _).trans (hHeld.2.2.2.2.2.2.1)))), ((cell_far (p := ⟨gb463, _, none⟩) (by first | exact Nat.ne_of_lt (Nat.lt_of_lt_of_le (by have := World.block_lt_of_cell? _ _ hw454_2; first | rwa [add_block] at this | exact this) GW463.out) | (rw [add_block]; exact Nat.ne_of_lt (Nat.lt_of_lt_of_le (by have := World.block_lt_of_cell? _ _ hw454_2; first | rwa [add_block] at this | exact this) GW463.out)) | (show (Addr.add _ _).block ≠ _; rw [add_block]; exact Nat.ne_of_lt (Nat.lt_of_lt_of_le (by have := World.block_lt_of_cell? _ _ hw454_2; first | rwa [add_block] at this | exact this) GW463.out)) | (dsimp only; exact Nat.ne_of_lt (Nat.lt_of_lt_of_le (by have := World.block_lt_of_cell? _ _ hw454_2; first | rwa [add_block] at this | exact this) GW463.out))) _).trans (((cell_far (p := ⟨gb463, _, none⟩) (by first | exact Nat.ne_of_lt (Nat.lt_of_lt_of_le (by have := World.block_lt_of_cell? _ _ hw454_2; first | rwa [add_block] at this | exact this) GW463.out) | (rw [add_block]; exact Nat.ne_of_lt (Nat.lt_of_lt_of_le (by have := World.block_lt_of_cell? _ _ hw454_2; first | rwa [add_block] at this | exact this) GW463.out)) | (show (Addr.add _ _).block ≠ _; rw [add_block]; exact Nat.ne_of_lt (Nat.lt_of_lt_of_le (by have := World.block_lt_of_cell? _ _ hw454_2; first | rwa [add_block] at this | exact this) GW463.out)) | (dsimp only; exact Nat.ne_of_lt (Nat.lt_of_lt_of_le (by have := World.block_lt_of_cell? _ _ hw454_2; first | rwa [add_block] at this | exact this) GW463.out))) _).trans (hHeld.2.2.2.2.2.2.2))))⟩ (fun hHeld => ?_)
                   clear hK K
                   refine pq_ HT_.out 14 11 (bt 16 32767) (h := ?_)
                   refine pq_ HT_.out 15 12 (bt 16 65535) (h := ?_)
                   refine done_ (done_of HT_.out (by kernel_rfl)) ?_
                   go_upto_region 18 with (first | ((with_reducible refine gate_callee (f := 35) rfl ?_); refine gL_ (some 91) Try.func35 #[.int .i64 t462] (h := ?_); (with_reducible refine (quorumlaw5_num.calls t462 t464 _ A74.out).mono ?_); rintro e w' ⟨rfl, ⟨nd, rfl⟩⟩; refine ⟨_, rfl, ?_⟩))
                   (try simp only [Act.put, List.setIfInBounds_toArray, List.set_cons_zero, List.set_cons_succ])
                   go_cut [101] (fun v101 wc => ∃ (kq : Nat) (x101_75 : Bool), v101 = .bool x101_75 ∧ Fc (quorumlaw5_PageStays.j4 kq x4_1 x5_1 x6_1 t461 x101_75 l0_0 l0_1 l0_2 t455 t458 = some r) ∧ Fc (kq ≤ kj23) ∧ Fc (Kd.R Kd.string 9 wc w.heap.size (fun k_ => some k_ ≠ ((.slice Ao77 x434000_1.length co77) : Value).ownBlock ∧ some k_ ≠ ((.slice Ao83 t455.length co83) : Value).ownBlock) v435 x4_1) ∧ Fc (Kd.R Kd.bool 4 wc w.heap.size (fun _ => True) v438 x5_1) ∧ Fc (Kd.R Kd.string 9 wc w.heap.size (fun k_ => some k_ ≠ (v435 : Value).ownBlock ∧ some k_ ≠ ((.slice Ao83 t455.length co83) : Value).ownBlock) (.slice Ao77 x434000_1.length co77) x434000_1) ∧ Fc (Kd.Q (Kd.int .i64) 3 wc w.heap.size (fun k_ => some k_ ≠ ((.slice Ao85 t458.length co85) : Value).ownBlock) (.slice Ao78 x434001_1.length co78) x434001_1) ∧ Fc (Kd.R Kd.string 9 wc w.heap.size (fun k_ => some k_ ≠ (v435 : Value).ownBlock ∧ some k_ ≠ ((.slice Ao77 x434000_1.length co77) : Value).ownBlock) (.slice Ao83 t455.length co83) t455) ∧ Fc (Kd.Q (Kd.int .i64) 3 wc w.heap.size (fun k_ => some k_ ≠ ((.slice Ao78 x434001_1.length co78) : Value).ownBlock) (.slice Ao85 t458.length co85) t458) ∧ Fc (wc.heap[gb431]? = some (.cells #[(.slice A0_0 l0_0.length c0_0), (.slice A0_1 l0_1.length c0_1), (.slice (some ad454) l0_2.length c0_2)] 59 (0, 0))) ∧ Fc (wc.heap[gb433]? = some (.cells #[(.slice Ao77 x434000_1.length co77), (.slice Ao78 x434001_1.length co78)] 56 (0, 0))) ∧ Fc (wc.heap[gb463]? = some (.cells #[(.slice Ao83 t455.length co83), (.slice Ao85 t458.length co85)] 56 (0, 0))) ∧ Fc (Below w.heap.size w wc))
                   case first =>
                    have H := HC76.out
                    clear HC76
                    replace H := Option.bind_eq_some_iff.mp H
                    obtain ⟨t465, A870, H⟩ := H
                    try dsimp only at H
                    have A87 := mk0 A870
                    clear A870
                    by_cases c88 : t465 = true
                    ·subst c88
                     rw [if_pos rfl] at H
                     by_cases c89 : 0 ≤ t461
                     ·rw [if_pos c89] at H
                      have c89b0 : decide (0 ≤ t461) = true := decide_eq_true c89
                      clear c89
                      (first | rw [c89b0] | (simp only [i64_w, i32_w]; rw [c89b0]) | skip)
                      by_cases c90 : t461 < (x5_1.length : Int)
                      ·rw [if_pos c90] at H
                       have c90b0 : decide (t461 < (x5_1.length : Int)) = true := decide_eq_true c90
                       clear c90
                       have H' := mk0 H
                       clear H
                       go_wp2_with (first | ((with_reducible refine gate_callee (f := 37) rfl ?_); refine gL_ (some 94) Try.func37 #[.int .i64 t461, .int .i64 15] (h := ?_); (with_reducible refine (quorumref0_Num.calls t461 15 true _ A87.out).mono ?_); rintro e w' ⟨rfl, ⟨nd, rfl⟩⟩; refine ⟨_, rfl, ?_⟩; obtain ⟨Ao91, co91, eo91⟩ := Kd.R_slice HO_5.out; subst eo91; have p466 : 0 ≤ (t461 : Int) := of_decide_eq_true (by first | (with_reducible assumption) | assumption); have q466 : t461 < (x5_1.length : Int) := of_decide_eq_true (by first | (with_reducible assumption) | assumption); obtain ⟨ad466, e466, hx466_0⟩ := Kd.at_bool (Kd.R_reads' HO_5.out).2.2 t461 p466 q466; cases e466; have hn466_0 : ad466.block ≠ gb463 := Kd.own_blk (Kd.R_ne HO_5.out BK463.out (by decide)); have hn466_1 : ad466.block ≠ gb463 := Kd.own_blk (Kd.R_ne HO_5.out BK463.out (by decide)); replace hx466_0 := (cell_far (p := ⟨gb463, 0, none⟩) (by first | (rw [add_block]; exact hn466_0) | (show (Addr.add _ _).block ≠ _; rw [add_block]; exact hn466_0) | exact hn466_0) (.slice Ao83 t455.length co83)).trans hx466_0; replace hx466_0 := (cell_far (p := ⟨gb463, 1, none⟩) (by first | (rw [add_block]; exact hn466_1) | (show (Addr.add _ _).block ≠ _; rw [add_block]; exact hn466_1) | exact hn466_1) (.slice Ao85 t458.length co85)).trans hx466_0; clear hn466_0 hn466_1; replace p466 := eq_true p466; replace q466 := eq_true q466))
                       go_meet
                       case rel => exact ⟨_, (rdOf false x5_1 t461), (by first | rfl | (simp; done) | (simp [*]; done)), H', ⟨by have := HK1.out; have := HJ16.out; have := HJ23.out; first | omega | exact Nat.le_refl _⟩, ⟨by (with_reducible repeat (first | apply Ra_ | apply Rn_ | apply Rd_)); exact Kd.R_mono (Kd.R_far (p := ⟨gb463, 1, none⟩) (Kd.R_far (p := ⟨gb463, 0, none⟩) (Kd.R_types HO_4.out BK463.out (by decide)) (fun _ hk => hk.2) (.slice Ao83 t455.length co83)) (fun _ hk => hk.2) (.slice Ao85 t458.length co85)) (fun _ hk => ⟨hk.1.2, hk.1.1⟩)⟩, ⟨by (with_reducible repeat (first | apply Ra_ | apply Rn_ | apply Rd_)); exact Kd.R_mono (Kd.R_far (p := ⟨gb463, 1, none⟩) (Kd.R_far (p := ⟨gb463, 0, none⟩) (Kd.R_types HO_5.out BK463.out (by decide)) (fun _ hk => hk.2) (.slice Ao83 t455.length co83)) (fun _ hk => hk.2) (.slice Ao85 t458.length co85)) (fun _ hk => trivial)⟩, ⟨by (with_reducible repeat (first | apply Ra_ | apply Rn_ | apply Rd_)); exact Kd.R_mono (Kd.R_far (p := ⟨gb463, 1, none⟩) (Kd.R_far (p := ⟨gb463, 0, none⟩) (Kd.R_types HO_434000.out BK463.out (by decide)) (fun _ hk => hk.2) (.slice Ao83 t455.length co83)) (fun _ hk => hk.2) (.slice Ao85 t458.length co85)) (fun _ hk => ⟨hk.1.2, hk.1.1⟩)⟩, ⟨by (with_reducible repeat (first | apply Kd.Q_alloc | apply Kd.Q_drewN | apply Kd.Q_drew)); exact Kd.Q_mono (Kd.Q_far (p := ⟨gb463, 1, none⟩) (Kd.Q_far (p := ⟨gb463, 0, none⟩) (Kd.Q_types HO_434001.out BK463.out (by decide)) (fun _ hk => hk.2) (.slice Ao83 t455.length co83)) (fun _ hk => hk.2) (.slice Ao85 t458.length co85)) (fun _ hk => hk.1)⟩, ⟨by (with_reducible repeat (first | apply Ra_ | apply Rn_ | apply Rd_)); exact Kd.R_mono (Kd.R_far (p := ⟨gb463, 1, none⟩) (Kd.R_far (p := ⟨gb463, 0, none⟩) (Kd.R_types HO457.out BK463.out (by decide)) (fun _ hk => hk.2) (.slice Ao83 t455.length co83)) (fun _ hk => hk.2) (.slice Ao85 t458.length co85)) (fun _ hk => ⟨hk.1.1, hk.1.2⟩)⟩, ⟨by (with_reducible repeat (first | apply Kd.Q_alloc | apply Kd.Q_drewN | apply Kd.Q_drew)); exact Kd.Q_mono (Kd.Q_far (p := ⟨gb463, 1, none⟩) (Kd.Q_far (p := ⟨gb463, 0, none⟩) (Kd.Q_types HO460.out BK463.out (by decide)) (fun _ hk => hk.2) (.slice Ao83 t455.length co83)) (fun _ hk => hk.2) (.slice Ao85 t458.length co85)) (fun _ hk => hk.1)⟩, ⟨(fa_ (fa_ (h_ BK431) NB431_463.out) NB431_463.out)⟩, ⟨(fa_ (fa_ (h_ BK433) NB433_463.out) NB433_463.out)⟩, ⟨(pu_ (cs := #[.slice Ao83 t455.length co83, .slice none 0 0]) (pu_ (cs := #[.slice none 0 0, .slice none 0 0]) (h_ BK463)))⟩, ⟨b_ HB⟩⟩
                      ·rw [if_neg c90] at H
                       exact absurd H (by simp)
                     ·rw [if_neg c89] at H
                      exact absurd H (by simp)
                    ·replace c88 := Bool.eq_false_iff.mpr c88
                     subst c88
                     rw [if_neg (show ¬ (false = true) by decide)] at H
                     have H' := mk0 H
                     clear H
                     go_wp2_with (first | ((with_reducible refine gate_callee (f := 37) rfl ?_); refine gL_ (some 94) Try.func37 #[.int .i64 t461, .int .i64 15] (h := ?_); (with_reducible refine (quorumref0_Num.calls t461 15 false _ A87.out).mono ?_); rintro e w' ⟨rfl, ⟨nd, rfl⟩⟩; refine ⟨_, rfl, ?_⟩))
                     go_meet
                     case rel => exact ⟨_, (true), (by first | rfl | (simp; done) | (simp [*]; done)), H', ⟨by have := HK1.out; have := HJ16.out; have := HJ23.out; first | omega | exact Nat.le_refl _⟩, ⟨by (with_reducible repeat (first | apply Ra_ | apply Rn_ | apply Rd_)); exact Kd.R_mono (Kd.R_far (p := ⟨gb463, 1, none⟩) (Kd.R_far (p := ⟨gb463, 0, none⟩) (Kd.R_types HO_4.out BK463.out (by decide)) (fun _ hk => hk.2) (.slice Ao83 t455.length co83)) (fun _ hk => hk.2) (.slice Ao85 t458.length co85)) (fun _ hk => ⟨hk.1.2, hk.1.1⟩)⟩, ⟨by (with_reducible repeat (first | apply Ra_ | apply Rn_ | apply Rd_)); exact Kd.R_mono (Kd.R_far (p := ⟨gb463, 1, none⟩) (Kd.R_far (p := ⟨gb463, 0, none⟩) (Kd.R_types HO_5.out BK463.out (by decide)) (fun _ hk => hk.2) (.slice Ao83 t455.length co83)) (fun _ hk => hk.2) (.slice Ao85 t458.length co85)) (fun _ hk => trivial)⟩, ⟨by (with_reducible repeat (first | apply Ra_ | apply Rn_ | apply Rd_)); exact Kd.R_mono (Kd.R_far (p := ⟨gb463, 1, none⟩) (Kd.R_far (p := ⟨gb463, 0, none⟩) (Kd.R_types HO_434000.out BK463.out (by decide)) (fun _ hk => hk.2) (.slice Ao83 t455.length co83)) (fun _ hk => hk.2) (.slice Ao85 t458.length co85)) (fun _ hk => ⟨hk.1.2, hk.1.1⟩)⟩, ⟨by (with_reducible repeat (first | apply Kd.Q_alloc | apply Kd.Q_drewN | apply Kd.Q_drew)); exact Kd.Q_mono (Kd.Q_far (p := ⟨gb463, 1, none⟩) (Kd.Q_far (p := ⟨gb463, 0, none⟩) (Kd.Q_types HO_434001.out BK463.out (by decide)) (fun _ hk => hk.2) (.slice Ao83 t455.length co83)) (fun _ hk => hk.2) (.slice Ao85 t458.length co85)) (fun _ hk => hk.1)⟩, ⟨by (with_reducible repeat (first | apply Ra_ | apply Rn_ | apply Rd_)); exact Kd.R_mono (Kd.R_far (p := ⟨gb463, 1, none⟩) (Kd.R_far (p := ⟨gb463, 0, none⟩) (Kd.R_types HO457.out BK463.out (by decide)) (fun _ hk => hk.2) (.slice Ao83 t455.length co83)) (fun _ hk => hk.2) (.slice Ao85 t458.length co85)) (fun _ hk => ⟨hk.1.1, hk.1.2⟩)⟩, ⟨by (with_reducible repeat (first | apply Kd.Q_alloc | apply Kd.Q_drewN | apply Kd.Q_drew)); exact Kd.Q_mono (Kd.Q_far (p := ⟨gb463, 1, none⟩) (Kd.Q_far (p := ⟨gb463, 0, none⟩) (Kd.Q_types HO460.out BK463.out (by decide)) (fun _ hk => hk.2) (.slice Ao83 t455.length co83)) (fun _ hk => hk.2) (.slice Ao85 t458.length co85)) (fun _ hk => hk.1)⟩, ⟨(fa_ (fa_ (h_ BK431) NB431_463.out) NB431_463.out)⟩, ⟨(fa_ (fa_ (h_ BK433) NB433_463.out) NB433_463.out)⟩, ⟨(pu_ (cs := #[.slice Ao83 t455.length co83, .slice none 0 0]) (pu_ (cs := #[.slice none 0 0, .slice none 0 0]) (h_ BK463)))⟩, ⟨b_ HB⟩⟩
                   case rest =>
                    clear HC76
                    try clear c3
                    try clear c7
                    try clear c8
                    try clear c30
                    try clear c31
                    try clear c32
                    try clear c57
                    try clear c59
                    try clear c59b0
                    try clear c59b1
                    try clear c60
                    try clear c60b0
                    try clear c61
                    try clear c61b0
                    try clear p62
                    try clear q62
                    try clear c71
                    try clear c71b0
                    try clear c72
                    try clear c72b0
                    try clear c75
                    try clear c75b0
                    try clear c75b1
                    try clear c88
                    try clear c89
                    try clear c89b0
                    try clear c90
                    try clear c90b0
                    try clear hcz65_0
                    try clear hcz65_1
                    try clear hcz67_0
                    try clear hcz67_1
                    try clear hfz65_0
                    try clear hfz65_1
                    try clear hfz67_0
                    try clear hfz67_1
                    try clear hx454_0
                    try clear hx454_1
                    try clear hx454_2
                    try clear hx466_0
                    try clear hx62_0
                    try clear p454
                    try clear p466
                    try clear p62
                    try clear q451
                    try clear q454
                    try clear q466
                    try clear q62
                    obtain ⟨kq, x101_75, rfl, HA, HJ75, HO_4, HO_5, HO_434000, HO_434001, HO_464000, HO_464001, BK431, BK433, BK463, HB⟩ := hcut
                    cases kq with
                    | zero => exact absurd HA.out (by simp [quorumlaw5_PageStays.j4])
                    | succ kj75 =>
                     have H := HA.out
                     clear HA
                     simp only [quorumlaw5_PageStays.j4] at H
                     as_aux_lemma =>
                      by_cases c92 : x101_75 = true
                      ·subst c92
                       rw [if_pos rfl] at H
                       obtain rfl := Option.some.inj H
                       go_wp2
                       go_ret
                       exact ⟨by first | rfl | (simp [errW_none, errW_some] <;> rfl) | (simp [*, errW_none, errW_some] <;> rfl), b_ HB⟩
                      ·replace c92 := Bool.eq_false_iff.mpr c92
                       subst c92
                       rw [if_neg (show ¬ (false = true) by decide)] at H
                       by_cases c93 : 0 ≤ x6_1
                       ·rw [if_pos c93] at H
                        have c93b0 : decide (0 ≤ x6_1) = true := decide_eq_true c93
                        clear c93
                        by_cases c94 : x6_1 < (l0_2.length : Int)
                        ·rw [if_pos c94] at H
                         have c94b0 : decide (x6_1 < (l0_2.length : Int)) = true := decide_eq_true c94
                         clear c94
                         by_cases c95 : 0 ≤ t461
                         ·rw [if_pos c95] at H
                          have c95b0 : decide (0 ≤ t461) = true := decide_eq_true c95
                          clear c95
                          by_cases c96 : t461 < (x5_1.length : Int)
                          ·rw [if_pos c96] at H
                           have c96b0 : decide (t461 < (x5_1.length : Int)) = true := decide_eq_true c96
                           clear c96
                           obtain ⟨y468, hy468⟩ : ∃ y_ : List Bool, y_ = (x5_1.set (t461 : Int).toNat true) := ⟨_, rfl⟩
                           replace H : (if t461 < (x4_1.length : Int) then (quorumlaw5_PageStays.j5 kj75 (x4_1.set (t461 : Int).toNat ((rd_T64 l0_2 x6_1).f2)) y468 x6_1 l0_0 l0_1 l0_2 t455 t458) else (none)) = some r := by first | (rw [hy468]; with_reducible exact H) | (have H2_ := (Option.bind_some _ _).symm.trans H; rw [hy468]; with_reducible exact H2_) | (have H2_ := (Option.bind_some _ _).symm.trans H; with_reducible exact H2_) | with_reducible exact H | (rw [hy468]; exact H) | exact H
                           have Ny468 := mk0 hy468
                           clear hy468
                           by_cases c98 : t461 < (x4_1.length : Int)
                           ·rw [if_pos c98] at H
                            have c98b0 : decide (t461 < (x4_1.length : Int)) = true := decide_eq_true c98
                            clear c98
                            obtain ⟨y469, hy469⟩ : ∃ y_ : List ByteArray, y_ = (x4_1.set (t461 : Int).toNat ((rd_T64 l0_2 x6_1).f2)) := ⟨_, rfl⟩
                            replace H : (quorumlaw5_PageStays.j5 kj75 y469 y468 x6_1 l0_0 l0_1 l0_2 t455 t458) = some r := by first | (rw [hy469]; with_reducible exact H) | (have H2_ := (Option.bind_some _ _).symm.trans H; rw [hy469]; with_reducible exact H2_) | (have H2_ := (Option.bind_some _ _).symm.trans H; with_reducible exact H2_) | with_reducible exact H | (rw [hy469]; exact H) | exact H
                            have Ny469 := mk0 hy469
                            clear hy469
                            have H' := mk0 H
                            clear H
                            try go_wp2
                            replace HO_4 := mk0 (Rd_ HO_4.out)
                            replace HO_5 := mk0 (Rd_ HO_5.out)
                            replace HO_434000 := mk0 (Rd_ HO_434000.out)
                            replace HO_434001 := mk0 (Kd.Q_drew HO_434001.out)
                            replace HO_464000 := mk0 (Rd_ HO_464000.out)
                            replace HO_464001 := mk0 (Kd.Q_drew HO_464001.out)
                            replace BK431 := mk0 (bD_ BK431.out)
                            replace BK433 := mk0 (bD_ BK433.out)
                            replace BK463 := mk0 (bD_ BK463.out)
                            replace HB := mk0 (b1_ HB.out)
                            have p467 : 0 ≤ (x6_1 : Int) := of_decide_eq_true (by first | (with_reducible assumption) | assumption)
                            have q467 : x6_1 < (l0_2.length : Int) := of_decide_eq_true (by first | (with_reducible assumption) | assumption)
                            obtain ⟨ad467, e467, hx467_0, hx467_1, hx467_2⟩ := at_T64 HR0_2.out x6_1 p467 q467
                            have hw467_2 := hx467_2
                            have hw467_1 := hx467_1
                            have hw467_0 := hx467_0
                            obtain rfl : ad454 = ad467 := (by injection e467)
                            replace hx467_0 := (HB.out.cell (World.block_lt_of_cell? w _ hx467_0)).trans hx467_0
                            replace hx467_1 := (HB.out.cell (World.block_lt_of_cell? w _ hx467_1)).trans hx467_1
                            replace hx467_2 := (HB.out.cell (World.block_lt_of_cell? w _ hx467_2)).trans hx467_2
                            replace p467 := eq_true p467
                            replace q467 := eq_true q467
                            have p97 : 0 ≤ (t461 : Int) := of_decide_eq_true (by first | (with_reducible assumption) | assumption)
                            have q97 : (t461 : Int) < ((x5_1.length : Int) : Int) := of_decide_eq_true (by first | (with_reducible assumption) | assumption)
                            obtain ⟨go97, co97, eo97, gb97, gl97, cl97, HG97⟩ := Kd.R_form HO_5.out (by omega)
                            (first | cases eo97 | (injection eo97 with ea_ en_ ec_; (first | subst ea_ | (injection ea_ with ea_; subst ea_)); subst ec_; clear en_))
                            have GB97 := mk0 gb97
                            have GG97 := mk0 HG97
                            clear gb97 gl97 HG97
                            obtain ⟨hx97_0, hf97_0⟩ := Kd.R_celln false (Kd.R_far (p := ⟨gb433, 1, none⟩) (Kd.R_far (p := ⟨gb433, 0, none⟩) (Kd.R_types HO_5.out BK433.out (by decide)) (fun _ hk => hk.2) (.slice Ao83 t455.length co83)) (fun _ hk => hk.2) (.slice Ao85 t458.length co85)) (t461 : Int) p97 q97
                            replace p97 := eq_true p97
                            replace q97 := eq_true q97
                            have HP103 := Kd.R_putn (Kd.R_far (p := ⟨gb433, 1, none⟩) (Kd.R_far (p := ⟨gb433, 0, none⟩) (Kd.R_types HO_5.out BK433.out (by decide)) (fun _ hk => hk.2) (.slice Ao83 t455.length co83)) (fun _ hk => hk.2) (.slice Ao85 t458.length co85)) (t461 : Int) true
                            rw [← Ny468.out] at HP103
                            have HQ103 := mk0 HP103
                            clear HP103
                            have p99 : 0 ≤ (t461 : Int) := of_decide_eq_true (by first | (with_reducible assumption) | assumption)
                            have q99 : (t461 : Int) < ((x4_1.length : Int) : Int) := of_decide_eq_true (by first | (with_reducible assumption) | assumption)
                            obtain ⟨go99, co99, eo99, gb99, gl99, cl99, HG99⟩ := Kd.R_form HO_4.out (by omega)
                            (first | cases eo99 | (injection eo99 with ea_ en_ ec_; (first | subst ea_ | (injection ea_ with ea_; subst ea_)); subst ec_; clear en_))
                            have GB99 := mk0 gb99
                            have GG99 := mk0 HG99
                            clear gb99 gl99 HG99
                            obtain ⟨hx99_0, hf99_0⟩ := Kd.R_celln (⟨#[]⟩ : ByteArray) (Kd.R_far (p := ⟨go97, (t461 : Int).toNat, none⟩) (Kd.R_far (p := ⟨gb433, 1, none⟩) (Kd.R_far (p := ⟨gb433, 0, none⟩) (Kd.R_types (Kd.R_types HO_4.out BK433.out (by decide)) GG97.out (by decide)) (fun _ hk => hk.1.2) (.slice Ao83 t455.length co83)) (fun _ hk => hk.1.2) (.slice Ao85 t458.length co85)) (fun _ hk => hk.2) (.bool true)) (t461 : Int) p99 q99
                            replace p99 := eq_true p99
                            replace q99 := eq_true q99
                            have HP104 := Kd.R_putn (Kd.R_far (p := ⟨go97, (t461 : Int).toNat, none⟩) (Kd.R_far (p := ⟨gb433, 1, none⟩) (Kd.R_far (p := ⟨gb433, 0, none⟩) (Kd.R_types (Kd.R_types HO_4.out BK433.out (by decide)) GG97.out (by decide)) (fun _ hk => hk.1.2) (.slice Ao83 t455.length co83)) (fun _ hk => hk.1.2) (.slice Ao85 t458.length co85)) (fun _ hk => hk.2) (.bool true)) (t461 : Int) ((rd_T64 l0_2 x6_1).f2)
                            rw [← Ny469.out] at HP104
                            have HQ104 := mk0 HP104
                            clear HP104
                            refine start_ (n := 16) (S := fun w' => w'.cell? ⟨gb463, 0, none⟩ = some (.slice Ao83 t455.length co83) ∧ w'.cell? ⟨gb463, 1, none⟩ = some (.slice Ao85 t458.length co85) ∧ w'.cell? ⟨gb431, 0, none⟩ = some (.slice A0_0 l0_0.length c0_0) ∧ w'.cell? ⟨gb431, 1, none⟩ = some (.slice A0_1 l0_1.length c0_1) ∧ w'.cell? ⟨gb431, 2, none⟩ = some (.slice (some ad454) l0_2.length c0_2) ∧ w'.cell? (ad454.add ((x6_1).toNat * 3)) = some (.int .i64 ((rd_T64 l0_2 x6_1).f0)) ∧ w'.cell? ⟨(ad454.add ((x6_1).toNat * 3)).block, (ad454.add ((x6_1).toNat * 3)).off + 1, none⟩ = some (.int .i64 ((rd_T64 l0_2 x6_1).f1)) ∧ w'.cell? ⟨(ad454.add ((x6_1).toNat * 3)).block, (ad454.add ((x6_1).toNat * 3)).off + 2, none⟩ = some (.string ((rd_T64 l0_2 x6_1).f2))) (ds := [13, 15]) (bt 16 0) (by kernel_rfl) rfl rfl ⟨(blk_cell BK463.out 0).trans rfl, (blk_cell BK463.out 1).trans rfl, (blk_cell BK431.out 0).trans rfl, (blk_cell BK431.out 1).trans rfl, (blk_cell BK431.out 2).trans rfl, ((HB.out.cell (World.block_lt_of_cell? w _ hw467_0)).trans hw467_0), ((HB.out.cell (World.block_lt_of_cell? w _ hw467_1)).trans hw467_1), ((HB.out.cell (World.block_lt_of_cell? w _ hw467_2)).trans hw467_2)⟩ (fun hHeld => ?_); refine with_tabW quorumlaw5_PageStays.tab20 quorumlaw5_PageStays.bits20 (fun HT_ HW_ => ?_)
                            generalize wc.drew = w100 at HO_4 HO_5 HO_434000 HO_434001 HO_464000 HO_464001 BK431 BK433 BK463 HB GG97 GG99 HQ103 HQ104 hf97_0 hf99_0 hx467_0 hx467_1 hx467_2 hx97_0 hx99_0 hHeld ⊢
                            refine pq_ HT_.out 0 102 (bt 16 1) (h := ?_)
                            refine pq_ HT_.out 1 103 (bt 16 3) (h := ?_)
                            refine pq_ HT_.out 2 104 (bt 16 7) (h := ?_)
                            refine pq_ HT_.out 3 105 (bt 16 15) (h := ?_)
                            refine pq_ HT_.out 5 107 (bt 16 47) (h := ?_)
                            refine pq_ HT_.out 7 109 (bt 16 175) (h := ?_)
                            refine tq8_ HT_.out HW_.out 4 106 (bt 16 191) hHeld (h := ?_)
                            refine tq8_ HT_.out HW_.out 6 108 (bt 16 255) hHeld (h := ?_)
                            refine pq_ HT_.out 8 110 (bt 16 511) (h := ?_)
                            refine pq_ HT_.out 9 111 (bt 16 1023) (h := ?_)
                            refine tq8_ HT_.out HW_.out 10 112 (bt 16 2047) hHeld (h := ?_)
                            refine one_ (i := 11) (N := none) (bt 16 4095) rfl rfl (one_of HT_.out (by kernel_rfl)) (by decide) (fun K hK => ?_)
                            have hs101 : w100.cell? ⟨gb433, 0, none⟩ = some (.slice Ao77 x434000_1.length co77) := (blk_cell BK433.out 0).trans rfl
                            have hfs101 := blk_frozen BK433.out 0
                            have hns101_0 := NB431_433.out
                            have hns101_2 := NB463_433.out
                            have hms101_0 := NB433_431.out
                            have hms101_2 := NB433_463.out
                            have hs102 : w100.cell? ⟨gb433, 1, none⟩ = some (.slice Ao78 x434001_1.length co78) := (blk_cell BK433.out 1).trans rfl
                            have hfs102 := blk_frozen BK433.out 1
                            have hns102_0 := NB431_433.out
                            have hns102_2 := NB463_433.out
                            have hms102_0 := NB433_431.out
                            have hms102_2 := NB433_463.out
                            refine skip_ (w1 := ?_) (by rfl) rfl ?_ ?_
                            rotate_left
                            ·go_simp
                             rfl
                            refine hK.out _ _ ⟨((cell_far (p := ⟨gb433, _, none⟩) NB463_433.out _).trans (((cell_far (p := ⟨gb433, _, none⟩) NB463_433.out _).trans (hHeld.1)))), ((cell_far (p := ⟨gb433, _, none⟩) NB463_433.out _).trans (((cell_far (p := ⟨gb433, _, none⟩) NB463_433.out _).trans (hHeld.2.1)))), ((cell_far (p := ⟨gb433, _, none⟩) NB431_433.out _).trans (((cell_far (p := ⟨gb433, _, none⟩) NB431_433.out _).trans (hHeld.2.2.1)))), ((cell_far (p := ⟨gb433, _, none⟩) NB431_433.out _).trans (((cell_far (p := ⟨gb433, _, none⟩) NB431_433.out _).trans (hHeld.2.2.2.1)))), ((cell_far (p := ⟨gb433, _, none⟩) NB431_433.out _).trans (((cell_far (p := ⟨gb433, _, none⟩) NB431_433.out _).trans (hHeld.2.2.2.2.1)))), ((cell_far (p := ⟨gb433, _, none⟩) (by first | exact Nat.ne_of_lt (Nat.lt_of_lt_of_le (by have := World.block_lt_of_cell? _ _ hw467_0; first | rwa [add_block] at this | exact this) GW433.out) | (rw [add_block]; exact Nat.ne_of_lt (Nat.lt_of_lt_of_le (by have := World.block_lt_of_cell? _ _ hw467_0; first | rwa [add_block] at this | exact this) GW433.out)) | (show (Addr.add _ _).block ≠ _; rw [add_block]; exact Nat.ne_of_lt (Nat.lt_of_lt_of_le (by have := World.block_lt_of_cell? _ _ hw467_0; first | rwa [add_block] at this | exact this) GW433.out)) | (dsimp only; exact Nat.ne_of_lt (Nat.lt_of_lt_of_le (by have := World.block_lt_of_cell? _ _ hw467_0; first | rwa [add_block] at this | exact this) GW433.out))) _).trans (((cell_far (p := ⟨gb433, _, none⟩) (by first | exact Nat.ne_of_lt (Nat.lt_of_lt_of_le (by have := World.block_lt_of_cell? _ _ hw467_0; first | rwa [add_block] at this | exact this) GW433.out) | (rw [add_block]; exact Nat.ne_of_lt (Nat.lt_of_lt_of_le (by have := World.block_lt_of_cell? _ _ hw467_0; first | rwa [add_block] at this | exact this) GW433.out)) | (show (Addr.add _ _).block ≠ _; rw [add_block]; exact Nat.ne_of_lt (Nat.lt_of_lt_of_le (by have := World.block_lt_of_cell? _ _ hw467_0; first | rwa [add_block] at this | exact this) GW433.out)) | (dsimp only; exact Nat.ne_of_lt (Nat.lt_of_lt_of_le (by have := World.block_lt_of_cell? _ _ hw467_0; first | rwa [add_block] at this | exact this) GW433.out))) _).trans (hHeld.2.2.2.2.2.1)))), ((cell_far (p := ⟨gb433, _, none⟩) (by first | exact Nat.ne_of_lt (Nat.lt_of_lt_of_le (by have := World.block_lt_of_cell? _ _ hw467_1; first | rwa [add_block] at this | exact this) GW433.out) | (rw [add_block]; exact Nat.ne_of_lt (Nat.lt_of_lt_of_le (by have := World.block_lt_of_cell? _ _ hw467_1; first | rwa [add_block] at this | exact this) GW433.out)) | (show (Addr.add _ _).block ≠ _; rw [add_block]; exact Nat.ne_of_lt (Nat.lt_of_lt_of_le (by have := World.block_lt_of_cell? _ _ hw467_1; first | rwa [add_block] at this | exact this) GW433.out)) | (dsimp only; exact Nat.ne_of_lt (Nat.lt_of_lt_of_le (by have := World.block_lt_of_cell? _ _ hw467_1; first | rwa [add_block] at this | exact this) GW433.out))) _).trans (((cell_far (p := ⟨gb433, _, none⟩) (by first | exact Nat.ne_of_lt (Nat.lt_of_lt_of_le (by have := World.block_lt_of_cell? _ _ hw467_1; first | rwa [add_block] at this | exact this) GW433.out) | (rw [add_block]; exact Nat.ne_of_lt (Nat.lt_of_lt_of_le (by have := World.block_lt_of_cell? _ _ hw467_1; first | rwa [add_block] at this | exact this) GW433.out)) | (show (Addr.add _ _).block ≠ _; rw [add_block]; exact Nat.ne_of_lt (Nat.lt_of_lt_of_le (by have := World.block_lt_of_cell? _ _ hw467_1; first | rwa [add_block] at this | exact this) GW433.out)) | (dsimp only; exact Nat.ne_of_lt (Nat.lt_of_lt_of_le (by have := World.block_lt_of_cell? _ _ hw467_1; first | rwa [add_block] at this | exact this) GW433.out))) _).trans (hHeld.2.2.2.2.2.2.1)))), ((cell_far (p := ⟨gb433, _, none⟩) (by first | exact Nat.ne_of_lt (Nat.lt_of_lt_of_le (by have := World.block_lt_of_cell? _ _ hw467_2; first | rwa [add_block] at this | exact this) GW433.out) | (rw [add_block]; exact Nat.ne_of_lt (Nat.lt_of_lt_of_le (by have := World.block_lt_of_cell? _ _ hw467_2; first | rwa [add_block] at this | exact this) GW433.out)) | (show (Addr.add _ _).block ≠ _; rw [add_block]; exact Nat.ne_of_lt (Nat.lt_of_lt_of_le (by have := World.block_lt_of_cell? _ _ hw467_2; first | rwa [add_block] at this | exact this) GW433.out)) | (dsimp only; exact Nat.ne_of_lt (Nat.lt_of_lt_of_le (by have := World.block_lt_of_cell? _ _ hw467_2; first | rwa [add_block] at this | exact this) GW433.out))) _).trans (((cell_far (p := ⟨gb433, _, none⟩) (by first | exact Nat.ne_of_lt (Nat.lt_of_lt_of_le (by have := World.block_lt_of_cell? _ _ hw467_2; first | rwa [add_block] at this | exact this) GW433.out) | (rw [add_block]; exact Nat.ne_of_lt (Nat.lt_of_lt_of_le (by have := World.block_lt_of_cell? _ _ hw467_2; first | rwa [add_block] at this | exact this) GW433.out)) | (show (Addr.add _ _).block ≠ _; rw [add_block]; exact Nat.ne_of_lt (Nat.lt_of_lt_of_le (by have := World.block_lt_of_cell? _ _ hw467_2; first | rwa [add_block] at this | exact this) GW433.out)) | (dsimp only; exact Nat.ne_of_lt (Nat.lt_of_lt_of_le (by have := World.block_lt_of_cell? _ _ hw467_2; first | rwa [add_block] at this | exact this) GW433.out))) _).trans (hHeld.2.2.2.2.2.2.2))))⟩ (fun hHeld => ?_)
                            clear hK K
                            refine pq_ HT_.out 12 113 (bt 16 8191) (h := ?_)
                            refine last_ (i := 13) (N := none) (bt 16 16383) rfl rfl (one_of HT_.out (by kernel_rfl)) (by decide) (fun K hK => ?_)
                            refine skip_ (w1 := ?_) (by rfl) rfl ?_ ?_
                            rotate_left
                            ·go_simp
                             rfl
                            refine hK.out _ _ ?_
                            clear hK K
                            refine pq_ HT_.out 14 114 (bt 16 32767) (h := ?_)
                            refine last_ (i := 15) (N := none) (bt 16 65535) rfl rfl (one_of HT_.out (by kernel_rfl)) (by decide) (fun K hK => ?_)
                            refine skip_ (w1 := ?_) (by rfl) rfl ?_ ?_
                            rotate_left
                            ·go_simp
                             rfl
                            refine hK.out _ _ ?_
                            clear hK K
                            refine done_ (done_of HT_.out (by kernel_rfl)) ?_
                            try go_wp2
                            go_meet
                            case rel => exact ⟨_, (y469), (y468), (t455), (t458), (.slice Ao83 t455.length co83), (.slice Ao85 t458.length co85), H', ⟨by have := HK1.out; have := HJ16.out; have := HJ23.out; have := HJ75.out; first | omega | exact Nat.le_refl _⟩, ⟨by (with_reducible repeat (first | apply Ra_ | apply Rn_ | apply Rd_)); exact Kd.R_mono HQ104.out (fun _ hk => hk.1.1.2)⟩, ⟨by (with_reducible repeat (first | apply Ra_ | apply Rn_ | apply Rd_)); exact Kd.R_mono (Kd.R_far (p := ⟨go99, (t461 : Int).toNat, none⟩) (Kd.R_types (g := go99) HQ103.out (blk_far (blk_far (blk_far (h_ GG99) (blk_ne GG99.out BK433.out (by decide)) _) (blk_ne GG99.out BK433.out (by decide)) _) (blk_ne GG99.out GG97.out (by decide)) _) (by decide)) (fun _ hk => hk.2) (.string ((rd_T64 l0_2 x6_1).f2))) (fun _ hk => trivial)⟩, ⟨by (with_reducible repeat (first | apply Ra_ | apply Rn_ | apply Rd_)); exact Kd.R_mono (Kd.R_far (p := ⟨go99, (t461 : Int).toNat, none⟩) (Kd.R_far (p := ⟨go97, (t461 : Int).toNat, none⟩) (Kd.R_far (p := ⟨gb433, 1, none⟩) (Kd.R_far (p := ⟨gb433, 0, none⟩) (Kd.R_mono (Kd.R_types (Kd.R_types HO_464000.out BK433.out (by decide)) GG97.out (by decide)) (fun k_ hk => (⟨hk, fun e_ => hk.1.1.1 (by rw [e_]; rfl)⟩ : _ ∧ k_ ≠ go99))) (fun _ hk => hk.1.1.2) (.slice Ao83 t455.length co83)) (fun _ hk => hk.1.1.2) (.slice Ao85 t458.length co85)) (fun _ hk => hk.1.2) (.bool true)) (fun _ hk => hk.2) (.string ((rd_T64 l0_2 x6_1).f2))) (fun _ hk => hk.1.1.1.1)⟩, ⟨by (with_reducible repeat (first | apply Kd.Q_alloc | apply Kd.Q_drewN | apply Kd.Q_drew)); exact Kd.Q_mono (Kd.Q_far (p := ⟨go99, (t461 : Int).toNat, none⟩) (Kd.Q_far (p := ⟨go97, (t461 : Int).toNat, none⟩) (Kd.Q_far (p := ⟨gb433, 1, none⟩) (Kd.Q_far (p := ⟨gb433, 0, none⟩) (Kd.Q_types (Kd.Q_types (Kd.Q_types HO_464001.out BK433.out (by decide)) GG97.out (by decide)) GG99.out (by decide)) (fun _ hk => hk.1.1.2) (.slice Ao83 t455.length co83)) (fun _ hk => hk.1.1.2) (.slice Ao85 t458.length co85)) (fun _ hk => hk.1.2) (.bool true)) (fun _ hk => hk.2) (.string ((rd_T64 l0_2 x6_1).f2))) (fun _ hk => trivial)⟩, ⟨(fa_ (fa_ (fa_ (fa_ (h_ BK431) NB431_433.out) NB431_433.out) (by have h_ := Kd.R_ne HO_5.out BK431.out (by decide); intro e_; exact h_ (by rw [e_]; rfl))) (by have h_ := Kd.R_ne HO_4.out BK431.out (by decide); intro e_; exact h_ (by rw [e_]; rfl)))⟩, ⟨(fa_ (fa_ (pu_ (cs := #[.slice Ao83 t455.length co83, .slice Ao78 x434001_1.length co78]) (pu_ (cs := #[.slice Ao77 x434000_1.length co77, .slice Ao78 x434001_1.length co78]) (h_ BK433))) (by have h_ := Kd.R_ne HO_5.out BK433.out (by decide); intro e_; exact h_ (by rw [e_]; rfl))) (by have h_ := Kd.R_ne HO_4.out BK433.out (by decide); intro e_; exact h_ (by rw [e_]; rfl)))⟩, ⟨by repeat (first | (with_reducible first | exact HB.out | apply bL_ | apply pN_ | apply b1_ | refine bs_ ?_ GB97.out | refine bs_ ?_ GB99.out | refine bs_ ?_ GE431.out | refine bs_ ?_ GE433.out | refine bs_ ?_ GE463.out) | exact HB.out)⟩⟩
                           ·rw [if_neg c98] at H
                            exact absurd H (by simp)
                          ·rw [if_neg c96] at H
                           exact absurd H (by simp)
                         ·rw [if_neg c95] at H
                          exact absurd H (by simp)
                        ·rw [if_neg c94] at H
                         exact absurd H (by simp)
                       ·rw [if_neg c93] at H
                        exact absurd H (by simp)
                  ·rw [if_neg c75] at H
                   have c75b0 : (t464 == 0) = false := beq_eq_false_iff_ne.mpr c75
                   have c75b1 : (t464 != 0) = true := bne_iff_ne.mpr c75
                   replace H := Option.bind_eq_some_iff.mp H
                   obtain ⟨t470, A1050, H⟩ := H
                   try dsimp only at H
                   have A105 := mk0 A1050
                   clear A1050
                   by_cases c106 : t470 = 5
                   ·rw [if_pos c106] at H
                    have c106b0 : (t470 == 5) = true := beq_iff_eq.mpr c106
                    have c106b1 : (t470 != 5) = false := bne_eq_false_iff_eq.mpr c106
                    clear c106
                    have H' := mk0 H
                    clear H
                    obtain ⟨Ao107, co107, eo107⟩ := Kd.R_slice HO_434000.out
                    subst eo107
                    obtain ⟨Ao108, co108, eo108, _⟩ := Kd.Q_slice HO_434001.out
                    subst eo108
                    try go_wp2
                    replace HO_4 := mk0 (Rd_ HO_4.out)
                    replace HO_5 := mk0 (Rd_ HO_5.out)
                    replace HO_434000 := mk0 (Rd_ HO_434000.out)
                    replace HO_434001 := mk0 (Kd.Q_drew HO_434001.out)
                    replace BK431 := mk0 (bD_ BK431.out)
                    replace BK433 := mk0 (bD_ BK433.out)
                    replace HB := mk0 (b1_ HB.out)
                    have p454 : 0 ≤ (x6_1 : Int) := of_decide_eq_true (by first | (with_reducible assumption) | assumption)
                    have q454 : x6_1 < (l0_2.length : Int) := of_decide_eq_true (by first | (with_reducible assumption) | assumption)
                    obtain ⟨ad454, e454, hx454_0, hx454_1, hx454_2⟩ := at_T64 HR0_2.out x6_1 p454 q454
                    have hw454_2 := hx454_2
                    have hw454_1 := hx454_1
                    have hw454_0 := hx454_0
                    cases e454
                    replace hx454_0 := (HB.out.cell (World.block_lt_of_cell? w _ hx454_0)).trans hx454_0
                    replace hx454_1 := (HB.out.cell (World.block_lt_of_cell? w _ hx454_1)).trans hx454_1
                    replace hx454_2 := (HB.out.cell (World.block_lt_of_cell? w _ hx454_2)).trans hx454_2
                    replace p454 := eq_true p454
                    replace q454 := eq_true q454
                    refine start_ (n := 16) (S := fun w' => w'.cell? ⟨gb433, 0, none⟩ = some (.slice Ao107 x434000_1.length co107) ∧ w'.cell? ⟨gb433, 1, none⟩ = some (.slice Ao108 x434001_1.length co108) ∧ w'.cell? ⟨gb431, 0, none⟩ = some (.slice A0_0 l0_0.length c0_0) ∧ w'.cell? ⟨gb431, 1, none⟩ = some (.slice A0_1 l0_1.length c0_1) ∧ w'.cell? ⟨gb431, 2, none⟩ = some (.slice (some ad454) l0_2.length c0_2) ∧ w'.cell? (ad454.add ((x6_1).toNat * 3)) = some (.int .i64 ((rd_T64 l0_2 x6_1).f0)) ∧ w'.cell? ⟨(ad454.add ((x6_1).toNat * 3)).block, (ad454.add ((x6_1).toNat * 3)).off + 1, none⟩ = some (.int .i64 ((rd_T64 l0_2 x6_1).f1)) ∧ w'.cell? ⟨(ad454.add ((x6_1).toNat * 3)).block, (ad454.add ((x6_1).toNat * 3)).off + 2, none⟩ = some (.string ((rd_T64 l0_2 x6_1).f2))) (ds := []) (bt 16 0) (by kernel_rfl) rfl rfl ⟨(blk_cell BK433.out 0).trans rfl, (blk_cell BK433.out 1).trans rfl, (blk_cell BK431.out 0).trans rfl, (blk_cell BK431.out 1).trans rfl, (blk_cell BK431.out 2).trans rfl, ((HB.out.cell (World.block_lt_of_cell? w _ hw454_0)).trans hw454_0), ((HB.out.cell (World.block_lt_of_cell? w _ hw454_1)).trans hw454_1), ((HB.out.cell (World.block_lt_of_cell? w _ hw454_2)).trans hw454_2)⟩ (fun hHeld => ?_); refine with_tabW quorumlaw5_PageStays.tab16 quorumlaw5_PageStays.bits16 (fun HT_ HW_ => ?_)
                    generalize wc.drew = w109 at HO_4 HO_5 HO_434000 HO_434001 BK431 BK433 HB hx454_0 hx454_1 hx454_2 hHeld ⊢
                    refine pq_ HT_.out 1 80 (bt 16 2) (h := ?_)
                    refine pq_ HT_.out 3 82 (bt 16 10) (h := ?_)
                    refine tq8_ HT_.out HW_.out 0 79 (bt 16 11) hHeld (h := ?_)
                    refine tq8_ HT_.out HW_.out 2 81 (bt 16 15) hHeld (h := ?_)
                    refine pq_ HT_.out 4 83 (bt 16 31) (h := ?_)
                    refine pq_ HT_.out 5 84 (bt 16 63) (h := ?_)
                    refine tq8_ HT_.out HW_.out 6 85 (bt 16 127) hHeld (h := ?_)
                    refine join_ (σ := Value × Value × Nat) 3 (bt 16 8191) (fun s_ => [(86, .tuple #[.agg #[s_.1, s_.2.1], .int .i64 t461, .int .i64 t462]), (10, .pointer (some ⟨s_.2.2, 0, none⟩)), (78, .tuple #[.agg #[s_.1, s_.2.1], .int .i64 t461, .int .i64 t462]), (87, .agg #[s_.1, s_.2.1]), (88, .int .i64 t461), (89, .int .i64 t462)]) (fun s_ w' => (w'.cell? ⟨gb433, 0, none⟩ = some (.slice Ao107 x434000_1.length co107) ∧ w'.cell? ⟨gb433, 1, none⟩ = some (.slice Ao108 x434001_1.length co108) ∧ w'.cell? ⟨gb431, 0, none⟩ = some (.slice A0_0 l0_0.length c0_0) ∧ w'.cell? ⟨gb431, 1, none⟩ = some (.slice A0_1 l0_1.length c0_1) ∧ w'.cell? ⟨gb431, 2, none⟩ = some (.slice (some ad454) l0_2.length c0_2) ∧ w'.cell? (ad454.add ((x6_1).toNat * 3)) = some (.int .i64 ((rd_T64 l0_2 x6_1).f0)) ∧ w'.cell? ⟨(ad454.add ((x6_1).toNat * 3)).block, (ad454.add ((x6_1).toNat * 3)).off + 1, none⟩ = some (.int .i64 ((rd_T64 l0_2 x6_1).f1)) ∧ w'.cell? ⟨(ad454.add ((x6_1).toNat * 3)).block, (ad454.add ((x6_1).toNat * 3)).off + 2, none⟩ = some (.string ((rd_T64 l0_2 x6_1).f2))) ∧ (Kd.R Kd.string 9 w' w.heap.size (fun k_ => some k_ ≠ (v435 : Value).ownBlock ∧ some k_ ≠ (.slice Ao107 x434000_1.length co107 : Value).ownBlock) s_.1 t455) ∧ (Kd.Q (Kd.int .i64) 3 w' w.heap.size (fun k_ => some k_ ≠ (.slice Ao108 x434001_1.length co108 : Value).ownBlock) s_.2.1 t458) ∧ (Kd.R Kd.string 9 w' w.heap.size (fun k_ => some k_ ≠ (s_.1 : Value).ownBlock ∧ some k_ ≠ (.slice Ao107 x434000_1.length co107 : Value).ownBlock) v435 x4_1) ∧ (Kd.R Kd.string 9 w' w.heap.size (fun k_ => some k_ ≠ (s_.1 : Value).ownBlock ∧ some k_ ≠ (v435 : Value).ownBlock) (.slice Ao107 x434000_1.length co107) x434000_1) ∧ (Kd.Q (Kd.int .i64) 3 w' w.heap.size (fun k_ => some k_ ≠ (s_.2.1 : Value).ownBlock) (.slice Ao108 x434001_1.length co108) x434001_1) ∧ (Kd.R Kd.bool 4 w' w.heap.size (fun _ => True) v438 x5_1) ∧ (w'.heap[gb431]? = some (.cells #[.slice A0_0 l0_0.length c0_0, .slice A0_1 l0_1.length c0_1, .slice (some ad454) l0_2.length c0_2] 59 (0, 0))) ∧ (w'.heap[gb433]? = some (.cells #[.slice Ao107 x434000_1.length co107, .slice Ao108 x434001_1.length co108] 56 (0, 0))) ∧ (w'.heap[s_.2.2]? = some (.cells #[.slice none 0 0, .slice none 0 0] 56 (0, 0))) ∧ (w.heap.size ≤ s_.2.2) ∧ (w.heap.size ≤ s_.2.2) ∧ (gb431 ≠ s_.2.2) ∧ (s_.2.2 ≠ gb431) ∧ (gb433 ≠ s_.2.2) ∧ (s_.2.2 ≠ gb433) ∧ (Below w.heap.size w w')) ?_ ?_
                    rotate_left
                    ·intro hCont
                     refine two_ (i := 7) (j := 12) (Ni := some 86) (Nj := some 10) (bt 16 255) (bt 16 4223) rfl rfl rfl rfl (two_of HT_.out (by kernel_rfl)) (by decide) (by decide) (fun K hK => ?_) (fun K hK => ?_)
                     ·skip
                      refine goes_ Try.func36 (by kernel_rfl) rfl #[.agg #[.slice Ao107 x434000_1.length co107, .slice Ao108 x434001_1.length co108], .string ((rd_T64 l0_2 x6_1).f2)] (by rfl) rfl rfl (by (try simp only [List.map_toArray, List.map_cons, List.map_nil]); first | done | rfl | (simp only [List.length_drop, List.length_take]; rfl)) ?_
                      with_reducible refine (page_Add.calls kj23 _ _ x434000_1 _ _ x434001_1 ((rd_T64 l0_2 x6_1).f2) t455 t458 t461 t462 _ ?side1 ?side2 ?side3 ?side4 A73.out).mono ?_
                      (case side1 => exact cr_ HO_434000)
                      (case side2 => exact (Kd.R_reads' HO_434000.out).2.1)
                      (case side3 => exact cq_ HO_434001)
                      (case side4 => exact (Kd.Q_reads' HO_434001.out).2.1)
                      rintro e w110 ⟨v456, v459, rfl, ho0, ho1, hb⟩
                      refine ⟨_, rfl, ?_⟩
                      have n4_ := mk0 (Kd.R_lower (Kd.R_new' (Kd.R_new' ho0 (Kd.R_lt (r_ HO_4))) (Kd.R_lt (r_ HO_434000))) (bz_ (b_ HB)))
                      have n5_ := mk0 (Kd.Q_lower (Kd.Q_new' ho1 (Kd.Q_lt (q_ HO_434001))) (bz_ (b_ HB)))
                      replace HO_4 := mk0 (Kd.R_elder' (r_ HO_4) (Kd.R_base ho0) hb)
                      replace HO_5 := mk0 (Kd.R_below (r_ HO_5) hb)
                      replace HO_434000 := mk0 (Kd.R_elder' (r_ HO_434000) (Kd.R_base ho0) hb)
                      replace HO_434001 := mk0 (Kd.Q_elder' (q_ HO_434001) (Kd.Q_base ho1) hb)
                      replace BK431 := mk0 (u_ BK431 hb)
                      replace BK433 := mk0 (u_ BK433 hb)
                      replace HB := mk0 (bt_ (b_ HB) hb)
                      have HO457 := n4_
                      have HO460 := n5_
                      clear n4_ n5_
                      (try clear hb)
                      (try clear hb2)
                      (try clear hk)
                      (try clear hi)
                      (try clear ho0)
                      (try clear ho1)
                      refine hK.out _ _ ⟨(blk_cell BK433.out 0).trans rfl, (blk_cell BK433.out 1).trans rfl, (blk_cell BK431.out 0).trans rfl, (blk_cell BK431.out 1).trans rfl, (blk_cell BK431.out 2).trans rfl, ((HB.out.cell (World.block_lt_of_cell? w _ hw454_0)).trans hw454_0), ((HB.out.cell (World.block_lt_of_cell? w _ hw454_1)).trans hw454_1), ((HB.out.cell (World.block_lt_of_cell? w _ hw454_2)).trans hw454_2)⟩ (fun hHeld => ?_)
                      clear hK K
                      refine norm_ (a' := ?_) ?_ ?_
                      rotate_left
                      ·show Act.put _ (some 86) _ = _
                       simp only [z_]
                       rfl
                      refine pq_ HT_.out 8 78 (bt 16 511) (h := ?_)
                      refine pq_ HT_.out 9 87 (bt 16 1023) (h := ?_)
                      refine pq_ HT_.out 10 88 (bt 16 2047) (h := ?_)
                      refine pq_ HT_.out 11 89 (bt 16 4095) (h := ?_)
                      refine one_ (i := 12) (N := some 10) (bt 16 8191) rfl rfl (one_of HT_.out (by kernel_rfl)) (by decide) (fun K hK => ?_)
                      refine box_step ?hg (N := 10) ?hd (cs := #[.slice none 0 0, .slice none 0 0]) (t := 56) ?hr ?_; (case hd => rfl); (case hg => rfl); (case hr => first | (go_simp; done) | (go_simp; rfl))
                      intro gb463 hg w111 hbox hb
                      have n10_ := mk0 (gz_ HB hg)
                      have n11_ := mk0 (gz_ HB hg)
                      have n12_ := mk0 (ne1_ BK431 hg)
                      have n13_ := mk0 (ne2_ BK431 hg)
                      have n14_ := mk0 (ne1_ BK433 hg)
                      have n15_ := mk0 (ne2_ BK433 hg)
                      replace HO_4 := mk0 (Kd.R_below (r_ HO_4) hb)
                      replace HO_5 := mk0 (Kd.R_below (r_ HO_5) hb)
                      replace HO_434000 := mk0 (Kd.R_below (r_ HO_434000) hb)
                      replace HO_434001 := mk0 (Kd.Q_below (q_ HO_434001) hb)
                      replace HO457 := mk0 (Kd.R_below (r_ HO457) hb)
                      replace HO460 := mk0 (Kd.Q_below (q_ HO460) hb)
                      replace BK431 := mk0 (u_ BK431 hb)
                      replace BK433 := mk0 (u_ BK433 hb)
                      replace HB := mk0 (bt_ (b_ HB) hb)
                      have BK463 := mk0 (hbox)
                      have GW463 := n10_
                      have GE463 := n11_
                      have NB431_463 := n12_
                      have NB463_431 := n13_
                      have NB433_463 := n14_
                      have NB463_433 := n15_
                      clear n10_ n11_ n12_ n13_ n14_ n15_ hb hbox hg
                      refine hK.out _ _ ⟨(blk_cell BK433.out 0).trans rfl, (blk_cell BK433.out 1).trans rfl, (blk_cell BK431.out 0).trans rfl, (blk_cell BK431.out 1).trans rfl, (blk_cell BK431.out 2).trans rfl, ((HB.out.cell (World.block_lt_of_cell? w _ hw454_0)).trans hw454_0), ((HB.out.cell (World.block_lt_of_cell? w _ hw454_1)).trans hw454_1), ((HB.out.cell (World.block_lt_of_cell? w _ hw454_2)).trans hw454_2)⟩ (fun hHeld => ?_)
                      clear hK K
                      refine norm_ (a' := ?_) ?_ ?_
                      rotate_left
                      ·show Act.put _ (some 10) _ = _
                       simp only [z_]
                       rfl
                      exact norm_ (by simp only [putAll, Act.put, List.setIfInBounds_toArray, List.set_cons_zero, List.set_cons_succ]) (hCont (v456, v459, gb463) _ ⟨hHeld, (r2_ (Kd.R_mono HO457.out (fun _ hk => ⟨hk.1.2, hk.2⟩))), (q2_ (Kd.Q_mono HO460.out (fun _ hk => hk.2))), (r2_ (Kd.R_mono HO_4.out (fun _ hk => ⟨hk.2, hk.1⟩))), (r2_ (Kd.R_mono HO_434000.out (fun _ hk => ⟨hk.2, hk.1⟩))), (q2_ (Kd.Q_mono HO_434001.out (fun _ hk => hk.2))), (r_ HO_5), (h_ BK431), (h_ BK433), (h_ BK463), GW463.out, GE463.out, NB431_463.out, NB463_431.out, NB433_463.out, NB463_433.out, (b_ HB)⟩)
                     ·skip
                      refine box_step ?hg (N := 10) ?hd (cs := #[.slice none 0 0, .slice none 0 0]) (t := 56) ?hr ?_; (case hd => rfl); (case hg => rfl); (case hr => first | (go_simp; done) | (go_simp; rfl))
                      intro gb463 hg w110 hbox hb
                      have n8_ := mk0 (gz_ HB hg)
                      have n9_ := mk0 (gz_ HB hg)
                      have n10_ := mk0 (ne1_ BK431 hg)
                      have n11_ := mk0 (ne2_ BK431 hg)
                      have n12_ := mk0 (ne1_ BK433 hg)
                      have n13_ := mk0 (ne2_ BK433 hg)
                      replace HO_4 := mk0 (Kd.R_below (r_ HO_4) hb)
                      replace HO_5 := mk0 (Kd.R_below (r_ HO_5) hb)
                      replace HO_434000 := mk0 (Kd.R_below (r_ HO_434000) hb)
                      replace HO_434001 := mk0 (Kd.Q_below (q_ HO_434001) hb)
                      replace BK431 := mk0 (u_ BK431 hb)
                      replace BK433 := mk0 (u_ BK433 hb)
                      replace HB := mk0 (bt_ (b_ HB) hb)
                      have BK463 := mk0 (hbox)
                      have GW463 := n8_
                      have GE463 := n9_
                      have NB431_463 := n10_
                      have NB463_431 := n11_
                      have NB433_463 := n12_
                      have NB463_433 := n13_
                      clear n8_ n9_ n10_ n11_ n12_ n13_ hb hbox hg
                      refine hK.out _ _ ⟨(blk_cell BK433.out 0).trans rfl, (blk_cell BK433.out 1).trans rfl, (blk_cell BK431.out 0).trans rfl, (blk_cell BK431.out 1).trans rfl, (blk_cell BK431.out 2).trans rfl, ((HB.out.cell (World.block_lt_of_cell? w _ hw454_0)).trans hw454_0), ((HB.out.cell (World.block_lt_of_cell? w _ hw454_1)).trans hw454_1), ((HB.out.cell (World.block_lt_of_cell? w _ hw454_2)).trans hw454_2)⟩ (fun hHeld => ?_)
                      clear hK K
                      refine norm_ (a' := ?_) ?_ ?_
                      rotate_left
                      ·show Act.put _ (some 10) _ = _
                       simp only [z_]
                       rfl
                      refine one_ (i := 7) (N := some 86) (bt 16 4351) rfl rfl (one_of HT_.out (by kernel_rfl)) (by decide) (fun K hK => ?_)
                      refine goes_ Try.func36 (by kernel_rfl) rfl #[.agg #[.slice Ao107 x434000_1.length co107, .slice Ao108 x434001_1.length co108], .string ((rd_T64 l0_2 x6_1).f2)] (by rfl) rfl rfl (by (try simp only [List.map_toArray, List.map_cons, List.map_nil]); first | done | rfl | (simp only [List.length_drop, List.length_take]; rfl)) ?_
                      with_reducible refine (page_Add.calls kj23 _ _ x434000_1 _ _ x434001_1 ((rd_T64 l0_2 x6_1).f2) t455 t458 t461 t462 _ ?side1 ?side2 ?side3 ?side4 A73.out).mono ?_
                      (case side1 => exact cr_ HO_434000)
                      (case side2 => exact (Kd.R_reads' HO_434000.out).2.1)
                      (case side3 => exact cq_ HO_434001)
                      (case side4 => exact (Kd.Q_reads' HO_434001.out).2.1)
                      rintro e w111 ⟨v456, v459, rfl, ho0, ho1, hb⟩
                      refine ⟨_, rfl, ?_⟩
                      have n4_ := mk0 (Kd.R_lower (Kd.R_new' (Kd.R_new' ho0 (Kd.R_lt (r_ HO_4))) (Kd.R_lt (r_ HO_434000))) (bz_ (b_ HB)))
                      have n5_ := mk0 (Kd.Q_lower (Kd.Q_new' ho1 (Kd.Q_lt (q_ HO_434001))) (bz_ (b_ HB)))
                      replace HO_4 := mk0 (Kd.R_elder' (r_ HO_4) (Kd.R_base ho0) hb)
                      replace HO_5 := mk0 (Kd.R_below (r_ HO_5) hb)
                      replace HO_434000 := mk0 (Kd.R_elder' (r_ HO_434000) (Kd.R_base ho0) hb)
                      replace HO_434001 := mk0 (Kd.Q_elder' (q_ HO_434001) (Kd.Q_base ho1) hb)
                      replace BK431 := mk0 (u_ BK431 hb)
                      replace BK433 := mk0 (u_ BK433 hb)
                      replace BK463 := mk0 (u_ BK463 hb)
                      replace HB := mk0 (bt_ (b_ HB) hb)
                      have HO457 := n4_
                      have HO460 := n5_
                      clear n4_ n5_
                      (try clear hb)
                      (try clear hb2)
                      (try clear hk)
                      (try clear hi)
                      (try clear ho0)
                      (try clear ho1)
                      refine hK.out _ _ ⟨(blk_cell BK433.out 0).trans rfl, (blk_cell BK433.out 1).trans rfl, (blk_cell BK431.out 0).trans rfl, (blk_cell BK431.out 1).trans rfl, (blk_cell BK431.out 2).trans rfl, ((HB.out.cell (World.block_lt_of_cell? w _ hw454_0)).trans hw454_0), ((HB.out.cell (World.block_lt_of_cell? w _ hw454_1)).trans hw454_1), ((HB.out.cell (World.block_lt_of_cell? w _ hw454_2)).trans hw454_2)⟩ (fun hHeld => ?_)
                      clear hK K
                      refine norm_ (a' := ?_) ?_ ?_
                      rotate_left
                      ·show Act.put _ (some 86) _ = _
                       simp only [z_]
                       rfl
                      refine pq_ HT_.out 8 78 (bt 16 4607) (h := ?_)
                      refine pq_ HT_.out 9 87 (bt 16 5119) (h := ?_)
                      refine pq_ HT_.out 10 88 (bt 16 6143) (h := ?_)
                      refine pq_ HT_.out 11 89 (bt 16 8191) (h := ?_)
                      exact norm_ (by simp only [putAll, Act.put, List.setIfInBounds_toArray, List.set_cons_zero, List.set_cons_succ]) (hCont (v456, v459, gb463) _ ⟨hHeld, (r2_ (Kd.R_mono HO457.out (fun _ hk => ⟨hk.1.2, hk.2⟩))), (q2_ (Kd.Q_mono HO460.out (fun _ hk => hk.2))), (r2_ (Kd.R_mono HO_4.out (fun _ hk => ⟨hk.2, hk.1⟩))), (r2_ (Kd.R_mono HO_434000.out (fun _ hk => ⟨hk.2, hk.1⟩))), (q2_ (Kd.Q_mono HO_434001.out (fun _ hk => hk.2))), (r_ HO_5), (h_ BK431), (h_ BK433), (h_ BK463), GW463.out, GE463.out, NB431_463.out, NB463_431.out, NB433_463.out, NB463_433.out, (b_ HB)⟩)
                    rintro ⟨v456, v459, gb463⟩ w112 ⟨hS_, h0_, h1_, h2_, h3_, h4_, h5_, h6_, h7_, h8_, h9_, h10_, h11_, h12_, h13_, h14_, h15_⟩
                    have n0_ : Fc (Kd.R Kd.string 9 w112 w.heap.size (fun k_ => some k_ ≠ (v435 : Value).ownBlock ∧ some k_ ≠ (.slice Ao107 x434000_1.length co107 : Value).ownBlock) v456 t455) := ⟨h0_⟩
                    have n1_ : Fc (Kd.Q (Kd.int .i64) 3 w112 w.heap.size (fun k_ => some k_ ≠ (.slice Ao108 x434001_1.length co108 : Value).ownBlock) v459 t458) := ⟨h1_⟩
                    have n2_ : Fc (Kd.R Kd.string 9 w112 w.heap.size (fun k_ => some k_ ≠ (v456 : Value).ownBlock ∧ some k_ ≠ (.slice Ao107 x434000_1.length co107 : Value).ownBlock) v435 x4_1) := ⟨h2_⟩
                    have n3_ : Fc (Kd.R Kd.string 9 w112 w.heap.size (fun k_ => some k_ ≠ (v456 : Value).ownBlock ∧ some k_ ≠ (v435 : Value).ownBlock) (.slice Ao107 x434000_1.length co107) x434000_1) := ⟨h3_⟩
                    have n4_ : Fc (Kd.Q (Kd.int .i64) 3 w112 w.heap.size (fun k_ => some k_ ≠ (v459 : Value).ownBlock) (.slice Ao108 x434001_1.length co108) x434001_1) := ⟨h4_⟩
                    have n5_ : Fc (Kd.R Kd.bool 4 w112 w.heap.size (fun _ => True) v438 x5_1) := ⟨h5_⟩
                    have n6_ : Fc (w112.heap[gb431]? = some (.cells #[.slice A0_0 l0_0.length c0_0, .slice A0_1 l0_1.length c0_1, .slice (some ad454) l0_2.length c0_2] 59 (0, 0))) := ⟨h6_⟩
                    have n7_ : Fc (w112.heap[gb433]? = some (.cells #[.slice Ao107 x434000_1.length co107, .slice Ao108 x434001_1.length co108] 56 (0, 0))) := ⟨h7_⟩
                    have n8_ : Fc (w112.heap[gb463]? = some (.cells #[.slice none 0 0, .slice none 0 0] 56 (0, 0))) := ⟨h8_⟩
                    have n9_ : Fc (w.heap.size ≤ gb463) := ⟨h9_⟩
                    have n10_ : Fc (w.heap.size ≤ gb463) := ⟨h10_⟩
                    have n11_ : Fc (gb431 ≠ gb463) := ⟨h11_⟩
                    have n12_ : Fc (gb463 ≠ gb431) := ⟨h12_⟩
                    have n13_ : Fc (gb433 ≠ gb463) := ⟨h13_⟩
                    have n14_ : Fc (gb463 ≠ gb433) := ⟨h14_⟩
                    have n15_ : Fc (Below w.heap.size w w112) := ⟨h15_⟩
                    clear HO_4 HO_5 HO_434000 HO_434001 BK431 BK433 HB h0_ h1_ h2_ h3_ h4_ h5_ h6_ h7_ h8_ h9_ h10_ h11_ h12_ h13_ h14_ h15_
                    have HO457 := n0_
                    have HO460 := n1_
                    have HO_4 := n2_
                    have HO_434000 := n3_
                    have HO_434001 := n4_
                    have HO_5 := n5_
                    have BK431 := n6_
                    have BK433 := n7_
                    have BK463 := n8_
                    have GW463 := n9_
                    have GE463 := n10_
                    have NB431_463 := n11_
                    have NB463_431 := n12_
                    have NB433_463 := n13_
                    have NB463_433 := n14_
                    have HB := n15_
                    clear n0_ n1_ n2_ n3_ n4_ n5_ n6_ n7_ n8_ n9_ n10_ n11_ n12_ n13_ n14_ n15_
                    have hHeld : w112.cell? ⟨gb433, 0, none⟩ = some (.slice Ao107 x434000_1.length co107) ∧ w112.cell? ⟨gb433, 1, none⟩ = some (.slice Ao108 x434001_1.length co108) ∧ w112.cell? ⟨gb431, 0, none⟩ = some (.slice A0_0 l0_0.length c0_0) ∧ w112.cell? ⟨gb431, 1, none⟩ = some (.slice A0_1 l0_1.length c0_1) ∧ w112.cell? ⟨gb431, 2, none⟩ = some (.slice (some ad454) l0_2.length c0_2) ∧ w112.cell? (ad454.add ((x6_1).toNat * 3)) = some (.int .i64 ((rd_T64 l0_2 x6_1).f0)) ∧ w112.cell? ⟨(ad454.add ((x6_1).toNat * 3)).block, (ad454.add ((x6_1).toNat * 3)).off + 1, none⟩ = some (.int .i64 ((rd_T64 l0_2 x6_1).f1)) ∧ w112.cell? ⟨(ad454.add ((x6_1).toNat * 3)).block, (ad454.add ((x6_1).toNat * 3)).off + 2, none⟩ = some (.string ((rd_T64 l0_2 x6_1).f2)) := hS_
                    obtain ⟨Ao113, co113, eo113⟩ := Kd.R_slice HO457.out
                    (first | subst eo113 | (injection eo113 with f1_ f2_ f3_; have f4_ := f1_.symm; have f5_ := f3_.symm; clear f1_ f2_ f3_; subst f4_; subst f5_))
                    obtain ⟨Ao115, co115, eo115, _⟩ := Kd.Q_slice HO460.out
                    (first | subst eo115 | (injection eo115 with f1_ f2_ f3_; have f4_ := f1_.symm; have f5_ := f3_.symm; clear f1_ f2_ f3_; subst f4_; subst f5_))
                    refine norm_ (a' := ?_) ?_ ?_
                    rotate_left
                    ·simp only [putAll, Act.put, List.setIfInBounds_toArray, List.set_cons_zero, List.set_cons_succ]
                     rfl
                    refine one_ (i := 13) (N := none) (bt 16 16383) rfl rfl (one_of HT_.out (by kernel_rfl)) (by decide) (fun K hK => ?_)
                    have hs114 : w112.cell? ⟨gb463, 0, none⟩ = some (.slice none 0 0) := (blk_cell BK463.out 0).trans rfl
                    have hfs114 := blk_frozen BK463.out 0
                    have hns114_0 := NB431_463.out
                    have hns114_1 := NB433_463.out
                    have hms114_0 := NB463_431.out
                    have hms114_1 := NB463_433.out
                    have hs116 : w112.cell? ⟨gb463, 1, none⟩ = some (.slice none 0 0) := (blk_cell BK463.out 1).trans rfl
                    have hfs116 := blk_frozen BK463.out 1
                    have hns116_0 := NB431_463.out
                    have hns116_1 := NB433_463.out
                    have hms116_0 := NB463_431.out
                    have hms116_1 := NB463_433.out
                    refine skip_ (w1 := ?_) (by rfl) rfl ?_ ?_
                    rotate_left
                    ·go_simp
                     rfl
                    refine hK.out _ _ ⟨((cell_far (p := ⟨gb463, _, none⟩) NB433_463.out _).trans (((cell_far (p := ⟨gb463, _, none⟩) NB433_463.out _).trans (hHeld.1)))), ((cell_far (p := ⟨gb463, _, none⟩) NB433_463.out _).trans (((cell_far (p := ⟨gb463, _, none⟩) NB433_463.out _).trans (hHeld.2.1)))), ((cell_far (p := ⟨gb463, _, none⟩) NB431_463.out _).trans (((cell_far (p := ⟨gb463, _, none⟩) NB431_463.out _).trans (hHeld.2.2.1)))), ((cell_far (p := ⟨gb463, _, none⟩) NB431_463.out _).trans (((cell_far (p := ⟨gb463, _, none⟩) NB431_463.out _).trans (hHeld.2.2.2.1)))), ((cell_far (p := ⟨gb463, _, none⟩) NB431_463.out _).trans (((cell_far (p := ⟨gb463, _, none⟩) NB431_463.out _).trans (hHeld.2.2.2.2.1)))), ((cell_far (p := ⟨gb463, _, none⟩) (by first | exact Nat.ne_of_lt (Nat.lt_of_lt_of_le (by have := World.block_lt_of_cell? _ _ hw454_0; first | rwa [add_block] at this | exact this) GW463.out) | (rw [add_block]; exact Nat.ne_of_lt (Nat.lt_of_lt_of_le (by have := World.block_lt_of_cell? _ _ hw454_0; first | rwa [add_block] at this | exact this) GW463.out)) | (show (Addr.add _ _).block ≠ _; rw [add_block]; exact Nat.ne_of_lt (Nat.lt_of_lt_of_le (by have := World.block_lt_of_cell? _ _ hw454_0; first | rwa [add_block] at this | exact this) GW463.out)) | (dsimp only; exact Nat.ne_of_lt (Nat.lt_of_lt_of_le (by have := World.block_lt_of_cell? _ _ hw454_0; first | rwa [add_block] at this | exact this) GW463.out))) _).trans (((cell_far (p := ⟨gb463, _, none⟩) (by first | exact Nat.ne_of_lt (Nat.lt_of_lt_of_le (by have := World.block_lt_of_cell? _ _ hw454_0; first | rwa [add_block] at this | exact this) GW463.out) | (rw [add_block]; exact Nat.ne_of_lt (Nat.lt_of_lt_of_le (by have := World.block_lt_of_cell? _ _ hw454_0; first | rwa [add_block] at this | exact this) GW463.out)) | (show (Addr.add _ _).block ≠ _; rw [add_block]; exact Nat.ne_of_lt (Nat.lt_of_lt_of_le (by have := World.block_lt_of_cell? _ _ hw454_0; first | rwa [add_block] at this | exact this) GW463.out)) | (dsimp only; exact Nat.ne_of_lt (Nat.lt_of_lt_of_le (by have := World.block_lt_of_cell? _ _ hw454_0; first | rwa [add_block] at this | exact this) GW463.out))) _).trans (hHeld.2.2.2.2.2.1)))), ((cell_far (p := ⟨gb463, _, none⟩) (by first | exact Nat.ne_of_lt (Nat.lt_of_lt_of_le (by have := World.block_lt_of_cell? _ _ hw454_1; first | rwa [add_block] at this | exact this) GW463.out) | (rw [add_block]; exact Nat.ne_of_lt (Nat.lt_of_lt_of_le (by have := World.block_lt_of_cell? _ _ hw454_1; first | rwa [add_block] at this | exact this) GW463.out)) | (show (Addr.add _ _).block ≠ _; rw [add_block]; exact Nat.ne_of_lt (Nat.lt_of_lt_of_le (by have := World.block_lt_of_cell? _ _ hw454_1; first | rwa [add_block] at this | exact this) GW463.out)) | (dsimp only; exact Nat.ne_of_lt (Nat.lt_of_lt_of_le (by have := World.block_lt_of_cell? _ _ hw454_1; first | rwa [add_block] at this | exact this) GW463.out))) _).trans (((cell_far (p := ⟨gb463, _, none⟩) (by first | exact Nat.ne_of_lt (Nat.lt_of_lt_of_le (by have := World.block_lt_of_cell? _ _ hw454_1; first | rwa [add_block] at this | exact this) GW463.out) | (rw [add_block]; exact Nat.ne_of_lt (Nat.lt_of_lt_of_le (by have := World.block_lt_of_cell? _ _ hw454_1; first | rwa [add_block] at this | exact this) GW463.out)) | (show (Addr.add _ _).block ≠ _; rw [add_block]; exact Nat.ne_of_lt (Nat.lt_of_lt_of_le (by have := World.block_lt_of_cell? _ _ hw454_1; first | rwa [add_block] at this | exact this) GW463.out)) | (dsimp only; exact Nat.ne_of_lt (Nat.lt_of_lt_of_le (by have := World.block_lt_of_cell? _ _ hw454_1; first | rwa [add_block] at this | exact this) GW463.out))) _).trans (hHeld.2.2.2.2.2.2.1)))), ((cell_far (p := ⟨gb463, _, none⟩) (by first | exact Nat.ne_of_lt (Nat.lt_of_lt_of_le (by have := World.block_lt_of_cell? _ _ hw454_2; first | rwa [add_block] at this | exact this) GW463.out) | (rw [add_block]; exact Nat.ne_of_lt (Nat.lt_of_lt_of_le (by have := World.block_lt_of_cell? _ _ hw454_2; first | rwa [add_block] at this | exact this) GW463.out)) | (show (Addr.add _ _).block ≠ _; rw [add_block]; exact Nat.ne_of_lt (Nat.lt_of_lt_of_le (by have := World.block_lt_of_cell? _ _ hw454_2; first | rwa [add_block] at this | exact this) GW463.out)) | (dsimp only; exact Nat.ne_of_lt (Nat.lt_of_lt_of_le (by have := World.block_lt_of_cell? _ _ hw454_2; first | rwa [add_block] at this | exact this) GW463.out))) _).trans (((cell_far (p := ⟨gb463, _, none⟩) (by first | exact Nat.ne_of_lt (Nat.lt_of_lt_of_le (by have := World.block_lt_of_cell? _ _ hw454_2; first | rwa [add_block] at this | exact this) GW463.out) | (rw [add_block]; exact Nat.ne_of_lt (Nat.lt_of_lt_of_le (by have := World.block_lt_of_cell? _ _ hw454_2; first | rwa [add_block] at this | exact this) GW463.out)) | (show (Addr.add _ _).block ≠ _; rw [add_block]; exact Nat.ne_of_lt (Nat.lt_of_lt_of_le (by have := World.block_lt_of_cell? _ _ hw454_2; first | rwa [add_block] at this | exact this) GW463.out)) | (dsimp only; exact Nat.ne_of_lt (Nat.lt_of_lt_of_le (by have := World.block_lt_of_cell? _ _ hw454_2; first | rwa [add_block] at this | exact this) GW463.out))) _).trans (hHeld.2.2.2.2.2.2.2))))⟩ (fun hHeld => ?_)
                    clear hK K
                    refine pq_ HT_.out 14 11 (bt 16 32767) (h := ?_)
                    refine pq_ HT_.out 15 12 (bt 16 65535) (h := ?_)
                    refine done_ (done_of HT_.out (by kernel_rfl)) ?_
                    try go_wp2_with (first | ((with_reducible refine gate_callee (f := 35) rfl ?_); refine gL_ (some 91) Try.func35 #[.int .i64 t462] (h := ?_); (with_reducible refine (quorumlaw5_num.calls t462 t464 _ A74.out).mono ?_); rintro e w' ⟨rfl, ⟨nd, rfl⟩⟩; refine ⟨_, rfl, ?_⟩) | ((with_reducible refine gate_callee (f := 35) rfl ?_); refine gL_ (some 116) Try.func35 #[.int .i64 t462] (h := ?_); (with_reducible refine (quorumlaw5_num.calls t462 t470 _ A105.out).mono ?_); rintro e w' ⟨rfl, ⟨nd, rfl⟩⟩; refine ⟨_, rfl, ?_⟩))
                    go_meet
                    case rel => exact ⟨_, (x4_1), (x5_1), (x434000_1), (x434001_1), (.slice Ao107 x434000_1.length co107), (.slice Ao108 x434001_1.length co108), H', ⟨by have := HK1.out; have := HJ16.out; have := HJ23.out; first | omega | exact Nat.le_refl _⟩, ⟨by (with_reducible repeat (first | apply Ra_ | apply Rn_ | apply Rd_)); exact Kd.R_mono (Kd.R_far (p := ⟨gb463, 1, none⟩) (Kd.R_far (p := ⟨gb463, 0, none⟩) (Kd.R_types HO_4.out BK463.out (by decide)) (fun _ hk => hk.2) (.slice Ao113 t455.length co113)) (fun _ hk => hk.2) (.slice Ao115 t458.length co115)) (fun _ hk => hk.1.2)⟩, ⟨by (with_reducible repeat (first | apply Ra_ | apply Rn_ | apply Rd_)); exact Kd.R_mono (Kd.R_far (p := ⟨gb463, 1, none⟩) (Kd.R_far (p := ⟨gb463, 0, none⟩) (Kd.R_types HO_5.out BK463.out (by decide)) (fun _ hk => hk.2) (.slice Ao113 t455.length co113)) (fun _ hk => hk.2) (.slice Ao115 t458.length co115)) (fun _ hk => trivial)⟩, ⟨by (with_reducible repeat (first | apply Ra_ | apply Rn_ | apply Rd_)); exact Kd.R_mono (Kd.R_far (p := ⟨gb463, 1, none⟩) (Kd.R_far (p := ⟨gb463, 0, none⟩) (Kd.R_types HO_434000.out BK463.out (by decide)) (fun _ hk => hk.2) (.slice Ao113 t455.length co113)) (fun _ hk => hk.2) (.slice Ao115 t458.length co115)) (fun _ hk => hk.1.2)⟩, ⟨by (with_reducible repeat (first | apply Kd.Q_alloc | apply Kd.Q_drewN | apply Kd.Q_drew)); exact Kd.Q_mono (Kd.Q_far (p := ⟨gb463, 1, none⟩) (Kd.Q_far (p := ⟨gb463, 0, none⟩) (Kd.Q_types HO_434001.out BK463.out (by decide)) (fun _ hk => hk.2) (.slice Ao113 t455.length co113)) (fun _ hk => hk.2) (.slice Ao115 t458.length co115)) (fun _ hk => trivial)⟩, ⟨(fa_ (fa_ (h_ BK431) NB431_463.out) NB431_463.out)⟩, ⟨(fa_ (fa_ (h_ BK433) NB433_463.out) NB433_463.out)⟩, ⟨b_ HB⟩⟩
                   ·rw [if_neg c106] at H
                    have c106b0 : (t470 == 5) = false := beq_eq_false_iff_ne.mpr c106
                    have c106b1 : (t470 != 5) = true := bne_iff_ne.mpr c106
                    obtain rfl := Option.some.inj H
                    obtain ⟨Ao117, co117, eo117⟩ := Kd.R_slice HO_434000.out
                    subst eo117
                    obtain ⟨Ao118, co118, eo118, _⟩ := Kd.Q_slice HO_434001.out
                    subst eo118
                    try go_wp2
                    replace HO_4 := mk0 (Rd_ HO_4.out)
                    replace HO_5 := mk0 (Rd_ HO_5.out)
                    replace HO_434000 := mk0 (Rd_ HO_434000.out)
                    replace HO_434001 := mk0 (Kd.Q_drew HO_434001.out)
                    replace BK431 := mk0 (bD_ BK431.out)
                    replace BK433 := mk0 (bD_ BK433.out)
                    replace HB := mk0 (b1_ HB.out)
                    have p454 : 0 ≤ (x6_1 : Int) := of_decide_eq_true (by first | (with_reducible assumption) | assumption)
                    have q454 : x6_1 < (l0_2.length : Int) := of_decide_eq_true (by first | (with_reducible assumption) | assumption)
                    obtain ⟨ad454, e454, hx454_0, hx454_1, hx454_2⟩ := at_T64 HR0_2.out x6_1 p454 q454
                    have hw454_2 := hx454_2
                    have hw454_1 := hx454_1
                    have hw454_0 := hx454_0
                    cases e454
                    replace hx454_0 := (HB.out.cell (World.block_lt_of_cell? w _ hx454_0)).trans hx454_0
                    replace hx454_1 := (HB.out.cell (World.block_lt_of_cell? w _ hx454_1)).trans hx454_1
                    replace hx454_2 := (HB.out.cell (World.block_lt_of_cell? w _ hx454_2)).trans hx454_2
                    replace p454 := eq_true p454
                    replace q454 := eq_true q454
                    refine start_ (n := 16) (S := fun w' => w'.cell? ⟨gb433, 0, none⟩ = some (.slice Ao117 x434000_1.length co117) ∧ w'.cell? ⟨gb433, 1, none⟩ = some (.slice Ao118 x434001_1.length co118) ∧ w'.cell? ⟨gb431, 0, none⟩ = some (.slice A0_0 l0_0.length c0_0) ∧ w'.cell? ⟨gb431, 1, none⟩ = some (.slice A0_1 l0_1.length c0_1) ∧ w'.cell? ⟨gb431, 2, none⟩ = some (.slice (some ad454) l0_2.length c0_2) ∧ w'.cell? (ad454.add ((x6_1).toNat * 3)) = some (.int .i64 ((rd_T64 l0_2 x6_1).f0)) ∧ w'.cell? ⟨(ad454.add ((x6_1).toNat * 3)).block, (ad454.add ((x6_1).toNat * 3)).off + 1, none⟩ = some (.int .i64 ((rd_T64 l0_2 x6_1).f1)) ∧ w'.cell? ⟨(ad454.add ((x6_1).toNat * 3)).block, (ad454.add ((x6_1).toNat * 3)).off + 2, none⟩ = some (.string ((rd_T64 l0_2 x6_1).f2))) (ds := []) (bt 16 0) (by kernel_rfl) rfl rfl ⟨(blk_cell BK433.out 0).trans rfl, (blk_cell BK433.out 1).trans rfl, (blk_cell BK431.out 0).trans rfl, (blk_cell BK431.out 1).trans rfl, (blk_cell BK431.out 2).trans rfl, ((HB.out.cell (World.block_lt_of_cell? w _ hw454_0)).trans hw454_0), ((HB.out.cell (World.block_lt_of_cell? w _ hw454_1)).trans hw454_1), ((HB.out.cell (World.block_lt_of_cell? w _ hw454_2)).trans hw454_2)⟩ (fun hHeld => ?_); refine with_tabW quorumlaw5_PageStays.tab16 quorumlaw5_PageStays.bits16 (fun HT_ HW_ => ?_)
                    generalize wc.drew = w119 at HO_4 HO_5 HO_434000 HO_434001 BK431 BK433 HB hx454_0 hx454_1 hx454_2 hHeld ⊢
                    refine pq_ HT_.out 1 80 (bt 16 2) (h := ?_)
                    refine pq_ HT_.out 3 82 (bt 16 10) (h := ?_)
                    refine tq8_ HT_.out HW_.out 0 79 (bt 16 11) hHeld (h := ?_)
                    refine tq8_ HT_.out HW_.out 2 81 (bt 16 15) hHeld (h := ?_)
                    refine pq_ HT_.out 4 83 (bt 16 31) (h := ?_)
                    refine pq_ HT_.out 5 84 (bt 16 63) (h := ?_)
                    refine tq8_ HT_.out HW_.out 6 85 (bt 16 127) hHeld (h := ?_)
                    refine join_ (σ := Value × Value × Nat) 3 (bt 16 8191) (fun s_ => [(86, .tuple #[.agg #[s_.1, s_.2.1], .int .i64 t461, .int .i64 t462]), (10, .pointer (some ⟨s_.2.2, 0, none⟩)), (78, .tuple #[.agg #[s_.1, s_.2.1], .int .i64 t461, .int .i64 t462]), (87, .agg #[s_.1, s_.2.1]), (88, .int .i64 t461), (89, .int .i64 t462)]) (fun s_ w' => (w'.cell? ⟨gb433, 0, none⟩ = some (.slice Ao117 x434000_1.length co117) ∧ w'.cell? ⟨gb433, 1, none⟩ = some (.slice Ao118 x434001_1.length co118) ∧ w'.cell? ⟨gb431, 0, none⟩ = some (.slice A0_0 l0_0.length c0_0) ∧ w'.cell? ⟨gb431, 1, none⟩ = some (.slice A0_1 l0_1.length c0_1) ∧ w'.cell? ⟨gb431, 2, none⟩ = some (.slice (some ad454) l0_2.length c0_2) ∧ w'.cell? (ad454.add ((x6_1).toNat * 3)) = some (.int .i64 ((rd_T64 l0_2 x6_1).f0)) ∧ w'.cell? ⟨(ad454.add ((x6_1).toNat * 3)).block, (ad454.add ((x6_1).toNat * 3)).off + 1, none⟩ = some (.int .i64 ((rd_T64 l0_2 x6_1).f1)) ∧ w'.cell? ⟨(ad454.add ((x6_1).toNat * 3)).block, (ad454.add ((x6_1).toNat * 3)).off + 2, none⟩ = some (.string ((rd_T64 l0_2 x6_1).f2))) ∧ (Kd.R Kd.string 9 w' w.heap.size (fun k_ => some k_ ≠ (v435 : Value).ownBlock ∧ some k_ ≠ (.slice Ao117 x434000_1.length co117 : Value).ownBlock) s_.1 t455) ∧ (Kd.Q (Kd.int .i64) 3 w' w.heap.size (fun k_ => some k_ ≠ (.slice Ao118 x434001_1.length co118 : Value).ownBlock) s_.2.1 t458) ∧ (Kd.R Kd.string 9 w' w.heap.size (fun k_ => some k_ ≠ (s_.1 : Value).ownBlock ∧ some k_ ≠ (.slice Ao117 x434000_1.length co117 : Value).ownBlock) v435 x4_1) ∧ (Kd.R Kd.string 9 w' w.heap.size (fun k_ => some k_ ≠ (s_.1 : Value).ownBlock ∧ some k_ ≠ (v435 : Value).ownBlock) (.slice Ao117 x434000_1.length co117) x434000_1) ∧ (Kd.Q (Kd.int .i64) 3 w' w.heap.size (fun k_ => some k_ ≠ (s_.2.1 : Value).ownBlock) (.slice Ao118 x434001_1.length co118) x434001_1) ∧ (Kd.R Kd.bool 4 w' w.heap.size (fun _ => True) v438 x5_1) ∧ (w'.heap[gb431]? = some (.cells #[.slice A0_0 l0_0.length c0_0, .slice A0_1 l0_1.length c0_1, .slice (some ad454) l0_2.length c0_2] 59 (0, 0))) ∧ (w'.heap[gb433]? = some (.cells #[.slice Ao117 x434000_1.length co117, .slice Ao118 x434001_1.length co118] 56 (0, 0))) ∧ (w'.heap[s_.2.2]? = some (.cells #[.slice none 0 0, .slice none 0 0] 56 (0, 0))) ∧ (w.heap.size ≤ s_.2.2) ∧ (w.heap.size ≤ s_.2.2) ∧ (gb431 ≠ s_.2.2) ∧ (s_.2.2 ≠ gb431) ∧ (gb433 ≠ s_.2.2) ∧ (s_.2.2 ≠ gb433) ∧ (Below w.heap.size w w')) ?_ ?_
                    rotate_left
                    ·intro hCont
                     refine two_ (i := 7) (j := 12) (Ni := some 86) (Nj := some 10) (bt 16 255) (bt 16 4223) rfl rfl rfl rfl (two_of HT_.out (by kernel_rfl)) (by decide) (by decide) (fun K hK => ?_) (fun K hK => ?_)
                     ·skip
                      refine goes_ Try.func36 (by kernel_rfl) rfl #[.agg #[.slice Ao117 x434000_1.length co117, .slice Ao118 x434001_1.length co118], .string ((rd_T64 l0_2 x6_1).f2)] (by rfl) rfl rfl (by (try simp only [List.map_toArray, List.map_cons, List.map_nil]); first | done | rfl | (simp only [List.length_drop, List.length_take]; rfl)) ?_
                      with_reducible refine (page_Add.calls kj23 _ _ x434000_1 _ _ x434001_1 ((rd_T64 l0_2 x6_1).f2) t455 t458 t461 t462 _ ?side1 ?side2 ?side3 ?side4 A73.out).mono ?_
                      (case side1 => exact cr_ HO_434000)
                      (case side2 => exact (Kd.R_reads' HO_434000.out).2.1)
                      (case side3 => exact cq_ HO_434001)
                      (case side4 => exact (Kd.Q_reads' HO_434001.out).2.1)
                      rintro e w120 ⟨v456, v459, rfl, ho0, ho1, hb⟩
                      refine ⟨_, rfl, ?_⟩
                      have n4_ := mk0 (Kd.R_lower (Kd.R_new' (Kd.R_new' ho0 (Kd.R_lt (r_ HO_4))) (Kd.R_lt (r_ HO_434000))) (bz_ (b_ HB)))
                      have n5_ := mk0 (Kd.Q_lower (Kd.Q_new' ho1 (Kd.Q_lt (q_ HO_434001))) (bz_ (b_ HB)))
                      replace HO_4 := mk0 (Kd.R_elder' (r_ HO_4) (Kd.R_base ho0) hb)
                      replace HO_5 := mk0 (Kd.R_below (r_ HO_5) hb)
                      replace HO_434000 := mk0 (Kd.R_elder' (r_ HO_434000) (Kd.R_base ho0) hb)
                      replace HO_434001 := mk0 (Kd.Q_elder' (q_ HO_434001) (Kd.Q_base ho1) hb)
                      replace BK431 := mk0 (u_ BK431 hb)
                      replace BK433 := mk0 (u_ BK433 hb)
                      replace HB := mk0 (bt_ (b_ HB) hb)
                      have HO457 := n4_
                      have HO460 := n5_
                      clear n4_ n5_
                      (try clear hb)
                      (try clear hb2)
                      (try clear hk)
                      (try clear hi)
                      (try clear ho0)
                      (try clear ho1)
                      refine hK.out _ _ ⟨(blk_cell BK433.out 0).trans rfl, (blk_cell BK433.out 1).trans rfl, (blk_cell BK431.out 0).trans rfl, (blk_cell BK431.out 1).trans rfl, (blk_cell BK431.out 2).trans rfl, ((HB.out.cell (World.block_lt_of_cell? w _ hw454_0)).trans hw454_0), ((HB.out.cell (World.block_lt_of_cell? w _ hw454_1)).trans hw454_1), ((HB.out.cell (World.block_lt_of_cell? w _ hw454_2)).trans hw454_2)⟩ (fun hHeld => ?_)
                      clear hK K
                      refine norm_ (a' := ?_) ?_ ?_
                      rotate_left
                      ·show Act.put _ (some 86) _ = _
                       simp only [z_]
                       rfl
                      refine pq_ HT_.out 8 78 (bt 16 511) (h := ?_)
                      refine pq_ HT_.out 9 87 (bt 16 1023) (h := ?_)
                      refine pq_ HT_.out 10 88 (bt 16 2047) (h := ?_)
                      refine pq_ HT_.out 11 89 (bt 16 4095) (h := ?_)
                      refine one_ (i := 12) (N := some 10) (bt 16 8191) rfl rfl (one_of HT_.out (by kernel_rfl)) (by decide) (fun K hK => ?_)
                      refine box_step ?hg (N := 10) ?hd (cs := #[.slice none 0 0, .slice none 0 0]) (t := 56) ?hr ?_; (case hd => rfl); (case hg => rfl); (case hr => first | (go_simp; done) | (go_simp; rfl))
                      intro gb463 hg w121 hbox hb
                      have n10_ := mk0 (gz_ HB hg)
                      have n11_ := mk0 (gz_ HB hg)
                      have n12_ := mk0 (ne1_ BK431 hg)
                      have n13_ := mk0 (ne2_ BK431 hg)
                      have n14_ := mk0 (ne1_ BK433 hg)
                      have n15_ := mk0 (ne2_ BK433 hg)
                      replace HO_4 := mk0 (Kd.R_below (r_ HO_4) hb)
                      replace HO_5 := mk0 (Kd.R_below (r_ HO_5) hb)
                      replace HO_434000 := mk0 (Kd.R_below (r_ HO_434000) hb)
                      replace HO_434001 := mk0 (Kd.Q_below (q_ HO_434001) hb)
                      replace HO457 := mk0 (Kd.R_below (r_ HO457) hb)
                      replace HO460 := mk0 (Kd.Q_below (q_ HO460) hb)
                      replace BK431 := mk0 (u_ BK431 hb)
                      replace BK433 := mk0 (u_ BK433 hb)
                      replace HB := mk0 (bt_ (b_ HB) hb)
                      have BK463 := mk0 (hbox)
                      have GW463 := n10_
                      have GE463 := n11_
                      have NB431_463 := n12_
                      have NB463_431 := n13_
                      have NB433_463 := n14_
                      have NB463_433 := n15_
                      clear n10_ n11_ n12_ n13_ n14_ n15_ hb hbox hg
                      refine hK.out _ _ ⟨(blk_cell BK433.out 0).trans rfl, (blk_cell BK433.out 1).trans rfl, (blk_cell BK431.out 0).trans rfl, (blk_cell BK431.out 1).trans rfl, (blk_cell BK431.out 2).trans rfl, ((HB.out.cell (World.block_lt_of_cell? w _ hw454_0)).trans hw454_0), ((HB.out.cell (World.block_lt_of_cell? w _ hw454_1)).trans hw454_1), ((HB.out.cell (World.block_lt_of_cell? w _ hw454_2)).trans hw454_2)⟩ (fun hHeld => ?_)
                      clear hK K
                      refine norm_ (a' := ?_) ?_ ?_
                      rotate_left
                      ·show Act.put _ (some 10) _ = _
                       simp only [z_]
                       rfl
                      exact norm_ (by simp only [putAll, Act.put, List.setIfInBounds_toArray, List.set_cons_zero, List.set_cons_succ]) (hCont (v456, v459, gb463) _ ⟨hHeld, (r2_ (Kd.R_mono HO457.out (fun _ hk => ⟨hk.1.2, hk.2⟩))), (q2_ (Kd.Q_mono HO460.out (fun _ hk => hk.2))), (r2_ (Kd.R_mono HO_4.out (fun _ hk => ⟨hk.2, hk.1⟩))), (r2_ (Kd.R_mono HO_434000.out (fun _ hk => ⟨hk.2, hk.1⟩))), (q2_ (Kd.Q_mono HO_434001.out (fun _ hk => hk.2))), (r_ HO_5), (h_ BK431), (h_ BK433), (h_ BK463), GW463.out, GE463.out, NB431_463.out, NB463_431.out, NB433_463.out, NB463_433.out, (b_ HB)⟩)
                     ·skip
                      refine box_step ?hg (N := 10) ?hd (cs := #[.slice none 0 0, .slice none 0 0]) (t := 56) ?hr ?_; (case hd => rfl); (case hg => rfl); (case hr => first | (go_simp; done) | (go_simp; rfl))
                      intro gb463 hg w120 hbox hb
                      have n8_ := mk0 (gz_ HB hg)
                      have n9_ := mk0 (gz_ HB hg)
                      have n10_ := mk0 (ne1_ BK431 hg)
                      have n11_ := mk0 (ne2_ BK431 hg)
                      have n12_ := mk0 (ne1_ BK433 hg)
                      have n13_ := mk0 (ne2_ BK433 hg)
                      replace HO_4 := mk0 (Kd.R_below (r_ HO_4) hb)
                      replace HO_5 := mk0 (Kd.R_below (r_ HO_5) hb)
                      replace HO_434000 := mk0 (Kd.R_below (r_ HO_434000) hb)
                      replace HO_434001 := mk0 (Kd.Q_below (q_ HO_434001) hb)
                      replace BK431 := mk0 (u_ BK431 hb)
                      replace BK433 := mk0 (u_ BK433 hb)
                      replace HB := mk0 (bt_ (b_ HB) hb)
                      have BK463 := mk0 (hbox)
                      have GW463 := n8_
                      have GE463 := n9_
                      have NB431_463 := n10_
                      have NB463_431 := n11_
                      have NB433_463 := n12_
                      have NB463_433 := n13_
                      clear n8_ n9_ n10_ n11_ n12_ n13_ hb hbox hg
                      refine hK.out _ _ ⟨(blk_cell BK433.out 0).trans rfl, (blk_cell BK433.out 1).trans rfl, (blk_cell BK431.out 0).trans rfl, (blk_cell BK431.out 1).trans rfl, (blk_cell BK431.out 2).trans rfl, ((HB.out.cell (World.block_lt_of_cell? w _ hw454_0)).trans hw454_0), ((HB.out.cell (World.block_lt_of_cell? w _ hw454_1)).trans hw454_1), ((HB.out.cell (World.block_lt_of_cell? w _ hw454_2)).trans hw454_2)⟩ (fun hHeld => ?_)
                      clear hK K
                      refine norm_ (a' := ?_) ?_ ?_
                      rotate_left
                      ·show Act.put _ (some 10) _ = _
                       simp only [z_]
                       rfl
                      refine one_ (i := 7) (N := some 86) (bt 16 4351) rfl rfl (one_of HT_.out (by kernel_rfl)) (by decide) (fun K hK => ?_)
                      refine goes_ Try.func36 (by kernel_rfl) rfl #[.agg #[.slice Ao117 x434000_1.length co117, .slice Ao118 x434001_1.length co118], .string ((rd_T64 l0_2 x6_1).f2)] (by rfl) rfl rfl (by (try simp only [List.map_toArray, List.map_cons, List.map_nil]); first | done | rfl | (simp only [List.length_drop, List.length_take]; rfl)) ?_
                      with_reducible refine (page_Add.calls kj23 _ _ x434000_1 _ _ x434001_1 ((rd_T64 l0_2 x6_1).f2) t455 t458 t461 t462 _ ?side1 ?side2 ?side3 ?side4 A73.out).mono ?_
                      (case side1 => exact cr_ HO_434000)
                      (case side2 => exact (Kd.R_reads' HO_434000.out).2.1)
                      (case side3 => exact cq_ HO_434001)
                      (case side4 => exact (Kd.Q_reads' HO_434001.out).2.1)
                      rintro e w121 ⟨v456, v459, rfl, ho0, ho1, hb⟩
                      refine ⟨_, rfl, ?_⟩
                      have n4_ := mk0 (Kd.R_lower (Kd.R_new' (Kd.R_new' ho0 (Kd.R_lt (r_ HO_4))) (Kd.R_lt (r_ HO_434000))) (bz_ (b_ HB)))
                      have n5_ := mk0 (Kd.Q_lower (Kd.Q_new' ho1 (Kd.Q_lt (q_ HO_434001))) (bz_ (b_ HB)))
                      replace HO_4 := mk0 (Kd.R_elder' (r_ HO_4) (Kd.R_base ho0) hb)
                      replace HO_5 := mk0 (Kd.R_below (r_ HO_5) hb)
                      replace HO_434000 := mk0 (Kd.R_elder' (r_ HO_434000) (Kd.R_base ho0) hb)
                      replace HO_434001 := mk0 (Kd.Q_elder' (q_ HO_434001) (Kd.Q_base ho1) hb)
                      replace BK431 := mk0 (u_ BK431 hb)
                      replace BK433 := mk0 (u_ BK433 hb)
                      replace BK463 := mk0 (u_ BK463 hb)
                      replace HB := mk0 (bt_ (b_ HB) hb)
                      have HO457 := n4_
                      have HO460 := n5_
                      clear n4_ n5_
                      (try clear hb)
                      (try clear hb2)
                      (try clear hk)
                      (try clear hi)
                      (try clear ho0)
                      (try clear ho1)
                      refine hK.out _ _ ⟨(blk_cell BK433.out 0).trans rfl, (blk_cell BK433.out 1).trans rfl, (blk_cell BK431.out 0).trans rfl, (blk_cell BK431.out 1).trans rfl, (blk_cell BK431.out 2).trans rfl, ((HB.out.cell (World.block_lt_of_cell? w _ hw454_0)).trans hw454_0), ((HB.out.cell (World.block_lt_of_cell? w _ hw454_1)).trans hw454_1), ((HB.out.cell (World.block_lt_of_cell? w _ hw454_2)).trans hw454_2)⟩ (fun hHeld => ?_)
                      clear hK K
                      refine norm_ (a' := ?_) ?_ ?_
                      rotate_left
                      ·show Act.put _ (some 86) _ = _
                       simp only [z_]
                       rfl
                      refine pq_ HT_.out 8 78 (bt 16 4607) (h := ?_)
                      refine pq_ HT_.out 9 87 (bt 16 5119) (h := ?_)
                      refine pq_ HT_.out 10 88 (bt 16 6143) (h := ?_)
                      refine pq_ HT_.out 11 89 (bt 16 8191) (h := ?_)
                      exact norm_ (by simp only [putAll, Act.put, List.setIfInBounds_toArray, List.set_cons_zero, List.set_cons_succ]) (hCont (v456, v459, gb463) _ ⟨hHeld, (r2_ (Kd.R_mono HO457.out (fun _ hk => ⟨hk.1.2, hk.2⟩))), (q2_ (Kd.Q_mono HO460.out (fun _ hk => hk.2))), (r2_ (Kd.R_mono HO_4.out (fun _ hk => ⟨hk.2, hk.1⟩))), (r2_ (Kd.R_mono HO_434000.out (fun _ hk => ⟨hk.2, hk.1⟩))), (q2_ (Kd.Q_mono HO_434001.out (fun _ hk => hk.2))), (r_ HO_5), (h_ BK431), (h_ BK433), (h_ BK463), GW463.out, GE463.out, NB431_463.out, NB463_431.out, NB433_463.out, NB463_433.out, (b_ HB)⟩)
                    rintro ⟨v456, v459, gb463⟩ w122 ⟨hS_, h0_, h1_, h2_, h3_, h4_, h5_, h6_, h7_, h8_, h9_, h10_, h11_, h12_, h13_, h14_, h15_⟩
                    have n0_ : Fc (Kd.R Kd.string 9 w122 w.heap.size (fun k_ => some k_ ≠ (v435 : Value).ownBlock ∧ some k_ ≠ (.slice Ao117 x434000_1.length co117 : Value).ownBlock) v456 t455) := ⟨h0_⟩
                    have n1_ : Fc (Kd.Q (Kd.int .i64) 3 w122 w.heap.size (fun k_ => some k_ ≠ (.slice Ao118 x434001_1.length co118 : Value).ownBlock) v459 t458) := ⟨h1_⟩
                    have n2_ : Fc (Kd.R Kd.string 9 w122 w.heap.size (fun k_ => some k_ ≠ (v456 : Value).ownBlock ∧ some k_ ≠ (.slice Ao117 x434000_1.length co117 : Value).ownBlock) v435 x4_1) := ⟨h2_⟩
                    have n3_ : Fc (Kd.R Kd.string 9 w122 w.heap.size (fun k_ => some k_ ≠ (v456 : Value).ownBlock ∧ some k_ ≠ (v435 : Value).ownBlock) (.slice Ao117 x434000_1.length co117) x434000_1) := ⟨h3_⟩
                    have n4_ : Fc (Kd.Q (Kd.int .i64) 3 w122 w.heap.size (fun k_ => some k_ ≠ (v459 : Value).ownBlock) (.slice Ao118 x434001_1.length co118) x434001_1) := ⟨h4_⟩
                    have n5_ : Fc (Kd.R Kd.bool 4 w122 w.heap.size (fun _ => True) v438 x5_1) := ⟨h5_⟩
                    have n6_ : Fc (w122.heap[gb431]? = some (.cells #[.slice A0_0 l0_0.length c0_0, .slice A0_1 l0_1.length c0_1, .slice (some ad454) l0_2.length c0_2] 59 (0, 0))) := ⟨h6_⟩
                    have n7_ : Fc (w122.heap[gb433]? = some (.cells #[.slice Ao117 x434000_1.length co117, .slice Ao118 x434001_1.length co118] 56 (0, 0))) := ⟨h7_⟩
                    have n8_ : Fc (w122.heap[gb463]? = some (.cells #[.slice none 0 0, .slice none 0 0] 56 (0, 0))) := ⟨h8_⟩
                    have n9_ : Fc (w.heap.size ≤ gb463) := ⟨h9_⟩
                    have n10_ : Fc (w.heap.size ≤ gb463) := ⟨h10_⟩
                    have n11_ : Fc (gb431 ≠ gb463) := ⟨h11_⟩
                    have n12_ : Fc (gb463 ≠ gb431) := ⟨h12_⟩
                    have n13_ : Fc (gb433 ≠ gb463) := ⟨h13_⟩
                    have n14_ : Fc (gb463 ≠ gb433) := ⟨h14_⟩
                    have n15_ : Fc (Below w.heap.size w w122) := ⟨h15_⟩
                    clear HO_4 HO_5 HO_434000 HO_434001 BK431 BK433 HB h0_ h1_ h2_ h3_ h4_ h5_ h6_ h7_ h8_ h9_ h10_ h11_ h12_ h13_ h14_ h15_
                    have HO457 := n0_
                    have HO460 := n1_
                    have HO_4 := n2_
                    have HO_434000 := n3_
                    have HO_434001 := n4_
                    have HO_5 := n5_
                    have BK431 := n6_
                    have BK433 := n7_
                    have BK463 := n8_
                    have GW463 := n9_
                    have GE463 := n10_
                    have NB431_463 := n11_
                    have NB463_431 := n12_
                    have NB433_463 := n13_
                    have NB463_433 := n14_
                    have HB := n15_
                    clear n0_ n1_ n2_ n3_ n4_ n5_ n6_ n7_ n8_ n9_ n10_ n11_ n12_ n13_ n14_ n15_
                    have hHeld : w122.cell? ⟨gb433, 0, none⟩ = some (.slice Ao117 x434000_1.length co117) ∧ w122.cell? ⟨gb433, 1, none⟩ = some (.slice Ao118 x434001_1.length co118) ∧ w122.cell? ⟨gb431, 0, none⟩ = some (.slice A0_0 l0_0.length c0_0) ∧ w122.cell? ⟨gb431, 1, none⟩ = some (.slice A0_1 l0_1.length c0_1) ∧ w122.cell? ⟨gb431, 2, none⟩ = some (.slice (some ad454) l0_2.length c0_2) ∧ w122.cell? (ad454.add ((x6_1).toNat * 3)) = some (.int .i64 ((rd_T64 l0_2 x6_1).f0)) ∧ w122.cell? ⟨(ad454.add ((x6_1).toNat * 3)).block, (ad454.add ((x6_1).toNat * 3)).off + 1, none⟩ = some (.int .i64 ((rd_T64 l0_2 x6_1).f1)) ∧ w122.cell? ⟨(ad454.add ((x6_1).toNat * 3)).block, (ad454.add ((x6_1).toNat * 3)).off + 2, none⟩ = some (.string ((rd_T64 l0_2 x6_1).f2)) := hS_
                    obtain ⟨Ao123, co123, eo123⟩ := Kd.R_slice HO457.out
                    (first | subst eo123 | (injection eo123 with f1_ f2_ f3_; have f4_ := f1_.symm; have f5_ := f3_.symm; clear f1_ f2_ f3_; subst f4_; subst f5_))
                    obtain ⟨Ao125, co125, eo125, _⟩ := Kd.Q_slice HO460.out
                    (first | subst eo125 | (injection eo125 with f1_ f2_ f3_; have f4_ := f1_.symm; have f5_ := f3_.symm; clear f1_ f2_ f3_; subst f4_; subst f5_))
                    refine norm_ (a' := ?_) ?_ ?_
                    rotate_left
                    ·simp only [putAll, Act.put, List.setIfInBounds_toArray, List.set_cons_zero, List.set_cons_succ]
                     rfl
                    refine one_ (i := 13) (N := none) (bt 16 16383) rfl rfl (one_of HT_.out (by kernel_rfl)) (by decide) (fun K hK => ?_)
                    have hs124 : w122.cell? ⟨gb463, 0, none⟩ = some (.slice none 0 0) := (blk_cell BK463.out 0).trans rfl
                    have hfs124 := blk_frozen BK463.out 0
                    have hns124_0 := NB431_463.out
                    have hns124_1 := NB433_463.out
                    have hms124_0 := NB463_431.out
                    have hms124_1 := NB463_433.out
                    have hs126 : w122.cell? ⟨gb463, 1, none⟩ = some (.slice none 0 0) := (blk_cell BK463.out 1).trans rfl
                    have hfs126 := blk_frozen BK463.out 1
                    have hns126_0 := NB431_463.out
                    have hns126_1 := NB433_463.out
                    have hms126_0 := NB463_431.out
                    have hms126_1 := NB463_433.out
                    refine skip_ (w1 := ?_) (by rfl) rfl ?_ ?_
                    rotate_left
                    ·go_simp
                     rfl
                    refine hK.out _ _ ⟨((cell_far (p := ⟨gb463, _, none⟩) NB433_463.out _).trans (((cell_far (p := ⟨gb463, _, none⟩) NB433_463.out _).trans (hHeld.1)))), ((cell_far (p := ⟨gb463, _, none⟩) NB433_463.out _).trans (((cell_far (p := ⟨gb463, _, none⟩) NB433_463.out _).trans (hHeld.2.1)))), ((cell_far (p := ⟨gb463, _, none⟩) NB431_463.out _).trans (((cell_far (p := ⟨gb463, _, none⟩) NB431_463.out _).trans (hHeld.2.2.1)))), ((cell_far (p := ⟨gb463, _, none⟩) NB431_463.out _).trans (((cell_far (p := ⟨gb463, _, none⟩) NB431_463.out _).trans (hHeld.2.2.2.1)))), ((cell_far (p := ⟨gb463, _, none⟩) NB431_463.out _).trans (((cell_far (p := ⟨gb463, _, none⟩) NB431_463.out _).trans (hHeld.2.2.2.2.1)))), ((cell_far (p := ⟨gb463, _, none⟩) (by first | exact Nat.ne_of_lt (Nat.lt_of_lt_of_le (by have := World.block_lt_of_cell? _ _ hw454_0; first | rwa [add_block] at this | exact this) GW463.out) | (rw [add_block]; exact Nat.ne_of_lt (Nat.lt_of_lt_of_le (by have := World.block_lt_of_cell? _ _ hw454_0; first | rwa [add_block] at this | exact this) GW463.out)) | (show (Addr.add _ _).block ≠ _; rw [add_block]; exact Nat.ne_of_lt (Nat.lt_of_lt_of_le (by have := World.block_lt_of_cell? _ _ hw454_0; first | rwa [add_block] at this | exact this) GW463.out)) | (dsimp only; exact Nat.ne_of_lt (Nat.lt_of_lt_of_le (by have := World.block_lt_of_cell? _ _ hw454_0; first | rwa [add_block] at this | exact this) GW463.out))) _).trans (((cell_far (p := ⟨gb463, _, none⟩) (by first | exact Nat.ne_of_lt (Nat.lt_of_lt_of_le (by have := World.block_lt_of_cell? _ _ hw454_0; first | rwa [add_block] at this | exact this) GW463.out) | (rw [add_block]; exact Nat.ne_of_lt (Nat.lt_of_lt_of_le (by have := World.block_lt_of_cell? _ _ hw454_0; first | rwa [add_block] at this | exact this) GW463.out)) | (show (Addr.add _ _).block ≠ _; rw [add_block]; exact Nat.ne_of_lt (Nat.lt_of_lt_of_le (by have := World.block_lt_of_cell? _ _ hw454_0; first | rwa [add_block] at this | exact this) GW463.out)) | (dsimp only; exact Nat.ne_of_lt (Nat.lt_of_lt_of_le (by have := World.block_lt_of_cell? _ _ hw454_0; first | rwa [add_block] at this | exact this) GW463.out))) _).trans (hHeld.2.2.2.2.2.1)))), ((cell_far (p := ⟨gb463, _, none⟩) (by first | exact Nat.ne_of_lt (Nat.lt_of_lt_of_le (by have := World.block_lt_of_cell? _ _ hw454_1; first | rwa [add_block] at this | exact this) GW463.out) | (rw [add_block]; exact Nat.ne_of_lt (Nat.lt_of_lt_of_le (by have := World.block_lt_of_cell? _ _ hw454_1; first | rwa [add_block] at this | exact this) GW463.out)) | (show (Addr.add _ _).block ≠ _; rw [add_block]; exact Nat.ne_of_lt (Nat.lt_of_lt_of_le (by have := World.block_lt_of_cell? _ _ hw454_1; first | rwa [add_block] at this | exact this) GW463.out)) | (dsimp only; exact Nat.ne_of_lt (Nat.lt_of_lt_of_le (by have := World.block_lt_of_cell? _ _ hw454_1; first | rwa [add_block] at this | exact this) GW463.out))) _).trans (((cell_far (p := ⟨gb463, _, none⟩) (by first | exact Nat.ne_of_lt (Nat.lt_of_lt_of_le (by have := World.block_lt_of_cell? _ _ hw454_1; first | rwa [add_block] at this | exact this) GW463.out) | (rw [add_block]; exact Nat.ne_of_lt (Nat.lt_of_lt_of_le (by have := World.block_lt_of_cell? _ _ hw454_1; first | rwa [add_block] at this | exact this) GW463.out)) | (show (Addr.add _ _).block ≠ _; rw [add_block]; exact Nat.ne_of_lt (Nat.lt_of_lt_of_le (by have := World.block_lt_of_cell? _ _ hw454_1; first | rwa [add_block] at this | exact this) GW463.out)) | (dsimp only; exact Nat.ne_of_lt (Nat.lt_of_lt_of_le (by have := World.block_lt_of_cell? _ _ hw454_1; first | rwa [add_block] at this | exact this) GW463.out))) _).trans (hHeld.2.2.2.2.2.2.1)))), ((cell_far (p := ⟨gb463, _, none⟩) (by first | exact Nat.ne_of_lt (Nat.lt_of_lt_of_le (by have := World.block_lt_of_cell? _ _ hw454_2; first | rwa [add_block] at this | exact this) GW463.out) | (rw [add_block]; exact Nat.ne_of_lt (Nat.lt_of_lt_of_le (by have := World.block_lt_of_cell? _ _ hw454_2; first | rwa [add_block] at this | exact this) GW463.out)) | (show (Addr.add _ _).block ≠ _; rw [add_block]; exact Nat.ne_of_lt (Nat.lt_of_lt_of_le (by have := World.block_lt_of_cell? _ _ hw454_2; first | rwa [add_block] at this | exact this) GW463.out)) | (dsimp only; exact Nat.ne_of_lt (Nat.lt_of_lt_of_le (by have := World.block_lt_of_cell? _ _ hw454_2; first | rwa [add_block] at this | exact this) GW463.out))) _).trans (((cell_far (p := ⟨gb463, _, none⟩) (by first | exact Nat.ne_of_lt (Nat.lt_of_lt_of_le (by have := World.block_lt_of_cell? _ _ hw454_2; first | rwa [add_block] at this | exact this) GW463.out) | (rw [add_block]; exact Nat.ne_of_lt (Nat.lt_of_lt_of_le (by have := World.block_lt_of_cell? _ _ hw454_2; first | rwa [add_block] at this | exact this) GW463.out)) | (show (Addr.add _ _).block ≠ _; rw [add_block]; exact Nat.ne_of_lt (Nat.lt_of_lt_of_le (by have := World.block_lt_of_cell? _ _ hw454_2; first | rwa [add_block] at this | exact this) GW463.out)) | (dsimp only; exact Nat.ne_of_lt (Nat.lt_of_lt_of_le (by have := World.block_lt_of_cell? _ _ hw454_2; first | rwa [add_block] at this | exact this) GW463.out))) _).trans (hHeld.2.2.2.2.2.2.2))))⟩ (fun hHeld => ?_)
                    clear hK K
                    refine pq_ HT_.out 14 11 (bt 16 32767) (h := ?_)
                    refine pq_ HT_.out 15 12 (bt 16 65535) (h := ?_)
                    refine done_ (done_of HT_.out (by kernel_rfl)) ?_
                    try go_wp2_with (first | ((with_reducible refine gate_callee (f := 35) rfl ?_); refine gL_ (some 91) Try.func35 #[.int .i64 t462] (h := ?_); (with_reducible refine (quorumlaw5_num.calls t462 t464 _ A74.out).mono ?_); rintro e w' ⟨rfl, ⟨nd, rfl⟩⟩; refine ⟨_, rfl, ?_⟩) | ((with_reducible refine gate_callee (f := 35) rfl ?_); refine gL_ (some 116) Try.func35 #[.int .i64 t462] (h := ?_); (with_reducible refine (quorumlaw5_num.calls t462 t470 _ A105.out).mono ?_); rintro e w' ⟨rfl, ⟨nd, rfl⟩⟩; refine ⟨_, rfl, ?_⟩))
                    go_ret
                    exact ⟨by first | rfl | (simp [errW_none, errW_some] <;> rfl) | (simp [*, errW_none, errW_some] <;> rfl), b_ HB⟩
                 ·rw [if_neg c72] at H
                  exact absurd H (by simp)
                ·rw [if_neg c71] at H
                 exact absurd H (by simp)
              case rest =>
               clear HC29
               try clear c3
               try clear c7
               try clear c71
               try clear c72
               try clear c106
               try clear c106b0
               try clear c106b1
               try clear hx454_0
               try clear hx454_1
               try clear hx454_2
               try clear p454
               try clear q454
               obtain ⟨kq, x4_28, x5_28, x434000_28, x434001_28, u434000, u434001, HA, HJ28, HO_4, HO_5, HO_434000, HO_434001, BK431, BK433, HB⟩ := hcut
               cases kq with
               | zero => exact absurd HA.out (by simp [quorumlaw5_PageStays.j5])
               | succ kj28 =>
                have H := HA.out
                clear HA
                simp only [quorumlaw5_PageStays.j5] at H
                as_aux_lemma =>
                 have H' := mk0 H
                 clear H
                 go_wp2
                 go_loopg [13] kj28 (fun kq v13 w' => ∃ (x13_5 : Int), v13 = .int .i64 x13_5 ∧ Fc (quorumlaw5_PageStays.l1 kq x4_28 x5_28 x6_1 x13_5 l0_0 l0_1 l0_2 x434000_28 x434001_28 = some r) ∧ Fc (kq ≤ kj28) ∧ Fc (Kd.R Kd.string 9 w' w.heap.size (fun k_ => some k_ ≠ (u434000 : Value).ownBlock) v435 x4_28) ∧ Fc (Kd.R Kd.bool 4 w' w.heap.size (fun _ => True) v438 x5_28) ∧ Fc (Kd.R Kd.string 9 w' w.heap.size (fun k_ => some k_ ≠ (v435 : Value).ownBlock) u434000 x434000_28) ∧ Fc (Kd.Q (Kd.int .i64) 3 w' w.heap.size (fun _ => True) u434001 x434001_28) ∧ Fc (w'.heap[gb431]? = some (.cells #[(.slice A0_0 l0_0.length c0_0), (.slice A0_1 l0_1.length c0_1), (.slice A0_2 l0_2.length c0_2)] 59 (0, 0))) ∧ Fc (w'.heap[gb433]? = some (.cells #[u434000, u434001] 56 (0, 0))) ∧ Fc (Below w.heap.size w w'))
                 case atStart => exact ⟨(0), (by first | rfl | (simp; done) | (simp [*]; done)), H', ⟨Nat.le_refl _⟩, ⟨by (with_reducible repeat (first | apply Ra_ | apply Rn_ | apply Rd_)); exact HO_4.out⟩, ⟨by (with_reducible repeat (first | apply Ra_ | apply Rn_ | apply Rd_)); exact HO_5.out⟩, ⟨by (with_reducible repeat (first | apply Ra_ | apply Rn_ | apply Rd_)); exact HO_434000.out⟩, ⟨by (with_reducible repeat (first | apply Kd.Q_alloc | apply Kd.Q_drewN | apply Kd.Q_drew)); exact HO_434001.out⟩, ⟨h_ BK431⟩, ⟨h_ BK433⟩, ⟨b_ HB⟩⟩
                 case round =>
                  clear H'
                  try clear c3
                  try clear c7
                  try clear c71
                  try clear c72
                  try clear c106
                  try clear c106b0
                  try clear c106b1
                  try clear hx454_0
                  try clear hx454_1
                  try clear hx454_2
                  try clear p454
                  try clear q454
                  obtain ⟨x13_5, rfl, HA, HK5, HO_4, HO_5, HO_434000, HO_434001, BK431, BK433, HB⟩ := hrel
                  cases gk with
                  | zero => exact absurd HA.out (by simp [quorumlaw5_PageStays.l1])
                  | succ k5 =>
                   have H := HA.out
                   clear HA
                   simp only [quorumlaw5_PageStays.l1] at H
                   as_aux_lemma =>
                    by_cases c127 : x13_5 < 16
                    ·rw [if_pos c127] at H
                     have c127b0 : decide (x13_5 < 16) = true := decide_eq_true c127
                     clear c127
                     replace H := Option.bind_eq_some_iff.mp H
                     obtain ⟨⟨t471, t472⟩, A1280, H⟩ := H
                     try dsimp only at H
                     have A128 := mk0 A1280
                     clear A1280
                     have HC129 := mk0 H
                     clear H
                     have hnb130 := NB433_431.out
                     have hnc130 := NB431_433.out
                     obtain ⟨hcz131_0, hcz131_1, hfz131_0, hfz131_1⟩ := c2_ BK433
                     obtain ⟨Ao132, co132, eo132⟩ := Kd.R_slice HO_434000.out
                     subst eo132
                     obtain ⟨Ao133, co133, eo133, _⟩ := Kd.Q_slice HO_434001.out
                     subst eo133
                     go_upto_region 27 with (first | ((with_reducible refine gate_callee (f := 38) rfl ?_); refine gL_ (some 125) Try.func38 #[.agg #[.slice Ao132 x434000_28.length co132, .slice Ao133 x434001_28.length co133], .int .i64 x13_5] (h := ?_); (with_reducible refine (page_Get.calls k5 _ _ x434000_28 _ _ x434001_28 x13_5 t471 t472 _ ?side1 ?side2 ?side3 ?side4 A128.out).mono ?_); (case side1 => exact cr_ HO_434000); (case side2 => exact (Kd.R_reads' HO_434000.out).2.1); (case side3 => exact cq_ HO_434001); (case side4 => exact (Kd.Q_reads' HO_434001.out).2.1); rintro e w134 ⟨rfl, hb⟩; refine ⟨_, rfl, ?_⟩; replace HO_4 := mk0 (Kd.R_below (r_ HO_4) hb); replace HO_5 := mk0 (Kd.R_below (r_ HO_5) hb); replace HO_434000 := mk0 (Kd.R_below (r_ HO_434000) hb); replace HO_434001 := mk0 (Kd.Q_below (q_ HO_434001) hb); replace BK431 := mk0 (u_ BK431 hb); replace BK433 := mk0 (u_ BK433 hb); replace HB := mk0 (bt_ (b_ HB) hb); (try clear hb)))
                     (try simp only [Act.put, List.setIfInBounds_toArray, List.set_cons_zero, List.set_cons_succ])
                     go_cut [149] (fun v149 wc => ∃ (kq : Nat) (x149_128 : Bool), v149 = .bool x149_128 ∧ Fc (quorumlaw5_PageStays.j7 kq x4_28 x5_28 x6_1 x13_5 x149_128 l0_0 l0_1 l0_2 x434000_28 x434001_28 = some r) ∧ Fc (kq ≤ k5) ∧ Fc (Kd.R Kd.string 9 wc w.heap.size (fun k_ => some k_ ≠ ((.slice Ao132 x434000_28.length co132) : Value).ownBlock) v435 x4_28) ∧ Fc (Kd.R Kd.bool 4 wc w.heap.size (fun _ => True) v438 x5_28) ∧ Fc (Kd.R Kd.string 9 wc w.heap.size (fun k_ => some k_ ≠ (v435 : Value).ownBlock) (.slice Ao132 x434000_28.length co132) x434000_28) ∧ Fc (Kd.Q (Kd.int .i64) 3 wc w.heap.size (fun _ => True) (.slice Ao133 x434001_28.length co133) x434001_28) ∧ Fc (wc.heap[gb431]? = some (.cells #[(.slice A0_0 l0_0.length c0_0), (.slice A0_1 l0_1.length c0_1), (.slice A0_2 l0_2.length c0_2)] 59 (0, 0))) ∧ Fc (wc.heap[gb433]? = some (.cells #[(.slice Ao132 x434000_28.length co132), (.slice Ao133 x434001_28.length co133)] 56 (0, 0))) ∧ Fc (Below w.heap.size w wc))
                     case first =>
                      have H := HC129.out
                      clear HC129
                      replace H := Option.bind_eq_some_iff.mp H
                      obtain ⟨t473, A1350, H⟩ := H
                      try dsimp only at H
                      have A135 := mk0 A1350
                      clear A1350
                      by_cases c136 : 0 ≤ x13_5
                      ·rw [if_pos c136] at H
                       have c136b0 : decide (0 ≤ x13_5) = true := decide_eq_true c136
                       clear c136
                       (first | rw [c136b0] | (simp only [i64_w, i32_w]; rw [c136b0]) | skip)
                       by_cases c137 : x13_5 < (x5_28.length : Int)
                       ·rw [if_pos c137] at H
                        have c137b0 : decide (x13_5 < (x5_28.length : Int)) = true := decide_eq_true c137
                        clear c137
                        by_cases c138 : ((t473 == 0) != (rdOf false x5_28 x13_5)) = true
                        ·rw [if_pos c138] at H
                         have c138b0 : ((t473 == 0) != (rdOf false x5_28 x13_5)) = true := c138
                         (try (have c138b1 : decide ((t473 == 0) = (rdOf false x5_28 x13_5)) = false := by simpa using c138))
                         (try (have c138b2 : ((t473 == 0) == (rdOf false x5_28 x13_5)) = false := by simpa using c138))
                         (try (have c138b3 : ¬ ((t473 == 0) = (rdOf false x5_28 x13_5)) := by simpa using c138))
                         clear c138
                         have H' := mk0 H
                         clear H
                         try go_wp2
                         replace HO_4 := mk0 (Rd_ HO_4.out)
                         replace HO_5 := mk0 (Rd_ HO_5.out)
                         replace HO_434000 := mk0 (Rd_ HO_434000.out)
                         replace HO_434001 := mk0 (Kd.Q_drew HO_434001.out)
                         replace BK431 := mk0 (bD_ BK431.out)
                         replace BK433 := mk0 (bD_ BK433.out)
                         replace HB := mk0 (b1_ HB.out)
                         obtain ⟨Ao140, co140, eo140⟩ := Kd.R_slice HO_5.out
                         (first | subst eo140 | (injection eo140 with f1_ f2_ f3_; have f4_ := f1_.symm; have f5_ := f3_.symm; clear f1_ f2_ f3_; subst f4_; subst f5_))
                         have p474 : 0 ≤ (x13_5 : Int) := of_decide_eq_true (by first | (with_reducible assumption) | assumption)
                         have q474 : x13_5 < (x5_28.length : Int) := of_decide_eq_true (by first | (with_reducible assumption) | assumption)
                         obtain ⟨ad474, e474, hx474_0⟩ := Kd.at_bool (Kd.R_reads' HO_5.out).2.2 x13_5 p474 q474
                         cases e474
                         replace p474 := eq_true p474
                         replace q474 := eq_true q474
                         refine start_ (n := 22) (S := fun w' => w'.cell? (ad474.add (x13_5).toNat) = some (.bool (rdOf false x5_28 x13_5))) (ds := []) (bt 22 0) (by kernel_rfl) rfl rfl (hx474_0) (fun hHeld => ?_); refine with_tabW quorumlaw5_PageStays.tab27 quorumlaw5_PageStays.bits27 (fun HT_ HW_ => ?_)
                         generalize w134.drew = w139 at HO_4 HO_5 HO_434000 HO_434001 BK431 BK433 HB hx474_0 hHeld ⊢
                         refine pq_ HT_.out 0 128 (bt 22 1) (h := ?_)
                         refine pq_ HT_.out 3 131 (bt 22 9) (h := ?_)
                         refine pq_ HT_.out 4 132 (bt 22 25) (h := ?_)
                         refine pq_ HT_.out 5 133 (bt 22 57) (h := ?_)
                         refine t1 HT_.out HW_.out 6 134 (bt 22 121) rfl rfl (by kernel_rfl) (fun _ _ _ h => h) (by rfl) (by intro w' s0; go_simp; with_reducible rfl) hHeld (by simp only [z_]; rfl) ?_
                         refine one_ (i := 1) (N := some 129) (bt 22 123) rfl rfl (one_of HT_.out (by kernel_rfl)) (by decide) (fun K hK => ?_)
                         refine goes_ Try.func35 (by kernel_rfl) rfl #[.int .i64 t472] (by rfl) rfl rfl (by (try simp only [List.map_toArray, List.map_cons, List.map_nil]); first | done | rfl | (simp only [List.length_drop, List.length_take]; rfl)) ?_
                         with_reducible refine (quorumlaw5_num.calls t472 t473 _ A135.out).mono ?_
                         rintro e w' ⟨rfl, ⟨nd, rfl⟩⟩
                         refine ⟨_, rfl, ?_⟩
                         refine hK.out _ _ (hHeld) (fun hHeld => ?_)
                         clear hK K
                         refine norm_ (a' := ?_) ?_ ?_
                         rotate_left
                         ·show Act.put _ (some 129) _ = _
                          simp only [z_]
                          rfl
                         refine pq_ HT_.out 2 130 (bt 22 127) (h := ?_)
                         refine pq_ HT_.out 7 135 (bt 22 255) (h := ?_)
                         refine pq_ HT_.out 8 136 (bt 22 511) (h := ?_)
                         refine uq_ HT_.out 9 137 (bt 22 1023) (h := ?_)
                         refine uq_ HT_.out 10 138 (bt 22 2047) (h := ?_)
                         refine uq_ HT_.out 11 139 (bt 22 4095) (h := ?_)
                         refine uq_ HT_.out 12 140 (bt 22 8191) (h := ?_)
                         refine uq_ HT_.out 13 141 (bt 22 16383) (h := ?_)
                         refine uq_ HT_.out 14 142 (bt 22 32767) (h := ?_)
                         refine uq_ HT_.out 15 143 (bt 22 65535) (h := ?_)
                         refine uq_ HT_.out 16 144 (bt 22 131071) (h := ?_)
                         refine uq_ HT_.out 17 145 (bt 22 262143) (h := ?_)
                         refine uq_ HT_.out 18 146 (bt 22 524287) (h := ?_)
                         refine uq_ HT_.out 19 147 (bt 22 1048575) (h := ?_)
                         refine uq_ HT_.out 20 148 (bt 22 2097151) (h := ?_)
                         refine pq_ HT_.out 21 149 (bt 22 4194303) (h := ?_)
                         refine done_ (done_of HT_.out (by kernel_rfl)) ?_
                         try go_wp2
                         go_meet
                         case rel => exact ⟨_, (true), (by first | rfl | (simp; done) | (simp [*]; done)), H', ⟨by have := HK1.out; have := HJ16.out; have := HJ23.out; have := HJ28.out; have := HK5.out; first | omega | exact Nat.le_refl _⟩, ⟨by (with_reducible repeat (first | apply Ra_ | apply Rn_ | apply Rd_)); exact HO_4.out⟩, ⟨by (with_reducible repeat (first | apply Ra_ | apply Rn_ | apply Rd_)); exact HO_5.out⟩, ⟨by (with_reducible repeat (first | apply Ra_ | apply Rn_ | apply Rd_)); exact HO_434000.out⟩, ⟨by (with_reducible repeat (first | apply Kd.Q_alloc | apply Kd.Q_drewN | apply Kd.Q_drew)); exact HO_434001.out⟩, ⟨h_ BK431⟩, ⟨h_ BK433⟩, ⟨b_ HB⟩⟩
                        ·rw [if_neg c138] at H
                         have c138b0 : ((t473 == 0) != (rdOf false x5_28 x13_5)) = false := by simpa using c138
                         (try (have c138b1 : decide ((t473 == 0) = (rdOf false x5_28 x13_5)) = true := by simpa using c138))
                         (try (have c138b2 : ((t473 == 0) == (rdOf false x5_28 x13_5)) = true := by simpa using c138))
                         clear c138
                         obtain ⟨bq141, hbq141⟩ : ∃ b_ : Bool, b_ = (rdOf false x5_28 x13_5) := ⟨_, rfl⟩
                         replace H : (if bq141 = true then (if x13_5 < (x4_28.length : Int) then (quorumlaw5_PageStays.j7 k5 x4_28 x5_28 x6_1 x13_5 (t471.toList != (rdOf ByteArray.empty x4_28 x13_5).toList) l0_0 l0_1 l0_2 x434000_28 x434001_28) else (none)) else (quorumlaw5_PageStays.j7 k5 x4_28 x5_28 x6_1 x13_5 false l0_0 l0_1 l0_2 x434000_28 x434001_28)) = some r := by rw [← hbq141] at H; exact H
                         have Nbq141 := mk0 hbq141
                         clear hbq141
                         by_cases c142 : bq141 = true
                         ·subst c142
                          (try rw [← Nbq141.out] at c138b0)
                          (try rw [← Nbq141.out] at c138b1)
                          (try rw [← Nbq141.out] at c138b2)
                          rw [if_pos rfl] at H
                          by_cases c143 : x13_5 < (x4_28.length : Int)
                          ·rw [if_pos c143] at H
                           have c143b0 : decide (x13_5 < (x4_28.length : Int)) = true := decide_eq_true c143
                           clear c143
                           have H' := mk0 H
                           clear H
                           try go_wp2
                           replace HO_4 := mk0 (Rd_ HO_4.out)
                           replace HO_5 := mk0 (Rd_ HO_5.out)
                           replace HO_434000 := mk0 (Rd_ HO_434000.out)
                           replace HO_434001 := mk0 (Kd.Q_drew HO_434001.out)
                           replace BK431 := mk0 (bD_ BK431.out)
                           replace BK433 := mk0 (bD_ BK433.out)
                           replace HB := mk0 (b1_ HB.out)
                           obtain ⟨Ao145, co145, eo145⟩ := Kd.R_slice HO_5.out
                           (first | subst eo145 | (injection eo145 with f1_ f2_ f3_; have f4_ := f1_.symm; have f5_ := f3_.symm; clear f1_ f2_ f3_; subst f4_; subst f5_))
                           have p474 : 0 ≤ (x13_5 : Int) := of_decide_eq_true (by first | (with_reducible assumption) | assumption)
                           have q474 : x13_5 < (x5_28.length : Int) := of_decide_eq_true (by first | (with_reducible assumption) | assumption)
                           obtain ⟨ad474, e474, hx474_0⟩ := Kd.at_bool (Kd.R_reads' HO_5.out).2.2 x13_5 p474 q474
                           (try rw [← Nbq141.out] at hx474_0)
                           cases e474
                           replace p474 := eq_true p474
                           replace q474 := eq_true q474
                           have p475 : 0 ≤ (x13_5 : Int) := of_decide_eq_true (by first | (with_reducible assumption) | assumption)
                           have q475 : x13_5 < (x5_28.length : Int) := of_decide_eq_true (by first | (with_reducible assumption) | assumption)
                           obtain ⟨ad475, e475, hx475_0⟩ := Kd.at_bool (Kd.R_reads' HO_5.out).2.2 x13_5 p475 q475
                           (try rw [← Nbq141.out] at hx475_0)
                           obtain rfl : ad474 = ad475 := (by injection e475)
                           replace p475 := eq_true p475
                           replace q475 := eq_true q475
                           have p476 : 0 ≤ (x13_5 : Int) := of_decide_eq_true (by first | (with_reducible assumption) | assumption)
                           have q476 : x13_5 < (x4_28.length : Int) := of_decide_eq_true (by first | (with_reducible assumption) | assumption)
                           (try (obtain ⟨Aq_, cq_, eq_⟩ := Kd.R_slice HO_4.out; subst eq_))
                           obtain ⟨ad476, e476, hx476_0⟩ := Kd.at_string (Kd.R_reads' HO_4.out).2.2 x13_5 p476 q476
                           cases e476
                           replace p476 := eq_true p476
                           replace q476 := eq_true q476
                           refine start_ (n := 22) (S := fun w' => w'.cell? (ad474.add (x13_5).toNat) = some (.bool true) ∧ w'.cell? (ad474.add (x13_5).toNat) = some (.bool true) ∧ w'.cell? (ad476.add (x13_5).toNat) = some (.string (rdOf ByteArray.empty x4_28 x13_5))) (ds := []) (bt 22 0) (by kernel_rfl) rfl rfl ⟨hx474_0, hx475_0, hx476_0⟩ (fun hHeld => ?_); refine with_tabW quorumlaw5_PageStays.tab27 quorumlaw5_PageStays.bits27 (fun HT_ HW_ => ?_)
                           generalize w134.drew = w144 at HO_4 HO_5 HO_434000 HO_434001 BK431 BK433 HB hx474_0 hx475_0 hx476_0 hHeld ⊢
                           refine pq_ HT_.out 0 128 (bt 22 1) (h := ?_)
                           refine pq_ HT_.out 3 131 (bt 22 9) (h := ?_)
                           refine pq_ HT_.out 4 132 (bt 22 25) (h := ?_)
                           refine pq_ HT_.out 5 133 (bt 22 57) (h := ?_)
                           refine tq3_ HT_.out HW_.out 6 134 (bt 22 121) hHeld (h := ?_)
                           refine one_ (i := 1) (N := some 129) (bt 22 123) rfl rfl (one_of HT_.out (by kernel_rfl)) (by decide) (fun K hK => ?_)
                           refine goes_ Try.func35 (by kernel_rfl) rfl #[.int .i64 t472] (by rfl) rfl rfl (by (try simp only [List.map_toArray, List.map_cons, List.map_nil]); first | done | rfl | (simp only [List.length_drop, List.length_take]; rfl)) ?_
                           with_reducible refine (quorumlaw5_num.calls t472 t473 _ A135.out).mono ?_
                           rintro e w' ⟨rfl, ⟨nd, rfl⟩⟩
                           refine ⟨_, rfl, ?_⟩
                           obtain ⟨Ao146, co146, eo146⟩ := Kd.R_slice HO_4.out
                           (first | subst eo146 | (injection eo146 with f1_ f2_ f3_; have f4_ := f1_.symm; have f5_ := f3_.symm; clear f1_ f2_ f3_; subst f4_; subst f5_))
                           refine hK.out _ _ ⟨hHeld.1, hHeld.2.1, hHeld.2.2⟩ (fun hHeld => ?_)
                           clear hK K
                           refine norm_ (a' := ?_) ?_ ?_
                           rotate_left
                           ·show Act.put _ (some 129) _ = _
                            simp only [z_]
                            rfl
                           refine pq_ HT_.out 2 130 (bt 22 127) (h := ?_)
                           refine pq_ HT_.out 7 135 (bt 22 255) (h := ?_)
                           refine pq_ HT_.out 8 136 (bt 22 511) (h := ?_)
                           refine pq_ HT_.out 9 137 (bt 22 1023) (h := ?_)
                           refine pq_ HT_.out 10 138 (bt 22 2047) (h := ?_)
                           refine pq_ HT_.out 11 139 (bt 22 4095) (h := ?_)
                           refine tq3_ HT_.out HW_.out 12 140 (bt 22 8191) hHeld (h := ?_)
                           refine pq_ HT_.out 13 141 (bt 22 16383) (h := ?_)
                           refine pq_ HT_.out 14 142 (bt 22 32767) (h := ?_)
                           refine pq_ HT_.out 15 143 (bt 22 65535) (h := ?_)
                           refine pq_ HT_.out 16 144 (bt 22 131071) (h := ?_)
                           refine pq_ HT_.out 17 145 (bt 22 262143) (h := ?_)
                           refine tq3_ HT_.out HW_.out 18 146 (bt 22 524287) hHeld (h := ?_)
                           refine pq_ HT_.out 19 147 (bt 22 1048575) (h := ?_)
                           refine pq_ HT_.out 20 148 (bt 22 2097151) (h := ?_)
                           refine pq_ HT_.out 21 149 (bt 22 4194303) (h := ?_)
                           refine done_ (done_of HT_.out (by kernel_rfl)) ?_
                           try go_wp2
                           go_meet
                           case rel => exact ⟨_, ((t471.toList != (rdOf ByteArray.empty x4_28 x13_5).toList)), (by first | rfl | (simp; done) | (simp [*]; done)), H', ⟨by have := HK1.out; have := HJ16.out; have := HJ23.out; have := HJ28.out; have := HK5.out; first | omega | exact Nat.le_refl _⟩, ⟨by (with_reducible repeat (first | apply Ra_ | apply Rn_ | apply Rd_)); exact HO_4.out⟩, ⟨by (with_reducible repeat (first | apply Ra_ | apply Rn_ | apply Rd_)); exact HO_5.out⟩, ⟨by (with_reducible repeat (first | apply Ra_ | apply Rn_ | apply Rd_)); exact HO_434000.out⟩, ⟨by (with_reducible repeat (first | apply Kd.Q_alloc | apply Kd.Q_drewN | apply Kd.Q_drew)); exact HO_434001.out⟩, ⟨h_ BK431⟩, ⟨h_ BK433⟩, ⟨b_ HB⟩⟩
                          ·rw [if_neg c143] at H
                           exact absurd H (by simp)
                         ·replace c142 := Bool.eq_false_iff.mpr c142
                          subst c142
                          (try rw [← Nbq141.out] at c138b0)
                          (try rw [← Nbq141.out] at c138b1)
                          (try rw [← Nbq141.out] at c138b2)
                          rw [if_neg (show ¬ (false = true) by decide)] at H
                          have H' := mk0 H
                          clear H
                          try go_wp2
                          replace HO_4 := mk0 (Rd_ HO_4.out)
                          replace HO_5 := mk0 (Rd_ HO_5.out)
                          replace HO_434000 := mk0 (Rd_ HO_434000.out)
                          replace HO_434001 := mk0 (Kd.Q_drew HO_434001.out)
                          replace BK431 := mk0 (bD_ BK431.out)
                          replace BK433 := mk0 (bD_ BK433.out)
                          replace HB := mk0 (b1_ HB.out)
                          obtain ⟨Ao148, co148, eo148⟩ := Kd.R_slice HO_5.out
                          (first | subst eo148 | (injection eo148 with f1_ f2_ f3_; have f4_ := f1_.symm; have f5_ := f3_.symm; clear f1_ f2_ f3_; subst f4_; subst f5_))
                          have p474 : 0 ≤ (x13_5 : Int) := of_decide_eq_true (by first | (with_reducible assumption) | assumption)
                          have q474 : x13_5 < (x5_28.length : Int) := of_decide_eq_true (by first | (with_reducible assumption) | assumption)
                          obtain ⟨ad474, e474, hx474_0⟩ := Kd.at_bool (Kd.R_reads' HO_5.out).2.2 x13_5 p474 q474
                          (try rw [← Nbq141.out] at hx474_0)
                          cases e474
                          replace p474 := eq_true p474
                          replace q474 := eq_true q474
                          have p475 : 0 ≤ (x13_5 : Int) := of_decide_eq_true (by first | (with_reducible assumption) | assumption)
                          have q475 : x13_5 < (x5_28.length : Int) := of_decide_eq_true (by first | (with_reducible assumption) | assumption)
                          obtain ⟨ad475, e475, hx475_0⟩ := Kd.at_bool (Kd.R_reads' HO_5.out).2.2 x13_5 p475 q475
                          (try rw [← Nbq141.out] at hx475_0)
                          obtain rfl : ad474 = ad475 := (by injection e475)
                          replace p475 := eq_true p475
                          replace q475 := eq_true q475
                          refine start_ (n := 22) (S := fun w' => w'.cell? (ad474.add (x13_5).toNat) = some (.bool false) ∧ w'.cell? (ad474.add (x13_5).toNat) = some (.bool false)) (ds := []) (bt 22 0) (by kernel_rfl) rfl rfl ⟨hx474_0, hx475_0⟩ (fun hHeld => ?_); refine with_tabW quorumlaw5_PageStays.tab27 quorumlaw5_PageStays.bits27 (fun HT_ HW_ => ?_)
                          generalize w134.drew = w147 at HO_4 HO_5 HO_434000 HO_434001 BK431 BK433 HB hx474_0 hx475_0 hHeld ⊢
                          refine pq_ HT_.out 0 128 (bt 22 1) (h := ?_)
                          refine pq_ HT_.out 3 131 (bt 22 9) (h := ?_)
                          refine pq_ HT_.out 4 132 (bt 22 25) (h := ?_)
                          refine pq_ HT_.out 5 133 (bt 22 57) (h := ?_)
                          refine tq2_ HT_.out HW_.out 6 134 (bt 22 121) hHeld (h := ?_)
                          refine one_ (i := 1) (N := some 129) (bt 22 123) rfl rfl (one_of HT_.out (by kernel_rfl)) (by decide) (fun K hK => ?_)
                          refine goes_ Try.func35 (by kernel_rfl) rfl #[.int .i64 t472] (by rfl) rfl rfl (by (try simp only [List.map_toArray, List.map_cons, List.map_nil]); first | done | rfl | (simp only [List.length_drop, List.length_take]; rfl)) ?_
                          with_reducible refine (quorumlaw5_num.calls t472 t473 _ A135.out).mono ?_
                          rintro e w' ⟨rfl, ⟨nd, rfl⟩⟩
                          refine ⟨_, rfl, ?_⟩
                          refine hK.out _ _ ⟨hHeld.1, hHeld.2⟩ (fun hHeld => ?_)
                          clear hK K
                          refine norm_ (a' := ?_) ?_ ?_
                          rotate_left
                          ·show Act.put _ (some 129) _ = _
                           simp only [z_]
                           rfl
                          refine pq_ HT_.out 2 130 (bt 22 127) (h := ?_)
                          refine pq_ HT_.out 7 135 (bt 22 255) (h := ?_)
                          refine pq_ HT_.out 8 136 (bt 22 511) (h := ?_)
                          refine pq_ HT_.out 9 137 (bt 22 1023) (h := ?_)
                          refine pq_ HT_.out 10 138 (bt 22 2047) (h := ?_)
                          refine pq_ HT_.out 11 139 (bt 22 4095) (h := ?_)
                          refine tq2_ HT_.out HW_.out 12 140 (bt 22 8191) hHeld (h := ?_)
                          refine pq_ HT_.out 13 141 (bt 22 16383) (h := ?_)
                          refine uq_ HT_.out 14 142 (bt 22 32767) (h := ?_)
                          refine uq_ HT_.out 15 143 (bt 22 65535) (h := ?_)
                          refine uq_ HT_.out 16 144 (bt 22 131071) (h := ?_)
                          refine uq_ HT_.out 17 145 (bt 22 262143) (h := ?_)
                          refine uq_ HT_.out 18 146 (bt 22 524287) (h := ?_)
                          refine uq_ HT_.out 19 147 (bt 22 1048575) (h := ?_)
                          refine pq_ HT_.out 20 148 (bt 22 2097151) (h := ?_)
                          refine pq_ HT_.out 21 149 (bt 22 4194303) (h := ?_)
                          refine done_ (done_of HT_.out (by kernel_rfl)) ?_
                          try go_wp2
                          go_meet
                          case rel => exact ⟨_, (false), (by first | rfl | (simp; done) | (simp [*]; done)), H', ⟨by have := HK1.out; have := HJ16.out; have := HJ23.out; have := HJ28.out; have := HK5.out; first | omega | exact Nat.le_refl _⟩, ⟨by (with_reducible repeat (first | apply Ra_ | apply Rn_ | apply Rd_)); exact HO_4.out⟩, ⟨by (with_reducible repeat (first | apply Ra_ | apply Rn_ | apply Rd_)); exact HO_5.out⟩, ⟨by (with_reducible repeat (first | apply Ra_ | apply Rn_ | apply Rd_)); exact HO_434000.out⟩, ⟨by (with_reducible repeat (first | apply Kd.Q_alloc | apply Kd.Q_drewN | apply Kd.Q_drew)); exact HO_434001.out⟩, ⟨h_ BK431⟩, ⟨h_ BK433⟩, ⟨b_ HB⟩⟩
                       ·rw [if_neg c137] at H
                        exact absurd H (by simp)
                      ·rw [if_neg c136] at H
                       exact absurd H (by simp)
                     case rest =>
                      clear HC129
                      try clear c3
                      try clear c136
                      try clear c137
                      try clear c138
                      try clear c138b0
                      try clear c138b1
                      try clear c138b2
                      try clear c142
                      try clear c143
                      try clear c143b0
                      try clear hx474_0
                      try clear hx475_0
                      try clear hx476_0
                      try clear p474
                      try clear p475
                      try clear p476
                      try clear q474
                      try clear q475
                      try clear q476
                      obtain ⟨kq, x149_128, rfl, HA, HJ128, HO_4, HO_5, HO_434000, HO_434001, BK431, BK433, HB⟩ := hcut
                      cases kq with
                      | zero => exact absurd HA.out (by simp [quorumlaw5_PageStays.j7])
                      | succ kj128 =>
                       have H := HA.out
                       clear HA
                       simp only [quorumlaw5_PageStays.j7] at H
                       as_aux_lemma =>
                        by_cases c149 : x149_128 = true
                        ·subst c149
                         rw [if_pos rfl] at H
                         obtain rfl := Option.some.inj H
                         go_wp2
                         go_ret
                         exact ⟨by first | rfl | (simp [errW_none, errW_some] <;> rfl) | (simp [*, errW_none, errW_some] <;> rfl), b_ HB⟩
                        ·replace c149 := Bool.eq_false_iff.mpr c149
                         subst c149
                         rw [if_neg (show ¬ (false = true) by decide)] at H
                         have H' := mk0 H
                         clear H
                         go_wp2
                         go_roundg kj128
                         case measure => have := HK1.out; have := HJ16.out; have := HJ23.out; have := HJ28.out; have := HK5.out; have := HJ128.out; omega
                         case rel => exact ⟨(wrap64 (x13_5 + 1)), (by first | rfl | (simp; done) | (simp [*]; done)), H', ⟨by have := HK1.out; have := HJ16.out; have := HJ23.out; have := HJ28.out; have := HK5.out; have := HJ128.out; omega⟩, ⟨by (with_reducible repeat (first | apply Ra_ | apply Rn_ | apply Rd_)); exact HO_4.out⟩, ⟨by (with_reducible repeat (first | apply Ra_ | apply Rn_ | apply Rd_)); exact HO_5.out⟩, ⟨by (with_reducible repeat (first | apply Ra_ | apply Rn_ | apply Rd_)); exact HO_434000.out⟩, ⟨by (with_reducible repeat (first | apply Kd.Q_alloc | apply Kd.Q_drewN | apply Kd.Q_drew)); exact HO_434001.out⟩, ⟨h_ BK431⟩, ⟨h_ BK433⟩, ⟨b_ HB⟩⟩
                    ·rw [if_neg c127] at H
                     have c127b0 : decide (x13_5 < 16) = false := decide_eq_false c127
                     clear c127
                     have H' := mk0 H
                     clear H
                     go_wp2
                     go_roundg k5
                     case measure => have := HK1.out; have := HJ16.out; have := HJ23.out; have := HJ28.out; have := HK5.out; omega
                     case rel => exact ⟨(x4_28), (x5_28), (wrap64 (x6_1 + 1)), (x434000_28), (x434001_28), (u434000), (u434001), (by first | rfl | (simp; done) | (simp [*]; done)), H', ⟨by have := HK1.out; have := HJ16.out; have := HJ23.out; have := HJ28.out; have := HK5.out; omega⟩, ⟨by (with_reducible repeat (first | apply Ra_ | apply Rn_ | apply Rd_)); exact HO_4.out⟩, ⟨by (with_reducible repeat (first | apply Ra_ | apply Rn_ | apply Rd_)); exact HO_5.out⟩, ⟨by (with_reducible repeat (first | apply Ra_ | apply Rn_ | apply Rd_)); exact HO_434000.out⟩, ⟨by (with_reducible repeat (first | apply Kd.Q_alloc | apply Kd.Q_drewN | apply Kd.Q_drew)); exact HO_434001.out⟩, ⟨h_ BK431⟩, ⟨h_ BK433⟩, ⟨b_ HB⟩⟩
          ·replace c23 := Bool.eq_false_iff.mpr c23
           subst c23
           rw [if_neg (show ¬ (false = true) by decide)] at H
           have H' := mk0 H
           clear H
           go_wp2
           go_loopg [16] kj16 (fun kq v16 w' => ∃ (x16_3 : Int) (x434000_3 : List ByteArray) (x434001_3 : List Int) (u434000 : Value) (u434001 : Value), v16 = .int .i64 x16_3 ∧ Fc (quorumlaw5_PageStays.l2 kq x5_1 x16_3 x434000_3 x434001_3 = some r) ∧ Fc (kq ≤ kj16) ∧ Fc (Kd.R Kd.bool 4 w' w.heap.size (fun _ => True) v438 x5_1) ∧ Fc (Kd.R Kd.string 9 w' w.heap.size (fun _ => True) u434000 x434000_3) ∧ Fc (Kd.Q (Kd.int .i64) 3 w' w.heap.size (fun _ => True) u434001 x434001_3) ∧ Fc (w'.heap[gb431]? = some (.cells #[(.slice A0_0 l0_0.length c0_0), (.slice A0_1 l0_1.length c0_1), (.slice A0_2 l0_2.length c0_2)] 59 (0, 0))) ∧ Fc (w'.heap[gb433]? = some (.cells #[u434000, u434001] 56 (0, 0))) ∧ Fc (Below w.heap.size w w'))
           case atStart => exact ⟨(15), (x434000_1), (x434001_1), (u434000), (u434001), (by first | rfl | (simp; done) | (simp [*]; done)), H', ⟨Nat.le_refl _⟩, ⟨by (with_reducible repeat (first | apply Ra_ | apply Rn_ | apply Rd_)); exact HO_5.out⟩, ⟨by (with_reducible repeat (first | apply Ra_ | apply Rn_ | apply Rd_)); exact Kd.R_mono HO_434000.out (fun _ hk => trivial)⟩, ⟨by (with_reducible repeat (first | apply Kd.Q_alloc | apply Kd.Q_drewN | apply Kd.Q_drew)); exact HO_434001.out⟩, ⟨h_ BK431⟩, ⟨h_ BK433⟩, ⟨b_ HB⟩⟩
           case round =>
            clear H'
            try clear c3
            try clear c23
            try clear c127
            try clear c127b0
            try clear c136
            try clear c137
            try clear c138
            try clear c138b0
            try clear c138b1
            try clear c138b2
            try clear c142
            try clear c143
            try clear c143b0
            try clear c149
            try clear hx474_0
            try clear hx475_0
            try clear hx476_0
            try clear p474
            try clear p475
            try clear p476
            try clear q474
            try clear q475
            try clear q476
            obtain ⟨x16_3, x434000_3, x434001_3, u434000, u434001, rfl, HA, HK3, HO_5, HO_434000, HO_434001, BK431, BK433, HB⟩ := hrel
            cases gk with
            | zero => exact absurd HA.out (by simp [quorumlaw5_PageStays.l2])
            | succ k3 =>
             have H := HA.out
             clear HA
             simp only [quorumlaw5_PageStays.l2] at H
             as_aux_lemma =>
              by_cases c150 : x16_3 ≥ 0
              focus
               rw [if_pos c150] at H
               have c150b0 : decide (0 ≤ x16_3) = true := decide_eq_true c150
               clear c150
               by_cases c151 : 0 ≤ x16_3
               focus
                rw [if_pos c151] at H
                have c151b0 : decide (0 ≤ x16_3) = true := decide_eq_true c151
                clear c151
                by_cases c152 : x16_3 < (x5_1.length : Int)
                focus
                 rw [if_pos c152] at H
                 have c152b0 : decide (x16_3 < (x5_1.length : Int)) = true := decide_eq_true c152
                 clear c152
                 obtain ⟨bq153, hbq153⟩ : ∃ b_ : Bool, b_ = (rdOf false x5_1 x16_3) := ⟨_, rfl⟩
                 replace H : (if bq153 = true then ((page_Cut.f k3 x434000_3 x434001_3 x16_3).bind fun bt478 => ((quorumlaw5_num.f bt478.2.2).bind fun t486 => (if t486 = 0 then (quorumlaw5_PageStays.l2 k3 x5_1 (wrap64 (x16_3 - 1)) bt478.1 bt478.2.1) else (some false)))) else (quorumlaw5_PageStays.l2 k3 x5_1 (wrap64 (x16_3 - 1)) x434000_3 x434001_3)) = some r := by rw [← hbq153] at H; exact H
                 have Nbq153 := mk0 hbq153
                 clear hbq153
                 by_cases c154 : bq153 = true
                 focus
                  subst c154
                  rw [if_pos rfl] at H
                  replace H := Option.bind_eq_some_iff.mp H
                  obtain ⟨⟨t478, t481, t484⟩, A1550, H⟩ := H
                  try dsimp only at H
                  have A155 := mk0 A1550
                  clear A1550
                  replace H := Option.bind_eq_some_iff.mp H
                  obtain ⟨t486, A1560, H⟩ := H
                  try dsimp only at H
                  have A156 := mk0 A1560
                  clear A1560
                  by_cases c157 : t486 = 0
                  focus
                   rw [if_pos c157] at H
                   have c157b0 : (t486 == 0) = true := beq_iff_eq.mpr c157
                   have c157b1 : (t486 != 0) = false := bne_eq_false_iff_eq.mpr c157
                   clear c157
                   have H' := mk0 H
                   clear H
                   obtain ⟨Ao158, co158, eo158⟩ := Kd.R_slice HO_5.out
                   subst eo158
                   have p477 : 0 ≤ (x16_3 : Int) := of_decide_eq_true (by first | (with_reducible assumption) | assumption)
                   have q477 : x16_3 < (x5_1.length : Int) := of_decide_eq_true (by first | (with_reducible assumption) | assumption)
                   obtain ⟨ad477, e477, hx477_0⟩ := Kd.at_bool (Kd.R_reads' HO_5.out).2.2 x16_3 p477 q477
                   (try rw [← Nbq153.out] at hx477_0)
                   cases e477
                   replace p477 := eq_true p477
                   replace q477 := eq_true q477
                   have hnb159 := NB433_431.out
                   have hnc159 := NB431_433.out
                   obtain ⟨hcz160_0, hcz160_1, hfz160_0, hfz160_1⟩ := c2_ BK433
                   obtain ⟨Ao161, co161, eo161⟩ := Kd.R_slice HO_434000.out
                   subst eo161
                   obtain ⟨Ao162, co162, eo162, _⟩ := Kd.Q_slice HO_434001.out
                   subst eo162
                  rotate_left 1
                  focus
                   rw [if_neg c157] at H
                   have c157b0 : (t486 == 0) = false := beq_eq_false_iff_ne.mpr c157
                   have c157b1 : (t486 != 0) = true := bne_iff_ne.mpr c157
                   obtain rfl := Option.some.inj H
                   obtain ⟨Ao171, co171, eo171⟩ := Kd.R_slice HO_5.out
                   subst eo171
                   have p477 : 0 ≤ (x16_3 : Int) := of_decide_eq_true (by first | (with_reducible assumption) | assumption)
                   have q477 : x16_3 < (x5_1.length : Int) := of_decide_eq_true (by first | (with_reducible assumption) | assumption)
                   obtain ⟨ad477, e477, hx477_0⟩ := Kd.at_bool (Kd.R_reads' HO_5.out).2.2 x16_3 p477 q477
                   (try rw [← Nbq153.out] at hx477_0)
                   cases e477
                   replace p477 := eq_true p477
                   replace q477 := eq_true q477
                   have hnb172 := NB433_431.out
                   have hnc172 := NB431_433.out
                   obtain ⟨hcz173_0, hcz173_1, hfz173_0, hfz173_1⟩ := c2_ BK433
                   obtain ⟨Ao161, co161, eo174⟩ := Kd.R_slice HO_434000.out
                   subst eo174
                   obtain ⟨Ao162, co162, eo175, _⟩ := Kd.Q_slice HO_434001.out
                   subst eo175
                  rotate_right 1
                 rotate_left 2
                 ·replace c154 := Bool.eq_false_iff.mpr c154
                  subst c154
                  rw [if_neg (show ¬ (false = true) by decide)] at H
                  have H' := mk0 H
                  clear H
                  obtain ⟨Ao183, co183, eo183⟩ := Kd.R_slice HO_5.out
                  subst eo183
                  have p477 : 0 ≤ (x16_3 : Int) := of_decide_eq_true (by first | (with_reducible assumption) | assumption)
                  have q477 : x16_3 < (x5_1.length : Int) := of_decide_eq_true (by first | (with_reducible assumption) | assumption)
                  obtain ⟨ad477, e477, hx477_0⟩ := Kd.at_bool (Kd.R_reads' HO_5.out).2.2 x16_3 p477 q477
                  (try rw [← Nbq153.out] at hx477_0)
                  cases e477
                  replace p477 := eq_true p477
                  replace q477 := eq_true q477
                  go_wp2
                  go_roundg k3
                  case measure => have := HK1.out; have := HJ16.out; have := HK3.out; omega
                  case rel => exact ⟨(wrap64 (x16_3 - 1)), (x434000_3), (x434001_3), (u434000), (u434001), (by first | rfl | (simp; done) | (simp [*]; done)), H', ⟨by have := HK1.out; have := HJ16.out; have := HK3.out; omega⟩, ⟨by (with_reducible repeat (first | apply Ra_ | apply Rn_ | apply Rd_)); exact HO_5.out⟩, ⟨by (with_reducible repeat (first | apply Ra_ | apply Rn_ | apply Rd_)); exact HO_434000.out⟩, ⟨by (with_reducible repeat (first | apply Kd.Q_alloc | apply Kd.Q_drewN | apply Kd.Q_drew)); exact HO_434001.out⟩, ⟨h_ BK431⟩, ⟨h_ BK433⟩, ⟨b_ HB⟩⟩
                rotate_left 2
                ·rw [if_neg c152] at H
                 exact absurd H (by simp)
               rotate_left 2
               ·rw [if_neg c151] at H
                exact absurd H (by simp)
              rotate_left 2
              focus
               rw [if_neg c150] at H
               have c150b0 : decide (0 ≤ x16_3) = false := decide_eq_false c150
               clear c150
               replace H := Option.bind_eq_some_iff.mp H
               obtain ⟨t487, A1840, H⟩ := H
               try dsimp only at H
               have A184 := mk0 A1840
               clear A1840
               by_cases c185 : t487 = true
               focus
                subst c185
                rw [if_pos rfl] at H
                replace H := Option.bind_eq_some_iff.mp H
                obtain ⟨t488, A1860, H⟩ := H
                try dsimp only at H
                have A186 := mk0 A1860
                clear A1860
                by_cases c187 : t488 = true
                focus
                 subst c187
                 rw [if_pos rfl] at H
                 replace H := Option.bind_eq_some_iff.mp H
                 obtain ⟨t489, A1880, H⟩ := H
                 try dsimp only at H
                 have A188 := mk0 A1880
                 clear A1880
                 obtain rfl := Option.some.inj H
                 have hnb189 := NB433_431.out
                 have hnc189 := NB431_433.out
                 obtain ⟨hcz190_0, hcz190_1, hfz190_0, hfz190_1⟩ := c2_ BK433
                 obtain ⟨Ao191, co191, eo191⟩ := Kd.R_slice HO_434000.out
                 subst eo191
                 obtain ⟨Ao192, co192, eo192, _⟩ := Kd.Q_slice HO_434001.out
                 subst eo192
                rotate_left 1
                focus
                 replace c187 := Bool.eq_false_iff.mpr c187
                 subst c187
                 rw [if_neg (show ¬ (false = true) by decide)] at H
                 obtain rfl := Option.some.inj H
                 have hnb197 := NB433_431.out
                 have hnc197 := NB431_433.out
                 obtain ⟨hcz198_0, hcz198_1, hfz198_0, hfz198_1⟩ := c2_ BK433
                 obtain ⟨Ao199, co199, eo199⟩ := Kd.R_slice HO_434000.out
                 subst eo199
                 obtain ⟨Ao200, co200, eo200, _⟩ := Kd.Q_slice HO_434001.out
                 subst eo200
                rotate_right 1
               rotate_left 2
               focus
                replace c185 := Bool.eq_false_iff.mpr c185
                subst c185
                rw [if_neg (show ¬ (false = true) by decide)] at H
                obtain rfl := Option.some.inj H
                have hnb204 := NB433_431.out
                have hnc204 := NB431_433.out
                obtain ⟨hcz205_0, hcz205_1, hfz205_0, hfz205_1⟩ := c2_ BK433
                obtain ⟨Ao206, co206, eo206⟩ := Kd.R_slice HO_434000.out
                subst eo206
                obtain ⟨Ao207, co207, eo207, _⟩ := Kd.Q_slice HO_434001.out
                subst eo207
               rotate_right 2
              rotate_right 2
              all_goals go_wp2_with (first | ((with_reducible refine gate_callee (f := 34) rfl ?_); refine gL_ (some 162) Try.func34 #[.agg #[.slice Ao161 x434000_3.length co161, .slice Ao162 x434001_3.length co162], .int .i64 x16_3] (h := ?_); (with_reducible refine (page_Cut.calls k3 _ _ x434000_3 _ _ x434001_3 x16_3 t478 t481 t484 _ ?side1 ?side2 ?side3 ?side4 A155.out).mono ?_); (case side1 => exact cr_ HO_434000); (case side2 => exact (Kd.R_reads' HO_434000.out).2.1); (case side3 => exact cq_ HO_434001); (case side4 => exact (Kd.Q_reads' HO_434001.out).2.1); rintro e w163 ⟨v479, v482, rfl, ho0, ho1, hb⟩; refine ⟨_, rfl, ?_⟩; have n3_ := mk0 (Kd.R_lower (Kd.R_new' ho0 (Kd.R_lt (r_ HO_434000))) (bz_ (b_ HB))); have n4_ := mk0 (Kd.R_lower (Kd.R_new' ho1 (Kd.Q_lt (q_ HO_434001))) (bz_ (b_ HB))); replace HO_5 := mk0 (Kd.R_below (r_ HO_5) hb); replace HO_434000 := mk0 (Kd.R_elder' (r_ HO_434000) (Kd.R_base ho0) hb); replace HO_434001 := mk0 (Kd.Q_elder' (q_ HO_434001) (Kd.R_base ho1) hb); replace BK431 := mk0 (u_ BK431 hb); replace BK433 := mk0 (u_ BK433 hb); replace HB := mk0 (bt_ (b_ HB) hb); have HO480 := n3_; have HO483 := n4_; clear n3_ n4_; (try clear hb); (try clear ho0); (try clear ho1)) | ((with_reducible refine gate_dst (N := 17) rfl ?_); (try (refine gate_guard (by rfl) ?_; dsimp only)); refine bx_ (N := 17) (cs := #[.slice none 0 0, .slice none 0 0]) (t := 56) (h := ?_); intro gb485 hg w164 hbox hb; have n9_ := mk0 (gz_ HB hg); have n10_ := mk0 (gz_ HB hg); have n11_ := mk0 (ne1_ BK431 hg); have n12_ := mk0 (ne2_ BK431 hg); have n13_ := mk0 (ne1_ BK433 hg); have n14_ := mk0 (ne2_ BK433 hg); replace HO_5 := mk0 (Kd.R_below (r_ HO_5) hb); replace HO_434000 := mk0 (Kd.R_below (r_ HO_434000) hb); replace HO_434001 := mk0 (Kd.Q_below (q_ HO_434001) hb); replace HO480 := mk0 (Kd.R_below (r_ HO480) hb); replace HO483 := mk0 (Kd.R_below (r_ HO483) hb); replace BK431 := mk0 (u_ BK431 hb); replace BK433 := mk0 (u_ BK433 hb); replace HB := mk0 (bt_ (b_ HB) hb); have BK485 := mk0 (hbox); have GW485 := n9_; have GE485 := n10_; have NB431_485 := n11_; have NB485_431 := n12_; have NB433_485 := n13_; have NB485_433 := n14_; clear n9_ n10_ n11_ n12_ n13_ n14_ hb hbox hg; obtain ⟨Ao165, co165, eo165⟩ := Kd.R_slice HO480.out; subst eo165; have hnb166 := NB485_431.out; have hnc166 := NB431_485.out; have hnb167 := NB485_433.out; have hnc167 := NB433_485.out; obtain ⟨hcz168_0, hcz168_1, hfz168_0, hfz168_1⟩ := c2_ BK485; obtain ⟨Ao169, co169, eo169⟩ := Kd.R_slice HO483.out; subst eo169) | ((with_reducible refine gate_callee (f := 35) rfl ?_); refine gL_ (some 166) Try.func35 #[.int .i64 t484] (h := ?_); (with_reducible refine (quorumlaw5_num.calls t484 t486 _ A156.out).mono ?_); rintro e w' ⟨rfl, ⟨nd, rfl⟩⟩; refine ⟨_, rfl, ?_⟩; obtain ⟨hcz170_0, hcz170_1, hfz170_0, hfz170_1⟩ := c2_ BK433) | ((with_reducible refine gate_callee (f := 35) rfl ?_); refine gL_ (some 166) Try.func35 #[.int .i64 t484] (h := ?_); (with_reducible refine (quorumlaw5_num.calls t484 t486 _ A156.out).mono ?_); rintro e w' ⟨rfl, ⟨nd, rfl⟩⟩; refine ⟨_, rfl, ?_⟩; (try obtain ⟨hcz170_0, hcz170_1, hfz170_0, hfz170_1⟩ := c2_ BK433)) | ((with_reducible refine gate_callee (f := 39) rfl ?_); refine gL_ (some 171) Try.func39 #[.agg #[.slice Ao191 x434000_3.length co191, .slice Ao192 x434001_3.length co192], .agg #[.slice none 0 0, .slice none 0 0]] (h := ?_); (refine (quorumref0_EqPage.calls k3 _ _ x434000_3 _ _ x434001_3 _ _ ([] : List ByteArray) _ _ ([] : List Int) true _ ?side1 ?side2 ?side3 ?side4 ?side5 ?side6 ?side7 ?side8 A184.out).mono ?_); (case side1 => exact cr_ HO_434000); (case side2 => exact (Kd.R_reads' HO_434000.out).2.1); (case side3 => exact cq_ HO_434001); (case side4 => exact (Kd.Q_reads' HO_434001.out).2.1); (case side5 => exact Kd.C_nil _ _); (case side6 => exact Nat.le_refl _); (case side7 => exact Kd.C_nil _ _); (case side8 => exact Nat.le_refl _); rintro e w193 ⟨rfl, hb⟩; refine ⟨_, rfl, ?_⟩; replace HO_5 := mk0 (Kd.R_below (r_ HO_5) hb); replace HO_434000 := mk0 (Kd.R_below (r_ HO_434000) hb); replace HO_434001 := mk0 (Kd.Q_below (q_ HO_434001) hb); replace BK431 := mk0 (u_ BK431 hb); replace BK433 := mk0 (u_ BK433 hb); replace HB := mk0 (bt_ (b_ HB) hb); (try clear hb); obtain ⟨hcz194_0, hcz194_1, hfz194_0, hfz194_1⟩ := c2_ BK433) | (go_at_call 40; (with_reducible refine (quorumref4_Page.calls k3 _ _ x434000_3 _ _ x434001_3 true _ ?side1 ?side2 ?side3 ?side4 A186.out).mono ?_); (case side1 => exact cr_ HO_434000); (case side2 => exact (Kd.R_reads' HO_434000.out).2.1); (case side3 => exact cq_ HO_434001); (case side4 => exact (Kd.Q_reads' HO_434001.out).2.1); rintro e w195 ⟨rfl, hb⟩; replace HO_5 := mk0 (Kd.R_below (r_ HO_5) hb); replace HO_434000 := mk0 (Kd.R_below (r_ HO_434000) hb); replace HO_434001 := mk0 (Kd.Q_below (q_ HO_434001) hb); replace BK431 := mk0 (u_ BK431 hb); replace BK433 := mk0 (u_ BK433 hb); replace HB := mk0 (bt_ (b_ HB) hb); (try clear hb)) | (go_at_call 41; (with_reducible refine (quorumlaw5_wakes.calls k3  t489 _ A188.out).mono ?_); rintro e w196 ⟨rfl, hb⟩; replace HO_5 := mk0 (Kd.R_below (r_ HO_5) hb); replace HO_434000 := mk0 (Kd.R_below (r_ HO_434000) hb); replace HO_434001 := mk0 (Kd.Q_below (q_ HO_434001) hb); replace BK431 := mk0 (u_ BK431 hb); replace BK433 := mk0 (u_ BK433 hb); replace HB := mk0 (bt_ (b_ HB) hb); (try clear hb)) | ((with_reducible refine gate_callee (f := 39) rfl ?_); refine gL_ (some 171) Try.func39 #[.agg #[.slice Ao199 x434000_3.length co199, .slice Ao200 x434001_3.length co200], .agg #[.slice none 0 0, .slice none 0 0]] (h := ?_); (refine (quorumref0_EqPage.calls k3 _ _ x434000_3 _ _ x434001_3 _ _ ([] : List ByteArray) _ _ ([] : List Int) true _ ?side1 ?side2 ?side3 ?side4 ?side5 ?side6 ?side7 ?side8 A184.out).mono ?_); (case side1 => exact cr_ HO_434000); (case side2 => exact (Kd.R_reads' HO_434000.out).2.1); (case side3 => exact cq_ HO_434001); (case side4 => exact (Kd.Q_reads' HO_434001.out).2.1); (case side5 => exact Kd.C_nil _ _); (case side6 => exact Nat.le_refl _); (case side7 => exact Kd.C_nil _ _); (case side8 => exact Nat.le_refl _); rintro e w201 ⟨rfl, hb⟩; refine ⟨_, rfl, ?_⟩; replace HO_5 := mk0 (Kd.R_below (r_ HO_5) hb); replace HO_434000 := mk0 (Kd.R_below (r_ HO_434000) hb); replace HO_434001 := mk0 (Kd.Q_below (q_ HO_434001) hb); replace BK431 := mk0 (u_ BK431 hb); replace BK433 := mk0 (u_ BK433 hb); replace HB := mk0 (bt_ (b_ HB) hb); (try clear hb); obtain ⟨hcz202_0, hcz202_1, hfz202_0, hfz202_1⟩ := c2_ BK433) | (go_at_call 40; (with_reducible refine (quorumref4_Page.calls k3 _ _ x434000_3 _ _ x434001_3 false _ ?side1 ?side2 ?side3 ?side4 A186.out).mono ?_); (case side1 => exact cr_ HO_434000); (case side2 => exact (Kd.R_reads' HO_434000.out).2.1); (case side3 => exact cq_ HO_434001); (case side4 => exact (Kd.Q_reads' HO_434001.out).2.1); rintro e w203 ⟨rfl, hb⟩; replace HO_5 := mk0 (Kd.R_below (r_ HO_5) hb); replace HO_434000 := mk0 (Kd.R_below (r_ HO_434000) hb); replace HO_434001 := mk0 (Kd.Q_below (q_ HO_434001) hb); replace BK431 := mk0 (u_ BK431 hb); replace BK433 := mk0 (u_ BK433 hb); replace HB := mk0 (bt_ (b_ HB) hb); (try clear hb)) | ((with_reducible refine gate_callee (f := 39) rfl ?_); refine gL_ (some 171) Try.func39 #[.agg #[.slice Ao206 x434000_3.length co206, .slice Ao207 x434001_3.length co207], .agg #[.slice none 0 0, .slice none 0 0]] (h := ?_); (refine (quorumref0_EqPage.calls k3 _ _ x434000_3 _ _ x434001_3 _ _ ([] : List ByteArray) _ _ ([] : List Int) false _ ?side1 ?side2 ?side3 ?side4 ?side5 ?side6 ?side7 ?side8 A184.out).mono ?_); (case side1 => exact cr_ HO_434000); (case side2 => exact (Kd.R_reads' HO_434000.out).2.1); (case side3 => exact cq_ HO_434001); (case side4 => exact (Kd.Q_reads' HO_434001.out).2.1); (case side5 => exact Kd.C_nil _ _); (case side6 => exact Nat.le_refl _); (case side7 => exact Kd.C_nil _ _); (case side8 => exact Nat.le_refl _); rintro e w208 ⟨rfl, hb⟩; refine ⟨_, rfl, ?_⟩; replace HO_5 := mk0 (Kd.R_below (r_ HO_5) hb); replace HO_434000 := mk0 (Kd.R_below (r_ HO_434000) hb); replace HO_434001 := mk0 (Kd.Q_below (q_ HO_434001) hb); replace BK431 := mk0 (u_ BK431 hb); replace BK433 := mk0 (u_ BK433 hb); replace HB := mk0 (bt_ (b_ HB) hb); (try clear hb)))
              ·go_roundg k3
               case measure => have := HK1.out; have := HJ16.out; have := HK3.out; omega
               case rel => exact ⟨(wrap64 (x16_3 - 1)), (t478), (t481), (.slice Ao165 t478.length co165), (.slice Ao169 t481.length co169), (by first | rfl | (simp; done) | (simp [*]; done)), H', ⟨by have := HK1.out; have := HJ16.out; have := HK3.out; omega⟩, ⟨by (with_reducible repeat (first | apply Ra_ | apply Rn_ | apply Rd_)); exact Kd.R_mono (Kd.R_far (p := ⟨gb433, 1, none⟩) (Kd.R_far (p := ⟨gb433, 0, none⟩) (Kd.R_far (p := ⟨gb485, 1, none⟩) (Kd.R_far (p := ⟨gb485, 0, none⟩) (Kd.R_types (Kd.R_types HO_5.out BK485.out (by decide)) BK433.out (by decide)) (fun _ hk => hk.1.2) (.slice Ao165 t478.length co165)) (fun _ hk => hk.1.2) (.slice Ao169 t481.length co169)) (fun _ hk => hk.2) (.slice Ao165 t478.length co165)) (fun _ hk => hk.2) (.slice Ao169 t481.length co169)) (fun _ hk => trivial)⟩, ⟨by (with_reducible repeat (first | apply Ra_ | apply Rn_ | apply Rd_)); exact Kd.R_mono (Kd.R_far (p := ⟨gb433, 1, none⟩) (Kd.R_far (p := ⟨gb433, 0, none⟩) (Kd.R_far (p := ⟨gb485, 1, none⟩) (Kd.R_far (p := ⟨gb485, 0, none⟩) (Kd.R_types (Kd.R_types HO480.out BK485.out (by decide)) BK433.out (by decide)) (fun _ hk => hk.1.2) (.slice Ao165 t478.length co165)) (fun _ hk => hk.1.2) (.slice Ao169 t481.length co169)) (fun _ hk => hk.2) (.slice Ao165 t478.length co165)) (fun _ hk => hk.2) (.slice Ao169 t481.length co169)) (fun _ hk => trivial)⟩, ⟨Kd.Q_of_R (r2_ (Kd.R_mono (Kd.R_far (p := ⟨gb433, 1, none⟩) (Kd.R_far (p := ⟨gb433, 0, none⟩) (Kd.R_far (p := ⟨gb485, 1, none⟩) (Kd.R_far (p := ⟨gb485, 0, none⟩) (Kd.R_types (Kd.R_types HO483.out BK485.out (by decide)) BK433.out (by decide)) (fun _ hk => hk.1.2) (.slice Ao165 t478.length co165)) (fun _ hk => hk.1.2) (.slice Ao169 t481.length co169)) (fun _ hk => hk.2) (.slice Ao165 t478.length co165)) (fun _ hk => hk.2) (.slice Ao169 t481.length co169)) (fun _ hk => trivial)))⟩, ⟨(fa_ (fa_ (fa_ (fa_ (h_ BK431) NB431_485.out) NB431_485.out) NB431_433.out) NB431_433.out)⟩, ⟨(pu_ (cs := #[.slice Ao165 t478.length co165, .slice Ao162 x434001_3.length co162]) (pu_ (cs := #[.slice Ao161 x434000_3.length co161, .slice Ao162 x434001_3.length co162]) (fa_ (fa_ (h_ BK433) NB433_485.out) NB433_485.out)))⟩, ⟨b_ HB⟩⟩
              ·go_ret
               exact ⟨by first | rfl | (simp [errW_none, errW_some] <;> rfl) | (simp [*, errW_none, errW_some] <;> rfl), b_ HB⟩
              ·go_ret
               exact ⟨by first | rfl | (simp [errW_none, errW_some] <;> rfl) | (simp [*, errW_none, errW_some] <;> rfl), b_ HB⟩
              ·go_ret
               exact ⟨by first | rfl | (simp [errW_none, errW_some] <;> rfl) | (simp [*, errW_none, errW_some] <;> rfl), b_ HB⟩
              ·go_ret
               exact ⟨by first | rfl | (simp [errW_none, errW_some] <;> rfl) | (simp [*, errW_none, errW_some] <;> rfl), b_ HB⟩
   ·rw [if_neg c8] at H
    exact absurd H (by simp)
  ·rw [if_neg c7] at H
   exact absurd H (by simp)

end Go.Proofs.Ytoodkefpkgbjcaa.PPgb
