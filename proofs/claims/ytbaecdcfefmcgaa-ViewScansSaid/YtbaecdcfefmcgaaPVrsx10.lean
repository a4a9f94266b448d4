-- PRINTED by print.py (a twelfth state) out of the translation. Not trusted: Lean checks it.
import Derived.Shelf.SlSorted.Search
import Derived.Test.YtbaecdcfefmcgaaPVrsx0
import Derived.Test.YtbaecdcfefmcgaaPVrsx1
import Derived.Test.YtbaecdcfefmcgaaPVrsx5
import Derived.Test.YtbaecdcfefmcgaaPVrsx7
import Derived.Test.YtbaecdcfefmcgaaPVrsx9
namespace Go.Proofs.Ytbaecdcfefmcgaa.PVrs
open Go.RowKit Go.Proofs.YtbaecdcfefmcgaaW.PrintWords Go.Proofs.YtbaecdcfefmcgaaW.PrintLast Go.Proofs.YtbaecdcfefmcgaaW.PrintMore
attribute [local go_sem] max2_int min2_int max_two min_two max_three min_three max_four min_four   -- for this text's walks alone
set_option linter.unusedVariables false
set_option linter.unusedSimpArgs false

attribute [local go_sem high] eqA82
/-! ### quorumlaw11_ViewScans: function 13 -/
mutual
def quorumlaw11_ViewScans.l0 : Nat → Int → List (S47) → List (S34) → List Int → List ByteArray → List (S74) → List Int → Option (Bool)
 | 0, _, _, _, _, _, _, _ => none
 | k + 1, x3, x263000, x263001, x263002, x263003, x263004, x263005 => if x3 < (x263001.length : Int) then (quorumlaw11_ViewScans.j1 k x3 (decide (x3 < 6)) x263000 x263001 x263002 x263003 x263004 x263005) else (quorumlaw11_ViewScans.j1 k x3 false x263000 x263001 x263002 x263003 x263004 x263005)
def quorumlaw11_ViewScans.j1 : Nat → Int → Bool → List (S47) → List (S34) → List Int → List ByteArray → List (S74) → List Int → Option (Bool)
 | 0, _, _, _, _, _, _, _, _ => none
 | k + 1, x3, x25, x263000, x263001, x263002, x263003, x263004, x263005 => if x25 = true then (quorumlaw11_ViewScans.l1 k x3 0 x263000 x263001 x263002 x263003 x263004 x263005) else ((quorumlaw11_wakes.f k).bind fun t285 => (some t285))
def quorumlaw11_ViewScans.l1 : Nat → Int → Int → List (S47) → List (S34) → List Int → List ByteArray → List (S74) → List Int → Option (Bool)
 | 0, _, _, _, _, _, _, _, _ => none
 | k + 1, x3, x4, x263000, x263001, x263002, x263003, x263004, x263005 => if x4 < (x263000.length : Int) then (quorumlaw11_ViewScans.j3 k x3 x4 (decide (x4 < 3)) x263000 x263001 x263002 x263003 x263004 x263005) else (quorumlaw11_ViewScans.j3 k x3 x4 false x263000 x263001 x263002 x263003 x263004 x263005)
def quorumlaw11_ViewScans.j3 : Nat → Int → Int → Bool → List (S47) → List (S34) → List Int → List ByteArray → List (S74) → List Int → Option (Bool)
 | 0, _, _, _, _, _, _, _, _, _ => none
 | k + 1, x3, x4, x36, x263000, x263001, x263002, x263003, x263004, x263005 => if x36 = true then (if 0 ≤ x3 then (if x3 < (x263001.length : Int) then ((view_Scan.f k x263000 ((rd_T34 x263001 x3).f0) ((rd_T34 x263001 x3).f1) x4 (⟨#[]⟩ : ByteArray) (⟨#[]⟩ : ByteArray) true 4 1073741824 false).bind fun bt265 => ((quorumlaw11_num.f bt265.2).bind fun t269 => (if t269 = 0 then (quorumlaw11_ViewScans.l2 k x3 x4 bt265.1 0 x263000 x263001 x263002 x263003 x263004 x263005) else (quorumlaw11_ViewScans.l1 k x3 (wrap64 (x4 + 1)) x263000 x263001 x263002 x263003 x263004 x263005)))) else (none)) else (none)) else (quorumlaw11_ViewScans.l0 k (wrap64 (x3 + 1)) x263000 x263001 x263002 x263003 x263004 x263005)
def quorumlaw11_ViewScans.l2 : Nat → Int → Int → List (S82) → Int → List (S47) → List (S34) → List Int → List ByteArray → List (S74) → List Int → Option (Bool)
 | 0, _, _, _, _, _, _, _, _, _, _ => none
 | k + 1, x3, x4, x5, x7, x263000, x263001, x263002, x263003, x263004, x263005 => if x7 < (x5.length : Int) then (if 0 ≤ x3 then (if x3 < (x263001.length : Int) then (if 0 ≤ x7 then ((view_Get.f k x263000 ((rd_T34 x263001 x3).f0) ((rd_T34 x263001 x3).f1) x4 ((rd_T82 x5 x7).f0) 4).bind fun bt272 => ((quorumlaw11_num.f bt272.2).bind fun t274 => (if t274 = 0 then (if bt272.1.toList = ((rd_T82 x5 x7).f1).toList then (if x7 > 0 then (if 0 ≤ (wrap64 (x7 - 1)) then (if (wrap64 (x7 - 1)) < (x5.length : Int) then (quorumlaw11_ViewScans.j5 k x3 x4 x5 x7 (!(Op.bytesLess (((rd_T82 x5 (wrap64 (x7 - 1))).f0).toList) (((rd_T82 x5 x7).f0).toList))) x263000 x263001 x263002 x263003 x263004 x263005) else (none)) else (none)) else (quorumlaw11_ViewScans.j5 k x3 x4 x5 x7 false x263000 x263001 x263002 x263003 x263004 x263005)) else (quorumlaw11_ViewScans.j5 k x3 x4 x5 x7 true x263000 x263001 x263002 x263003 x263004 x263005)) else (quorumlaw11_ViewScans.j5 k x3 x4 x5 x7 true x263000 x263001 x263002 x263003 x263004 x263005)))) else (none)) else (none)) else (none)) else (quorumlaw11_ViewScans.l3 k x3 x4 x5 0 x263000 x263001 x263002 x263003 x263004 x263005)
def quorumlaw11_ViewScans.j5 : Nat → Int → Int → List (S82) → Int → Bool → List (S47) → List (S34) → List Int → List ByteArray → List (S74) → List Int → Option (Bool)
 | 0, _, _, _, _, _, _, _, _, _, _, _ => none
 | k + 1, x3, x4, x5, x7, x107, x263000, x263001, x263002, x263003, x263004, x263005 => if x107 = true then (some false) else (quorumlaw11_ViewScans.l2 k x3 x4 x5 (wrap64 (x7 + 1)) x263000 x263001 x263002 x263003 x263004 x263005)
def quorumlaw11_ViewScans.l3 : Nat → Int → Int → List (S82) → Int → List (S47) → List (S34) → List Int → List ByteArray → List (S74) → List Int → Option (Bool)
 | 0, _, _, _, _, _, _, _, _, _, _ => none
 | k + 1, x3, x4, x5, x10, x263000, x263001, x263002, x263003, x263004, x263005 => if x10 < (x263003.length : Int) then (quorumlaw11_ViewScans.j7 k x3 x4 x5 x10 (decide (x10 < 12)) x263000 x263001 x263002 x263003 x263004 x263005) else (quorumlaw11_ViewScans.j7 k x3 x4 x5 x10 false x263000 x263001 x263002 x263003 x263004 x263005)
def quorumlaw11_ViewScans.j7 : Nat → Int → Int → List (S82) → Int → Bool → List (S47) → List (S34) → List Int → List ByteArray → List (S74) → List Int → Option (Bool)
 | 0, _, _, _, _, _, _, _, _, _, _, _ => none
 | k + 1, x3, x4, x5, x10, x116, x263000, x263001, x263002, x263003, x263004, x263005 => if x116 = true then (if 0 ≤ x3 then (if x3 < (x263001.length : Int) then (if 0 ≤ x10 then (if x10 < (x263003.length : Int) then ((view_Get.f k x263000 ((rd_T34 x263001 x3).f0) ((rd_T34 x263001 x3).f1) x4 (rdOf ByteArray.empty x263003 x10) 4).bind fun bt280 => ((quorumlaw11_num.f bt280.2).bind fun t282 => (if t282 = 0 then (quorumlaw11_ViewScans.l4 k x3 x4 x5 x10 bt280.1 false 0 x263000 x263001 x263002 x263003 x263004 x263005) else (quorumlaw11_ViewScans.l3 k x3 x4 x5 (wrap64 (x10 + 1)) x263000 x263001 x263002 x263003 x263004 x263005)))) else (none)) else (none)) else (none)) else (none)) else (quorumlaw11_ViewScans.l1 k x3 (wrap64 (x4 + 1)) x263000 x263001 x263002 x263003 x263004 x263005)
def quorumlaw11_ViewScans.l4 : Nat → Int → Int → List (S82) → Int → ByteArray → Bool → Int → List (S47) → List (S34) → List Int → List ByteArray → List (S74) → List Int → Option (Bool)
 | 0, _, _, _, _, _, _, _, _, _, _, _, _, _ => none
 | k + 1, x3, x4, x5, x10, x11, x13, x14, x263000, x263001, x263002, x263003, x263004, x263005 => if x14 < (x5.length : Int) then (if x13 = true then (quorumlaw11_ViewScans.l4 k x3 x4 x5 x10 x11 true (wrap64 (x14 + 1)) x263000 x263001 x263002 x263003 x263004 x263005) else (if 0 ≤ x14 then (if 0 ≤ x10 then (if x10 < (x263003.length : Int) then (quorumlaw11_ViewScans.l4 k x3 x4 x5 x10 x11 ((((rd_T82 x5 x14).f0).toList) == ((rdOf ByteArray.empty x263003 x10).toList) && ((((rd_T82 x5 x14).f1).toList) == x11.toList)) (wrap64 (x14 + 1)) x263000 x263001 x263002 x263003 x263004 x263005) else (none)) else (none)) else (none))) else (if x13 = true then (quorumlaw11_ViewScans.l3 k x3 x4 x5 (wrap64 (x10 + 1)) x263000 x263001 x263002 x263003 x263004 x263005) else (some false))
end
def quorumlaw11_ViewScans.f (k : Nat) (l0_0 : List (S47)) (l0_1 : List (S34)) (l0_2 : List Int) (l0_3 : List ByteArray) (l0_4 : List (S74)) (l0_5 : List Int) : Option (Bool) := (quorumlaw11_Heavy.f k l0_0 l0_1 l0_2 l0_3 l0_4 l0_5).bind fun t263 => (if t263 = true then (some true) else (quorumlaw11_ViewScans.l0 k 0 l0_0 l0_1 l0_2 l0_3 l0_4 l0_5))
theorem quorumlaw11_ViewScans.mono_l : ∀ k, (∀ y0 y1 y2 y3 y4 y5 y6, LeO (quorumlaw11_ViewScans.l0 k y0 y1 y2 y3 y4 y5 y6) (quorumlaw11_ViewScans.l0 (k + 1) y0 y1 y2 y3 y4 y5 y6)) ∧ (∀ y0 y1 y2 y3 y4 y5 y6 y7, LeO (quorumlaw11_ViewScans.j1 k y0 y1 y2 y3 y4 y5 y6 y7) (quorumlaw11_ViewScans.j1 (k + 1) y0 y1 y2 y3 y4 y5 y6 y7)) ∧ (∀ y0 y1 y2 y3 y4 y5 y6 y7, LeO (quorumlaw11_ViewScans.l1 k y0 y1 y2 y3 y4 y5 y6 y7) (quorumlaw11_ViewScans.l1 (k + 1) y0 y1 y2 y3 y4 y5 y6 y7)) ∧ (∀ y0 y1 y2 y3 y4 y5 y6 y7 y8, LeO (quorumlaw11_ViewScans.j3 k y0 y1 y2 y3 y4 y5 y6 y7 y8) (quorumlaw11_ViewScans.j3 (k + 1) y0 y1 y2 y3 y4 y5 y6 y7 y8)) ∧ (∀ y0 y1 y2 y3 y4 y5 y6 y7 y8 y9, LeO (quorumlaw11_ViewScans.l2 k y0 y1 y2 y3 y4 y5 y6 y7 y8 y9) (quorumlaw11_ViewScans.l2 (k + 1) y0 y1 y2 y3 y4 y5 y6 y7 y8 y9)) ∧ (∀ y0 y1 y2 y3 y4 y5 y6 y7 y8 y9 y10, LeO (quorumlaw11_ViewScans.j5 k y0 y1 y2 y3 y4 y5 y6 y7 y8 y9 y10) (quorumlaw11_ViewScans.j5 (k + 1) y0 y1 y2 y3 y4 y5 y6 y7 y8 y9 y10)) ∧ (∀ y0 y1 y2 y3 y4 y5 y6 y7 y8 y9, LeO (quorumlaw11_ViewScans.l3 k y0 y1 y2 y3 y4 y5 y6 y7 y8 y9) (quorumlaw11_ViewScans.l3 (k + 1) y0 y1 y2 y3 y4 y5 y6 y7 y8 y9)) ∧ (∀ y0 y1 y2 y3 y4 y5 y6 y7 y8 y9 y10, LeO (quorumlaw11_ViewScans.j7 k y0 y1 y2 y3 y4 y5 y6 y7 y8 y9 y10) (quorumlaw11_ViewScans.j7 (k + 1) y0 y1 y2 y3 y4 y5 y6 y7 y8 y9 y10)) ∧ (∀ y0 y1 y2 y3 y4 y5 y6 y7 y8 y9 y10 y11 y12, LeO (quorumlaw11_ViewScans.l4 k y0 y1 y2 y3 y4 y5 y6 y7 y8 y9 y10 y11 y12) (quorumlaw11_ViewScans.l4 (k + 1) y0 y1 y2 y3 y4 y5 y6 y7 y8 y9 y10 y11 y12))
 | 0 => ⟨fun _ _ _ _ _ _ _ r h => by simp [quorumlaw11_ViewScans.l0] at h, fun _ _ _ _ _ _ _ _ r h => by simp [quorumlaw11_ViewScans.j1] at h, fun _ _ _ _ _ _ _ _ r h => by simp [quorumlaw11_ViewScans.l1] at h, fun _ _ _ _ _ _ _ _ _ r h => by simp [quorumlaw11_ViewScans.j3] at h, fun _ _ _ _ _ _ _ _ _ _ r h => by simp [quorumlaw11_ViewScans.l2] at h, fun _ _ _ _ _ _ _ _ _ _ _ r h => by simp [quorumlaw11_ViewScans.j5] at h, fun _ _ _ _ _ _ _ _ _ _ r h => by simp [quorumlaw11_ViewScans.l3] at h, fun _ _ _ _ _ _ _ _ _ _ _ r h => by simp [quorumlaw11_ViewScans.j7] at h, fun _ _ _ _ _ _ _ _ _ _ _ _ _ r h => by simp [quorumlaw11_ViewScans.l4] at h⟩
 | k + 1 => by
  obtain ⟨ih0, ih1, ih2, ih3, ih4, ih5, ih6, ih7, ih8⟩ := quorumlaw11_ViewScans.mono_l k
  refine ⟨?_, ?_, ?_, ?_, ?_, ?_, ?_, ?_, ?_⟩
  ·intro y0 y1 y2 y3 y4 y5 y6
   unfold quorumlaw11_ViewScans.l0
   repeat' first
   | (with_reducible exact ih0 _ _ _ _ _ _ _)
   | (with_reducible exact ih1 _ _ _ _ _ _ _ _)
   | (with_reducible exact ih2 _ _ _ _ _ _ _ _)
   | (with_reducible exact ih3 _ _ _ _ _ _ _ _ _)
   | (with_reducible exact ih4 _ _ _ _ _ _ _ _ _ _)
   | (with_reducible exact ih5 _ _ _ _ _ _ _ _ _ _ _)
   | (with_reducible exact ih6 _ _ _ _ _ _ _ _ _ _)
   | (with_reducible exact ih7 _ _ _ _ _ _ _ _ _ _ _)
   | (with_reducible exact ih8 _ _ _ _ _ _ _ _ _ _ _ _ _)
   | (with_reducible exact quorumlaw11_Heavy.mono _ _ _ _ _ _ _)
   | (with_reducible exact quorumlaw11_wakes.mono _)
   | (with_reducible exact view_Get.mono _ _ _ _ _ _ _)
   | (with_reducible exact view_Scan.mono _ _ _ _ _ _ _ _ _ _ _)
   | (with_reducible exact LeO.refl _)
   | (with_reducible exact LeO.none _)
   | (with_reducible refine LeO.ite ?_ ?_)
   | (with_reducible refine LeO.bind ?_ (fun _ => ?_))
   | exact ih0 _ _ _ _ _ _ _
   | exact ih1 _ _ _ _ _ _ _ _
   | exact ih2 _ _ _ _ _ _ _ _
   | exact ih3 _ _ _ _ _ _ _ _ _
   | exact ih4 _ _ _ _ _ _ _ _ _ _
   | exact ih5 _ _ _ _ _ _ _ _ _ _ _
   | exact ih6 _ _ _ _ _ _ _ _ _ _
   | exact ih7 _ _ _ _ _ _ _ _ _ _ _
   | exact ih8 _ _ _ _ _ _ _ _ _ _ _ _ _
   | exact quorumlaw11_Heavy.mono _ _ _ _ _ _ _
   | exact quorumlaw11_wakes.mono _
   | exact view_Get.mono _ _ _ _ _ _ _
   | exact view_Scan.mono _ _ _ _ _ _ _ _ _ _ _
   | exact LeO.none _
   | refine LeO.ite ?_ ?_
   | refine LeO.bind ?_ (fun _ => ?_)
  ·intro y0 y1 y2 y3 y4 y5 y6 y7
   unfold quorumlaw11_ViewScans.j1
   repeat' first
   | (with_reducible exact ih0 _ _ _ _ _ _ _)
   | (with_reducible exact ih1 _ _ _ _ _ _ _ _)
   | (with_reducible exact ih2 _ _ _ _ _ _ _ _)
   | (with_reducible exact ih3 _ _ _ _ _ _ _ _ _)
   | (with_reducible exact ih4 _ _ _ _ _ _ _ _ _ _)
   | (with_reducible exact ih5 _ _ _ _ _ _ _ _ _ _ _)
   | (with_reducible exact ih6 _ _ _ _ _ _ _ _ _ _)
   | (with_reducible exact ih7 _ _ _ _ _ _ _ _ _ _ _)
   | (with_reducible exact ih8 _ _ _ _ _ _ _ _ _ _ _ _ _)
   | (with_reducible exact quorumlaw11_Heavy.mono _ _ _ _ _ _ _)
   | (with_reducible exact quorumlaw11_wakes.mono _)
   | (with_reducible exact view_Get.mono _ _ _ _ _ _ _)
   | (with_reducible exact view_Scan.mono _ _ _ _ _ _ _ _ _ _ _)
   | (with_reducible exact LeO.refl _)
   | (with_reducible exact LeO.none _)
   | (with_reducible refine LeO.ite ?_ ?_)
   | (with_reducible refine LeO.bind ?_ (fun _ => ?_))
   | exact ih0 _ _ _ _ _ _ _
   | exact ih1 _ _ _ _ _ _ _ _
   | exact ih2 _ _ _ _ _ _ _ _
   | exact ih3 _ _ _ _ _ _ _ _ _
   | exact ih4 _ _ _ _ _ _ _ _ _ _
   | exact ih5 _ _ _ _ _ _ _ _ _ _ _
   | exact ih6 _ _ _ _ _ _ _ _ _ _
   | exact ih7 _ _ _ _ _ _ _ _ _ _ _
   | exact ih8 _ _ _ _ _ _ _ _ _ _ _ _ _
   | exact quorumlaw11_Heavy.mono _ _ _ _ _ _ _
   | exact quorumlaw11_wakes.mono _
   | exact view_Get.mono _ _ _ _ _ _ _
   | exact view_Scan.mono _ _ _ _ _ _ _ _ _ _ _
   | exact LeO.none _
   | refine LeO.ite ?_ ?_
   | refine LeO.bind ?_ (fun _ => ?_)
  ·intro y0 y1 y2 y3 y4 y5 y6 y7
   unfold quorumlaw11_ViewScans.l1
   repeat' first
   | (with_reducible exact ih0 _ _ _ _ _ _ _)
   | (with_reducible exact ih1 _ _ _ _ _ _ _ _)
   | (with_reducible exact ih2 _ _ _ _ _ _ _ _)
   | (with_reducible exact ih3 _ _ _ _ _ _ _ _ _)
   | (with_reducible exact ih4 _ _ _ _ _ _ _ _ _ _)
   | (with_reducible exact ih5 _ _ _ _ _ _ _ _ _ _ _)
   | (with_reducible exact ih6 _ _ _ _ _ _ _ _ _ _)
   | (with_reducible exact ih7 _ _ _ _ _ _ _ _ _ _ _)
   | (with_reducible exact ih8 _ _ _ _ _ _ _ _ _ _ _ _ _)
   | (with_reducible exact quorumlaw11_Heavy.mono _ _ _ _ _ _ _)
   | (with_reducible exact quorumlaw11_wakes.mono _)
   | (with_reducible exact view_Get.mono _ _ _ _ _ _ _)
   | (with_reducible exact view_Scan.mono _ _ _ _ _ _ _ _ _ _ _)
   | (with_reducible exact LeO.refl _)
   | (with_reducible exact LeO.none _)
   | (with_reducible refine LeO.ite ?_ ?_)
   | (with_reducible refine LeO.bind ?_ (fun _ => ?_))
   | exact ih0 _ _ _ _ _ _ _
   | exact ih1 _ _ _ _ _ _ _ _
   | exact ih2 _ _ _ _ _ _ _ _
   | exact ih3 _ _ _ _ _ _ _ _ _
   | exact ih4 _ _ _ _ _ _ _ _ _ _
   | exact ih5 _ _ _ _ _ _ _ _ _ _ _
   | exact ih6 _ _ _ _ _ _ _ _ _ _
   | exact ih7 _ _ _ _ _ _ _ _ _ _ _
   | exact ih8 _ _ _ _ _ _ _ _ _ _ _ _ _
   | exact quorumlaw11_Heavy.mono _ _ _ _ _ _ _
   | exact quorumlaw11_wakes.mono _
   | exact view_Get.mono _ _ _ _ _ _ _
   | exact view_Scan.mono _ _ _ _ _ _ _ _ _ _ _
   | exact LeO.none _
   | refine LeO.ite ?_ ?_
   | refine LeO.bind ?_ (fun _ => ?_)
  ·intro y0 y1 y2 y3 y4 y5 y6 y7 y8
   unfold quorumlaw11_ViewScans.j3
   repeat' first
   | (with_reducible exact ih0 _ _ _ _ _ _ _)
   | (with_reducible exact ih1 _ _ _ _ _ _ _ _)
   | (with_reducible exact ih2 _ _ _ _ _ _ _ _)
   | (with_reducible exact ih3 _ _ _ _ _ _ _ _ _)
   | (with_reducible exact ih4 _ _ _ _ _ _ _ _ _ _)
   | (with_reducible exact ih5 _ _ _ _ _ _ _ _ _ _ _)
   | (with_reducible exact ih6 _ _ _ _ _ _ _ _ _ _)
   | (with_reducible exact ih7 _ _ _ _ _ _ _ _ _ _ _)
   | (with_reducible exact ih8 _ _ _ _ _ _ _ _ _ _ _ _ _)
   | (with_reducible exact quorumlaw11_Heavy.mono _ _ _ _ _ _ _)
   | (with_reducible exact quorumlaw11_wakes.mono _)
   | (with_reducible exact view_Get.mono _ _ _ _ _ _ _)
   | (with_reducible exact view_Scan.mono _ _ _ _ _ _ _ _ _ _ _)
   | (with_reducible exact LeO.refl _)
   | (with_reducible exact LeO.none _)
   | (with_reducible refine LeO.ite ?_ ?_)
   | (with_reducible refine LeO.bind ?_ (fun _ => ?_))
   | exact ih0 _ _ _ _ _ _ _
   | exact ih1 _ _ _ _ _ _ _ _
   | exact ih2 _ _ _ _ _ _ _ _
   | exact ih3 _ _ _ _ _ _ _ _ _
   | exact ih4 _ _ _ _ _ _ _ _ _ _
   | exact ih5 _ _ _ _ _ _ _ _ _ _ _
   | exact ih6 _ _ _ _ _ _ _ _ _ _
   | exact ih7 _ _ _ _ _ _ _ _ _ _ _
   | exact ih8 _ _ _ _ _ _ _ _ _ _ _ _ _
   | exact quorumlaw11_Heavy.mono _ _ _ _ _ _ _
   | exact quorumlaw11_wakes.mono _
   | exact view_Get.mono _ _ _ _ _ _ _
   | exact view_Scan.mono _ _ _ _ _ _ _ _ _ _ _
   | exact LeO.none _
   | refine LeO.ite ?_ ?_
   | refine LeO.bind ?_ (fun _ => ?_)
  ·intro y0 y1 y2 y3 y4 y5 y6 y7 y8 y9
   unfold quorumlaw11_ViewScans.l2
   repeat' first
   | (with_reducible exact ih0 _ _ _ _ _ _ _)
   | (with_reducible exact ih1 _ _ _ _ _ _ _ _)
   | (with_reducible exact ih2 _ _ _ _ _ _ _ _)
   | (with_reducible exact ih3 _ _ _ _ _ _ _ _ _)
   | (with_reducible exact ih4 _ _ _ _ _ _ _ _ _ _)
   | (with_reducible exact ih5 _ _ _ _ _ _ _ _ _ _ _)
   | (with_reducible exact ih6 _ _ _ _ _ _ _ _ _ _)
   | (with_reducible exact ih7 _ _ _ _ _ _ _ _ _ _ _)
   | (with_reducible exact ih8 _ _ _ _ _ _ _ _ _ _ _ _ _)
   | (with_reducible exact quorumlaw11_Heavy.mono _ _ _ _ _ _ _)
   | (with_reducible exact quorumlaw11_wakes.mono _)
   | (with_reducible exact view_Get.mono _ _ _ _ _ _ _)
   | (with_reducible exact view_Scan.mono _ _ _ _ _ _ _ _ _ _ _)
   | (with_reducible exact LeO.refl _)
   | (with_reducible exact LeO.none _)
   | (with_reducible refine LeO.ite ?_ ?_)
   | (with_reducible refine LeO.bind ?_ (fun _ => ?_))
   | exact ih0 _ _ _ _ _ _ _
   | exact ih1 _ _ _ _ _ _ _ _
   | exact ih2 _ _ _ _ _ _ _ _
   | exact ih3 _ _ _ _ _ _ _ _ _
   | exact ih4 _ _ _ _ _ _ _ _ _ _
   | exact ih5 _ _ _ _ _ _ _ _ _ _ _
   | exact ih6 _ _ _ _ _ _ _ _ _ _
   | exact ih7 _ _ _ _ _ _ _ _ _ _ _
   | exact ih8 _ _ _ _ _ _ _ _ _ _ _ _ _
   | exact quorumlaw11_Heavy.mono _ _ _ _ _ _ _
   | exact quorumlaw11_wakes.mono _
   | exact view_Get.mono _ _ _ _ _ _ _
   | exact view_Scan.mono _ _ _ _ _ _ _ _ _ _ _
   | exact LeO.none _
   | refine LeO.ite ?_ ?_
   | refine LeO.bind ?_ (fun _ => ?_)
  ·intro y0 y1 y2 y3 y4 y5 y6 y7 y8 y9 y10
   unfold quorumlaw11_ViewScans.j5
   repeat' first
   | (with_reducible exact ih0 _ _ _ _ _ _ _)
   | (with_reducible exact ih1 _ _ _ _ _ _ _ _)
   | (with_reducible exact ih2 _ _ _ _ _ _ _ _)
   | (with_reducible exact ih3 _ _ _ _ _ _ _ _ _)
   | (with_reducible exact ih4 _ _ _ _ _ _ _ _ _ _)
   | (with_reducible exact ih5 _ _ _ _ _ _ _ _ _ _ _)
   | (with_reducible exact ih6 _ _ _ _ _ _ _ _ _ _)
   | (with_reducible exact ih7 _ _ _ _ _ _ _ _ _ _ _)
   | (with_reducible exact ih8 _ _ _ _ _ _ _ _ _ _ _ _ _)
   | (with_reducible exact quorumlaw11_Heavy.mono _ _ _ _ _ _ _)
   | (with_reducible exact quorumlaw11_wakes.mono _)
   | (with_reducible exact view_Get.mono _ _ _ _ _ _ _)
   | (with_reducible exact view_Scan.mono _ _ _ _ _ _ _ _ _ _ _)
   | (with_reducible exact LeO.refl _)
   | (with_reducible exact LeO.none _)
   | (with_reducible refine LeO.ite ?_ ?_)
   | (with_reducible refine LeO.bind ?_ (fun _ => ?_))
   | exact ih0 _ _ _ _ _ _ _
   | exact ih1 _ _ _ _ _ _ _ _
   | exact ih2 _ _ _ _ _ _ _ _
   | exact ih3 _ _ _ _ _ _ _ _ _
   | exact ih4 _ _ _ _ _ _ _ _ _ _
   | exact ih5 _ _ _ _ _ _ _ _ _ _ _
   | exact ih6 _ _ _ _ _ _ _ _ _ _
   | exact ih7 _ _ _ _ _ _ _ _ _ _ _
   | exact ih8 _ _ _ _ _ _ _ _ _ _ _ _ _
   | exact quorumlaw11_Heavy.mono _ _ _ _ _ _ _
   | exact quorumlaw11_wakes.mono _
   | exact view_Get.mono _ _ _ _ _ _ _
   | exact view_Scan.mono _ _ _ _ _ _ _ _ _ _ _
   | exact LeO.none _
   | refine LeO.ite ?_ ?_
   | refine LeO.bind ?_ (fun _ => ?_)
  ·intro y0 y1 y2 y3 y4 y5 y6 y7 y8 y9
   unfold quorumlaw11_ViewScans.l3
   repeat' first
   | (with_reducible exact ih0 _ _ _ _ _ _ _)
   | (with_reducible exact ih1 _ _ _ _ _ _ _ _)
   | (with_reducible exact ih2 _ _ _ _ _ _ _ _)
   | (with_reducible exact ih3 _ _ _ _ _ _ _ _ _)
   | (with_reducible exact ih4 _ _ _ _ _ _ _ _ _ _)
   | (with_reducible exact ih5 _ _ _ _ _ _ _ _ _ _ _)
   | (with_reducible exact ih6 _ _ _ _ _ _ _ _ _ _)
   | (with_reducible exact ih7 _ _ _ _ _ _ _ _ _ _ _)
   | (with_reducible exact ih8 _ _ _ _ _ _ _ _ _ _ _ _ _)
   | (with_reducible exact quorumlaw11_Heavy.mono _ _ _ _ _ _ _)
   | (with_reducible exact quorumlaw11_wakes.mono _)
   | (with_reducible exact view_Get.mono _ _ _ _ _ _ _)
   | (with_reducible exact view_Scan.mono _ _ _ _ _ _ _ _ _ _ _)
   | (with_reducible exact LeO.refl _)
   | (with_reducible exact LeO.none _)
   | (with_reducible refine LeO.ite ?_ ?_)
   | (with_reducible refine LeO.bind ?_ (fun _ => ?_))
   | exact ih0 _ _ _ _ _ _ _
   | exact ih1 _ _ _ _ _ _ _ _
   | exact ih2 _ _ _ _ _ _ _ _
   | exact ih3 _ _ _ _ _ _ _ _ _
   | exact ih4 _ _ _ _ _ _ _ _ _ _
   | exact ih5 _ _ _ _ _ _ _ _ _ _ _
   | exact ih6 _ _ _ _ _ _ _ _ _ _
   | exact ih7 _ _ _ _ _ _ _ _ _ _ _
   | exact ih8 _ _ _ _ _ _ _ _ _ _ _ _ _
   | exact quorumlaw11_Heavy.mono _ _ _ _ _ _ _
   | exact quorumlaw11_wakes.mono _
   | exact view_Get.mono _ _ _ _ _ _ _
   | exact view_Scan.mono _ _ _ _ _ _ _ _ _ _ _
   | exact LeO.none _
   | refine LeO.ite ?_ ?_
   | refine LeO.bind ?_ (fun _ => ?_)
  ·intro y0 y1 y2 y3 y4 y5 y6 y7 y8 y9 y10
   unfold quorumlaw11_ViewScans.j7
   repeat' first
   | (with_reducible exact ih0 _ _ _ _ _ _ _)
   | (with_reducible exact ih1 _ _ _ _ _ _ _ _)
   | (with_reducible exact ih2 _ _ _ _ _ _ _ _)
   | (with_reducible exact ih3 _ _ _ _ _ _ _ _ _)
   | (with_reducible exact ih4 _ _ _ _ _ _ _ _ _ _)
   | (with_reducible exact ih5 _ _ _ _ _ _ _ _ _ _ _)
   | (with_reducible exact ih6 _ _ _ _ _ _ _ _ _ _)
   | (with_reducible exact ih7 _ _ _ _ _ _ _ _ _ _ _)
   | (with_reducible exact ih8 _ _ _ _ _ _ _ _ _ _ _ _ _)
   | (with_reducible exact quorumlaw11_Heavy.mono _ _ _ _ _ _ _)
   | (with_reducible exact quorumlaw11_wakes.mono _)
   | (with_reducible exact view_Get.mono _ _ _ _ _ _ _)
   | (with_reducible exact view_Scan.mono _ _ _ _ _ _ _ _ _ _ _)
   | (with_reducible exact LeO.refl _)
   | (with_reducible exact LeO.none _)
   | (with_reducible refine LeO.ite ?_ ?_)
   | (with_reducible refine LeO.bind ?_ (fun _ => ?_))
   | exact ih0 _ _ _ _ _ _ _
   | exact ih1 _ _ _ _ _ _ _ _
   | exact ih2 _ _ _ _ _ _ _ _
   | exact ih3 _ _ _ _ _ _ _ _ _
   | exact ih4 _ _ _ _ _ _ _ _ _ _
   | exact ih5 _ _ _ _ _ _ _ _ _ _ _
   | exact ih6 _ _ _ _ _ _ _ _ _ _
   | exact ih7 _ _ _ _ _ _ _ _ _ _ _
   | exact ih8 _ _ _ _ _ _ _ _ _ _ _ _ _
   | exact quorumlaw11_Heavy.mono _ _ _ _ _ _ _
   | exact quorumlaw11_wakes.mono _
   | exact view_Get.mono _ _ _ _ _ _ _
   | exact view_Scan.mono _ _ _ _ _ _ _ _ _ _ _
   | exact LeO.none _
   | refine LeO.ite ?_ ?_
   | refine LeO.bind ?_ (fun _ => ?_)
  ·intro y0 y1 y2 y3 y4 y5 y6 y7 y8 y9 y10 y11 y12
   unfold quorumlaw11_ViewScans.l4
   repeat' first
   | (with_reducible exact ih0 _ _ _ _ _ _ _)
   | (with_reducible exact ih1 _ _ _ _ _ _ _ _)
   | (with_reducible exact ih2 _ _ _ _ _ _ _ _)
   | (with_reducible exact ih3 _ _ _ _ _ _ _ _ _)
   | (with_reducible exact ih4 _ _ _ _ _ _ _ _ _ _)
   | (with_reducible exact ih5 _ _ _ _ _ _ _ _ _ _ _)
   | (with_reducible exact ih6 _ _ _ _ _ _ _ _ _ _)
   | (with_reducible exact ih7 _ _ _ _ _ _ _ _ _ _ _)
   | (with_reducible exact ih8 _ _ _ _ _ _ _ _ _ _ _ _ _)
   | (with_reducible exact quorumlaw11_Heavy.mono _ _ _ _ _ _ _)
   | (with_reducible exact quorumlaw11_wakes.mono _)
   | (with_reducible exact view_Get.mono _ _ _ _ _ _ _)
   | (with_reducible exact view_Scan.mono _ _ _ _ _ _ _ _ _ _ _)
   | (with_reducible exact LeO.refl _)
   | (with_reducible exact LeO.none _)
   | (with_reducible refine LeO.ite ?_ ?_)
   | (with_reducible refine LeO.bind ?_ (fun _ => ?_))
   | exact ih0 _ _ _ _ _ _ _
   | exact ih1 _ _ _ _ _ _ _ _
   | exact ih2 _ _ _ _ _ _ _ _
   | exact ih3 _ _ _ _ _ _ _ _ _
   | exact ih4 _ _ _ _ _ _ _ _ _ _
   | exact ih5 _ _ _ _ _ _ _ _ _ _ _
   | exact ih6 _ _ _ _ _ _ _ _ _ _
   | exact ih7 _ _ _ _ _ _ _ _ _ _ _
   | exact ih8 _ _ _ _ _ _ _ _ _ _ _ _ _
   | exact quorumlaw11_Heavy.mono _ _ _ _ _ _ _
   | exact quorumlaw11_wakes.mono _
   | exact view_Get.mono _ _ _ _ _ _ _
   | exact view_Scan.mono _ _ _ _ _ _ _ _ _ _ _
   | exact LeO.none _
   | refine LeO.ite ?_ ?_
   | refine LeO.bind ?_ (fun _ => ?_)
theorem quorumlaw11_ViewScans.mono : ∀ a0 a1 a2 a3 a4 a5 k, LeO (quorumlaw11_ViewScans.f k a0 a1 a2 a3 a4 a5) (quorumlaw11_ViewScans.f (k + 1) a0 a1 a2 a3 a4 a5) := by
 intro a0 a1 a2 a3 a4 a5 k
 obtain ⟨ih0, ih1, ih2, ih3, ih4, ih5, ih6, ih7, ih8⟩ := quorumlaw11_ViewScans.mono_l k
 unfold quorumlaw11_ViewScans.f
 repeat' first
   | (with_reducible exact ih0 _ _ _ _ _ _ _)
   | (with_reducible exact ih1 _ _ _ _ _ _ _ _)
   | (with_reducible exact ih2 _ _ _ _ _ _ _ _)
   | (with_reducible exact ih3 _ _ _ _ _ _ _ _ _)
   | (with_reducible exact ih4 _ _ _ _ _ _ _ _ _ _)
   | (with_reducible exact ih5 _ _ _ _ _ _ _ _ _ _ _)
   | (with_reducible exact ih6 _ _ _ _ _ _ _ _ _ _)
   | (with_reducible exact ih7 _ _ _ _ _ _ _ _ _ _ _)
   | (with_reducible exact ih8 _ _ _ _ _ _ _ _ _ _ _ _ _)
   | (with_reducible exact quorumlaw11_Heavy.mono _ _ _ _ _ _ _)
   | (with_reducible exact quorumlaw11_wakes.mono _)
   | (with_reducible exact view_Get.mono _ _ _ _ _ _ _)
   | (with_reducible exact view_Scan.mono _ _ _ _ _ _ _ _ _ _ _)
   | (with_reducible exact LeO.refl _)
   | (with_reducible exact LeO.none _)
   | (with_reducible refine LeO.ite ?_ ?_)
   | (with_reducible refine LeO.bind ?_ (fun _ => ?_))
   | exact ih0 _ _ _ _ _ _ _
   | exact ih1 _ _ _ _ _ _ _ _
   | exact ih2 _ _ _ _ _ _ _ _
   | exact ih3 _ _ _ _ _ _ _ _ _
   | exact ih4 _ _ _ _ _ _ _ _ _ _
   | exact ih5 _ _ _ _ _ _ _ _ _ _ _
   | exact ih6 _ _ _ _ _ _ _ _ _ _
   | exact ih7 _ _ _ _ _ _ _ _ _ _ _
   | exact ih8 _ _ _ _ _ _ _ _ _ _ _ _ _
   | exact quorumlaw11_Heavy.mono _ _ _ _ _ _ _
   | exact quorumlaw11_wakes.mono _
   | exact view_Get.mono _ _ _ _ _ _ _
   | exact view_Scan.mono _ _ _ _ _ _ _ _ _ _ _
   | exact LeO.none _
   | refine LeO.ite ?_ ?_
   | refine LeO.bind ?_ (fun _ => ?_)
def quorumlaw11_ViewScans.T9 : Bool × List (List Nat × List Nat) := (true, [([], []), ([0], [0]), ([], []), ([2], [2]), ([], []), ([3, 4], [3, 4]), ([5], [5]), ([], []), ([], []), ([1, 6, 7, 8], [1, 6, 7, 8]), ([9], [9]), ([10], [10]), ([10], [10]), ([11, 9, 0, 1, 2, 3, 4, 5, 6, 7, 8, 9, 10, 11], [11]), ([12, 13, 0, 1, 2, 3, 4, 5, 6, 7, 8, 9, 10, 11, 12, 13], [12])])
def quorumlaw11_ViewScans.B9 : List Nat := [0, 1, 0, 4, 0, 28, 60, 0, 0, 511, 1023, 2047, 2047, 4095, 16383]
theorem quorumlaw11_ViewScans.tab9 : rtab .any (opsOf Try.f13 9) = quorumlaw11_ViewScans.T9 := by kernel_rfl
theorem quorumlaw11_ViewScans.bits9 : waitsOk quorumlaw11_ViewScans.T9.2 quorumlaw11_ViewScans.B9 = true := by kernel_rfl
def quorumlaw11_ViewScans.T14 : Bool × List (List Nat × List Nat) := (true, [([], []), ([0], [0]), ([], []), ([2], [2]), ([], []), ([3, 4], [3, 4]), ([5], [5]), ([], []), ([], []), ([], []), ([8, 9], [8, 9]), ([10], [10]), ([11], [11]), ([1, 6, 7, 12], [1, 6, 7, 12]), ([13], [13]), ([14], [14]), ([14], [14]), ([15, 13, 0, 1, 2, 3, 4, 5, 6, 7, 8, 9, 10, 11, 12, 13, 14, 15], [15]), ([16, 17, 0, 1, 2, 3, 4, 5, 6, 7, 8, 9, 10, 11, 12, 13, 14, 15, 16, 17], [16])])
def quorumlaw11_ViewScans.B14 : List Nat := [0, 1, 0, 4, 0, 28, 60, 0, 0, 0, 768, 1792, 3840, 8191, 16383, 32767, 32767, 65535, 262143]
theorem quorumlaw11_ViewScans.tab14 : rtab .any (opsOf Try.f13 14) = quorumlaw11_ViewScans.T14 := by kernel_rfl
theorem quorumlaw11_ViewScans.bits14 : waitsOk quorumlaw11_ViewScans.T14.2 quorumlaw11_ViewScans.B14 = true := by kernel_rfl
def quorumlaw11_ViewScans.T15 : Bool × List (List Nat × List Nat) := (true, [([], []), ([0], [0]), ([1], [1]), ([2, 1], [2]), ([3], [3]), ([3], [3]), ([3], [3]), ([5, 6, 3], [3, 5, 6]), ([7, 3], [3, 7]), ([8, 3], [3, 8]), ([4, 9, 3], [3, 4, 9]), ([3, 10], [3, 10]), ([11, 3], [11]), ([12], [12]), ([13, 12], [12, 13]), ([14, 12, 12], [12, 14]), ([15], [15]), ([15], [15]), ([17, 15], [15, 17]), ([16, 18, 15], [15, 16, 18]), ([19, 15], [15, 19]), ([20, 15], [15, 20]), ([15], [15]), ([15], [15]), ([22, 23, 15], [15, 22, 23]), ([24, 15], [15, 24]), ([25, 15], [15, 25]), ([21, 26, 15], [15, 21, 26]), ([15, 27, 12], [12, 15, 27]), ([12, 28], [12, 28])])
def quorumlaw11_ViewScans.B15 : List Nat := [0, 1, 3, 7, 15, 15, 15, 111, 239, 495, 1023, 2047, 4095, 8191, 16383, 32767, 65535, 65535, 196607, 524287, 1048575, 2097151, 65535, 65535, 12648447, 29425663, 62980095, 134217727, 268435455, 536870911]
theorem quorumlaw11_ViewScans.tab15 : rtab .any (opsOf Try.f13 15) = quorumlaw11_ViewScans.T15 := by kernel_rfl
theorem quorumlaw11_ViewScans.bits15 : waitsOk quorumlaw11_ViewScans.T15.2 quorumlaw11_ViewScans.B15 = true := by kernel_rfl
def quorumlaw11_ViewScans.T20 : Bool × List (List Nat × List Nat) := (true, [([], []), ([0], [0]), ([], []), ([2], [2]), ([], []), ([3, 4], [3, 4]), ([5], [5]), ([], []), ([], []), ([8], [8]), ([], []), ([9, 10], [9, 10]), ([11], [11]), ([1, 6, 7, 12], [1, 6, 7, 12]), ([13], [13]), ([14], [14]), ([14], [14]), ([15, 13, 0, 1, 2, 3, 4, 5, 6, 7, 8, 9, 10, 11, 12, 13, 14, 15], [15]), ([16, 17, 0, 1, 2, 3, 4, 5, 6, 7, 8, 9, 10, 11, 12, 13, 14, 15, 16, 17], [16])])
def quorumlaw11_ViewScans.B20 : List Nat := [0, 1, 0, 4, 0, 28, 60, 0, 0, 256, 0, 1792, 3840, 8191, 16383, 32767, 32767, 65535, 262143]
theorem quorumlaw11_ViewScans.tab20 : rtab .any (opsOf Try.f13 20) = quorumlaw11_ViewScans.T20 := by kernel_rfl
theorem quorumlaw11_ViewScans.bits20 : waitsOk quorumlaw11_ViewScans.T20.2 quorumlaw11_ViewScans.B20 = true := by kernel_rfl
def quorumlaw11_ViewScans.T26 : Bool × List (List Nat × List Nat) := (true, [([], []), ([0], [0]), ([1], [1]), ([1], [1]), ([2, 3, 1], [1, 2, 3]), ([4, 1], [1, 4]), ([1], [1]), ([6, 1], [1, 6]), ([1], [1]), ([7, 8, 1], [1, 7, 8]), ([9, 1], [1, 9]), ([1], [1]), ([10, 11, 1], [1, 10, 11]), ([5, 12, 1], [1, 5, 12]), ([1, 13], [1, 13]), ([14, 1, 0, 1, 2, 3, 4, 5, 6, 7, 8, 9, 10, 11, 12, 13, 14], [0, 14])])
def quorumlaw11_ViewScans.B26 : List Nat := [0, 1, 3, 3, 15, 31, 3, 67, 3, 451, 963, 3, 4035, 8191, 16383, 32767]
theorem quorumlaw11_ViewScans.tab26 : rtab .any (opsOf Try.f13 26) = quorumlaw11_ViewScans.T26 := by kernel_rfl
theorem quorumlaw11_ViewScans.bits26 : waitsOk quorumlaw11_ViewScans.T26.2 quorumlaw11_ViewScans.B26 = true := by kernel_rfl
set_option maxHeartbeats 8000000 in
set_option maxRecDepth 100000 in
theorem quorumlaw11_ViewScans.calls (k : Nat) (A0_0 : Option Addr) (c0_0 : Nat) (l0_0 : List (S47)) (A0_1 : Option Addr) (c0_1 : Nat) (l0_1 : List (S34)) (A0_2 : Option Addr) (c0_2 : Nat) (l0_2 : List Int) (A0_3 : Option Addr) (c0_3 : Nat) (l0_3 : List ByteArray) (A0_4 : Option Addr) (c0_4 : Nat) (l0_4 : List (S74)) (A0_5 : Option Addr) (c0_5 : Nat) (l0_5 : List Int) (r : Bool) (w : World) (hr0_0 : Kd.C k47 w A0_0 l0_0.length l0_0) (hc0_0 : l0_0.length ≤ c0_0) (hr0_1 : Kd.C k34 w A0_1 l0_1.length l0_1) (hc0_1 : l0_1.length ≤ c0_1) (hr0_2 : Kd.C (Kd.int .i64) w A0_2 l0_2.length l0_2) (hc0_2 : l0_2.length ≤ c0_2) (hr0_3 : Kd.C Kd.string w A0_3 l0_3.length l0_3) (hc0_3 : l0_3.length ≤ c0_3) (hr0_4 : Kd.C k74 w A0_4 l0_4.length l0_4) (hc0_4 : l0_4.length ≤ c0_4) (hr0_5 : Kd.C (Kd.int .i64) w A0_5 l0_5.length l0_5) (hc0_5 : l0_5.length ≤ c0_5) (h : quorumlaw11_ViewScans.f k l0_0 l0_1 l0_2 l0_3 l0_4 l0_5 = some r) :
  Calls Try.prog 13 #[.agg #[.slice A0_0 l0_0.length c0_0, .slice A0_1 l0_1.length c0_1, .slice A0_2 l0_2.length c0_2, .slice A0_3 l0_3.length c0_3, .slice A0_4 l0_4.length c0_4, .slice A0_5 l0_5.length c0_5]] w fun e w' => e = .returned (.bool r) ∧ Below w.heap.size w w' := by
 have hu28 := Try.underlying28
 have hu34 := Try.underlying34
 have hu74 := Try.underlying74
 have hu82 := Try.underlying82
 have HR0_0 := mk0 hr0_0
 have HC0_0 := mk0 hc0_0
 clear hr0_0 hc0_0
 have HR0_1 := mk0 hr0_1
 have HC0_1 := mk0 hc0_1
 clear hr0_1 hc0_1
 have HR0_2 := mk0 hr0_2
 have HC0_2 := mk0 hc0_2
 clear hr0_2 hc0_2
 have HR0_3 := mk0 hr0_3
 have HC0_3 := mk0 hc0_3
 clear hr0_3 hc0_3
 have HR0_4 := mk0 hr0_4
 have HC0_4 := mk0 hc0_4
 clear hr0_4 hc0_4
 have HR0_5 := mk0 hr0_5
 have HC0_5 := mk0 hc0_5
 clear hr0_5 hc0_5
 have HB := mk0 (Below.refl w.heap.size w)
 have H : ((quorumlaw11_Heavy.f k l0_0 l0_1 l0_2 l0_3 l0_4 l0_5).bind fun t263 => (if t263 = true then (some true) else (quorumlaw11_ViewScans.l0 k 0 l0_0 l0_1 l0_2 l0_3 l0_4 l0_5))) = some r := h
 clear h
 replace H := Option.bind_eq_some_iff.mp H
 obtain ⟨t263, A20, H⟩ := H
 try dsimp only at H
 have A2 := mk0 A20
 clear A20
 by_cases c3 : t263 = true
 ·subst c3
  rw [if_pos rfl] at H
  obtain rfl := Option.some.inj H
  go_enter Try.func13, Try.ntmps13
  go_wp2_with (first | ((with_reducible refine gate_dst (N := 1) rfl ?_); refine bx_ (N := 1) (cs := #[.slice A0_0 l0_0.length c0_0, .slice A0_1 l0_1.length c0_1, .slice A0_2 l0_2.length c0_2, .slice A0_3 l0_3.length c0_3, .slice A0_4 l0_4.length c0_4, .slice A0_5 l0_5.length c0_5]) (t := 28) (h := ?_); intro gb262 hg w4 hbox hb; have n2_ := mk0 (gz_ HB hg); have n3_ := mk0 (gz_ HB hg); replace HB := mk0 (bt_ (b_ HB) hb); have BK262 := mk0 (hbox); have GW262 := n2_; have GE262 := n3_; clear n2_ n3_ hb hbox hg; obtain ⟨hcz5_0, hcz5_1, hcz5_2, hcz5_3, hcz5_4, hcz5_5, hfz5_0, hfz5_1, hfz5_2, hfz5_3, hfz5_4, hfz5_5⟩ := c6_ BK262) | ((with_reducible refine gate_callee (f := 14) rfl ?_); refine gL_ (some 16) Try.func14 #[.agg #[.slice A0_0 l0_0.length c0_0, .slice A0_1 l0_1.length c0_1, .slice A0_2 l0_2.length c0_2, .slice A0_3 l0_3.length c0_3, .slice A0_4 l0_4.length c0_4, .slice A0_5 l0_5.length c0_5]] (h := ?_); (with_reducible refine (quorumlaw11_Heavy.calls k _ _ l0_0 _ _ l0_1 _ _ l0_2 _ _ l0_3 _ _ l0_4 _ _ l0_5 true _ ?side1 ?side2 ?side3 ?side4 ?side5 ?side6 ?side7 ?side8 ?side9 ?side10 ?side11 ?side12 A2.out).mono ?_); (case side1 => exact cb_ HR0_0 HB); (case side2 => exact HC0_0.out); (case side3 => exact cb_ HR0_1 HB); (case side4 => exact HC0_1.out); (case side5 => exact cb_ HR0_2 HB); (case side6 => exact HC0_2.out); (case side7 => exact cb_ HR0_3 HB); (case side8 => exact HC0_3.out); (case side9 => exact cb_ HR0_4 HB); (case side10 => exact HC0_4.out); (case side11 => exact cb_ HR0_5 HB); (case side12 => exact HC0_5.out); rintro e w6 ⟨rfl, hb⟩; refine ⟨_, rfl, ?_⟩; replace BK262 := mk0 (u_ BK262 hb); replace HB := mk0 (bt_ (b_ HB) hb); (try clear hb)))
  go_ret
  exact ⟨by first | rfl | (simp [errW_none, errW_some] <;> rfl) | (simp [*, errW_none, errW_some] <;> rfl), b_ HB⟩
 ·replace c3 := Bool.eq_false_iff.mpr c3
  subst c3
  rw [if_neg (show ¬ (false = true) by decide)] at H
  have H' := mk0 H
  clear H
  go_enter Try.func13, Try.ntmps13
  go_wp2_with (first | ((with_reducible refine gate_dst (N := 1) rfl ?_); refine bx_ (N := 1) (cs := #[.slice A0_0 l0_0.length c0_0, .slice A0_1 l0_1.length c0_1, .slice A0_2 l0_2.length c0_2, .slice A0_3 l0_3.length c0_3, .slice A0_4 l0_4.length c0_4, .slice A0_5 l0_5.length c0_5]) (t := 28) (h := ?_); intro gb262 hg w7 hbox hb; have n2_ := mk0 (gz_ HB hg); have n3_ := mk0 (gz_ HB hg); replace HB := mk0 (bt_ (b_ HB) hb); have BK262 := mk0 (hbox); have GW262 := n2_; have GE262 := n3_; clear n2_ n3_ hb hbox hg; obtain ⟨hcz8_0, hcz8_1, hcz8_2, hcz8_3, hcz8_4, hcz8_5, hfz8_0, hfz8_1, hfz8_2, hfz8_3, hfz8_4, hfz8_5⟩ := c6_ BK262) | ((with_reducible refine gate_callee (f := 14) rfl ?_); refine gL_ (some 16) Try.func14 #[.agg #[.slice A0_0 l0_0.length c0_0, .slice A0_1 l0_1.length c0_1, .slice A0_2 l0_2.length c0_2, .slice A0_3 l0_3.length c0_3, .slice A0_4 l0_4.length c0_4, .slice A0_5 l0_5.length c0_5]] (h := ?_); (with_reducible refine (quorumlaw11_Heavy.calls k _ _ l0_0 _ _ l0_1 _ _ l0_2 _ _ l0_3 _ _ l0_4 _ _ l0_5 false _ ?side1 ?side2 ?side3 ?side4 ?side5 ?side6 ?side7 ?side8 ?side9 ?side10 ?side11 ?side12 A2.out).mono ?_); (case side1 => exact cb_ HR0_0 HB); (case side2 => exact HC0_0.out); (case side3 => exact cb_ HR0_1 HB); (case side4 => exact HC0_1.out); (case side5 => exact cb_ HR0_2 HB); (case side6 => exact HC0_2.out); (case side7 => exact cb_ HR0_3 HB); (case side8 => exact HC0_3.out); (case side9 => exact cb_ HR0_4 HB); (case side10 => exact HC0_4.out); (case side11 => exact cb_ HR0_5 HB); (case side12 => exact HC0_5.out); rintro e w9 ⟨rfl, hb⟩; refine ⟨_, rfl, ?_⟩; replace BK262 := mk0 (u_ BK262 hb); replace HB := mk0 (bt_ (b_ HB) hb); (try clear hb)))
  go_loopg [3] k (fun kq v3 w' => ∃ (x3_1 : Int), v3 = .int .i64 x3_1 ∧ Fc (quorumlaw11_ViewScans.l0 kq x3_1 l0_0 l0_1 l0_2 l0_3 l0_4 l0_5 = some r) ∧ Fc (kq ≤ k) ∧ Fc (w'.heap[gb262]? = some (.cells #[(.slice A0_0 l0_0.length c0_0), (.slice A0_1 l0_1.length c0_1), (.slice A0_2 l0_2.length c0_2), (.slice A0_3 l0_3.length c0_3), (.slice A0_4 l0_4.length c0_4), (.slice A0_5 l0_5.length c0_5)] 28 (0, 0))) ∧ Fc (Below w.heap.size w w'))
  case atStart => exact ⟨(0), (by first | rfl | (simp; done) | (simp [*]; done)), H', ⟨Nat.le_refl _⟩, ⟨h_ BK262⟩, ⟨b_ HB⟩⟩
  case round =>
   clear H'
   try clear c3
   try clear hcz5_0
   try clear hcz5_1
   try clear hcz5_2
   try clear hcz5_3
   try clear hcz5_4
   try clear hcz5_5
   try clear hcz8_0
   try clear hcz8_1
   try clear hcz8_2
   try clear hcz8_3
   try clear hcz8_4
   try clear hcz8_5
   try clear hfz5_0
   try clear hfz5_1
   try clear hfz5_2
   try clear hfz5_3
   try clear hfz5_4
   try clear hfz5_5
   try clear hfz8_0
   try clear hfz8_1
   try clear hfz8_2
   try clear hfz8_3
   try clear hfz8_4
   try clear hfz8_5
   obtain ⟨x3_1, rfl, HA, HK1, BK262, HB⟩ := hrel
   cases gk with
   | zero => exact absurd HA.out (by simp [quorumlaw11_ViewScans.l0])
   | succ k1 =>
    have H := HA.out
    clear HA
    simp only [quorumlaw11_ViewScans.l0] at H
    as_aux_lemma =>
     have HC10 := mk0 H
     clear H
     go_upto_region 4 with (fail)
     go_cut [25] (fun v25 wc => ∃ (kq : Nat) (x25_9 : Bool), v25 = .bool x25_9 ∧ Fc (quorumlaw11_ViewScans.j1 kq x3_1 x25_9 l0_0 l0_1 l0_2 l0_3 l0_4 l0_5 = some r) ∧ Fc (kq ≤ k1) ∧ Fc (wc.heap[gb262]? = some (.cells #[(.slice A0_0 l0_0.length c0_0), (.slice A0_1 l0_1.length c0_1), (.slice A0_2 l0_2.length c0_2), (.slice A0_3 l0_3.length c0_3), (.slice A0_4 l0_4.length c0_4), (.slice A0_5 l0_5.length c0_5)] 28 (0, 0))) ∧ Fc (Below w.heap.size w wc))
     case first =>
      have H := HC10.out
      clear HC10
      by_cases c11 : x3_1 < (l0_1.length : Int)
      ·rw [if_pos c11] at H
       have c11b0 : decide (x3_1 < (l0_1.length : Int)) = true := decide_eq_true c11
       clear c11
       (first | rw [c11b0] | (simp only [i64_w, i32_w]; rw [c11b0]) | skip)
       have H' := mk0 H
       clear H
       obtain ⟨hcz12_0, hcz12_1, hcz12_2, hcz12_3, hcz12_4, hcz12_5, hfz12_0, hfz12_1, hfz12_2, hfz12_3, hfz12_4, hfz12_5⟩ := c6_ BK262
       go_wp2
       go_meet
       case rel => exact ⟨_, (decide (x3_1 < 6)), (by first | rfl | (simp; done) | (simp [*]; done)), H', ⟨by have := HK1.out; first | omega | exact Nat.le_refl _⟩, ⟨h_ BK262⟩, ⟨b_ HB⟩⟩
      ·rw [if_neg c11] at H
       have c11b0 : decide (x3_1 < (l0_1.length : Int)) = false := decide_eq_false c11
       clear c11
       (first | rw [c11b0] | (simp only [i64_w, i32_w]; rw [c11b0]) | skip)
       have H' := mk0 H
       clear H
       obtain ⟨hcz13_0, hcz13_1, hcz13_2, hcz13_3, hcz13_4, hcz13_5, hfz13_0, hfz13_1, hfz13_2, hfz13_3, hfz13_4, hfz13_5⟩ := c6_ BK262
       go_wp2
       go_meet
       case rel => exact ⟨_, (false), (by first | rfl | (simp; done) | (simp [*]; done)), H', ⟨by have := HK1.out; first | omega | exact Nat.le_refl _⟩, ⟨h_ BK262⟩, ⟨b_ HB⟩⟩
     case rest =>
      clear HC10
      try clear c3
      try clear c11
      try clear c11b0
      try clear hcz12_0
      try clear hcz12_1
      try clear hcz12_2
      try clear hcz12_3
      try clear hcz12_4
      try clear hcz12_5
      try clear hcz13_0
      try clear hcz13_1
      try clear hcz13_2
      try clear hcz13_3
      try clear hcz13_4
      try clear hcz13_5
      try clear hcz5_0
      try clear hcz5_1
      try clear hcz5_2
      try clear hcz5_3
      try clear hcz5_4
      try clear hcz5_5
      try clear hcz8_0
      try clear hcz8_1
      try clear hcz8_2
      try clear hcz8_3
      try clear hcz8_4
      try clear hcz8_5
      try clear hfz12_0
      try clear hfz12_1
      try clear hfz12_2
      try clear hfz12_3
      try clear hfz12_4
      try clear hfz12_5
      try clear hfz13_0
      try clear hfz13_1
      try clear hfz13_2
      try clear hfz13_3
      try clear hfz13_4
      try clear hfz13_5
      try clear hfz5_0
      try clear hfz5_1
      try clear hfz5_2
      try clear hfz5_3
      try clear hfz5_4
      try clear hfz5_5
      try clear hfz8_0
      try clear hfz8_1
      try clear hfz8_2
      try clear hfz8_3
      try clear hfz8_4
      try clear hfz8_5
      obtain ⟨kq, x25_9, rfl, HA, HJ9, BK262, HB⟩ := hcut
      cases kq with
      | zero => exact absurd HA.out (by simp [quorumlaw11_ViewScans.j1])
      | succ kj9 =>
       have H := HA.out
       clear HA
       simp only [quorumlaw11_ViewScans.j1] at H
       as_aux_lemma =>
        by_cases c14 : x25_9 = true
        ·subst c14
         rw [if_pos rfl] at H
         have H' := mk0 H
         clear H
         go_wp2
         go_loopg [4] kj9 (fun kq v4 w' => ∃ (x4_3 : Int), v4 = .int .i64 x4_3 ∧ Fc (quorumlaw11_ViewScans.l1 kq x3_1 x4_3 l0_0 l0_1 l0_2 l0_3 l0_4 l0_5 = some r) ∧ Fc (kq ≤ kj9) ∧ Fc (w'.heap[gb262]? = some (.cells #[(.slice A0_0 l0_0.length c0_0), (.slice A0_1 l0_1.length c0_1), (.slice A0_2 l0_2.length c0_2), (.slice A0_3 l0_3.length c0_3), (.slice A0_4 l0_4.length c0_4), (.slice A0_5 l0_5.length c0_5)] 28 (0, 0))) ∧ Fc (Below w.heap.size w w'))
         case atStart => exact ⟨(0), (by first | rfl | (simp; done) | (simp [*]; done)), H', ⟨Nat.le_refl _⟩, ⟨h_ BK262⟩, ⟨b_ HB⟩⟩
         case round =>
          clear H'
          try clear c3
          try clear c11
          try clear c11b0
          try clear c14
          try clear hcz12_0
          try clear hcz12_1
          try clear hcz12_2
          try clear hcz12_3
          try clear hcz12_4
          try clear hcz12_5
          try clear hcz13_0
          try clear hcz13_1
          try clear hcz13_2
          try clear hcz13_3
          try clear hcz13_4
          try clear hcz13_5
          try clear hcz5_0
          try clear hcz5_1
          try clear hcz5_2
          try clear hcz5_3
          try clear hcz5_4
          try clear hcz5_5
          try clear hcz8_0
          try clear hcz8_1
          try clear hcz8_2
          try clear hcz8_3
          try clear hcz8_4
          try clear hcz8_5
          try clear hfz12_0
          try clear hfz12_1
          try clear hfz12_2
          try clear hfz12_3
          try clear hfz12_4
          try clear hfz12_5
          try clear hfz13_0
          try clear hfz13_1
          try clear hfz13_2
          try clear hfz13_3
          try clear hfz13_4
          try clear hfz13_5
          try clear hfz5_0
          try clear hfz5_1
          try clear hfz5_2
          try clear hfz5_3
          try clear hfz5_4
          try clear hfz5_5
          try clear hfz8_0
          try clear hfz8_1
          try clear hfz8_2
          try clear hfz8_3
          try clear hfz8_4
          try clear hfz8_5
          obtain ⟨x4_3, rfl, HA, HK3, BK262, HB⟩ := hrel
          cases gk with
          | zero => exact absurd HA.out (by simp [quorumlaw11_ViewScans.l1])
          | succ k3 =>
           have H := HA.out
           clear HA
           simp only [quorumlaw11_ViewScans.l1] at H
           as_aux_lemma =>
            have HC15 := mk0 H
            clear H
            go_upto_region 7 with (fail)
            go_cut [36] (fun v36 wc => ∃ (kq : Nat) (x36_14 : Bool), v36 = .bool x36_14 ∧ Fc (quorumlaw11_ViewScans.j3 kq x3_1 x4_3 x36_14 l0_0 l0_1 l0_2 l0_3 l0_4 l0_5 = some r) ∧ Fc (kq ≤ k3) ∧ Fc (wc.heap[gb262]? = some (.cells #[(.slice A0_0 l0_0.length c0_0), (.slice A0_1 l0_1.length c0_1), (.slice A0_2 l0_2.length c0_2), (.slice A0_3 l0_3.length c0_3), (.slice A0_4 l0_4.length c0_4), (.slice A0_5 l0_5.length c0_5)] 28 (0, 0))) ∧ Fc (Below w.heap.size w wc))
            case first =>
             have H := HC15.out
             clear HC15
             by_cases c16 : x4_3 < (l0_0.length : Int)
             ·rw [if_pos c16] at H
              have c16b0 : decide (x4_3 < (l0_0.length : Int)) = true := decide_eq_true c16
              clear c16
              (first | rw [c16b0] | (simp only [i64_w, i32_w]; rw [c16b0]) | skip)
              have H' := mk0 H
              clear H
              obtain ⟨hcz17_0, hcz17_1, hcz17_2, hcz17_3, hcz17_4, hcz17_5, hfz17_0, hfz17_1, hfz17_2, hfz17_3, hfz17_4, hfz17_5⟩ := c6_ BK262
              go_wp2
              go_meet
              case rel => exact ⟨_, (decide (x4_3 < 3)), (by first | rfl | (simp; done) | (simp [*]; done)), H', ⟨by have := HK1.out; have := HJ9.out; have := HK3.out; first | omega | exact Nat.le_refl _⟩, ⟨h_ BK262⟩, ⟨b_ HB⟩⟩
             ·rw [if_neg c16] at H
              have c16b0 : decide (x4_3 < (l0_0.length : Int)) = false := decide_eq_false c16
              clear c16
              (first | rw [c16b0] | (simp only [i64_w, i32_w]; rw [c16b0]) | skip)
              have H' := mk0 H
              clear H
              obtain ⟨hcz18_0, hcz18_1, hcz18_2, hcz18_3, hcz18_4, hcz18_5, hfz18_0, hfz18_1, hfz18_2, hfz18_3, hfz18_4, hfz18_5⟩ := c6_ BK262
              go_wp2
              go_meet
              case rel => exact ⟨_, (false), (by first | rfl | (simp; done) | (simp [*]; done)), H', ⟨by have := HK1.out; have := HJ9.out; have := HK3.out; first | omega | exact Nat.le_refl _⟩, ⟨h_ BK262⟩, ⟨b_ HB⟩⟩
            case rest =>
             clear HC15
             try clear c3
             try clear c11
             try clear c11b0
             try clear c14
             try clear c16
             try clear c16b0
             try clear hcz12_0
             try clear hcz12_1
             try clear hcz12_2
             try clear hcz12_3
             try clear hcz12_4
             try clear hcz12_5
             try clear hcz13_0
             try clear hcz13_1
             try clear hcz13_2
             try clear hcz13_3
             try clear hcz13_4
             try clear hcz13_5
             try clear hcz17_0
             try clear hcz17_1
             try clear hcz17_2
             try clear hcz17_3
             try clear hcz17_4
             try clear hcz17_5
             try clear hcz18_0
             try clear hcz18_1
             try clear hcz18_2
             try clear hcz18_3
             try clear hcz18_4
             try clear hcz18_5
             try clear hcz5_0
             try clear hcz5_1
             try clear hcz5_2
             try clear hcz5_3
             try clear hcz5_4
             try clear hcz5_5
             try clear hcz8_0
             try clear hcz8_1
             try clear hcz8_2
             try clear hcz8_3
             try clear hcz8_4
             try clear hcz8_5
             try clear hfz12_0
             try clear hfz12_1
             try clear hfz12_2
             try clear hfz12_3
             try clear hfz12_4
             try clear hfz12_5
             try clear hfz13_0
             try clear hfz13_1
             try clear hfz13_2
             try clear hfz13_3
             try clear hfz13_4
             try clear hfz13_5
             try clear hfz17_0
             try clear hfz17_1
             try clear hfz17_2
             try clear hfz17_3
             try clear hfz17_4
             try clear hfz17_5
             try clear hfz18_0
             try clear hfz18_1
             try clear hfz18_2
             try clear hfz18_3
             try clear hfz18_4
             try clear hfz18_5
             try clear hfz5_0
             try clear hfz5_1
             try clear hfz5_2
             try clear hfz5_3
             try clear hfz5_4
             try clear hfz5_5
             try clear hfz8_0
             try clear hfz8_1
             try clear hfz8_2
             try clear hfz8_3
             try clear hfz8_4
             try clear hfz8_5
             obtain ⟨kq, x36_14, rfl, HA, HJ14, BK262, HB⟩ := hcut
             cases kq with
             | zero => exact absurd HA.out (by simp [quorumlaw11_ViewScans.j3])
             | succ kj14 =>
              have H := HA.out
              clear HA
              simp only [quorumlaw11_ViewScans.j3] at H
              as_aux_lemma =>
               by_cases c19 : x36_14 = true
               ·subst c19
                rw [if_pos rfl] at H
                by_cases c20 : 0 ≤ x3_1
                ·rw [if_pos c20] at H
                 have c20b0 : decide (0 ≤ x3_1) = true := decide_eq_true c20
                 clear c20
                 by_cases c21 : x3_1 < (l0_1.length : Int)
                 ·rw [if_pos c21] at H
                  have c21b0 : decide (x3_1 < (l0_1.length : Int)) = true := decide_eq_true c21
                  clear c21
                  replace H := Option.bind_eq_some_iff.mp H
                  obtain ⟨⟨t265, t268⟩, A220, H⟩ := H
                  try dsimp only at H
                  have A22 := mk0 A220
                  clear A220
                  replace H := Option.bind_eq_some_iff.mp H
                  obtain ⟨t269, A230, H⟩ := H
                  try dsimp only at H
                  have A23 := mk0 A230
                  clear A230
                  by_cases c24 : t269 = 0
                  ·rw [if_pos c24] at H
                   have c24b0 : (t269 == 0) = true := beq_iff_eq.mpr c24
                   have c24b1 : (t269 != 0) = false := bne_eq_false_iff_eq.mpr c24
                   clear c24
                   have H' := mk0 H
                   clear H
                   try go_wp2
                   replace BK262 := mk0 (bD_ BK262.out)
                   replace HB := mk0 (b1_ HB.out)
                   have p264 : 0 ≤ (x3_1 : Int) := of_decide_eq_true (by first | (with_reducible assumption) | assumption)
                   have q264 : x3_1 < (l0_1.length : Int) := of_decide_eq_true (by first | (with_reducible assumption) | assumption)
                   obtain ⟨ad264, A264_0, c264_0, A264_1, c264_1, e264, hx264_0, hx264_1, hl264_0, hi264_0, hl264_1, hi264_1⟩ := at_T34 HR0_1.out x3_1 p264 q264
                   have hw264_1 := hx264_1
                   have hw264_0 := hx264_0
                   cases e264
                   replace hx264_0 := (bc_ HB hx264_0 :)
                   replace hx264_1 := (bc_ HB hx264_1 :)
                   have HR264_0 := mk0 hi264_0
                   have HC264_0 := mk0 hl264_0
                   clear hi264_0 hl264_0
                   have HR264_1 := mk0 hi264_1
                   have HC264_1 := mk0 hl264_1
                   clear hi264_1 hl264_1
                   replace p264 := eq_true p264
                   replace q264 := eq_true q264
                   refine start_ (n := 15) (S := fun w' => w'.cell? ⟨gb262, 0, none⟩ = some (.slice A0_0 l0_0.length c0_0) ∧ w'.cell? ⟨gb262, 1, none⟩ = some (.slice (some ad264) l0_1.length c0_1) ∧ w'.cell? ⟨gb262, 2, none⟩ = some (.slice A0_2 l0_2.length c0_2) ∧ w'.cell? ⟨gb262, 3, none⟩ = some (.slice A0_3 l0_3.length c0_3) ∧ w'.cell? ⟨gb262, 4, none⟩ = some (.slice A0_4 l0_4.length c0_4) ∧ w'.cell? ⟨gb262, 5, none⟩ = some (.slice A0_5 l0_5.length c0_5) ∧ w'.cell? (ad264.add ((x3_1).toNat * 2)) = some (.slice A264_0 ((rd_T34 l0_1 x3_1).f0).length c264_0) ∧ w'.cell? ⟨(ad264.add ((x3_1).toNat * 2)).block, (ad264.add ((x3_1).toNat * 2)).off + 1, none⟩ = some (.slice A264_1 ((rd_T34 l0_1 x3_1).f1).length c264_1)) (ds := []) (bt 15 0) (by kernel_rfl) rfl rfl ⟨bk_ BK262 0, bk_ BK262 1, bk_ BK262 2, bk_ BK262 3, bk_ BK262 4, bk_ BK262 5, ((bc_ HB hw264_0 :)), ((bc_ HB hw264_1 :))⟩ (fun hHeld => ?_); refine with_tabW quorumlaw11_ViewScans.tab9 quorumlaw11_ViewScans.bits9 (fun HT_ HW_ => ?_)
                   generalize wc.drew = w25 at BK262 HB HR264_0 HR264_1 hx264_0 hx264_1 hHeld ⊢
                   refine pq_ HT_.out 0 40 (bt 15 1) (h := ?_)
                   refine pq_ HT_.out 2 42 (bt 15 5) (h := ?_)
                   refine pq_ HT_.out 4 44 (bt 15 21) (h := ?_)
                   refine pq_ HT_.out 7 47 (bt 15 149) (h := ?_)
                   refine pq_ HT_.out 8 48 (bt 15 405) (h := ?_)
                   refine tq8_ HT_.out HW_.out 1 41 (bt 15 407) hHeld (h := ?_)
                   refine tq8_ HT_.out HW_.out 3 43 (bt 15 415) hHeld (h := ?_)
                   refine pq_ HT_.out 5 45 (bt 15 447) (h := ?_)
                   refine tq8_ HT_.out HW_.out 6 46 (bt 15 511) hHeld (h := ?_)
                   refine one_ (i := 9) (N := some 49) (bt 15 1023) rfl rfl (one_of HT_.out (by kernel_rfl)) (by decide) (fun K hK => ?_)
                   refine goes_ Try.func33 (by kernel_rfl) rfl #[.slice A0_0 l0_0.length c0_0, .agg #[.slice A264_0 ((rd_T34 l0_1 x3_1).f0).length c264_0, .slice A264_1 ((rd_T34 l0_1 x3_1).f1).length c264_1], .int .i64 x4_3, .agg #[.string (⟨#[]⟩ : ByteArray), .string (⟨#[]⟩ : ByteArray), .bool true], .int .i64 4, .int .i64 1073741824, .bool false] (by rfl) rfl rfl (by (try simp only [List.map_toArray, List.map_cons, List.map_nil]); first | done | rfl | (simp only [List.length_drop, List.length_take]; rfl)) ?_
                   with_reducible refine (view_Scan.calls kj14 _ _ l0_0 _ _ ((rd_T34 l0_1 x3_1).f0) _ _ ((rd_T34 l0_1 x3_1).f1) x4_3 (⟨#[]⟩ : ByteArray) (⟨#[]⟩ : ByteArray) true 4 1073741824 false t265 t268 _ ?side1 ?side2 ?side3 ?side4 ?side5 ?side6 A22.out).mono ?_
                   (case side1 => exact cb_ HR0_0 HB)
                   (case side2 => exact HC0_0.out)
                   (case side3 => exact cb_ HR264_0 HB)
                   (case side4 => exact HC264_0.out)
                   (case side5 => exact cb_ HR264_1 HB)
                   (case side6 => exact HC264_1.out)
                   rintro e w26 ⟨v266, rfl, ho0, hb⟩
                   refine ⟨_, rfl, ?_⟩
                   have n0_ := mk0 (Kd.R_lower ho0 (bz_ (b_ HB)))
                   replace BK262 := mk0 (u_ BK262 hb)
                   replace HB := mk0 (bt_ (b_ HB) hb)
                   have HO267 := n0_
                   clear n0_
                   (try clear hb)
                   (try clear hb2)
                   (try clear hk)
                   (try clear hi)
                   (try clear ho0)
                   refine hK.out _ _ ⟨bk_ BK262 0, bk_ BK262 1, bk_ BK262 2, bk_ BK262 3, bk_ BK262 4, bk_ BK262 5, ((bc_ HB hw264_0 :)), ((bc_ HB hw264_1 :))⟩ (fun hHeld => ?_)
                   clear hK K
                   refine norm_ (a' := ?_) ?_ ?_
                   rotate_left
                   ·show Act.put _ (some 49) _ = _
                    simp only [z_]
                    rfl
                   refine pq_ HT_.out 10 39 (bt 15 2047) (h := ?_)
                   refine pq_ HT_.out 11 50 (bt 15 4095) (h := ?_)
                   refine pq_ HT_.out 12 51 (bt 15 8191) (h := ?_)
                   refine pq_ HT_.out 13 5 (bt 15 16383) (h := ?_)
                   refine pq_ HT_.out 14 6 (bt 15 32767) (h := ?_)
                   refine done_ (done_of HT_.out (by kernel_rfl)) ?_
                   try go_wp2_with (first | ((with_reducible refine gate_callee (f := 19) rfl ?_); refine gL_ (some 53) Try.func19 #[.int .i64 t268] (h := ?_); (with_reducible refine (quorumlaw11_num.calls t268 t269 _ A23.out).mono ?_); rintro e w' ⟨rfl, ⟨nd, rfl⟩⟩; refine ⟨_, rfl, ?_⟩))
                   go_loopg [7] kj14 (fun kq v7 w' => ∃ (x7_5 : Int), v7 = .int .i64 x7_5 ∧ Fc (quorumlaw11_ViewScans.l2 kq x3_1 x4_3 t265 x7_5 l0_0 l0_1 l0_2 l0_3 l0_4 l0_5 = some r) ∧ Fc (kq ≤ kj14) ∧ Fc (Kd.R k82 82 w' w.heap.size (fun _ => True) v266 t265) ∧ Fc (w'.heap[gb262]? = some (.cells #[(.slice A0_0 l0_0.length c0_0), (.slice (some ad264) l0_1.length c0_1), (.slice A0_2 l0_2.length c0_2), (.slice A0_3 l0_3.length c0_3), (.slice A0_4 l0_4.length c0_4), (.slice A0_5 l0_5.length c0_5)] 28 (0, 0))) ∧ Fc (Below w.heap.size w w'))
                   case atStart => exact ⟨(0), (by first | rfl | (simp; done) | (simp [*]; done)), H', ⟨Nat.le_refl _⟩, ⟨by (with_reducible repeat (first | apply Ra_ | apply Rn_ | apply Rd_)); exact HO267.out⟩, ⟨h_ BK262⟩, ⟨b_ HB⟩⟩
                   case round =>
                    clear H'
                    try clear c3
                    try clear c11
                    try clear c11b0
                    try clear c14
                    try clear c16
                    try clear c16b0
                    try clear c19
                    try clear c20
                    try clear c20b0
                    try clear c21
                    try clear c21b0
                    try clear c24
                    try clear c24b0
                    try clear c24b1
                    try clear hcz12_0
                    try clear hcz12_1
                    try clear hcz12_2
                    try clear hcz12_3
                    try clear hcz12_4
                    try clear hcz12_5
                    try clear hcz13_0
                    try clear hcz13_1
                    try clear hcz13_2
                    try clear hcz13_3
                    try clear hcz13_4
                    try clear hcz13_5
                    try clear hcz17_0
                    try clear hcz17_1
                    try clear hcz17_2
                    try clear hcz17_3
                    try clear hcz17_4
                    try clear hcz17_5
                    try clear hcz18_0
                    try clear hcz18_1
                    try clear hcz18_2
                    try clear hcz18_3
                    try clear hcz18_4
                    try clear hcz18_5
                    try clear hcz5_0
                    try clear hcz5_1
                    try clear hcz5_2
                    try clear hcz5_3
                    try clear hcz5_4
                    try clear hcz5_5
                    try clear hcz8_0
                    try clear hcz8_1
                    try clear hcz8_2
                    try clear hcz8_3
                    try clear hcz8_4
                    try clear hcz8_5
                    try clear hfz12_0
                    try clear hfz12_1
                    try clear hfz12_2
                    try clear hfz12_3
                    try clear hfz12_4
                    try clear hfz12_5
                    try clear hfz13_0
                    try clear hfz13_1
                    try clear hfz13_2
                    try clear hfz13_3
                    try clear hfz13_4
                    try clear hfz13_5
                    try clear hfz17_0
                    try clear hfz17_1
                    try clear hfz17_2
                    try clear hfz17_3
                    try clear hfz17_4
                    try clear hfz17_5
                    try clear hfz18_0
                    try clear hfz18_1
                    try clear hfz18_2
                    try clear hfz18_3
                    try clear hfz18_4
                    try clear hfz18_5
                    try clear hfz5_0
                    try clear hfz5_1
                    try clear hfz5_2
                    try clear hfz5_3
                    try clear hfz5_4
                    try clear hfz5_5
                    try clear hfz8_0
                    try clear hfz8_1
                    try clear hfz8_2
                    try clear hfz8_3
                    try clear hfz8_4
                    try clear hfz8_5
                    try clear hx264_0
                    try clear hx264_1
                    try clear p264
                    try clear q264
                    obtain ⟨x7_5, rfl, HA, HK5, HO_5, BK262, HB⟩ := hrel
                    cases gk with
                    | zero => exact absurd HA.out (by simp [quorumlaw11_ViewScans.l2])
                    | succ k5 =>
                     have H := HA.out
                     clear HA
                     simp only [quorumlaw11_ViewScans.l2] at H
                     as_aux_lemma =>
                      by_cases c27 : x7_5 < (t265.length : Int)
                      ·rw [if_pos c27] at H
                       have c27b0 : decide (x7_5 < (t265.length : Int)) = true := decide_eq_true c27
                       clear c27
                       by_cases c28 : 0 ≤ x3_1
                       ·rw [if_pos c28] at H
                        have c28b0 : decide (0 ≤ x3_1) = true := decide_eq_true c28
                        clear c28
                        by_cases c29 : x3_1 < (l0_1.length : Int)
                        ·rw [if_pos c29] at H
                         have c29b0 : decide (x3_1 < (l0_1.length : Int)) = true := decide_eq_true c29
                         clear c29
                         by_cases c30 : 0 ≤ x7_5
                         ·rw [if_pos c30] at H
                          have c30b0 : decide (0 ≤ x7_5) = true := decide_eq_true c30
                          clear c30
                          replace H := Option.bind_eq_some_iff.mp H
                          obtain ⟨⟨t272, t273⟩, A310, H⟩ := H
                          try dsimp only at H
                          have A31 := mk0 A310
                          clear A310
                          have HC32 := mk0 H
                          clear H
                          obtain ⟨Ao33, co33, eo33⟩ := Kd.R_slice HO_5.out
                          subst eo33
                          try go_wp2
                          replace HO_5 := mk0 (Rd_ HO_5.out)
                          replace BK262 := mk0 (bD_ BK262.out)
                          replace HB := mk0 (b1_ HB.out)
                          have p270 : 0 ≤ (x3_1 : Int) := of_decide_eq_true (by first | (with_reducible assumption) | assumption)
                          have q270 : x3_1 < (l0_1.length : Int) := of_decide_eq_true (by first | (with_reducible assumption) | assumption)
                          obtain ⟨ad270, A270_0, c270_0, A270_1, c270_1, e270, hx270_0, hx270_1, hl270_0, hi270_0, hl270_1, hi270_1⟩ := at_T34 HR0_1.out x3_1 p270 q270
                          have hw270_1 := hx270_1
                          have hw270_0 := hx270_0
                          obtain rfl : ad264 = ad270 := (by injection e270)
                          replace hx270_0 := (bc_ HB hx270_0 :)
                          replace hx270_1 := (bc_ HB hx270_1 :)
                          have HR270_0 := mk0 hi270_0
                          have HC270_0 := mk0 hl270_0
                          clear hi270_0 hl270_0
                          have HR270_1 := mk0 hi270_1
                          have HC270_1 := mk0 hl270_1
                          clear hi270_1 hl270_1
                          replace p270 := eq_true p270
                          replace q270 := eq_true q270
                          have p271 : 0 ≤ (x7_5 : Int) := of_decide_eq_true (by first | (with_reducible assumption) | assumption)
                          have q271 : x7_5 < (t265.length : Int) := of_decide_eq_true (by first | (with_reducible assumption) | assumption)
                          obtain ⟨ad271, e271, hx271_0, hx271_1⟩ := at_T82 (Kd.R_reads' HO_5.out).2.2 x7_5 p271 q271
                          cases e271
                          replace p271 := eq_true p271
                          replace q271 := eq_true q271
                          refine start_ (n := 19) (S := fun w' => w'.cell? ⟨gb262, 0, none⟩ = some (.slice A0_0 l0_0.length c0_0) ∧ w'.cell? ⟨gb262, 1, none⟩ = some (.slice (some ad264) l0_1.length c0_1) ∧ w'.cell? ⟨gb262, 2, none⟩ = some (.slice A0_2 l0_2.length c0_2) ∧ w'.cell? ⟨gb262, 3, none⟩ = some (.slice A0_3 l0_3.length c0_3) ∧ w'.cell? ⟨gb262, 4, none⟩ = some (.slice A0_4 l0_4.length c0_4) ∧ w'.cell? ⟨gb262, 5, none⟩ = some (.slice A0_5 l0_5.length c0_5) ∧ w'.cell? (ad264.add ((x3_1).toNat * 2)) = some (.slice A270_0 ((rd_T34 l0_1 x3_1).f0).length c270_0) ∧ w'.cell? ⟨(ad264.add ((x3_1).toNat * 2)).block, (ad264.add ((x3_1).toNat * 2)).off + 1, none⟩ = some (.slice A270_1 ((rd_T34 l0_1 x3_1).f1).length c270_1) ∧ w'.cell? (ad271.add ((x7_5).toNat * 2)) = some (.string ((rd_T82 t265 x7_5).f0)) ∧ w'.cell? ⟨(ad271.add ((x7_5).toNat * 2)).block, (ad271.add ((x7_5).toNat * 2)).off + 1, none⟩ = some (.string ((rd_T82 t265 x7_5).f1))) (ds := []) (bt 19 0) (by kernel_rfl) rfl rfl ⟨bk_ BK262 0, bk_ BK262 1, bk_ BK262 2, bk_ BK262 3, bk_ BK262 4, bk_ BK262 5, ((bc_ HB hw270_0 :)), ((bc_ HB hw270_1 :)), hx271_0, hx271_1⟩ (fun hHeld => ?_); refine with_tabW quorumlaw11_ViewScans.tab14 quorumlaw11_ViewScans.bits14 (fun HT_ HW_ => ?_)
                          generalize wr.drew = w34 at HO_5 BK262 HB HR270_0 HR270_1 hx270_0 hx270_1 hx271_0 hx271_1 hHeld ⊢
                          refine pq_ HT_.out 0 62 (bt 19 1) (h := ?_)
                          refine pq_ HT_.out 2 64 (bt 19 5) (h := ?_)
                          refine pq_ HT_.out 4 66 (bt 19 21) (h := ?_)
                          refine pq_ HT_.out 7 69 (bt 19 149) (h := ?_)
                          refine pq_ HT_.out 8 70 (bt 19 405) (h := ?_)
                          refine pq_ HT_.out 9 71 (bt 19 917) (h := ?_)
                          refine pq_ HT_.out 10 72 (bt 19 1941) (h := ?_)
                          refine pq_ HT_.out 11 73 (bt 19 3989) (h := ?_)
                          refine tq10_ HT_.out HW_.out 1 63 (bt 19 3991) hHeld (h := ?_)
                          refine tq10_ HT_.out HW_.out 3 65 (bt 19 3999) hHeld (h := ?_)
                          refine pq_ HT_.out 5 67 (bt 19 4031) (h := ?_)
                          refine tq10_ HT_.out HW_.out 6 68 (bt 19 4095) hHeld (h := ?_)
                          refine tq10_ HT_.out HW_.out 12 74 (bt 19 8191) hHeld (h := ?_)
                          refine one_ (i := 13) (N := some 75) (bt 19 16383) rfl rfl (one_of HT_.out (by kernel_rfl)) (by decide) (fun K hK => ?_)
                          refine goes_ Try.func18 (by kernel_rfl) rfl #[.slice A0_0 l0_0.length c0_0, .agg #[.slice A270_0 ((rd_T34 l0_1 x3_1).f0).length c270_0, .slice A270_1 ((rd_T34 l0_1 x3_1).f1).length c270_1], .int .i64 x4_3, .string ((rd_T82 t265 x7_5).f0), .int .i64 4] (by rfl) rfl rfl (by (try simp only [List.map_toArray, List.map_cons, List.map_nil]); first | done | rfl | (simp only [List.length_drop, List.length_take]; rfl)) ?_
                          with_reducible refine (view_Get.calls k5 _ _ l0_0 _ _ ((rd_T34 l0_1 x3_1).f0) _ _ ((rd_T34 l0_1 x3_1).f1) x4_3 ((rd_T82 t265 x7_5).f0) 4 t272 t273 _ ?side1 ?side2 ?side3 ?side4 ?side5 ?side6 A31.out).mono ?_
                          (case side1 => exact cb_ HR0_0 HB)
                          (case side2 => exact HC0_0.out)
                          (case side3 => exact cb_ HR270_0 HB)
                          (case side4 => exact HC270_0.out)
                          (case side5 => exact cb_ HR270_1 HB)
                          (case side6 => exact HC270_1.out)
                          rintro e w35 ⟨rfl, hb⟩
                          have HS8_ := (hb.cell (World.block_lt_of_cell? _ _ hHeld.2.2.2.2.2.2.2.2.1)).trans hHeld.2.2.2.2.2.2.2.2.1
                          have HS9_ := (hb.cell (World.block_lt_of_cell? _ _ hHeld.2.2.2.2.2.2.2.2.2)).trans hHeld.2.2.2.2.2.2.2.2.2
                          refine ⟨_, rfl, ?_⟩
                          replace HO_5 := mk0 (Kd.R_below (r_ HO_5) hb)
                          replace BK262 := mk0 (u_ BK262 hb)
                          replace HB := mk0 (bt_ (b_ HB) hb)
                          (try clear hb)
                          (try clear hb2)
                          (try clear hk)
                          (try clear hi)
                          refine hK.out _ _ ⟨bk_ BK262 0, bk_ BK262 1, bk_ BK262 2, bk_ BK262 3, bk_ BK262 4, bk_ BK262 5, ((bc_ HB hw270_0 :)), ((bc_ HB hw270_1 :)), HS8_, HS9_⟩ (fun hHeld => ?_)
                          clear hK K
                          refine norm_ (a' := ?_) ?_ ?_
                          rotate_left
                          ·show Act.put _ (some 75) _ = _
                           simp only [z_]
                           rfl
                          refine pq_ HT_.out 14 61 (bt 19 32767) (h := ?_)
                          refine pq_ HT_.out 15 76 (bt 19 65535) (h := ?_)
                          refine pq_ HT_.out 16 77 (bt 19 131071) (h := ?_)
                          refine pq_ HT_.out 17 8 (bt 19 262143) (h := ?_)
                          refine pq_ HT_.out 18 9 (bt 19 524287) (h := ?_)
                          refine done_ (done_of HT_.out (by kernel_rfl)) ?_
                          go_upto_region 15 with (fail)
                          go_cut [107] (fun v107 wc => ∃ (kq : Nat) (x107_31 : Bool), v107 = .bool x107_31 ∧ Fc (quorumlaw11_ViewScans.j5 kq x3_1 x4_3 t265 x7_5 x107_31 l0_0 l0_1 l0_2 l0_3 l0_4 l0_5 = some r) ∧ Fc (kq ≤ k5) ∧ Fc (Kd.R k82 82 wc w.heap.size (fun _ => True) (.slice (some ad271) t265.length co33) t265) ∧ Fc (wc.heap[gb262]? = some (.cells #[(.slice A0_0 l0_0.length c0_0), (.slice (some ad264) l0_1.length c0_1), (.slice A0_2 l0_2.length c0_2), (.slice A0_3 l0_3.length c0_3), (.slice A0_4 l0_4.length c0_4), (.slice A0_5 l0_5.length c0_5)] 28 (0, 0))) ∧ Fc (Below w.heap.size w wc))
                          case first =>
                           have H := HC32.out
                           clear HC32
                           replace H := Option.bind_eq_some_iff.mp H
                           obtain ⟨t274, A360, H⟩ := H
                           try dsimp only at H
                           have A36 := mk0 A360
                           clear A360
                           by_cases c37 : t274 = 0
                           ·rw [if_pos c37] at H
                            have c37b0 : (t274 == 0) = true := beq_iff_eq.mpr c37
                            have c37b1 : (t274 != 0) = false := bne_eq_false_iff_eq.mpr c37
                            clear c37
                            (first | rw [c37b0] | (simp only [i64_w, i32_w]; rw [c37b0]) | skip)
                            by_cases c38 : t272.toList = ((rd_T82 t265 x7_5).f1).toList
                            ·rw [if_pos c38] at H
                             have c38b0 : (t272.toList == ((rd_T82 t265 x7_5).f1).toList) = true := beq_iff_eq.mpr c38
                             have c38b1 : (t272.toList != ((rd_T82 t265 x7_5).f1).toList) = false := bne_eq_false_iff_eq.mpr c38
                             clear c38
                             by_cases c39 : x7_5 > 0
                             ·rw [if_pos c39] at H
                              have c39b0 : decide (0 < x7_5) = true := decide_eq_true c39
                              clear c39
                              obtain ⟨ji40, hji40⟩ : ∃ j_ : Int, (wrap64 (x7_5 - 1)) = j_ := ⟨_, rfl⟩
                              replace H : (if 0 ≤ (ji40) then (if (ji40) < (t265.length : Int) then (quorumlaw11_ViewScans.j5 k5 x3_1 x4_3 t265 x7_5 (!(Op.bytesLess (((rd_T82 t265 (ji40)).f0).toList) (((rd_T82 t265 x7_5).f0).toList))) l0_0 l0_1 l0_2 l0_3 l0_4 l0_5) else (none)) else (none)) = some r := by first | (rw [hji40] at H; exact H) | (simp only [hji40] at H ⊢; exact H)
                              (try rw [hji40] at A36)
                              have hji40w : (IntKind.i64.wrap (x7_5 - 1)) = ji40 := (i64_w _).trans hji40
                              by_cases c41 : 0 ≤ (ji40)
                              ·rw [if_pos c41] at H
                               have c41b0 : decide (0 ≤ (ji40)) = true := decide_eq_true c41
                               clear c41
                               by_cases c42 : (ji40) < (t265.length : Int)
                               ·rw [if_pos c42] at H
                                have c42b0 : decide ((ji40) < (t265.length : Int)) = true := decide_eq_true c42
                                clear c42
                                have H' := mk0 H
                                clear H
                                try go_wp2
                                replace HO_5 := mk0 (Rd_ HO_5.out)
                                replace BK262 := mk0 (bD_ BK262.out)
                                replace HB := mk0 (b1_ HB.out)
                                have p275 : 0 ≤ (x7_5 : Int) := of_decide_eq_true (by first | (with_reducible assumption) | assumption)
                                have q275 : x7_5 < (t265.length : Int) := of_decide_eq_true (by first | (with_reducible assumption) | assumption)
                                obtain ⟨ad275, e275, hx275_0, hx275_1⟩ := at_T82 (Kd.R_reads' HO_5.out).2.2 x7_5 p275 q275
                                obtain rfl : ad271 = ad275 := (by injection e275)
                                replace p275 := eq_true p275
                                replace q275 := eq_true q275
                                have p276 : 0 ≤ ((ji40) : Int) := of_decide_eq_true (by first | (with_reducible assumption) | assumption)
                                have q276 : (ji40) < (t265.length : Int) := of_decide_eq_true (by first | (with_reducible assumption) | assumption)
                                obtain ⟨ad276, e276, hx276_0, hx276_1⟩ := at_T82 (Kd.R_reads' HO_5.out).2.2 (ji40) p276 q276
                                obtain rfl : ad271 = ad276 := (by injection e276)
                                replace p276 := eq_true p276
                                replace q276 := eq_true q276
                                have p277 : 0 ≤ (x7_5 : Int) := of_decide_eq_true (by first | (with_reducible assumption) | assumption)
                                have q277 : x7_5 < (t265.length : Int) := of_decide_eq_true (by first | (with_reducible assumption) | assumption)
                                obtain ⟨ad277, e277, hx277_0, hx277_1⟩ := at_T82 (Kd.R_reads' HO_5.out).2.2 x7_5 p277 q277
                                obtain rfl : ad271 = ad277 := (by injection e277)
                                replace p277 := eq_true p277
                                replace q277 := eq_true q277
                                refine start_ (n := 30) (S := fun w' => w'.cell? (ad271.add ((x7_5).toNat * 2)) = some (.string ((rd_T82 t265 x7_5).f0)) ∧ w'.cell? ⟨(ad271.add ((x7_5).toNat * 2)).block, (ad271.add ((x7_5).toNat * 2)).off + 1, none⟩ = some (.string ((rd_T82 t265 x7_5).f1)) ∧ w'.cell? (ad271.add (((ji40)).toNat * 2)) = some (.string ((rd_T82 t265 (ji40)).f0)) ∧ w'.cell? ⟨(ad271.add (((ji40)).toNat * 2)).block, (ad271.add (((ji40)).toNat * 2)).off + 1, none⟩ = some (.string ((rd_T82 t265 (ji40)).f1)) ∧ w'.cell? (ad271.add ((x7_5).toNat * 2)) = some (.string ((rd_T82 t265 x7_5).f0)) ∧ w'.cell? ⟨(ad271.add ((x7_5).toNat * 2)).block, (ad271.add ((x7_5).toNat * 2)).off + 1, none⟩ = some (.string ((rd_T82 t265 x7_5).f1))) (ds := []) (bt 30 0) (by kernel_rfl) rfl rfl ⟨hx275_0, hx275_1, hx276_0, hx276_1, hx277_0, hx277_1⟩ (fun hHeld => ?_); refine with_tabW quorumlaw11_ViewScans.tab15 quorumlaw11_ViewScans.bits15 (fun HT_ HW_ => ?_)
                                generalize w35.drew = w43 at HO_5 BK262 HB hx275_0 hx275_1 hx276_0 hx276_1 hx277_0 hx277_1 hHeld ⊢
                                refine pq_ HT_.out 0 78 (bt 30 1) (h := ?_)
                                refine one_ (i := 1) (N := some 79) (bt 30 3) rfl rfl (one_of HT_.out (by kernel_rfl)) (by decide) (fun K hK => ?_)
                                refine goes_ Try.func19 (by kernel_rfl) rfl #[.int .i64 t273] (by rfl) rfl rfl (by (try simp only [List.map_toArray, List.map_cons, List.map_nil]); first | done | rfl | (simp only [List.length_drop, List.length_take]; rfl)) ?_
                                with_reducible refine (quorumlaw11_num.calls t273 t274 _ A36.out).mono ?_
                                rintro e w' ⟨rfl, ⟨nd, rfl⟩⟩
                                refine ⟨_, rfl, ?_⟩
                                refine hK.out _ _ ⟨hHeld.1, hHeld.2.1, hHeld.2.2.1, hHeld.2.2.2.1, hHeld.2.2.2.2.1, hHeld.2.2.2.2.2⟩ (fun hHeld => ?_)
                                clear hK K
                                refine norm_ (a' := ?_) ?_ ?_
                                rotate_left
                                ·show Act.put _ (some 79) _ = _
                                 simp only [z_]
                                 rfl
                                refine pq_ HT_.out 2 80 (bt 30 7) (h := ?_)
                                refine pq_ HT_.out 3 81 (bt 30 15) (h := ?_)
                                refine pq_ HT_.out 4 82 (bt 30 31) (h := ?_)
                                refine pq_ HT_.out 5 83 (bt 30 63) (h := ?_)
                                refine pq_ HT_.out 6 84 (bt 30 127) (h := ?_)
                                refine pq_ HT_.out 7 85 (bt 30 255) (h := ?_)
                                refine pq_ HT_.out 8 86 (bt 30 511) (h := ?_)
                                refine tq6_ HT_.out HW_.out 9 87 (bt 30 1023) hHeld (h := ?_)
                                refine pq_ HT_.out 10 88 (bt 30 2047) (h := ?_)
                                refine pq_ HT_.out 11 89 (bt 30 4095) (h := ?_)
                                refine pq_ HT_.out 12 90 (bt 30 8191) (h := ?_)
                                refine pq_ HT_.out 13 91 (bt 30 16383) (h := ?_)
                                refine pq_ HT_.out 14 92 (bt 30 32767) (h := ?_)
                                refine pq_ HT_.out 15 93 (bt 30 65535) (h := ?_)
                                refine pq_ HT_.out 16 94 (bt 30 131071) (h := ?_)
                                refine pq_ HT_.out 17 95 (bt 30 262143) (h := ?_)
                                refine pq_ HT_.out 18 96 (bt 30 524287) (h := ?_)
                                refine pq_ HT_.out 19 97 (bt 30 1048575) (h := ?_)
                                refine pq_ HT_.out 20 98 (bt 30 2097151) (h := ?_)
                                refine pq_ HT_.out 22 100 (bt 30 6291455) (h := ?_)
                                refine pq_ HT_.out 23 101 (bt 30 14680063) (h := ?_)
                                refine pq_ HT_.out 24 102 (bt 30 31457279) (h := ?_)
                                refine pq_ HT_.out 25 103 (bt 30 65011711) (h := ?_)
                                refine tq6_ HT_.out HW_.out 21 99 (bt 30 67108863) hHeld (h := ?_)
                                refine tq6_ HT_.out HW_.out 26 104 (bt 30 134217727) hHeld (h := ?_)
                                refine pq_ HT_.out 27 105 (bt 30 268435455) (h := ?_)
                                refine pq_ HT_.out 28 106 (bt 30 536870911) (h := ?_)
                                refine pq_ HT_.out 29 107 (bt 30 1073741823) (h := ?_)
                                refine done_ (done_of HT_.out (by kernel_rfl)) ?_
                                try go_wp2
                                go_meet
                                case rel => exact ⟨_, (!(Op.bytesLess (((rd_T82 t265 (ji40)).f0).toList) (((rd_T82 t265 x7_5).f0).toList))), (by first | rfl | (simp; done) | (simp only [← hji40] <;> (first | rfl | (simp [leq_]; done) | (simp; done))) | (simp [*]; done)), H', ⟨by have := HK1.out; have := HJ9.out; have := HK3.out; have := HJ14.out; have := HK5.out; first | omega | exact Nat.le_refl _⟩, ⟨by (with_reducible repeat (first | apply Ra_ | apply Rn_ | apply Rd_)); exact HO_5.out⟩, ⟨h_ BK262⟩, ⟨b_ HB⟩⟩
                               ·rw [if_neg c42] at H
                                exact absurd H (by simp)
                              ·rw [if_neg c41] at H
                               exact absurd H (by simp)
                             ·rw [if_neg c39] at H
                              have c39b0 : decide (0 < x7_5) = false := decide_eq_false c39
                              clear c39
                              have H' := mk0 H
                              clear H
                              try go_wp2
                              replace HO_5 := mk0 (Rd_ HO_5.out)
                              replace BK262 := mk0 (bD_ BK262.out)
                              replace HB := mk0 (b1_ HB.out)
                              have p275 : 0 ≤ (x7_5 : Int) := of_decide_eq_true (by first | (with_reducible assumption) | assumption)
                              have q275 : x7_5 < (t265.length : Int) := of_decide_eq_true (by first | (with_reducible assumption) | assumption)
                              obtain ⟨ad275, e275, hx275_0, hx275_1⟩ := at_T82 (Kd.R_reads' HO_5.out).2.2 x7_5 p275 q275
                              obtain rfl : ad271 = ad275 := (by injection e275)
                              replace p275 := eq_true p275
                              replace q275 := eq_true q275
                              refine start_ (n := 30) (S := fun w' => w'.cell? (ad271.add ((x7_5).toNat * 2)) = some (.string ((rd_T82 t265 x7_5).f0)) ∧ w'.cell? ⟨(ad271.add ((x7_5).toNat * 2)).block, (ad271.add ((x7_5).toNat * 2)).off + 1, none⟩ = some (.string ((rd_T82 t265 x7_5).f1))) (ds := []) (bt 30 0) (by kernel_rfl) rfl rfl ⟨hx275_0, hx275_1⟩ (fun hHeld => ?_); refine with_tabW quorumlaw11_ViewScans.tab15 quorumlaw11_ViewScans.bits15 (fun HT_ HW_ => ?_)
                              generalize w35.drew = w44 at HO_5 BK262 HB hx275_0 hx275_1 hHeld ⊢
                              refine pq_ HT_.out 0 78 (bt 30 1) (h := ?_)
                              refine one_ (i := 1) (N := some 79) (bt 30 3) rfl rfl (one_of HT_.out (by kernel_rfl)) (by decide) (fun K hK => ?_)
                              refine goes_ Try.func19 (by kernel_rfl) rfl #[.int .i64 t273] (by rfl) rfl rfl (by (try simp only [List.map_toArray, List.map_cons, List.map_nil]); first | done | rfl | (simp only [List.length_drop, List.length_take]; rfl)) ?_
                              with_reducible refine (quorumlaw11_num.calls t273 t274 _ A36.out).mono ?_
                              rintro e w' ⟨rfl, ⟨nd, rfl⟩⟩
                              refine ⟨_, rfl, ?_⟩
                              refine hK.out _ _ ⟨hHeld.1, hHeld.2⟩ (fun hHeld => ?_)
                              clear hK K
                              refine norm_ (a' := ?_) ?_ ?_
                              rotate_left
                              ·show Act.put _ (some 79) _ = _
                               simp only [z_]
                               rfl
                              refine pq_ HT_.out 2 80 (bt 30 7) (h := ?_)
                              refine pq_ HT_.out 3 81 (bt 30 15) (h := ?_)
                              refine pq_ HT_.out 4 82 (bt 30 31) (h := ?_)
                              refine pq_ HT_.out 5 83 (bt 30 63) (h := ?_)
                              refine pq_ HT_.out 6 84 (bt 30 127) (h := ?_)
                              refine pq_ HT_.out 7 85 (bt 30 255) (h := ?_)
                              refine pq_ HT_.out 8 86 (bt 30 511) (h := ?_)
                              refine tq2_ HT_.out HW_.out 9 87 (bt 30 1023) hHeld (h := ?_)
                              refine pq_ HT_.out 10 88 (bt 30 2047) (h := ?_)
                              refine pq_ HT_.out 11 89 (bt 30 4095) (h := ?_)
                              refine pq_ HT_.out 12 90 (bt 30 8191) (h := ?_)
                              refine pq_ HT_.out 13 91 (bt 30 16383) (h := ?_)
                              refine pq_ HT_.out 14 92 (bt 30 32767) (h := ?_)
                              refine pq_ HT_.out 15 93 (bt 30 65535) (h := ?_)
                              refine uq_ HT_.out 16 94 (bt 30 131071) (h := ?_)
                              refine uq_ HT_.out 17 95 (bt 30 262143) (h := ?_)
                              refine uq_ HT_.out 18 96 (bt 30 524287) (h := ?_)
                              refine uq_ HT_.out 19 97 (bt 30 1048575) (h := ?_)
                              refine uq_ HT_.out 20 98 (bt 30 2097151) (h := ?_)
                              refine uq_ HT_.out 21 99 (bt 30 4194303) (h := ?_)
                              refine uq_ HT_.out 22 100 (bt 30 8388607) (h := ?_)
                              refine uq_ HT_.out 23 101 (bt 30 16777215) (h := ?_)
                              refine uq_ HT_.out 24 102 (bt 30 33554431) (h := ?_)
                              refine uq_ HT_.out 25 103 (bt 30 67108863) (h := ?_)
                              refine uq_ HT_.out 26 104 (bt 30 134217727) (h := ?_)
                              refine uq_ HT_.out 27 105 (bt 30 268435455) (h := ?_)
                              refine pq_ HT_.out 28 106 (bt 30 536870911) (h := ?_)
                              refine pq_ HT_.out 29 107 (bt 30 1073741823) (h := ?_)
                              refine done_ (done_of HT_.out (by kernel_rfl)) ?_
                              try go_wp2
                              go_meet
                              case rel => exact ⟨_, (false), (by first | rfl | (simp; done) | (simp [*]; done)), H', ⟨by have := HK1.out; have := HJ9.out; have := HK3.out; have := HJ14.out; have := HK5.out; first | omega | exact Nat.le_refl _⟩, ⟨by (with_reducible repeat (first | apply Ra_ | apply Rn_ | apply Rd_)); exact HO_5.out⟩, ⟨h_ BK262⟩, ⟨b_ HB⟩⟩
                            ·rw [if_neg c38] at H
                             have c38b0 : (t272.toList == ((rd_T82 t265 x7_5).f1).toList) = false := beq_eq_false_iff_ne.mpr c38
                             have c38b1 : (t272.toList != ((rd_T82 t265 x7_5).f1).toList) = true := bne_iff_ne.mpr c38
                             have H' := mk0 H
                             clear H
                             try go_wp2
                             replace HO_5 := mk0 (Rd_ HO_5.out)
                             replace BK262 := mk0 (bD_ BK262.out)
                             replace HB := mk0 (b1_ HB.out)
                             have p275 : 0 ≤ (x7_5 : Int) := of_decide_eq_true (by first | (with_reducible assumption) | assumption)
                             have q275 : x7_5 < (t265.length : Int) := of_decide_eq_true (by first | (with_reducible assumption) | assumption)
                             obtain ⟨ad275, e275, hx275_0, hx275_1⟩ := at_T82 (Kd.R_reads' HO_5.out).2.2 x7_5 p275 q275
                             obtain rfl : ad271 = ad275 := (by injection e275)
                             replace p275 := eq_true p275
                             replace q275 := eq_true q275
                             refine start_ (n := 30) (S := fun w' => w'.cell? (ad271.add ((x7_5).toNat * 2)) = some (.string ((rd_T82 t265 x7_5).f0)) ∧ w'.cell? ⟨(ad271.add ((x7_5).toNat * 2)).block, (ad271.add ((x7_5).toNat * 2)).off + 1, none⟩ = some (.string ((rd_T82 t265 x7_5).f1))) (ds := []) (bt 30 0) (by kernel_rfl) rfl rfl ⟨hx275_0, hx275_1⟩ (fun hHeld => ?_); refine with_tabW quorumlaw11_ViewScans.tab15 quorumlaw11_ViewScans.bits15 (fun HT_ HW_ => ?_)
                             generalize w35.drew = w45 at HO_5 BK262 HB hx275_0 hx275_1 hHeld ⊢
                             refine pq_ HT_.out 0 78 (bt 30 1) (h := ?_)
                             refine one_ (i := 1) (N := some 79) (bt 30 3) rfl rfl (one_of HT_.out (by kernel_rfl)) (by decide) (fun K hK => ?_)
                             refine goes_ Try.func19 (by kernel_rfl) rfl #[.int .i64 t273] (by rfl) rfl rfl (by (try simp only [List.map_toArray, List.map_cons, List.map_nil]); first | done | rfl | (simp only [List.length_drop, List.length_take]; rfl)) ?_
                             with_reducible refine (quorumlaw11_num.calls t273 t274 _ A36.out).mono ?_
                             rintro e w' ⟨rfl, ⟨nd, rfl⟩⟩
                             refine ⟨_, rfl, ?_⟩
                             refine hK.out _ _ ⟨hHeld.1, hHeld.2⟩ (fun hHeld => ?_)
                             clear hK K
                             refine norm_ (a' := ?_) ?_ ?_
                             rotate_left
                             ·show Act.put _ (some 79) _ = _
                              simp only [z_]
                              rfl
                             refine pq_ HT_.out 2 80 (bt 30 7) (h := ?_)
                             refine pq_ HT_.out 3 81 (bt 30 15) (h := ?_)
                             refine pq_ HT_.out 4 82 (bt 30 31) (h := ?_)
                             refine pq_ HT_.out 5 83 (bt 30 63) (h := ?_)
                             refine pq_ HT_.out 6 84 (bt 30 127) (h := ?_)
                             refine pq_ HT_.out 7 85 (bt 30 255) (h := ?_)
                             refine pq_ HT_.out 8 86 (bt 30 511) (h := ?_)
                             refine tq2_ HT_.out HW_.out 9 87 (bt 30 1023) hHeld (h := ?_)
                             refine pq_ HT_.out 10 88 (bt 30 2047) (h := ?_)
                             refine pq_ HT_.out 11 89 (bt 30 4095) (h := ?_)
                             refine pq_ HT_.out 12 90 (bt 30 8191) (h := ?_)
                             refine uq_ HT_.out 13 91 (bt 30 16383) (h := ?_)
                             refine uq_ HT_.out 14 92 (bt 30 32767) (h := ?_)
                             refine uq_ HT_.out 15 93 (bt 30 65535) (h := ?_)
                             refine uq_ HT_.out 16 94 (bt 30 131071) (h := ?_)
                             refine uq_ HT_.out 17 95 (bt 30 262143) (h := ?_)
                             refine uq_ HT_.out 18 96 (bt 30 524287) (h := ?_)
                             refine uq_ HT_.out 19 97 (bt 30 1048575) (h := ?_)
                             refine uq_ HT_.out 20 98 (bt 30 2097151) (h := ?_)
                             refine uq_ HT_.out 21 99 (bt 30 4194303) (h := ?_)
                             refine uq_ HT_.out 22 100 (bt 30 8388607) (h := ?_)
                             refine uq_ HT_.out 23 101 (bt 30 16777215) (h := ?_)
                             refine uq_ HT_.out 24 102 (bt 30 33554431) (h := ?_)
                             refine uq_ HT_.out 25 103 (bt 30 67108863) (h := ?_)
                             refine uq_ HT_.out 26 104 (bt 30 134217727) (h := ?_)
                             refine uq_ HT_.out 27 105 (bt 30 268435455) (h := ?_)
                             refine uq_ HT_.out 28 106 (bt 30 536870911) (h := ?_)
                             refine pq_ HT_.out 29 107 (bt 30 1073741823) (h := ?_)
                             refine done_ (done_of HT_.out (by kernel_rfl)) ?_
                             try go_wp2
                             go_meet
                             case rel => exact ⟨_, (true), (by first | rfl | (simp; done) | (simp [*]; done)), H', ⟨by have := HK1.out; have := HJ9.out; have := HK3.out; have := HJ14.out; have := HK5.out; first | omega | exact Nat.le_refl _⟩, ⟨by (with_reducible repeat (first | apply Ra_ | apply Rn_ | apply Rd_)); exact HO_5.out⟩, ⟨h_ BK262⟩, ⟨b_ HB⟩⟩
                           ·rw [if_neg c37] at H
                            have c37b0 : (t274 == 0) = false := beq_eq_false_iff_ne.mpr c37
                            have c37b1 : (t274 != 0) = true := bne_iff_ne.mpr c37
                            (first | rw [c37b0] | (simp only [i64_w, i32_w]; rw [c37b0]) | skip)
                            have H' := mk0 H
                            clear H
                            try go_wp2
                            replace HO_5 := mk0 (Rd_ HO_5.out)
                            replace BK262 := mk0 (bD_ BK262.out)
                            replace HB := mk0 (b1_ HB.out)
                            refine start_ (n := 30) (S := fun w' => True) (ds := []) (bt 30 0) (by kernel_rfl) rfl rfl trivial (fun hHeld => ?_); refine with_tabW quorumlaw11_ViewScans.tab15 quorumlaw11_ViewScans.bits15 (fun HT_ HW_ => ?_)
                            generalize w35.drew = w46 at HO_5 BK262 HB hHeld ⊢
                            refine pq_ HT_.out 0 78 (bt 30 1) (h := ?_)
                            refine one_ (i := 1) (N := some 79) (bt 30 3) rfl rfl (one_of HT_.out (by kernel_rfl)) (by decide) (fun K hK => ?_)
                            refine goes_ Try.func19 (by kernel_rfl) rfl #[.int .i64 t273] (by rfl) rfl rfl (by (try simp only [List.map_toArray, List.map_cons, List.map_nil]); first | done | rfl | (simp only [List.length_drop, List.length_take]; rfl)) ?_
                            with_reducible refine (quorumlaw11_num.calls t273 t274 _ A36.out).mono ?_
                            rintro e w' ⟨rfl, ⟨nd, rfl⟩⟩
                            refine ⟨_, rfl, ?_⟩
                            refine hK.out _ _ trivial (fun hHeld => ?_)
                            clear hK K
                            refine norm_ (a' := ?_) ?_ ?_
                            rotate_left
                            ·show Act.put _ (some 79) _ = _
                             simp only [z_]
                             rfl
                            refine pq_ HT_.out 2 80 (bt 30 7) (h := ?_)
                            refine pq_ HT_.out 3 81 (bt 30 15) (h := ?_)
                            refine uq_ HT_.out 4 82 (bt 30 31) (h := ?_)
                            refine uq_ HT_.out 5 83 (bt 30 63) (h := ?_)
                            refine uq_ HT_.out 6 84 (bt 30 127) (h := ?_)
                            refine uq_ HT_.out 7 85 (bt 30 255) (h := ?_)
                            refine uq_ HT_.out 8 86 (bt 30 511) (h := ?_)
                            refine uq_ HT_.out 9 87 (bt 30 1023) (h := ?_)
                            refine uq_ HT_.out 10 88 (bt 30 2047) (h := ?_)
                            refine pq_ HT_.out 11 89 (bt 30 4095) (h := ?_)
                            refine pq_ HT_.out 12 90 (bt 30 8191) (h := ?_)
                            refine uq_ HT_.out 13 91 (bt 30 16383) (h := ?_)
                            refine uq_ HT_.out 14 92 (bt 30 32767) (h := ?_)
                            refine uq_ HT_.out 15 93 (bt 30 65535) (h := ?_)
                            refine uq_ HT_.out 16 94 (bt 30 131071) (h := ?_)
                            refine uq_ HT_.out 17 95 (bt 30 262143) (h := ?_)
                            refine uq_ HT_.out 18 96 (bt 30 524287) (h := ?_)
                            refine uq_ HT_.out 19 97 (bt 30 1048575) (h := ?_)
                            refine uq_ HT_.out 20 98 (bt 30 2097151) (h := ?_)
                            refine uq_ HT_.out 21 99 (bt 30 4194303) (h := ?_)
                            refine uq_ HT_.out 22 100 (bt 30 8388607) (h := ?_)
                            refine uq_ HT_.out 23 101 (bt 30 16777215) (h := ?_)
                            refine uq_ HT_.out 24 102 (bt 30 33554431) (h := ?_)
                            refine uq_ HT_.out 25 103 (bt 30 67108863) (h := ?_)
                            refine uq_ HT_.out 26 104 (bt 30 134217727) (h := ?_)
                            refine uq_ HT_.out 27 105 (bt 30 268435455) (h := ?_)
                            refine uq_ HT_.out 28 106 (bt 30 536870911) (h := ?_)
                            refine pq_ HT_.out 29 107 (bt 30 1073741823) (h := ?_)
                            refine done_ (done_of HT_.out (by kernel_rfl)) ?_
                            try go_wp2
                            go_meet
                            case rel => exact ⟨_, (true), (by first | rfl | (simp; done) | (simp [*]; done)), H', ⟨by have := HK1.out; have := HJ9.out; have := HK3.out; have := HJ14.out; have := HK5.out; first | omega | exact Nat.le_refl _⟩, ⟨by (with_reducible repeat (first | apply Ra_ | apply Rn_ | apply Rd_)); exact HO_5.out⟩, ⟨h_ BK262⟩, ⟨b_ HB⟩⟩
                          case rest =>
                           clear HC32
                           try clear c3
                           try clear c19
                           try clear c37
                           try clear c37b0
                           try clear c37b1
                           try clear c38
                           try clear c38b0
                           try clear c38b1
                           try clear hx275_0
                           try clear hx275_1
                           try clear p275
                           try clear q275
                           obtain ⟨kq, x107_31, rfl, HA, HJ31, HO_5, BK262, HB⟩ := hcut
                           cases kq with
                           | zero => exact absurd HA.out (by simp [quorumlaw11_ViewScans.j5])
                           | succ kj31 =>
                            have H := HA.out
                            clear HA
                            simp only [quorumlaw11_ViewScans.j5] at H
                            as_aux_lemma =>
                             by_cases c47 : x107_31 = true
                             ·subst c47
                              rw [if_pos rfl] at H
                              obtain rfl := Option.some.inj H
                              go_wp2
                              go_ret
                              exact ⟨by first | rfl | (simp [errW_none, errW_some] <;> rfl) | (simp [*, errW_none, errW_some] <;> rfl), b_ HB⟩
                             ·replace c47 := Bool.eq_false_iff.mpr c47
                              subst c47
                              rw [if_neg (show ¬ (false = true) by decide)] at H
                              have H' := mk0 H
                              clear H
                              go_wp2
                              go_roundg kj31
                              case measure => have := HK1.out; have := HJ9.out; have := HK3.out; have := HJ14.out; have := HK5.out; have := HJ31.out; omega
                              case rel => exact ⟨(wrap64 (x7_5 + 1)), (by first | rfl | (simp; done) | (simp [*]; done)), H', ⟨by have := HK1.out; have := HJ9.out; have := HK3.out; have := HJ14.out; have := HK5.out; have := HJ31.out; omega⟩, ⟨by (with_reducible repeat (first | apply Ra_ | apply Rn_ | apply Rd_)); exact HO_5.out⟩, ⟨h_ BK262⟩, ⟨b_ HB⟩⟩
                         ·rw [if_neg c30] at H
                          exact absurd H (by simp)
                        ·rw [if_neg c29] at H
                         exact absurd H (by simp)
                       ·rw [if_neg c28] at H
                        exact absurd H (by simp)
                      ·rw [if_neg c27] at H
                       have c27b0 : decide (x7_5 < (t265.length : Int)) = false := decide_eq_false c27
                       clear c27
                       have H' := mk0 H
                       clear H
                       obtain ⟨Ao48, co48, eo48⟩ := Kd.R_slice HO_5.out
                       subst eo48
                       go_wp2
                       go_loopg [10] k5 (fun kq v10 w' => ∃ (x10_6 : Int), v10 = .int .i64 x10_6 ∧ Fc (quorumlaw11_ViewScans.l3 kq x3_1 x4_3 t265 x10_6 l0_0 l0_1 l0_2 l0_3 l0_4 l0_5 = some r) ∧ Fc (kq ≤ k5) ∧ Fc (Kd.R k82 82 w' w.heap.size (fun _ => True) (.slice Ao48 t265.length co48) t265) ∧ Fc (w'.heap[gb262]? = some (.cells #[(.slice A0_0 l0_0.length c0_0), (.slice (some ad264) l0_1.length c0_1), (.slice A0_2 l0_2.length c0_2), (.slice A0_3 l0_3.length c0_3), (.slice A0_4 l0_4.length c0_4), (.slice A0_5 l0_5.length c0_5)] 28 (0, 0))) ∧ Fc (Below w.heap.size w w'))
                       case atStart => exact ⟨(0), (by first | rfl | (simp; done) | (simp [*]; done)), H', ⟨Nat.le_refl _⟩, ⟨by (with_reducible repeat (first | apply Ra_ | apply Rn_ | apply Rd_)); exact HO_5.out⟩, ⟨h_ BK262⟩, ⟨b_ HB⟩⟩
                       case round =>
                        clear H'
                        try clear c3
                        try clear c19
                        try clear c27
                        try clear c27b0
                        try clear c28
                        try clear c29
                        try clear c30
                        try clear c37
                        try clear c37b0
                        try clear c37b1
                        try clear c38
                        try clear c38b0
                        try clear c38b1
                        try clear c47
                        try clear hx275_0
                        try clear hx275_1
                        try clear p275
                        try clear q275
                        obtain ⟨x10_6, rfl, HA, HK6, HO_5, BK262, HB⟩ := hrel
                        cases gk with
                        | zero => exact absurd HA.out (by simp [quorumlaw11_ViewScans.l3])
                        | succ k6 =>
                         have H := HA.out
                         clear HA
                         simp only [quorumlaw11_ViewScans.l3] at H
                         as_aux_lemma =>
                          have HC49 := mk0 H
                          clear H
                          go_upto_region 18 with (fail)
                          go_cut [116] (fun v116 wc => ∃ (kq : Nat) (x116_48 : Bool), v116 = .bool x116_48 ∧ Fc (quorumlaw11_ViewScans.j7 kq x3_1 x4_3 t265 x10_6 x116_48 l0_0 l0_1 l0_2 l0_3 l0_4 l0_5 = some r) ∧ Fc (kq ≤ k6) ∧ Fc (Kd.R k82 82 wc w.heap.size (fun _ => True) (.slice Ao48 t265.length co48) t265) ∧ Fc (wc.heap[gb262]? = some (.cells #[(.slice A0_0 l0_0.length c0_0), (.slice (some ad264) l0_1.length c0_1), (.slice A0_2 l0_2.length c0_2), (.slice A0_3 l0_3.length c0_3), (.slice A0_4 l0_4.length c0_4), (.slice A0_5 l0_5.length c0_5)] 28 (0, 0))) ∧ Fc (Below w.heap.size w wc))
                          case first =>
                           have H := HC49.out
                           clear HC49
                           by_cases c50 : x10_6 < (l0_3.length : Int)
                           ·rw [if_pos c50] at H
                            have c50b0 : decide (x10_6 < (l0_3.length : Int)) = true := decide_eq_true c50
                            clear c50
                            (first | rw [c50b0] | (simp only [i64_w, i32_w]; rw [c50b0]) | skip)
                            have H' := mk0 H
                            clear H
                            obtain ⟨hcz51_0, hcz51_1, hcz51_2, hcz51_3, hcz51_4, hcz51_5, hfz51_0, hfz51_1, hfz51_2, hfz51_3, hfz51_4, hfz51_5⟩ := c6_ BK262
                            go_wp2
                            go_meet
                            case rel => exact ⟨_, (decide (x10_6 < 12)), (by first | rfl | (simp; done) | (simp [*]; done)), H', ⟨by have := HK1.out; have := HJ9.out; have := HK3.out; have := HJ14.out; have := HK5.out; have := HK6.out; first | omega | exact Nat.le_refl _⟩, ⟨by (with_reducible repeat (first | apply Ra_ | apply Rn_ | apply Rd_)); exact HO_5.out⟩, ⟨h_ BK262⟩, ⟨b_ HB⟩⟩
                           ·rw [if_neg c50] at H
                            have c50b0 : decide (x10_6 < (l0_3.length : Int)) = false := decide_eq_false c50
                            clear c50
                            (first | rw [c50b0] | (simp only [i64_w, i32_w]; rw [c50b0]) | skip)
                            have H' := mk0 H
                            clear H
                            obtain ⟨hcz52_0, hcz52_1, hcz52_2, hcz52_3, hcz52_4, hcz52_5, hfz52_0, hfz52_1, hfz52_2, hfz52_3, hfz52_4, hfz52_5⟩ := c6_ BK262
                            go_wp2
                            go_meet
                            case rel => exact ⟨_, (false), (by first | rfl | (simp; done) | (simp [*]; done)), H', ⟨by have := HK1.out; have := HJ9.out; have := HK3.out; have := HJ14.out; have := HK5.out; have := HK6.out; first | omega | exact Nat.le_refl _⟩, ⟨by (with_reducible repeat (first | apply Ra_ | apply Rn_ | apply Rd_)); exact HO_5.out⟩, ⟨h_ BK262⟩, ⟨b_ HB⟩⟩
                          case rest =>
                           clear HC49
                           try clear c3
                           try clear c19
                           try clear c27
                           try clear c27b0
                           try clear c28
                           try clear c29
                           try clear c30
                           try clear c37
                           try clear c37b0
                           try clear c37b1
                           try clear c38
                           try clear c38b0
                           try clear c38b1
                           try clear c47
                           try clear c50
                           try clear c50b0
                           try clear hcz51_0
                           try clear hcz51_1
                           try clear hcz51_2
                           try clear hcz51_3
                           try clear hcz51_4
                           try clear hcz51_5
                           try clear hcz52_0
                           try clear hcz52_1
                           try clear hcz52_2
                           try clear hcz52_3
                           try clear hcz52_4
                           try clear hcz52_5
                           try clear hfz51_0
                           try clear hfz51_1
                           try clear hfz51_2
                           try clear hfz51_3
                           try clear hfz51_4
                           try clear hfz51_5
                           try clear hfz52_0
                           try clear hfz52_1
                           try clear hfz52_2
                           try clear hfz52_3
                           try clear hfz52_4
                           try clear hfz52_5
                           try clear hx275_0
                           try clear hx275_1
                           try clear p275
                           try clear q275
                           obtain ⟨kq, x116_48, rfl, HA, HJ48, HO_5, BK262, HB⟩ := hcut
                           cases kq with
                           | zero => exact absurd HA.out (by simp [quorumlaw11_ViewScans.j7])
                           | succ kj48 =>
                            have H := HA.out
                            clear HA
                            simp only [quorumlaw11_ViewScans.j7] at H
                            as_aux_lemma =>
                             by_cases c53 : x116_48 = true
                             ·subst c53
                              rw [if_pos rfl] at H
                              by_cases c54 : 0 ≤ x3_1
                              ·rw [if_pos c54] at H
                               have c54b0 : decide (0 ≤ x3_1) = true := decide_eq_true c54
                               clear c54
                               by_cases c55 : x3_1 < (l0_1.length : Int)
                               ·rw [if_pos c55] at H
                                have c55b0 : decide (x3_1 < (l0_1.length : Int)) = true := decide_eq_true c55
                                clear c55
                                by_cases c56 : 0 ≤ x10_6
                                ·rw [if_pos c56] at H
                                 have c56b0 : decide (0 ≤ x10_6) = true := decide_eq_true c56
                                 clear c56
                                 by_cases c57 : x10_6 < (l0_3.length : Int)
                                 ·rw [if_pos c57] at H
                                  have c57b0 : decide (x10_6 < (l0_3.length : Int)) = true := decide_eq_true c57
                                  clear c57
                                  replace H := Option.bind_eq_some_iff.mp H
                                  obtain ⟨⟨t280, t281⟩, A580, H⟩ := H
                                  try dsimp only at H
                                  have A58 := mk0 A580
                                  clear A580
                                  replace H := Option.bind_eq_some_iff.mp H
                                  obtain ⟨t282, A590, H⟩ := H
                                  try dsimp only at H
                                  have A59 := mk0 A590
                                  clear A590
                                  by_cases c60 : t282 = 0
                                  ·rw [if_pos c60] at H
                                   have c60b0 : (t282 == 0) = true := beq_iff_eq.mpr c60
                                   have c60b1 : (t282 != 0) = false := bne_eq_false_iff_eq.mpr c60
                                   clear c60
                                   have H' := mk0 H
                                   clear H
                                   try go_wp2
                                   replace HO_5 := mk0 (Rd_ HO_5.out)
                                   replace BK262 := mk0 (bD_ BK262.out)
                                   replace HB := mk0 (b1_ HB.out)
                                   have p278 : 0 ≤ (x3_1 : Int) := of_decide_eq_true (by first | (with_reducible assumption) | assumption)
                                   have q278 : x3_1 < (l0_1.length : Int) := of_decide_eq_true (by first | (with_reducible assumption) | assumption)
                                   obtain ⟨ad278, A278_0, c278_0, A278_1, c278_1, e278, hx278_0, hx278_1, hl278_0, hi278_0, hl278_1, hi278_1⟩ := at_T34 HR0_1.out x3_1 p278 q278
                                   have hw278_1 := hx278_1
                                   have hw278_0 := hx278_0
                                   obtain rfl : ad264 = ad278 := (by injection e278)
                                   replace hx278_0 := (bc_ HB hx278_0 :)
                                   replace hx278_1 := (bc_ HB hx278_1 :)
                                   have HR278_0 := mk0 hi278_0
                                   have HC278_0 := mk0 hl278_0
                                   clear hi278_0 hl278_0
                                   have HR278_1 := mk0 hi278_1
                                   have HC278_1 := mk0 hl278_1
                                   clear hi278_1 hl278_1
                                   replace p278 := eq_true p278
                                   replace q278 := eq_true q278
                                   have p279 : 0 ≤ (x10_6 : Int) := of_decide_eq_true (by first | (with_reducible assumption) | assumption)
                                   have q279 : x10_6 < (l0_3.length : Int) := of_decide_eq_true (by first | (with_reducible assumption) | assumption)
                                   obtain ⟨ad279, e279, hx279_0⟩ := Kd.at_string HR0_3.out x10_6 p279 q279
                                   have hw279_0 := hx279_0
                                   cases e279
                                   replace hx279_0 := (bc_ HB hx279_0 :)
                                   replace p279 := eq_true p279
                                   replace q279 := eq_true q279
                                   refine start_ (n := 19) (S := fun w' => w'.cell? ⟨gb262, 0, none⟩ = some (.slice A0_0 l0_0.length c0_0) ∧ w'.cell? ⟨gb262, 1, none⟩ = some (.slice (some ad264) l0_1.length c0_1) ∧ w'.cell? ⟨gb262, 2, none⟩ = some (.slice A0_2 l0_2.length c0_2) ∧ w'.cell? ⟨gb262, 3, none⟩ = some (.slice (some ad279) l0_3.length c0_3) ∧ w'.cell? ⟨gb262, 4, none⟩ = some (.slice A0_4 l0_4.length c0_4) ∧ w'.cell? ⟨gb262, 5, none⟩ = some (.slice A0_5 l0_5.length c0_5) ∧ w'.cell? (ad264.add ((x3_1).toNat * 2)) = some (.slice A278_0 ((rd_T34 l0_1 x3_1).f0).length c278_0) ∧ w'.cell? ⟨(ad264.add ((x3_1).toNat * 2)).block, (ad264.add ((x3_1).toNat * 2)).off + 1, none⟩ = some (.slice A278_1 ((rd_T34 l0_1 x3_1).f1).length c278_1) ∧ w'.cell? (ad279.add (x10_6).toNat) = some (.string (rdOf ByteArray.empty l0_3 x10_6))) (ds := []) (bt 19 0) (by kernel_rfl) rfl rfl ⟨bk_ BK262 0, bk_ BK262 1, bk_ BK262 2, bk_ BK262 3, bk_ BK262 4, bk_ BK262 5, ((bc_ HB hw278_0 :)), ((bc_ HB hw278_1 :)), ((bc_ HB hw279_0 :))⟩ (fun hHeld => ?_); refine with_tabW quorumlaw11_ViewScans.tab20 quorumlaw11_ViewScans.bits20 (fun HT_ HW_ => ?_)
                                   generalize wc.drew = w61 at HO_5 BK262 HB HR278_0 HR278_1 hx278_0 hx278_1 hx279_0 hHeld ⊢
                                   refine pq_ HT_.out 0 120 (bt 19 1) (h := ?_)
                                   refine pq_ HT_.out 2 122 (bt 19 5) (h := ?_)
                                   refine pq_ HT_.out 4 124 (bt 19 21) (h := ?_)
                                   refine pq_ HT_.out 7 127 (bt 19 149) (h := ?_)
                                   refine pq_ HT_.out 8 128 (bt 19 405) (h := ?_)
                                   refine pq_ HT_.out 10 130 (bt 19 1429) (h := ?_)
                                   refine tq9_ HT_.out HW_.out 1 121 (bt 19 1431) hHeld (h := ?_)
                                   refine tq9_ HT_.out HW_.out 3 123 (bt 19 1439) hHeld (h := ?_)
                                   refine pq_ HT_.out 5 125 (bt 19 1471) (h := ?_)
                                   refine tq9_ HT_.out HW_.out 6 126 (bt 19 1535) hHeld (h := ?_)
                                   refine tq9_ HT_.out HW_.out 9 129 (bt 19 2047) hHeld (h := ?_)
                                   refine pq_ HT_.out 11 131 (bt 19 4095) (h := ?_)
                                   refine tq9_ HT_.out HW_.out 12 132 (bt 19 8191) hHeld (h := ?_)
                                   refine one_ (i := 13) (N := some 133) (bt 19 16383) rfl rfl (one_of HT_.out (by kernel_rfl)) (by decide) (fun K hK => ?_)
                                   refine goes_ Try.func18 (by kernel_rfl) rfl #[.slice A0_0 l0_0.length c0_0, .agg #[.slice A278_0 ((rd_T34 l0_1 x3_1).f0).length c278_0, .slice A278_1 ((rd_T34 l0_1 x3_1).f1).length c278_1], .int .i64 x4_3, .string (rdOf ByteArray.empty l0_3 x10_6), .int .i64 4] (by rfl) rfl rfl (by (try simp only [List.map_toArray, List.map_cons, List.map_nil]); first | done | rfl | (simp only [List.length_drop, List.length_take]; rfl)) ?_
                                   with_reducible refine (view_Get.calls kj48 _ _ l0_0 _ _ ((rd_T34 l0_1 x3_1).f0) _ _ ((rd_T34 l0_1 x3_1).f1) x4_3 (rdOf ByteArray.empty l0_3 x10_6) 4 t280 t281 _ ?side1 ?side2 ?side3 ?side4 ?side5 ?side6 A58.out).mono ?_
                                   (case side1 => exact cb_ HR0_0 HB)
                                   (case side2 => exact HC0_0.out)
                                   (case side3 => exact cb_ HR278_0 HB)
                                   (case side4 => exact HC278_0.out)
                                   (case side5 => exact cb_ HR278_1 HB)
                                   (case side6 => exact HC278_1.out)
                                   rintro e w62 ⟨rfl, hb⟩
                                   refine ⟨_, rfl, ?_⟩
                                   replace HO_5 := mk0 (Kd.R_below (r_ HO_5) hb)
                                   replace BK262 := mk0 (u_ BK262 hb)
                                   replace HB := mk0 (bt_ (b_ HB) hb)
                                   (try clear hb)
                                   (try clear hb2)
                                   (try clear hk)
                                   (try clear hi)
                                   refine hK.out _ _ ⟨bk_ BK262 0, bk_ BK262 1, bk_ BK262 2, bk_ BK262 3, bk_ BK262 4, bk_ BK262 5, ((bc_ HB hw278_0 :)), ((bc_ HB hw278_1 :)), ((bc_ HB hw279_0 :))⟩ (fun hHeld => ?_)
                                   clear hK K
                                   refine norm_ (a' := ?_) ?_ ?_
                                   rotate_left
                                   ·show Act.put _ (some 133) _ = _
                                    simp only [z_]
                                    rfl
                                   refine pq_ HT_.out 14 119 (bt 19 32767) (h := ?_)
                                   refine pq_ HT_.out 15 134 (bt 19 65535) (h := ?_)
                                   refine pq_ HT_.out 16 135 (bt 19 131071) (h := ?_)
                                   refine pq_ HT_.out 17 11 (bt 19 262143) (h := ?_)
                                   refine pq_ HT_.out 18 12 (bt 19 524287) (h := ?_)
                                   refine done_ (done_of HT_.out (by kernel_rfl)) ?_
                                   try go_wp2_with (first | ((with_reducible refine gate_callee (f := 19) rfl ?_); refine gL_ (some 137) Try.func19 #[.int .i64 t281] (h := ?_); (with_reducible refine (quorumlaw11_num.calls t281 t282 _ A59.out).mono ?_); rintro e w' ⟨rfl, ⟨nd, rfl⟩⟩; refine ⟨_, rfl, ?_⟩))
                                   go_loopg [13, 14] kj48 (fun kq v13 v14 w' => ∃ (x13_8 : Bool) (x14_8 : Int), v13 = .bool x13_8 ∧ v14 = .int .i64 x14_8 ∧ Fc (quorumlaw11_ViewScans.l4 kq x3_1 x4_3 t265 x10_6 t280 x13_8 x14_8 l0_0 l0_1 l0_2 l0_3 l0_4 l0_5 = some r) ∧ Fc (kq ≤ kj48) ∧ Fc (Kd.R k82 82 w' w.heap.size (fun _ => True) (.slice Ao48 t265.length co48) t265) ∧ Fc (w'.heap[gb262]? = some (.cells #[(.slice A0_0 l0_0.length c0_0), (.slice (some ad264) l0_1.length c0_1), (.slice A0_2 l0_2.length c0_2), (.slice (some ad279) l0_3.length c0_3), (.slice A0_4 l0_4.length c0_4), (.slice A0_5 l0_5.length c0_5)] 28 (0, 0))) ∧ Fc (Below w.heap.size w w'))
                                   case atStart => exact ⟨(false), (0), (by first | rfl | (simp; done) | (simp [*]; done)), (by first | rfl | (simp; done) | (simp [*]; done)), H', ⟨Nat.le_refl _⟩, ⟨by (with_reducible repeat (first | apply Ra_ | apply Rn_ | apply Rd_)); exact HO_5.out⟩, ⟨h_ BK262⟩, ⟨b_ HB⟩⟩
                                   case round =>
                                    clear H'
                                    try clear c3
                                    try clear c19
                                    try clear c27
                                    try clear c27b0
                                    try clear c28
                                    try clear c29
                                    try clear c30
                                    try clear c37
                                    try clear c37b0
                                    try clear c37b1
                                    try clear c38
                                    try clear c38b0
                                    try clear c38b1
                                    try clear c47
                                    try clear c50
                                    try clear c50b0
                                    try clear c53
                                    try clear c54
                                    try clear c54b0
                                    try clear c55
                                    try clear c55b0
                                    try clear c56
                                    try clear c56b0
                                    try clear c57
                                    try clear c57b0
                                    try clear c60
                                    try clear c60b0
                                    try clear c60b1
                                    try clear hcz51_0
                                    try clear hcz51_1
                                    try clear hcz51_2
                                    try clear hcz51_3
                                    try clear hcz51_4
                                    try clear hcz51_5
                                    try clear hcz52_0
                                    try clear hcz52_1
                                    try clear hcz52_2
                                    try clear hcz52_3
                                    try clear hcz52_4
                                    try clear hcz52_5
                                    try clear hfz51_0
                                    try clear hfz51_1
                                    try clear hfz51_2
                                    try clear hfz51_3
                                    try clear hfz51_4
                                    try clear hfz51_5
                                    try clear hfz52_0
                                    try clear hfz52_1
                                    try clear hfz52_2
                                    try clear hfz52_3
                                    try clear hfz52_4
                                    try clear hfz52_5
                                    try clear hx275_0
                                    try clear hx275_1
                                    try clear hx278_0
                                    try clear hx278_1
                                    try clear hx279_0
                                    try clear p275
                                    try clear p278
                                    try clear p279
                                    try clear q275
                                    try clear q278
                                    try clear q279
                                    obtain ⟨x13_8, x14_8, rfl, rfl, HA, HK8, HO_5, BK262, HB⟩ := hrel
                                    cases gk with
                                    | zero => exact absurd HA.out (by simp [quorumlaw11_ViewScans.l4])
                                    | succ k8 =>
                                     have H := HA.out
                                     clear HA
                                     simp only [quorumlaw11_ViewScans.l4] at H
                                     as_aux_lemma =>
                                      by_cases c63 : x14_8 < (t265.length : Int)
                                      ·rw [if_pos c63] at H
                                       have c63b0 : decide (x14_8 < (t265.length : Int)) = true := decide_eq_true c63
                                       clear c63
                                       by_cases c64 : x13_8 = true
                                       ·subst c64
                                        rw [if_pos rfl] at H
                                        have H' := mk0 H
                                        clear H
                                        try go_wp2
                                        go_quiet (fail)
                                        generalize hq_ : World.drewN wr _ = w65
                                        replace HO_5 := mk0 (Kd.R_at hq_ HO_5.out)
                                        replace BK262 := mk0 (blk_at hq_ BK262.out)
                                        replace HB := mk0 (below_at hq_ HB.out)
                                        clear hq_
                                        try go_wp2
                                        go_roundg k8
                                        case measure => have := HK1.out; have := HJ9.out; have := HK3.out; have := HJ14.out; have := HK5.out; have := HK6.out; have := HJ48.out; have := HK8.out; omega
                                        case rel => exact ⟨(true), (wrap64 (x14_8 + 1)), (by first | rfl | (simp; done) | (simp [*]; done)), (by first | rfl | (simp; done) | (simp [*]; done)), H', ⟨by have := HK1.out; have := HJ9.out; have := HK3.out; have := HJ14.out; have := HK5.out; have := HK6.out; have := HJ48.out; have := HK8.out; omega⟩, ⟨by (with_reducible repeat (first | apply Ra_ | apply Rn_ | apply Rd_)); exact HO_5.out⟩, ⟨h_ BK262⟩, ⟨b_ HB⟩⟩
                                       ·replace c64 := Bool.eq_false_iff.mpr c64
                                        subst c64
                                        rw [if_neg (show ¬ (false = true) by decide)] at H
                                        by_cases c66 : 0 ≤ x14_8
                                        ·rw [if_pos c66] at H
                                         have c66b0 : decide (0 ≤ x14_8) = true := decide_eq_true c66
                                         clear c66
                                         by_cases c67 : 0 ≤ x10_6
                                         ·rw [if_pos c67] at H
                                          have c67b0 : decide (0 ≤ x10_6) = true := decide_eq_true c67
                                          clear c67
                                          by_cases c68 : x10_6 < (l0_3.length : Int)
                                          ·rw [if_pos c68] at H
                                           have c68b0 : decide (x10_6 < (l0_3.length : Int)) = true := decide_eq_true c68
                                           clear c68
                                           have H' := mk0 H
                                           clear H
                                           try go_wp2
                                           have p283 : 0 ≤ (x14_8 : Int) := of_decide_eq_true (by first | (with_reducible assumption) | assumption)
                                           have q283 : x14_8 < (t265.length : Int) := of_decide_eq_true (by first | (with_reducible assumption) | assumption)
                                           obtain ⟨ad283, e283, hx283_0, hx283_1⟩ := at_T82 (Kd.R_reads' HO_5.out).2.2 x14_8 p283 q283
                                           cases e283
                                           replace p283 := eq_true p283
                                           replace q283 := eq_true q283
                                           have p284 : 0 ≤ (x10_6 : Int) := of_decide_eq_true (by first | (with_reducible assumption) | assumption)
                                           have q284 : x10_6 < (l0_3.length : Int) := of_decide_eq_true (by first | (with_reducible assumption) | assumption)
                                           obtain ⟨ad284, e284, hx284_0⟩ := Kd.at_string HR0_3.out x10_6 p284 q284
                                           have hw284_0 := hx284_0
                                           obtain rfl : ad279 = ad284 := (by injection e284)
                                           replace hx284_0 := (bc_ HB hx284_0 :)
                                           replace p284 := eq_true p284
                                           replace q284 := eq_true q284
                                           have hs2_0 : wr.cell? ⟨gb262, 0, none⟩ = some (.slice A0_0 l0_0.length c0_0) := bk_ BK262 0
                                           have hs2_1 : wr.cell? ⟨gb262, 1, none⟩ = some (.slice (some ad264) l0_1.length c0_1) := bk_ BK262 1
                                           have hs2_2 : wr.cell? ⟨gb262, 2, none⟩ = some (.slice A0_2 l0_2.length c0_2) := bk_ BK262 2
                                           have hs2_3 : wr.cell? ⟨gb262, 3, none⟩ = some (.slice (some ad279) l0_3.length c0_3) := bk_ BK262 3
                                           have hs2_4 : wr.cell? ⟨gb262, 4, none⟩ = some (.slice A0_4 l0_4.length c0_4) := bk_ BK262 4
                                           have hs2_5 : wr.cell? ⟨gb262, 5, none⟩ = some (.slice A0_5 l0_5.length c0_5) := bk_ BK262 5
                                           have hs2_6 : wr.cell? (ad283.add ((x14_8).toNat * 2)) = some (.string ((rd_T82 t265 x14_8).f0)) := hx283_0
                                           have hs2_7 : wr.cell? ⟨(ad283.add ((x14_8).toNat * 2)).block, (ad283.add ((x14_8).toNat * 2)).off + 1, none⟩ = some (.string ((rd_T82 t265 x14_8).f1)) := hx283_1
                                           have hs2_8 : wr.cell? (ad279.add (x10_6).toNat) = some (.string (rdOf ByteArray.empty l0_3 x10_6)) := ((bc_ HB hw284_0 :))
                                           go_quiet (fail)
                                           clear hs2_0 hs2_1 hs2_2 hs2_3 hs2_4 hs2_5 hs2_6 hs2_7 hs2_8
                                           generalize hq_ : World.drewN wr _ = w69
                                           replace HO_5 := mk0 (Kd.R_at hq_ HO_5.out)
                                           replace BK262 := mk0 (blk_at hq_ BK262.out)
                                           replace HB := mk0 (below_at hq_ HB.out)
                                           try replace hx283_0 := cell_at hq_ hx283_0
                                           try replace hx283_1 := cell_at hq_ hx283_1
                                           try replace hx284_0 := cell_at hq_ hx284_0
                                           clear hq_
                                           try go_wp2
                                           go_roundg k8
                                           case measure => have := HK1.out; have := HJ9.out; have := HK3.out; have := HJ14.out; have := HK5.out; have := HK6.out; have := HJ48.out; have := HK8.out; omega
                                           case rel => exact ⟨(((((rd_T82 t265 x14_8).f0).toList) == ((rdOf ByteArray.empty l0_3 x10_6).toList) && ((((rd_T82 t265 x14_8).f1).toList) == t280.toList))), (wrap64 (x14_8 + 1)), (by first | rfl | (simp; done) | (simp [*]; done)), (by first | rfl | (simp; done) | (simp [*]; done)), H', ⟨by have := HK1.out; have := HJ9.out; have := HK3.out; have := HJ14.out; have := HK5.out; have := HK6.out; have := HJ48.out; have := HK8.out; omega⟩, ⟨by (with_reducible repeat (first | apply Ra_ | apply Rn_ | apply Rd_)); exact HO_5.out⟩, ⟨h_ BK262⟩, ⟨b_ HB⟩⟩
                                          ·rw [if_neg c68] at H
                                           exact absurd H (by simp)
                                         ·rw [if_neg c67] at H
                                          exact absurd H (by simp)
                                        ·rw [if_neg c66] at H
                                         exact absurd H (by simp)
                                      ·rw [if_neg c63] at H
                                       have c63b0 : decide (x14_8 < (t265.length : Int)) = false := decide_eq_false c63
                                       clear c63
                                       by_cases c70 : x13_8 = true
                                       ·subst c70
                                        rw [if_pos rfl] at H
                                        have H' := mk0 H
                                        clear H
                                        go_wp2
                                        go_roundg k8
                                        case measure => have := HK1.out; have := HJ9.out; have := HK3.out; have := HJ14.out; have := HK5.out; have := HK6.out; have := HJ48.out; have := HK8.out; omega
                                        case rel => exact ⟨(wrap64 (x10_6 + 1)), (by first | rfl | (simp; done) | (simp [*]; done)), H', ⟨by have := HK1.out; have := HJ9.out; have := HK3.out; have := HJ14.out; have := HK5.out; have := HK6.out; have := HJ48.out; have := HK8.out; omega⟩, ⟨by (with_reducible repeat (first | apply Ra_ | apply Rn_ | apply Rd_)); exact HO_5.out⟩, ⟨h_ BK262⟩, ⟨b_ HB⟩⟩
                                       ·replace c70 := Bool.eq_false_iff.mpr c70
                                        subst c70
                                        rw [if_neg (show ¬ (false = true) by decide)] at H
                                        obtain rfl := Option.some.inj H
                                        go_wp2
                                        go_ret
                                        exact ⟨by first | rfl | (simp [errW_none, errW_some] <;> rfl) | (simp [*, errW_none, errW_some] <;> rfl), b_ HB⟩
                                  ·rw [if_neg c60] at H
                                   have c60b0 : (t282 == 0) = false := beq_eq_false_iff_ne.mpr c60
                                   have c60b1 : (t282 != 0) = true := bne_iff_ne.mpr c60
                                   have H' := mk0 H
                                   clear H
                                   try go_wp2
                                   replace HO_5 := mk0 (Rd_ HO_5.out)
                                   replace BK262 := mk0 (bD_ BK262.out)
                                   replace HB := mk0 (b1_ HB.out)
                                   have p278 : 0 ≤ (x3_1 : Int) := of_decide_eq_true (by first | (with_reducible assumption) | assumption)
                                   have q278 : x3_1 < (l0_1.length : Int) := of_decide_eq_true (by first | (with_reducible assumption) | assumption)
                                   obtain ⟨ad278, A278_0, c278_0, A278_1, c278_1, e278, hx278_0, hx278_1, hl278_0, hi278_0, hl278_1, hi278_1⟩ := at_T34 HR0_1.out x3_1 p278 q278
                                   have hw278_1 := hx278_1
                                   have hw278_0 := hx278_0
                                   obtain rfl : ad264 = ad278 := (by injection e278)
                                   replace hx278_0 := (bc_ HB hx278_0 :)
                                   replace hx278_1 := (bc_ HB hx278_1 :)
                                   have HR278_0 := mk0 hi278_0
                                   have HC278_0 := mk0 hl278_0
                                   clear hi278_0 hl278_0
                                   have HR278_1 := mk0 hi278_1
                                   have HC278_1 := mk0 hl278_1
                                   clear hi278_1 hl278_1
                                   replace p278 := eq_true p278
                                   replace q278 := eq_true q278
                                   have p279 : 0 ≤ (x10_6 : Int) := of_decide_eq_true (by first | (with_reducible assumption) | assumption)
                                   have q279 : x10_6 < (l0_3.length : Int) := of_decide_eq_true (by first | (with_reducible assumption) | assumption)
                                   obtain ⟨ad279, e279, hx279_0⟩ := Kd.at_string HR0_3.out x10_6 p279 q279
                                   have hw279_0 := hx279_0
                                   cases e279
                                   replace hx279_0 := (bc_ HB hx279_0 :)
                                   replace p279 := eq_true p279
                                   replace q279 := eq_true q279
                                   refine start_ (n := 19) (S := fun w' => w'.cell? ⟨gb262, 0, none⟩ = some (.slice A0_0 l0_0.length c0_0) ∧ w'.cell? ⟨gb262, 1, none⟩ = some (.slice (some ad264) l0_1.length c0_1) ∧ w'.cell? ⟨gb262, 2, none⟩ = some (.slice A0_2 l0_2.length c0_2) ∧ w'.cell? ⟨gb262, 3, none⟩ = some (.slice (some ad279) l0_3.length c0_3) ∧ w'.cell? ⟨gb262, 4, none⟩ = some (.slice A0_4 l0_4.length c0_4) ∧ w'.cell? ⟨gb262, 5, none⟩ = some (.slice A0_5 l0_5.length c0_5) ∧ w'.cell? (ad264.add ((x3_1).toNat * 2)) = some (.slice A278_0 ((rd_T34 l0_1 x3_1).f0).length c278_0) ∧ w'.cell? ⟨(ad264.add ((x3_1).toNat * 2)).block, (ad264.add ((x3_1).toNat * 2)).off + 1, none⟩ = some (.slice A278_1 ((rd_T34 l0_1 x3_1).f1).length c278_1) ∧ w'.cell? (ad279.add (x10_6).toNat) = some (.string (rdOf ByteArray.empty l0_3 x10_6))) (ds := []) (bt 19 0) (by kernel_rfl) rfl rfl ⟨bk_ BK262 0, bk_ BK262 1, bk_ BK262 2, bk_ BK262 3, bk_ BK262 4, bk_ BK262 5, ((bc_ HB hw278_0 :)), ((bc_ HB hw278_1 :)), ((bc_ HB hw279_0 :))⟩ (fun hHeld => ?_); refine with_tabW quorumlaw11_ViewScans.tab20 quorumlaw11_ViewScans.bits20 (fun HT_ HW_ => ?_)
                                   generalize wc.drew = w71 at HO_5 BK262 HB HR278_0 HR278_1 hx278_0 hx278_1 hx279_0 hHeld ⊢
                                   refine pq_ HT_.out 0 120 (bt 19 1) (h := ?_)
                                   refine pq_ HT_.out 2 122 (bt 19 5) (h := ?_)
                                   refine pq_ HT_.out 4 124 (bt 19 21) (h := ?_)
                                   refine pq_ HT_.out 7 127 (bt 19 149) (h := ?_)
                                   refine pq_ HT_.out 8 128 (bt 19 405) (h := ?_)
                                   refine pq_ HT_.out 10 130 (bt 19 1429) (h := ?_)
                                   refine tq9_ HT_.out HW_.out 1 121 (bt 19 1431) hHeld (h := ?_)
                                   refine tq9_ HT_.out HW_.out 3 123 (bt 19 1439) hHeld (h := ?_)
                                   refine pq_ HT_.out 5 125 (bt 19 1471) (h := ?_)
                                   refine tq9_ HT_.out HW_.out 6 126 (bt 19 1535) hHeld (h := ?_)
                                   refine tq9_ HT_.out HW_.out 9 129 (bt 19 2047) hHeld (h := ?_)
                                   refine pq_ HT_.out 11 131 (bt 19 4095) (h := ?_)
                                   refine tq9_ HT_.out HW_.out 12 132 (bt 19 8191) hHeld (h := ?_)
                                   refine one_ (i := 13) (N := some 133) (bt 19 16383) rfl rfl (one_of HT_.out (by kernel_rfl)) (by decide) (fun K hK => ?_)
                                   refine goes_ Try.func18 (by kernel_rfl) rfl #[.slice A0_0 l0_0.length c0_0, .agg #[.slice A278_0 ((rd_T34 l0_1 x3_1).f0).length c278_0, .slice A278_1 ((rd_T34 l0_1 x3_1).f1).length c278_1], .int .i64 x4_3, .string (rdOf ByteArray.empty l0_3 x10_6), .int .i64 4] (by rfl) rfl rfl (by (try simp only [List.map_toArray, List.map_cons, List.map_nil]); first | done | rfl | (simp only [List.length_drop, List.length_take]; rfl)) ?_
                                   with_reducible refine (view_Get.calls kj48 _ _ l0_0 _ _ ((rd_T34 l0_1 x3_1).f0) _ _ ((rd_T34 l0_1 x3_1).f1) x4_3 (rdOf ByteArray.empty l0_3 x10_6) 4 t280 t281 _ ?side1 ?side2 ?side3 ?side4 ?side5 ?side6 A58.out).mono ?_
                                   (case side1 => exact cb_ HR0_0 HB)
                                   (case side2 => exact HC0_0.out)
                                   (case side3 => exact cb_ HR278_0 HB)
                                   (case side4 => exact HC278_0.out)
                                   (case side5 => exact cb_ HR278_1 HB)
                                   (case side6 => exact HC278_1.out)
                                   rintro e w72 ⟨rfl, hb⟩
                                   refine ⟨_, rfl, ?_⟩
                                   replace HO_5 := mk0 (Kd.R_below (r_ HO_5) hb)
                                   replace BK262 := mk0 (u_ BK262 hb)
                                   replace HB := mk0 (bt_ (b_ HB) hb)
                                   (try clear hb)
                                   (try clear hb2)
                                   (try clear hk)
                                   (try clear hi)
                                   refine hK.out _ _ ⟨bk_ BK262 0, bk_ BK262 1, bk_ BK262 2, bk_ BK262 3, bk_ BK262 4, bk_ BK262 5, ((bc_ HB hw278_0 :)), ((bc_ HB hw278_1 :)), ((bc_ HB hw279_0 :))⟩ (fun hHeld => ?_)
                                   clear hK K
                                   refine norm_ (a' := ?_) ?_ ?_
                                   rotate_left
                                   ·show Act.put _ (some 133) _ = _
                                    simp only [z_]
                                    rfl
                                   refine pq_ HT_.out 14 119 (bt 19 32767) (h := ?_)
                                   refine pq_ HT_.out 15 134 (bt 19 65535) (h := ?_)
                                   refine pq_ HT_.out 16 135 (bt 19 131071) (h := ?_)
                                   refine pq_ HT_.out 17 11 (bt 19 262143) (h := ?_)
                                   refine pq_ HT_.out 18 12 (bt 19 524287) (h := ?_)
                                   refine done_ (done_of HT_.out (by kernel_rfl)) ?_
                                   try go_wp2_with (first | ((with_reducible refine gate_callee (f := 19) rfl ?_); refine gL_ (some 137) Try.func19 #[.int .i64 t281] (h := ?_); (with_reducible refine (quorumlaw11_num.calls t281 t282 _ A59.out).mono ?_); rintro e w' ⟨rfl, ⟨nd, rfl⟩⟩; refine ⟨_, rfl, ?_⟩))
                                   go_roundg kj48
                                   case measure => have := HK1.out; have := HJ9.out; have := HK3.out; have := HJ14.out; have := HK5.out; have := HK6.out; have := HJ48.out; omega
                                   case rel => exact ⟨(wrap64 (x10_6 + 1)), (by first | rfl | (simp; done) | (simp [*]; done)), H', ⟨by have := HK1.out; have := HJ9.out; have := HK3.out; have := HJ14.out; have := HK5.out; have := HK6.out; have := HJ48.out; omega⟩, ⟨by (with_reducible repeat (first | apply Ra_ | apply Rn_ | apply Rd_)); exact HO_5.out⟩, ⟨h_ BK262⟩, ⟨b_ HB⟩⟩
                                 ·rw [if_neg c57] at H
                                  exact absurd H (by simp)
                                ·rw [if_neg c56] at H
                                 exact absurd H (by simp)
                               ·rw [if_neg c55] at H
                                exact absurd H (by simp)
                              ·rw [if_neg c54] at H
                               exact absurd H (by simp)
                             ·replace c53 := Bool.eq_false_iff.mpr c53
                              subst c53
                              rw [if_neg (show ¬ (false = true) by decide)] at H
                              have H' := mk0 H
                              clear H
                              go_wp2
                              go_roundg kj48
                              case measure => have := HK1.out; have := HJ9.out; have := HK3.out; have := HJ14.out; have := HK5.out; have := HK6.out; have := HJ48.out; omega
                              case rel => exact ⟨(wrap64 (x4_3 + 1)), (by first | rfl | (simp; done) | (simp [*]; done)), H', ⟨by have := HK1.out; have := HJ9.out; have := HK3.out; have := HJ14.out; have := HK5.out; have := HK6.out; have := HJ48.out; omega⟩, ⟨h_ BK262⟩, ⟨b_ HB⟩⟩
                  ·rw [if_neg c24] at H
                   have c24b0 : (t269 == 0) = false := beq_eq_false_iff_ne.mpr c24
                   have c24b1 : (t269 != 0) = true := bne_iff_ne.mpr c24
                   have H' := mk0 H
                   clear H
                   try go_wp2
                   replace BK262 := mk0 (bD_ BK262.out)
                   replace HB := mk0 (b1_ HB.out)
                   have p264 : 0 ≤ (x3_1 : Int) := of_decide_eq_true (by first | (with_reducible assumption) | assumption)
                   have q264 : x3_1 < (l0_1.length : Int) := of_decide_eq_true (by first | (with_reducible assumption) | assumption)
                   obtain ⟨ad264, A264_0, c264_0, A264_1, c264_1, e264, hx264_0, hx264_1, hl264_0, hi264_0, hl264_1, hi264_1⟩ := at_T34 HR0_1.out x3_1 p264 q264
                   have hw264_1 := hx264_1
                   have hw264_0 := hx264_0
                   cases e264
                   replace hx264_0 := (bc_ HB hx264_0 :)
                   replace hx264_1 := (bc_ HB hx264_1 :)
                   have HR264_0 := mk0 hi264_0
                   have HC264_0 := mk0 hl264_0
                   clear hi264_0 hl264_0
                   have HR264_1 := mk0 hi264_1
                   have HC264_1 := mk0 hl264_1
                   clear hi264_1 hl264_1
                   replace p264 := eq_true p264
                   replace q264 := eq_true q264
                   refine start_ (n := 15) (S := fun w' => w'.cell? ⟨gb262, 0, none⟩ = some (.slice A0_0 l0_0.length c0_0) ∧ w'.cell? ⟨gb262, 1, none⟩ = some (.slice (some ad264) l0_1.length c0_1) ∧ w'.cell? ⟨gb262, 2, none⟩ = some (.slice A0_2 l0_2.length c0_2) ∧ w'.cell? ⟨gb262, 3, none⟩ = some (.slice A0_3 l0_3.length c0_3) ∧ w'.cell? ⟨gb262, 4, none⟩ = some (.slice A0_4 l0_4.length c0_4) ∧ w'.cell? ⟨gb262, 5, none⟩ = some (.slice A0_5 l0_5.length c0_5) ∧ w'.cell? (ad264.add ((x3_1).toNat * 2)) = some (.slice A264_0 ((rd_T34 l0_1 x3_1).f0).length c264_0) ∧ w'.cell? ⟨(ad264.add ((x3_1).toNat * 2)).block, (ad264.add ((x3_1).toNat * 2)).off + 1, none⟩ = some (.slice A264_1 ((rd_T34 l0_1 x3_1).f1).length c264_1)) (ds := []) (bt 15 0) (by kernel_rfl) rfl rfl ⟨bk_ BK262 0, bk_ BK262 1, bk_ BK262 2, bk_ BK262 3, bk_ BK262 4, bk_ BK262 5, ((bc_ HB hw264_0 :)), ((bc_ HB hw264_1 :))⟩ (fun hHeld => ?_); refine with_tabW quorumlaw11_ViewScans.tab9 quorumlaw11_ViewScans.bits9 (fun HT_ HW_ => ?_)
                   generalize wc.drew = w73 at BK262 HB HR264_0 HR264_1 hx264_0 hx264_1 hHeld ⊢
                   refine pq_ HT_.out 0 40 (bt 15 1) (h := ?_)
                   refine pq_ HT_.out 2 42 (bt 15 5) (h := ?_)
                   refine pq_ HT_.out 4 44 (bt 15 21) (h := ?_)
                   refine pq_ HT_.out 7 47 (bt 15 149) (h := ?_)
                   refine pq_ HT_.out 8 48 (bt 15 405) (h := ?_)
                   refine tq8_ HT_.out HW_.out 1 41 (bt 15 407) hHeld (h := ?_)
                   refine tq8_ HT_.out HW_.out 3 43 (bt 15 415) hHeld (h := ?_)
                   refine pq_ HT_.out 5 45 (bt 15 447) (h := ?_)
                   refine tq8_ HT_.out HW_.out 6 46 (bt 15 511) hHeld (h := ?_)
                   refine one_ (i := 9) (N := some 49) (bt 15 1023) rfl rfl (one_of HT_.out (by kernel_rfl)) (by decide) (fun K hK => ?_)
                   refine goes_ Try.func33 (by kernel_rfl) rfl #[.slice A0_0 l0_0.length c0_0, .agg #[.slice A264_0 ((rd_T34 l0_1 x3_1).f0).length c264_0, .slice A264_1 ((rd_T34 l0_1 x3_1).f1).length c264_1], .int .i64 x4_3, .agg #[.string (⟨#[]⟩ : ByteArray), .string (⟨#[]⟩ : ByteArray), .bool true], .int .i64 4, .int .i64 1073741824, .bool false] (by rfl) rfl rfl (by (try simp only [List.map_toArray, List.map_cons, List.map_nil]); first | done | rfl | (simp only [List.length_drop, List.length_take]; rfl)) ?_
                   with_reducible refine (view_Scan.calls kj14 _ _ l0_0 _ _ ((rd_T34 l0_1 x3_1).f0) _ _ ((rd_T34 l0_1 x3_1).f1) x4_3 (⟨#[]⟩ : ByteArray) (⟨#[]⟩ : ByteArray) true 4 1073741824 false t265 t268 _ ?side1 ?side2 ?side3 ?side4 ?side5 ?side6 A22.out).mono ?_
                   (case side1 => exact cb_ HR0_0 HB)
                   (case side2 => exact HC0_0.out)
                   (case side3 => exact cb_ HR264_0 HB)
                   (case side4 => exact HC264_0.out)
                   (case side5 => exact cb_ HR264_1 HB)
                   (case side6 => exact HC264_1.out)
                   rintro e w74 ⟨v266, rfl, ho0, hb⟩
                   refine ⟨_, rfl, ?_⟩
                   have n0_ := mk0 (Kd.R_lower ho0 (bz_ (b_ HB)))
                   replace BK262 := mk0 (u_ BK262 hb)
                   replace HB := mk0 (bt_ (b_ HB) hb)
                   have HO267 := n0_
                   clear n0_
                   (try clear hb)
                   (try clear hb2)
                   (try clear hk)
                   (try clear hi)
                   (try clear ho0)
                   refine hK.out _ _ ⟨bk_ BK262 0, bk_ BK262 1, bk_ BK262 2, bk_ BK262 3, bk_ BK262 4, bk_ BK262 5, ((bc_ HB hw264_0 :)), ((bc_ HB hw264_1 :))⟩ (fun hHeld => ?_)
                   clear hK K
                   refine norm_ (a' := ?_) ?_ ?_
                   rotate_left
                   ·show Act.put _ (some 49) _ = _
                    simp only [z_]
                    rfl
                   refine pq_ HT_.out 10 39 (bt 15 2047) (h := ?_)
                   refine pq_ HT_.out 11 50 (bt 15 4095) (h := ?_)
                   refine pq_ HT_.out 12 51 (bt 15 8191) (h := ?_)
                   refine pq_ HT_.out 13 5 (bt 15 16383) (h := ?_)
                   refine pq_ HT_.out 14 6 (bt 15 32767) (h := ?_)
                   refine done_ (done_of HT_.out (by kernel_rfl)) ?_
                   try go_wp2_with (first | ((with_reducible refine gate_callee (f := 19) rfl ?_); refine gL_ (some 53) Try.func19 #[.int .i64 t268] (h := ?_); (with_reducible refine (quorumlaw11_num.calls t268 t269 _ A23.out).mono ?_); rintro e w' ⟨rfl, ⟨nd, rfl⟩⟩; refine ⟨_, rfl, ?_⟩))
                   go_roundg kj14
                   case measure => have := HK1.out; have := HJ9.out; have := HK3.out; have := HJ14.out; omega
                   case rel => exact ⟨(wrap64 (x4_3 + 1)), (by first | rfl | (simp; done) | (simp [*]; done)), H', ⟨by have := HK1.out; have := HJ9.out; have := HK3.out; have := HJ14.out; omega⟩, ⟨h_ BK262⟩, ⟨b_ HB⟩⟩
                 ·rw [if_neg c21] at H
                  exact absurd H (by simp)
                ·rw [if_neg c20] at H
                 exact absurd H (by simp)
               ·replace c19 := Bool.eq_false_iff.mpr c19
                subst c19
                rw [if_neg (show ¬ (false = true) by decide)] at H
                have H' := mk0 H
                clear H
                go_wp2
                go_roundg kj14
                case measure => have := HK1.out; have := HJ9.out; have := HK3.out; have := HJ14.out; omega
                case rel => exact ⟨(wrap64 (x3_1 + 1)), (by first | rfl | (simp; done) | (simp [*]; done)), H', ⟨by have := HK1.out; have := HJ9.out; have := HK3.out; have := HJ14.out; omega⟩, ⟨h_ BK262⟩, ⟨b_ HB⟩⟩
        ·replace c14 := Bool.eq_false_iff.mpr c14
         subst c14
         rw [if_neg (show ¬ (false = true) by decide)] at H
         replace H := Option.bind_eq_some_iff.mp H
         obtain ⟨t285, A750, H⟩ := H
         try dsimp only at H
         have A75 := mk0 A750
         clear A750
         obtain rfl := Option.some.inj H
         go_wp2_with (first | ((with_reducible refine gate_callee (f := 21) rfl ?_); refine gL_ (some 162) Try.func21 #[] (h := ?_); (with_reducible refine (quorumlaw11_wakes.calls kj9  t285 _ A75.out).mono ?_); rintro e w76 ⟨rfl, hb⟩; refine ⟨_, rfl, ?_⟩; replace BK262 := mk0 (u_ BK262 hb); replace HB := mk0 (bt_ (b_ HB) hb); (try clear hb)))
         go_ret
         exact ⟨by first | rfl | (simp [errW_none, errW_some] <;> rfl) | (simp [*, errW_none, errW_some] <;> rfl), b_ HB⟩

end Go.Proofs.Ytbaecdcfefmcgaa.PVrs
